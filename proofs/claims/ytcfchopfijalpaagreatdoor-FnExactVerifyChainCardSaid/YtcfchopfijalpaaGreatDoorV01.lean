/- Plain lemmas -/
import Derived.WalkKit
import Derived.WalkSpells
import Derived.WalkLawsBesides
import Derived.BigQuiet
import Derived.Deep.QuietTactic
import Derived.Deep.RegionWith
import Derived.Deep.RegionHeld3
import Derived.Deep.AppendLies
import Derived.Deep.Draws
import Derived.Laws.OwnMore
import Derived.Laws.BitsAllLaws
import Derived.Laws.BitsLemmas
import Derived.Maps.AppendAt
import Derived.Test.YtcfchopfijalpaaGreatDoorRows
import Derived.ProofKit
import Derived.Deep.Slices
import Derived.Deep.Fields
import Derived.ChangeSame
import Derived.ChangeArms
import Derived.Lib.SmallJoins
import Derived.OpenShut
import Derived.ShutString
import Derived.ChangeOld
import Derived.OrdersHeld
import Derived.Lib.TrailingZeros
import Derived.Shelf.Spec.TrailingZeros
import Derived.Lib.LaidTab
import Derived.LaidMore
import Derived.Stop.Joined
import Derived.Stop.LaidErr
import Derived.Maps.OwnSet
import Derived.Maps.OwnOps
set_option maxHeartbeats 1000000
set_option maxRecDepth 100000
namespace Go.Proofs.YtcfchopfijalpaaGreatDoor
open Go Go.RowKit
open Bool renaming and_eq_true->eG
open List renaming eq_nil_of_length_eq_zero->eK,getElem?_append_left->eI,getElem?_append_right->eM,getElem?_eq_getElem->dC,getElem?_eq_none->eP,getElem?_map->eL,getElem?_range->gB,getElem?_toArray->fP,length_drop->iE,length_take->fH,range->fE,range_succ->iB,set_append_right->fL,take_add_one->eH,take_append_drop->iN,take_of_length_le->eE
open Nat renaming add_assoc->fV,le_trans->eJ,lt_of_le_of_lt->j5,lt_of_lt_of_le->eU,lt_or_eq_of_le->e6,lt_or_ge->fK,sub_self->fO,zero_le->eD
open Option renaming map_eq_some_iff->hE
instance cV011:Coe Int Value:=⟨fun x=>.int .i64 x⟩
instance cV012:Coe Nat Value:=⟨fun x=>.int .i64 (x:Int)⟩
instance cV013:Coe Unit Value:=⟨fun _=>.slice none 0 0⟩
instance cV014:Coe ByteArray Value:=⟨fun x=>.string x⟩
instance cV015:Coe Nat Addr:=⟨fun x=>⟨x,0,none⟩⟩
theorem oM {P:Prop}(h:P:=by omega):P:=h
theorem dM {P:Prop}(h:P:=by decide):P:=h
theorem sM {P:Prop}(h:P:=by simp):P:=h
theorem gM {P:Prop}(h:P:=by go_num):P:=h
theorem aM {P:Prop}(h:P:=by assumption):P:=h
theorem kM {P:Prop}(h:P:=by kernel_rfl):P:=h
theorem lM {P:Prop}(h:P:=by unfold maxLen;omega):P:=h
theorem tM {P:Prop}(h:P:=by unfold Sm;omega):P:=h
theorem oH {A P:Prop}(a:A)(h:A->P:=by intro _;omega):P:=h a
theorem mQ {v:Ending}{R:World->Prop}{Q:Ending->World->Prop}(k:∀ w,R w->Q v w):∀ e w,e=v∧R w->Q e w:=fun _ w h=>h.1 ▸ k w h.2
variable {A A' B:Option Addr} {S T:Nat->Prop} {W a w w':World} {b b0 base base' c c' cap d fuel g hi hi' i j k lo lo' m n n' o x:Nat} {cs rest rows xs:List Value} {ds:Array Value} {e q t:TypeId} {held:Bool} {left:Int} {ls:List (List Int)} {p:Addr} {u v:Value}
theorem za {p:Prop}(h:p):Hid p:=h
structure Bx (p:Prop):Prop where
 out:p
theorem pT {A B:Prop}(h:B) (k:Bx B->A:=by
 intro h0
 try simp only [Act.put,List.setIfInBounds_toArray,List.set_cons_zero,List.set_cons_succ]
 exact h0.out):A:=k ⟨h⟩
theorem zfD (a:Addr) (n:Nat):(a.add n).block=a.block:=by unfold Addr.add;split<;>rfl
theorem addr_add (a:Addr) (i j:Nat):(a.add i).add j=a.add (i+j):=by
 unfold Addr.add
 by_cases hi:i=0<;>by_cases hj:j=0<;>simp [hi,hj,fV]
theorem addr_zero (a:Addr):a.add 0=a:=by simp [Addr.add]
theorem zaI (g o n:Nat):(⟨g,o,none⟩:Addr).add n=⟨g,o+n,none⟩:=by unfold Addr.add;split<;>simp_all
structure Frm (S:Nat->Prop) (w w':World):Prop where
 os:w'.os=w.os
 tape:w'.tape=w.tape
 output:w'.output=w.output
 size:w.heap.size<=w'.heap.size
 block:∀ k,k<w.heap.size->¬ S k->w'.heap[k]?=w.heap[k]?
def Ext (w w':World):Prop:=Frm (fun _=>False) w w'
theorem Ext.refl (w:World):Ext w w:=⟨rfl,rfl,rfl,Nat.le_refl _,fun _ _ _=>rfl⟩
theorem Ext.trans {b c:World}(h:Ext a b) (k:Ext b c):Ext a c:=
 ⟨k.os.trans h.os,k.tape.trans h.tape,k.output.trans h.output,eJ h.size k.size,fun i hi hn=>(k.block i (eU hi h.size) hn).trans (h.block i hi hn)⟩
theorem Ext.drew (h:Ext a w):Ext a w.drew:=⟨h.os,h.tape,h.output,h.size,h.block⟩
theorem Ext.drewN (h:Ext a w) (n:Nat):Ext a (w.drewN n):=⟨h.os,h.tape,h.output,h.size,h.block⟩
theorem Ext.alloc (h:Ext a w) (o:Obj):Ext a (w.alloc o):=
 h.trans ⟨rfl,rfl,rfl,sM,fun k hk _=>Below.heap_alloc _ _ _ hk⟩
theorem Ext.setCell (h:Ext a w) (hp:a.heap.size<=p.block) (u:Value):Ext a (w.setCell p u):=
 ⟨h.os,h.tape,h.output,by simpa [World.setCell] using h.size,fun k hk hn=>(Below.heap_setCell _ _ _ _ oM).trans (h.block k hk hn)⟩
theorem Ext.grown {row:Option Nat}(h:Ext a w)(hg:w.grownBy w' row)(hr:∀ k,row=some k->a.heap.size<=k):Ext a w':=
 ⟨hg.os.trans h.os,hg.tape.trans h.tape,hg.output.trans h.output,eJ h.size hg.size,
  fun k hk hn=>(hg.block k (eU hk h.size) (fun e=>by have:=hr k e.symm;omega)).trans (h.block k hk hn)⟩
theorem Ext.heap (h:Ext w w') (hk:k<w.heap.size):w'.heap[k]?=w.heap[k]?:=h.block k hk id
theorem Ext.cell (h:Ext w w') (hp:p.block<w.heap.size):w'.cell? p=w.cell? p:=World.cell?_of_block (w:=w) (h.heap hp)
theorem Ext.aa (h:Ext w w')  (hv:w.cell? p=some v):w'.cell? p=some v:=
 (h.cell (World.block_lt_of_cell? w p hv)).trans hv
def Blk (w:World) (g:Nat) (t:TypeId) (cs:Array Value):Prop:=w.heap[g]?=some (.cells cs t (0,0))
section
variable {w w':World} {g:Nat} {t:TypeId} {cs:Array Value}
theorem Blk.lt (h:Blk w g t cs):g<w.heap.size:=by
 rcases fK g w.heap.size with b|a
 ·exact b
 ·unfold Blk at h;rw [Array.getElem?_eq_none a] at h;cases h
theorem Blk.cell (h:Blk w g t cs) (i:Nat):w.cell? ⟨g,i,none⟩=cs[i]?:=cell_of_row w g i cs t (0,0) h
theorem Blk.frozen (h:Blk w g t cs) (i:Nat):w.frozen? ⟨g,i,none⟩=false:=by
 unfold Blk at h;simp [World.frozen?,h]
theorem Blk.new (w:World) (t:TypeId) (cs:Array Value):Blk (w.alloc (.cells cs t)) w.heap.size t cs:=heap_alloc_new w _
theorem Ext.eq_ {a b:World}(h:a=b):Ext a b:=h ▸ Ext.refl a
theorem Ext.bl_ {V W:World}{c:Array Value}{t:TypeId}(h:V.alloc (.cells c t)=W):Blk W V.heap.size t c:=h ▸ Blk.new V t c
theorem Ext.al_ {V W:World}{o:Obj}(h:V.alloc o=W):Ext V W:=h ▸ (Ext.refl V).alloc o
theorem Blk.ext (h:Blk w g t cs)(hb:Ext w w'):Blk w' g t cs:=(hb.heap h.lt).trans h
theorem Ext.x1_ {w W:World}{c:Array Value}{t:TypeId}(h:w.alloc (.cells c t)=W):Ext w W∧Blk W w.heap.size t c:=⟨Ext.al_ h,Ext.bl_ h⟩
theorem Ext.x2_ {w W:World}{c d:Array Value}{t u:TypeId}(h:(w.alloc (.cells c t)).alloc (.cells d u)=W):Ext w W∧Blk W w.heap.size t c∧Blk W (w.heap.size+1) u d:=by
 have a:=Ext.x1_ (w:=w) (c:=c) (t:=t) rfl;have b:=Ext.x1_ h;rw [World.size_alloc] at b;exact⟨a.1.trans b.1,Blk.ext a.2 b.1,b.2⟩
theorem Ext.x3_ {w W:World}{c d e:Array Value}{t u v:TypeId}(h:((w.alloc (.cells c t)).alloc (.cells d u)).alloc (.cells e v)=W):Ext w W∧Blk W w.heap.size t c∧Blk W (w.heap.size+1) u d∧Blk W (w.heap.size+1+1) v e:=by
 have a:=Ext.x1_ (w:=w) (c:=c) (t:=t) rfl;have b:=Ext.x2_ h;rw [World.size_alloc] at b;exact⟨a.1.trans b.1,Blk.ext a.2 b.1,b.2⟩
theorem Ext.x4_ {w W:World}{c d e f:Array Value}{t u v x:TypeId}(h:(((w.alloc (.cells c t)).alloc (.cells d u)).alloc (.cells e v)).alloc (.cells f x)=W):Ext w W∧Blk W w.heap.size t c∧Blk W (w.heap.size+1) u d∧Blk W (w.heap.size+1+1) v e∧Blk W (w.heap.size+1+1+1) x f:=by
 have a:=Ext.x1_ (w:=w) (c:=c) (t:=t) rfl;have b:=Ext.x3_ h;rw [World.size_alloc] at b;exact⟨a.1.trans b.1,Blk.ext a.2 b.1,b.2⟩
theorem Blk.cells (h:Blk w g t cs):∀ W,Ext w W->∀ i,W.cell? ⟨g,i,none⟩=cs[i]?:=fun _ hW=>(h.ext hW).cell
theorem Blk.frm (h:Blk w g t cs)(hb:Frm S w w')(hg:¬ S g):Blk w' g t cs:=(hb.block g h.lt hg).trans h
theorem Blk.ab (h:Blk w g t cs) (i:Nat) (u:Value):Blk (w.setCell ⟨g,i,none⟩ u) g t (cs.setIfInBounds i u):=by
 unfold Blk at h ⊢;simp [World.setCell,Array.getElem?_modify,h]
end
theorem zej {cs:Array Value} (h:Ext (w.alloc (.cells cs t)) w'):Blk w' w.heap.size t cs:=(Blk.new w t cs).ext h
theorem zH {cs:Array Value} {u:TypeId}(h:Ext ((w.alloc (.cells cs t)).alloc (.cells ds u)) w'):Blk w' w.heap.size t cs∧Blk w' (w.heap.size+1) u ds:=by
 refine⟨zej (((Ext.refl _).alloc _).trans h),?_⟩;have:=zej h;simpa using this
theorem zM {cs es:Array Value} {u v:TypeId}(h:Ext (((w.alloc (.cells cs t)).alloc (.cells ds u)).alloc (.cells es v)) w'):Blk w' w.heap.size t cs∧Blk w' (w.heap.size+1) u ds∧Blk w' (w.heap.size+1+1) v es:=by
 have a:=zH (((Ext.refl _).alloc _).trans h);refine⟨a.1,a.2,?_⟩;have:=zej h;simpa using this
theorem Blk.far {cs:Array Value}(h:Blk w g t cs) (hp:g≠p.block) (u:Value):Blk (w.setCell p u) g t cs:=(Below.heap_setCell w p u g hp).trans h
theorem zbY {cs:Array Value} (h:Ext (w.alloc (.cells cs t)) w'):∀ j,w'.cell? ⟨w.heap.size,j,none⟩=cs[j]?:=(zej h).cell
def Reads (w:World) (lo hi size:Nat) (A:Option Addr) (n:Nat) (xs:List Value):Prop:=
 xs.length=n*size∧n<=9223372036854775807∧(0<n->∃ ad,A=some ad∧lo<=ad.block∧ad.block<hi∧∀ j u,xs[j]?=some u->w.cell? (ad.add j)=some u)
section
variable {w w':World} {lo hi size n:Nat} {A:Option Addr} {xs:List Value}
theorem Reads.nil:Reads w lo hi size A 0 []:=⟨sM,oM,fun h=>absurd h oM⟩
theorem Reads.len (h:Reads w lo hi size A n xs):n<=9223372036854775807:=h.2.1
theorem Reads.length (h:Reads w lo hi size A n xs):xs.length=n*size:=h.1
theorem Reads.at_ (h:Reads w lo hi size A n xs)(hk:k<n):∃ ad,A=some ad∧lo<=ad.block∧ad.block<hi∧∀ j u,xs[j]?=some u->w.cell? (ad.add j)=some u:=h.2.2 oM
theorem Reads.one (h:Reads w lo hi 1 A n xs)(hk:k<n):∃ ad u,A=some ad∧lo<=ad.block∧ad.block<hi∧Hid (xs[k]?=some u)∧w.cell? (ad.add k)=some u:=by
 obtain⟨ad,e,c,a,b⟩:=h.2.2 oM;have hx:k<xs.length:=oH h.1;exact⟨ad,xs[k],e,c,a,dC hx,b k _ (dC hx)⟩
theorem Reads.more (h:Reads w lo hi size A n xs)(hL:lo'<=lo)(hH:hi<=hi'):Reads w lo' hi' size A n xs:=
 ⟨h.1,h.2.1,fun hn=>by
  obtain⟨ad,e,hl,hb,hc⟩:=h.2.2 hn
  exact⟨ad,e,oM,oM,hc⟩⟩
theorem Reads.ext (h:Reads w lo hi size A n xs)(hb:Ext w w'):Reads w' lo hi size A n xs:=
 ⟨h.1,h.2.1,fun hn=>by
  obtain⟨ad,e,hl,hi,hc⟩:=h.2.2 hn
  exact⟨ad,e,hl,hi,fun j u hu=>hb.aa (hc j u hu)⟩⟩
theorem Reads.frm (h:Reads w lo hi size A n xs)(hb:Frm S w w')(hS:∀ k,lo<=k->k<hi->¬ S k):Reads w' lo hi size A n xs:=
 ⟨h.1,h.2.1,fun hn=>by
  obtain⟨ad,e,hl,hi,hc⟩:=h.2.2 hn
  refine⟨ad,e,hl,hi,fun j u hu=>?_⟩
  have hcell:=hc j u hu
  have hlt:=World.block_lt_of_cell? w _ hcell
  exact (World.cell?_of_block (w:=w) (hb.block _ hlt (by rw [zfD];exact hS _ hl hi))).trans hcell⟩
theorem Reads.ae (h:w.ownsRow base e size (.slice A n c) n xs):Reads w base w.heap.size size A n xs:=by
 rcases h.2 with ⟨p,i⟩|⟨g,d,f,o,k,l,m,a,_,b⟩
 ·subst i;have hx:xs=[]:=eK (by simpa using h.1);subst hx;exact Reads.nil
 ·have j:A=some ⟨g,0,none⟩:=by injection o
  subst j;exact⟨h.1,by unfold maxLen at a;omega,fun _=>⟨_,rfl,k,(Array.getElem?_eq_some_iff.1 l).1,h.cells (g:=g) rfl⟩⟩
end
theorem zal {P:Program} (wb w:World) {ops:Array Oper} {rest:List Oper} {o:Oper} {a:Act} {Q:Exit->Act->World->Prop}(hgd:o.guard=none) (s x:Operand) (t:TypeId)
  (ho:o.op=.call { callee:=.builtin .append,args:=#[s,x],argTypes:=#[t,t] })
  (e:TypeId) (z:Value) (size bytes:Nat) (ht:P.underlying t=some (.slice e)) (hi:(P.info? e).map (fun i=>(i.zero,i.size,i.bytes))=some (some z,size,bytes)) (hzs:z.cells.size=size) (hsz:0<size)
  (v:Value) (n:Nat) (xs:List Value) (us:Array Value) (e':TypeId) (hs:a.eval s=v) (hx:a.eval x=.slice (some w.heap.size) 1 1)
  (zje:Ext wb w) (zjc:w.ownsRow wb.heap.size e size v n xs) (hus:us.size=size) (h1:∀ u∈us.toList,u.oneCell'=true)
  (h63:n+1<=maxLen) (hbytes:(n+1)*bytes<=140737488355328)
  (h:∀ v' w',Ext wb w'->w'.ownsRow wb.heap.size e size v' (n+1) (xs++us.toList)->w.grownBy w' v.ownBlock->(v'.ownBlock=v.ownBlock∨v'.ownBlock=some (w.heap.size+1))->wpList P ops Q rest (a.put o.dst v') w') :
  wpList P ops Q (o :: rest) a (w.alloc (.cells us e')):=by
 obtain⟨i,c,d,f,g⟩:=info_parts hi;refine wpList_append_own_at (w.alloc (.cells us e')) hgd s x t ho wb.heap.size e i z size bytes ht c d f g hzs hsz v n xs hs (zjc.alloc _) ⟨w.heap.size,0,none⟩ 1 1 us.toList hx (by simpa using hus) ?_ h1 h63 hbytes (by have:=zje.size;simp;omega) ?_
 ·intro j u hu;rw [zaI,Nat.zero_add,(Blk.new w e' us).cell];simpa using hu
 ·intro v' w' hown' hg _ hat;have b:w.grownBy w' v.ownBlock:=⟨hg.os,hg.tape,hg.output,eJ sM hg.size,fun k hk hne=>(hg.block k (by simp;omega) hne).trans (Below.heap_alloc w _ k hk)⟩;exact h v' w' (zje.grown b (fun k hk=>(zjc.lt k hk).1)) hown' b (by simpa using hat)
theorem zas {P:Program} (wb w:World) {ops:Array Oper} {rest:List Oper} {o:Oper} {a:Act} {Q:Exit->Act->World->Prop}(hgd:o.guard=none) (l c:Operand) (t:TypeId)(ho:o.op=.makeSlice t l c)
  (e:TypeId) (z:Value) (size bytes:Nat) (ht:P.underlying t=some (.slice e)) (hi:(P.info? e).map (fun i=>(i.zero,i.size,i.bytes))=some (some z,size,bytes))
  (kl kc:IntKind) (n:Nat) (hl:a.eval l=.int kl (n:Int)) (hc:a.eval c=.int kc (n:Int)) (zje:Ext wb w) (hbytes:n*bytes<=140737488355328) (h63:n<=maxLen)
  (h:∀ w',Ext wb w'->w'.ownsRow wb.heap.size e size (.slice (some w.heap.size) n n) n (madeCells z.cells (n*size)).toList->Ext w w'->w.heap.size<w'.heap.size->wpList P ops Q rest (a.put o.dst (.slice (some w.heap.size) n n)) w') :
  wpList P ops Q (o :: rest) a w:=by
 obtain⟨i,d,f,j,k⟩:=info_parts hi;refine wpList_make_full w hgd l c t ho wb.heap.size e i z size ht d f j kl kc n n n hl hc rfl rfl (by rw [k,Nat.mul_comm];omega) h63 zje.size ?_;intro w' zjc hg;refine h w' (zje.grown hg sM) zjc ((Ext.refl _).grown hg sM) ?_;rcases zjc.2 with ⟨b,_⟩|⟨g,m,p,b,_,q,_⟩
 ·simp at b
 ·have:w.heap.size=g:=by injection b with h1;injection h1 with h1;injection h1
  subst this;exact (Array.getElem?_eq_some_iff.1 q).1
theorem zi {size:Nat}   (h:w.ownsRow base e size v n xs):∃ A c,v=.slice A n c:=by
 rcases h.2 with ⟨rfl,d⟩|⟨g,a,b,rfl,_⟩
 ·exact⟨none,0,by rw [d]⟩
 ·exact⟨_,_,rfl⟩
theorem zaY (n:Int):∀ u∈(#[Value.int .i64 n]:Array Value).toList,u.oneCell'=true:=by simp [Value.oneCell']
theorem zin (n:Int):∀ u∈(#[Value.int .u8 n]:Array Value).toList,u.oneCell'=true:=by simp [Value.oneCell']
theorem zbW (A:Option Addr) (n c:Nat):∀ u∈(#[Value.slice A n c]:Array Value).toList,u.oneCell'=true:=by simp [Value.oneCell']
def ints (l:List Int):List Value:=l.map (Value.int .i64)
theorem zbZ (l:List Int):(ints l).length=l.length:=by simp [ints]
def zS (l:List Bool):List Value:=l.map Value.bool
theorem zaO (l:List Bool):(zS l).length=l.length:=by simp [zS]
theorem ints_get {l:List Int}  (h:(ints l)[k]?=some u):∃ n,l[k]?=some n∧u=.int .i64 n:=by
 simp only [ints,eL,hE] at h;obtain⟨n,a,rfl⟩:=h;exact⟨n,a,rfl⟩
theorem bools_get {l:List Bool}  (h:(zS l)[k]?=some u):∃ n,l[k]?=some n∧u=.bool n:=by
 simp only [zS,eL,hE] at h;obtain⟨n,a,rfl⟩:=h;exact⟨n,a,rfl⟩
theorem Reads.int {l:List Int}(h:Reads w lo hi 1 A n (ints l))(hk:k<n):∃ ad x,A=some ad∧lo<=ad.block∧ad.block<hi∧Hid (l[k]?=some x)∧w.cell? (ad.add k)=some (.int .i64 x):=by
 obtain⟨ad,u,e,d,b,hx,c⟩:=h.one hk;obtain⟨x,a,rfl⟩:=ints_get hx.out;exact⟨ad,x,e,d,b,a,c⟩
theorem Reads.bool {l:List Bool}(h:Reads w lo hi 1 A n (zS l))(hk:k<n):∃ ad x,A=some ad∧lo<=ad.block∧ad.block<hi∧Hid (l[k]?=some x)∧w.cell? (ad.add k)=some (.bool x):=by
 obtain⟨ad,u,e,d,b,hx,c⟩:=h.one hk;obtain⟨x,a,rfl⟩:=bools_get hx.out;exact⟨ad,x,e,d,b,a,c⟩
def zdN (w:World) (lo hi:Nat) (rows:List Value) (ls:List (List Int)):Prop:=
 rows.length=ls.length∧∀ (i:Nat) (row:Value) (l:List Int),rows[i]?=some row->ls[i]?=some l->∃ A c,row=.slice A l.length c∧Reads w lo hi 1 A l.length (ints l)
def zax (w:World) (lo hi:Nat) (A:Option Addr) (n:Nat) (ls:List (List Int)):Prop:=
 n=ls.length∧∃ rows,Reads w lo hi 1 A n rows∧zdN w lo hi rows ls
section
variable {w w':World} {lo hi n k:Nat} {A:Option Addr} {ls:List (List Int)} {rows:List Value}
theorem zdN.ext (h:zdN w lo hi rows ls)(hb:Ext w w'):zdN w' lo hi rows ls:=
 ⟨h.1,fun i row l hr hl=>by
  obtain⟨A,c,e,hx⟩:=h.2 i row l hr hl
  exact⟨A,c,e,hx.ext hb⟩⟩
theorem zax.ext (h:zax w lo hi A n ls)(hb:Ext w w'):zax w' lo hi A n ls:=by
 obtain⟨e,a,b,hx⟩:=h;exact⟨e,a,b.ext hb,hx.ext hb⟩
theorem zdN.frm (h:zdN w lo hi rows ls)(hb:Frm S w w')(hS:∀ k,lo<=k->k<hi->¬ S k):zdN w' lo hi rows ls:=
 ⟨h.1,fun i row l hr hl=>by
  obtain⟨A,c,e,hx⟩:=h.2 i row l hr hl
  exact⟨A,c,e,hx.frm hb hS⟩⟩
theorem zax.frm (h:zax w lo hi A n ls)(hb:Frm S w w')(hS:∀ k,lo<=k->k<hi->¬ S k):zax w' lo hi A n ls:=by
 obtain⟨e,a,b,hx⟩:=h;exact⟨e,a,b.frm hb hS,hx.frm hb hS⟩
theorem zdN.more (h:zdN w lo hi rows ls)(hL:lo'<=lo)(hH:hi<=hi'):zdN w lo' hi' rows ls:=
 ⟨h.1,fun i row l hr hl=>by
  obtain⟨A,c,e,hx⟩:=h.2 i row l hr hl
  exact⟨A,c,e,hx.more hL hH⟩⟩
theorem zax.more (h:zax w lo hi A n ls)(hL:lo'<=lo)(hH:hi<=hi'):zax w lo' hi' A n ls:=by
 obtain⟨e,a,b,hx⟩:=h;exact⟨e,a,b.more hL hH,hx.more hL hH⟩
theorem zax.len (h:zax w lo hi A n ls):n<=9223372036854775807:=by
 obtain⟨_,a,b,_⟩:=h;exact b.len
theorem zax.row (h:zax w lo hi A n ls)(hk:k<n):∃ ad Ak ck l,A=some ad∧lo<=ad.block∧ad.block<hi∧Hid (ls[k]?=some l)∧w.cell? (ad.add k)=some (.slice Ak l.length ck)∧Reads w lo hi 1 Ak l.length (ints l):=by
 obtain⟨e,c,j,hx⟩:=h;obtain⟨ad,u,d,i,f,m,g⟩:=j.one hk;have a:k<ls.length:=oM;obtain⟨Ak,ck,rfl,b⟩:=hx.2 k u ls[k] m.out (dC a);exact⟨ad,Ak,ck,ls[k],d,i,f,dC a,g,b⟩
end
section
variable {w w':World} {base base' size size' n n':Nat} {e e':TypeId} {v v':Value} {xs xs':List Value}
theorem zg (h:w.ownsRow base e size v n xs)(hb:Ext w w'):w'.ownsRow base e size v n xs:=by
 refine⟨h.1,?_⟩;rcases h.2 with f|⟨g,a,b,i,d,c,r⟩
 ·exact .inl f
 ·exact .inr ⟨g,a,b,i,d,(hb.heap (Array.getElem?_eq_some_iff.1 c).1).trans c,r⟩
theorem zh (h:w.ownsRow base e size v n xs)(hb:Frm S w w')(hS:∀ b,v.ownBlock=some b->¬ S b):w'.ownsRow base e size v n xs:=by
 refine⟨h.1,?_⟩;rcases h.2 with j|⟨g,a,c,f,i,d,r⟩
 ·exact .inl j
 ·exact .inr ⟨g,a,c,f,i,(hb.block g (Array.getElem?_eq_some_iff.1 d).1 (hS g (by rw [f];rfl))).trans d,r⟩
theorem zct (h:w.ownsRow base e size v n xs)(hb:Frm S w w')(hS:∀ b,base<=b->¬ S b):w'.ownsRow base e size v n xs:=zh h hb fun b hv=>hS b (h.lt b hv).1
theorem zr (h:w.ownsRow base e size v n xs)(hb:base'<=base):w.ownsRow base' e size v n xs:=by
 refine⟨h.1,?_⟩;rcases h.2 with c|⟨g,a,b,d,f,r⟩
 ·exact .inl c
 ·exact .inr ⟨g,a,b,d,oM,r⟩
theorem zaP (h:w.ownsRow base e size v n xs)(h':w.ownsRow base' e' size' v' n' xs')(hne:e≠e') (hb:v.ownBlock=some b):v'.ownBlock≠some b:=by
 rcases h.2 with ⟨rfl,_⟩|⟨g,i,j,rfl,_,m,_⟩
 ·simp [Value.ownBlock] at hb
 ·rcases h'.2 with ⟨rfl,_⟩|⟨k,d,f,rfl,_,a,_⟩
  ·simp [Value.ownBlock]
  ·have c:g=b:=by simpa [Value.ownBlock] using hb
   subst c;intro he;have l:k=g:=by simpa [Value.ownBlock] using he
   subst l;rw [m] at a;injection a with a
   injection a with _ ht
   exact hne ht
theorem zab (h:w.ownsRow base e size (.slice (some g) n cap) n xs) (j:Nat)(hj:j<n*size):∃ u,w.cell? ⟨g,j,none⟩=some u:=by
 have hx:j<xs.length:=by rw [h.1];exact hj
 exact⟨xs[j],by rw [h.cellAt j hj,dC hx]⟩
theorem zcW (h:w.ownsRow base e size v n xs):xs.length=n*size:=h.1
end
theorem Ext.ak (h:Ext w w'):Frm S w w':=⟨h.os,h.tape,h.output,h.size,fun k hk _=>h.block k hk id⟩
theorem Frm.af {row:Option Nat}(h:w.grownBy w' row):Frm (fun k=>row=some k) w w':=
 ⟨h.os,h.tape,h.output,h.size,fun k hk hn=>h.block k hk (fun e=>hn e.symm)⟩
theorem Frm.setCell (w:World) (g j:Nat) (u:Value):Frm (fun k=>k=g) w (w.setCell ⟨g,j,none⟩ u):=
 ⟨rfl,rfl,rfl,by simp [World.setCell],fun k _ hn=>Below.heap_setCell _ _ _ _ hn⟩
theorem Frm.trans {b c:World}(h:Frm S a b) (k:Frm S b c):Frm S a c:=
 ⟨k.os.trans h.os,k.tape.trans h.tape,k.output.trans h.output,eJ h.size k.size,fun i hi hn=>(k.block i (eU hi h.size) hn).trans (h.block i hi hn)⟩
theorem Frm.mono {b:World}(h:Frm S a b)(hS:∀ k,k<a.heap.size->S k->T k):Frm T a b:=
 ⟨h.os,h.tape,h.output,h.size,fun k hk hn=>h.block k hk (fun hs=>hn (hS k hk hs))⟩
theorem Frm.refl (S:Nat->Prop) (w:World):Frm S w w:=⟨rfl,rfl,rfl,Nat.le_refl _,fun _ _ _=>rfl⟩
theorem Frm.cell (h:Frm S a w) (hp:S p.block) (u:Value):Frm S a (w.setCell p u):=
 ⟨h.os,h.tape,h.output,by simpa [World.setCell] using h.size,fun k hk hn=>(Below.heap_setCell _ _ _ _ (by rintro rfl;exact hn hp)).trans (h.block k hk hn)⟩
theorem Frm.ext (h:Frm S a w)(hb:Ext w w'):Frm S a w':=h.trans hb.ak
theorem Ext.frm {b c:World}(h:Ext a b) (k:Frm S b c)(hS:∀ k,k<a.heap.size->¬ S k):Ext a c:=
 ⟨k.os.trans h.os,k.tape.trans h.tape,k.output.trans h.output,eJ h.size k.size,fun i hi hn=>(k.block i (eU hi h.size) (hS i hi)).trans (h.block i hi hn)⟩
theorem set_end (u:Value)(hk:xs.length=k)(hr:0<rest.length):(xs++rest).set k u=(xs++[u])++rest.tail:=by
 subst hk;rw [fL _ _ oM,fO];cases rest with
 |nil=>simp at hr
 |cons r rs=>simp
section
variable {α:Type} {l:List α} {p:α->Bool} {k:Nat} {x:α}
theorem zaA (h:l[k]?=some x)(hp:p x=false):l.all p=false:=
 List.all_eq_false.2 ⟨x,List.mem_of_getElem? h,by simp [hp]⟩
theorem zco (h:l[k]?=some x)(hk:(l.take k).all p=true)(hp:p x=true):(l.take (k+1)).all p=true:=by
 rw [eH,h,List.all_append,hk];simp [hp]
theorem zeB (hk:l.length<=k)(h:(l.take k).all p=true):l.all p=true:=by
 rwa [eE hk] at h
end
theorem set_mix {vals:List Value}  (hu:vals[k]?=some u)(hr:rest.length=vals.length - k):(vals.take k++rest).set k u=vals.take (k+1)++rest.tail:=by
 have b:k<vals.length:=by
  rcases fK k vals.length with h|h
  ·exact h
  ·rw [eP h] at hu;cases hu
 have a:(vals.take k).length=k:=by simp;omega
 rw [fL _ _ oM,a,fO,eH,hu];cases rest with
 |nil=>simp at hr;omega
 |cons r rs=>simp
def Sm (n:Nat):Prop:=n<4294967296
theorem Sm.lt (h:Sm n):n<4294967296:=h
theorem Sm.or {a:Nat}(ha:Sm a)(hb:Sm b):Sm (a|||b):=Nat.or_lt_two_pow (n:=32) ha hb
theorem Sm.and_left {a:Nat} (b:Nat)(ha:Sm a):Sm (a&&&b):=j5 Nat.and_le_left ha
theorem Sm.bit (h:n<32):Sm (2 ^ n):=Nat.pow_lt_pow_right oM h
theorem zdi (a:Nat)(ha:a<9223372036854775808):(BitVec.ofInt 64 (a:Int)).toNat=a:=by
 rw [BitVec.ofInt_natCast,BitVec.toNat_ofNat];exact Nat.mod_eq_of_lt oM
theorem zce {a:Nat}(ha:Sm a)(hb:Sm b):bits .and .i64 (a:Int) (b:Int)=((a&&&b:Nat):Int):=by
 have hx:=(Sm.and_left b ha).lt;have:=ha.lt;have:=hb.lt;show IntKind.i64.wrap ((BitVec.ofInt 64 (a:Int)&&&BitVec.ofInt 64 (b:Int)).toNat:Int)=_;rw [BitVec.toNat_and,zdi a oM,zdi b oM,IntKind.wrap_i64];omega
theorem zaV {a:Nat}(ha:Sm a)(hb:Sm b):bits .or .i64 (a:Int) (b:Int)=((a|||b:Nat):Int):=by
 have hx:=(Sm.or ha hb).lt;have:=ha.lt;have:=hb.lt;show IntKind.i64.wrap ((BitVec.ofInt 64 (a:Int)|||BitVec.ofInt 64 (b:Int)).toNat:Int)=_;rw [BitVec.toNat_or,zdi a oM,zdi b oM,IntKind.wrap_i64];omega
theorem and_one (hx:Sm x):bits .and .i64 (x:Int) 1=((x % 2:Nat):Int):=by
 have:=zce hx (b:=1) tM;rw [nat_mask1] at this;exact this
theorem div_pow (x n:Nat):(x:Int) / 2 ^ n=((x / 2 ^ n:Nat):Int):=sM
theorem zfw (hx:Sm x)(hn:32<=n):x.testBit n=false:=
 Nat.testBit_lt_two_pow (eU hx.lt (by rw [show (4294967296:Nat)=2 ^ 32 from rfl];exact Nat.pow_le_pow_right oM hn))
theorem zha (hx:Sm x) (n:Nat):(bits .and .i64 ((x:Int) / 2 ^ min n 64) 1==1)=x.testBit n:=by
 rw [div_pow,and_one (j5 (Nat.div_le_self _ _) hx)]
 by_cases hn:n<=64
 ·rw [Nat.min_eq_left hn,Nat.testBit_eq_decide_div_mod_eq];rw [Bool.eq_iff_iff];simp only [beq_iff_eq,decide_eq_true_eq];omega
 ·rw [Nat.min_eq_right oM,zfw hx oM];have:x / 2 ^ 64=0:=Nat.div_eq_of_lt (Nat.lt_trans hx.lt dM);rw [this];decide
def hasB (s:Nat) (n:Int):Bool:=decide (0<=n)&&s.testBit n.toNat
def letters (a k:Nat):List Nat:=(fE k).filter fun l=>a.testBit l
theorem zbc (a k:Nat):letters a (k+1)=letters a k++if a.testBit k then [k] else []:=by
 unfold letters;rw [iB,List.filter_append];cases h:a.testBit k<;>simp [h]
theorem zJ (a k:Nat):(letters a k).length<=k:=by
 unfold letters;have:=List.length_filter_le (fun l=>a.testBit l) (fE k);simpa using this
def zU (l:List Nat):List Value:=l.map fun n:Nat=>Value.int .i64 (n:Int)
theorem zgS (l:List Nat):(zU l).length=l.length:=by simp [zU]
theorem nats_append (l m:List Nat):zU (l++m)=zU l++zU m:=by simp [zU]
theorem zan (a:Int) (w:World) :
  Calls Tryz.prog 173 #[a] w fun e w'=>e=.returned (.bool (decide (0<=a∧a<=63)))∧w=w':=by
 by_cases h0:0<=a
 ·go_enter Tryz.func173,Tryz.ntmps173
  go_wp2;go_ret;exact⟨by simp [h0],rfl⟩
 ·go_enter Tryz.func173,Tryz.ntmps173
  go_wp2;go_ret;exact⟨by simp;omega,rfl⟩
theorem zV (a:Int) (w:World) :
  Calls Tryz.prog 139 #[a] w fun e w'=>e=.returned (.bool (decide (0<=a∧a<=63)))∧w=w':=by
 by_cases h0:0<=a
 ·go_enter Tryz.func139,Tryz.ntmps139
  go_wp2;go_ret;exact⟨by simp [h0],rfl⟩
 ·go_enter Tryz.func139,Tryz.ntmps139
  go_wp2;go_ret;exact⟨by simp;omega,rfl⟩
theorem zim (s:ByteArray) (i:Nat)(h:i<s.size):(s[i].toNat:Int)<256:=by
 have:=s[i].toNat_lt;omega
def ltr (b:Int):Int:=if b - 97<0∨6<=b - 97 then -1 else b - 97
theorem zm {a b:Bool}(h:a=b):Ending.returned (.bool a)=.returned (.bool b):=by rw [h]
theorem zG {k:IntKind} {a b:Int}(h:a=b):Ending.returned (.int k a)=.returned (.int k b):=by rw [h]
theorem zbL (s:ByteArray) (i:Nat)(hi:i<s.size) (w:World) :
  Calls Tryz.prog 153 #[s,i] w fun e w'=>e=.returned (.int .i64 (ltr s[i].toNat))∧w=w':=by
 have a:=zim s i hi
 by_cases h0:(s[i].toNat:Int) - 97<0
 ·go_enter Tryz.func153,Tryz.ntmps153
  go_wp2;go_ret;exact⟨zG (by rw [ltr,if_pos (Or.inl h0)]),rfl⟩
 ·by_cases h1:6<=(s[i].toNat:Int) - 97
  ·go_enter Tryz.func153,Tryz.ntmps153
   go_wp2;go_ret;exact⟨zG (by rw [ltr,if_pos (Or.inr h1)]),rfl⟩
  ·go_enter Tryz.func153,Tryz.ntmps153
   go_wp2;go_ret;exact⟨zG (by rw [ltr,if_neg oM]),rfl⟩
theorem zbR (s:ByteArray) (i:Nat)(hi:i<s.size) (w:World) :
  Calls Tryz.prog 141 #[s,i] w fun e w'=>e=.returned (.int .i64 (s[i].toNat - 97))∧w=w':=by
 have a:=zim s i hi
 go_enter Tryz.func141,Tryz.ntmps141
 go_wp2;go_ret;exact⟨rfl,rfl⟩
theorem zae (s n:Nat)(hs:Sm s) (w:World)(hn:n<9223372036854775808) :
  Calls Tryz.prog 140 #[s,n] w fun e w'=>e=.returned (.bool (s.testBit n))∧w=w':=by
 have b:IntKind.u64.wrap (n:Int)=n:=by rw [IntKind.wrap_u64];omega
 have a:=zha hs n;have Hb:=za a;clear a
 go_enter Tryz.func140,Tryz.ntmps140
 go_wp2;go_ret;exact⟨by simp [Hb.out],rfl⟩
theorem zcg (s:Nat) (n:Int)(hs:Sm s) (w:World) :
  Calls Tryz.prog 161 #[s,n] w fun e w'=>e=.returned (.bool (hasB s n))∧w=w':=by
 have a:=zha hs n.toNat;have Hb:=za a;clear a
 by_cases h0:0<=n
 ·go_enter Tryz.func161,Tryz.ntmps161
  go_wp2;go_ret;exact⟨by simp [Hb.out,hasB,h0],rfl⟩
 ·go_enter Tryz.func161,Tryz.ntmps161
  go_wp2;go_ret;exact⟨by simp [hasB];omega,rfl⟩
theorem zai:(Tryz.prog.info? 3).map (fun i=>(i.zero,i.size,i.bytes))=some (some (.int .i64 0),1,8):=kM
def zbI (w:World) (xs:List Nat) (e:Ending) (w':World):Prop:=
 ∃ A c,e=.returned (.slice A xs.length c)∧w'.ownsRow w.heap.size 3 1 (.slice A xs.length c) xs.length (zU xs)∧Ext w w'
theorem zaa (a:Nat)(hs:Sm a) (w:World) :
  Calls Tryz.prog 158 #[a] w (zbI w (letters a 6)):=by
 go_enter Tryz.func158,Tryz.ntmps158
 go_wp2
 go_loopw [3,5] (fun v i wr=>∃ k:Nat,k<=6∧i=.int .i64 k∧wr.ownsRow w.heap.size 3 1 v (letters a k).length (zU (letters a k))∧Ext w wr)
  (fun _ i _=>6 - (intOf i).toNat)
 case atStart=>exact⟨0,eD _,rfl,World.ownsRow_nil _ _ _ _,Ext.refl _⟩
 case round =>
  obtain⟨k,f,rfl,zjc,zje⟩:=hrel;have g:=zJ a k
  by_cases hlt:k<6
  ·cases hb:a.testBit k
   all_goals
    have Hb:hasB a k=a.testBit k:=by simp [hasB]
    rw [hb] at Hb;have b:=zbc a k;rw [hb] at b;have d:=za b;clear b hb;go_wp2_with (first
     |(go_at_call 161;refine (zcg a k hs _).mono ?_;rintro e h ⟨rfl,rfl⟩)
     |(at_builtin;refine zal w wr rfl (.tmp 11) (.tmp 13) _ rfl 3 _ 1 8 Tryz.underlying128 zai rfl dM u3 _ _ _ _ rfl rfl zje zjc rfl (zaY _) lM oM ?_;intro v' w1 hext1 zjl hg1 hat1))
    go_roundw
    case rel=>exact⟨k+1,oM,gM,by rw [d.out];first|simpa [zU] using zjl|simpa using zjc,aM⟩
    case measure=>simp [intOf];omega
  ·obtain rfl:k=6:=oM;obtain⟨A,c,rfl⟩:=zi zjc;go_wp2;go_ret;exact⟨_,_,rfl,zjc,zje⟩
def leftOf (left:Int) (n:Nat):Int:=if left - n<0 then -1 else left - n
theorem zgN (left:Int) (n:Nat)(h:left<=1048576):leftOf left n<=1048576:=by unfold leftOf;split<;>omega
theorem zfi (left:Int) (n:Nat):-1<=leftOf left n:=by unfold leftOf;split<;>omega
theorem zid (A:Option Addr) (n c:Nat) (left:Int) (w:World)(hn:n<=9223372036854775807)(h0:0<=left)(h1:left<=1048576) :
  Calls Tryz.prog 118 #[.slice A n c,left] w fun e w'=>e=.returned (.int .i64 (leftOf left n))∧w=w':=by
 by_cases h:left - n<0
 ·go_enter Tryz.func118,Tryz.ntmps118
  go_wp2;go_ret;exact⟨zG (by unfold leftOf;split<;>omega),rfl⟩
 ·go_enter Tryz.func118,Tryz.ntmps118
  go_wp2;go_ret;exact⟨zG (by unfold leftOf;split<;>omega),rfl⟩
theorem szBoolS_any (A:Option Addr) (n c:Nat) (left:Int) (w:World)(hn:n<=9223372036854775807)(h0:0<=left)(h1:left<=1048576) :
  Calls Tryz.prog 57 #[.slice A n c,left] w fun e w'=>e=.returned (.int .i64 (leftOf left n))∧w=w':=by
 by_cases h:left - n<0
 ·go_enter Tryz.func57,Tryz.ntmps57
  go_wp2;go_ret;exact⟨zG (by unfold leftOf;split<;>omega),rfl⟩
 ·go_enter Tryz.func57,Tryz.ntmps57
  go_wp2;go_ret;exact⟨zG (by unfold leftOf;split<;>omega),rfl⟩
def tot (ls:List (List Int)):Nat:=(ls.map List.length).sum
theorem zbk {l:List Int}(h:ls[k]?=some l):tot (ls.take (k+1))=tot (ls.take k)+l.length:=by
 rw [eH,h];simp [tot]
theorem tot_append (a b:List (List Int)):tot (a++b)=tot a+tot b:=by simp [tot]
theorem zcd (ls:List (List Int)) (k:Nat):tot (ls.take k)<=tot ls:=by
 have h:=tot_append (ls.take k) (ls.drop k);rw [iN] at h;omega
theorem zhi (lo hi:Nat) (A:Option Addr) (n c:Nat) (ls:List (List Int)) (left:Int) (w:World)(h:zax w lo hi A n ls)(h0:0<=left)(h1:left<=1048576) :
  Calls Tryz.prog 56 #[.slice A n c,left] w fun e w'=>e=.returned (.int .i64 (leftOf left (ls.length+tot ls)))∧w=w':=by
 have E:=h.len;have B:n<=ls.length∧ls.length<=n:=oH h.1
 by_cases hneg:left - n<0
 ·go_enter Tryz.func56,Tryz.ntmps56
  go_wp2;go_ret;exact⟨zG (by unfold leftOf;split<;>omega),rfl⟩
 ·go_enter Tryz.func56,Tryz.ntmps56
  go_wp2
  go_loop [1,5] (fun v i=>∃ k:Nat,k<=n∧i=.int .i64 k∧∃ m:Int,v=.int .i64 m∧Hid (m=left - n - tot (ls.take k))∧0<=m∧m<=1048576)
   (fun _ i=>n - (intOf i).toNat)
  case atStart=>exact⟨0,eD _,rfl,_,rfl,by simp [tot,Hid],oM,oM⟩
  case round =>
   obtain⟨k,D,rfl,m,rfl,j,f,d⟩:=hrel
   by_cases hlt:k<n
   ·obtain⟨y,x,z,l,rfl,u,r,s,g,o⟩:=h.row hlt;have a:=o.len;have C:=zfi m l.length;have q:=za (zbk s.out);have t:=zcd ls (k+1)
    by_cases hs:leftOf m l.length<0
    ·go_wp2_with (go_at_call 118;refine (zid _ _ _ _ _ a f d).mono ?_;rintro e w' ⟨rfl,rfl⟩)
     go_ret;have b:=j.out;have p:=q.out;exact⟨zG (by unfold leftOf at hs ⊢;(repeat split)<;>(split at hs)<;>omega),rfl⟩
    ·go_wp2_with (go_at_call 118;refine (zid _ _ _ _ _ a f d).mono ?_;rintro e w' ⟨rfl,rfl⟩)
     go_round
     case rel=>exact⟨k+1,oM,gM,_,rfl,by have b:=j.out;have p:=q.out;unfold Hid;unfold leftOf at hs ⊢;split at hs<;>split<;>omega,oM,zgN _ _ d⟩
     case measure=>simp [intOf];omega
   ·obtain rfl:k=n:=oM;go_wp2;go_ret;have b:=j.out;rw [eE oM] at b;exact⟨zG (by unfold leftOf;split<;>omega),rfl⟩
structure Aut where
 al:Int
 next:List (List Int)
 acc:List Bool
def zC (w:World) (lo hi:Nat) (A:Option Addr) (n:Nat) (A':Option Addr) (n':Nat) (a:Aut):Prop:=
 zax w lo hi A n a.next∧n'=a.acc.length∧Reads w lo hi 1 A' n' (zS a.acc)
section
variable {w w':World} {lo hi n n':Nat} {A A':Option Addr} {a:Aut}
theorem zC.ext (h:zC w lo hi A n A' n' a)(hb:Ext w w'):zC w' lo hi A n A' n' a:=⟨h.1.ext hb,h.2.1,h.2.2.ext hb⟩
theorem zC.frm (h:zC w lo hi A n A' n' a)(hb:Frm S w w')(hS:∀ k,lo<=k->k<hi->¬ S k):zC w' lo hi A n A' n' a:=⟨h.1.frm hb hS,h.2.1,h.2.2.frm hb hS⟩
theorem zC.more (h:zC w lo hi A n A' n' a)(hL:lo'<=lo)(hH:hi<=hi'):zC w lo' hi' A n A' n' a:=⟨h.1.more hL hH,h.2.1,h.2.2.more hL hH⟩
theorem zC.n1 (h:zC w lo hi A n A' n' a):n=a.next.length:=h.1.1
theorem zC.n2 (h:zC w lo hi A n A' n' a):n'=a.acc.length:=h.2.1
end
def Aut.size (a:Aut):Nat:=a.next.length+tot a.next+a.acc.length
theorem szAutomaton_any (lo hi:Nat) (A:Option Addr) (n c:Nat) (A':Option Addr) (n' c':Nat) (a:Aut) (left:Int) (w:World)(h:zC w lo hi A n A' n' a)(h0:0<=left)(h1:left<=1048576) :
  Calls Tryz.prog 16 #[.agg #[a.al,.slice A n c,.slice A' n' c'],left] w fun e w'=>e=.returned (.int .i64 (leftOf left a.size))∧Ext w w':=by
 have i:=zgN left (a.next.length+tot a.next) h1;have f:leftOf left a.size=if leftOf left (a.next.length+tot a.next)<0 then -1 else leftOf (leftOf left (a.next.length+tot a.next)) a.acc.length:=by
  unfold leftOf Aut.size;(repeat' split)<;>omega
 have b:=za f;clear f;have l:=fun W (hW:Ext w W)=>h.1.ext hW;have k:=za l;clear l;have j:=h.2.1;have g:=h.2.2.len;subst j
 by_cases hneg:leftOf left (a.next.length+tot a.next)<0
 ·go_enter Tryz.func16,Tryz.ntmps16
  go_wp2_with (go_at_call 56;refine (zhi _ _ _ _ _ _ _ _ (k.out _ ((Ext.refl _).alloc _)) h0 h1).mono ?_;rintro e w' ⟨rfl,rfl⟩)
  go_ret;exact⟨zG (by rw [b.out,if_pos hneg]),(Ext.refl _).alloc _⟩
 ·go_enter Tryz.func16,Tryz.ntmps16
  have d:0<=leftOf left (a.next.length+tot a.next):=oM;go_wp2_with (first
   |(go_at_call 56;refine (zhi _ _ _ _ _ _ _ _ (k.out _ ((Ext.refl _).alloc _)) h0 h1).mono ?_;rintro e w' ⟨rfl,rfl⟩)
   |(go_at_call 57;refine (szBoolS_any _ _ _ _ _ g d i).mono ?_;rintro e w' ⟨rfl,rfl⟩))
  all_goals go_ret
  ·exact⟨zG (by have:=b.out;have:=zfi (leftOf left (a.next.length+tot a.next)) a.acc.length;rw [if_neg oM] at *;omega),(Ext.refl _).alloc _⟩
  ·exact⟨zG (by have:=b.out;rw [if_neg oM] at *;omega),(Ext.refl _).alloc _⟩
theorem yV01a1 {P:Prop}(h:P:=by
 go_wp2;go_roundw
 case rel=>exact⟨k+1,oM,gM,rest.tail,by have:=hrest.out;unfold Hid;rw [List.length_tail];omega,hs1.out.1,zje.frm (Frm.setCell _ _ _ _) oM⟩
 case measure=>simp [intOf];omega
 ):P:=h
theorem yV01a2 {P:Prop}(h:P:=by
 obtain rfl:k=n:=oM;go_wp2;go_ret;rw [List.take_of_length_le oM] at zjc;have:rest=[]:=List.eq_nil_of_length_eq_zero (by rw [hrest.out];omega);subst this;exact⟨rfl,by simpa using zjc,zje⟩
 ):P:=h
theorem toIntS_any (lo hi:Nat) (A:Option Addr) (n c:Nat) (l:List Int) (w:World)(h:Reads w lo hi 1 A n (ints l))(hn:n<=1048576) :
  Calls Tryz.prog 121 #[.slice A n c] w fun e w'=>e=.returned (.slice (some w.heap.size) n n)∧w'.ownsRow w.heap.size 3 1 (.slice (some w.heap.size) n n) n (ints l)∧Ext w w':=by
 have r:=h.length
 go_enter Tryz.func121,Tryz.ntmps121
 go_wp2_with (at_make;refine zas w _ rfl _ _ 128 rfl 3 _ 1 8 Tryz.underlying128 zai _ _ n rfl rfl (Ext.refl _) oM lM ?_;intro w1 hext1 zjl _ _)
 go_loopw [4] (fun i wr=>∃ k:Nat,k<=n∧i=.int .i64 k∧∃ rest:List Value,Hid (rest.length=n - k)∧wr.ownsRow w.heap.size 3 1 (.slice (some w.heap.size) n n) n ((ints l).take k++rest)∧Ext w wr)
  (fun i _=>n - (intOf i).toNat)
 case atStart=>exact⟨0,eD _,rfl,_,by have:=zjl.1;simp at this;unfold Hid;omega,by simpa using zjl,hext1⟩
 case round =>
  obtain⟨k,q,rfl,rest,hrest,zjc,zje⟩:=hrel
  by_cases hlt:k<n
  ·obtain⟨p,x,rfl,m,j,hx,d⟩:=(h.ext zje).int hlt;have b:wr.cell? ⟨w.heap.size,k,none⟩=((ints l).take k++rest)[k]?:=zjc.cellAt k oM;have g:=zjc.frozenAt k;have f:k<((ints l).take k++rest).length:=by rw [zjc.1];omega
   rw [dC f] at b;have a:=zjc.stored k (.int .i64 x);rw [set_mix (by simp [ints,hx.out]) (by rw [hrest.out];omega)] at a;have hs1:=za a;clear a;generalize ((ints l).take k++rest)[k]=o at b;exact yV01a1
  ·exact yV01a2
theorem zbN:(Tryz.prog.info? 4).map (fun i=>(i.zero,i.size,i.bytes))=some (some (.bool false),1,1):=kM
theorem zdl:(Tryz.prog.info? 128).map (fun i=>(i.zero,i.size,i.bytes))=some (some (.slice none 0 0),1,24):=kM
theorem toBoolS_any (lo hi:Nat) (A:Option Addr) (n c:Nat) (l:List Bool) (w:World)(h:Reads w lo hi 1 A n (zS l))(hn:n<=1048576) :
  Calls Tryz.prog 61 #[.slice A n c] w fun e w'=>e=.returned (.slice (some w.heap.size) n n)∧w'.ownsRow w.heap.size 4 1 (.slice (some w.heap.size) n n) n (zS l)∧Ext w w':=by
 have r:=h.length
 go_enter Tryz.func61,Tryz.ntmps61
 go_wp2_with (at_make;refine zas w _ rfl _ _ 26 rfl 4 _ 1 1 Tryz.underlying26 zbN _ _ n rfl rfl (Ext.refl _) oM lM ?_;intro w1 hext1 zjl _ _)
 go_loopw [4] (fun i wr=>∃ k:Nat,k<=n∧i=.int .i64 k∧∃ rest:List Value,Hid (rest.length=n - k)∧wr.ownsRow w.heap.size 4 1 (.slice (some w.heap.size) n n) n ((zS l).take k++rest)∧Ext w wr)
  (fun i _=>n - (intOf i).toNat)
 case atStart=>exact⟨0,eD _,rfl,_,by have:=zjl.1;simp at this;unfold Hid;omega,by simpa using zjl,hext1⟩
 case round =>
  obtain⟨k,q,rfl,rest,hrest,zjc,zje⟩:=hrel
  by_cases hlt:k<n
  ·obtain⟨p,x,rfl,m,j,hx,d⟩:=(h.ext zje).bool hlt;have b:wr.cell? ⟨w.heap.size,k,none⟩=((zS l).take k++rest)[k]?:=zjc.cellAt k oM;have g:=zjc.frozenAt k;have f:k<((zS l).take k++rest).length:=by rw [zjc.1];omega
   rw [dC f] at b;have a:=zjc.stored k (.bool x);rw [set_mix (by simp [zS,hx.out]) (by rw [hrest.out];omega)] at a;have hs1:=za a;clear a;generalize ((zS l).take k++rest)[k]=o at b;exact yV01a1
  ·exact yV01a2
def zy (w:World) (base:Nat) (rows:List Value) (ls:List (List Int)):Prop:=
 rows.length=ls.length∧(∀ (i:Nat) (row:Value) (l:List Int),rows[i]?=some row->ls[i]?=some l->w.ownsRow base 3 1 row l.length (ints l)) ∧
  ∀ (i j:Nat) (ri rj:Value) (b:Nat),rows[i]?=some ri->rows[j]?=some rj->i≠j->ri.ownBlock=some b->rj.ownBlock≠some b
theorem zy.nil (w:World) (base:Nat):zy w base [] []:=⟨rfl,fun i row l h=>by simp at h,fun i j ri rj b h=>by simp at h⟩
theorem zy.ext (h:zy w base rows ls)(hb:Ext w w'):zy w' base rows ls:=
 ⟨h.1,fun i row l hr hl=>zg (h.2.1 i row l hr hl) hb,h.2.2⟩
theorem zy.row (h:zy w base rows ls)  {row:Value}(hr:rows[i]?=some row):∃ l,ls[i]?=some l∧w.ownsRow base 3 1 row l.length (ints l):=by
 have b:i<rows.length:=(List.getElem?_eq_some_iff.1 hr).1;have a:ls[i]?=some (ls[i]'(by rw [← h.1];exact b)):=dC _;exact⟨_,a,h.2.1 i row _ hr a⟩
theorem zy.frm (h:zy w base rows ls)(hb:Frm S w w')(hS:∀ (i:Nat) (row:Value) (b:Nat),rows[i]?=some row->row.ownBlock=some b->¬ S b):zy w' base rows ls:=
 ⟨h.1,fun i row l hr hl=>zh (h.2.1 i row l hr hl) hb (fun b hb=>hS i row b hr hb),h.2.2⟩
theorem zy.snoc (h:zy w base rows ls)(hb:Ext w w') {row:Value} {l:List Int}(hbase:base<=w.heap.size)(hrow:w'.ownsRow w.heap.size 3 1 row l.length (ints l)) :
  zy w' base (rows++[row]) (ls++[l]):=by
 have c:=h.1;refine⟨by simp [c],fun i r m hr hm=>?_,fun i j ri rj b hri hrj hij hbi=>?_⟩
 ·rcases Nat.lt_trichotomy i rows.length with a|a|a
  ·rw [eI a] at hr;rw [eI oM] at hm;exact zg (h.2.1 i r m hr hm) hb
  ·rw [eM oM,a,fO] at hr;rw [eM oM,a,c,fO] at hm;simp at hr hm;subst hr;subst hm;exact zr hrow hbase
  ·rw [eP (by simp;omega)] at hr;cases hr
 ·have g:∀ (i:Nat) (r:Value) (b:Nat),i<rows.length->rows[i]?=some r->r.ownBlock=some b->b<w.heap.size:=fun i r b a hr hb=>by
   obtain⟨m,_,o⟩:=h.row hr;exact (o.lt b hb).2
  have f:∀ b,row.ownBlock=some b->w.heap.size<=b:=fun b hb=>(hrow.lt b hb).1;have a:i<=rows.length:=by have:=(List.getElem?_eq_some_iff.1 hri).1;simp at this;omega
  have d:j<=rows.length:=by have:=(List.getElem?_eq_some_iff.1 hrj).1;simp at this;omega
  rcases e6 a with a|a<;>rcases e6 d with d|d
  ·rw [eI a] at hri;rw [eI d] at hrj;exact h.2.2 i j ri rj b hri hrj hij hbi
  ·rw [eI a] at hri;subst d;simp at hrj;subst hrj;intro hc;have k:=g i ri b a hri hbi;have n:=f b hc;omega
  ·rw [eI d] at hrj;subst a;simp at hri;subst hri;intro hc;have k:=g j rj b d hrj hc;have n:=f b hbi;omega
  ·omega
def zeS (w:World) (base:Nat) (v:Value) (ls:List (List Int)):Prop:=∃ rows,w.ownsRow base 128 1 v ls.length rows∧zy w base rows ls
theorem zeS.ext (h:zeS w base v ls)(hb:Ext w w'):zeS w' base v ls:=by
 obtain⟨a,b,c⟩:=h;exact⟨a,zg b hb,c.ext hb⟩
theorem zy.keep (h:zy w base rows ls)(hb:Frm S w w')(hS:∀ b,base<=b->¬ S b):zy w' base rows ls:=
 ⟨h.1,fun i row l hr hl=>zct (h.2.1 i row l hr hl) hb hS,h.2.2⟩
theorem zy.less (h:zy w base rows ls)(hb:base'<=base):zy w base' rows ls:=
 ⟨h.1,fun i row l hr hl=>zr (h.2.1 i row l hr hl) hb,h.2.2⟩
theorem zeS.keep (h:zeS w base v ls)(hb:Frm S w w')(hS:∀ b,base<=b->¬ S b):zeS w' base v ls:=by
 obtain⟨a,c,d⟩:=h;exact⟨a,zct c hb hS,d.keep hb hS⟩
theorem zeS.less (h:zeS w base v ls)(hb:base'<=base):zeS w base' v ls:=by
 obtain⟨a,b,c⟩:=h;exact⟨a,zr b hb,c.less hb⟩
theorem zeS.reads (h:zeS w base (.slice A n c) ls)(hn:n=ls.length):zax w base w.heap.size A n ls:=by
 obtain⟨a,j,b⟩:=h;subst hn;refine⟨rfl,a,Reads.ae j,b.1,fun i row l hr hl=>?_⟩;have d:=b.2.1 i row l hr hl;obtain⟨f,g,rfl⟩:=zi d;exact⟨f,g,rfl,Reads.ae d⟩
theorem rows_store {row:Value}  (zjc:w.ownsRow base 128 1 (.slice (some g) n cap) n (rows++rest))(hk:rows.length=k)(hr:0<rest.length)
  (hrows:zy w base (rows++[row]) ls) :
  (w.setCell ⟨g,k,none⟩ row).ownsRow base 128 1 (.slice (some g) n cap) n ((rows++[row])++rest.tail)∧zy (w.setCell ⟨g,k,none⟩ row) base (rows++[row]) ls:=by
 refine⟨?_,hrows.frm (Frm.setCell w g k row) fun i r b hr hb=>?_⟩
 ·have h:=(zjc.stored k row).1;rw [set_end row hk hr] at h;exact h
 ·rintro rfl;obtain⟨l,_,a⟩:=hrows.row hr;exact zaP a zjc dM hb rfl
theorem toIntSS_any (lo hi:Nat) (A:Option Addr) (n c:Nat) (ls:List (List Int)) (w:World)(h:zax w lo hi A n ls)(hn:ls.length+tot ls<=1048576) :
  Calls Tryz.prog 60 #[.slice A n c] w fun e w'=>e=.returned (.slice (some w.heap.size) n n)∧zeS w' w.heap.size (.slice (some w.heap.size) n n) ls∧Ext w w':=by
 have H:n<=ls.length∧ls.length<=n:=oH h.1;have j:∀ (k:Nat) (l:List Int),ls[k]?=some l->l.length<=1048576:=fun k l o=>by
  have F:=zbk o;have G:=zcd ls (k+1);omega
 have m:=za j;clear j
 go_enter Tryz.func60,Tryz.ntmps60
 go_wp2_with (at_make;refine zas w _ rfl _ _ 25 rfl 128 _ 1 24 Tryz.underlying25 zdl _ _ n rfl rfl (Ext.refl _) oM lM ?_;intro w1 hext1 zjl _ hsz1)
 go_loopw [4] (fun i wr=>∃ k:Nat,k<=n∧i=.int .i64 k∧∃ a rest:List Value,Hid (rest.length=n - k)∧wr.ownsRow w.heap.size 128 1 (.slice (some w.heap.size) n n) n (a++rest)∧zy wr w.heap.size a (ls.take k)∧Ext w wr)
  (fun i _=>n - (intOf i).toNat)
 case atStart=>exact⟨0,eD _,rfl,[],_,by have:=zjl.1;simp at this;unfold Hid;omega,by simpa using zjl,zy.nil _ _,hext1⟩
 case round =>
  obtain⟨k,I,rfl,a,rest,hrest,zjc,b,zje⟩:=hrel
  by_cases hlt:k<n
  ·obtain⟨D,C,E,l,rfl,y,x,o,p,r⟩:=(h.ext zje).row hlt;have q:=m.out k l o.out;have z:a.length<=k∧k<=a.length:=by have:=b.1;simp at this;omega
   go_wp2_with (go_at_call 121;refine (toIntS_any _ _ _ _ _ _ _ r q).mono ?_;rintro e J ⟨rfl,t,d⟩;have f:=zg zjc d;have v:=f.frozenAt k;obtain⟨B,u⟩:=zab f k oM)
   have s:=b.snoc d zje.size t;have g:=rows_store (k:=k) f oM (by rw [hrest.out];omega) s;go_roundw
   case rel=>exact⟨k+1,oM,gM,_,rest.tail,by have:=hrest.out;unfold Hid;rw [List.length_tail];omega,g.1,by rw [eH,o.out];exact g.2,(zje.trans d).frm (Frm.setCell _ _ _ _) oM⟩
   case measure=>simp [intOf];omega
  ·obtain rfl:k=n:=oM;go_wp2;go_ret;have:rest=[]:=eK (by rw [hrest.out];omega);subst this;rw [eE oM] at b;refine⟨rfl,⟨a,?_,b⟩,zje⟩;rw [← h.1];simpa using zjc
def zY (w:World) (base:Nat) (A:Option Addr) (n c:Nat) (A':Option Addr) (n' c':Nat) (a:Aut):Prop:=
 zeS w base (.slice A n c) a.next∧n=a.next.length∧w.ownsRow base 4 1 (.slice A' n' c') n' (zS a.acc)∧n'=a.acc.length
theorem zY.ext {a:Aut}(h:zY w base A n c A' n' c' a)(hb:Ext w w'):zY w' base A n c A' n' c' a:=
 ⟨h.1.ext hb,h.2.1,zg h.2.2.1 hb,h.2.2.2⟩
theorem zY.keep {a:Aut}(h:zY w base A n c A' n' c' a)(hb:Frm S w w')(hS:∀ b,base<=b->¬ S b):zY w' base A n c A' n' c' a:=
 ⟨h.1.keep hb hS,h.2.1,zct h.2.2.1 hb hS,h.2.2.2⟩
theorem zY.less {a:Aut}(h:zY w base A n c A' n' c' a)(hb:base'<=base):zY w base' A n c A' n' c' a:=
 ⟨h.1.less hb,h.2.1,zr h.2.2.1 hb,h.2.2.2⟩
theorem zY.reads {a:Aut}(h:zY w base A n c A' n' c' a):zC w base w.heap.size A n A' n' a:=
 ⟨h.1.reads h.2.1,h.2.2.2,Reads.ae h.2.2.1⟩
def RetAut (w:World) (a:Aut) (e:Ending) (w':World):Prop:=
 ∃ A n c A' n' c',e=.returned (.agg #[a.al,.slice A n c,.slice A' n' c'])∧zY w' w.heap.size A n c A' n' c' a∧Ext w w'
theorem toAutomaton_any (lo hi:Nat) (A:Option Addr) (n c:Nat) (A':Option Addr) (n' c':Nat) (a:Aut) (w:World)(h:zC w lo hi A n A' n' a)(hs:a.size<=1048576) :
  Calls Tryz.prog 19 #[.agg #[a.al,.slice A n c,.slice A' n' c']] w (RetAut w a):=by
 have D:a.next.length+tot a.next<=1048576:=by unfold Aut.size at hs;omega
 have E:n'<=1048576:=by have:=h.n2;unfold Aut.size at hs;omega
 have t:=fun W (hW:Ext w W)=>h.1.ext hW;have j:=fun W (hW:Ext w W)=>h.2.2.ext hW;have u:=za t;have q:=za j;clear t j
 go_enter Tryz.func19,Tryz.ntmps19
 go_wp2_with (first
  |(go_at_call 60;refine (toIntSS_any _ _ _ _ _ _ _ (u.out _ ?_) D).mono ?_;exact (((Ext.refl _).alloc _).alloc _).alloc _;rintro e F ⟨rfl,m,f⟩;obtain⟨x,y,r⟩:=zM f;have I:=x.cell;have J:=r.cell;have L:=r.frozen;have l:=((((Ext.refl w).alloc _).alloc _).alloc _).trans f)
  |(go_at_call 61;refine (toBoolS_any _ _ _ _ _ _ _ (q.out _ ?_) E).mono ?_;exact l.setCell (by simp;omega) _;rintro e M ⟨rfl,o,d⟩;have g:=(y.far (p:=⟨w.heap.size+1+1,1,none⟩) sM _).ext d;have i:=(r.ab 1 _).ext d;have s:=g.cell;have B:=g.frozen;have z:=i.cell;have C:=i.frozen))
 have G:=f.size;have H:=d.size;simp only [World.size_alloc,World.size_setCell] at G H m o;refine bodyPost_ret (v:=.agg #[a.al,.slice (some ⟨w.heap.size+1+1+1,0,none⟩) n n,.slice (some F.heap.size) n' n']) (by simp [results,Tryz.results19,go_sem,s]) rfl ⟨_,_,_,_,_,_,rfl,⟨?_,h.n1,?_,h.n2⟩,?_⟩
 ·refine (m.keep (S:=fun k=>k<w.heap.size+3) ?_ (by intro b hb;omega)).less oM;exact (((((((Frm.refl _ _).cell sM _).ext d).cell sM _).cell sM _).cell sM _).cell sM _)
 ·refine zr (zct (S:=fun k=>k<w.heap.size+3) o ?_ (by intro b hb;omega)) oM;exact (((((Frm.refl _ _).cell sM _).cell sM _).cell sM _).cell sM _)
 ·exact ((((((l.setCell (by simp;omega) _).trans d).setCell (by simp;omega) _).setCell sM _).setCell sM _).setCell sM _)
section
open Go.ChangeShapes Go.WideShapes Go.Deep
theorem zfJ {α:Type} (f:α->Value) (V:Nat->Value):∀ len:Nat,(∀ r,r<len->∃ n,V r=f n)->∃ l:List α,l.length=len∧(fE len).map V=l.map f
 |0,_=>⟨[],rfl,rfl⟩
 |len+1,h=>by
  obtain⟨l,hl,he⟩:=zfJ f V len fun r hr=>h r oM
  obtain⟨n,hn⟩:=h len oM
  exact⟨l++[n],by simp [hl],by rw [iB,List.map_append,he];simp [hn]⟩
section
variable {H:Type} {enc:TypeId × Value->H} {P:Program} {w:World} {spare:Nat->Bool} {held:Bool}
theorem ziM {x:DataW H × List MemPlace}(ht:P.underlying t=some (.slice e))(hc:P.cellsOf e=1)(h:DataW.trod enc P w 0 spare held fuel t cs=some x) :
  ∃ (A:Option Addr) (n c:Nat) (V:Nat->Value) (k:Nat),cs=[.slice A n c]∧Reads w 0 w.heap.size 1 A n ((fE n).map V)∧∀ i,i<n->∃ y,DataW.trod enc P w 0 spare held k e [V i]=some y:=by
 rcases open_slice1 ht hc h with ⟨rfl,_⟩|⟨a,b,f,m,n,V,D,q,rfl,r,s,p,g,_,hx⟩
 ·exact⟨none,0,0,fun _=>undef,0,rfl,Reads.nil,fun i hi=>oM⟩
 ·have o:b<=m:=by rw [g];split<;>omega
  refine⟨some a,b,f,V,n,rfl,⟨sM,by unfold maxLen at p;omega,fun h0=>?_⟩,fun i hi=>⟨_,(hx i oM).2⟩⟩;have d:a.block<w.heap.size:=by
   have:=World.block_lt_of_cell? w _ (hx 0 oM).1;rwa [zfD] at this
  refine⟨a,rfl,eD _,d,fun j u hu=>?_⟩;have l:j<b:=by
   have:=(List.getElem?_eq_some_iff.1 hu).1;simpa using this
  rw [(hx j oM).1];simpa [l] using hu
theorem open_ints_ {x:DataW H × List MemPlace}(ht:P.underlying t=some (.slice e))(he:P.underlying e=some (.int .i64))(hc:P.cellsOf e=1)(h:DataW.trod enc P w 0 spare held fuel t cs=some x) :
  ∃ (A:Option Addr) (c:Nat) (l:List Int),cs=[.slice A l.length c]∧Reads w 0 w.heap.size 1 A l.length (ints l):=by
 obtain⟨A,n,c,V,k,rfl,a,d⟩:=ziM ht hc h;obtain⟨l,f,b⟩:=zfJ (Value.int .i64) V n fun r a=>by
  obtain⟨y,hy⟩:=d r a;obtain⟨m,b,_⟩:=DataW.trod_int he hy;exact⟨m,by simpa using b⟩
 subst f;rw [b] at a;exact⟨A,c,l,rfl,a⟩
theorem open_bools_ {x:DataW H × List MemPlace}(ht:P.underlying t=some (.slice e))(he:P.underlying e=some .bool)(hc:P.cellsOf e=1)(h:DataW.trod enc P w 0 spare held fuel t cs=some x) :
  ∃ (A:Option Addr) (c:Nat) (l:List Bool),cs=[.slice A l.length c]∧Reads w 0 w.heap.size 1 A l.length (zS l):=by
 obtain⟨A,n,c,V,k,rfl,a,d⟩:=ziM ht hc h;obtain⟨l,f,b⟩:=zfJ Value.bool V n fun r a=>by
  obtain⟨y,hy⟩:=d r a;obtain⟨m,b,_⟩:=DataW.trod_bool he hy;exact⟨m,by simpa using b⟩
 subst f;rw [b] at a;exact⟨A,c,l,rfl,a⟩
theorem zgY (V:Nat->Value):∀ n:Nat,(∀ i,i<n->∃ (A:Option Addr) (c:Nat) (l:List Int),V i=.slice A l.length c∧Reads w 0 w.heap.size 1 A l.length (ints l))->∃ ls:List (List Int),ls.length=n∧zdN w 0 w.heap.size ((fE n).map V) ls
 |0,_=>⟨[],rfl,rfl,fun i row l h=>by simp at h⟩
 |n+1,h=>by
  obtain⟨ls,hl,hr⟩:=zgY V n fun i hi=>h i oM;obtain⟨A,c,l,hv,hx⟩:=h n oM;refine⟨ls++[l],by simp [hl],by simp [hl],fun i row m hrow hm=>?_⟩;have hi:i<n+1:=by
   have:=(List.getElem?_eq_some_iff.1 hrow).1;simpa using this
  rcases e6 (Nat.le_of_lt_succ hi) with a|a
  ·refine hr.2 i row m ?_ ?_
   ·simp only [eL] at hrow ⊢;rw [gB oM] at hrow;rw [gB a];exact hrow
   ·rwa [eI oM] at hm
  ·subst a;simp at hrow;rw [eM oM,hl,fO] at hm;simp at hm;subst hm;subst hrow;exact⟨A,c,hv,hx⟩
theorem open_intss_ {x:DataW H × List MemPlace}(ht:P.underlying t=some (.slice e))(he:P.underlying e=some (.slice q))(hq:P.underlying q=some (.int .i64))(hc:P.cellsOf e=1)(hcq:P.cellsOf q=1)
  (h:DataW.trod enc P w 0 spare held fuel t cs=some x) :
  ∃ (A:Option Addr) (n c:Nat) (ls:List (List Int)),cs=[.slice A n c]∧zax w 0 w.heap.size A n ls:=by
 obtain⟨A,n,c,V,k,rfl,b,d⟩:=ziM ht hc h;obtain⟨ls,a,f⟩:=zgY (w:=w) V n fun i hi=>by
  obtain⟨y,hy⟩:=d i hi;obtain⟨A,c,l,a,b⟩:=open_ints_ he hq hcq hy;exact⟨A,c,l,by simpa using a,b⟩
 exact⟨A,n,c,ls,rfl,a.symm,_,b,f⟩
theorem open_aut {b:TypeId} {f0 f1 f2:Field}   {x:DataW H × List MemPlace}(ht:P.underlying t=some (.struct #[f0,f1,f2]))(hC:P.cellsOf t=3)
  (o0:f0.offset=0) (o1:f1.offset=1) (o2:f2.offset=2) (c0:P.cellsOf f0.type=1) (c1:P.cellsOf f1.type=1) (c2:P.cellsOf f2.type=1)
  (u0:P.underlying f0.type=some (.int .i64)) (u1:P.underlying f1.type=some (.slice e)) (ue:P.underlying e=some (.slice q)) (uq:P.underlying q=some (.int .i64)) (ce:P.cellsOf e=1) (cq:P.cellsOf q=1)
  (u2:P.underlying f2.type=some (.slice b)) (ub:P.underlying b=some .bool) (cb:P.cellsOf b=1)
  (h:DataW.trod enc P w 0 spare held fuel t cs=some x) :
  ∃ (a:Aut) (A:Option Addr) (n c:Nat) (A':Option Addr) (n' c':Nat),cs=[.int .i64 a.al,.slice A n c,.slice A' n' c']∧zC w 0 w.heap.size A n A' n' a:=by
 obtain⟨u,v,y,k,_,r,m,o,p⟩:=trod_struct3 ht h;rw [hC] at r
 match cs,r with
 |[v0,v1,v2],_ =>
  rw [o0,c0] at m;rw [o1,c1] at o;rw [o2,c2] at p;obtain⟨al,g,_⟩:=DataW.trod_int u0 m;obtain⟨A,n,c,s,i,d⟩:=open_intss_ u1 ue uq ce cq o;obtain⟨A',c',l,j,f⟩:=open_bools_ u2 ub cb p;simp at g i j;subst g;subst i;subst j;exact⟨⟨al,s,l⟩,A,n,c,A',_,c',rfl,d,rfl,f⟩
end
end
def zfO:Op->Bool
 |.move _ | .assign _ | .pick _ _ _ | .binOp _ _ _ _ _ | .unOp _ _ _ | .load _ _ | .fieldAddr _ _ _ | .field _ _ _ | .indexAddr _ _ _ | .index _ _ _ | .extract _ _ | .build _ _ | .slice _ _ _ _ _ | .convert _ _ _=>true
 |.call { callee:=.builtin .len,.. }=>true
 |.call { callee:=.builtin .cap,.. }=>true
 |_=>false
def okOrd (l:List Oper):List Nat->Array Bool->Bool
 |[],listed=>(Region.ready .any l.toArray listed).isEmpty
 |i :: rest,listed =>
  (match l[i]? with
   |some o=>if zfO o.op then Region.free .any l.toArray listed i&&(Region.ready .any l.toArray listed).contains i else Region.ready .any l.toArray listed==[i]
   |none=>false)&&okOrd l rest (listed.setIfInBounds i true)
def zeN (P:Program) (l:List Oper) (Q:Exit->Act->World->Prop) (S:World->Prop):List Nat->Act->World->Prop
 |[],a,w=>Q .normal a w
 |i :: rest,a,w=>match l[i]? with
  |some o=>if zfO o.op then ∃ v,YieldsIf P l.toArray S o v a∧S w∧zeN P l Q S rest (a.put o.dst v) w
   else wpOp P l.toArray Q i (fun a' w'=>S w'∧zeN P l Q S rest a' w') a w
  |none=>False
section
variable {P:Program} {l:List Oper} {Q:Exit->Act->World->Prop} {S:World->Prop}
theorem zgZ (hs:Region.noSelect l.toArray=true)(hQ:∀ (c:List PanicEntry) (a:Act) (d:Tmp) (v:Value) (w:World),Q (.panic c) (a.put (some d) v) w->Q (.panic c) a w) :
  ∀ (ord:List Nat) (listed:Array Bool) (a:Act) (w:World),okOrd l ord listed=true->zeN P l Q S ord a w->wpAnyH P .any l.toArray Q S ord.length listed a w
 |[],listed,a,w,hok,h=>by
  simp only [okOrd,List.isEmpty_iff] at hok
  exact wpAnyH_done hok h 0
 |i :: rest,listed,a,w,hok,h=>by
  cases ho:l[i]? with
  |none=>simp [okOrd,ho] at hok
  |some o =>
   simp only [okOrd,ho,eG] at hok
   simp only [zeN,ho] at h
   by_cases hq:zfO o.op=true
   ·rw [if_pos hq] at hok h
    simp only [eG] at hok
    obtain⟨v,hy,hS,hr⟩:=h
    exact wpAnyH_take (by simpa using ho) hs hok.1.1 hok.1.2 (fun c a w h=>by cases hd:o.dst with|none=>rw [hd] at h;exact h|some d=>rw [hd] at h;exact hQ c a d v w h) hy hS (zgZ hs hQ rest _ _ _ hok.2 hr)
   ·rw [if_neg hq] at hok h
    refine wpAnyH_all (rs:=[i]) (by simpa using hok.1) sM fun j hj=>?_
    rw [List.mem_singleton.1 hj]
    exact wpOp_mono (fun a' w' h=>⟨h.1,zgZ hs hQ rest _ _ _ hok.2 h.2⟩) h
theorem zad {id:Nat} {a:Act}  (S:World->Prop) (ord:List Nat)(hm:P.follows .mixedOrders=true)(hlen:ord.length=l.length)(hs:Region.noSelect l.toArray=true)(hok:okOrd l ord (Array.replicate l.length false)=true)
  (hQ:∀ (c:List PanicEntry) (a:Act) (d:Tmp) (v:Value) (w:World),Q (.panic c) (a.put (some d) v) w->Q (.panic c) a w) (hS:S w.drew) (h:S w.drew->zeN P l Q S ord a w.drew):(Code.region id l.toArray true).wp P Q a w:=by
 refine wp_region_held (S:=S) hm ?_;have:=zgZ hs hQ ord _ a w.drew hok (h hS);rw [hlen] at this;simpa using this
theorem zcC {a:Act} (h:Q .normal a w):zeN P l Q S [] a w:=h
theorem seq_read {rest:List Nat} {o:Oper}  {a:Act} (ho:l[i]?=some o)(hq:zfO o.op=true)(hw:Region.wanted o (yielded l.toArray a.tmps)=true)
  (hy:∀ W,S W->(execOp a.eval o).run P W=.ok (.value v) W) (hS:S w) (h:zeN P l Q S rest (a.put o.dst v) w):zeN P l Q S (i :: rest) a w:=by
 simp only [zeN,ho,hq,if_true];exact⟨v,.inl ⟨hw,hy⟩,hS,h⟩
theorem seq_skip {rest:List Nat} {o:Oper} {a:Act} (ho:l[i]?=some o)(hw:Region.wanted o (yielded l.toArray a.tmps)=false)
  (hS:S w) (h:zeN P l Q S rest (a.put o.dst undef) w):zeN P l Q S (i :: rest) a w:=by
 simp only [zeN,ho];split
 ·exact⟨undef,.inr ⟨hw,rfl⟩,hS,h⟩
 ·unfold wpOp;simp only [fP,ho,hw,Bool.false_eq_true,if_false];exact⟨hS,h⟩
theorem zW {rest:List Nat} {o:Oper} {a:Act} 
  (h:∀ K:Act->World->Prop,Shut (∀ a w,S w->(S w->zeN P l Q S rest a w)->K a w)->o.wp P a w K Q) (ho:l[i]?=some o:=by rfl) (hq:zfO o.op=false:=by rfl) (hw:Region.wanted o (yielded l.toArray a.tmps)=true:=by rfl):zeN P l Q S (i :: rest) a w:=by
 simp only [zeN,ho,hq];unfold wpOp;simp only [fP,ho,hw,if_true];exact .inl (h _ fun a w hS hW=>⟨hS,hW hS⟩)
end
theorem sQ {A B:Prop}(h:B) (k:Bx B->A:=by
 intro h0
 repeat (first|(refine seq_skip rfl rfl aM ?_;simp only [Act.put,List.setIfInBounds_toArray,List.set_cons_zero,List.set_cons_succ])|(refine seq_read (v:=?_) rfl rfl rfl (fun X hX=>?_) aM ?_;rotate_left;(focus (go_simp<;>with_reducible rfl));simp only [Act.put,List.setIfInBounds_toArray,List.set_cons_zero,List.set_cons_succ]))
 exact h0.out):A:=k ⟨h⟩
structure Edg where
 fr:Int
 le:Int
 ta:Int
deriving DecidableEq
structure Sys where
 al:Int
 st:Int
 edges:List Edg
def zx:List Edg->List Value
 |[]=>[]
 |e :: r=>.int .i64 e.fr :: .int .i64 e.le :: .int .i64 e.ta :: zx r
theorem zar (l:List Edg):(zx l).length=l.length*3:=by
 induction l with
 |nil=>rfl
 |cons e r ih=>simp only [zx,List.length_cons,ih];omega
theorem zbs (l m:List Edg):zx (l++m)=zx l++zx m:=by
 induction l with
 |nil=>rfl
 |cons e r ih=>simp [zx,ih]
theorem zdz {l:List Edg}  {e:Edg}(h:l[k]?=some e):(zx l)[k*3]?=some (.int .i64 e.fr)∧(zx l)[k*3+1]?=some (.int .i64 e.le)∧(zx l)[k*3+2]?=some (.int .i64 e.ta):=by
 induction l generalizing k with
 |nil=>simp at h
 |cons a r ih =>
  cases k with
  |zero=>simp at h;subst h;exact⟨rfl,rfl,rfl⟩
  |succ k =>
   have:=ih (k:=k) (by simpa using h);have b:(k+1)*3=k*3+1+1+1:=oM;refine⟨?_,?_,?_⟩<;>rw [b]<;>simp only [zx,List.getElem?_cons_succ]
   ·exact this.1
   ·exact this.2.1
   ·exact this.2.2
theorem zeW {ad:Addr} (h:w.cell? (ad.add 0)=some v):ad=⟨ad.block,ad.off,none⟩:=by
 rw [addr_zero] at h;obtain⟨b,o,s⟩:=ad;have a:s=none:=World.cell?_spot h;subst a;rfl
theorem Reads.ar {l:List Edg}(h:Reads w lo hi 3 A n (zx l))(hk:k<n) :
  ∃ b o e,A=some ⟨b,o,none⟩∧lo<=b∧b<hi∧Hid (l[k]?=some e)∧w.cell? ⟨b,o+k*3,none⟩=some (.int .i64 e.fr)∧w.cell? ⟨b,o+k*3+1,none⟩=some (.int .i64 e.le)∧w.cell? ⟨b,o+k*3+2,none⟩=some (.int .i64 e.ta):=by
 obtain⟨i,p,r,q,a⟩:=h.at_ hk;have s:l.length=n:=by have:=h.length;rw [zar] at this;omega
 have hx:l[k]?=some l[k]:=dC oM;have g:=zdz hx;have c:=a _ _ g.1;have d:=a _ _ g.2.1;have f:=a _ _ g.2.2;have m:=zdz (k:=0) (dC (l:=l) oM);rw [Nat.zero_mul] at m;have j:=zeW (a _ _ m.1);rw [j] at c d f;rw [zaI] at c d f;exact⟨i.block,i.off,l[k],by rw [p,j],r,q,hx,c,by rw [fV];exact d,by rw [fV];exact f⟩
theorem Reads.edge2 {l:List Edg} {e:Edg}(h:Reads w lo hi 3 (some ⟨b,o,none⟩) n (zx l))(he:l[j]?=some e) :
  w.cell? ⟨b,o+j*3,none⟩=some (.int .i64 e.fr)∧w.cell? ⟨b,o+j*3+1,none⟩=some (.int .i64 e.le)∧w.cell? ⟨b,o+j*3+2,none⟩=some (.int .i64 e.ta):=by
 have p:j<l.length:=(List.getElem?_eq_some_iff.1 he).1;have q:l.length=n:=by have:=h.length;rw [zar] at this;omega
 obtain⟨m,a,_,_,c⟩:=h.at_ (k:=j) oM;injection a with a
 subst a;have d:=zdz he;have f:=c _ _ d.1;have g:=c _ _ d.2.1;have i:=c _ _ d.2.2;rw [zaI] at f g i;exact⟨f,by rw [fV];exact g,by rw [fV];exact i⟩
def zN (w:World) (lo hi:Nat) (A:Option Addr) (n:Nat) (s:Sys):Prop:=n=s.edges.length∧Reads w lo hi 3 A n (zx s.edges)
section
variable {w w':World} {lo hi n:Nat} {A:Option Addr} {s:Sys}
theorem zN.ext (h:zN w lo hi A n s)(hb:Ext w w'):zN w' lo hi A n s:=⟨h.1,h.2.ext hb⟩
theorem zN.frm (h:zN w lo hi A n s)(hb:Frm S w w')(hS:∀ k,lo<=k->k<hi->¬ S k):zN w' lo hi A n s:=⟨h.1,h.2.frm hb hS⟩
theorem zN.more (h:zN w lo hi A n s)(hL:lo'<=lo)(hH:hi<=hi'):zN w lo' hi' A n s:=⟨h.1,h.2.more hL hH⟩
end
theorem szEdgeS_any (hn:n<=9223372036854775807)(h0:0<=left)(h1:left<=1048576) :
  Calls Tryz.prog 55 #[.slice A n c,left] w fun e w'=>e=.returned (.int .i64 (leftOf left n))∧w=w':=by
 by_cases h:left - n<0
 all_goals
  go_enter Tryz.func55,Tryz.ntmps55
  go_wp2;go_ret;exact⟨zG (by unfold leftOf;split<;>omega),rfl⟩
theorem zgb {al st:Int} (hn:n<=9223372036854775807)(h0:0<=left)(h1:left<=1048576) :
  Calls Tryz.prog 15 #[.agg #[al,st,.slice A n c],left] w fun e w'=>e=.returned (.int .i64 (leftOf left n))∧Ext w w':=by
 have a:=zfi left n
 by_cases h:leftOf left n<0
 all_goals
  go_enter Tryz.func15,Tryz.ntmps15
  go_wp2_with (go_at_call 55;refine (szEdgeS_any hn h0 h1).mono ?_;rintro e w' ⟨rfl,rfl⟩)
  go_ret;exact⟨zG oM,(Ext.refl _).alloc _⟩
theorem toEdge_any {e:Edg}  :
  Calls Tryz.prog 120 #[.agg #[e.fr,e.le,e.ta]] w fun r w'=>r=.returned (.agg #[e.fr,e.le,e.ta])∧Ext w w':=by
 go_enter Tryz.func120,Tryz.ntmps120
 go_wp2;refine bodyPost_ret (v:=.agg #[e.fr,e.le,e.ta]) (by simp [results,Tryz.results120,go_sem]) rfl ⟨rfl,?_⟩;exact (((Ext.refl _).alloc _).alloc _).alloc _
theorem zgL:(Tryz.prog.info? 152).map (fun i=>(i.zero,i.size,i.bytes))=some (some (.agg #[(0:Int),(0:Int),(0:Int)]),3,24):=kM
theorem zfL (h:w.ownsRow base e 3 (.slice (some g) n cap) n xs) (j:Nat) (u v x:Value) :
  (((w.setCell ⟨g,j,none⟩ u).setCell ⟨g,j+1,none⟩ v).setCell ⟨g,j+2,none⟩ x).ownsRow base e 3 (.slice (some g) n cap) n (((xs.set j u).set (j+1) v).set (j+2) x):=
 (((h.stored j u).1.stored (j+1) v).1.stored (j+2) x).1
theorem zhZ {l:List Edg}   {e:Edg}(he:l[k]?=some e)(hr:3<=rest.length) :
  (((zx (l.take k)++rest).set (k*3) (.int .i64 e.fr)).set (k*3+1) (.int .i64 e.le)).set (k*3+2) (.int .i64 e.ta)=zx (l.take (k+1))++rest.drop 3:=by
 have f:k<l.length:=(List.getElem?_eq_some_iff.1 he).1;have d:(zx (l.take k)).length=k*3:=by rw [zar,fH,Nat.min_eq_left oM]
 match rest,hr with
 |a :: b :: c :: r,_ =>
  rw [fL _ _ oM,d,fO,fL _ _ oM,d,fL _ _ oM,d,eH,he,zbs];rw [show k*3+1 - k*3=1 from oM,show k*3+2 - k*3=2 from by omega];simp [zx]
def OwnE (w:World) (base:Nat) (A:Option Addr) (n c:Nat) (l:List Edg):Prop:=n=l.length∧w.ownsRow base 152 3 (.slice A n c) n (zx l)
theorem OwnE.ext {l:List Edg}(h:OwnE w base A n c l)(hb:Ext w w'):OwnE w' base A n c l:=⟨h.1,zg h.2 hb⟩
theorem OwnE.keep {l:List Edg}(h:OwnE w base A n c l)(hb:Frm S w w')(hS:∀ b,base<=b->¬ S b):OwnE w' base A n c l:=⟨h.1,zct h.2 hb hS⟩
theorem OwnE.less {l:List Edg}(h:OwnE w base A n c l)(hb:base'<=base):OwnE w base' A n c l:=⟨h.1,zr h.2 hb⟩
theorem OwnE.reads {s:Sys}(h:OwnE w base A n c s.edges):zN w base w.heap.size A n s:=⟨h.1,Reads.ae h.2⟩
theorem toEdgeS_any {l:List Edg} (h:Reads w lo hi 3 A n (zx l))(hn:n<=1048576) :
  Calls Tryz.prog 59 #[.slice A n c] w fun e w'=>e=.returned (.slice (some w.heap.size) n n)∧OwnE w' w.heap.size (some ⟨w.heap.size,0,none⟩) n n l∧Ext w w':=by
 have g:l.length=n:=by have:=h.length;rw [zar] at this;omega
 have Hl:=za g;clear g
 go_enter Tryz.func59,Tryz.ntmps59
 go_wp2_with (at_make;refine zas w _ rfl _ _ 36 rfl 152 _ 3 24 Tryz.underlying36 zgL _ _ n rfl rfl (Ext.refl _) oM lM ?_;intro w1 hext1 zjl _ hsz1)
 go_loopw [4] (fun i wr=>∃ k:Nat,k<=n∧i=.int .i64 k∧∃ rest:List Value,Hid (rest.length=(n - k)*3)∧wr.ownsRow w.heap.size 152 3 (.slice (some w.heap.size) n n) n (zx (l.take k)++rest)∧Ext w wr)
  (fun i _=>n - (intOf i).toNat)
 case atStart=>exact⟨0,eD _,rfl,_,by have:=zjl.1;unfold Hid;rw [this];omega,by simpa [zx] using zjl,hext1⟩
 case round =>
  obtain⟨k,C,rfl,rest,hrest,zjc,zje⟩:=hrel
  by_cases hlt:k<n
  ·obtain⟨b,o,e,rfl,p,m,j,q,s,t⟩:=(h.ext zje).ar hlt;go_wp2_with (go_at_call 120;refine (toEdge_any (e:=e)).mono ?_;rintro r G ⟨rfl,d⟩;have a:=zg zjc d;obtain⟨D,u⟩:=zab a (k*3) oM;obtain⟨E,v⟩:=zab a (k*3+1) oM;obtain⟨F,x⟩:=zab a (k*3+2) oM;have y:=a.frozenAt (k*3);have z:=a.frozenAt (k*3+1);have B:=a.frozenAt (k*3+2))
   have f:=zfL a (k*3) (.int .i64 e.fr) (.int .i64 e.le) (.int .i64 e.ta);rw [zhZ j.out (oH hrest.out)] at f;go_roundw
   case rel=>exact⟨k+1,oM,gM,rest.drop 3,by have:=hrest.out;unfold Hid;rw [iE];omega,f,(((zje.trans d).setCell (by dsimp only;omega) _).setCell (by dsimp only;omega) _).setCell (by dsimp only;omega) _⟩
   case measure=>simp [intOf];omega
  ·obtain rfl:k=n:=oM;go_wp2;go_ret;have:rest=[]:=eK (oH hrest.out);subst this;rw [eE (oH Hl.out)] at zjc;exact⟨rfl,⟨Hl.out.symm,by simpa using zjc⟩,zje⟩
theorem ziw {α:Type} [BEq α] [LawfulBEq α] {l m:List α}  {x y:α}(hx:l[k]?=some x)(hy:m[k]?=some y)(h:(x==y)=false):(l==m)=false:=by
 rw [beq_eq_false_iff_ne];rintro rfl;rw [hx] at hy;injection hy with hy
 subst hy;simp at h
theorem ziv {α:Type} [BEq α] [LawfulBEq α] {l m:List α}  {x y:α}(hx:l[k]?=some x)(hy:m[k]?=some y)(h:(x==y)=true)(hk:l.take k=m.take k):l.take (k+1)=m.take (k+1):=by
 rw [eH,eH,hx,hy,hk,eq_of_beq h]
theorem eq_end {α:Type} [BEq α] [LawfulBEq α] {l m:List α} (h1:l.length<=k)(h2:m.length<=k)(hk:l.take k=m.take k):(l==m)=true:=by
 rw [eE h1,eE h2] at hk;simp [hk]
theorem ziu {α:Type} [BEq α] [LawfulBEq α] {l m:List α}(h:l.length≠m.length):(l==m)=false:=by
 rw [beq_eq_false_iff_ne];rintro rfl;exact h rfl
theorem yV01a4 {P:Prop}(h:P:=by
 obtain rfl:k=n:=oM;go_wp2;go_ret;exact⟨zm (by rw [eq_end (oH Hl.out) (oH Hl'.out) heq.out]),zje⟩
 ):P:=h
theorem eqIntS_any (lo hi lo' hi':Nat) (A:Option Addr) (n c:Nat) (B:Option Addr) (m d:Nat) (l l':List Int) (w:World)(h:Reads w lo hi 1 A n (ints l))(h':Reads w lo' hi' 1 B m (ints l')) :
  Calls Tryz.prog 123 #[.slice A n c,.slice B m d] w fun e w'=>e=.returned (.bool (l==l'))∧Ext w w':=by
 have s:=h.len;have r:=h'.len;have b:l.length=n:=by have:=h.length;rw [zbZ] at this;omega
 have a:l'.length=m:=by have:=h'.length;rw [zbZ] at this;omega
 have Hl:=za b;have Hl':=za a;clear b a
 by_cases he:n=m
 ·subst he
  go_enter Tryz.func123,Tryz.ntmps123
  go_wp2
  go_loopw [5] (fun i wr=>∃ k:Nat,k<=n∧i=.int .i64 k∧Hid (l.take k=l'.take k)∧Ext w wr) (fun i _=>n - (intOf i).toNat)
  case atStart=>exact⟨0,eD _,rfl,rfl,Ext.refl _⟩
  case round =>
   obtain⟨k,q,rfl,heq,zje⟩:=hrel
   by_cases hlt:k<n
   ·obtain⟨o,x,rfl,_,_,hx,p⟩:=(h.ext zje).int hlt;obtain⟨f,y,rfl,_,_,hy,g⟩:=(h'.ext zje).int hlt;cases hb:x != y
    ·go_wp2
     go_quiet (fail)
     go_wp2;go_roundw
     case rel=>exact⟨k+1,oM,gM,ziv hx.out hy.out (by simpa using hb) heq.out,zje.drewN _⟩
     case measure=>simp [intOf];omega
    ·go_wp2
     go_quiet (fail)
     go_wp2;go_ret;exact⟨zm (by rw [ziw hx.out hy.out (by simpa using hb)]),zje.drewN _⟩
   ·exact yV01a4
 ·have j:((n:Int) != (m:Int))=true:=by simp;omega
  go_enter Tryz.func123,Tryz.ntmps123
  go_wp2;go_ret;exact⟨zm (by rw [ziu (by rw [Hl.out,Hl'.out];exact he)]),Ext.refl _⟩
theorem eqBoolS_any (lo hi lo' hi':Nat) (A:Option Addr) (n c:Nat) (B:Option Addr) (m d:Nat) (l l':List Bool) (w:World)(h:Reads w lo hi 1 A n (zS l))(h':Reads w lo' hi' 1 B m (zS l')) :
  Calls Tryz.prog 64 #[.slice A n c,.slice B m d] w fun e w'=>e=.returned (.bool (l==l'))∧Ext w w':=by
 have s:=h.len;have r:=h'.len;have b:l.length=n:=by have:=h.length;rw [zaO] at this;omega
 have a:l'.length=m:=by have:=h'.length;rw [zaO] at this;omega
 have Hl:=za b;have Hl':=za a;clear b a
 by_cases he:n=m
 ·subst he
  go_enter Tryz.func64,Tryz.ntmps64
  go_wp2
  go_loopw [5] (fun i wr=>∃ k:Nat,k<=n∧i=.int .i64 k∧Hid (l.take k=l'.take k)∧Ext w wr) (fun i _=>n - (intOf i).toNat)
  case atStart=>exact⟨0,eD _,rfl,rfl,Ext.refl _⟩
  case round =>
   obtain⟨k,q,rfl,heq,zje⟩:=hrel
   by_cases hlt:k<n
   ·obtain⟨o,x,rfl,_,_,hx,p⟩:=(h.ext zje).bool hlt;obtain⟨f,y,rfl,_,_,hy,g⟩:=(h'.ext zje).bool hlt;cases hb:x==y
    ·go_wp2
     go_quiet (fail)
     go_wp2;go_ret;exact⟨zm (by rw [ziw hx.out hy.out hb]),zje.drewN _⟩
    ·go_wp2
     go_quiet (fail)
     go_wp2;go_roundw
     case rel=>exact⟨k+1,oM,gM,ziv hx.out hy.out hb heq.out,zje.drewN _⟩
     case measure=>simp [intOf];omega
   ·exact yV01a4
 ·have j:((n:Int) != (m:Int))=true:=by simp;omega
  go_enter Tryz.func64,Tryz.ntmps64
  go_wp2;go_ret;exact⟨zm (by rw [ziu (by rw [Hl.out,Hl'.out];exact he)]),Ext.refl _⟩
theorem yV01a3 {P:Prop}(h:P:=by
 go_roundw
 case rel=>exact⟨k+1,oM,gM,ziv hx.out hy.out Hb.out heq.out,zje.trans aM⟩
 case measure=>simp [intOf];omega
 ):P:=h
theorem zgE (lo hi lo' hi':Nat) (A:Option Addr) (n c:Nat) (B:Option Addr) (m d:Nat) (l l':List (List Int)) (w:World)(h:zax w lo hi A n l)(h':zax w lo' hi' B m l') :
  Calls Tryz.prog 63 #[.slice A n c,.slice B m d] w fun e w'=>e=.returned (.bool (l==l'))∧Ext w w':=by
 have F:=h.len;have E:=h'.len;have Hl:=za h.1;have Hl':=za h'.1
 by_cases he:n=m
 ·subst he
  go_enter Tryz.func63,Tryz.ntmps63
  go_wp2
  go_loopw [5] (fun i wr=>∃ k:Nat,k<=n∧i=.int .i64 k∧Hid (l.take k=l'.take k)∧Ext w wr) (fun i _=>n - (intOf i).toNat)
  case atStart=>exact⟨0,eD _,rfl,rfl,Ext.refl _⟩
  case round =>
   obtain⟨k,D,rfl,heq,zje⟩:=hrel
   by_cases hlt:k<n
   ·obtain⟨r,p,s,x,rfl,_,_,hx,u,j⟩:=(h.ext zje).row hlt;obtain⟨b,q,t,y,rfl,_,_,hy,f,a⟩:=(h'.ext zje).row hlt;have v:∀ W,Ext wr W->W.cell? (r.add k)=some (.slice p x.length s):=fun W hW=>hW.aa u;have o:∀ W,Ext wr W->W.cell? (b.add k)=some (.slice q y.length t):=fun W hW=>hW.aa f;have C:=Ext.refl wr;cases hb:x==y
    all_goals
     have Hb:=za hb;clear hb;go_wp2_with fail
     go_region_held3 (fun W=>Ext wr W) (first|assumption|(refine Ext.drew ?_;assumption)|(refine Ext.trans ?_ aM;assumption)|(refine Ext.trans ?_ aM;refine Ext.drew ?_;assumption)) ((go_at_call 123;refine (eqIntS_any _ _ _ _ _ _ _ _ _ _ _ _ _ (j.ext ?_) (a.ext ?_)).mono ?_;assumption;assumption;rw [Hb.out];rintro e G ⟨rfl,g⟩))
     go_wp2
    ·go_ret;exact⟨zm (by rw [ziw hx.out hy.out Hb.out]),zje.trans aM⟩
    ·exact yV01a3
   ·exact yV01a4
 ·have z:((n:Int) != (m:Int))=true:=by simp;omega
  go_enter Tryz.func63,Tryz.ntmps63
  go_wp2;go_ret;exact⟨zm (by rw [ziu (by rw [← Hl.out,← Hl'.out];exact he)]),Ext.refl _⟩
def autEq (a b:Aut):Bool:=decide (a.al=b.al)&&(a.next==b.next&&a.acc==b.acc)
theorem zhF (a:Aut):autEq a a=true:=by simp [autEq]
theorem zdP (lo hi lo' hi':Nat) (A:Option Addr) (n c:Nat) (A':Option Addr) (n' c':Nat) (B:Option Addr) (m d:Nat) (B':Option Addr) (m' d':Nat) (a b:Aut) (w:World)(h:zC w lo hi A n A' n' a)(h':zC w lo' hi' B m B' m' b) :
  Calls Tryz.prog 23 #[.agg #[a.al,.slice A n c,.slice A' n' c'],.agg #[b.al,.slice B m d,.slice B' m' d']] w fun e w'=>e=.returned (.bool (autEq a b))∧Ext w w':=by
 have r:=fun W (hW:Ext w W)=>h.ext hW;have l:=za r;have k:=fun W (hW:Ext w W)=>h'.ext hW;have g:=za k;clear r k
 by_cases h0:a.al=b.al
 ·have q:(a.al != b.al)=false:=by simp [h0]
  have s:=za h0;clear h0;cases h1:a.next==b.next
  ·have j:=za h1;clear h1
   go_enter Tryz.func23,Tryz.ntmps23
   go_wp2_with (go_at_call 63;refine (zgE _ _ _ _ _ _ _ _ _ _ _ _ _ (l.out _ ?_).1 (g.out _ ?_).1).mono ?_;exact ((Ext.refl _).alloc _).alloc _;exact ((Ext.refl _).alloc _).alloc _;rw [j.out];rintro e v ⟨rfl,f⟩;obtain⟨o,p⟩:=zH f;have t:=o.cell;have u:=p.cell)
   go_ret;exact⟨zm (by rw [autEq,j.out];simp),(((Ext.refl _).alloc _).alloc _).trans f⟩
  ·have j:=za h1;clear h1
   go_enter Tryz.func23,Tryz.ntmps23
   go_wp2_with (first
    |(go_at_call 63;refine (zgE _ _ _ _ _ _ _ _ _ _ _ _ _ (l.out _ ?_).1 (g.out _ ?_).1).mono ?_;exact ((Ext.refl _).alloc _).alloc _;exact ((Ext.refl _).alloc _).alloc _;rw [j.out];rintro e v ⟨rfl,f⟩;obtain⟨o,p⟩:=zH f;have t:=o.cell;have u:=p.cell)
    |(go_at_call 64;refine (eqBoolS_any _ _ _ _ _ _ _ _ _ _ _ _ _ (l.out _ ?_).2.2 (g.out _ ?_).2.2).mono ?_;exact (((Ext.refl _).alloc _).alloc _).trans f;exact (((Ext.refl _).alloc _).alloc _).trans f;rintro e x ⟨rfl,i⟩))
   all_goals go_ret
   all_goals exact⟨zm (by rw [autEq,j.out,s.out];simp_all),((((Ext.refl _).alloc _).alloc _).trans f).trans i⟩
 ·have q:(a.al != b.al)=true:=by simp [h0]
  go_enter Tryz.func23,Tryz.ntmps23
  go_wp2;go_ret;exact⟨zm (by rw [autEq];simp [h0]),((Ext.refl _).alloc _).alloc _⟩
def RetSys (w:World) (s:Sys) (e:Ending) (w':World):Prop:=
 ∃ A n c,e=.returned (.agg #[s.al,s.st,.slice A n c])∧OwnE w' w.heap.size A n c s.edges∧Ext w w'
theorem toSystem_any {s:Sys} (h:zN w lo hi A n s)(hn:n<=1048576) :
  Calls Tryz.prog 18 #[.agg #[s.al,s.st,.slice A n c]] w (RetSys w s):=by
 have j:=fun W (hW:Ext w W)=>h.2.ext hW;have l:=za j;clear j
 go_enter Tryz.func18,Tryz.ntmps18
 go_wp2_with (go_at_call 59;refine (toEdgeS_any (l.out _ ?_) hn).mono ?_;exact (((Ext.refl _).alloc _).alloc _).alloc _;rintro e x ⟨rfl,d,a⟩;obtain⟨m,g,i⟩:=zM a;have q:=m.cell;have o:=g.cell;have r:=i.cell;have t:=g.frozen;have u:=i.frozen;have f:=((((Ext.refl w).alloc _).alloc _).alloc _).trans a)
 have p:=a.size;simp only [World.size_alloc] at p d;refine bodyPost_ret (v:=.agg #[s.al,s.st,.slice (some ⟨w.heap.size+1+1+1,0,none⟩) n n]) (by simp [results,Tryz.results18,go_sem,o]) rfl ⟨_,_,_,rfl,?_,?_⟩
 ·refine (d.keep (S:=fun k=>k<w.heap.size+3) ?_ (by intro b hb;omega)).less oM
  iterate 4 refine Frm.cell ?_ (by dsimp only;omega) _
  exact Frm.refl _ _
 ·iterate 4 refine Ext.setCell ?_ (by dsimp only;omega) _
  exact f
instance:BEq Edg:=⟨fun a b=>decide (a.fr=b.fr)&&(decide (a.le=b.le)&&decide (a.ta=b.ta))⟩
theorem edg_beq (a b:Edg):(a==b)=(decide (a.fr=b.fr)&&(decide (a.le=b.le)&&decide (a.ta=b.ta))):=rfl
instance:LawfulBEq Edg where
 eq_of_beq {a b} h:=by
  rw [edg_beq] at h;simp only [eG,decide_eq_true_eq] at h;cases a;cases b;simp_all
 rfl {a}:=by rw [edg_beq];simp
theorem eqEdge_any {a b:Edg}  :
  Calls Tryz.prog 122 #[.agg #[a.fr,a.le,a.ta],.agg #[b.fr,b.le,b.ta]] w fun e w'=>e=.returned (.bool (a==b))∧Ext w w':=by
 have hx:Ext w ((w.alloc (.cells #[Value.int .i64 a.fr,a.le,a.ta] 152)).alloc (.cells #[Value.int .i64 b.fr,b.le,b.ta] 152)):=((Ext.refl _).alloc _).alloc _;have d:=za hx;clear hx;have c:=za (edg_beq a b)
 by_cases h0:a.fr=b.fr
 ·have i:(a.fr != b.fr)=false:=by simp [h0]
  have f:=za h0;clear h0
  by_cases h1:a.le=b.le
  ·have j:(a.le != b.le)=false:=by simp [h1]
   have g:=za h1;clear h1
   by_cases h2:a.ta=b.ta
   ·have k:(a.ta != b.ta)=false:=by simp [h2]
    have h:=za h2;clear h2
    go_enter Tryz.func122,Tryz.ntmps122
    go_wp2;go_ret;exact⟨zm (by rw [c.out,f.out,g.out,h.out];simp),d.out⟩
   ·have k:(a.ta != b.ta)=true:=by simp [h2]
    go_enter Tryz.func122,Tryz.ntmps122
    go_wp2;go_ret;exact⟨zm (by rw [c.out];simp [h2]),d.out⟩
  ·have j:(a.le != b.le)=true:=by simp [h1]
   go_enter Tryz.func122,Tryz.ntmps122
   go_wp2;go_ret;exact⟨zm (by rw [c.out];simp [h1]),d.out⟩
 ·have i:(a.fr != b.fr)=true:=by simp [h0]
  go_enter Tryz.func122,Tryz.ntmps122
  go_wp2;go_ret;exact⟨zm (by rw [c.out];simp [h0]),d.out⟩
theorem eqEdgeS_any {l l':List Edg} (h:Reads w lo hi 3 A n (zx l))(h':Reads w lo' hi' 3 B m (zx l')) :
  Calls Tryz.prog 62 #[.slice A n c,.slice B m d] w fun e w'=>e=.returned (.bool (l==l'))∧Ext w w':=by
 have L:=h.len;have J:=h'.len;have Hl:=za (show l.length=n by have:=h.length;rw [zar] at this;omega);have Hl':=za (show l'.length=m by have:=h'.length;rw [zar] at this;omega)
 by_cases he:n=m
 ·subst he
  go_enter Tryz.func62,Tryz.ntmps62
  go_wp2
  go_loopw [5] (fun i wr=>∃ k:Nat,k<=n∧i=.int .i64 k∧Hid (l.take k=l'.take k)∧Ext w wr) (fun i _=>n - (intOf i).toNat)
  case atStart=>exact⟨0,eD _,rfl,rfl,Ext.refl _⟩
  case round =>
   obtain⟨k,I,rfl,heq,zje⟩:=hrel
   by_cases hlt:k<n
   ·obtain⟨b,o,x,rfl,_,_,hx,p,q,r⟩:=(h.ext zje).ar hlt;obtain⟨f,j,y,rfl,_,_,hy,s,t,u⟩:=(h'.ext zje).ar hlt;have C:∀ W,Ext wr W->W.cell? ⟨b,o+k*3,none⟩=some (.int .i64 x.fr):=fun W hW=>hW.aa p;have D:∀ W,Ext wr W->W.cell? ⟨b,o+k*3+1,none⟩=some (.int .i64 x.le):=fun W hW=>hW.aa q;have E:∀ W,Ext wr W->W.cell? ⟨b,o+k*3+2,none⟩=some (.int .i64 x.ta):=fun W hW=>hW.aa r;have F:∀ W,Ext wr W->W.cell? ⟨f,j+k*3,none⟩=some (.int .i64 y.fr):=fun W hW=>hW.aa s;have G:∀ W,Ext wr W->W.cell? ⟨f,j+k*3+1,none⟩=some (.int .i64 y.le):=fun W hW=>hW.aa t;have H:∀ W,Ext wr W->W.cell? ⟨f,j+k*3+2,none⟩=some (.int .i64 y.ta):=fun W hW=>hW.aa u;clear p q r s t u;have z:=Ext.refl wr;cases hb:x==y
    all_goals
     have Hb:=za hb;clear hb;go_wp2_with fail
     go_region_held3 (fun W=>Ext wr W) (first|assumption|(refine Ext.drew ?_;assumption)|(refine Ext.trans ?_ aM;assumption)|(refine Ext.trans ?_ aM;refine Ext.drew ?_;assumption)) ((go_at_call 122;refine (eqEdge_any (a:=x) (b:=y)).mono ?_;rw [Hb.out];rintro e M ⟨rfl,g⟩))
     go_wp2
    ·go_ret;exact⟨zm (by rw [ziw hx.out hy.out Hb.out]),zje.trans aM⟩
    ·exact yV01a3
   ·exact yV01a4
 ·have v:((n:Int) != (m:Int))=true:=by simp;omega
  go_enter Tryz.func62,Tryz.ntmps62
  go_wp2;go_ret;exact⟨zm (by rw [ziu (by rw [Hl.out,Hl'.out];exact he)]),Ext.refl _⟩
def sysEq (s t:Sys):Bool:=decide (s.al=t.al)&&(decide (s.st=t.st)&&s.edges==t.edges)
theorem sysEq_self (s:Sys):sysEq s s=true:=by simp [sysEq]
theorem eqSystem_any {s t:Sys} (h:zN w lo hi A n s)(h':zN w lo' hi' B m t) :
  Calls Tryz.prog 22 #[.agg #[s.al,s.st,.slice A n c],.agg #[t.al,t.st,.slice B m d]] w fun e w'=>e=.returned (.bool (sysEq s t))∧Ext w w':=by
 have i:=fun W (hW:Ext w W)=>h.2.ext hW;have l:=za i;have b:=fun W (hW:Ext w W)=>h'.2.ext hW;have f:=za b;clear i b
 by_cases h0:s.al=t.al
 ·have o:(s.al != t.al)=false:=by simp [h0]
  have j:=za h0;clear h0
  by_cases h1:s.st=t.st
  ·have p:(s.st != t.st)=false:=by simp [h1]
   have k:=za h1;clear h1;cases h2:s.edges==t.edges
   all_goals
    have g:=za h2;clear h2
    go_enter Tryz.func22,Tryz.ntmps22
    go_wp2_with (go_at_call 62;refine (eqEdgeS_any (l.out _ ?_) (f.out _ ?_)).mono ?_;exact ((Ext.refl _).alloc _).alloc _;exact ((Ext.refl _).alloc _).alloc _;rw [g.out];rintro e q ⟨rfl,a⟩)
    go_ret;exact⟨zm (by rw [sysEq,j.out,k.out,g.out];simp),(((Ext.refl _).alloc _).alloc _).trans a⟩
  ·have p:(s.st != t.st)=true:=by simp [h1]
   go_enter Tryz.func22,Tryz.ntmps22
   go_wp2;go_ret;exact⟨zm (by rw [sysEq];simp [h1]),((Ext.refl _).alloc _).alloc _⟩
 ·have o:(s.al != t.al)=true:=by simp [h0]
  go_enter Tryz.func22,Tryz.ntmps22
  go_wp2;go_ret;exact⟨zm (by rw [sysEq];simp [h0]),((Ext.refl _).alloc _).alloc _⟩
def zda (w:World) (lo hi:Nat) (A:Option Addr) (n:Nat) (ss:List Sys):Prop:=
 n=ss.length∧∃ cells,Reads w lo hi 3 A n cells∧∀ (k:Nat) (s:Sys),ss[k]?=some s->∃ (B:Option Addr) (m c:Nat),cells[k*3]?=some (.int .i64 s.al)∧cells[k*3+1]?=some (.int .i64 s.st)∧cells[k*3+2]?=some (.slice B m c)∧zN w lo hi B m s
section
variable {w w':World} {lo hi n k:Nat} {A:Option Addr} {ss:List Sys}
theorem zda.ext (h:zda w lo hi A n ss)(hb:Ext w w'):zda w' lo hi A n ss:=by
 obtain⟨e,a,i,hx⟩:=h;refine⟨e,a,i.ext hb,fun k s hs=>?_⟩;obtain⟨B,m,c,b,d,f,g⟩:=hx k s hs;exact⟨B,m,c,b,d,f,g.ext hb⟩
theorem zda.len (h:zda w lo hi A n ss):n<=9223372036854775807:=by
 obtain⟨_,a,b,_⟩:=h;exact b.len
theorem zhX (h:Reads w lo hi 3 A n xs)(hn:0<n)(hu:xs[0]?=some u):∃ b o,A=some ⟨b,o,none⟩∧lo<=b∧b<hi∧∀ j v,xs[j]?=some v->w.cell? ⟨b,o+j,none⟩=some v:=by
 obtain⟨a,e,g,f,c⟩:=h.at_ hn;have d:=zeW (c 0 u hu);refine⟨a.block,a.off,by rw [e,d],g,f,fun j v hv=>?_⟩;have:=c j v hv;rw [d,zaI] at this;exact this
theorem zda.sys (h:zda w lo hi A n ss)(hk:k<n):∃ b o s B m c,A=some ⟨b,o,none⟩∧lo<=b∧b<hi∧Hid (ss[k]?=some s)∧w.cell? ⟨b,o+k*3,none⟩=some (.int .i64 s.al)∧w.cell? ⟨b,o+k*3+1,none⟩=some (.int .i64 s.st)∧w.cell? ⟨b,o+k*3+2,none⟩=some (.slice B m c)∧zN w lo hi B m s:=by
 obtain⟨e,a,t,hx⟩:=h;have d:ss[0]?=some (ss[0]' oM):=dC _;obtain⟨_,_,_,i,_⟩:=hx 0 _ d;rw [Nat.zero_mul] at i;obtain⟨b,o,rfl,r,q,f⟩:=zhX t oM i;have g:ss[k]?=some (ss[k]' oM):=dC _;obtain⟨B,m,c,d,j,l,p⟩:=hx k _ g;exact⟨b,o,_,B,m,c,rfl,r,q,g,f _ _ d,by rw [fV];exact f _ _ j,by rw [fV];exact f _ _ l,p⟩
theorem zda.sys2 {s:Sys}(h:zda w lo hi (some ⟨b,o,none⟩) n ss)(hs:ss[k]?=some s):∃ B m c,w.cell? ⟨b,o+k*3,none⟩=some (.int .i64 s.al)∧w.cell? ⟨b,o+k*3+1,none⟩=some (.int .i64 s.st)∧w.cell? ⟨b,o+k*3+2,none⟩=some (.slice B m c)∧zN w lo hi B m s:=by
 have f:k<n:=by rw [h.1];exact (List.getElem?_eq_some_iff.1 hs).1
 obtain⟨g,i,j,B,m,c,a,_,_,d,r⟩:=h.sys f;injection a with a
 injection a with h1 h2
 subst h1;subst h2;have:=d.out;rw [hs] at this;injection this with this
 subst this;exact⟨B,m,c,r⟩
end
def totE (ss:List Sys):Nat:=(ss.map fun s=>s.edges.length).sum
theorem zeA {ss:List Sys}  {s:Sys}(h:ss[k]?=some s):totE (ss.take (k+1))=totE (ss.take k)+s.edges.length:=by
 rw [eH,h];simp [totE]
theorem totE_append (a b:List Sys):totE (a++b)=totE a+totE b:=by simp [totE]
theorem zgc (ss:List Sys) (k:Nat):totE (ss.take k)<=totE ss:=by
 have h:=totE_append (ss.take k) (ss.drop k);rw [iN] at h;omega
theorem szSystemS_any {ss:List Sys}  (h:zda w lo hi A n ss)(h0:0<=left)(h1:left<=1048576) :
  Calls Tryz.prog 28 #[.slice A n c,left] w fun e w'=>e=.returned (.int .i64 (leftOf left (ss.length+totE ss)))∧Ext w w':=by
 have L:=h.len;have H:n<=ss.length∧ss.length<=n:=oH h.1
 by_cases hneg:left - n<0
 ·go_enter Tryz.func28,Tryz.ntmps28
  go_wp2;go_ret;exact⟨zG (by unfold leftOf;split<;>omega),Ext.refl _⟩
 ·go_enter Tryz.func28,Tryz.ntmps28
  go_wp2
  go_loopw [1,5] (fun v i wr=>∃ k:Nat,k<=n∧i=.int .i64 k∧∃ m:Int,v=.int .i64 m∧Hid (m=left - n - totE (ss.take k))∧0<=m∧m<=1048576∧Ext w wr)
   (fun _ i _=>n - (intOf i).toNat)
  case atStart=>exact⟨0,eD _,rfl,_,rfl,by simp [totE,Hid],oM,oM,Ext.refl _⟩
  case round =>
   obtain⟨k,J,rfl,m,rfl,p,j,g,zje⟩:=hrel
   by_cases hlt:k<n
   ·obtain⟨b,o,s,B,q,d,rfl,C,y,D,E,F,G,l⟩:=(h.ext zje).sys hlt;have a:=l.2.len;have I:=zfi m q;have x:=za (zeA D.out);have u:=za l.1;have z:=zgc ss (k+1)
    by_cases hng:leftOf m q<0
    ·go_wp2_with (go_at_call 15;refine (zgb a j g).mono (mQ fun w' hx=>?_))
     go_ret;have f:=p.out;have t:=x.out;have r:=u.out;exact⟨zG (by unfold leftOf at hng ⊢;(repeat split)<;>(split at hng)<;>omega),zje.trans hx⟩
    ·go_wp2_with (go_at_call 15;refine (zgb a j g).mono (mQ fun w' hx=>?_))
     go_roundw
     case rel=>exact⟨k+1,oM,gM,_,rfl,by have f:=p.out;have t:=x.out;have r:=u.out;unfold Hid;unfold leftOf at hng ⊢;split at hng<;>split<;>omega,oM,zgN _ _ g,zje.trans hx⟩
     case measure=>simp [intOf];omega
   ·obtain rfl:k=n:=oM;go_wp2;go_ret;have f:=p.out;rw [eE oM] at f;exact⟨zG (by unfold leftOf;split<;>omega),zje⟩
theorem info_sys:(Tryz.prog.info? 38).map (fun i=>(i.zero,i.size,i.bytes))=some (some (.agg #[(0:Int),(0:Int),()]),3,40):=kM
def zeT (w:World) (base:Nat) (cells:List Value) (ss:List Sys):Prop:=
 cells.length=ss.length*3∧∀ (k:Nat) (s:Sys),ss[k]?=some s->∃ (B:Option Addr) (m c:Nat),cells[k*3]?=some (.int .i64 s.al)∧cells[k*3+1]?=some (.int .i64 s.st)∧cells[k*3+2]?=some (.slice B m c)∧OwnE w base B m c s.edges
theorem zeT.nil (w:World) (base:Nat):zeT w base [] []:=⟨rfl,fun k s h=>by simp at h⟩
theorem zeT.ext {cells:List Value} {ss:List Sys}(h:zeT w base cells ss)(hb:Ext w w'):zeT w' base cells ss:=
 ⟨h.1,fun k s hs=>by
  obtain⟨B,m,c,h0,h1,h2,h3⟩:=h.2 k s hs
  exact⟨B,m,c,h0,h1,h2,h3.ext hb⟩⟩
theorem zeT.snoc {cells:List Value} {ss:List Sys} {s:Sys}  (h:zeT w base cells ss)(hb:Ext w w')(ho:OwnE w' base B m c s.edges) :
  zeT w' base (cells++[.int .i64 s.al,.int .i64 s.st,.slice B m c]) (ss++[s]):=by
 have d:=h.1;refine⟨by simp [d];omega,fun k t ht=>?_⟩;rcases fK k ss.length with b|b
 ·rw [eI b] at ht;obtain⟨B,m,c,g,i,j,f⟩:=h.2 k t ht;refine⟨B,m,c,?_,?_,?_,f.ext hb⟩<;>rw [eI oM]<;>assumption
 ·have a:k=ss.length:=by have:=(List.getElem?_eq_some_iff.1 ht).1;simp at this;omega
  subst a;rw [eM oM,fO] at ht;simp at ht;subst ht;refine⟨B,m,c,?_,?_,?_,ho⟩<;>rw [eM oM,d]
  ·simp
  ·rw [show ss.length*3+1 - ss.length*3=1 from by omega];rfl
  ·rw [show ss.length*3+2 - ss.length*3=2 from by omega];rfl
theorem zeT.store {cells:List Value} {ss:List Sys}(h:zeT w base cells ss) (zjc:w.ownsRow base 38 3 (.slice (some g) n cap) n xs):zeT (w.setCell ⟨g,j,none⟩ u) base cells ss:=
 ⟨h.1,fun k s hs=>by
  obtain⟨B,m,c,h0,h1,h2,h3⟩:=h.2 k s hs
  refine⟨B,m,c,h0,h1,h2,h3.1,zh h3.2 (Frm.setCell w g j u) fun b hb hbg=>?_⟩
  subst hbg
  exact zaP h3.2 zjc dM hb rfl⟩
theorem set3_end (u v x:Value)(hk:xs.length=k)(hr:3<=rest.length):(((xs++rest).set k u).set (k+1) v).set (k+2) x=(xs++[u,v,x])++rest.drop 3:=by
 subst hk
 match rest,hr with
 |a :: b :: c :: r,_ =>
  rw [fL _ _ oM,fO,fL _ _ oM,fL _ _ oM];rw [show xs.length+1 - xs.length=1 from oM,show xs.length+2 - xs.length=2 from by omega];simp
def OwnSL (w:World) (base:Nat) (A:Option Addr) (n c:Nat) (ss:List Sys):Prop:=n=ss.length∧∃ cells,w.ownsRow base 38 3 (.slice A n c) n cells∧zeT w base cells ss
theorem OwnSL.ext {ss:List Sys}(h:OwnSL w base A n c ss)(hb:Ext w w'):OwnSL w' base A n c ss:=by
 obtain⟨e,a,b,d⟩:=h;exact⟨e,a,zg b hb,d.ext hb⟩
theorem OwnSL.reads {ss:List Sys}(h:OwnSL w base A n c ss):zda w base w.heap.size A n ss:=by
 obtain⟨e,a,b,d⟩:=h;refine⟨e,a,Reads.ae b,fun k s hs=>?_⟩;obtain⟨B,m,c,f,g,i,j⟩:=d.2 k s hs;exact⟨B,m,c,f,g,i,j.reads⟩
theorem toSystemS_any {ss:List Sys} (h:zda w lo hi A n ss)(hn:ss.length+totE ss<=1048576) :
  Calls Tryz.prog 30 #[.slice A n c] w fun e w'=>e=.returned (.slice (some w.heap.size) n n)∧OwnSL w' w.heap.size (some ⟨w.heap.size,0,none⟩) n n ss∧Ext w w':=by
 have Y:n<=ss.length∧ss.length<=n:=oH h.1;have m:∀ (k:Nat) (s:Sys),ss[k]?=some s->s.edges.length<=1048576:=fun k s v=>by
  have V:=zeA v;have X:=zgc ss (k+1);omega
 have p:=za m;clear m
 go_enter Tryz.func30,Tryz.ntmps30
 go_wp2_with (at_make;refine zas w _ rfl _ _ 55 rfl 38 _ 3 40 Tryz.underlying55 info_sys _ _ n rfl rfl (Ext.refl _) oM lM ?_;intro w1 hext1 zjl _ hsz1)
 go_loopw [4] (fun i wr=>∃ k:Nat,k<=n∧i=.int .i64 k∧∃ f rest:List Value,Hid (rest.length=(n - k)*3)∧wr.ownsRow w.heap.size 38 3 (.slice (some w.heap.size) n n) n (f++rest)∧zeT wr w.heap.size f (ss.take k)∧Ext w wr)
  (fun i _=>n - (intOf i).toNat)
 case atStart=>exact⟨0,eD _,rfl,[],_,by have:=zjl.1;unfold Hid;rw [this];omega,by simpa using zjl,zeT.nil _ _,hext1⟩
 case round =>
  obtain⟨k,Z,rfl,f,rest,hrest,zjc,l,zje⟩:=hrel
  by_cases hlt:k<n
  ·obtain⟨b,o,s,B,q,d,rfl,H,F,v,J,L,M,t⟩:=(h.ext zje).sys hlt;have G:=p.out k s v.out;have I:q<=1048576:=oH t.1;have E:f.length<=k*3∧k*3<=f.length:=by have:=l.1;rw [fH] at this;omega
   go_wp2_with (go_at_call 18;refine (toSystem_any t I).mono ?_;rintro e w2 ⟨z,D,C,rfl,y,g⟩;have a:=zg zjc g;obtain⟨o0,S⟩:=zab a (k*3) oM;obtain⟨o1,T⟩:=zab a (k*3+1) oM;obtain⟨o2,U⟩:=zab a (k*3+2) oM;have O:=a.frozenAt (k*3);have Q:=a.frozenAt (k*3+1);have R:=a.frozenAt (k*3+2))
   have r:=zfL a (k*3) (.int .i64 s.al) (.int .i64 s.st) (.slice z D C);rw [set3_end _ _ _ (show f.length=k*3 by omega) (oH hrest.out)] at r;have x:=l.snoc g (y.less zje.size);have hs1:=((x.store (j:=k*3) (u:=.int .i64 s.al) a).store (j:=k*3+1) (u:=.int .i64 s.st) (a.stored (k*3) _).1).store (j:=k*3+2) (u:=.slice z D C) ((a.stored (k*3) _).1.stored (k*3+1) _).1;go_roundw
   case rel=>exact⟨k+1,oM,gM,_,rest.drop 3,by have:=hrest.out;unfold Hid;rw [iE];omega,r,by rw [eH,v.out];exact hs1,(((zje.trans g).setCell (by dsimp only;omega) _).setCell (by dsimp only;omega) _).setCell (by dsimp only;omega) _⟩
   case measure=>simp [intOf];omega
  ·obtain rfl:k=n:=oM;go_wp2;go_ret;have:rest=[]:=eK (oH hrest.out);subst this;rw [eE oM] at l;exact⟨rfl,⟨h.1,f,by simpa using zjc,l⟩,zje⟩
section
open Go.ChangeShapes Go.WideShapes Go.Deep
section
variable {H:Type} {enc:TypeId × Value->H} {P:Program} {w:World} {spare:Nat->Bool} {held:Bool}
theorem zhU {x:DataW H × List MemPlace}(ht:P.underlying t=some (.slice e))(hc:P.cellsOf e=3)(h:DataW.trod enc P w 0 spare held fuel t cs=some x) :
  ∃ (A:Option Addr) (n c:Nat) (V:Nat->Value) (k:Nat),cs=[.slice A n c]∧Reads w 0 w.heap.size 3 A n ((fE (n*3)).map V)∧∀ i,i<n->∃ y,DataW.trod enc P w 0 spare held k e [V (i*3),V (i*3+1),V (i*3+2)]=some y:=by
 rcases open_slice ht h with ⟨rfl,_⟩|⟨a,b,r,m,n,D,I,rfl,O,Q,L,z,_,hx⟩
 ·exact⟨none,0,0,fun _=>undef,0,rfl,Reads.nil,fun i hi=>oM⟩
 ·have J:b<=m:=by rw [z];split<;>omega
  rw [hc] at hx;have d:∀ i j,i<b->j<3->(w.cell? (a.add (i*3+j))).isSome=true:=fun i j hi p=>by
   obtain⟨g,f,E⟩:=hx i oM;obtain⟨_,G,o⟩:=World.cells?_some f;rw [← addr_add,o j p,dC oM];rfl
  have F:∀ q,q<b*3->w.cell? (a.add q)=some ((w.cell? (a.add q)).getD undef):=fun q hq=>by
   have f:=d (q / 3) (q % 3) oM oM;rw [show q / 3*3+q % 3=q by omega] at f;obtain⟨v,M⟩:=Option.isSome_iff_exists.1 f;rw [M];rfl
  refine⟨some a,b,r,fun q=>(w.cell? (a.add q)).getD undef,n,rfl,⟨sM,by unfold maxLen at L;omega,fun h0=>?_⟩,fun i hi=>?_⟩
  ·have l:a.block<w.heap.size:=by
    have:=World.block_lt_of_cell? w _ (F 0 oM);rwa [zfD] at this
   refine⟨a,rfl,eD _,l,fun j u hu=>?_⟩;have p:j<b*3:=by
    have:=(List.getElem?_eq_some_iff.1 hu).1;simpa using this
   rw [F j p];simpa [p] using hu
  ·obtain⟨g,f,E⟩:=hx i oM;obtain⟨_,G,o⟩:=World.cells?_some f;refine⟨(D i,I i),?_⟩;rw [← E]
   congr 1
   match g,G with
   |[v0,v1,v2],_ =>
    have s:=o 0 oM;have B:=o 1 oM;have C:=o 2 oM;rw [addr_add] at s B C;rw [Nat.add_zero] at s;simp only [s,B,C];rfl
theorem zfU (V:Nat->Value):∀ n:Nat,(∀ i,i<n->∃ a b c:Int,V (i*3)=.int .i64 a∧V (i*3+1)=.int .i64 b∧V (i*3+2)=.int .i64 c)->∃ l:List Edg,l.length=n∧(fE (n*3)).map V=zx l
 |0,_=>⟨[],rfl,rfl⟩
 |n+1,h=>by
  obtain⟨l,hl,he⟩:=zfU V n fun i hi=>h i oM
  obtain⟨a,b,c,ha,hb,hc⟩:=h n oM
  refine⟨l++[⟨a,b,c⟩],by simp [hl],?_⟩
  rw [show (n+1)*3=n*3+1+1+1 by omega,iB,iB,iB,zbs,← he]
  simp [ha,hb,hc,zx]
theorem open_edges {g0 g1 g2:Field}   {x:DataW H × List MemPlace}(ht:P.underlying t=some (.slice e))(hc:P.cellsOf e=3)(he:P.underlying e=some (.struct #[g0,g1,g2]))
  (p0:g0.offset=0) (p1:g1.offset=1) (p2:g2.offset=2) (d0:P.cellsOf g0.type=1) (d1:P.cellsOf g1.type=1) (d2:P.cellsOf g2.type=1)
  (v0:P.underlying g0.type=some (.int .i64)) (v1:P.underlying g1.type=some (.int .i64)) (v2:P.underlying g2.type=some (.int .i64))
  (h:DataW.trod enc P w 0 spare held fuel t cs=some x) :
  ∃ (A:Option Addr) (n c:Nat) (l:List Edg),cs=[.slice A n c]∧n=l.length∧Reads w 0 w.heap.size 3 A n (zx l):=by
 obtain⟨A,n,c,V,k,rfl,p,q⟩:=zhU ht hc h;obtain⟨l,r,s⟩:=zfU V n fun i hi=>by
  obtain⟨y,hy⟩:=q i hi;obtain⟨u,v,z,k,_,_,j,m,o⟩:=trod_struct3 he hy;rw [p0,d0] at j;rw [p1,d1] at m;rw [p2,d2] at o;obtain⟨a,d,_⟩:=DataW.trod_int v0 j;obtain⟨b,f,_⟩:=DataW.trod_int v1 m;obtain⟨c,g,_⟩:=DataW.trod_int v2 o;simp at d f g;exact⟨a,b,c,d,f,g⟩
 rw [s] at p;exact⟨A,n,c,l,rfl,r.symm,p⟩
theorem open_sys {f0 f1 f2 g0 g1 g2:Field}   {x:DataW H × List MemPlace}(hT:P.underlying t=some (.struct #[f0,f1,f2]))(hC:P.cellsOf t=3)
  (o0:f0.offset=0) (o1:f1.offset=1) (o2:f2.offset=2) (c0:P.cellsOf f0.type=1) (c1:P.cellsOf f1.type=1) (c2:P.cellsOf f2.type=1)
  (u0:P.underlying f0.type=some (.int .i64)) (u1:P.underlying f1.type=some (.int .i64)) (u2:P.underlying f2.type=some (.slice e)) (hc:P.cellsOf e=3) (he:P.underlying e=some (.struct #[g0,g1,g2]))
  (p0:g0.offset=0) (p1:g1.offset=1) (p2:g2.offset=2) (d0:P.cellsOf g0.type=1) (d1:P.cellsOf g1.type=1) (d2:P.cellsOf g2.type=1)
  (v0:P.underlying g0.type=some (.int .i64)) (v1:P.underlying g1.type=some (.int .i64)) (v2:P.underlying g2.type=some (.int .i64))
  (h:DataW.trod enc P w 0 spare held fuel t cs=some x) :
  ∃ (s:Sys) (A:Option Addr) (n c:Nat),cs=[.int .i64 s.al,.int .i64 s.st,.slice A n c]∧zN w 0 w.heap.size A n s:=by
 obtain⟨p,q,r,k,_,j,f,g,i⟩:=trod_struct3 hT h;rw [hC] at j
 match cs,j with
 |[z0,z1,z2],_ =>
  rw [o0,c0] at f;rw [o1,c1] at g;rw [o2,c2] at i;obtain⟨al,a,_⟩:=DataW.trod_int u0 f;obtain⟨st,b,_⟩:=DataW.trod_int u1 g;obtain⟨A,n,c,l,d,m,o⟩:=open_edges u2 hc he p0 p1 p2 d0 d1 d2 v0 v1 v2 i;simp at a b d;subst a;subst b;subst d;exact⟨⟨al,st,l⟩,A,n,c,rfl,m,o⟩
theorem zez (V:Nat->Value):∀ n:Nat,(∀ i,i<n->∃ (s:Sys) (A:Option Addr) (m c:Nat),V (i*3)=.int .i64 s.al∧V (i*3+1)=.int .i64 s.st∧V (i*3+2)=.slice A m c∧zN w 0 w.heap.size A m s) ->
  ∃ ss:List Sys,ss.length=n∧∀ i s,ss[i]?=some s->∃ (A:Option Addr) (m c:Nat),V (i*3)=.int .i64 s.al∧V (i*3+1)=.int .i64 s.st∧V (i*3+2)=.slice A m c∧zN w 0 w.heap.size A m s
 |0,_=>⟨[],rfl,fun i s h=>by simp at h⟩
 |n+1,h=>by
  obtain⟨ss,hl,hr⟩:=zez V n fun i hi=>h i oM;obtain⟨s,A,m,c,hv⟩:=h n oM;refine⟨ss++[s],by simp [hl],fun i t ht=>?_⟩;rcases fK i n with h1|h1
  ·rw [eI oM] at ht;exact hr i t ht
  ·have hi:i=n:=by
    have:=(List.getElem?_eq_some_iff.1 ht).1;simp at this;omega
   subst hi;rw [eM oM,hl,fO] at ht;simp at ht;subst ht;exact⟨A,m,c,hv⟩
theorem open_systems {T:TypeId} {f0 f1 f2 g0 g1 g2:Field}   {x:DataW H × List MemPlace}(hS:P.underlying T=some (.slice t))(hT:P.underlying t=some (.struct #[f0,f1,f2]))(hC:P.cellsOf t=3)
  (o0:f0.offset=0) (o1:f1.offset=1) (o2:f2.offset=2) (c0:P.cellsOf f0.type=1) (c1:P.cellsOf f1.type=1) (c2:P.cellsOf f2.type=1)
  (u0:P.underlying f0.type=some (.int .i64)) (u1:P.underlying f1.type=some (.int .i64)) (u2:P.underlying f2.type=some (.slice e)) (hc:P.cellsOf e=3) (he:P.underlying e=some (.struct #[g0,g1,g2]))
  (p0:g0.offset=0) (p1:g1.offset=1) (p2:g2.offset=2) (d0:P.cellsOf g0.type=1) (d1:P.cellsOf g1.type=1) (d2:P.cellsOf g2.type=1)
  (v0:P.underlying g0.type=some (.int .i64)) (v1:P.underlying g1.type=some (.int .i64)) (v2:P.underlying g2.type=some (.int .i64))
  (h:DataW.trod enc P w 0 spare held fuel T cs=some x) :
  ∃ (ss:List Sys) (A:Option Addr) (n c:Nat),cs=[.slice A n c]∧zda w 0 w.heap.size A n ss:=by
 obtain⟨A,n,c,V,k,rfl,p,l⟩:=zhU hS hC h;obtain⟨ss,o,hx⟩:=zez (w:=w) V n fun i f=>by
  obtain⟨y,hy⟩:=l i f;obtain⟨s,A,m,c,a,b⟩:=open_sys hT hC o0 o1 o2 c0 c1 c2 u0 u1 u2 hc he p0 p1 p2 d0 d1 d2 v0 v1 v2 hy;simp at a;exact⟨s,A,m,c,a.1,a.2.1,a.2.2,b⟩
 refine⟨ss,A,n,c,rfl,o.symm,_,p,fun i s hs=>?_⟩;have f:i<n:=by have:=(List.getElem?_eq_some_iff.1 hs).1;omega
 obtain⟨B,m,d,g,a,b,j⟩:=hx i s hs;refine⟨B,m,d,?_,?_,?_,j⟩<;>rw [eL,gB oM]<;>simp [g,a,b]
end
end
section
open Go.ChangeShapes Go.WideShapes Go.ChangeAt Go.Deep
theorem own_:ownKnob Tryz.prog.godebug=none:=kM
theorem laidOut_:laidOutB Tryz.prog=true:=kM
theorem ziL {H:Type} {enc:TypeId × Value->H}  {spare:Nat->Bool}    {x:DataW H × List MemPlace}(h:DataW.trod enc Tryz.prog w 0 spare held fuel 28 cs=some x) :
  ∃ (a:Aut) (A:Option Addr) (n c:Nat) (A':Option Addr) (n' c':Nat),cs=[.int .i64 a.al,.slice A n c,.slice A' n' c']∧zC w 0 w.heap.size A n A' n' a:=
 open_aut Tryz.underlying28 kM rfl rfl rfl kM kM kM Tryz.underlying3 Tryz.underlying25 Tryz.underlying128 Tryz.underlying3 kM kM Tryz.underlying26 Tryz.underlying4 kM h
theorem zfK {H:Type} {enc:TypeId × Value->H}  {spare:Nat->Bool}    {x:DataW H × List MemPlace}(h:DataW.trod enc Tryz.prog w 0 spare held fuel 48 cs=some x) :
  ∃ (ss:List Sys) (A:Option Addr) (n c:Nat),cs=[.slice A n c]∧zda w 0 w.heap.size A n ss:=
 open_systems Tryz.underlying48 Tryz.underlying24 kM rfl rfl rfl kM kM kM Tryz.underlying3 Tryz.underlying3 Tryz.underlying22 kM Tryz.underlying154 rfl rfl rfl kM kM kM Tryz.underlying3 Tryz.underlying3 Tryz.underlying3 h
theorem array3 {α:Type} {cs:Array α}(h:cs.size=3):∃ c0 c1 c2,cs=#[c0,c1,c2]:=by
 obtain⟨l⟩:=cs
 match l,h with
 |[c0,c1,c2],_=>exact⟨c0,c1,c2,rfl⟩
theorem arg_aut {H:Type} {enc:TypeId × Value->H}  {spare:Nat->Bool}  {r:Reach}   {d:DataW H} {p:List MemPlace}(hv:Value.okWide Tryz.prog w r b0 28 v)(h:DataW.Trod enc Tryz.prog w 0 spare held 28 v d p) :
  ∃ (a:Aut) (A:Option Addr) (n c:Nat) (A':Option Addr) (n' c':Nat),v=.agg #[a.al,.slice A n c,.slice A' n' c']∧zC w 0 w.heap.size A n A' n' a:=by
 obtain⟨o,rfl,b⟩:=okWide_struct Tryz.underlying28 hv;obtain⟨k,l,m,rfl⟩:=array3 (b.trans kM);obtain⟨g,i⟩:=h;obtain⟨a,A,n,c,A',n',c',f,j⟩:=ziL i;simp [Value.cells] at f;obtain⟨rfl,rfl,rfl⟩:=f;exact⟨a,A,n,c,A',n',c',rfl,j⟩
theorem arg_systems {H:Type} {enc:TypeId × Value->H}  {spare:Nat->Bool}  {r:Reach}   {d:DataW H} {p:List MemPlace}(hv:Value.okWide Tryz.prog w r b0 48 v)(h:DataW.Trod enc Tryz.prog w 0 spare held 48 v d p) :
  ∃ (ss:List Sys) (A:Option Addr) (n c:Nat),v=.slice A n c∧zda w 0 w.heap.size A n ss:=by
 obtain⟨a,l,k,rfl⟩:=okWide_slice Tryz.underlying48 hv;obtain⟨f,g⟩:=h;obtain⟨ss,A,n,c,b,i⟩:=zfK g;simp [Value.cells] at b;obtain⟨rfl,rfl,rfl⟩:=b;exact⟨ss,a,l,k,rfl,i⟩
theorem and_t {a b:Bool}(h:a=true) (k:b=true):(a&&b)=true:=by rw [h,k];rfl
end
def Tab (w:World):Prop:=∀ j,j<64->w.cell? ⟨1,j,none⟩=some (.int .u8 (Lib.deBruijn64tab.getD j 0))
theorem Tab.ext (h:Tab w)(hb:Ext w w'):Tab w':=fun j hj=>hb.aa (h j hj)
theorem tz64_core (x k idx:Nat) (w:World)(hx0:((x:Int)==0)=false)
  (key:IntKind.u64.wrap (bits BinOp.and IntKind.u64 (x:Int) (IntKind.u64.wrap (-(x:Int)))*285870213051353865) / 288230376151711744=(idx:Int))
  (hi:idx<64) (hk:k<64) (hcell:w.cell? ⟨1,idx,none⟩=some (.int .u8 k)) :
  Calls Tryz.prog 285 #[.int .u64 x] w fun e w'=>e=.returned (.int .i64 k)∧w=w':=by
 go_enter Tryz.func285,Tryz.ntmps285
 go_wp2_with (simp only [key])
 go_ret;exact⟨rfl,rfl⟩
theorem tz64 (x:Nat)(hx:x<18446744073709551616)(hx0:x≠0) (w:World)(hT:Tab w) :
  Calls Tryz.prog 285 #[.int .u64 x] w fun e w'=>e=.returned (.int .i64 (Lib.ctz 64 x))∧w=w':=by
 obtain⟨b,f⟩:=Lib.lowest_bit 64 x hx0 hx;obtain⟨d,c⟩:=Lib.deBruijn64_at _ f;have a:=hT _ d;rw [c] at a;exact tz64_core x _ _ w (by simp;omega) (tz64_key x _ hx hx0 b) d f a
theorem tz (x:Nat)(hx:x<18446744073709551616)(hx0:x≠0) (w:World)(hT:Tab w) :
  Calls Tryz.prog 276 #[.int .u64 x] w fun e w'=>e=.returned (.int .i64 (Lib.ctz 64 x))∧w=w':=by
 go_enter Tryz.func276,Tryz.ntmps276
 go_wp2_with (go_at_call 285;refine (tz64 x hx hx0 w hT).mono ?_;rintro e w' ⟨rfl,rfl⟩)
 go_ret;exact⟨rfl,rfl⟩
theorem tab_head {rest : List (String × DataW Unit)} (h : laidMet Tryz.prog (("math/bits.deBruijn64tab", Rows.laid_math_bits_deBruijn64tab) :: rest) W) : Tab W := by
 have a : Lib.TabIs Tryz.prog W "math/bits.deBruijn64tab" .u8 (Lib.deBruijn64tab.map fun n : Nat => (n : Int)) :=
  Lib.tabIs_of_head (g:=1) (t:=295) (e:=5) kM kM Tryz.underlying295 Tryz.underlying5 kM kM h
 intro j hj;have:=a.cell (g:=1) kM j (by rw [List.length_map];exact hj);rw [this,List.getD_eq_getElem?_getD,List.getElem?_map,List.getD_eq_getElem?_getD];have b:Lib.deBruijn64tab.length=64:=rfl;rw [List.getElem?_eq_getElem oM];rfl
theorem tab_two {rest : List (String × DataW Unit)} (h : laidMet Tryz.prog (("math/bits.deBruijn32tab", Rows.laid_math_bits_deBruijn32tab) :: ("math/bits.deBruijn64tab", Rows.laid_math_bits_deBruijn64tab) :: rest) W) : Tab W := tab_head (laidMet.tail h)
abbrev zbn:=Nat->World->(Nat->Prop)->Prop
structure zbn.Ok (b0:Nat) (J:zbn):Prop where
 lt:∀ {B:Nat} {W:World} {S:Nat->Prop},J B W S->∀ k,S k->k<W.heap.size
 low:∀ {B:Nat} {W:World} {S:Nat->Prop},J B W S->∀ k,S k->b0<=k
 keep:∀ {B:Nat} {W W':World} {S T:Nat->Prop},J B W S->Frm T W W'->(∀ k,k<W.heap.size->T k->b0<=k∧¬ S k)->J B W' S
 more:∀ {B C:Nat} {W:World} {S:Nat->Prop},J B W S->B<=C->J C W S
structure Kp (J:zbn) (B:Nat) (S:Nat->Prop) (W W':World) (S':Nat->Prop):Prop where
 j:J B W' S'
 frm:Frm S W W'
 new:∀ k,S' k->S k∨W.heap.size<=k
section
variable {b0:Nat} {J:zbn} {A B C:Nat} {S S1 S2:Nat->Prop} {W W1 W2:World}
theorem Kp.refl (h:J B W S):Kp J B S W W S:=⟨h,Frm.refl _ _,fun _ h=>.inl h⟩
theorem Kp.size (h:Kp J B S W W1 S1):W.heap.size<=W1.heap.size:=h.frm.size
theorem Kp.out (h:Kp J B S W W1 S1) (hk:k<W.heap.size)(hS:¬ S k):¬ S1 k:=fun h1=>by
 rcases h.new k h1 with h2|h2
 ·exact hS h2
 ·omega
theorem Kp.trans {J2:zbn}(h:Kp J B S W W1 S1) (k:Kp J2 C S1 W1 W2 S2):Kp J2 C S W W2 S2:=by
 refine⟨k.j,⟨k.frm.os.trans h.frm.os,k.frm.tape.trans h.frm.tape,k.frm.output.trans h.frm.output,eJ h.frm.size k.frm.size,fun i hi hn=>?_⟩,fun i hi=>?_⟩
 ·exact (k.frm.block i (eU hi h.frm.size) (h.out hi hn)).trans (h.frm.block i hi hn)
 ·rcases k.new i hi with a|a
  ·exact h.new i a
  ·exact .inr (eJ h.frm.size a)
theorem Kp.more (hJ:zbn.Ok b0 J)(h:Kp J B S W W1 S1)(hB:B<=C):Kp J C S W W1 S1:=⟨hJ.more h.j hB,h.frm,h.new⟩
theorem Kp.ext (hJ:zbn.Ok b0 J)(h:Kp J B S W W1 S1)(hx:Ext W1 W2):Kp J B S W W2 S1:=⟨hJ.keep h.j hx (fun _ _ h=>h.elim),h.frm.ext hx,h.new⟩
theorem Kp.own (hJ:zbn.Ok b0 J) (h:Kp J B S W W1 S1)(hf:Frm T W1 W2)(hT:∀ k,k<W1.heap.size->T k->W.heap.size<=k∧b0<=k∧¬ S1 k):Kp J B S W W2 S1:=
 ⟨hJ.keep h.j hf (fun k hk ht=>(hT k hk ht).2),⟨hf.os.trans h.frm.os,hf.tape.trans h.frm.tape,hf.output.trans h.frm.output,eJ h.frm.size hf.size,fun i hi hn =>
  (hf.block i (eU hi h.frm.size) (fun ht=>by have:=(hT i (eU hi h.frm.size) ht).1;omega)).trans (h.frm.block i hi hn)⟩,h.new⟩
theorem Kp.cell (hJ:zbn.Ok b0 J)(h:Kp J B S W W1 S1) (hg:W.heap.size<=g)(hb:b0<=g)(hS:¬ S1 g) (j:Nat) (u:Value):Kp J B S W (W1.setCell ⟨g,j,none⟩ u) S1:=
 h.own hJ (Frm.setCell W1 g j u) (fun k _ e=>by subst e;exact⟨hg,hb,hS⟩)
theorem Kp.grown (hJ:zbn.Ok b0 J)(h:Kp J B S W W1 S1) {row:Option Nat}(hg:W1.grownBy W2 row)(hr:∀ k,row=some k->W.heap.size<=k∧b0<=k∧¬ S1 k):Kp J B S W W2 S1:=
 h.own hJ (T:=fun k=>row=some k) (Frm.af hg) (fun k _ e=>hr k e)
theorem Kp.toExt (h:Kp J B S W W1 S1) (hx:Ext w W)(hS:∀ k,S k->w.heap.size<=k):Ext w W1:=hx.frm h.frm (fun k hk hs=>by have:=hS k hs;omega)
theorem Kp.blk (h:Kp J B S W W1 S1)   {cs:Array Value}(hb:Blk W g t cs)(hS:¬ S g):Blk W1 g t cs∧¬ S1 g:=⟨hb.frm h.frm hS,h.out hb.lt hS⟩
theorem Kp.row (h:Kp J B S W W1 S1) {size:Nat}   (ho:W.ownsRow base e size v n xs)(hS:∀ b,v.ownBlock=some b->¬ S b):W1.ownsRow base e size v n xs∧∀ b,v.ownBlock=some b->¬ S1 b:=
 ⟨zh ho h.frm hS,fun b hb=>h.out (ho.lt b hb).2 (hS b hb)⟩
theorem zbn.fresh (hJ:zbn.Ok b0 J)(h:J B W S) (hk:W.heap.size<=k):¬ S k:=fun hs=>by have:=hJ.lt h k hs;omega
end
section
open Go.Maps
structure KeyG {α:Type} (mt kt:TypeId) (val:α->Value) (lit:α->Lit) (dom:α->Prop):Prop where
 keyed:Keyed Tryz.prog kt
 und:Tryz.prog.underlying mt=some (.map kt 3)
 key:∀ {x:α},dom x->keyOf Tryz.prog kt (val x)=some (lit x)
 inj:∀ {x y:α},dom x->dom y->lit x=lit y->x=y
theorem zeroG (w:World):(zeroValue 3).run Tryz.prog w=.ok (.int .i64 0) w:=kM
theorem wfG (h:x<1152921504606846976):(Lit.int .i64 (x:Int)).wf=true:=WalkArith.wf_i64 oM
section
variable {α:Type} {mt kt:TypeId} {val:α->Value} {lit:α->Lit} {dom:α->Prop}
def zdF (kt:TypeId) (lit:α->Lit) (dom:α->Prop) (w:World) (b n:Nat) (M:α->Option Nat):Prop:=
 ∃ D:DataW Unit,w.ownsMap Tryz.prog kt (plainElem Tryz.prog 3) b n D∧∀ x,dom x->Maps.has D (lit x)=(M x).isSome∧∀ v,M x=some v->D.atKey (lit x) (.lit (.int .i64 0))=.lit (.int .i64 (v:Int))
open Classical in
noncomputable def updG (M:α->Option Nat) (x:α) (v:Nat):α->Option Nat:=fun y=>if y=x then some v else M y
theorem updG_same (M:α->Option Nat) (x:α) (v:Nat):updG M x v x=some v:=by unfold updG;rw [if_pos rfl]
theorem updG_ne (M:α->Option Nat) {x y:α} (v:Nat)(h:y≠x):updG M x v y=M y:=by unfold updG;rw [if_neg h]
theorem zdF.made (w:World):zdF kt lit dom (w.alloc (.map #[] 0)) w.heap.size 0 (fun _=>none):=
 ⟨.map [],World.ownsMap_made _ _ _ _,fun x hx=>⟨rfl,fun v hv=>by cases hv⟩⟩
section
variable {w w':World} {b n:Nat} {M:α->Option Nat}
theorem zdF.lt (h:zdF kt lit dom w b n M):b<w.heap.size:=by
 obtain⟨D,h,_⟩:=h;exact h.lt
theorem zdF.frm (h:zdF kt lit dom w b n M)(hf:Frm S w w')(hS:¬ S b):zdF kt lit dom w' b n M:=by
 obtain⟨D,⟨d,a,c,r⟩,hx⟩:=h;exact⟨D,⟨d,a,(hf.block b (Array.getElem?_eq_some_iff.1 c).1 hS).trans c,r⟩,hx⟩
theorem zdF.ext (h:zdF kt lit dom w b n M)(hx:Ext w w'):zdF kt lit dom w' b n M:=h.frm hx id
theorem zdF.far (h:zdF kt lit dom w b n M)   {cs:Array Value}(hg:Blk w g t cs):g≠b:=by
 rintro rfl;obtain⟨D,⟨d,c,a,_⟩,_⟩:=h;unfold Blk at hg;rw [hg] at a;injection a with a
 cases a
theorem zdF.aj (h:zdF kt lit dom w b n M)   {size:Nat}  (ho:w.ownsRow base e size v k xs):v.ownBlock≠some b:=by
 intro hv;obtain⟨D,⟨l,c,a,_⟩,_⟩:=h;rcases ho.2 with ⟨rfl,_⟩|⟨g,d,f,rfl,_,j,_⟩
 ·simp [Value.ownBlock] at hv
 ·have i:g=b:=by simpa [Value.ownBlock] using hv
  subst i;rw [j] at a;injection a with a
  cases a
end
variable (w:World) {ops:Array Oper} {rest:List Oper} {o:Oper} {a:Act} {Q:Exit->Act->World->Prop}
theorem zhD (K:KeyG mt kt val lit dom)(hg:o.guard=none) (m x v:Operand)(hop:o.op=Op.mapUpdate mt m x v∨o.op=Op.insert mt m x v)  {M:α->Option Nat}
  (hm:a.eval m=.map (some b)) (h:zdF kt lit dom w b n M) (hn:n<1152921504606846976) (key:α) (v9:Nat) (hx:a.eval x=val key) (hv:a.eval v=.int .i64 (v9:Int)) (hk:dom key) (hv9:v9<1152921504606846976)
  (hK:∀ w',zdF kt lit dom w' b (n+1) (updG M key v9)->w.grownBy w' (some b)->wpList Tryz.prog ops Q rest (a.put o.dst undef) w'):wpList Tryz.prog ops Q (o :: rest) a w:=by
 refine wpList_plain hg fun K' hK'=>?_;obtain⟨D,zjc,i⟩:=h;have c:=K.key hk;obtain⟨w',g,j,k⟩:=zjc.update K.keyed K.und lM c (plainElem_int (H:=Unit) Tryz.underlying3 (wfG hv9));have d:zdF kt lit dom w' b (n+1) (updG M key v9):=⟨_,j,fun y hy=>by
  unfold updG
  by_cases e:y=key
  ·subst e;rw [if_pos rfl];exact⟨has_put_same zjc.isMap (K.keyed.key c) _,fun u hu=>by rw [atKey_put_same zjc.isMap (K.keyed.key c)];cases hu;rfl⟩
  ·have f:lit y≠lit key:=fun h=>e (K.inj hy hk h);rw [if_neg e,has_put_other f,atKey_put_other f];exact i y hy⟩
 unfold Oper.wp;rcases hop with hop|hop
 all_goals
  simp [execOp,hop,hm,hx,hv,g,Result.andThen];exact hK' _ _ (hK w' d k)
theorem zcu (K:KeyG mt kt val lit dom)(hg:o.guard=none) (m x:Operand)(hop:o.op=Op.lookup mt m x true)  {M:α->Option Nat}
  (hm:a.eval m=.map (some b)) (h:zdF kt lit dom w b n M) (key:α) (hx:a.eval x=val key) (hk:dom key)
  (hK:∀ c:Int,(∀ v,M key=some v->c=(v:Int))->wpList Tryz.prog ops Q rest (a.put o.dst (.tuple #[c,.bool (M key).isSome])) w):wpList Tryz.prog ops Q (o :: rest) a w:=by
 obtain⟨D,zjc,d⟩:=h;refine wpList_lookup_own_ok_int w hg m x _ hop kt 3 .i64 K.keyed K.und Tryz.underlying3 (zeroG w) b n D hm zjc _ _ hx (K.key hk) ?_;intro c hat _;rw [(d key hk).1];exact hK c (fun v hv=>by
  have:=(d key hk).2 v hv;rw [this] at hat;injection hat with hat
  injection hat with _ hat
  exact hat.symm)
end
end
end Go.Proofs.YtcfchopfijalpaaGreatDoor
