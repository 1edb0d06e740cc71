/- Plain lemmas -/
import Derived.WalkKit
import Derived.WalkSpells
import Derived.WalkLawsBesides
import Derived.BigQuiet
import Derived.Deep.QuietTactic
import Derived.Deep.RegionWith
import Derived.Deep.RegionHeld3
import Derived.Deep.AppendLies
import Derived.Deep.Draws
import Derived.Laws.OwnMore
import Derived.Laws.BitsAllLaws
import Derived.Laws.BitsLemmas
import Derived.Maps.AppendAt
import Derived.Test.YtfcjhpodichpjaaGreatDoorRows
import Derived.OrdersHeld
import Derived.ProofKit
import Derived.Deep.Slices
import Derived.Deep.Fields
import Derived.ChangeSame
import Derived.ChangeArms
import Derived.Lib.SmallJoins
import Derived.OpenShut
import Derived.ShutString
import Derived.ChangeOld
import Derived.Lib.TrailingZeros
import Derived.Shelf.Spec.TrailingZeros
import Derived.Lib.LaidTab
import Derived.LaidMore
import Derived.Stop.Joined
import Derived.Stop.LaidErr
import Derived.Shelf.Strings.Split
import Derived.Shelf.Strconv.AtoiAll
import Derived.Lib.ItoaNum
import Derived.Lib.Split
import Derived.Lib.IndexBytes
set_option maxHeartbeats 4000000
set_option maxRecDepth 100000
namespace Go.Proofs.YtfcjhpodichpjaaGreatDoor
open Go Go.RowKit
open Bool renaming and_eq_true->dF,and_false->iR,false_eq_true->eX,or_eq_true->gZ
open Int renaming toNat->iA,toNat_natCast->eM
open List renaming all_eq_true->eG,append_cancel_left->jB,append_nil->gQ,cons_append->fH,eq_nil_of_length_eq_zero->dU,flatMap_cons->gE,getElem?_append_left->dK,getElem?_append_right->dP,getElem?_eq_getElem->dC,getElem?_map->dQ,getElem?_toArray->eF,length->iK,map_cons->eQ,nil_append->eB,take_add_one->dH
open Nat renaming add_assoc->gD,add_zero->gF,eq_of_testBit_eq->iF,le_refl->cY,le_trans->dJ,lt_of_le_of_lt->jA,lt_of_lt_of_le->eH,lt_or_eq_of_le->eU,lt_or_ge->eT,mul_one->jD,pow_le_pow_right->dV,testBit_eq_decide_div_mod_eq->jK,testBit_succ->iU,testBit_two_pow_mul_add->gU,two_pow_pos->iZ,zero_le->dD,zero_testBit->iV
open Option renaming map_eq_some_iff->fN
instance cQ011:Coe Int Value:=⟨fun x=>.int .i64 x⟩
instance cQ012:Coe Nat Value:=⟨fun x=>.int .i64 (x:Int)⟩
instance cQ013:Coe Unit Value:=⟨fun _=>.slice none 0 0⟩
instance cQ014:Coe ByteArray Value:=⟨fun x=>.string x⟩
instance cQ015:Coe Nat Addr:=⟨fun x=>⟨x,0,none⟩⟩
theorem oM {P:Prop}(h:P:=by omega):P:=h
theorem dM {P:Prop}(h:P:=by decide):P:=h
theorem sM {P:Prop}(h:P:=by simp):P:=h
theorem gM {P:Prop}(h:P:=by go_num):P:=h
theorem aM {P:Prop}(h:P:=by assumption):P:=h
theorem kM {P:Prop}(h:P:=by kernel_rfl):P:=h
theorem lM {P:Prop}(h:P:=by unfold maxLen;omega):P:=h
theorem tM {P:Prop}(h:P:=by unfold Sm;omega):P:=h
theorem oH {A P:Prop}(a:A)(h:A->P:=by intro _;omega):P:=h a
theorem mQ {v:Ending}{R:World->Prop}{Q:Ending->World->Prop}(k:∀ w,R w->Q v w):∀ e w,e=v∧R w->Q e w:=fun _ w h=>h.1 ▸ k w h.2
variable {A A':Option Addr} {S:Nat->Prop} {W w w':World} {a:Act} {al b base base' c c' g hi hi' i id j k lo lo' n n' x:Nat} {cs ds:Array Value} {e t:TypeId} {hd:Bool} {l:List Int} {ls:List (List Int)} {p:Addr} {r rest:List Nat} {rows xs:List Value} {u v:Value} {y:ByteArray}
theorem za {p:Prop}(h:p):Hid p:=h
structure Bx (p:Prop):Prop where
 out:p
theorem pT {A B:Prop}(h:B) (k:Bx B->A:=by
 intro h0
 try simp only [Act.put,List.setIfInBounds_toArray,List.set_cons_zero,List.set_cons_succ]
 exact h0.out):A:=k ⟨h⟩
theorem zhJ (a:Addr) (n:Nat):(a.add n).block=a.block:=by unfold Addr.add;split<;>rfl
theorem addr_zero (a:Addr):a.add 0=a:=by simp [Addr.add]
theorem zK (g o n:Nat):(⟨g,o,none⟩:Addr).add n=⟨g,o+n,none⟩:=by unfold Addr.add;split<;>simp_all
structure Frm (S:Nat->Prop) (w w':World):Prop where
 os:w'.os=w.os
 tape:w'.tape=w.tape
 output:w'.output=w.output
 size:w.heap.size<=w'.heap.size
 block:∀ k,k<w.heap.size->¬ S k->w'.heap[k]?=w.heap[k]?
def Ext (w w':World):Prop:=Frm (fun _=>False) w w'
theorem Ext.refl (w:World):Ext w w:=⟨rfl,rfl,rfl,cY _,fun _ _ _=>rfl⟩
theorem Ext.trans {a b c:World}(h:Ext a b) (k:Ext b c):Ext a c:=
 ⟨k.os.trans h.os,k.tape.trans h.tape,k.output.trans h.output,dJ h.size k.size,fun i hi hn=>(k.block i (eH hi h.size) hn).trans (h.block i hi hn)⟩
theorem Ext.drew {a:World}(h:Ext a w):Ext a w.drew:=⟨h.os,h.tape,h.output,h.size,h.block⟩
theorem Ext.drewN {a:World}(h:Ext a w) (n:Nat):Ext a (w.drewN n):=⟨h.os,h.tape,h.output,h.size,h.block⟩
theorem Ext.alloc {a:World}(h:Ext a w) (o:Obj):Ext a (w.alloc o):=
 h.trans ⟨rfl,rfl,rfl,sM,fun k hk _=>Below.heap_alloc _ _ _ hk⟩
theorem Ext.setCell {a:World}(h:Ext a w) (hp:a.heap.size<=p.block) (u:Value):Ext a (w.setCell p u):=
 ⟨h.os,h.tape,h.output,by simpa [World.setCell] using h.size,fun k hk hn=>(Below.heap_setCell _ _ _ _ oM).trans (h.block k hk hn)⟩
theorem Ext.grown {a:World} {row:Option Nat}(h:Ext a w)(hg:w.grownBy w' row)(hr:∀ k,row=some k->a.heap.size<=k):Ext a w':=
 ⟨hg.os.trans h.os,hg.tape.trans h.tape,hg.output.trans h.output,dJ h.size hg.size,
  fun k hk hn=>(hg.block k (eH hk h.size) (fun e=>by have:=hr k e.symm;omega)).trans (h.block k hk hn)⟩
theorem Ext.av (h:Below w.heap.size w w'):Ext w w':=⟨h.os,h.tape,h.output,h.size,fun k hk _=>h.block k hk⟩
theorem Ext.heap (h:Ext w w') (hk:k<w.heap.size):w'.heap[k]?=w.heap[k]?:=h.block k hk id
theorem Ext.cell (h:Ext w w') (hp:p.block<w.heap.size):w'.cell? p=w.cell? p:=World.cell?_of_block (w:=w) (h.heap hp)
theorem Ext.aa (h:Ext w w')  (hv:w.cell? p=some v):w'.cell? p=some v:=
 (h.cell (World.block_lt_of_cell? w p hv)).trans hv
def Blk (w:World) (g:Nat) (t:TypeId) (cs:Array Value):Prop:=w.heap[g]?=some (.cells cs t (0,0))
section
variable {w w':World} {g:Nat} {t:TypeId} {cs:Array Value}
theorem Blk.lt (h:Blk w g t cs):g<w.heap.size:=by
 rcases eT g w.heap.size with hlt|a
 ·exact hlt
 ·unfold Blk at h;rw [Array.getElem?_eq_none a] at h;cases h
theorem Blk.cell (h:Blk w g t cs) (i:Nat):w.cell? ⟨g,i,none⟩=cs[i]?:=cell_of_row w g i cs t (0,0) h
theorem Blk.frozen (h:Blk w g t cs) (i:Nat):w.frozen? ⟨g,i,none⟩=false:=by
 unfold Blk at h;simp [World.frozen?,h]
theorem Blk.new (w:World) (t:TypeId) (cs:Array Value):Blk (w.alloc (.cells cs t)) w.heap.size t cs:=heap_alloc_new w _
theorem Ext.eq_ {a b:World}(h:a=b):Ext a b:=h ▸ Ext.refl a
theorem Ext.bl_ {V W:World}{c:Array Value}{t:TypeId}(h:V.alloc (.cells c t)=W):Blk W V.heap.size t c:=h ▸ Blk.new V t c
theorem Ext.al_ {V W:World}{o:Obj}(h:V.alloc o=W):Ext V W:=h ▸ (Ext.refl V).alloc o
theorem Blk.ext (h:Blk w g t cs)(hb:Ext w w'):Blk w' g t cs:=(hb.heap h.lt).trans h
theorem Ext.x1_ {w W:World}{c:Array Value}{t:TypeId}(h:w.alloc (.cells c t)=W):Ext w W∧Blk W w.heap.size t c:=⟨Ext.al_ h,Ext.bl_ h⟩
theorem Ext.x2_ {w W:World}{c d:Array Value}{t u:TypeId}(h:(w.alloc (.cells c t)).alloc (.cells d u)=W):Ext w W∧Blk W w.heap.size t c∧Blk W (w.heap.size+1) u d:=by
 have a:=Ext.x1_ (w:=w) (c:=c) (t:=t) rfl;have b:=Ext.x1_ h;rw [World.size_alloc] at b;exact⟨a.1.trans b.1,Blk.ext a.2 b.1,b.2⟩
theorem Ext.x3_ {w W:World}{c d e:Array Value}{t u v:TypeId}(h:((w.alloc (.cells c t)).alloc (.cells d u)).alloc (.cells e v)=W):Ext w W∧Blk W w.heap.size t c∧Blk W (w.heap.size+1) u d∧Blk W (w.heap.size+1+1) v e:=by
 have a:=Ext.x1_ (w:=w) (c:=c) (t:=t) rfl;have b:=Ext.x2_ h;rw [World.size_alloc] at b;exact⟨a.1.trans b.1,Blk.ext a.2 b.1,b.2⟩
theorem Ext.x4_ {w W:World}{c d e f:Array Value}{t u v x:TypeId}(h:(((w.alloc (.cells c t)).alloc (.cells d u)).alloc (.cells e v)).alloc (.cells f x)=W):Ext w W∧Blk W w.heap.size t c∧Blk W (w.heap.size+1) u d∧Blk W (w.heap.size+1+1) v e∧Blk W (w.heap.size+1+1+1) x f:=by
 have a:=Ext.x1_ (w:=w) (c:=c) (t:=t) rfl;have b:=Ext.x3_ h;rw [World.size_alloc] at b;exact⟨a.1.trans b.1,Blk.ext a.2 b.1,b.2⟩
theorem Blk.cells (h:Blk w g t cs):∀ W,Ext w W->∀ i,W.cell? ⟨g,i,none⟩=cs[i]?:=fun _ hW=>(h.ext hW).cell
theorem Blk.frm (h:Blk w g t cs)(hb:Frm S w w')(hg:¬ S g):Blk w' g t cs:=(hb.block g h.lt hg).trans h
theorem Blk.ab (h:Blk w g t cs) (i:Nat) (u:Value):Blk (w.setCell ⟨g,i,none⟩ u) g t (cs.setIfInBounds i u):=by
 unfold Blk at h ⊢;simp [World.setCell,Array.getElem?_modify,h]
end
theorem zaV (h:Ext (w.alloc (.cells cs t)) w'):Blk w' w.heap.size t cs:=(Blk.new w t cs).ext h
theorem zT {u:TypeId}(h:Ext ((w.alloc (.cells cs t)).alloc (.cells ds u)) w'):Blk w' w.heap.size t cs∧Blk w' (w.heap.size+1) u ds:=by
 refine⟨zaV (((Ext.refl _).alloc _).trans h),?_⟩;have:=zaV h;simpa using this
theorem zN {es:Array Value} {u v:TypeId}(h:Ext (((w.alloc (.cells cs t)).alloc (.cells ds u)).alloc (.cells es v)) w'):Blk w' w.heap.size t cs∧Blk w' (w.heap.size+1) u ds∧Blk w' (w.heap.size+1+1) v es:=by
 have a:=zT (((Ext.refl _).alloc _).trans h);refine⟨a.1,a.2,?_⟩;have:=zaV h;simpa using this
theorem Blk.far (h:Blk w g t cs) (hp:g≠p.block) (u:Value):Blk (w.setCell p u) g t cs:=(Below.heap_setCell w p u g hp).trans h
theorem zcs (h:Ext (w.alloc (.cells cs t)) w'):∀ j,w'.cell? ⟨w.heap.size,j,none⟩=cs[j]?:=(zaV h).cell
def Reads (w:World) (lo hi size:Nat) (A:Option Addr) (n:Nat) (xs:List Value):Prop:=
 xs.length=n*size∧n<=9223372036854775807∧(0<n->∃ ad,A=some ad∧lo<=ad.block∧ad.block<hi∧∀ j u,xs[j]?=some u->w.cell? (ad.add j)=some u)
section
variable {w w':World} {lo hi size n:Nat} {A:Option Addr} {xs:List Value}
theorem Reads.nil:Reads w lo hi size A 0 []:=⟨sM,oM,fun h=>absurd h oM⟩
theorem Reads.len (h:Reads w lo hi size A n xs):n<=9223372036854775807:=h.2.1
theorem Reads.length (h:Reads w lo hi size A n xs):xs.length=n*size:=h.1
theorem Reads.at_ (h:Reads w lo hi size A n xs)(hk:k<n):∃ ad,A=some ad∧lo<=ad.block∧ad.block<hi∧∀ j u,xs[j]?=some u->w.cell? (ad.add j)=some u:=h.2.2 oM
theorem Reads.one (h:Reads w lo hi 1 A n xs)(hk:k<n):∃ ad u,A=some ad∧lo<=ad.block∧ad.block<hi∧Hid (xs[k]?=some u)∧w.cell? (ad.add k)=some u:=by
 obtain⟨ad,e,c,a,b⟩:=h.2.2 oM;have hx:k<xs.length:=oH h.1;exact⟨ad,xs[k],e,c,a,dC hx,b k _ (dC hx)⟩
theorem Reads.more (h:Reads w lo hi size A n xs)(hL:lo'<=lo)(hH:hi<=hi'):Reads w lo' hi' size A n xs:=
 ⟨h.1,h.2.1,fun hn=>by
  obtain⟨ad,e,hl,hb,hc⟩:=h.2.2 hn
  exact⟨ad,e,oM,oM,hc⟩⟩
theorem Reads.ext (h:Reads w lo hi size A n xs)(hb:Ext w w'):Reads w' lo hi size A n xs:=
 ⟨h.1,h.2.1,fun hn=>by
  obtain⟨ad,e,hl,hi,hc⟩:=h.2.2 hn
  exact⟨ad,e,hl,hi,fun j u hu=>hb.aa (hc j u hu)⟩⟩
theorem Reads.frm (h:Reads w lo hi size A n xs)(hb:Frm S w w')(hS:∀ k,lo<=k->k<hi->¬ S k):Reads w' lo hi size A n xs:=
 ⟨h.1,h.2.1,fun hn=>by
  obtain⟨ad,e,hl,hi,hc⟩:=h.2.2 hn
  refine⟨ad,e,hl,hi,fun j u hu=>?_⟩
  have hcell:=hc j u hu
  have hlt:=World.block_lt_of_cell? w _ hcell
  exact (World.cell?_of_block (w:=w) (hb.block _ hlt (by rw [zhJ];exact hS _ hl hi))).trans hcell⟩
theorem Reads.af (h:w.ownsRow base e size (.slice A n c) n xs):Reads w base w.heap.size size A n xs:=by
 rcases h.2 with ⟨o,i⟩|⟨g,d,f,m,k,hg,l,a,_,b⟩
 ·subst i;have hx:xs=[]:=dU (by simpa using h.1);subst hx;exact Reads.nil
 ·have j:A=some ⟨g,0,none⟩:=by injection m
  subst j;exact⟨h.1,by unfold maxLen at a;omega,fun _=>⟨_,rfl,k,(Array.getElem?_eq_some_iff.1 hg).1,h.cells (g:=g) rfl⟩⟩
end
theorem zL {P:Program} (wb w:World) {ops:Array Oper} {rest:List Oper} {o:Oper}  {Q:Exit->Act->World->Prop}(hgd:o.guard=none) (s x:Operand) (t:TypeId)
  (ho:o.op=.call { callee:=.builtin .append,args:=#[s,x],argTypes:=#[t,t] })
  (e:TypeId) (z:Value) (size bytes:Nat) (ht:P.underlying t=some (.slice e)) (hi:(P.info? e).map (fun i=>(i.zero,i.size,i.bytes))=some (some z,size,bytes)) (hzs:z.cells.size=size) (hsz:0<size)
  (v:Value) (n:Nat) (xs:List Value) (us:Array Value) (e':TypeId) (hs:a.eval s=v) (hx:a.eval x=.slice (some w.heap.size) 1 1)
  (zje:Ext wb w) (zjc:w.ownsRow wb.heap.size e size v n xs) (hus:us.size=size) (h1:∀ u∈us.toList,u.oneCell'=true)
  (h63:n+1<=maxLen) (hbytes:(n+1)*bytes<=140737488355328)
  (h:∀ v' w',Ext wb w'->w'.ownsRow wb.heap.size e size v' (n+1) (xs++us.toList)->w.grownBy w' v.ownBlock->(v'.ownBlock=v.ownBlock∨v'.ownBlock=some (w.heap.size+1))->wpList P ops Q rest (a.put o.dst v') w') :
  wpList P ops Q (o :: rest) a (w.alloc (.cells us e')):=by
 obtain⟨i,c,d,f,g⟩:=info_parts hi;refine wpList_append_own_at (w.alloc (.cells us e')) hgd s x t ho wb.heap.size e i z size bytes ht c d f g hzs hsz v n xs hs (zjc.alloc _) ⟨w.heap.size,0,none⟩ 1 1 us.toList hx (by simpa using hus) ?_ h1 h63 hbytes (by have:=zje.size;simp;omega) ?_
 ·intro j u hu;rw [zK,Nat.zero_add,(Blk.new w e' us).cell];simpa using hu
 ·intro v' w' hown' hg _ hat;have b:w.grownBy w' v.ownBlock:=⟨hg.os,hg.tape,hg.output,dJ sM hg.size,fun k hk hne=>(hg.block k (by simp;omega) hne).trans (Below.heap_alloc w _ k hk)⟩;exact h v' w' (zje.grown b (fun k hk=>(zjc.lt k hk).1)) hown' b (by simpa using hat)
theorem zbD {P:Program} (wb w:World) {ops:Array Oper} {rest:List Oper} {o:Oper}  {Q:Exit->Act->World->Prop}(hgd:o.guard=none) (l c:Operand) (t:TypeId)(ho:o.op=.makeSlice t l c)
  (e:TypeId) (z:Value) (size bytes:Nat) (ht:P.underlying t=some (.slice e)) (hi:(P.info? e).map (fun i=>(i.zero,i.size,i.bytes))=some (some z,size,bytes))
  (kl kc:IntKind) (n:Nat) (hl:a.eval l=.int kl (n:Int)) (hc:a.eval c=.int kc (n:Int)) (zje:Ext wb w) (hbytes:n*bytes<=140737488355328) (h63:n<=maxLen)
  (h:∀ w',Ext wb w'->w'.ownsRow wb.heap.size e size (.slice (some w.heap.size) n n) n (madeCells z.cells (n*size)).toList->Ext w w'->w.heap.size<w'.heap.size->wpList P ops Q rest (a.put o.dst (.slice (some w.heap.size) n n)) w') :
  wpList P ops Q (o :: rest) a w:=by
 obtain⟨i,d,f,j,k⟩:=info_parts hi;refine wpList_make_full w hgd l c t ho wb.heap.size e i z size ht d f j kl kc n n n hl hc rfl rfl (by rw [k,Nat.mul_comm];omega) h63 zje.size ?_;intro w' zjc hg;refine h w' (zje.grown hg sM) zjc ((Ext.refl _).grown hg sM) ?_;rcases zjc.2 with ⟨b,_⟩|⟨g,m,p,b,_,q,_⟩
 ·simp at b
 ·have:w.heap.size=g:=by injection b with h1;injection h1 with h1;injection h1
  subst this;exact (Array.getElem?_eq_some_iff.1 q).1
theorem zi {size:Nat}   (h:w.ownsRow base e size v n xs):∃ A c,v=.slice A n c:=by
 rcases h.2 with ⟨rfl,d⟩|⟨g,a,b,rfl,_⟩
 ·exact⟨none,0,by rw [d]⟩
 ·exact⟨_,_,rfl⟩
theorem zbq (n:Int):∀ u∈(#[Value.int .i64 n]:Array Value).toList,u.oneCell'=true:=by simp [Value.oneCell']
theorem zgg (n:Int):∀ u∈(#[Value.int .u8 n]:Array Value).toList,u.oneCell'=true:=by simp [Value.oneCell']
theorem zaU (A:Option Addr) (n c:Nat):∀ u∈(#[Value.slice A n c]:Array Value).toList,u.oneCell'=true:=by simp [Value.oneCell']
def ints (l:List Int):List Value:=l.map (Value.int .i64)
theorem zeC (l:List Int):(ints l).length=l.length:=by simp [ints]
def zaA (l:List Bool):List Value:=l.map Value.bool
theorem zfH (l:List Bool):(zaA l).length=l.length:=by simp [zaA]
theorem ints_get (h:(ints l)[k]?=some u):∃ n,l[k]?=some n∧u=.int .i64 n:=by
 simp only [ints,dQ,fN] at h;obtain⟨n,a,rfl⟩:=h;exact⟨n,a,rfl⟩
theorem bools_get {l:List Bool}  (h:(zaA l)[k]?=some u):∃ n,l[k]?=some n∧u=.bool n:=by
 simp only [zaA,dQ,fN] at h;obtain⟨n,a,rfl⟩:=h;exact⟨n,a,rfl⟩
theorem Reads.int (h:Reads w lo hi 1 A n (ints l))(hk:k<n):∃ ad x,A=some ad∧lo<=ad.block∧ad.block<hi∧Hid (l[k]?=some x)∧w.cell? (ad.add k)=some (.int .i64 x):=by
 obtain⟨ad,u,e,d,b,hx,c⟩:=h.one hk;obtain⟨x,a,rfl⟩:=ints_get hx.out;exact⟨ad,x,e,d,b,a,c⟩
theorem Reads.bool {l:List Bool}(h:Reads w lo hi 1 A n (zaA l))(hk:k<n):∃ ad x,A=some ad∧lo<=ad.block∧ad.block<hi∧Hid (l[k]?=some x)∧w.cell? (ad.add k)=some (.bool x):=by
 obtain⟨ad,u,e,d,b,hx,c⟩:=h.one hk;obtain⟨x,a,rfl⟩:=bools_get hx.out;exact⟨ad,x,e,d,b,a,c⟩
def zed (w:World) (lo hi:Nat) (rows:List Value) (ls:List (List Int)):Prop:=
 rows.length=ls.length∧∀ (i:Nat) (row:Value) (l:List Int),rows[i]?=some row->ls[i]?=some l->∃ A c,row=.slice A l.length c∧Reads w lo hi 1 A l.length (ints l)
def zbx (w:World) (lo hi:Nat) (A:Option Addr) (n:Nat) (ls:List (List Int)):Prop:=
 n=ls.length∧∃ rows,Reads w lo hi 1 A n rows∧zed w lo hi rows ls
section
variable {w w':World} {lo hi n k:Nat} {A:Option Addr} {ls:List (List Int)} {rows:List Value}
theorem zed.ext (h:zed w lo hi rows ls)(hb:Ext w w'):zed w' lo hi rows ls:=
 ⟨h.1,fun i row l hr hl=>by
  obtain⟨A,c,e,hx⟩:=h.2 i row l hr hl
  exact⟨A,c,e,hx.ext hb⟩⟩
theorem zbx.ext (h:zbx w lo hi A n ls)(hb:Ext w w'):zbx w' lo hi A n ls:=by
 obtain⟨e,a,b,hx⟩:=h;exact⟨e,a,b.ext hb,hx.ext hb⟩
theorem zed.frm (h:zed w lo hi rows ls)(hb:Frm S w w')(hS:∀ k,lo<=k->k<hi->¬ S k):zed w' lo hi rows ls:=
 ⟨h.1,fun i row l hr hl=>by
  obtain⟨A,c,e,hx⟩:=h.2 i row l hr hl
  exact⟨A,c,e,hx.frm hb hS⟩⟩
theorem zbx.frm (h:zbx w lo hi A n ls)(hb:Frm S w w')(hS:∀ k,lo<=k->k<hi->¬ S k):zbx w' lo hi A n ls:=by
 obtain⟨e,a,b,hx⟩:=h;exact⟨e,a,b.frm hb hS,hx.frm hb hS⟩
theorem zed.more (h:zed w lo hi rows ls)(hL:lo'<=lo)(hH:hi<=hi'):zed w lo' hi' rows ls:=
 ⟨h.1,fun i row l hr hl=>by
  obtain⟨A,c,e,hx⟩:=h.2 i row l hr hl
  exact⟨A,c,e,hx.more hL hH⟩⟩
theorem zbx.more (h:zbx w lo hi A n ls)(hL:lo'<=lo)(hH:hi<=hi'):zbx w lo' hi' A n ls:=by
 obtain⟨e,a,b,hx⟩:=h;exact⟨e,a,b.more hL hH,hx.more hL hH⟩
theorem zbx.len (h:zbx w lo hi A n ls):n<=9223372036854775807:=by
 obtain⟨_,a,b,_⟩:=h;exact b.len
theorem zbx.row (h:zbx w lo hi A n ls)(hk:k<n):∃ ad Ak ck l,A=some ad∧lo<=ad.block∧ad.block<hi∧Hid (ls[k]?=some l)∧w.cell? (ad.add k)=some (.slice Ak l.length ck)∧Reads w lo hi 1 Ak l.length (ints l):=by
 obtain⟨e,b,i,hx⟩:=h;obtain⟨ad,u,c,g,d,j,f⟩:=i.one hk;have hlt:k<ls.length:=oM;obtain⟨Ak,ck,rfl,a⟩:=hx.2 k u ls[k] j.out (dC hlt);exact⟨ad,Ak,ck,ls[k],c,g,d,dC hlt,f,a⟩
end
section
variable {w w':World} {base base' size size' n n':Nat} {e e':TypeId} {v v':Value} {xs xs':List Value}
theorem zg (h:w.ownsRow base e size v n xs)(hb:Ext w w'):w'.ownsRow base e size v n xs:=by
 refine⟨h.1,?_⟩;rcases h.2 with d|⟨g,a,b,f,hg,c,r⟩
 ·exact .inl d
 ·exact .inr ⟨g,a,b,f,hg,(hb.heap (Array.getElem?_eq_some_iff.1 c).1).trans c,r⟩
theorem zf (h:w.ownsRow base e size v n xs)(hb:Frm S w w')(hS:∀ b,v.ownBlock=some b->¬ S b):w'.ownsRow base e size v n xs:=by
 refine⟨h.1,?_⟩;rcases h.2 with i|⟨g,a,c,f,hg,d,r⟩
 ·exact .inl i
 ·exact .inr ⟨g,a,c,f,hg,(hb.block g (Array.getElem?_eq_some_iff.1 d).1 (hS g (by rw [f];rfl))).trans d,r⟩
theorem zbd (h:w.ownsRow base e size v n xs)(hb:Frm S w w')(hS:∀ b,base<=b->¬ S b):w'.ownsRow base e size v n xs:=zf h hb fun b hv=>hS b (h.lt b hv).1
theorem zn (h:w.ownsRow base e size v n xs)(hb:base'<=base):w.ownsRow base' e size v n xs:=by
 refine⟨h.1,?_⟩;rcases h.2 with c|⟨g,a,b,d,hg,r⟩
 ·exact .inl c
 ·exact .inr ⟨g,a,b,d,oM,r⟩
theorem zaM (h:w.ownsRow base e size v n xs)(h':w.ownsRow base' e' size' v' n' xs')(hne:e≠e') (hb:v.ownBlock=some b):v'.ownBlock≠some b:=by
 rcases h.2 with ⟨rfl,_⟩|⟨g,i,j,rfl,_,l,_⟩
 ·simp [Value.ownBlock] at hb
 ·rcases h'.2 with ⟨rfl,_⟩|⟨k,d,f,rfl,_,a,_⟩
  ·simp [Value.ownBlock]
  ·have c:g=b:=by simpa [Value.ownBlock] using hb
   subst c;intro he;have hg:k=g:=by simpa [Value.ownBlock] using he
   subst hg;rw [l] at a;injection a with a
   injection a with _ ht
   exact hne ht
theorem zaX {cap:Nat}(h:w.ownsRow base e size (.slice (some g) n cap) n xs) (j:Nat)(hj:j<n*size):∃ u,w.cell? ⟨g,j,none⟩=some u:=by
 have hx:j<xs.length:=by rw [h.1];exact hj
 exact⟨xs[j],by rw [h.cellAt j hj,dC hx]⟩
theorem zfv (h:w.ownsRow base e size v n xs):xs.length=n*size:=h.1
end
theorem Ext.ai (h:Ext w w'):Frm S w w':=⟨h.os,h.tape,h.output,h.size,fun k hk _=>h.block k hk id⟩
theorem Frm.ae {row:Option Nat}(h:w.grownBy w' row):Frm (fun k=>row=some k) w w':=
 ⟨h.os,h.tape,h.output,h.size,fun k hk hn=>h.block k hk (fun e=>hn e.symm)⟩
theorem Frm.setCell (w:World) (g j:Nat) (u:Value):Frm (fun k=>k=g) w (w.setCell ⟨g,j,none⟩ u):=
 ⟨rfl,rfl,rfl,by simp [World.setCell],fun k _ hn=>Below.heap_setCell _ _ _ _ hn⟩
theorem Frm.trans {a b c:World}(h:Frm S a b) (k:Frm S b c):Frm S a c:=
 ⟨k.os.trans h.os,k.tape.trans h.tape,k.output.trans h.output,dJ h.size k.size,fun i hi hn=>(k.block i (eH hi h.size) hn).trans (h.block i hi hn)⟩
theorem Frm.mono {T:Nat->Prop} {a b:World}(h:Frm S a b)(hS:∀ k,k<a.heap.size->S k->T k):Frm T a b:=
 ⟨h.os,h.tape,h.output,h.size,fun k hk hn=>h.block k hk (fun hs=>hn (hS k hk hs))⟩
theorem Frm.refl (S:Nat->Prop) (w:World):Frm S w w:=⟨rfl,rfl,rfl,cY _,fun _ _ _=>rfl⟩
theorem Frm.cell {a:World}(h:Frm S a w) (hp:S p.block) (u:Value):Frm S a (w.setCell p u):=
 ⟨h.os,h.tape,h.output,by simpa [World.setCell] using h.size,fun k hk hn=>(Below.heap_setCell _ _ _ _ (by rintro rfl;exact hn hp)).trans (h.block k hk hn)⟩
theorem Frm.ext {a:World}(h:Frm S a w)(hb:Ext w w'):Frm S a w':=h.trans hb.ai
theorem Ext.frm {a b c:World}(h:Ext a b) (k:Frm S b c)(hS:∀ k,k<a.heap.size->¬ S k):Ext a c:=
 ⟨k.os.trans h.os,k.tape.trans h.tape,k.output.trans h.output,dJ h.size k.size,fun i hi hn=>(k.block i (eH hi h.size) (hS i hi)).trans (h.block i hi hn)⟩
section
variable {α:Type} {l:List α} {p:α->Bool} {k:Nat} {x:α}
theorem zaF (h:l[k]?=some x)(hp:p x=false):l.all p=false:=
 List.all_eq_false.2 ⟨x,List.mem_of_getElem? h,by simp [hp]⟩
theorem zbX (h:l[k]?=some x)(hk:(l.take k).all p=true)(hp:p x=true):(l.take (k+1)).all p=true:=by
 rw [dH,h,List.all_append,hk];simp [hp]
theorem zdy (hk:l.length<=k)(h:(l.take k).all p=true):l.all p=true:=by
 rwa [List.take_of_length_le hk] at h
end
def Sm (n:Nat):Prop:=n<4294967296
theorem Sm.lt (h:Sm n):n<4294967296:=h
theorem Sm.or {a:Nat}(ha:Sm a)(hb:Sm b):Sm (a|||b):=Nat.or_lt_two_pow (n:=32) ha hb
theorem Sm.and_left {a:Nat} (b:Nat)(ha:Sm a):Sm (a&&&b):=jA Nat.and_le_left ha
theorem Sm.bit (h:n<32):Sm (2 ^ n):=Nat.pow_lt_pow_right oM h
theorem zcM (a:Nat)(ha:a<9223372036854775808):(BitVec.ofInt 64 (a:Int)).toNat=a:=by
 rw [BitVec.ofInt_natCast,BitVec.toNat_ofNat];exact Nat.mod_eq_of_lt oM
theorem zcn {a:Nat}(ha:Sm a)(hb:Sm b):bits .and .i64 (a:Int) (b:Int)=((a&&&b:Nat):Int):=by
 have hx:=(Sm.and_left b ha).lt;have:=ha.lt;have:=hb.lt;show IntKind.i64.wrap ((BitVec.ofInt 64 (a:Int)&&&BitVec.ofInt 64 (b:Int)).toNat:Int)=_;rw [BitVec.toNat_and,zcM a oM,zcM b oM,IntKind.wrap_i64];omega
theorem zbz {a:Nat}(ha:Sm a)(hb:Sm b):bits .or .i64 (a:Int) (b:Int)=((a|||b:Nat):Int):=by
 have hx:=(Sm.or ha hb).lt;have:=ha.lt;have:=hb.lt;show IntKind.i64.wrap ((BitVec.ofInt 64 (a:Int)|||BitVec.ofInt 64 (b:Int)).toNat:Int)=_;rw [BitVec.toNat_or,zcM a oM,zcM b oM,IntKind.wrap_i64];omega
theorem and_one (hx:Sm x):bits .and .i64 (x:Int) 1=((x % 2:Nat):Int):=by
 have:=zcn hx (b:=1) tM;rw [nat_mask1] at this;exact this
theorem div_pow (x n:Nat):(x:Int) / 2 ^ n=((x / 2 ^ n:Nat):Int):=sM
theorem ziX (hx:Sm x)(hn:32<=n):x.testBit n=false:=
 Nat.testBit_lt_two_pow (eH hx.lt (by rw [show (4294967296:Nat)=2 ^ 32 from rfl];exact dV oM hn))
theorem zhb (hx:Sm x) (n:Nat):(bits .and .i64 ((x:Int) / 2 ^ min n 64) 1==1)=x.testBit n:=by
 rw [div_pow,and_one (jA (Nat.div_le_self _ _) hx)]
 by_cases hn:n<=64
 ·rw [Nat.min_eq_left hn,jK];rw [Bool.eq_iff_iff];simp only [beq_iff_eq,decide_eq_true_eq];omega
 ·rw [Nat.min_eq_right oM,ziX hx oM];have:x / 2 ^ 64=0:=Nat.div_eq_of_lt (Nat.lt_trans hx.lt dM);rw [this];decide
def hasB (s:Nat) (n:Int):Bool:=decide (0<=n)&&s.testBit n.toNat
def letters (a k:Nat):List Nat:=(List.range k).filter fun l=>a.testBit l
theorem zbh (a k:Nat):letters a (k+1)=letters a k++if a.testBit k then [k] else []:=by
 unfold letters;rw [List.range_succ,List.filter_append];cases h:a.testBit k<;>simp [h]
theorem zB (a k:Nat):(letters a k).length<=k:=by
 unfold letters;have:=List.length_filter_le (fun l=>a.testBit l) (List.range k);simpa using this
def zas (l:List Nat):List Value:=l.map fun n:Nat=>Value.int .i64 (n:Int)
theorem nats_length (l:List Nat):(zas l).length=l.length:=by simp [zas]
theorem zY (a:Int) (w:World) :
  Calls Tryz.prog 54 #[a] w fun e w'=>e=.returned (.bool (decide (0<=a∧a<=63)))∧w=w':=by
 by_cases h0:0<=a
 ·go_enter Tryz.func54,Tryz.ntmps54
  go_wp2;go_ret;exact⟨by simp [h0],rfl⟩
 ·go_enter Tryz.func54,Tryz.ntmps54
  go_wp2;go_ret;exact⟨by simp;omega,rfl⟩
theorem zS (a:Int) (w:World) :
  Calls Tryz.prog 59 #[a] w fun e w'=>e=.returned (.bool (decide (0<=a∧a<=63)))∧w=w':=by
 by_cases h0:0<=a
 ·go_enter Tryz.func59,Tryz.ntmps59
  go_wp2;go_ret;exact⟨by simp [h0],rfl⟩
 ·go_enter Tryz.func59,Tryz.ntmps59
  go_wp2;go_ret;exact⟨by simp;omega,rfl⟩
theorem zbS (s:ByteArray) (i:Nat)(h:i<s.size):(s[i].toNat:Int)<256:=by
 have:=s[i].toNat_lt;omega
def ltr (b:Int):Int:=if b - 97<0∨6<=b - 97 then -1 else b - 97
theorem zj {a b:Bool}(h:a=b):Ending.returned (.bool a)=.returned (.bool b):=by rw [h]
theorem zD {k:IntKind} {a b:Int}(h:a=b):Ending.returned (.int k a)=.returned (.int k b):=by rw [h]
theorem zaI (s:ByteArray) (i:Nat)(hi:i<s.size) (w:World) :
  Calls Tryz.prog 110 #[s,i] w fun e w'=>e=.returned (.int .i64 (ltr s[i].toNat))∧w=w':=by
 have a:=zbS s i hi
 by_cases h0:(s[i].toNat:Int) - 97<0
 ·go_enter Tryz.func110,Tryz.ntmps110
  go_wp2;go_ret;exact⟨zD (by rw [ltr,if_pos (Or.inl h0)]),rfl⟩
 ·by_cases h1:6<=(s[i].toNat:Int) - 97
  ·go_enter Tryz.func110,Tryz.ntmps110
   go_wp2;go_ret;exact⟨zD (by rw [ltr,if_pos (Or.inr h1)]),rfl⟩
  ·go_enter Tryz.func110,Tryz.ntmps110
   go_wp2;go_ret;exact⟨zD (by rw [ltr,if_neg oM]),rfl⟩
theorem zbk (s:ByteArray) (i:Nat)(hi:i<s.size) (w:World) :
  Calls Tryz.prog 62 #[s,i] w fun e w'=>e=.returned (.int .i64 (s[i].toNat - 97))∧w=w':=by
 have a:=zbS s i hi
 go_enter Tryz.func62,Tryz.ntmps62
 go_wp2;go_ret;exact⟨rfl,rfl⟩
theorem zao (s n:Nat)(hs:Sm s) (w:World)(hn:n<9223372036854775808) :
  Calls Tryz.prog 112 #[s,n] w fun e w'=>e=.returned (.bool (s.testBit n))∧w=w':=by
 have c:IntKind.u64.wrap (n:Int)=n:=by rw [IntKind.wrap_u64];omega
 have a:=zhb hs n;have b:=za a;clear a
 go_enter Tryz.func112,Tryz.ntmps112
 go_wp2;go_ret;exact⟨by simp [b.out],rfl⟩
theorem zbY (s:Nat) (n:Int)(hs:Sm s) (w:World) :
  Calls Tryz.prog 84 #[s,n] w fun e w'=>e=.returned (.bool (hasB s n))∧w=w':=by
 have a:=zhb hs n.toNat;have b:=za a;clear a
 by_cases h0:0<=n
 ·go_enter Tryz.func84,Tryz.ntmps84
  go_wp2;go_ret;exact⟨by simp [b.out,hasB,h0],rfl⟩
 ·go_enter Tryz.func84,Tryz.ntmps84
  go_wp2;go_ret;exact⟨by simp [hasB];omega,rfl⟩
theorem zae:(Tryz.prog.info? 3).map (fun i=>(i.zero,i.size,i.bytes))=some (some (.int .i64 0),1,8):=kM
def zbJ (w:World) (xs:List Nat) (e:Ending) (w':World):Prop:=
 ∃ A c,e=.returned (.slice A xs.length c)∧w'.ownsRow w.heap.size 3 1 (.slice A xs.length c) xs.length (zas xs)∧Ext w w'
theorem yQ01a2 {P:Prop}(h:P:=by
 go_roundw
 case rel=>exact⟨k+1,oM,gM,by rw [Hls.out];first|simpa [zas] using zjl|simpa using zjc,aM⟩
 case measure=>simp [intOf];omega
 ):P:=h
theorem zbr (a:Nat)(hs:Sm a) (w:World) :
  Calls Tryz.prog 55 #[a] w (zbJ w (letters a 6)):=by
 go_enter Tryz.func55,Tryz.ntmps55
 go_wp2
 go_loopw [3,5] (fun v i wr=>∃ k:Nat,k<=6∧i=.int .i64 k∧wr.ownsRow w.heap.size 3 1 v (letters a k).length (zas (letters a k))∧Ext w wr)
  (fun _ i _=>6 - (intOf i).toNat)
 case atStart=>exact⟨0,dD _,rfl,World.ownsRow_nil _ _ _ _,Ext.refl _⟩
 case round =>
  obtain⟨k,g,rfl,zjc,d⟩:=hrel;have h:=zB a k
  by_cases hlt:k<6
  ·cases hb:a.testBit k
   all_goals
    have f:hasB a k=a.testBit k:=by simp [hasB]
    rw [hb] at f;have b:=zbh a k;rw [hb] at b;have Hls:=za b;clear b hb;go_wp2_with (first
     |(go_at_call 84;refine (zbY a k hs _).mono ?_;rintro e w' ⟨rfl,rfl⟩)
     |(at_builtin;refine zL w wr rfl (.tmp 11) (.tmp 13) _ rfl 3 _ 1 8 Tryz.underlying74 zae rfl dM u3 _ _ _ _ rfl rfl d zjc rfl (zbq _) lM oM ?_;intro v' w1 hext1 zjl hg1 hat1))
    exact yQ01a2
  ·obtain rfl:k=6:=oM;obtain⟨A,c,rfl⟩:=zi zjc;go_wp2;go_ret;exact⟨_,_,rfl,zjc,d⟩
def tot (ls:List (List Int)):Nat:=(ls.map iK).sum
theorem zja (h:ls[k]?=some l):tot (ls.take (k+1))=tot (ls.take k)+l.length:=by
 rw [dH,h];simp [tot]
theorem tot_append (a b:List (List Int)):tot (a++b)=tot a+tot b:=by simp [tot]
theorem tot_take_le (ls:List (List Int)) (k:Nat):tot (ls.take k)<=tot ls:=by
 have h:=tot_append (ls.take k) (ls.drop k);rw [List.take_append_drop] at h;omega
structure Aut where
 al:Int
 next:List (List Int)
 acc:List Bool
def zI (w:World) (lo hi:Nat) (A:Option Addr) (n:Nat) (A':Option Addr) (n':Nat) (a:Aut):Prop:=
 zbx w lo hi A n a.next∧n'=a.acc.length∧Reads w lo hi 1 A' n' (zaA a.acc)
section
variable {w w':World} {lo hi n n':Nat} {A A':Option Addr} {a:Aut}
theorem zI.ext (h:zI w lo hi A n A' n' a)(hb:Ext w w'):zI w' lo hi A n A' n' a:=⟨h.1.ext hb,h.2.1,h.2.2.ext hb⟩
theorem zI.frm (h:zI w lo hi A n A' n' a)(hb:Frm S w w')(hS:∀ k,lo<=k->k<hi->¬ S k):zI w' lo hi A n A' n' a:=⟨h.1.frm hb hS,h.2.1,h.2.2.frm hb hS⟩
theorem zI.more (h:zI w lo hi A n A' n' a)(hL:lo'<=lo)(hH:hi<=hi'):zI w lo' hi' A n A' n' a:=⟨h.1.more hL hH,h.2.1,h.2.2.more hL hH⟩
theorem zI.n1 (h:zI w lo hi A n A' n' a):n=a.next.length:=h.1.1
theorem zI.n2 (h:zI w lo hi A n A' n' a):n'=a.acc.length:=h.2.1
end
def Aut.size (a:Aut):Nat:=a.next.length+tot a.next+a.acc.length
theorem zbf:(Tryz.prog.info? 4).map (fun i=>(i.zero,i.size,i.bytes))=some (some (.bool false),1,1):=kM
theorem zcd:(Tryz.prog.info? 74).map (fun i=>(i.zero,i.size,i.bytes))=some (some (.slice none 0 0),1,24):=kM
def zG (w:World) (base:Nat) (rows:List Value) (ls:List (List Int)):Prop:=
 rows.length=ls.length∧(∀ (i:Nat) (row:Value) (l:List Int),rows[i]?=some row->ls[i]?=some l->w.ownsRow base 3 1 row l.length (ints l)) ∧
  ∀ (i j:Nat) (ri rj:Value) (b:Nat),rows[i]?=some ri->rows[j]?=some rj->i≠j->ri.ownBlock=some b->rj.ownBlock≠some b
theorem zG.nil (w:World) (base:Nat):zG w base [] []:=⟨rfl,fun i row l h=>by simp at h,fun i j ri rj b h=>by simp at h⟩
theorem zG.ext (h:zG w base rows ls)(hb:Ext w w'):zG w' base rows ls:=
 ⟨h.1,fun i row l hr hl=>zg (h.2.1 i row l hr hl) hb,h.2.2⟩
theorem zG.row (h:zG w base rows ls)  {row:Value}(hr:rows[i]?=some row):∃ l,ls[i]?=some l∧w.ownsRow base 3 1 row l.length (ints l):=by
 have b:i<rows.length:=(List.getElem?_eq_some_iff.1 hr).1;have a:ls[i]?=some (ls[i]'(by rw [← h.1];exact b)):=dC _;exact⟨_,a,h.2.1 i row _ hr a⟩
theorem zG.frm (h:zG w base rows ls)(hb:Frm S w w')(hS:∀ (i:Nat) (row:Value) (b:Nat),rows[i]?=some row->row.ownBlock=some b->¬ S b):zG w' base rows ls:=
 ⟨h.1,fun i row l hr hl=>zf (h.2.1 i row l hr hl) hb (fun b hb=>hS i row b hr hb),h.2.2⟩
theorem zG.snoc (h:zG w base rows ls)(hb:Ext w w') {row:Value} (hbase:base<=w.heap.size)(hrow:w'.ownsRow w.heap.size 3 1 row l.length (ints l)) :
  zG w' base (rows++[row]) (ls++[l]):=by
 have c:=h.1;refine⟨by simp [c],fun i r m hr hm=>?_,fun i j ri rj b hri hrj hij hbi=>?_⟩
 ·rcases Nat.lt_trichotomy i rows.length with a|a|a
  ·rw [dK a] at hr;rw [dK oM] at hm;exact zg (h.2.1 i r m hr hm) hb
  ·rw [dP oM,a,Nat.sub_self] at hr;rw [dP oM,a,c,Nat.sub_self] at hm;simp at hr hm;subst hr;subst hm;exact zn hrow hbase
  ·rw [List.getElem?_eq_none (by simp;omega)] at hr;cases hr
 ·have g:∀ (i:Nat) (r:Value) (b:Nat),i<rows.length->rows[i]?=some r->r.ownBlock=some b->b<w.heap.size:=fun i r b a hr hb=>by
   obtain⟨m,_,o⟩:=h.row hr;exact (o.lt b hb).2
  have f:∀ b,row.ownBlock=some b->w.heap.size<=b:=fun b hb=>(hrow.lt b hb).1;have a:i<=rows.length:=by have:=(List.getElem?_eq_some_iff.1 hri).1;simp at this;omega
  have d:j<=rows.length:=by have:=(List.getElem?_eq_some_iff.1 hrj).1;simp at this;omega
  rcases eU a with a|a<;>rcases eU d with d|d
  ·rw [dK a] at hri;rw [dK d] at hrj;exact h.2.2 i j ri rj b hri hrj hij hbi
  ·rw [dK a] at hri;subst d;simp at hrj;subst hrj;intro hc;have k:=g i ri b a hri hbi;have n:=f b hc;omega
  ·rw [dK d] at hrj;subst a;simp at hri;subst hri;intro hc;have k:=g j rj b d hrj hc;have n:=f b hbi;omega
  ·omega
def zes (w:World) (base:Nat) (v:Value) (ls:List (List Int)):Prop:=∃ rows,w.ownsRow base 74 1 v ls.length rows∧zG w base rows ls
theorem zes.ext (h:zes w base v ls)(hb:Ext w w'):zes w' base v ls:=by
 obtain⟨a,b,c⟩:=h;exact⟨a,zg b hb,c.ext hb⟩
theorem zG.aq (h:zG w base rows ls)(hb:Frm S w w')(hS:∀ b,base<=b->¬ S b):zG w' base rows ls:=
 ⟨h.1,fun i row l hr hl=>zbd (h.2.1 i row l hr hl) hb hS,h.2.2⟩
theorem zG.less (h:zG w base rows ls)(hb:base'<=base):zG w base' rows ls:=
 ⟨h.1,fun i row l hr hl=>zn (h.2.1 i row l hr hl) hb,h.2.2⟩
theorem zes.aq (h:zes w base v ls)(hb:Frm S w w')(hS:∀ b,base<=b->¬ S b):zes w' base v ls:=by
 obtain⟨a,c,d⟩:=h;exact⟨a,zbd c hb hS,d.aq hb hS⟩
theorem zes.less (h:zes w base v ls)(hb:base'<=base):zes w base' v ls:=by
 obtain⟨a,b,c⟩:=h;exact⟨a,zn b hb,c.less hb⟩
theorem zes.reads (h:zes w base (.slice A n c) ls)(hn:n=ls.length):zbx w base w.heap.size A n ls:=by
 obtain⟨a,j,b⟩:=h;subst hn;refine⟨rfl,a,Reads.af j,b.1,fun i row l hr hl=>?_⟩;have d:=b.2.1 i row l hr hl;obtain⟨f,g,rfl⟩:=zi d;exact⟨f,g,rfl,Reads.af d⟩
def zX (w:World) (base:Nat) (A:Option Addr) (n c:Nat) (A':Option Addr) (n' c':Nat) (a:Aut):Prop:=
 zes w base (.slice A n c) a.next∧n=a.next.length∧w.ownsRow base 4 1 (.slice A' n' c') n' (zaA a.acc)∧n'=a.acc.length
theorem zX.ext {a:Aut}(h:zX w base A n c A' n' c' a)(hb:Ext w w'):zX w' base A n c A' n' c' a:=
 ⟨h.1.ext hb,h.2.1,zg h.2.2.1 hb,h.2.2.2⟩
theorem zX.aq {a:Aut}(h:zX w base A n c A' n' c' a)(hb:Frm S w w')(hS:∀ b,base<=b->¬ S b):zX w' base A n c A' n' c' a:=
 ⟨h.1.aq hb hS,h.2.1,zbd h.2.2.1 hb hS,h.2.2.2⟩
theorem zX.less {a:Aut}(h:zX w base A n c A' n' c' a)(hb:base'<=base):zX w base' A n c A' n' c' a:=
 ⟨h.1.less hb,h.2.1,zn h.2.2.1 hb,h.2.2.2⟩
theorem zX.reads {a:Aut}(h:zX w base A n c A' n' c' a):zI w base w.heap.size A n A' n' a:=
 ⟨h.1.reads h.2.1,h.2.2.2,Reads.af h.2.2.1⟩
def RetAut (w:World) (a:Aut) (e:Ending) (w':World):Prop:=
 ∃ A n c A' n' c',e=.returned (.agg #[a.al,.slice A n c,.slice A' n' c'])∧zX w' w.heap.size A n c A' n' c' a∧Ext w w'
def zbU:Op->Bool
 |.move _ | .assign _ | .pick _ _ _ | .binOp _ _ _ _ _ | .unOp _ _ _ | .load _ _ | .fieldAddr _ _ _ | .field _ _ _ | .indexAddr _ _ _ | .index _ _ _ | .extract _ _ | .build _ _ | .slice _ _ _ _ _ | .convert _ _ _=>true
 |.call { callee:=.builtin .len,.. }=>true
 |.call { callee:=.builtin .cap,.. }=>true
 |_=>false
def okOrd (l:List Oper):List Nat->Array Bool->Bool
 |[],listed=>(Region.ready .any l.toArray listed).isEmpty
 |i :: rest,listed =>
  (match l[i]? with
   |some o=>if zbU o.op then Region.free .any l.toArray listed i&&(Region.ready .any l.toArray listed).contains i else Region.ready .any l.toArray listed==[i]
   |none=>false)&&okOrd l rest (listed.setIfInBounds i true)
def zec (P:Program) (l:List Oper) (Q:Exit->Act->World->Prop) (S:World->Prop):List Nat->Act->World->Prop
 |[],a,w=>Q .normal a w
 |i :: rest,a,w=>match l[i]? with
  |some o=>if zbU o.op then ∃ v,YieldsIf P l.toArray S o v a∧S w∧zec P l Q S rest (a.put o.dst v) w
   else wpOp P l.toArray Q i (fun a' w'=>S w'∧zec P l Q S rest a' w') a w
  |none=>False
section
variable {P:Program} {l:List Oper} {Q:Exit->Act->World->Prop} {S:World->Prop}
theorem zha (hs:Region.noSelect l.toArray=true)(hQ:∀ (c:List PanicEntry) (a:Act) (d:Tmp) (v:Value) (w:World),Q (.panic c) (a.put (some d) v) w->Q (.panic c) a w) :
  ∀ (ord:List Nat) (listed:Array Bool) (a:Act) (w:World),okOrd l ord listed=true->zec P l Q S ord a w->wpAnyH P .any l.toArray Q S ord.length listed a w
 |[],listed,a,w,hok,h=>by
  simp only [okOrd,List.isEmpty_iff] at hok
  exact wpAnyH_done hok h 0
 |i :: rest,listed,a,w,hok,h=>by
  cases ho:l[i]? with
  |none=>simp [okOrd,ho] at hok
  |some o =>
   simp only [okOrd,ho,dF] at hok
   simp only [zec,ho] at h
   by_cases hq:zbU o.op=true
   ·rw [if_pos hq] at hok h
    simp only [dF] at hok
    obtain⟨v,hy,hS,hr⟩:=h
    exact wpAnyH_take (by simpa using ho) hs hok.1.1 hok.1.2 (fun c a w h=>by cases hd:o.dst with|none=>rw [hd] at h;exact h|some d=>rw [hd] at h;exact hQ c a d v w h) hy hS (zha hs hQ rest _ _ _ hok.2 hr)
   ·rw [if_neg hq] at hok h
    refine wpAnyH_all (rs:=[i]) (by simpa using hok.1) sM fun j hj=>?_
    rw [List.mem_singleton.1 hj]
    exact wpOp_mono (fun a' w' h=>⟨h.1,zha hs hQ rest _ _ _ hok.2 h.2⟩) h
theorem zaj (S:World->Prop) (ord:List Nat)(hm:P.follows .mixedOrders=true)(hlen:ord.length=l.length)(hs:Region.noSelect l.toArray=true)(hok:okOrd l ord (Array.replicate l.length false)=true)
  (hQ:∀ (c:List PanicEntry) (a:Act) (d:Tmp) (v:Value) (w:World),Q (.panic c) (a.put (some d) v) w->Q (.panic c) a w) (hS:S w.drew) (h:S w.drew->zec P l Q S ord a w.drew):(Code.region id l.toArray true).wp P Q a w:=by
 refine wp_region_held (S:=S) hm ?_;have:=zha hs hQ ord _ a w.drew hok (h hS);rw [hlen] at this;simpa using this
theorem zcj (h:Q .normal a w):zec P l Q S [] a w:=h
theorem seq_read {o:Oper}   (ho:l[i]?=some o)(hq:zbU o.op=true)(hw:Region.wanted o (yielded l.toArray a.tmps)=true)
  (hy:∀ W,S W->(execOp a.eval o).run P W=.ok (.value v) W) (hS:S w) (h:zec P l Q S rest (a.put o.dst v) w):zec P l Q S (i :: rest) a w:=by
 simp only [zec,ho,hq,if_true];exact⟨v,.inl ⟨hw,hy⟩,hS,h⟩
theorem seq_skip {o:Oper}  (ho:l[i]?=some o)(hw:Region.wanted o (yielded l.toArray a.tmps)=false)
  (hS:S w) (h:zec P l Q S rest (a.put o.dst undef) w):zec P l Q S (i :: rest) a w:=by
 simp only [zec,ho];split
 ·exact⟨undef,.inr ⟨hw,rfl⟩,hS,h⟩
 ·unfold wpOp;simp only [eF,ho,hw,eX,if_false];exact⟨hS,h⟩
theorem zaf {o:Oper}  
  (h:∀ K:Act->World->Prop,Shut (∀ a w,S w->(S w->zec P l Q S rest a w)->K a w)->o.wp P a w K Q) (ho:l[i]?=some o:=by rfl) (hq:zbU o.op=false:=by rfl) (hw:Region.wanted o (yielded l.toArray a.tmps)=true:=by rfl):zec P l Q S (i :: rest) a w:=by
 simp only [zec,ho,hq];unfold wpOp;simp only [eF,ho,hw,if_true];exact .inl (h _ fun a w hS hW=>⟨hS,hW hS⟩)
end
theorem sQ {A B:Prop}(h:B) (k:Bx B->A:=by
 intro h0
 repeat (first|(refine seq_skip rfl rfl aM ?_;simp only [Act.put,List.setIfInBounds_toArray,List.set_cons_zero,List.set_cons_succ])|(refine seq_read (v:=?_) rfl rfl rfl (fun X hX=>?_) aM ?_;rotate_left;(focus (go_simp<;>with_reducible rfl));simp only [Act.put,List.setIfInBounds_toArray,List.set_cons_zero,List.set_cons_succ]))
 exact h0.out):A:=k ⟨h⟩
theorem sR {P:Program} {l:List Oper} {Q:Exit->Act->World->Prop} {id:Nat}   (S:World->Prop) (ord:List Nat)(h:S w.drew->zec P l Q S ord a w.drew)(hm:P.follows .mixedOrders=true:=by kernel_rfl)(hlen:ord.length=l.length:=by rfl)(hs:Region.noSelect l.toArray=true:=by kernel_rfl)(hok:okOrd l ord (Array.replicate l.length false)=true:=by kernel_rfl)
  (hQ:∀ (c:List PanicEntry) (a:Act) (d:Tmp) (v:Value) (w:World),Q (.panic c) (a.put (some d) v) w->Q (.panic c) a w:=by exact fun _ _ _ _ _ h=>h) (hS:S w.drew:=by first|assumption|exact (Ext.refl _).drew|(refine Ext.drew ?_;assumption)):(Code.region id l.toArray true).wp P Q a w:=
 zaj S ord hm hlen hs hok hQ hS h
structure Edg where
 fr:Int
 le:Int
 ta:Int
deriving DecidableEq
structure Sys where
 al:Int
 st:Int
 edges:List Edg
def zu:List Edg->List Value
 |[]=>[]
 |e :: r=>.int .i64 e.fr :: .int .i64 e.le :: .int .i64 e.ta :: zu r
theorem zbt (l:List Edg):(zu l).length=l.length*3:=by
 induction l with
 |nil=>rfl
 |cons e r ih=>simp only [zu,List.length_cons,ih];omega
theorem zch (l m:List Edg):zu (l++m)=zu l++zu m:=by
 induction l with
 |nil=>rfl
 |cons e r ih=>simp [zu,ih]
theorem zco {l:List Edg}  {e:Edg}(h:l[k]?=some e):(zu l)[k*3]?=some (.int .i64 e.fr)∧(zu l)[k*3+1]?=some (.int .i64 e.le)∧(zu l)[k*3+2]?=some (.int .i64 e.ta):=by
 induction l generalizing k with
 |nil=>simp at h
 |cons a r ih =>
  cases k with
  |zero=>simp at h;subst h;exact⟨rfl,rfl,rfl⟩
  |succ k =>
   have:=ih (k:=k) (by simpa using h);have b:(k+1)*3=k*3+1+1+1:=oM;refine⟨?_,?_,?_⟩<;>rw [b]<;>simp only [zu,List.getElem?_cons_succ]
   ·exact this.1
   ·exact this.2.1
   ·exact this.2.2
theorem zcK {ad:Addr} (h:w.cell? (ad.add 0)=some v):ad=⟨ad.block,ad.off,none⟩:=by
 rw [addr_zero] at h;obtain⟨b,o,s⟩:=ad;have a:s=none:=World.cell?_spot h;subst a;rfl
theorem Reads.edge {l:List Edg}(h:Reads w lo hi 3 A n (zu l))(hk:k<n) :
  ∃ b o e,A=some ⟨b,o,none⟩∧lo<=b∧b<hi∧Hid (l[k]?=some e)∧w.cell? ⟨b,o+k*3,none⟩=some (.int .i64 e.fr)∧w.cell? ⟨b,o+k*3+1,none⟩=some (.int .i64 e.le)∧w.cell? ⟨b,o+k*3+2,none⟩=some (.int .i64 e.ta):=by
 obtain⟨g,m,q,p,a⟩:=h.at_ hk;have r:l.length=n:=by have:=h.length;rw [zbt] at this;omega
 have hx:l[k]?=some l[k]:=dC oM;have hg:=zco hx;have c:=a _ _ hg.1;have d:=a _ _ hg.2.1;have f:=a _ _ hg.2.2;have j:=zco (k:=0) (dC (l:=l) oM);rw [Nat.zero_mul] at j;have i:=zcK (a _ _ j.1);rw [i] at c d f;rw [zK] at c d f;exact⟨g.block,g.off,l[k],by rw [m,i],q,p,hx,c,by rw [gD];exact d,by rw [gD];exact f⟩
theorem Reads.edge2 {o:Nat} {l:List Edg} {e:Edg}(h:Reads w lo hi 3 (some ⟨b,o,none⟩) n (zu l))(he:l[j]?=some e) :
  w.cell? ⟨b,o+j*3,none⟩=some (.int .i64 e.fr)∧w.cell? ⟨b,o+j*3+1,none⟩=some (.int .i64 e.le)∧w.cell? ⟨b,o+j*3+2,none⟩=some (.int .i64 e.ta):=by
 have m:j<l.length:=(List.getElem?_eq_some_iff.1 he).1;have p:l.length=n:=by have:=h.length;rw [zbt] at this;omega
 obtain⟨i,a,_,_,c⟩:=h.at_ (k:=j) oM;injection a with a
 subst a;have hg:=zco he;have d:=c _ _ hg.1;have f:=c _ _ hg.2.1;have g:=c _ _ hg.2.2;rw [zK] at d f g;exact⟨d,by rw [gD];exact f,by rw [gD];exact g⟩
def zR (w:World) (lo hi:Nat) (A:Option Addr) (n:Nat) (s:Sys):Prop:=n=s.edges.length∧Reads w lo hi 3 A n (zu s.edges)
section
variable {w w':World} {lo hi n:Nat} {A:Option Addr} {s:Sys}
theorem zR.ext (h:zR w lo hi A n s)(hb:Ext w w'):zR w' lo hi A n s:=⟨h.1,h.2.ext hb⟩
theorem zR.frm (h:zR w lo hi A n s)(hb:Frm S w w')(hS:∀ k,lo<=k->k<hi->¬ S k):zR w' lo hi A n s:=⟨h.1,h.2.frm hb hS⟩
theorem zR.more (h:zR w lo hi A n s)(hL:lo'<=lo)(hH:hi<=hi'):zR w lo' hi' A n s:=⟨h.1,h.2.more hL hH⟩
end
theorem zbg:(Tryz.prog.info? 103).map (fun i=>(i.zero,i.size,i.bytes))=some (some (.agg #[(0:Int),(0:Int),(0:Int)]),3,24):=kM
def OwnE (w:World) (base:Nat) (A:Option Addr) (n c:Nat) (l:List Edg):Prop:=n=l.length∧w.ownsRow base 103 3 (.slice A n c) n (zu l)
theorem OwnE.ext {l:List Edg}(h:OwnE w base A n c l)(hb:Ext w w'):OwnE w' base A n c l:=⟨h.1,zg h.2 hb⟩
def RetSys (w:World) (s:Sys) (e:Ending) (w':World):Prop:=
 ∃ A n c,e=.returned (.agg #[s.al,s.st,.slice A n c])∧OwnE w' w.heap.size A n c s.edges∧Ext w w'
instance:BEq Edg:=⟨fun a b=>decide (a.fr=b.fr)&&(decide (a.le=b.le)&&decide (a.ta=b.ta))⟩
theorem edg_beq (a b:Edg):(a==b)=(decide (a.fr=b.fr)&&(decide (a.le=b.le)&&decide (a.ta=b.ta))):=rfl
instance:LawfulBEq Edg where
 eq_of_beq {a b} h:=by
  rw [edg_beq] at h;simp only [dF,decide_eq_true_eq] at h;cases a;cases b;simp_all
 rfl {a}:=by rw [edg_beq];simp
def zet (w:World) (lo hi:Nat) (A:Option Addr) (n:Nat) (ss:List Sys):Prop:=
 n=ss.length∧∃ cells,Reads w lo hi 3 A n cells∧∀ (k:Nat) (s:Sys),ss[k]?=some s->∃ (B:Option Addr) (m c:Nat),cells[k*3]?=some (.int .i64 s.al)∧cells[k*3+1]?=some (.int .i64 s.st)∧cells[k*3+2]?=some (.slice B m c)∧zR w lo hi B m s
section
variable {w w':World} {lo hi n k:Nat} {A:Option Addr} {ss:List Sys}
theorem zet.ext (h:zet w lo hi A n ss)(hb:Ext w w'):zet w' lo hi A n ss:=by
 obtain⟨e,a,i,hx⟩:=h;refine⟨e,a,i.ext hb,fun k s hs=>?_⟩;obtain⟨B,m,c,b,d,f,g⟩:=hx k s hs;exact⟨B,m,c,b,d,f,g.ext hb⟩
theorem zet.len (h:zet w lo hi A n ss):n<=9223372036854775807:=by
 obtain⟨_,a,b,_⟩:=h;exact b.len
theorem zhV (h:Reads w lo hi 3 A n xs)(hn:0<n)(hu:xs[0]?=some u):∃ b o,A=some ⟨b,o,none⟩∧lo<=b∧b<hi∧∀ j v,xs[j]?=some v->w.cell? ⟨b,o+j,none⟩=some v:=by
 obtain⟨a,e,g,f,c⟩:=h.at_ hn;have d:=zcK (c 0 u hu);refine⟨a.block,a.off,by rw [e,d],g,f,fun j v hv=>?_⟩;have:=c j v hv;rw [d,zK] at this;exact this
theorem zet.sys (h:zet w lo hi A n ss)(hk:k<n):∃ b o s B m c,A=some ⟨b,o,none⟩∧lo<=b∧b<hi∧Hid (ss[k]?=some s)∧w.cell? ⟨b,o+k*3,none⟩=some (.int .i64 s.al)∧w.cell? ⟨b,o+k*3+1,none⟩=some (.int .i64 s.st)∧w.cell? ⟨b,o+k*3+2,none⟩=some (.slice B m c)∧zR w lo hi B m s:=by
 obtain⟨e,a,t,hx⟩:=h;have d:ss[0]?=some (ss[0]' oM):=dC _;obtain⟨_,_,_,i,_⟩:=hx 0 _ d;rw [Nat.zero_mul] at i;obtain⟨b,o,rfl,r,q,f⟩:=zhV t oM i;have g:ss[k]?=some (ss[k]' oM):=dC _;obtain⟨B,m,c,d,j,l,p⟩:=hx k _ g;exact⟨b,o,_,B,m,c,rfl,r,q,g,f _ _ d,by rw [gD];exact f _ _ j,by rw [gD];exact f _ _ l,p⟩
end
section
open Go.ChangeShapes Go.WideShapes Go.ChangeAt Go.Deep
theorem own_:ownKnob Tryz.prog.godebug=none:=kM
theorem laidOut_:laidOutB Tryz.prog=true:=kM
theorem and_t {a b:Bool}(h:a=true) (k:b=true):(a&&b)=true:=by rw [h,k];rfl
end
def Tab (w:World):Prop:=∀ j,j<64->w.cell? ⟨7,j,none⟩=some (.int .u8 (Lib.deBruijn64tab.getD j 0))
theorem Tab.ext (h:Tab w)(hb:Ext w w'):Tab w':=fun j hj=>hb.aa (h j hj)
theorem tz64_core (x k idx:Nat) (w:World)(hx0:((x:Int)==0)=false)
  (key:IntKind.u64.wrap (bits BinOp.and IntKind.u64 (x:Int) (IntKind.u64.wrap (-(x:Int)))*285870213051353865) / 288230376151711744=(idx:Int))
  (hi:idx<64) (hk:k<64) (hcell:w.cell? ⟨7,idx,none⟩=some (.int .u8 k)) :
  Calls Tryz.prog 237 #[.int .u64 x] w fun e w'=>e=.returned (.int .i64 k)∧w=w':=by
 go_enter Tryz.func237,Tryz.ntmps237
 go_wp2_with (simp only [key])
 go_ret;exact⟨rfl,rfl⟩
theorem tz64 (x:Nat)(hx:x<18446744073709551616)(hx0:x≠0) (w:World)(hT:Tab w) :
  Calls Tryz.prog 237 #[.int .u64 x] w fun e w'=>e=.returned (.int .i64 (Lib.ctz 64 x))∧w=w':=by
 obtain⟨b,f⟩:=Lib.lowest_bit 64 x hx0 hx;obtain⟨d,c⟩:=Lib.deBruijn64_at _ f;have a:=hT _ d;rw [c] at a;exact tz64_core x _ _ w (by simp;omega) (tz64_key x _ hx hx0 b) d f a
theorem tz (x:Nat)(hx:x<18446744073709551616)(hx0:x≠0) (w:World)(hT:Tab w) :
  Calls Tryz.prog 196 #[.int .u64 x] w fun e w'=>e=.returned (.int .i64 (Lib.ctz 64 x))∧w=w':=by
 go_enter Tryz.func196,Tryz.ntmps196
 go_wp2_with (go_at_call 237;refine (tz64 x hx hx0 w hT).mono ?_;rintro e w' ⟨rfl,rfl⟩)
 go_ret;exact⟨rfl,rfl⟩
theorem tab_head {rest : List (String × DataW Unit)} (h : laidMet Tryz.prog (("math/bits.deBruijn64tab", Rows.laid_math_bits_deBruijn64tab) :: rest) W) : Tab W := by
 have a : Lib.TabIs Tryz.prog W "math/bits.deBruijn64tab" .u8 (Lib.deBruijn64tab.map fun n : Nat => (n : Int)) :=
  Lib.tabIs_of_head (g:=7) (t:=279) (e:=5) kM kM Tryz.underlying279 Tryz.underlying5 kM kM h
 intro j hj;have:=a.cell (g:=7) kM j (by rw [List.length_map];exact hj);rw [this,List.getD_eq_getElem?_getD,List.getElem?_map,List.getD_eq_getElem?_getD];have b:Lib.deBruijn64tab.length=64:=rfl;rw [List.getElem?_eq_getElem oM];rfl
theorem tab_two {rest : List (String × DataW Unit)} (h : laidMet Tryz.prog (("math/bits.deBruijn32tab", Rows.laid_math_bits_deBruijn32tab) :: ("math/bits.deBruijn64tab", Rows.laid_math_bits_deBruijn64tab) :: rest) W) : Tab W := tab_head (laidMet.tail h)
section
open Go.Lib Go.Shelf
def zdA:Go.Shelf.Ren:=⟨fun|146=>64|221=>114|268=>153|138=>154|143=>155|195=>181|197=>182|218=>183|219=>184|260=>217|217=>218|225=>219|224=>220|267=>221|266=>246|314=>247|n=>n,fun|9=>9|31=>61|3=>3|4=>4|0=>0|105=>189|21=>21|5=>5|46=>155|119=>261|139=>264|138=>263|146=>265|51=>233|n=>n,fun|1=>1|3=>4|4=>5|n=>n⟩
theorem zgj:Go.Proofs.Lays.n146 Tryz.prog zdA where
 mixed:=kM
 f138:=Tryz.func154.trans (congrArg some kM)
 f143:=Tryz.func155.trans (congrArg some kM)
 f146:=Tryz.func64.trans (congrArg some kM)
 f195:=Tryz.func181.trans (congrArg some kM)
 f197:=Tryz.func182.trans (congrArg some kM)
 f217:=Tryz.func218.trans (congrArg some kM)
 f218:=Tryz.func183.trans (congrArg some kM)
 f219:=Tryz.func184.trans (congrArg some kM)
 f221:=Tryz.func114.trans (congrArg some kM)
 f224:=Tryz.func220.trans (congrArg some kM)
 f225:=Tryz.func219.trans (congrArg some kM)
 f260:=Tryz.func217.trans (congrArg some kM)
 f266:=Tryz.func246.trans (congrArg some kM)
 f267:=Tryz.func221.trans (congrArg some kM)
 f268:=Tryz.func153.trans (congrArg some kM)
 f314:=Tryz.func247.trans (congrArg some kM)
 t0:=Tryz.underlying0
 a0:=Tryz.isAgg0
 z0:=Tryz.sizeOf0
 v0:=Tryz.zeroValue0
 t3:=Tryz.underlying3
 a3:=Tryz.isAgg3
 z3:=Tryz.sizeOf3
 v3:=Tryz.zeroValue3
 t4:=Tryz.underlying4
 a4:=Tryz.isAgg4
 z4:=Tryz.sizeOf4
 v4:=Tryz.zeroValue4
 t5:=Tryz.underlying5
 a5:=Tryz.isAgg5
 z5:=Tryz.sizeOf5
 v5:=Tryz.zeroValue5
 t9:=Tryz.underlying9
 a9:=Tryz.isAgg9
 z9:=Tryz.sizeOf9
 v9:=Tryz.zeroValue9
 t21:=Tryz.underlying21
 a21:=Tryz.isAgg21
 z21:=Tryz.sizeOf21
 v21:=Tryz.zeroValue21
 t31:=Tryz.underlying61
 a31:=Tryz.isAgg61
 z31:=Tryz.sizeOf61
 v31:=Tryz.zeroValue61
 t46:=Tryz.underlying155
 a46:=Tryz.isAgg155
 z46:=Tryz.sizeOf155
 v46:=Tryz.zeroValue155
 t51:=Tryz.underlying233
 a51:=Tryz.isAgg233
 z51:=Tryz.sizeOf233
 v51:=Tryz.zeroValue233
 t105:=Tryz.underlying189
 a105:=Tryz.isAgg189
 z105:=Tryz.sizeOf189
 v105:=Tryz.zeroValue189
 t119:=Tryz.underlying261
 a119:=Tryz.isAgg261
 z119:=Tryz.sizeOf261
 t138:=Tryz.underlying263
 a138:=Tryz.isAgg263
 z138:=Tryz.sizeOf263
 v138:=Tryz.zeroValue263
 t139:=Tryz.underlying264
 a139:=Tryz.isAgg264
 z139:=Tryz.sizeOf264
 v139:=Tryz.zeroValue264
 t146:=Tryz.underlying265
 a146:=Tryz.isAgg265
 z146:=Tryz.sizeOf265
 v146:=Tryz.zeroValue265
 g1:=kM
 g3:=kM
 g4:=kM
theorem laySplit9:(Tryz.prog.info? (zdA.t 9)).map (fun i=>(i.zero,i.size,i.bytes))=some (some (.string ByteArray.empty),1,16):=kM
def layAtoi_ren:Go.Shelf.Ren:=⟨fun|172=>116|244=>157|245=>158|247=>186|279=>187|280=>188|281=>189|282=>190|287=>222|316=>223|171=>52|205=>224|321=>248|322=>249|243=>106|246=>150|283=>175|284=>176|285=>177|286=>178|129=>214|317=>213|318=>215|319=>216|320=>196|337=>236|338=>237|n=>n,fun|9=>9|3=>3|75=>122|76=>123|4=>4|5=>5|167=>192|37=>22|0=>0|85=>193|2=>2|168=>195|53=>180|175=>235|46=>155|210=>238|127=>154|145=>270|143=>268|21=>21|171=>179|173=>183|212=>232|51=>233|20=>20|213=>234|232=>278|233=>279|80=>125|n=>n,fun|15=>2|16=>3|17=>0|18=>6|19=>7|n=>n⟩
theorem layAtoi:Go.Proofs.LaysC.n172 Tryz.prog layAtoi_ren where
 mixed:=kM
 f129:=Tryz.func214.trans (congrArg some kM)
 f171:=Tryz.func52.trans (congrArg some kM)
 f172:=Tryz.func116.trans (congrArg some kM)
 f205:=Tryz.func224.trans (congrArg some kM)
 f243:=Tryz.func106.trans (congrArg some kM)
 f244:=Tryz.func157.trans (congrArg some kM)
 f245:=Tryz.func158.trans (congrArg some kM)
 f246:=Tryz.func150.trans (congrArg some kM)
 f247:=Tryz.func186.trans (congrArg some kM)
 f279:=Tryz.func187.trans (congrArg some kM)
 f280:=Tryz.func188.trans (congrArg some kM)
 f281:=Tryz.func189.trans (congrArg some kM)
 f282:=Tryz.func190.trans (congrArg some kM)
 f283:=Tryz.func175.trans (congrArg some kM)
 f284:=Tryz.func176.trans (congrArg some kM)
 f285:=Tryz.func177.trans (congrArg some kM)
 f286:=Tryz.func178.trans (congrArg some kM)
 f287:=Tryz.func222.trans (congrArg some kM)
 f316:=Tryz.func223.trans (congrArg some kM)
 f317:=Tryz.func213.trans (congrArg some kM)
 f318:=Tryz.func215.trans (congrArg some kM)
 f319:=Tryz.func216.trans (congrArg some kM)
 f320:=Tryz.func196.trans (congrArg some kM)
 f321:=Tryz.func248.trans (congrArg some kM)
 f322:=Tryz.func249.trans (congrArg some kM)
 f337:=Tryz.func236.trans (congrArg some kM)
 f338:=Tryz.func237.trans (congrArg some kM)
 t0:=Tryz.underlying0
 a0:=Tryz.isAgg0
 z0:=Tryz.sizeOf0
 v0:=Tryz.zeroValue0
 t2:=Tryz.underlying2
 a2:=Tryz.isAgg2
 z2:=Tryz.sizeOf2
 v2:=Tryz.zeroValue2
 t3:=Tryz.underlying3
 a3:=Tryz.isAgg3
 z3:=Tryz.sizeOf3
 v3:=Tryz.zeroValue3
 t4:=Tryz.underlying4
 a4:=Tryz.isAgg4
 z4:=Tryz.sizeOf4
 v4:=Tryz.zeroValue4
 t5:=Tryz.underlying5
 a5:=Tryz.isAgg5
 z5:=Tryz.sizeOf5
 v5:=Tryz.zeroValue5
 t9:=Tryz.underlying9
 a9:=Tryz.isAgg9
 z9:=Tryz.sizeOf9
 v9:=Tryz.zeroValue9
 t20:=Tryz.underlying20
 a20:=Tryz.isAgg20
 z20:=Tryz.sizeOf20
 v20:=Tryz.zeroValue20
 t21:=Tryz.underlying21
 a21:=Tryz.isAgg21
 z21:=Tryz.sizeOf21
 v21:=Tryz.zeroValue21
 t37:=Tryz.underlying22
 a37:=Tryz.isAgg22
 z37:=Tryz.sizeOf22
 v37:=Tryz.zeroValue22
 t46:=Tryz.underlying155
 a46:=Tryz.isAgg155
 z46:=Tryz.sizeOf155
 v46:=Tryz.zeroValue155
 t51:=Tryz.underlying233
 a51:=Tryz.isAgg233
 z51:=Tryz.sizeOf233
 v51:=Tryz.zeroValue233
 t53:=Tryz.underlying180
 a53:=Tryz.isAgg180
 z53:=Tryz.sizeOf180
 v53:=Tryz.zeroValue180
 t75:=Tryz.underlying122
 a75:=Tryz.isAgg122
 z75:=Tryz.sizeOf122
 v75:=Tryz.zeroValue122
 t76:=Tryz.underlying123
 a76:=Tryz.isAgg123
 z76:=Tryz.sizeOf123
 v76:=Tryz.zeroValue123
 t85:=Tryz.underlying193
 a85:=Tryz.isAgg193
 z85:=Tryz.sizeOf193
 v85:=Tryz.zeroValue193
 t127:=Tryz.underlying154
 a127:=Tryz.isAgg154
 z127:=Tryz.sizeOf154
 v127:=Tryz.zeroValue154
 t143:=Tryz.underlying268
 a143:=Tryz.isAgg268
 z143:=Tryz.sizeOf268
 v143:=Tryz.zeroValue268
 t145:=Tryz.underlying270
 a145:=Tryz.isAgg270
 z145:=Tryz.sizeOf270
 v145:=Tryz.zeroValue270
 t167:=Tryz.underlying192
 a167:=Tryz.isAgg192
 z167:=Tryz.sizeOf192
 v167:=Tryz.zeroValue192
 t168:=Tryz.underlying195
 a168:=Tryz.isAgg195
 z168:=Tryz.sizeOf195
 v168:=Tryz.zeroValue195
 t171:=Tryz.underlying179
 a171:=Tryz.isAgg179
 z171:=Tryz.sizeOf179
 v171:=Tryz.zeroValue179
 t173:=Tryz.underlying183
 a173:=Tryz.isAgg183
 z173:=Tryz.sizeOf183
 v173:=Tryz.zeroValue183
 t175:=Tryz.underlying235
 a175:=Tryz.isAgg235
 z175:=Tryz.sizeOf235
 v175:=Tryz.zeroValue235
 t210:=Tryz.underlying238
 a210:=Tryz.isAgg238
 z210:=Tryz.sizeOf238
 v210:=Tryz.zeroValue238
 t212:=Tryz.underlying232
 a212:=Tryz.isAgg232
 z212:=Tryz.sizeOf232
 v212:=Tryz.zeroValue232
 t213:=Tryz.underlying234
 a213:=Tryz.isAgg234
 z213:=Tryz.sizeOf234
 t232:=Tryz.underlying278
 a232:=Tryz.isAgg278
 z232:=Tryz.sizeOf278
 v232:=Tryz.zeroValue278
 t233:=Tryz.underlying279
 a233:=Tryz.isAgg279
 z233:=Tryz.sizeOf279
 v233:=Tryz.zeroValue279
 g15:=kM
 g16:=kM
 g17:=kM
 g18:=kM
 g19:=kM
 t80:=Tryz.underlying125
 a80:=Tryz.isAgg125
 z80:=Tryz.sizeOf125
 v80:=Tryz.zeroValue125
 i0:=kM
 i2:=kM
 i3:=kM
 i4:=kM
 i5:=kM
 i9:=kM
 i20:=kM
 i21:=kM
 i37:=kM
 i46:=kM
 i51:=kM
 i53:=kM
 i75:=kM
 i76:=kM
 i80:=kM
 i85:=kM
 i127:=kM
 i143:=kM
 i145:=kM
 i167:=kM
 i168:=kM
 i171:=kM
 i173:=kM
 i175:=kM
 i210:=kM
 i212:=kM
 i232:=kM
 i233:=kM
 m15:=kM
 m16:=kM
 m17:=kM
 m18:=kM
 m19:=kM
 c0:=kM
 c2:=kM
 c3:=kM
 c4:=kM
 c5:=kM
 c9:=kM
 c20:=kM
 c21:=kM
 c37:=kM
 c46:=kM
 c51:=kM
 c53:=kM
 c75:=kM
 c76:=kM
 c80:=kM
 c85:=kM
 c127:=kM
 c143:=kM
 c145:=kM
 c167:=kM
 c168:=kM
 c171:=kM
 c173:=kM
 c175:=kM
 c210:=kM
 c212:=kM
 c213:=kM
 c232:=kM
 c233:=kM
end
theorem zU (a:Nat)(hs:Sm a) (w:World) :
  Calls Tryz.prog 61 #[a] w (zbJ w (letters a 6)):=by
 go_enter Tryz.func61,Tryz.ntmps61
 go_wp2
 go_loopw [3,4] (fun v i wr=>∃ k:Nat,k<=6∧i=.int .i64 k∧wr.ownsRow w.heap.size 3 1 v (letters a k).length (zas (letters a k))∧Ext w wr)
  (fun _ i _=>6 - (intOf i).toNat)
 case atStart=>exact⟨0,dD _,rfl,World.ownsRow_lit w #[] 0 (cY _) lM rfl,(Ext.refl _).alloc _⟩
 case round =>
  obtain⟨k,g,rfl,zjc,d⟩:=hrel;have h:=zB a k
  by_cases hlt:k<6
  ·cases hb:a.testBit k
   all_goals
    have f:=za hb;have b:=zbh a k;rw [hb] at b;have Hls:=za b;clear b hb;go_wp2_with (first
     |(go_at_call 112;refine (zao a k hs _ oM).mono ?_;rw [f.out];rintro e w' ⟨rfl,rfl⟩)
     |(at_builtin;refine zL w wr rfl _ _ _ rfl 3 _ 1 8 Tryz.underlying74 zae rfl dM u3 _ _ _ _ rfl rfl d zjc rfl (zbq _) lM oM ?_;intro v' w1 hext1 zjl hg1 hat1))
    exact yQ01a2
  ·obtain rfl:k=6:=oM;obtain⟨A,c,rfl⟩:=zi zjc;go_wp2;go_ret;exact⟨_,_,rfl,zjc,d⟩
def zci (b:UInt8):Bool:=decide (97<=(b.toNat:Int)∧(b.toNat:Int)<=102)
def zaK (s:ByteArray):Bool:=decide (s.size<=50000)&&s.data.toList.all zci
theorem zbs (s:ByteArray) (i:Nat)(h:i<s.size):s.data.toList[i]?=some s[i]:=by
 rw [dC (by simpa using h)];rfl
theorem yQ01a1 {P:Prop}(h:P:=by
 go_wp2_with (go_at_call 62;refine (zbk s k hlt _).mono ?_;rw [hx.out];rintro e w' ⟨rfl,rfl⟩)
 go_ret;exact⟨zj (by rw [zaK,zaF hg.out (by have:=hx.out;simp [zci];omega),Bool.and_false]),rfl⟩
 ):P:=h
theorem zbb (s:ByteArray) (w:World)(hs:s.size<=9223372036854775807) :
  Calls Tryz.prog 29 #[s] w fun e w'=>e=.returned (.bool (zaK s))∧w=w':=by
 by_cases h:50000<s.size
 ·go_enter Tryz.func29,Tryz.ntmps29
  go_wp2;go_ret;exact⟨by simp [zaK,show ¬ s.size<=50000 by omega],rfl⟩
 ·go_enter Tryz.func29,Tryz.ntmps29
  go_wp2
  go_loop [3] (fun i=>∃ k:Nat,k<=s.size∧i=.int .i64 k∧Hid ((s.data.toList.take k).all zci=true)) (fun i=>s.size - (intOf i).toNat)
  case atStart=>exact⟨0,dD _,rfl,rfl⟩
  case round =>
   obtain⟨k,d,rfl,a⟩:=hrel
   by_cases hlt:k<s.size
   ·have hg:=za (zbs s k hlt);obtain⟨x,hx,b,c⟩:∃ x:Int,Hid ((s[k].toNat:Int) - 97=x) ∧ -97<=x∧x<=158:=⟨(s[k].toNat:Int) - 97,za rfl,oM,by have:=zbS s k hlt;omega⟩
    by_cases h0:x<0
    ·exact yQ01a1
    ·by_cases h1:6<=x
     ·exact yQ01a1
     ·go_wp2_with (go_at_call 62;refine (zbk s k hlt _).mono ?_;rw [hx.out];rintro e w' ⟨rfl,rfl⟩)
      go_round
      case rel=>exact⟨k+1,oM,gM,zbX hg.out a.out (by have:=hx.out;simp [zci];omega)⟩
      case measure=>simp [intOf];omega
   ·obtain rfl:k=s.size:=oM;go_wp2;go_ret;exact⟨zj (by rw [zaK,zdy sM a.out];simp;omega),rfl⟩
def zdD (s:ByteArray) (a:Nat):Bool:=s.data.toList.all fun b=>hasB a (ltr b.toNat)
theorem over_all {a:Nat}(h:a=63) (b:UInt8):hasB a (ltr b.toNat)=zci b:=by
 subst h;have:b.toNat<256:=b.toNat_lt;unfold hasB ltr zci
 by_cases h1:(b.toNat:Int) - 97<0
 ·rw [if_pos (.inl h1)];simp;omega
 ·by_cases h2:6<=(b.toNat:Int) - 97
  ·rw [if_pos (.inr h2)];simp;omega
  ·rw [if_neg oM];have c:b.toNat=97∨b.toNat=98∨b.toNat=99∨b.toNat=100∨b.toNat=101∨b.toNat=102:=oM;rcases c with h|h|h|h|h|h<;>rw [h]<;>decide
theorem overB_63 (s:ByteArray):zdD s 63=s.data.toList.all zci:=by
 unfold zdD
 congr 1
 funext b
 exact over_all rfl b
theorem zaP (s:ByteArray) (a:Nat) (w:World)(hs:s.size<=9223372036854775807)(ha:a<=63) :
  Calls Tryz.prog 56 #[s,a] w fun e w'=>e=.returned (.bool (decide (s.size<=50000)&&zdD s a))∧w=w':=by
 have j:Sm a:=tM;have g:(decide ((0:Int)<=a∧(a:Int)<=63))=true:=by simp;omega
 have d:=za g;clear g
 by_cases h:50000<s.size
 ·go_enter Tryz.func56,Tryz.ntmps56
  go_wp2_with (go_at_call 54;refine (zY _ _).mono ?_;rw [d.out];rintro e w' ⟨rfl,rfl⟩)
  go_ret;exact⟨by simp [show ¬ s.size<=50000 by omega],rfl⟩
 ·go_enter Tryz.func56,Tryz.ntmps56
  go_wp2_with (go_at_call 54;refine (zY _ _).mono ?_;rw [d.out];rintro e w' ⟨rfl,rfl⟩)
  go_loop [16] (fun i=>∃ k:Nat,k<=s.size∧i=.int .i64 k∧Hid ((s.data.toList.take k).all (fun b=>hasB a (ltr b.toNat))=true)) (fun i=>s.size - (intOf i).toNat)
  case atStart=>exact⟨0,dD _,rfl,rfl⟩
  case round =>
   obtain⟨k,l,rfl,c⟩:=hrel
   by_cases hlt:k<s.size
   ·have hg:=za (zbs s k hlt);cases hb:hasB a (ltr (s[k].toNat:Int))
    ·have f:=za hb;clear hb;go_wp2_with (first|(go_at_call 110;refine (zaI s k hlt _).mono ?_;rintro e w' ⟨rfl,rfl⟩)|(go_at_call 84;refine (zbY _ _ j _).mono ?_;rw [f.out];rintro e w' ⟨rfl,rfl⟩))
     go_ret;exact⟨zj (by rw [zdD,zaF hg.out f.out,iR]),rfl⟩
    ·have f:=za hb;clear hb;go_wp2_with (first|(go_at_call 110;refine (zaI s k hlt _).mono ?_;rintro e w' ⟨rfl,rfl⟩)|(go_at_call 84;refine (zbY _ _ j _).mono ?_;rw [f.out];rintro e w' ⟨rfl,rfl⟩))
     go_round
     case rel=>exact⟨k+1,oM,gM,zbX hg.out c.out f.out⟩
     case measure=>simp [intOf];omega
   ·obtain rfl:k=s.size:=oM;go_wp2;go_ret;exact⟨zj (by rw [zdD,zdy sM c.out];simp;omega),rfl⟩
theorem zcG (s:ByteArray) (w:World)(hs:s.size<=9223372036854775807) :
  Calls Tryz.prog 25 #[s] w fun e w'=>e=.returned (.bool (zaK s))∧w=w':=by
 have a:=overB_63 s;have b:=za a;clear a
 go_enter Tryz.func25,Tryz.ntmps25
 go_wp2_with (go_at_call 56;refine (zaP s 63 _ hs oM).mono ?_;rintro e w' ⟨rfl,rfl⟩)
 go_ret;exact⟨zj (by rw [b.out];rfl),rfl⟩
def ziE (k n:Nat) (row:List Int):Bool:=decide (row.length=k)&&row.all fun q=>decide (0<=q∧q<n)
def zh (a:Aut):Bool:=
 decide (0<=a.al∧a.al<=63)&&(decide (1<=a.next.length∧a.next.length<=12)&&(decide (a.acc.length=a.next.length)&&a.next.all (ziE (letters a.al.toNat 6).length a.next.length)))
theorem zhX (lo hi:Nat) (A:Option Addr) (n c:Nat) (l:List Int) (k m:Nat) (w:World)(h:Reads w lo hi 1 A n (ints l))(hk:k<=100) (_hm:m<=100) :
  Calls Tryz.prog 60 #[.slice A n c,k,m] w fun e w'=>e=.returned (.bool (ziE k m l))∧w=w':=by
 have j:=h.len;have f:l.length=n:=by have:=h.length;rw [zeC] at this;omega
 have b:=za f;clear f
 by_cases he:n=k
 ·subst he
  go_enter Tryz.func60,Tryz.ntmps60
  go_wp2
  go_loop [7] (fun i=>∃ k:Nat,k<=n∧i=.int .i64 k∧Hid ((l.take k).all (fun q=>decide (0<=q∧q<m))=true)) (fun i=>n - (intOf i).toNat)
  case atStart=>exact⟨0,dD _,rfl,rfl⟩
  case round =>
   obtain⟨k,hk,rfl,a⟩:=hrel
   by_cases hlt:k<n
   ·obtain⟨g,x,rfl,_,_,hx,d⟩:=h.int hlt
    by_cases h0:x<0
    ·go_wp2;go_ret;exact⟨zj (by rw [ziE,zaF hx.out (by simp;omega),iR]),rfl⟩
    ·by_cases h1:(m:Int)<=x
     ·go_wp2;go_ret;exact⟨zj (by rw [ziE,zaF hx.out (by simp;omega),iR]),rfl⟩
     ·go_wp2
      go_round
      case rel=>exact⟨k+1,oM,gM,zbX hx.out a.out (by simp;omega)⟩
      case measure=>simp [intOf];omega
   ·obtain rfl:k=n:=oM;go_wp2;go_ret;exact⟨zj (by rw [ziE,zdy (oH b.out) a.out,b.out];simp),rfl⟩
 ·go_enter Tryz.func60,Tryz.ntmps60
  go_wp2;go_ret;exact⟨zj (by rw [ziE,b.out];simp [he]),rfl⟩
theorem zH (lo hi:Nat) (A:Option Addr) (n c:Nat) (A':Option Addr) (n' c':Nat) (a:Aut) (w:World)(h:zI w lo hi A n A' n' a) :
  Calls Tryz.prog 27 #[.agg #[a.al,.slice A n c,.slice A' n' c']] w fun e w'=>e=.returned (.bool (zh a))∧Ext w w':=by
 have x:=h.n1;have y:=h.n2;have q:=za (show zh a=(decide (0<=a.al∧a.al<=63)&&(decide (1<=n∧n<=12)&&(decide (n'=n)&&a.next.all (ziE (letters a.al.toNat 6).length n)))) by unfold zh;rw [← x,← y]);have Q:=h.1.len;have R:=h.2.2.len;clear x y
 by_cases hal:0<=a.al∧a.al<=63
 ·have o:=za (show decide (0<=a.al∧a.al<=63)=true by simp;omega)
  by_cases hn:1<=n∧n<=12
  ·have L:decide ((n:Int)<1)=false:=by simp;omega
   have M:decide (12<(n:Int))=false:=by simp;omega
   by_cases hn':n'=n
   ·subst hn';obtain⟨al,b⟩:∃ al:Nat,Hid (a.al=al):=⟨a.al.toNat,by unfold Hid;omega⟩;have t:Sm al:=by have:=b.out;unfold Sm;omega
    have S:=zB al 6;rw [b.out];rw [b.out] at o;rw [b.out,eM] at q;clear hal;have z:=fun W (hW:Ext w W)=>h.1.ext hW;have F:=za z;clear z
    go_enter Tryz.func27,Tryz.ntmps27
    go_wp2_with (go_at_call 59;refine (zS _ _).mono ?_;rw [o.out];rintro e w' ⟨rfl,rfl⟩)
    go_loopw [4] (fun i wr=>∃ k:Nat,k<=n'∧i=.int .i64 k∧Hid ((a.next.take k).all (ziE (letters al 6).length n')=true)∧Ext (w.alloc (.cells #[Value.int .i64 al,Value.slice A n' c,Value.slice A' n' c'] 26)) wr)
     (fun i _=>n' - (intOf i).toNat)
    case atStart=>exact⟨0,dD _,rfl,rfl,Ext.refl _⟩
    case round =>
     obtain⟨k,Z,rfl,g,f⟩:=hrel;have B:∀ W,Ext wr W->∀ j,W.cell? ⟨w.heap.size,j,none⟩=#[Value.int .i64 al,Value.slice A n' c,Value.slice A' n' c'][j]?:=fun W hW=>zcs (f.trans hW)
     by_cases hlt:k<n'
     ·obtain⟨G,E,I,l,rfl,T,O,C,m,s⟩:=(F.out wr (((Ext.refl _).alloc _).trans f)).row hlt;have J:∀ W,Ext wr W->W.cell? (G.add k)=some (.slice E l.length I):=fun W hW=>hW.aa m;have V:=Ext.refl wr;have u:∀ W,Ext wr W->Ext w W:=fun W hW=>(((Ext.refl _).alloc _).trans f).trans hW;have r:=za u;clear u;cases hrb:ziE (letters al 6).length n' l
      ·have d:=za hrb;clear hrb;go_wp2_with fail
       go_region_held3 (fun W=>Ext wr W) (first|assumption|(refine Ext.drew ?_;assumption)|(refine Ext.trans ?_ aM;assumption)|(refine Ext.trans ?_ aM;refine Ext.drew ?_;assumption)) (first|(go_at_call 61;refine (zU _ t _).mono ?_;rintro e X ⟨D,H,rfl,v,p⟩)|(go_at_call 60;refine (zhX _ _ _ _ _ _ _ _ _ (s.ext ?_) oM oM).mono ?_;assumption;rw [d.out];rintro e Y ⟨rfl,rfl⟩))
       go_wp2;go_ret;exact⟨zj (by rw [q.out,zaF C.out d.out];simp),r.out _ aM⟩
      ·have d:=za hrb;clear hrb;go_wp2_with fail
       go_region_held3 (fun W=>Ext wr W) (first|assumption|(refine Ext.drew ?_;assumption)|(refine Ext.trans ?_ aM;assumption)|(refine Ext.trans ?_ aM;refine Ext.drew ?_;assumption)) (first|(go_at_call 61;refine (zU _ t _).mono ?_;rintro e X ⟨D,H,rfl,v,p⟩)|(go_at_call 60;refine (zhX _ _ _ _ _ _ _ _ _ (s.ext ?_) oM oM).mono ?_;assumption;rw [d.out];rintro e Y ⟨rfl,rfl⟩))
       go_wp2;go_roundw
       case rel=>exact⟨k+1,oM,gM,zbX C.out g.out d.out,f.trans aM⟩
       case measure=>simp [intOf];omega
     ·obtain rfl:k=n':=oM;go_wp2;go_ret;exact⟨zj (by rw [q.out,zdy (oH h.n1) g.out,o.out];simp;omega),((Ext.refl _).alloc _).trans f⟩
   ·have U:((n':Int) != (n:Int))=true:=by simp;omega
    go_enter Tryz.func27,Tryz.ntmps27
    go_wp2_with (go_at_call 59;refine (zS _ _).mono ?_;rw [o.out];rintro e w' ⟨rfl,rfl⟩)
    go_ret;exact⟨zj (by rw [q.out];simp [hn']),(Ext.refl _).alloc _⟩
  ·go_enter Tryz.func27,Tryz.ntmps27
   go_wp2_with (go_at_call 59;refine (zS _ _).mono ?_;rw [o.out];rintro e w' ⟨rfl,rfl⟩)
   all_goals go_ret
   all_goals exact⟨zj (by rw [q.out];simp [hn]),(Ext.refl _).alloc _⟩
 ·go_enter Tryz.func27,Tryz.ntmps27
  have o:decide (0<=a.al∧a.al<=63)=false:=by simp;omega
  go_wp2_with (go_at_call 59;refine (zS _ _).mono ?_;rw [o];rintro e w' ⟨rfl,rfl⟩)
  go_ret;exact⟨zj (by rw [q.out];simp;omega),(Ext.refl _).alloc _⟩
theorem zF (lo hi:Nat) (A:Option Addr) (n c:Nat) (A':Option Addr) (n' c':Nat) (a:Aut) (w:World)(h:zI w lo hi A n A' n' a) :
  Calls Tryz.prog 24 #[.agg #[a.al,.slice A n c,.slice A' n' c']] w fun e w'=>e=.returned (.bool (zh a))∧Ext w w':=by
 have C:=h.n1;have H:=h.n2;have p:=za (show zh a=(decide (0<=a.al∧a.al<=63)&&(decide (1<=n∧n<=12)&&(decide (n'=n)&&a.next.all (ziE (letters a.al.toNat 6).length n)))) by unfold zh;rw [← C,← H]);have S:=h.1.len;have T:=h.2.2.len;clear C H
 by_cases hal:0<=a.al∧a.al<=63
 ·have t:=za (show decide (0<=a.al∧a.al<=63)=true by simp;omega)
  by_cases hn:1<=n∧n<=12
  ·have O:decide ((n:Int)<1)=false:=by simp;omega
   have Q:decide (12<(n:Int))=false:=by simp;omega
   by_cases hn':n'=n
   ·subst hn';obtain⟨al,d⟩:∃ al:Nat,Hid (a.al=al):=⟨a.al.toNat,by unfold Hid;omega⟩;have G:Sm al:=by have:=d.out;unfold Sm;omega
    have D:=zB al 6;rw [d.out];rw [d.out] at t;rw [d.out,eM] at p;clear hal;have I:=fun W (hW:Ext w W)=>h.1.ext hW;have L:=za I;clear I
    go_enter Tryz.func24,Tryz.ntmps24
    go_wp2_with (first
     |(go_at_call 54;refine (zY _ _).mono ?_;rw [t.out];rintro e w' ⟨rfl,rfl⟩)
     |(go_at_call 55;refine (zbr _ G _).mono ?_;rintro e X ⟨Z,c2,rfl,Y,b⟩;have r:=zcs b))
    go_loopw [40] (fun i wr=>∃ k:Nat,k<=n'∧i=.int .i64 k∧Hid ((a.next.take k).all (ziE (letters al 6).length n')=true)∧Ext X wr)
     (fun i _=>n' - (intOf i).toNat)
    case atStart=>exact⟨0,dD _,rfl,rfl,Ext.refl _⟩
    case round =>
     obtain⟨k,hk,rfl,f,v⟩:=hrel;have J:∀ W,Ext wr W->∀ j,W.cell? ⟨w.heap.size,j,none⟩=#[Value.int .i64 al,Value.slice A n' c,Value.slice A' n' c'][j]?:=fun W hW=>zcs ((b.trans v).trans hW);have V:=Ext.refl wr;clear r;have o:Ext w wr:=(((Ext.refl _).alloc _).trans b).trans v
     by_cases hlt:k<n'
     ·obtain⟨ad,Ak,ck,l,rfl,U,R,B,s,y⟩:=(L.out wr o).row hlt
      by_cases hlk:l.length=(letters al 6).length
      ·obtain⟨m,E⟩:∃ m,Hid ((letters al 6).length=m):=⟨_,rfl⟩;have u:Hid (l.length=m):=by have:=E.out;unfold Hid;omega
       rw [E.out] at D ⊢;rw [E.out] at f p;rw [u.out] at s y;clear hlk;go_wp2_with fail
       go_loop [50] (fun i=>∃ j:Nat,j<=m∧i=.int .i64 j∧Hid ((l.take j).all (fun q=>decide (0<=q∧q<n'))=true)) (fun i=>m - (intOf i).toNat)
       case atStart=>exact⟨0,dD _,rfl,rfl⟩
       case round =>
        obtain⟨j,hj,rfl,g⟩:=hrel
        by_cases hltj:j<m
        ·obtain⟨M,x,rfl,_,_,hx,z⟩:=y.int hltj
         by_cases h0:x<0
         ·go_wp2;go_ret;exact⟨zj (by rw [p.out,zaF B.out (by rw [ziE,zaF hx.out (by simp;omega),iR])];simp),o⟩
         ·by_cases C:(n':Int)<=x
          ·go_wp2;go_ret;exact⟨zj (by rw [p.out,zaF B.out (by rw [ziE,zaF hx.out (by simp;omega),iR])];simp),o⟩
          ·go_wp2
           go_round
           case rel=>exact⟨j+1,oM,gM,zbX hx.out g.out (by simp;omega)⟩
           case measure=>simp [intOf];omega
        ·obtain rfl:j=m:=oM;go_wp2;go_roundw
         case rel=>exact⟨k+1,oM,gM,zbX B.out f.out (by rw [ziE,zdy (oH u.out) g.out,u.out];simp),v⟩
         case measure=>simp [intOf];omega
      ·have F:((l.length:Int) != ((letters al 6).length:Int))=true:=by simp;omega
       go_wp2;go_ret;exact⟨zj (by rw [p.out,zaF B.out (by simp [ziE,hlk])];simp),o⟩
     ·obtain rfl:k=n':=oM;go_wp2;go_ret;exact⟨zj (by rw [p.out,zdy (oH h.n1) f.out,t.out];simp;omega),o⟩
   ·have F:((n':Int) != (n:Int))=true:=by simp;omega
    go_enter Tryz.func24,Tryz.ntmps24
    go_wp2_with (go_at_call 54;refine (zY _ _).mono ?_;rw [t.out];rintro e w' ⟨rfl,rfl⟩)
    go_ret;exact⟨zj (by rw [p.out];simp [hn']),(Ext.refl _).alloc _⟩
  ·go_enter Tryz.func24,Tryz.ntmps24
   go_wp2_with (go_at_call 54;refine (zY _ _).mono ?_;rw [t.out];rintro e w' ⟨rfl,rfl⟩)
   all_goals go_ret
   all_goals exact⟨zj (by rw [p.out];simp [hn]),(Ext.refl _).alloc _⟩
 ·go_enter Tryz.func24,Tryz.ntmps24
  have t:decide (0<=a.al∧a.al<=63)=false:=by simp;omega
  go_wp2_with (go_at_call 54;refine (zY _ _).mono ?_;rw [t];rintro e w' ⟨rfl,rfl⟩)
  go_ret;exact⟨zj (by rw [p.out];simp;omega),(Ext.refl _).alloc _⟩
def zcZ (a:Aut):Bool:=decide (a.al=0)&&(decide (a.next.length=0)&&decide (a.acc.length=0))
theorem spec_l13None (lo hi:Nat) (A:Option Addr) (n c:Nat) (A':Option Addr) (n' c':Nat) (a:Aut) (w:World)(h:zI w lo hi A n A' n' a) :
  Calls Tryz.prog 28 #[.agg #[a.al,.slice A n c,.slice A' n' c']] w fun e w'=>e=.returned (.bool (zcZ a))∧Ext w w':=by
 have b:=za (show zcZ a=(decide (a.al=0)&&(decide (n=0)&&decide (n'=0))) by unfold zcZ;rw [← h.n1,← h.n2]);have j:=h.1.len;have k:=h.2.2.len;clear h
 by_cases h0:a.al=0
 ·have i:((a.al:Int)==0)=true:=by simp [h0]
  have f:=za h0;clear h0
  by_cases h1:n=0
  ·have d:((n:Int)==0)=true:=by simp [h1]
   have g:=za h1;clear h1
   go_enter Tryz.func28,Tryz.ntmps28
   go_wp2;go_ret;exact⟨zj (by rw [b.out,f.out,g.out];by_cases h2:n'=0<;>simp [h2]),(Ext.refl _).alloc _⟩
  ·have d:((n:Int)==0)=false:=by simp [h1]
   go_enter Tryz.func28,Tryz.ntmps28
   go_wp2;go_ret;exact⟨zj (by rw [b.out];simp [h1]),(Ext.refl _).alloc _⟩
 ·have i:((a.al:Int)==0)=false:=by simp [h0]
  go_enter Tryz.func28,Tryz.ntmps28
  go_wp2;go_ret;exact⟨zj (by rw [b.out];simp [h0]),(Ext.refl _).alloc _⟩
def zC (hd:Bool) (a:Aut) (s:ByteArray):Bool:=if hd then zh a&&s.toList.isEmpty else zcZ a&&zaK s
theorem zax (lo hi:Nat) (A:Option Addr) (n c:Nat) (A':Option Addr) (n' c':Nat)(hd:Bool) (a:Aut) (s:ByteArray) (w:World)(h:zI w lo hi A n A' n' a)(hs:s.size<=9223372036854775807) :
  Calls Tryz.prog 10 #[.agg #[.bool hd,a.al,.slice A n c,.slice A' n' c',s]] w fun e w'=>e=.returned (.bool (zC hd a s))∧Ext w w':=by
 have i:=fun W (hW:Ext w W)=>h.ext hW;have g:=za i;clear i;cases hd
 ·cases hb:zcZ a
  all_goals
   have d:=za hb;clear hb
   go_enter Tryz.func10,Tryz.ntmps10
   go_wp2_with (first
    |(go_at_call 28;refine (spec_l13None _ _ _ _ _ _ _ _ _ _ (g.out _ ?_)).mono ?_;exact (Ext.refl _).alloc _;rw [d.out];rintro e j ⟨rfl,b⟩;have f:=zcs b)
    |(go_at_call 29;refine (zbb s _ hs).mono ?_;rintro e w' ⟨rfl,rfl⟩))
   go_ret;exact⟨zj (by rw [zC,d.out];simp),((Ext.refl _).alloc _).trans b⟩
 ·cases hb:zh a
  all_goals
   have d:=za hb;clear hb
   go_enter Tryz.func10,Tryz.ntmps10
   go_wp2_with (go_at_call 27;refine (zH _ _ _ _ _ _ _ _ _ _ (g.out _ ?_)).mono ?_;exact (Ext.refl _).alloc _;rw [d.out];rintro e j ⟨rfl,b⟩;have f:=zcs b)
   go_ret;exact⟨zj (by rw [zC,d.out];simp),((Ext.refl _).alloc _).trans b⟩
theorem zca (lo hi:Nat) (A:Option Addr) (n c:Nat) (A':Option Addr) (n' c':Nat)(hd:Bool) (a:Aut) (s:ByteArray) (w:World)(h:zI w lo hi A n A' n' a)(hs:s.size<=9223372036854775807) :
  Calls Tryz.prog 8 #[.agg #[.bool hd,a.al,.slice A n c,.slice A' n' c',s]] w fun e w'=>e=.returned (.bool (zC hd a s))∧Ext w w':=by
 have k:=fun W (hW:Ext w W)=>h.ext hW;have q:=za k;clear k;cases hd
 ·have d:=za (show zcZ a=(decide (a.al=0)&&(decide (n=0)&&decide (n'=0))) by unfold zcZ;rw [← h.n1,← h.n2]);have r:=h.1.len;have t:=h.2.2.len;clear h
  by_cases h0:a.al=0
  ·have f:((a.al:Int)==0)=true:=by simp [h0]
   have m:=za h0;clear h0
   by_cases h1:n=0
   ·have g:((n:Int)==0)=true:=by simp [h1]
    have o:=za h1;clear h1
    by_cases h2:n'=0
    ·have i:((n':Int)==0)=true:=by simp [h2]
     have p:=za h2;clear h2
     go_enter Tryz.func8,Tryz.ntmps8
     go_wp2_with (go_at_call 25;refine (zcG s _ hs).mono ?_;rintro e w' ⟨rfl,rfl⟩)
     go_ret;exact⟨zj (by rw [zC,d.out,m.out,o.out,p.out];simp),((Ext.refl _).alloc _).alloc _⟩
    ·have i:((n':Int)==0)=false:=by simp [h2]
     go_enter Tryz.func8,Tryz.ntmps8
     go_wp2_with fail
     go_ret;exact⟨zj (by rw [zC,d.out];simp [h2]),((Ext.refl _).alloc _).alloc _⟩
   ·have g:((n:Int)==0)=false:=by simp [h1]
    go_enter Tryz.func8,Tryz.ntmps8
    go_wp2_with fail
    go_ret;exact⟨zj (by rw [zC,d.out];simp [h1]),((Ext.refl _).alloc _).alloc _⟩
  ·have f:((a.al:Int)==0)=false:=by simp [h0]
   go_enter Tryz.func8,Tryz.ntmps8
   go_wp2_with fail
   go_ret;exact⟨zj (by rw [zC,d.out];simp [h0]),((Ext.refl _).alloc _).alloc _⟩
 ·cases f:zh a
  all_goals
   have j:=za f;clear f
   go_enter Tryz.func8,Tryz.ntmps8
   go_wp2_with (go_at_call 24;refine (zF _ _ _ _ _ _ _ _ _ _ (q.out _ ?_)).mono ?_;exact (Ext.refl _).alloc _;rw [j.out];rintro e u ⟨rfl,b⟩;have l:=zcs b)
   go_ret;exact⟨zj (by rw [zC,j.out];simp),((Ext.refl _).alloc _).trans b⟩
def keyL (f:Nat->List UInt8) (x:Nat) (r:List Nat):List UInt8:=f x++r.flatMap fun y=>44 :: f y
section
variable {f:Nat->List UInt8} {B:Nat}
theorem zhl:∀ {u v s t:List UInt8},44∉u->44∉v->(s=[]∨∃ s',s=44 :: s')->(t=[]∨∃ t',t=44 :: t')->u++s=v++t->u=v∧s=t
 |[],[],_,_,_,_,_,_,h=>⟨rfl,h⟩
 |[],b :: v,s,t,_,hv,hs,_,h=>by
  exfalso
  rcases hs with rfl|⟨s',rfl⟩
  ·simp at h
  ·simp only [eB,fH,List.cons.injEq] at h
   exact hv (by simp [h.1])
 |a :: u,[],s,t,hu,_,_,ht,h=>by
  exfalso
  rcases ht with rfl|⟨t',rfl⟩
  ·simp at h
  ·simp only [eB,fH,List.cons.injEq] at h
   exact hu (by simp [h.1])
 |a :: u,b :: v,s,t,hu,hv,hs,ht,h=>by
  simp only [fH,List.cons.injEq] at h
  obtain⟨rfl,h⟩:=h
  obtain⟨h1,h2⟩:=zhl (fun h=>hu (by simp [h])) (fun h=>hv (by simp [h])) hs ht h
  exact⟨by rw [h1],h2⟩
theorem tail_form (r:List Nat):(r.flatMap fun y=>44 :: f y)=[]∨∃ s',(r.flatMap fun y=>44 :: f y)=44 :: s':=by
 cases r with
 |nil=>exact .inl rfl
 |cons y r=>exact .inr ⟨f y++r.flatMap fun y=>44 :: f y,sM⟩
theorem keyL_inj (hf:∀ x,x<B->44∉f x)(hi:∀ x y,x<B->y<B->f x=f y->x=y):∀ {r t:List Nat} {x y:Nat},x<B->y<B->(∀ z∈r,z<B)->(∀ z∈t,z<B)->keyL f x r=keyL f y t->x=y∧r=t
 |r,t,x,y,hx,hy,hr,ht,h=>by
  unfold keyL at h
  obtain⟨h1,h2⟩:=zhl (hf x hx) (hf y hy) (tail_form r) (tail_form t) h
  refine⟨hi x y hx hy h1,?_⟩
  cases r with
  |nil=>cases t with
   |nil=>rfl
   |cons b t=>simp at h2
  |cons a r=>cases t with
   |nil=>simp at h2
   |cons b t =>
    rw [gE,gE,fH,fH,List.cons.injEq] at h2
    obtain⟨h3,h4⟩:=keyL_inj hf hi (r:=r) (t:=t) (hr a sM) (ht b sM) (fun z hz=>hr z (by simp [hz])) (fun z hz=>ht z (by simp [hz])) h2.2
    rw [h3,h4]
termination_by r=>r.length
end
theorem zgB (h:x<100):(44:UInt8)∉Lib.decDigits x:=by
 intro hm
 by_cases h1:x<10
 ·rw [Lib.decDigits_one h1] at hm;have:=congrArg UInt8.toNat (List.mem_singleton.1 hm);simp at this;omega
 ·rw [Lib.decDigits_two h1 h] at hm;rcases List.mem_cons.1 hm with e|e
  ·have:=congrArg UInt8.toNat e;simp at this;omega
  ·have:=congrArg UInt8.toNat (List.mem_singleton.1 e);simp at this;omega
theorem dig_inj {y:Nat}(hx:x<100)(hy:y<100)(h:Lib.decDigits x=Lib.decDigits y):x=y:=by
 by_cases h1:x<10<;>by_cases h2:y<10
 ·rw [Lib.decDigits_one h1,Lib.decDigits_one h2] at h;have:=congrArg UInt8.toNat (List.cons.inj h).1;simp at this;omega
 ·rw [Lib.decDigits_one h1,Lib.decDigits_two h2 hy] at h;have:=congrArg iK h;simp at this
 ·rw [Lib.decDigits_two h1 hx,Lib.decDigits_one h2] at h;have:=congrArg iK h;simp at this
 ·rw [Lib.decDigits_two h1 hx,Lib.decDigits_two h2 hy] at h;have a:=congrArg UInt8.toNat (List.cons.inj h).1;have b:=congrArg UInt8.toNat (List.cons.inj (List.cons.inj h).2).1;simp at a b;omega
theorem dig_len (h:x<100):(Lib.decDigits x).length<=2:=by
 by_cases h1:x<10
 ·rw [Lib.decDigits_one h1];simp
 ·rw [Lib.decDigits_two h1 h];simp
theorem dig_digit (h:x<100):∀ b∈Lib.decDigits x,48<=b.toNat∧b.toNat<=57:=by
 intro b hm
 by_cases h1:x<10
 ·rw [Lib.decDigits_one h1] at hm;rw [List.mem_singleton.1 hm];simp;omega
 ·rw [Lib.decDigits_two h1 h] at hm;rcases List.mem_cons.1 hm with e|e
  ·rw [e];simp;omega
  ·rw [List.mem_singleton.1 e];simp;omega
theorem dig_nil (h:x<100):Lib.decDigits x≠[]:=by
 by_cases h1:x<10
 ·rw [Lib.decDigits_one h1];simp
 ·rw [Lib.decDigits_two h1 h];simp
def E (es:List Edg) (i l k:Nat):Prop:=∃ e∈es,e.fr=i∧e.le=l∧e.ta=k
def rel (R:List Nat) (i j:Nat):Prop:=i<R.length∧(R.getD i 0).testBit j=true
def succ (es:List Edg) (i l:Int):Nat:=es.foldl (fun m e=>if e.fr=i∧e.le=l then m|||2 ^ e.ta.toNat else m) 0
theorem succ_snoc (es:List Edg) (e:Edg) (i l:Int):succ (es++[e]) i l=if e.fr=i∧e.le=l then succ es i l|||2 ^ e.ta.toNat else succ es i l:=by
 simp [succ]
theorem and_pred (k m:Nat):(2 ^ k*(2*m+1))&&&(2 ^ k*(2*m+1) - 1)=2 ^ k*(2*m):=by
 have c:=iZ k;have e:2 ^ k*(2*m+1) - 1=2 ^ k*(2*m)+(2 ^ k - 1):=by rw [Nat.mul_add,jD];omega
 rw [e];apply iF;intro i;have a:∀ q,(2 ^ k*q).testBit i=if i<k then false else q.testBit (i - k):=fun q=>by
  have:=gU q (b:=0) (i:=k) c i;rw [gF] at this;rw [this,iV]
 rw [Nat.testBit_and,a,gU _ oM,a]
 by_cases hi:i<k
 ·simp [hi]
 ·simp only [hi,if_false];cases hd:i - k with
  |zero=>simp [Nat.testBit_zero]
  |succ d=>rw [iU,iU,show (2*m+1) / 2=m by omega,show (2*m) / 2=m by omega];simp
theorem lowest (h0:x≠0)(hs:Sm x):∃ k,Lib.ctz 64 x=k∧k<32∧x.testBit k=true∧(∀ i,i<k->x.testBit i=false)∧x&&&(x - 1)=x - 2 ^ k∧2 ^ k<=x:=by
 have hx:=hs.lt;obtain⟨m,a,g⟩:=Lib.ctzFrom_spec 64 x oM oM;have e:Lib.ctz 64 x=Lib.ctzFrom 64 x:=by simp [Lib.ctz,h0]
 generalize Lib.ctzFrom 64 x=k at *;have f:=iZ k;have c:2 ^ k<=x:=by rw [a];exact Nat.le_mul_of_pos_right _ oM
 have d:∀ q i,(2 ^ k*q).testBit i=if i<k then false else q.testBit (i - k):=fun q i=>by
  have:=gU q (b:=0) (i:=k) f i;rw [gF] at this;rw [this,iV]
 refine⟨k,e,?_,?_,fun i hi=>?_,?_,c⟩
 ·apply Nat.lt_of_not_le;intro h32;have:=dV (n:=2) oM h32;omega
 ·rw [a,d];simp
 ·rw [a,d];simp [hi]
 ·rw [a,and_pred,Nat.mul_add,jD,Nat.add_sub_cancel]
theorem zcw (h:x.testBit j=true)(hl:∀ i,i<j->x.testBit i=false) (k:Nat):(x - 2 ^ j).testBit k=(x.testBit k&&!decide (k=j)):=by
 have f:x / 2 ^ j % 2=1:=by
  have:=h;rw [jK] at this;simpa using this
 have g:=iZ j;have l:x % 2 ^ j=0:=by
  apply iF;intro i;rw [Nat.testBit_mod_two_pow,iV]
  by_cases hi:i<j
  ·simp [hi,hl i hi]
  ·simp [hi]
 have a:=Nat.div_add_mod x (2 ^ j);rw [l,gF] at a;generalize x / 2 ^ j=q at *;have c:∀ q i,(2 ^ j*q).testBit i=if i<j then false else q.testBit (i - j):=fun q i=>by
  have:=gU q (b:=0) (i:=j) g i;rw [gF] at this;rw [this,iV]
 have e:x - 2 ^ j=2 ^ j*(q - 1):=by rw [← a,Nat.mul_sub,jD]
 rw [e,← a,c,c]
 by_cases hk:k<j
 ·simp [hk]
 ·simp only [hk,if_false];obtain⟨d,rfl⟩:∃ d,k=j+d:=⟨k - j,oM⟩;rw [Nat.add_sub_cancel_left];cases d with
  |zero=>simp [Nat.testBit_zero];omega
  |succ d =>
   rw [iU,iU,show (q - 1) / 2=q / 2 by omega];simp
theorem zgO (h:x.testBit k=true)(hl:∀ i,i<k->x.testBit i=false):∀ n,(n<=k->letters x n=[]∧letters (x - 2 ^ k) n=[])∧(k<n->letters x n=k :: letters (x - 2 ^ k) n)
 |0=>⟨fun _=>⟨rfl,rfl⟩,fun h=>oM⟩
 |n+1=>by
  have ih:=zgO h hl n
  have hb:=zcw h hl n
  rw [zbh,zbh,hb]
  refine⟨fun hn=>?_,fun hn=>?_⟩
  ·obtain⟨e1,e2⟩:=ih.1 oM
   rw [e1,e2,hl n oM]
   simp
  ·rcases eT k n with h1|h1
   ·rw [ih.2 h1]
    have:n≠k:=oM
    simp [this]
   ·obtain⟨e1,e2⟩:=ih.1 h1
    obtain rfl:n=k:=oM
    rw [e1,e2,h]
    simp
theorem letters_step (h0:x≠0)(hs:Sm x):letters x 32=Lib.ctz 64 x :: letters (x&&&(x - 1)) 32∧x&&&(x - 1)<x∧Lib.ctz 64 x<32:=by
 obtain⟨k,e,a,c,d,b,f⟩:=lowest h0 hs;have g:=iZ k;rw [e,b];exact⟨(zgO c d 32).2 a,oM,a⟩
theorem impl_members (a:Nat)(hs:Sm a) (w:World)(hT:Tab w) :
  Calls Tryz.prog 238 #[a] w (zbJ w (letters a 32)):=by
 have d:=zB a 32
 go_enter Tryz.func238,Tryz.ntmps238
 go_wp2
 go_loopw [0,3,4] (fun s v _ wr=>∃ x:Nat,s=.int .i64 x∧Sm x∧∃ o:List Nat,Hid (letters a 32=o++letters x 32)∧wr.ownsRow w.heap.size 3 1 v o.length (zas o)∧Ext w wr)
  (fun s _ _ _=>(intOf s).toNat)
 case atStart=>exact⟨a,rfl,hs,[],rfl,World.ownsRow_nil _ _ _ _,Ext.refl _⟩
 case round =>
  obtain⟨x,rfl,hx,o,k,zjc,h⟩:=hrel;have r:=hx.lt;have g:o.length+(letters x 32).length<=32:=by have:=k.out;rw [this,List.length_append] at d;exact d
  by_cases h0:x=0
  ·subst h0;obtain⟨A,c,rfl⟩:=zi zjc;go_wp2;go_ret;have f:=k.out;rw [show letters 0 32=[] by decide,gQ] at f;exact⟨A,c,by rw [f];rfl,by rw [f];exact zjc,h⟩
  ·obtain⟨j,hlt,t⟩:=letters_step h0 hx;have p:=za j;have q:((x:Int) != 0)=true:=by simp;omega
   have i:=hT.ext h;have l:=za (zcn (a:=x) (b:=x - 1) hx tM);have n:o.length<32:=by rw [j] at g;simp at g;omega
   clear j d g;have m:=za (show ((x:Int) - 1)=((x - 1:Nat):Int) by omega);go_wp2_with (first
    |(go_at_call 196;refine (tz x oM h0 _ i).mono ?_;rintro e w' ⟨rfl,rfl⟩)
    |(at_builtin;refine zL w wr rfl (.tmp 10) (.tmp 14) _ rfl 3 _ 1 8 Tryz.underlying74 zae rfl dM u3 _ _ _ _ rfl rfl h zjc rfl (zbq _) lM oM ?_;intro v' w1 hext1 zjl hg1 hat1))
   go_roundw
   case rel=>exact⟨x&&&(x - 1),by rw [m.out,l.out],jA Nat.and_le_left hx,o++[Lib.ctz 64 x],by have:=k.out;unfold Hid;rw [this,p.out];simp,by simpa [zas] using zjl,aM⟩
   case measure =>
    have:=l.out;rw [← m.out] at this;simp [intOf];omega
theorem foldl_bit (es:List Edg) (p:Edg->Prop) [DecidablePred p] (m k:Nat):(es.foldl (fun m e=>if p e then m|||2 ^ e.ta.toNat else m) m).testBit k=true↔m.testBit k=true∨∃ e∈es,p e∧e.ta.toNat=k:=by
 induction es generalizing m with
 |nil=>simp
 |cons e r ih =>
  rw [List.foldl_cons,ih]
  by_cases hp:p e
  ·rw [if_pos hp,Nat.testBit_or,Nat.testBit_two_pow];simp only [gZ,decide_eq_true_eq,List.mem_cons];constructor
   ·rintro ((h|h)|⟨c,a,b⟩)
    ·exact Or.inl h
    ·exact Or.inr ⟨e,Or.inl rfl,hp,h⟩
    ·exact Or.inr ⟨c,Or.inr a,b⟩
   ·rintro (h|⟨c,a|a,b⟩)
    ·exact Or.inl (Or.inl h)
    ·subst a;exact Or.inl (Or.inr b.2)
    ·exact Or.inr ⟨c,a,b⟩
  ·rw [if_neg hp];constructor
   ·rintro (h|⟨c,a,b⟩)
    ·exact Or.inl h
    ·exact Or.inr ⟨c,List.mem_cons_of_mem _ a,b⟩
   ·rintro (h|⟨c,a,b⟩)
    ·exact Or.inl h
    ·rcases List.mem_cons.1 a with a|a
     ·subst a;exact absurd b.1 hp
     ·exact Or.inr ⟨c,a,b⟩
theorem zfk (es:List Edg) (i l:Int) (k:Nat):(succ es i l).testBit k=true↔∃ e∈es,(e.fr=i∧e.le=l)∧e.ta.toNat=k:=by
 have:=foldl_bit es (fun e=>e.fr=i∧e.le=l) 0 k;simpa [succ] using this
def Few (n:Nat) (es:List Edg):Prop:=∀ e∈es,(0<=e.fr∧e.fr<n)∧(0<=e.le∧e.le<6)∧(0<=e.ta∧e.ta<n)
theorem succ_lt {es:List Edg}(h:Few n es) (i l:Int):succ es i l<2 ^ n:=by
 apply Nat.lt_pow_two_of_testBit;intro k hk;rw [Bool.eq_false_iff];intro hb;obtain⟨e,a,_,b⟩:=(zfk es i l k).1 hb;have:=h e a;omega
theorem succ_sm {es:List Edg}(h:Few n es)(hn:n<=16) (i l:Int):Sm (succ es i l):=
 eH (succ_lt h i l) (by rw [show (4294967296:Nat)=2 ^ 32 from rfl];exact dV oM oM)
theorem zbi {a:Nat}:k∈letters a n↔k<n∧a.testBit k=true:=by simp [letters]
def zcx (c:UInt8):List UInt8->List (List UInt8)
 |[]=>[[]]
 |b :: t=>if b=c then [] :: zcx c t else match zcx c t with
  |[]=>[[b]]
  |h :: r=>(b :: h) :: r
section
variable {c:UInt8}
theorem zeR:∀ {u:List UInt8},c∉u->zcx c u=[u]
 |[],_=>rfl
 |b :: t,h=>by
  have hb:¬ b=c:=fun e=>h (by simp [e])
  rw [zcx,if_neg hb,zeR (fun hc=>h (by simp [hc]))]
theorem zgh:∀ {u v:List UInt8},c∉u->zcx c (u++c :: v)=u :: zcx c v
 |[],v,_=>by rw [eB,zcx,if_pos rfl]
 |b :: t,v,h=>by
  have hb:¬ b=c:=fun e=>h (by simp [e])
  rw [fH,zcx,if_neg hb,zgh (fun hc=>h (by simp [hc]))]
theorem zgA:∀ {r:List (List UInt8)} {u:List UInt8},c∉u->(∀ x∈r,c∉x)->zcx c (u++r.flatMap (c :: ·))=u :: r
 |[],u,h,_=>by rw [List.flatMap_nil,gQ,zeR h]
 |x :: r,u,h,hr=>by
  rw [gE,fH,zgh h,zgA (hr x sM) (fun y hy=>hr y (by simp [hy]))]
end
def zcp:List Nat->List UInt8
 |[]=>[]
 |x :: r=>keyL Lib.decDigits x r
def rowX (b:Bool) (r:List Int):List UInt8:=(if b then 43 else 45) :: zcp (r.map iA)
def alX (al:Nat):List UInt8:=if al=0 then [45] else (letters al 6).map fun l=>UInt8.ofNat (97+l)
def zdj (a:Aut):List (List UInt8):=(a.next.zip a.acc).map fun p=>rowX p.2 p.1
def zfo (a:Aut):List UInt8:=if zh a then alX a.al.toNat++(zdj a).flatMap (32 :: ·) else []
theorem join_mem (hr:∀ x∈r,x<100):∀ b∈zcp r,b=44∨48<=b.toNat∧b.toNat<=57:=by
 intro b hb;cases r with
 |nil=>simp [zcp] at hb
 |cons x r =>
  unfold zcp keyL at hb;rcases List.mem_append.1 hb with h|h
  ·exact .inr (dig_digit (hr x sM) b h)
  ·obtain⟨y,a,h⟩:=List.mem_flatMap.1 h;rcases List.mem_cons.1 h with h|h
   ·exact .inl h
   ·exact .inr (dig_digit (hr y (by simp [a])) b h)
theorem join_cut (hx:x<100)(hr:∀ x∈r,x<100):zcx 44 (zcp (x :: r))=(x :: r).map Lib.decDigits:=by
 have e:zcp (x :: r)=Lib.decDigits x++(r.map Lib.decDigits).flatMap (44 :: ·):=by
  show keyL _ _ _=_;unfold keyL;rw [List.flatMap_map]
 rw [e,zgA (zgB hx) (fun y hy=>by
  obtain⟨z,a,rfl⟩:=List.mem_map.1 hy;exact zgB (hr z a))]
 rfl
theorem join_nil (hr:∀ x∈r,x<100)(h:zcp r=[]):r=[]:=by
 cases r with
 |nil=>rfl
 |cons x r =>
  unfold zcp keyL at h;exact absurd (List.append_eq_nil_iff.1 h).1 (dig_nil (hr x sM))
theorem join_inj {t:List Nat}(hr:∀ x∈r,x<100)(ht:∀ x∈t,x<100)(h:zcp r=zcp t):r=t:=by
 cases r with
 |nil=>exact (join_nil ht h.symm).symm
 |cons x r=>cases t with
  |nil=>exact join_nil hr h
  |cons y t =>
   obtain⟨rfl,rfl⟩:=keyL_inj (B:=100) (fun x hx=>zgB hx) (fun x y hx hy=>dig_inj hx hy) (hr x sM) (ht y sM) (fun z hz=>hr z (by simp [hz])) (fun z hz=>ht z (by simp [hz])) h;rfl
def RowS (r:List Int):Prop:=∀ q∈r,0<=q∧q<100
theorem RowS.nat {r:List Int}(h:RowS r):∀ x∈r.map iA,x<100:=fun x hx=>by
 obtain⟨q,hq,rfl⟩:=List.mem_map.1 hx
 have:=h q hq
 omega
theorem RowS.inj:∀ {r t:List Int},RowS r->RowS t->r.map iA=t.map iA->r=t
 |[],[],_,_,_=>rfl
 |[],_ :: _,_,_,h=>by simp at h
 |_ :: _,[],_,_,h=>by simp at h
 |x :: r,y :: t,hr,ht,h=>by
  rw [eQ,eQ,List.cons.injEq] at h
  have h1:=hr x sM
  have h2:=ht y sM
  rw [RowS.inj (fun q hq=>hr q (by simp [hq])) (fun q hq=>ht q (by simp [hq])) h.2,show x=y by omega]
theorem row_inj {b c:Bool} {r t:List Int}(hr:RowS r)(ht:RowS t)(h:rowX b r=rowX c t):b=c∧r=t:=by
 unfold rowX at h;rw [List.cons.injEq] at h;exact⟨by cases b<;>cases c<;>simp_all,hr.inj ht (join_inj hr.nat ht.nat h.2)⟩
theorem row_space {b:Bool} {r:List Int}(hr:RowS r):(32:UInt8)∉rowX b r:=by
 intro h;rcases List.mem_cons.1 h with h|h
 ·cases b<;>simp at h
 ·rcases join_mem hr.nat _ h with h|h
  ·exact absurd h dM
  ·exact absurd h.1 dM
theorem al_space :(32:UInt8)∉alX al:=by
 unfold alX;split
 ·decide
 ·intro h;obtain⟨l,a,e⟩:=List.mem_map.1 h;have b:=(zbi.1 a).1;have:=congrArg UInt8.toNat e;simp at this;omega
theorem al_ne (h:al<64):alX al≠[]:=by
 have:∀ al<64,alX al≠[]:=by decide +kernel
 exact this al h
theorem al_inj {a:Nat}(ha:a<64)(hb:b<64)(h:alX a=alX b):a=b:=by
 have:∀ a<64,∀ b<64,alX a=alX b->a=b:=by decide +kernel
 exact this a ha b hb h
theorem zip_inj {α β:Type}:∀ {a c:List α} {b d:List β},a.length=b.length->c.length=d.length->a.zip b=c.zip d->a=c∧b=d
 |[],[],[],[],_,_,_=>⟨rfl,rfl⟩
 |[],_ :: _,[],_ :: _,_,_,h=>by simp at h
 |_ :: _,[],_ :: _,[],_,_,h=>by simp at h
 |x :: a,y :: c,u :: b,v :: d,h1,h2,h=>by
  rw [List.zip_cons_cons,List.zip_cons_cons,List.cons.injEq,Prod.mk.injEq] at h
  obtain⟨e1,e2⟩:=zip_inj (by simpa using h1) (by simpa using h2) h.2
  exact⟨by rw [h.1.1,e1],by rw [h.1.2,e2]⟩
 |[],_,_ :: _,_,h,_,_=>by simp at h
 |_ :: _,_,[],_,h,_,_=>by simp at h
 |_,[],_,_ :: _,_,h,_=>by simp at h
 |_,_ :: _,_,[],_,h,_=>by simp at h
theorem map_inj {α β:Type} {f:α->β}:∀ {r t:List α},(∀ x∈r,∀ y∈t,f x=f y->x=y)->r.map f=t.map f->r=t
 |[],[],_,_=>rfl
 |[],_ :: _,_,h=>by simp at h
 |_ :: _,[],_,h=>by simp at h
 |x :: r,y :: t,hf,h=>by
  rw [eQ,eQ,List.cons.injEq] at h
  rw [hf x sM y sM h.1,map_inj (fun a ha b hb=>hf a (by simp [ha]) b (by simp [hb])) h.2]
theorem zaz {a:Aut}(h:zh a=true):0<=a.al∧a.al.toNat<64∧a.next.length=a.acc.length∧a.next.length<=12∧1<=a.next.length∧∀ r∈a.next,RowS r∧r.length<=6:=by
 simp only [zh,dF,decide_eq_true_eq,eG,ziE] at h;obtain⟨d,b,f,c⟩:=h;refine⟨d.1,oM,f.symm,b.2,b.1,fun r hr=>⟨fun q hq=>?_,?_⟩⟩
 ·have:=(c r hr).2 q hq;omega
 ·have:=(c r hr).1;have:=zB a.al.toNat 6;omega
theorem txt_cut {a:Aut}(h:zh a=true):zcx 32 (zfo a)=alX a.al.toNat :: zdj a:=by
 obtain⟨d,f,g,i,j,b⟩:=zaz h;unfold zfo;rw [if_pos h];refine zgA al_space (fun x hx=>?_);obtain⟨p,c,rfl⟩:=List.mem_map.1 hx;exact row_space (b p.1 (List.of_mem_zip c).1).1
theorem txt_inj {a b:Aut}(ha:zh a=true)(hb:zh b=true)(h:zfo a=zfo b):a=b:=by
 obtain⟨f,g,i,s,t,j⟩:=zaz ha;obtain⟨k,l,m,u,v,n⟩:=zaz hb;have e:=txt_cut ha;rw [h,txt_cut hb,List.cons.injEq] at e;have o:=al_inj l g e.1;have p:=map_inj (fun x hx y hy h=>by
  obtain⟨q,r⟩:=row_inj (n x.1 (List.of_mem_zip hx).1).1 (j y.1 (List.of_mem_zip hy).1).1 h;exact Prod.ext r q) e.2
 obtain⟨c,d⟩:=zip_inj m i p;cases a;cases b;simp only [Aut.mk.injEq];simp only at o c d f k;exact⟨oM,c.symm,d.symm⟩
def zds:List UInt8:=[104,111,108,100,115,32]
def zdz:List UInt8:=[102,97,105,108,115,32]
def zfD (x:ByteArray):List UInt8:=if x.toList.isEmpty then [45] else x.data.toList
def zgt (hd:Bool) (a:Aut) (x:ByteArray):List UInt8:=if zC hd a x then (if hd then zds++zfo a else zdz++zfD x) else []
theorem none_eq {a:Aut}(h:zcZ a=true):a=⟨0,[],[]⟩:=by
 simp only [zcZ,dF,decide_eq_true_eq,List.length_eq_zero_iff] at h;cases a;simp only [Aut.mk.injEq];exact h
theorem zhq {x:ByteArray}(h:zaK x=true):x.data.toList≠[45]:=by
 intro e;simp only [zaK,dF,eG] at h;have:=h.2 45 (by rw [e];simp);simp [zci] at this
theorem word_inj {x:ByteArray}(hx:zaK x=true)(hy:zaK y=true)(h:zfD x=zfD y):x=y:=by
 unfold zfD at h;rw [ByteArray.toList_eq,ByteArray.toList_eq] at h;have a:x.data.toList=y.data.toList:=by
  cases hX:x.data.toList with
  |nil=>cases hY:y.data.toList with
   |nil=>rfl
   |cons b t =>
    rw [hX,hY] at h;exact absurd (by simpa using h.symm:(b :: t)=[45]) (by rw [← hY];exact zhq hy)
  |cons b t=>cases hY:y.data.toList with
   |nil =>
    rw [hX,hY] at h;exact absurd (by simpa using h:(b :: t)=[45]) (by rw [← hX];exact zhq hx)
   |cons c u=>rw [hX,hY] at h;simpa using h
 cases x;cases y;exact congrArg ByteArray.mk (Array.toList_inj.1 a)
theorem empty_eq {x:ByteArray}(hx:x.toList.isEmpty=true)(hy:y.toList.isEmpty=true):x=y:=by
 rw [ByteArray.toList_eq,List.isEmpty_iff] at hx hy;cases x;cases y;exact congrArg ByteArray.mk (Array.toList_inj.1 (hx.trans hy.symm))
theorem cert_inj {gd:Bool} {a b:Aut} {x:ByteArray}(h1:zC hd a x=true)(h2:zC gd b y=true)(h:zgt hd a x=zgt gd b y):hd=gd∧a=b∧x=y:=by
 unfold zgt at h;rw [if_pos h1,if_pos h2] at h;cases hd<;>cases gd
 ·simp only [zC,eX,if_false,dF] at h1 h2;simp only [eX,if_false] at h;exact⟨rfl,(none_eq h1.1).trans (none_eq h2.1).symm,word_inj h1.2 h2.2 (jB h)⟩
 ·simp [zds,zdz] at h
 ·simp [zds,zdz] at h
 ·simp only [zC,if_true,dF] at h1 h2;simp only [if_true] at h;exact⟨rfl,txt_inj h1.1 h2.1 (jB h),empty_eq h1.2 h2.2⟩
theorem cert_ne {a:Aut} {x:ByteArray}(h:zC hd a x=true):zgt hd a x≠[]:=by
 unfold zgt;rw [if_pos h];cases hd<;>simp [zds,zdz]
theorem zgF (c:UInt8):∀ s:List UInt8,(c∉s∧Lib.index s [c] = -1)∨∃ u v,s=u++c :: v∧c∉u∧Lib.index s [c]=u.length:=by
 intro s
 induction s with
 |nil=>exact .inl ⟨sM,by rw [Lib.index_one];rfl⟩
 |cons b t ih =>
  by_cases hb:b=c
  ·subst hb;refine .inr ⟨[],t,rfl,sM,?_⟩;rw [Lib.index_one];simp [Lib.indexByte]
  ·rw [Lib.index_one] at ih ⊢;rcases ih with ⟨a,d⟩|⟨u,v,a,d,f⟩
   ·refine .inl ⟨?_,?_⟩
    ·intro h;rcases List.mem_cons.1 h with h|h
     ·exact hb h.symm
     ·exact a h
    ·simp [Lib.indexByte,hb,d]
   ·refine .inr ⟨b :: u,v,by rw [a];rfl,?_,?_⟩
    ·intro h;rcases List.mem_cons.1 h with h|h
     ·exact hb h.symm
     ·exact d h
    ·have g:¬ ((u.length:Int) = -1):=oM;simp [Lib.indexByte,hb,f]
theorem split_cut (c:UInt8):∀ (k:Nat) (s:List UInt8),s.length<=k->Lib.split s [c]=zcx c s:=by
 intro k
 induction k with
 |zero =>
  intro s hs;obtain rfl:s=[]:=dU oM;rcases zgF c [] with ⟨-,h⟩|⟨u,v,h,-⟩
  ·unfold Lib.split;rw [Lib.count_miss h];rfl
  ·simp at h
 |succ k ih =>
  intro s hs;rcases zgF c s with ⟨b,a⟩|⟨u,v,rfl,b,a⟩
  ·unfold Lib.split;rw [Lib.count_miss a,zeR b];rfl
  ·have d:(u++c :: v).drop (u.length+[c].length)=v:=sM;unfold Lib.split;rw [Lib.count_hit sM a,d,Nat.add_comm,Lib.splitK,a,if_neg sM,zgh b];have f:v.length<=k:=by simp at hs;omega
   have e:=ih v f;unfold Lib.split at e;rw [eM,d,e,gF,List.take_left]
theorem split_bytes (c:UInt8) (s:ByteArray):(Lib.splitB ⟨#[c]⟩ 0 (Lib.countB s ⟨#[c]⟩) s).map (fun x=>x.data.toList)=zcx c s.data.toList:=by
 rw [Lib.splitB_data];exact split_cut c _ s.data.toList (cY _)
section
variable {P:Program} {ops:Array Oper} {Q:Exit->Act->World->Prop} {md:Region.Mode} {S:Array Bool->World->Prop}
def wpAnyL (P:Program) (md:Region.Mode) (ops:Array Oper) (Q:Exit->Act->World->Prop) (S:Array Bool->World->Prop):Nat->Array Bool->Act->World->Prop
 |0,listed,a,w=>Region.ready md ops listed=[]∧Q .normal a w
 |fuel+1,listed,a,w =>
  (Region.ready md ops listed=[]->Q .normal a w) ∧
  ∀ i∈Region.ready md ops listed,wpOp P ops Q i (fun a' w'=>S (listed.setIfInBounds i true) w'∧wpAnyL P md ops Q S fuel (listed.setIfInBounds i true) a' w') a w
theorem zfE:∀ (fuel:Nat) (listed:Array Bool) (a:Act) (w:World),wpAnyL P md ops Q S fuel listed a w->wpAny P md ops Q fuel listed a w
 |0,_,_,_,h=>h
 |fuel+1,_,_,_,h=>⟨h.1,fun i hi=>wpOp_mono (fun a' w' h'=>zfE fuel _ a' w' h'.2) (h.2 i hi)⟩
theorem wpAnyL_first {oi:Oper}  {Si:World->Prop} {G:Array Bool->Prop}(hi:ops[i]?=some oi)(hsel:∀ (j:Nat) (o:Oper) cs b,ops[j]?=some o->o.op≠.select cs b)
  (hQ:∀ c a w,Q (.panic c) (a.put oi.dst v) w->Q (.panic c) a w)
  (hG:∀ listed j,j∈Region.ready md ops listed->G listed->G (listed.setIfInBounds j true))
  (hSi:∀ listed w,G listed->listed.getD i true=false->S listed w->Si w)
  (hup:∀ listed w,S listed w->S (listed.setIfInBounds i true) w) (hdn:∀ listed w,listed.getD i true=false->S (listed.setIfInBounds i true) w->S listed w) :
  ∀ (fuel:Nat) (listed:Array Bool) (a:Act) (w:World),G listed ->
   (∀ j oj,ops[j]?=some oj->j≠i->listed.getD j true=false->(∀ e∈oj.after,Region.binds md e=true->e.on≠i)->oi.apart ops oj=true) ->
   i∈Region.ready md ops listed->YieldsIf P ops Si oi v a->S listed w ->
   wpAnyL P md ops Q S fuel (listed.setIfInBounds i true) (a.put oi.dst v) w->wpAnyL P md ops Q S (fuel+1) listed a w:=by
 intro fuel
 induction fuel with
 |zero =>
  intro listed a w hg _ hr hy hS H;refine⟨fun h=>(by rw [h] at hr;cases hr),fun j hj=>?_⟩
  by_cases hji:j=i
  ·subst hji;exact hy.wpOp hi (hSi _ _ hg (mem_ready.1 hr).1 hS) ⟨hup _ _ hS,H⟩
  ·have:=ready_mono hj hji;rw [H.1] at this;cases this
 |succ fuel ih =>
  intro listed a w hg hfree hr hy hS H;refine⟨fun h=>(by rw [h] at hr;cases hr),fun j hj=>?_⟩
  by_cases hji:j=i
  ·subst hji;exact hy.wpOp hi (hSi _ _ hg (mem_ready.1 hr).1 hS) ⟨hup _ _ hS,H⟩
  ·have g:=H.2 j (ready_mono hj hji);obtain⟨f,oj,l,m⟩:=mem_ready.1 hj;have p:∀ e∈oj.after,Region.binds md e=true->e.on≠i:=fun e he hb heq=>by
    have g:=m e he hb;have r:=(mem_ready.1 hr).1;rw [heq] at g;rcases eT i listed.size with q | q
    ·simp [q] at r g;rw [r] at g;cases g
    ·simp [Array.getElem?_eq_none q] at g
   have t:=wpOp_putIf l (hfree j oj l hji f p) (fun cs b=>hsel i oi cs b hi) (fun cs b=>hsel j oj cs b l) hQ hy g;have d:∀ k ok,ops[k]?=some ok->k≠i->(listed.setIfInBounds j true).getD k true=false ->
     (∀ e∈ok.after,Region.binds md e=true->e.on≠i)->oi.apart ops ok=true:=fun k ok hk hki hun hno=>by
    refine hfree k ok hk hki ?_ hno
    by_cases hjk:j=k
    ·subst hjk;exact f
    ·rw [getD_set_ne true hjk] at hun;exact hun
   have n:(listed.setIfInBounds j true).getD i true=false:=by
    rw [getD_set_ne true hji];exact (mem_ready.1 hr).1
   refine wpOp_mono (fun a' w' h3=>?_) t;have s:S (listed.setIfInBounds j true) w':=hdn _ _ n (by rw [Array.setIfInBounds_comm _ _ hji];exact h3.2.1);refine⟨s,ih (listed.setIfInBounds j true) a' w' (hG _ _ hj hg) d (ready_mono hr (Ne.symm hji)) h3.1 s ?_⟩;rw [Array.setIfInBounds_comm _ _ hji];exact h3.2.2
end
def Clo (l:List Oper) (listed:Array Bool):Prop:=∀ j,listed.getD j false=true->∀ o,l[j]?=some o->∀ e∈o.after,Region.binds .any e=true->listed.getD e.on false=true
def below (l:List Oper):Nat->Nat->Nat->Bool
 |0,_,_=>false
 |f+1,t,i=>match l[t]? with
  |some o=>o.after.any fun e=>Region.binds .any e&&(e.on==i || below l f e.on i)
  |none=>false
theorem zfq {l:List Oper} {listed:Array Bool}(hc:Clo l listed):∀ (f t i:Nat),below l f t i=true->listed.getD t false=true->listed.getD i false=true
 |0,_,_,h,_=>by simp [below] at h
 |f+1,t,i,h,ht=>by
  unfold below at h
  cases ho:l[t]? with
  |none=>simp [ho] at h
  |some o =>
   simp only [ho] at h
   obtain⟨e,he,hb⟩:=Array.any_eq_true'.1 h
   simp only [dF,gZ,beq_iff_eq] at hb
   have h1:=hc t ht o ho e he hb.1
   rcases hb.2 with h2|h2
   ·rw [← h2];exact h1
   ·exact zfq hc f e.on i h2 h1
theorem zbn {l:List Oper} {listed:Array Bool} (hj:j∈Region.ready .any l.toArray listed)(h:Clo l listed):Clo l (listed.setIfInBounds j true):=by
 intro k hk o ho e he hb
 by_cases hkj:j=k
 ·subst hkj;obtain⟨_,d,b,a⟩:=mem_ready.1 hj;have:d=o:=by
   have c:l[j]?=some d:=by simpa using b
   rw [ho] at c;exact (Option.some.inj c).symm
  subst this;exact getD_set_true (a e he hb)
 ·rw [getD_set_ne false hkj] at hk;exact getD_set_true (h k hk o ho e he hb)
def pureOp:Op->Bool
 |.move _ | .assign _ | .pick _ _ _ | .binOp _ _ _ _ _ | .unOp _ _ _ | .fieldAddr _ _ _ | .field _ _ _ | .extract _ _ | .build _ _=>true
 |_=>false
inductive Ord where
 |nil:Ord
 |one:Nat->Ord->Ord
 |two:Nat->Ord->Nat->Ord->Ord
def Ord.of:List Nat->Ord
 |[]=>.nil
 |i :: r=>.one i (Ord.of r)
def Ord.app:List Nat->Ord->Ord
 |[],o=>o
 |i :: r,o=>.one i (Ord.app r o)
def zei (l:List Oper) (T:List Nat):Ord->Array Bool->Bool
 |.nil,listed=>(Region.ready .any l.toArray listed).isEmpty
 |.one i rest,listed =>
  (match l[i]? with
   |some o=>if zbU o.op then Region.free .any l.toArray listed i&&(Region.ready .any l.toArray listed).contains i&&!T.contains i&&(pureOp o.op || T.all fun t=>below l l.length t i)
    else Region.ready .any l.toArray listed==[i]
   |none=>false)&&zei l T rest (listed.setIfInBounds i true)
 |.two i r j r',listed=>(i<l.length&&j<l.length&&Region.ready .any l.toArray listed==[i,j])&&(zei l T r (listed.setIfInBounds i true)&&zei l T r' (listed.setIfInBounds j true))
def zaN (P:Program) (l:List Oper) (T:List Nat) (Q:Exit->Act->World->Prop) (S:World->Prop):Ord->Act->World->Prop
 |.nil,a,w=>Q .normal a w
 |.one i rest,a,w=>match l[i]? with
  |some o=>if zbU o.op then ∃ v,YieldsIf P l.toArray (if pureOp o.op then fun _=>True else S) o v a∧zaN P l T Q S rest (a.put o.dst v) w
   else wpOp P l.toArray Q i (fun a' w'=>(T.contains i=false->S w')∧zaN P l T Q S rest a' w') a w
  |none=>False
 |.two i r j r',a,w=>wpOp P l.toArray Q i (fun a' w'=>(T.contains i=false->S w')∧zaN P l T Q S r a' w') a w∧wpOp P l.toArray Q j (fun a' w'=>(T.contains j=false->S w')∧zaN P l T Q S r' a' w') a w
def Ord.len:Ord->Nat
 |.nil=>0
 |.one _ r=>r.len+1
 |.two _ r _ r'=>(if r.len=r'.len then r.len else 0)+1
def Ord.even:Ord->Bool
 |.nil=>true
 |.one _ r=>r.even
 |.two _ r _ r'=>r.len==r'.len&&(r.even&&r'.even)
section
variable {P:Program} {l:List Oper} {Q:Exit->Act->World->Prop} {S:World->Prop} {T:List Nat}
def zcV (T:List Nat) (listed:Array Bool):Prop:=∃ t∈T,listed.getD t false=true
theorem zcQ (hs:Region.noSelect l.toArray=true)(hQ:∀ (c:List PanicEntry) (a:Act) (d:Tmp) (v:Value) (w:World),Q (.panic c) (a.put (some d) v) w->Q (.panic c) a w) :
  ∀ (ord:Ord) (listed:Array Bool) (a:Act) (w:World),listed.size=l.length->Clo l listed->ord.even=true->zei l T ord listed=true->(zcV T listed∨S w)->zaN P l T Q S ord a w ->
   wpAnyL P .any l.toArray Q (fun listed w=>zcV T listed∨S w) ord.len listed a w
 |.nil,listed,a,w,_,_,_,hok,_,h=>by
  simp only [zei,List.isEmpty_iff] at hok;exact⟨hok,h⟩
 |.one i rest,listed,a,w,hsz,hc,hev,hok,hS,h=>by
  cases ho:l[i]? with
  |none=>simp [zei,ho] at hok
  |some o =>
   have hil:i<l.length:=(List.getElem?_eq_some_iff.1 ho).1;simp only [zei,ho,dF] at hok;simp only [zaN,ho] at h
   by_cases hq:zbU o.op=true
   ·rw [if_pos hq] at hok h;simp only [dF] at hok;obtain⟨⟨⟨⟨hf,hrd⟩,hnT⟩,hpure⟩,hrest⟩:=hok;obtain⟨v,hy,hr⟩:=h;have hmem:i∈Region.ready .any l.toArray listed:=by simpa using hrd
    have u:i∉T:=by simpa using hnT
    have g:∀ listed:Array Bool,zcV T (listed.setIfInBounds i true)↔zcV T listed:=fun listed=>by
     constructor
     ·rintro ⟨t,p,q⟩;refine⟨t,p,?_⟩;rwa [getD_set_ne false (by rintro rfl;exact u p)] at q
     ·rintro ⟨t,p,q⟩;exact⟨t,p,getD_set_true q⟩
    refine wpAnyL_first (G:=fun listed=>Clo l listed∧listed.size=l.length) (by simpa using ho) (Region.noSelect_spec hs)
     (fun c a w h=>by cases hd:o.dst with|none=>rw [hd] at h;exact h|some d=>rw [hd] at h;exact hQ c a d v w h)
     (fun li j m hg=>⟨zbn m hg.1,by simpa using hg.2⟩) ?_ (fun li w h=>h.imp (fun x=>(g li).2 x) id) (fun li w _ h=>h.imp (fun x=>(g li).1 x) id)
     rest.len listed a w ⟨hc,hsz⟩ (Region.free_spec (by simpa using ho) hf) hmem hy hS ?_
    ·intro li w' hg hun h
     by_cases hp:pureOp o.op=true
     ·rw [if_pos hp];trivial
     ·rw [if_neg hp];rcases h with ⟨t,p,q⟩|h
      ·exfalso;simp only [hp,Bool.false_or] at hpure;have E:=List.all_eq_true.1 hpure t p;have B:=zfq hg.1 _ _ _ E q;have D:i<li.size:=by rw [hg.2];exact hil
       simp [D] at hun B;rw [B] at hun;cases hun
      ·exact h
    ·exact zcQ hs hQ rest _ _ _ (by simpa using hsz) (zbn hmem hc) hev hrest (hS.imp (fun x=>(g _).2 x) id) hr
   ·rw [if_neg hq] at hok h;have b:Region.ready .any l.toArray listed=[i]:=by simpa using hok.1
    have hmem:i∈Region.ready .any l.toArray listed:=by rw [b];simp
    refine⟨fun h0=>(by rw [h0] at b;cases b),fun j m=>?_⟩;rw [b] at m;rw [List.mem_singleton.1 m];refine wpOp_mono (fun a' w' h=>?_) h;have f:zcV T (listed.setIfInBounds i true)∨S w':=by
     cases hT:T.contains i
     ·exact Or.inr (h.1 hT)
     ·refine Or.inl ⟨i,by simpa using hT,?_⟩;have:i<listed.size:=oM;simp [this]
    exact⟨f,zcQ hs hQ rest _ _ _ (by simpa using hsz) (zbn hmem hc) hev hok.2 f h.2⟩
 |.two i r j r',listed,a,w,hsz,hc,hev,hok,hS,h=>by
  simp only [Ord.even,dF,beq_iff_eq] at hev;simp only [zei,dF,decide_eq_true_eq,beq_iff_eq] at hok;simp only [zaN] at h;obtain⟨⟨⟨C,m⟩,b⟩,y,z⟩:=hok;have s:(Ord.two i r j r').len=r.len+1:=by simp [Ord.len,hev.1]
  rw [s];have F:∀ k,k∈Region.ready .any l.toArray listed↔k=i∨k=j:=fun k=>by rw [b];simp
  have f:∀ k w',k<l.length->(T.contains k=false->S w')->zcV T (listed.setIfInBounds k true)∨S w':=fun k w' hk hx=>by
   cases hT:T.contains k
   ·exact Or.inr (hx hT)
   ·refine Or.inl ⟨k,by simpa using hT,?_⟩;have:k<listed.size:=oM;simp [this]
  refine⟨fun h0=>(by rw [h0] at b;cases b),fun k hk=>?_⟩;rcases (F k).1 hk with n | n
  ·rw [n] at hk ⊢;refine wpOp_mono (fun a' w' h=>?_) h.1;exact⟨f _ _ C h.1,zcQ hs hQ r _ _ _ (by simpa using hsz) (zbn hk hc) hev.2.1 y (f _ _ C h.1) h.2⟩
  ·rw [n] at hk ⊢;refine wpOp_mono (fun a' w' h=>?_) h.2;have:=zcQ hs hQ r' _ _ _ (by simpa using hsz) (zbn hk hc) hev.2.2 z (f _ _ m h.1) h.2;rw [← hev.1] at this;exact⟨f _ _ m h.1,this⟩
theorem clo_start (l:List Oper):Clo l (Array.replicate l.length false):=by
 intro j hj;exfalso;rcases eT j l.length with h|h
 ·simp [h] at hj
 ·simp [Nat.not_lt.2 h] at hj
theorem zhH (S:World->Prop) (T:List Nat) (ord:Ord)(hm:P.follows .mixedOrders=true)(hlen:ord.len=l.length)(hev:ord.even=true)(hs:Region.noSelect l.toArray=true)(hok:zei l T ord (Array.replicate l.length false)=true)
  (hQ:∀ (c:List PanicEntry) (a:Act) (d:Tmp) (v:Value) (w:World),Q (.panic c) (a.put (some d) v) w->Q (.panic c) a w) (hS:S w.drew) (h:zaN P l T Q S ord a w.drew):(Code.region id l.toArray true).wp P Q a w:=by
 refine wp_region_any hm ?_;have:=zfE _ _ _ _ (zcQ hs hQ ord _ a w.drew sM (clo_start l) hev hok (Or.inr hS) h);rw [hlen] at this;simpa using this
theorem zai (h:Q .normal a w):zaN P l T Q S .nil a w:=h
theorem tseq_pure {rest:Ord} {o:Oper}   (ho:l[i]?=some o)(hq:zbU o.op=true) (_hp:pureOp o.op=true)(hw:Region.wanted o (yielded l.toArray a.tmps)=true)
  (hy:∀ W,(execOp a.eval o).run P W=.ok (.value v) W) (h:zaN P l T Q S rest (a.put o.dst v) w):zaN P l T Q S (.one i rest) a w:=by
 simp only [zaN,ho,hq,if_true];exact⟨v,.inl ⟨hw,fun W _=>hy W⟩,h⟩
theorem tseq_read {rest:Ord} {o:Oper}   (ho:l[i]?=some o)(hq:zbU o.op=true)(hp:pureOp o.op=false)(hw:Region.wanted o (yielded l.toArray a.tmps)=true)
  (hy:∀ W,S W->(execOp a.eval o).run P W=.ok (.value v) W) (h:zaN P l T Q S rest (a.put o.dst v) w):zaN P l T Q S (.one i rest) a w:=by
 simp only [zaN,ho,hq,hp,if_true];exact⟨v,.inl ⟨hw,hy⟩,h⟩
theorem tseq_skip {rest:Ord} {o:Oper}  (ho:l[i]?=some o)(hw:Region.wanted o (yielded l.toArray a.tmps)=false)
  (hS:S w) (h:zaN P l T Q S rest (a.put o.dst undef) w):zaN P l T Q S (.one i rest) a w:=by
 simp only [zaN,ho];split
 ·exact⟨undef,.inr ⟨hw,rfl⟩,h⟩
 ·unfold wpOp;simp only [eF,ho,hw,eX,if_false];exact⟨fun _=>hS,h⟩
theorem zA {rest:Ord} {o:Oper}  
  (h:∀ K:Act->World->Prop,Shut (∀ a w,S w->zaN P l T Q S rest a w->K a w)->o.wp P a w K Q) (ho:l[i]?=some o:=by rfl) (hq:zbU o.op=false:=by rfl) (hw:Region.wanted o (yielded l.toArray a.tmps)=true:=by rfl):zaN P l T Q S (.one i rest) a w:=by
 simp only [zaN,ho,hq];unfold wpOp;simp only [eF,ho,hw,if_true];exact .inl (h _ fun a w hS hW=>⟨fun _=>hS,hW⟩)
theorem zJ {rest:Ord} {o:Oper}  
  (h:∀ K:Act->World->Prop,Shut (∀ a w,zaN P l T Q S rest a w->K a w)->o.wp P a w K Q) (ho:l[i]?=some o:=by rfl) (hq:zbU o.op=false:=by rfl) (hT:T.contains i=true:=by rfl) (hw:Region.wanted o (yielded l.toArray a.tmps)=true:=by rfl):zaN P l T Q S (.one i rest) a w:=by
 simp only [zaN,ho,hq];unfold wpOp;simp only [eF,ho,hw,if_true];exact .inl (h _ fun a w hW=>⟨fun hn=>absurd (hn.symm.trans hT) dM,hW⟩)
end
section
variable {P:Program} {l:List Oper} {Q:Exit->Act->World->Prop} {S:World->Prop} {T:List Nat}
theorem zfl {j:Nat} {r r':Ord} {o o':Oper}  
  (h1:∀ K:Act->World->Prop,Shut (∀ a w,S w->zaN P l T Q S r a w->K a w)->o.wp P a w K Q) (h2:∀ K:Act->World->Prop,Shut (∀ a w,S w->zaN P l T Q S r' a w->K a w)->o'.wp P a w K Q) (ho:l[i]?=some o:=by rfl) (ho':l[j]?=some o':=by rfl) (hw:Region.wanted o (yielded l.toArray a.tmps)=true:=by rfl) (hw':Region.wanted o' (yielded l.toArray a.tmps)=true:=by rfl):zaN P l T Q S (.two i r j r') a w:=by
 constructor
 ·unfold wpOp;simp only [eF,ho,hw,if_true];exact .inl (h1 _ fun a w hS hW=>⟨fun _=>hS,hW⟩)
 ·unfold wpOp;simp only [eF,ho',hw',if_true];exact .inl (h2 _ fun a w hS hW=>⟨fun _=>hS,hW⟩)
end
theorem zaL {P:Program} (wb w:World) {o:Oper}  {K:Act->World->Prop} {Q:Exit->Act->World->Prop} (s x:Operand) (t:TypeId)
  (ho:o.op=.call { callee:=.builtin .append,args:=#[s,x],argTypes:=#[t,t] })
  (e:TypeId) (z:Value) (size bytes:Nat) (ht:P.underlying t=some (.slice e)) (hi:(P.info? e).map (fun i=>(i.zero,i.size,i.bytes))=some (some z,size,bytes)) (hzs:z.cells.size=size) (hsz:0<size)
  (v:Value) (n:Nat) (xs:List Value) (us:Array Value) (e':TypeId) (hs:a.eval s=v) (hx:a.eval x=.slice (some w.heap.size) 1 1)
  (zje:wb.heap.size<=w.heap.size) (zjc:w.ownsRow wb.heap.size e size v n xs) (hus:us.size=size) (h1:∀ u∈us.toList,u.oneCell'=true)
  (h63:n+1<=maxLen) (hbytes:(n+1)*bytes<=140737488355328)
  (h:∀ g cap w',w'.ownsRow wb.heap.size e size (.slice (some ⟨g,0,none⟩) (n+1) cap) (n+1) (xs++us.toList)->w.grownBy w' v.ownBlock->(v.ownBlock=some g∨g=w.heap.size+1)->g<w'.heap.size->K (a.put o.dst (.slice (some ⟨g,0,none⟩) (n+1) cap)) w') :
  o.wp P a (w.alloc (.cells us e')) K Q:=by
 obtain⟨i,c,d,f,l⟩:=info_parts hi;refine wp_append_lies (w.alloc (.cells us e')) s x t ho wb.heap.size e i z size bytes ht c d f l hzs hsz v n xs hs (zjc.alloc _) ⟨w.heap.size,0,none⟩ 1 1 us.toList hx (by simpa using hus) ?_ h1 oM h63 hbytes (by simp;omega) (w.heap.size+1) sM ?_
 ·intro j u hu;rw [zK,Nat.zero_add,(Blk.new w e' us).cell];simpa using hu
 ·intro g cap w' hown' hg hat hlt;have b:w.grownBy w' v.ownBlock:=⟨hg.os,hg.tape,hg.output,dJ sM hg.size,fun k hk hne=>(hg.block k (by simp;omega) hne).trans (Below.heap_alloc w _ k hk)⟩;exact h g cap w' hown' b hat hlt
theorem zar {P:Program} (wb w:World) {ops:Array Oper} {rest:List Oper} {o:Oper}  {Q:Exit->Act->World->Prop}(hgd:o.guard=none) (s x:Operand) (t:TypeId)
  (ho:o.op=.call { callee:=.builtin .append,args:=#[s,x],argTypes:=#[t,t] })
  (e:TypeId) (z:Value) (size bytes:Nat) (ht:P.underlying t=some (.slice e)) (hi:(P.info? e).map (fun i=>(i.zero,i.size,i.bytes))=some (some z,size,bytes)) (hzs:z.cells.size=size) (hsz:0<size)
  (v:Value) (n:Nat) (xs:List Value) (us:Array Value) (e':TypeId) (hs:a.eval s=v) (hx:a.eval x=.slice (some w.heap.size) 1 1)
  (zje:wb.heap.size<=w.heap.size) (zjc:w.ownsRow wb.heap.size e size v n xs) (hus:us.size=size) (h1:∀ u∈us.toList,u.oneCell'=true)
  (h63:n+1<=maxLen) (hbytes:(n+1)*bytes<=140737488355328)
  (h:∀ g cap w',w'.ownsRow wb.heap.size e size (.slice (some ⟨g,0,none⟩) (n+1) cap) (n+1) (xs++us.toList)->w.grownBy w' v.ownBlock->(v.ownBlock=some g∨g=w.heap.size+1)->g<w'.heap.size->wpList P ops Q rest (a.put o.dst (.slice (some ⟨g,0,none⟩) (n+1) cap)) w') :
  wpList P ops Q (o :: rest) a (w.alloc (.cells us e')):=
 wpList_plain hgd fun _ hK=>zaL wb w s x t ho e z size bytes ht hi hzs hsz v n xs us e' hs hx zje zjc hus h1 h63 hbytes fun g cap w' h2 h3 h4 h5=>hK _ _ (h g cap w' h2 h3 h4 h5)
theorem tQ {A B:Prop}(h:B) (k:Bx B->A:=by
 intro h0
 repeat (first|(refine tseq_skip rfl rfl aM ?_;simp only [Act.put,List.setIfInBounds_toArray,List.set_cons_zero,List.set_cons_succ])|(refine tseq_pure (v:=?_) rfl rfl rfl rfl (fun X=>?_) ?_;rotate_left;(focus (go_simp<;>with_reducible rfl));simp only [Act.put,List.setIfInBounds_toArray,List.set_cons_zero,List.set_cons_succ])|(refine tseq_read (v:=?_) rfl rfl rfl rfl (fun X hX=>?_) ?_;rotate_left;(focus (go_simp<;>with_reducible rfl));simp only [Act.put,List.setIfInBounds_toArray,List.set_cons_zero,List.set_cons_succ]))
 exact h0.out):A:=k ⟨h⟩
theorem tR {P:Program} {l:List Oper} {Q:Exit->Act->World->Prop} {id:Nat}   (S:World->Prop) (T:List Nat) (ord:Ord)(h:zaN P l T Q S ord a w.drew)(hm:P.follows .mixedOrders=true:=by kernel_rfl)(hlen:ord.len=l.length:=by rfl)(hev:ord.even=true:=by kernel_rfl)(hs:Region.noSelect l.toArray=true:=by kernel_rfl)(hok:zei l T ord (Array.replicate l.length false)=true:=by kernel_rfl)
  (hQ:∀ (c:List PanicEntry) (a:Act) (d:Tmp) (v:Value) (w:World),Q (.panic c) (a.put (some d) v) w->Q (.panic c) a w:=by exact fun _ _ _ _ _ h=>h) (hS:S w.drew:=by first|assumption|exact (Ext.refl _).drew|exact (Dr.refl _ _).drew|(refine Ext.drew ?_;assumption)):(Code.region id l.toArray true).wp P Q a w:=
 zhH S T ord hm hlen hev hs hok hQ hS h
end Go.Proofs.YtfcjhpodichpjaaGreatDoor
