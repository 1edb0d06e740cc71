/- Plain lemmas -/
import Derived.WalkKit
import Derived.WalkSpells
import Derived.WalkLawsBesides
import Derived.BigQuiet
import Derived.Deep.QuietTactic
import Derived.Deep.RegionWith
import Derived.Deep.RegionHeld3
import Derived.Deep.AppendLies
import Derived.Deep.Draws
import Derived.Laws.OwnMore
import Derived.Laws.BitsAllLaws
import Derived.Laws.BitsLemmas
import Derived.Maps.AppendAt
import Derived.Test.YtcfchopfijalpaaGreatDoorRows
import Derived.OrdersHeld
import Derived.ProofKit
import Derived.Deep.Slices
import Derived.Deep.Fields
import Derived.ChangeSame
import Derived.ChangeArms
import Derived.Lib.SmallJoins
import Derived.OpenShut
import Derived.ShutString
import Derived.ChangeOld
import Derived.Lib.TrailingZeros
import Derived.Shelf.Spec.TrailingZeros
import Derived.Lib.LaidTab
import Derived.LaidMore
import Derived.Stop.Joined
import Derived.Stop.LaidErr
import Derived.Maps.OwnSet
import Derived.Maps.OwnOps
import Derived.StillTailTactics
set_option maxHeartbeats 4000000
set_option maxRecDepth 100000
namespace Go.Proofs.YtcfchopfijalpaaGreatDoor
open Go Go.RowKit
open Bool renaming and_eq_true->dJ,and_false->iW,eq_false_iff->eQ,false_eq_true->iN
open List renaming all_eq_true->eL,eq_nil_of_length_eq_zero->dQ,flatMap_cons->jX,foldl_cons->iG,getD_eq_getElem?_getD->dK,getElem?_append_left->dP,getElem?_append_right->dV,getElem?_eq_getElem->dF,getElem?_eq_none->dY,getElem?_map->dT,getElem?_of_mem->eD,getElem?_toArray->eM,getElem_mem->gI,length_append->dS,length_cons->fY,length_singleton->eC,map_append->eP,map_cons->fQ,mem_append->gW,mem_cons_of_mem->eE,mem_of_getElem?->dE,mem_singleton->eT,range->eY,replicate->dU,take_add_one->dN,take_length->eN
open Nat renaming add_assoc->iB,add_mul->iT,add_zero->gX,div_div_eq_div_mul->jD,div_eq_of_lt->iY,div_le_self->iH,eq_of_testBit_eq->fO,le_refl->dG,le_trans->dO,lt_of_le_of_lt->jE,lt_of_lt_of_le->eB,lt_or_eq_of_le->eI,lt_or_ge->e8,lt_pow_two_of_testBit->jR,lt_trichotomy->fB,mul_assoc->iU,mul_comm->fL,mul_le_mul_right->jM,mul_one->jA,pow_le_pow_right->eH,sub_self->gF,testBit_and->fX,testBit_eq_decide_div_mod_eq->jZ,testBit_succ->iZ,testBit_two_pow_mul_add->iK,two_pow_pos->jU,zero_add->dW,zero_le->dI,zero_mul->jP,zero_testBit->iM
open Option renaming map_eq_some_iff->gG,toList_some->eG
instance cD011:Coe Int Value:=⟨fun x=>.int .i64 x⟩
instance cD012:Coe Nat Value:=⟨fun x=>.int .i64 (x:Int)⟩
instance cD013:Coe Unit Value:=⟨fun _=>.slice none 0 0⟩
instance cD014:Coe ByteArray Value:=⟨fun x=>.string x⟩
instance cD015:Coe Nat Addr:=⟨fun x=>⟨x,0,none⟩⟩
theorem oM {P:Prop}(h:P:=by omega):P:=h
theorem dM {P:Prop}(h:P:=by decide):P:=h
theorem sM {P:Prop}(h:P:=by simp):P:=h
theorem gM {P:Prop}(h:P:=by go_num):P:=h
theorem aM {P:Prop}(h:P:=by assumption):P:=h
theorem kM {P:Prop}(h:P:=by kernel_rfl):P:=h
theorem lM {P:Prop}(h:P:=by unfold maxLen;omega):P:=h
theorem tM {P:Prop}(h:P:=by unfold Sm;omega):P:=h
theorem oH {A P:Prop}(a:A)(h:A->P:=by intro _;omega):P:=h a
theorem mQ {v:Ending}{R:World->Prop}{Q:Ending->World->Prop}(k:∀ w,R w->Q v w):∀ e w,e=v∧R w->Q e w:=fun _ w h=>h.1 ▸ k w h.2
variable {A A':Option Addr} {S T:Nat->Prop} {W a w w':World} {b base base' c c' g hi hi' i id j k l lo lo' n n' x:Nat} {cs ds:Array Value} {e t:TypeId} {ls:List (List Int)} {ns rest start:List Nat} {p:Addr} {rows xs:List Value} {u v:Value}
theorem za {p:Prop}(h:p):Hid p:=h
structure Bx (p:Prop):Prop where
 out:p
theorem pT {A B:Prop}(h:B) (k:Bx B->A:=by
 intro h0
 try simp only [Act.put,List.setIfInBounds_toArray,List.set_cons_zero,List.set_cons_succ]
 exact h0.out):A:=k ⟨h⟩
theorem ziQ (a:Addr) (n:Nat):(a.add n).block=a.block:=by unfold Addr.add;split<;>rfl
theorem addr_zero (a:Addr):a.add 0=a:=by simp [Addr.add]
theorem zZ (g o n:Nat):(⟨g,o,none⟩:Addr).add n=⟨g,o+n,none⟩:=by unfold Addr.add;split<;>simp_all
structure Frm (S:Nat->Prop) (w w':World):Prop where
 os:w'.os=w.os
 tape:w'.tape=w.tape
 output:w'.output=w.output
 size:w.heap.size<=w'.heap.size
 block:∀ k,k<w.heap.size->¬ S k->w'.heap[k]?=w.heap[k]?
def Ext (w w':World):Prop:=Frm (fun _=>False) w w'
theorem Ext.refl (w:World):Ext w w:=⟨rfl,rfl,rfl,dG _,fun _ _ _=>rfl⟩
theorem Ext.trans {b c:World}(h:Ext a b) (k:Ext b c):Ext a c:=
 ⟨k.os.trans h.os,k.tape.trans h.tape,k.output.trans h.output,dO h.size k.size,fun i hi hn=>(k.block i (eB hi h.size) hn).trans (h.block i hi hn)⟩
theorem Ext.drew (h:Ext a w):Ext a w.drew:=⟨h.os,h.tape,h.output,h.size,h.block⟩
theorem Ext.drewN (h:Ext a w) (n:Nat):Ext a (w.drewN n):=⟨h.os,h.tape,h.output,h.size,h.block⟩
theorem Ext.alloc (h:Ext a w) (o:Obj):Ext a (w.alloc o):=
 h.trans ⟨rfl,rfl,rfl,sM,fun k hk _=>Below.heap_alloc _ _ _ hk⟩
theorem Ext.setCell (h:Ext a w) (hp:a.heap.size<=p.block) (u:Value):Ext a (w.setCell p u):=
 ⟨h.os,h.tape,h.output,by simpa [World.setCell] using h.size,fun k hk hn=>(Below.heap_setCell _ _ _ _ oM).trans (h.block k hk hn)⟩
theorem Ext.grown {row:Option Nat}(h:Ext a w)(hg:w.grownBy w' row)(hr:∀ k,row=some k->a.heap.size<=k):Ext a w':=
 ⟨hg.os.trans h.os,hg.tape.trans h.tape,hg.output.trans h.output,dO h.size hg.size,
  fun k hk hn=>(hg.block k (eB hk h.size) (fun e=>by have:=hr k e.symm;omega)).trans (h.block k hk hn)⟩
theorem Ext.heap (h:Ext w w') (hk:k<w.heap.size):w'.heap[k]?=w.heap[k]?:=h.block k hk id
theorem Ext.cell (h:Ext w w') (hp:p.block<w.heap.size):w'.cell? p=w.cell? p:=World.cell?_of_block (w:=w) (h.heap hp)
theorem Ext.aa (h:Ext w w')  (hv:w.cell? p=some v):w'.cell? p=some v:=
 (h.cell (World.block_lt_of_cell? w p hv)).trans hv
def Blk (w:World) (g:Nat) (t:TypeId) (cs:Array Value):Prop:=w.heap[g]?=some (.cells cs t (0,0))
section
variable {w w':World} {g:Nat} {t:TypeId} {cs:Array Value}
theorem Blk.lt (h:Blk w g t cs):g<w.heap.size:=by
 rcases e8 g w.heap.size with hlt|a
 ·exact hlt
 ·unfold Blk at h;rw [Array.getElem?_eq_none a] at h;cases h
theorem Blk.cell (h:Blk w g t cs) (i:Nat):w.cell? ⟨g,i,none⟩=cs[i]?:=cell_of_row w g i cs t (0,0) h
theorem Blk.frozen (h:Blk w g t cs) (i:Nat):w.frozen? ⟨g,i,none⟩=false:=by
 unfold Blk at h;simp [World.frozen?,h]
theorem Blk.new (w:World) (t:TypeId) (cs:Array Value):Blk (w.alloc (.cells cs t)) w.heap.size t cs:=heap_alloc_new w _
theorem Ext.eq_ {a b:World}(h:a=b):Ext a b:=h ▸ Ext.refl a
theorem Ext.bl_ {V W:World}{c:Array Value}{t:TypeId}(h:V.alloc (.cells c t)=W):Blk W V.heap.size t c:=h ▸ Blk.new V t c
theorem Ext.al_ {V W:World}{o:Obj}(h:V.alloc o=W):Ext V W:=h ▸ (Ext.refl V).alloc o
theorem Blk.ext (h:Blk w g t cs)(hb:Ext w w'):Blk w' g t cs:=(hb.heap h.lt).trans h
theorem Ext.x1_ {w W:World}{c:Array Value}{t:TypeId}(h:w.alloc (.cells c t)=W):Ext w W∧Blk W w.heap.size t c:=⟨Ext.al_ h,Ext.bl_ h⟩
theorem Ext.x2_ {w W:World}{c d:Array Value}{t u:TypeId}(h:(w.alloc (.cells c t)).alloc (.cells d u)=W):Ext w W∧Blk W w.heap.size t c∧Blk W (w.heap.size+1) u d:=by
 have a:=Ext.x1_ (w:=w) (c:=c) (t:=t) rfl;have b:=Ext.x1_ h;rw [World.size_alloc] at b;exact⟨a.1.trans b.1,Blk.ext a.2 b.1,b.2⟩
theorem Ext.x3_ {w W:World}{c d e:Array Value}{t u v:TypeId}(h:((w.alloc (.cells c t)).alloc (.cells d u)).alloc (.cells e v)=W):Ext w W∧Blk W w.heap.size t c∧Blk W (w.heap.size+1) u d∧Blk W (w.heap.size+1+1) v e:=by
 have a:=Ext.x1_ (w:=w) (c:=c) (t:=t) rfl;have b:=Ext.x2_ h;rw [World.size_alloc] at b;exact⟨a.1.trans b.1,Blk.ext a.2 b.1,b.2⟩
theorem Ext.x4_ {w W:World}{c d e f:Array Value}{t u v x:TypeId}(h:(((w.alloc (.cells c t)).alloc (.cells d u)).alloc (.cells e v)).alloc (.cells f x)=W):Ext w W∧Blk W w.heap.size t c∧Blk W (w.heap.size+1) u d∧Blk W (w.heap.size+1+1) v e∧Blk W (w.heap.size+1+1+1) x f:=by
 have a:=Ext.x1_ (w:=w) (c:=c) (t:=t) rfl;have b:=Ext.x3_ h;rw [World.size_alloc] at b;exact⟨a.1.trans b.1,Blk.ext a.2 b.1,b.2⟩
theorem Blk.cells (h:Blk w g t cs):∀ W,Ext w W->∀ i,W.cell? ⟨g,i,none⟩=cs[i]?:=fun _ hW=>(h.ext hW).cell
theorem Blk.frm (h:Blk w g t cs)(hb:Frm S w w')(hg:¬ S g):Blk w' g t cs:=(hb.block g h.lt hg).trans h
theorem Blk.ab (h:Blk w g t cs) (i:Nat) (u:Value):Blk (w.setCell ⟨g,i,none⟩ u) g t (cs.setIfInBounds i u):=by
 unfold Blk at h ⊢;simp [World.setCell,Array.getElem?_modify,h]
end
theorem zcp (h:Ext (w.alloc (.cells cs t)) w'):Blk w' w.heap.size t cs:=(Blk.new w t cs).ext h
theorem zN {u:TypeId}(h:Ext ((w.alloc (.cells cs t)).alloc (.cells ds u)) w'):Blk w' w.heap.size t cs∧Blk w' (w.heap.size+1) u ds:=by
 refine⟨zcp (((Ext.refl _).alloc _).trans h),?_⟩;have:=zcp h;simpa using this
theorem zL {es:Array Value} {u v:TypeId}(h:Ext (((w.alloc (.cells cs t)).alloc (.cells ds u)).alloc (.cells es v)) w'):Blk w' w.heap.size t cs∧Blk w' (w.heap.size+1) u ds∧Blk w' (w.heap.size+1+1) v es:=by
 have a:=zN (((Ext.refl _).alloc _).trans h);refine⟨a.1,a.2,?_⟩;have:=zcp h;simpa using this
theorem Blk.far (h:Blk w g t cs) (hp:g≠p.block) (u:Value):Blk (w.setCell p u) g t cs:=(Below.heap_setCell w p u g hp).trans h
theorem zdk (h:Ext (w.alloc (.cells cs t)) w'):∀ j,w'.cell? ⟨w.heap.size,j,none⟩=cs[j]?:=(zcp h).cell
def Reads (w:World) (lo hi size:Nat) (A:Option Addr) (n:Nat) (xs:List Value):Prop:=
 xs.length=n*size∧n<=9223372036854775807∧(0<n->∃ ad,A=some ad∧lo<=ad.block∧ad.block<hi∧∀ j u,xs[j]?=some u->w.cell? (ad.add j)=some u)
section
variable {w w':World} {lo hi size n:Nat} {A:Option Addr} {xs:List Value}
theorem Reads.nil:Reads w lo hi size A 0 []:=⟨sM,oM,fun h=>absurd h oM⟩
theorem Reads.len (h:Reads w lo hi size A n xs):n<=9223372036854775807:=h.2.1
theorem Reads.length (h:Reads w lo hi size A n xs):xs.length=n*size:=h.1
theorem Reads.at_ (h:Reads w lo hi size A n xs)(hk:k<n):∃ ad,A=some ad∧lo<=ad.block∧ad.block<hi∧∀ j u,xs[j]?=some u->w.cell? (ad.add j)=some u:=h.2.2 oM
theorem Reads.one (h:Reads w lo hi 1 A n xs)(hk:k<n):∃ ad u,A=some ad∧lo<=ad.block∧ad.block<hi∧Hid (xs[k]?=some u)∧w.cell? (ad.add k)=some u:=by
 obtain⟨ad,e,c,a,b⟩:=h.2.2 oM;have hx:k<xs.length:=oH h.1;exact⟨ad,xs[k],e,c,a,dF hx,b k _ (dF hx)⟩
theorem Reads.more (h:Reads w lo hi size A n xs)(hL:lo'<=lo)(hH:hi<=hi'):Reads w lo' hi' size A n xs:=
 ⟨h.1,h.2.1,fun hn=>by
  obtain⟨ad,e,hl,hb,hc⟩:=h.2.2 hn
  exact⟨ad,e,oM,oM,hc⟩⟩
theorem Reads.ext (h:Reads w lo hi size A n xs)(hb:Ext w w'):Reads w' lo hi size A n xs:=
 ⟨h.1,h.2.1,fun hn=>by
  obtain⟨ad,e,hl,hi,hc⟩:=h.2.2 hn
  exact⟨ad,e,hl,hi,fun j u hu=>hb.aa (hc j u hu)⟩⟩
theorem Reads.frm (h:Reads w lo hi size A n xs)(hb:Frm S w w')(hS:∀ k,lo<=k->k<hi->¬ S k):Reads w' lo hi size A n xs:=
 ⟨h.1,h.2.1,fun hn=>by
  obtain⟨ad,e,hl,hi,hc⟩:=h.2.2 hn
  refine⟨ad,e,hl,hi,fun j u hu=>?_⟩
  have hcell:=hc j u hu
  have hlt:=World.block_lt_of_cell? w _ hcell
  exact (World.cell?_of_block (w:=w) (hb.block _ hlt (by rw [ziQ];exact hS _ hl hi))).trans hcell⟩
theorem Reads.af (h:w.ownsRow base e size (.slice A n c) n xs):Reads w base w.heap.size size A n xs:=by
 rcases h.2 with ⟨o,i⟩|⟨g,d,f,m,k,hg,l,a,_,b⟩
 ·subst i;have hx:xs=[]:=dQ (by simpa using h.1);subst hx;exact Reads.nil
 ·have j:A=some ⟨g,0,none⟩:=by injection m
  subst j;exact⟨h.1,by unfold maxLen at a;omega,fun _=>⟨_,rfl,k,(Array.getElem?_eq_some_iff.1 hg).1,h.cells (g:=g) rfl⟩⟩
end
theorem zX {P:Program} (wb w:World) {ops:Array Oper} {rest:List Oper} {o:Oper} {a:Act} {Q:Exit->Act->World->Prop}(hgd:o.guard=none) (s x:Operand) (t:TypeId)
  (ho:o.op=.call { callee:=.builtin .append,args:=#[s,x],argTypes:=#[t,t] })
  (e:TypeId) (z:Value) (size bytes:Nat) (ht:P.underlying t=some (.slice e)) (hi:(P.info? e).map (fun i=>(i.zero,i.size,i.bytes))=some (some z,size,bytes)) (hzs:z.cells.size=size) (hsz:0<size)
  (v:Value) (n:Nat) (xs:List Value) (us:Array Value) (e':TypeId) (hs:a.eval s=v) (hx:a.eval x=.slice (some w.heap.size) 1 1)
  (zkj:Ext wb w) (zkh:w.ownsRow wb.heap.size e size v n xs) (hus:us.size=size) (h1:∀ u∈us.toList,u.oneCell'=true)
  (h63:n+1<=maxLen) (hbytes:(n+1)*bytes<=140737488355328)
  (h:∀ v' w',Ext wb w'->w'.ownsRow wb.heap.size e size v' (n+1) (xs++us.toList)->w.grownBy w' v.ownBlock->(v'.ownBlock=v.ownBlock∨v'.ownBlock=some (w.heap.size+1))->wpList P ops Q rest (a.put o.dst v') w') :
  wpList P ops Q (o :: rest) a (w.alloc (.cells us e')):=by
 obtain⟨i,c,d,f,g⟩:=info_parts hi;refine wpList_append_own_at (w.alloc (.cells us e')) hgd s x t ho wb.heap.size e i z size bytes ht c d f g hzs hsz v n xs hs (zkh.alloc _) ⟨w.heap.size,0,none⟩ 1 1 us.toList hx (by simpa using hus) ?_ h1 h63 hbytes (by have:=zkj.size;simp;omega) ?_
 ·intro j u hu;rw [zZ,dW,(Blk.new w e' us).cell];simpa using hu
 ·intro v' w' hown' hg _ hat;have b:w.grownBy w' v.ownBlock:=⟨hg.os,hg.tape,hg.output,dO sM hg.size,fun k hk hne=>(hg.block k (by simp;omega) hne).trans (Below.heap_alloc w _ k hk)⟩;exact h v' w' (zkj.grown b (fun k hk=>(zkh.lt k hk).1)) hown' b (by simpa using hat)
theorem zcc {P:Program} (wb w:World) {ops:Array Oper} {rest:List Oper} {o:Oper} {a:Act} {Q:Exit->Act->World->Prop}(hgd:o.guard=none) (l c:Operand) (t:TypeId)(ho:o.op=.makeSlice t l c)
  (e:TypeId) (z:Value) (size bytes:Nat) (ht:P.underlying t=some (.slice e)) (hi:(P.info? e).map (fun i=>(i.zero,i.size,i.bytes))=some (some z,size,bytes))
  (kl kc:IntKind) (n:Nat) (hl:a.eval l=.int kl (n:Int)) (hc:a.eval c=.int kc (n:Int)) (zkj:Ext wb w) (hbytes:n*bytes<=140737488355328) (h63:n<=maxLen)
  (h:∀ w',Ext wb w'->w'.ownsRow wb.heap.size e size (.slice (some w.heap.size) n n) n (madeCells z.cells (n*size)).toList->Ext w w'->w.heap.size<w'.heap.size->wpList P ops Q rest (a.put o.dst (.slice (some w.heap.size) n n)) w') :
  wpList P ops Q (o :: rest) a w:=by
 obtain⟨i,d,f,j,k⟩:=info_parts hi;refine wpList_make_full w hgd l c t ho wb.heap.size e i z size ht d f j kl kc n n n hl hc rfl rfl (by rw [k,fL];omega) h63 zkj.size ?_;intro w' zkh hg;refine h w' (zkj.grown hg sM) zkh ((Ext.refl _).grown hg sM) ?_;rcases zkh.2 with ⟨b,_⟩|⟨g,m,p,b,_,q,_⟩
 ·simp at b
 ·have:w.heap.size=g:=by injection b with h1;injection h1 with h1;injection h1
  subst this;exact (Array.getElem?_eq_some_iff.1 q).1
theorem zi {size:Nat}   (h:w.ownsRow base e size v n xs):∃ A c,v=.slice A n c:=by
 rcases h.2 with ⟨rfl,d⟩|⟨g,a,b,rfl,_⟩
 ·exact⟨none,0,by rw [d]⟩
 ·exact⟨_,_,rfl⟩
theorem zbr (n:Int):∀ u∈(#[Value.int .i64 n]:Array Value).toList,u.oneCell'=true:=by simp [Value.oneCell']
theorem zju (n:Int):∀ u∈(#[Value.int .u8 n]:Array Value).toList,u.oneCell'=true:=by simp [Value.oneCell']
theorem zaZ (A:Option Addr) (n c:Nat):∀ u∈(#[Value.slice A n c]:Array Value).toList,u.oneCell'=true:=by simp [Value.oneCell']
def ints (l:List Int):List Value:=l.map (Value.int .i64)
theorem zdm (l:List Int):(ints l).length=l.length:=by simp [ints]
def zag (l:List Bool):List Value:=l.map Value.bool
theorem zce (l:List Bool):(zag l).length=l.length:=by simp [zag]
theorem ints_get {l:List Int}  (h:(ints l)[k]?=some u):∃ n,l[k]?=some n∧u=.int .i64 n:=by
 simp only [ints,dT,gG] at h;obtain⟨n,a,rfl⟩:=h;exact⟨n,a,rfl⟩
theorem bools_get {l:List Bool}  (h:(zag l)[k]?=some u):∃ n,l[k]?=some n∧u=.bool n:=by
 simp only [zag,dT,gG] at h;obtain⟨n,a,rfl⟩:=h;exact⟨n,a,rfl⟩
theorem Reads.int {l:List Int}(h:Reads w lo hi 1 A n (ints l))(hk:k<n):∃ ad x,A=some ad∧lo<=ad.block∧ad.block<hi∧Hid (l[k]?=some x)∧w.cell? (ad.add k)=some (.int .i64 x):=by
 obtain⟨ad,u,e,d,b,hx,c⟩:=h.one hk;obtain⟨x,a,rfl⟩:=ints_get hx.out;exact⟨ad,x,e,d,b,a,c⟩
theorem Reads.bool {l:List Bool}(h:Reads w lo hi 1 A n (zag l))(hk:k<n):∃ ad x,A=some ad∧lo<=ad.block∧ad.block<hi∧Hid (l[k]?=some x)∧w.cell? (ad.add k)=some (.bool x):=by
 obtain⟨ad,u,e,d,b,hx,c⟩:=h.one hk;obtain⟨x,a,rfl⟩:=bools_get hx.out;exact⟨ad,x,e,d,b,a,c⟩
def zfo (w:World) (lo hi:Nat) (rows:List Value) (ls:List (List Int)):Prop:=
 rows.length=ls.length∧∀ (i:Nat) (row:Value) (l:List Int),rows[i]?=some row->ls[i]?=some l->∃ A c,row=.slice A l.length c∧Reads w lo hi 1 A l.length (ints l)
def zbU (w:World) (lo hi:Nat) (A:Option Addr) (n:Nat) (ls:List (List Int)):Prop:=
 n=ls.length∧∃ rows,Reads w lo hi 1 A n rows∧zfo w lo hi rows ls
section
variable {w w':World} {lo hi n k:Nat} {A:Option Addr} {ls:List (List Int)} {rows:List Value}
theorem zfo.ext (h:zfo w lo hi rows ls)(hb:Ext w w'):zfo w' lo hi rows ls:=
 ⟨h.1,fun i row l hr hl=>by
  obtain⟨A,c,e,hx⟩:=h.2 i row l hr hl
  exact⟨A,c,e,hx.ext hb⟩⟩
theorem zbU.ext (h:zbU w lo hi A n ls)(hb:Ext w w'):zbU w' lo hi A n ls:=by
 obtain⟨e,a,b,hx⟩:=h;exact⟨e,a,b.ext hb,hx.ext hb⟩
theorem zfo.frm (h:zfo w lo hi rows ls)(hb:Frm S w w')(hS:∀ k,lo<=k->k<hi->¬ S k):zfo w' lo hi rows ls:=
 ⟨h.1,fun i row l hr hl=>by
  obtain⟨A,c,e,hx⟩:=h.2 i row l hr hl
  exact⟨A,c,e,hx.frm hb hS⟩⟩
theorem zbU.frm (h:zbU w lo hi A n ls)(hb:Frm S w w')(hS:∀ k,lo<=k->k<hi->¬ S k):zbU w' lo hi A n ls:=by
 obtain⟨e,a,b,hx⟩:=h;exact⟨e,a,b.frm hb hS,hx.frm hb hS⟩
theorem zfo.more (h:zfo w lo hi rows ls)(hL:lo'<=lo)(hH:hi<=hi'):zfo w lo' hi' rows ls:=
 ⟨h.1,fun i row l hr hl=>by
  obtain⟨A,c,e,hx⟩:=h.2 i row l hr hl
  exact⟨A,c,e,hx.more hL hH⟩⟩
theorem zbU.more (h:zbU w lo hi A n ls)(hL:lo'<=lo)(hH:hi<=hi'):zbU w lo' hi' A n ls:=by
 obtain⟨e,a,b,hx⟩:=h;exact⟨e,a,b.more hL hH,hx.more hL hH⟩
theorem zbU.len (h:zbU w lo hi A n ls):n<=9223372036854775807:=by
 obtain⟨_,a,b,_⟩:=h;exact b.len
theorem zbU.row (h:zbU w lo hi A n ls)(hk:k<n):∃ ad Ak ck l,A=some ad∧lo<=ad.block∧ad.block<hi∧Hid (ls[k]?=some l)∧w.cell? (ad.add k)=some (.slice Ak l.length ck)∧Reads w lo hi 1 Ak l.length (ints l):=by
 obtain⟨e,b,i,hx⟩:=h;obtain⟨ad,u,c,g,d,j,f⟩:=i.one hk;have hlt:k<ls.length:=oM;obtain⟨Ak,ck,rfl,a⟩:=hx.2 k u ls[k] j.out (dF hlt);exact⟨ad,Ak,ck,ls[k],c,g,d,dF hlt,f,a⟩
end
section
variable {w w':World} {base base' size size' n n':Nat} {e e':TypeId} {v v':Value} {xs xs':List Value}
theorem zh (h:w.ownsRow base e size v n xs)(hb:Ext w w'):w'.ownsRow base e size v n xs:=by
 refine⟨h.1,?_⟩;rcases h.2 with d|⟨g,a,b,f,hg,c,r⟩
 ·exact .inl d
 ·exact .inr ⟨g,a,b,f,hg,(hb.heap (Array.getElem?_eq_some_iff.1 c).1).trans c,r⟩
theorem zg (h:w.ownsRow base e size v n xs)(hb:Frm S w w')(hS:∀ b,v.ownBlock=some b->¬ S b):w'.ownsRow base e size v n xs:=by
 refine⟨h.1,?_⟩;rcases h.2 with i|⟨g,a,c,f,hg,d,r⟩
 ·exact .inl i
 ·exact .inr ⟨g,a,c,f,hg,(hb.block g (Array.getElem?_eq_some_iff.1 d).1 (hS g (by rw [f];rfl))).trans d,r⟩
theorem zbI (h:w.ownsRow base e size v n xs)(hb:Frm S w w')(hS:∀ b,base<=b->¬ S b):w'.ownsRow base e size v n xs:=zg h hb fun b hv=>hS b (h.lt b hv).1
theorem zq (h:w.ownsRow base e size v n xs)(hb:base'<=base):w.ownsRow base' e size v n xs:=by
 refine⟨h.1,?_⟩;rcases h.2 with c|⟨g,a,b,d,hg,r⟩
 ·exact .inl c
 ·exact .inr ⟨g,a,b,d,oM,r⟩
theorem zaD (h:w.ownsRow base e size v n xs)(h':w.ownsRow base' e' size' v' n' xs')(hne:e≠e') (hb:v.ownBlock=some b):v'.ownBlock≠some b:=by
 rcases h.2 with ⟨rfl,_⟩|⟨g,i,j,rfl,_,l,_⟩
 ·simp [Value.ownBlock] at hb
 ·rcases h'.2 with ⟨rfl,_⟩|⟨k,d,f,rfl,_,a,_⟩
  ·simp [Value.ownBlock]
  ·have c:g=b:=by simpa [Value.ownBlock] using hb
   subst c;intro he;have hg:k=g:=by simpa [Value.ownBlock] using he
   subst hg;rw [l] at a;injection a with a
   injection a with _ ht
   exact hne ht
theorem zaY {cap:Nat}(h:w.ownsRow base e size (.slice (some g) n cap) n xs) (j:Nat)(hj:j<n*size):∃ u,w.cell? ⟨g,j,none⟩=some u:=by
 have hx:j<xs.length:=by rw [h.1];exact hj
 exact⟨xs[j],by rw [h.cellAt j hj,dF hx]⟩
theorem zdL (h:w.ownsRow base e size v n xs):xs.length=n*size:=h.1
end
theorem Ext.aj (h:Ext w w'):Frm S w w':=⟨h.os,h.tape,h.output,h.size,fun k hk _=>h.block k hk id⟩
theorem Frm.ae {row:Option Nat}(h:w.grownBy w' row):Frm (fun k=>row=some k) w w':=
 ⟨h.os,h.tape,h.output,h.size,fun k hk hn=>h.block k hk (fun e=>hn e.symm)⟩
theorem Frm.setCell (w:World) (g j:Nat) (u:Value):Frm (fun k=>k=g) w (w.setCell ⟨g,j,none⟩ u):=
 ⟨rfl,rfl,rfl,by simp [World.setCell],fun k _ hn=>Below.heap_setCell _ _ _ _ hn⟩
theorem Frm.trans {b c:World}(h:Frm S a b) (k:Frm S b c):Frm S a c:=
 ⟨k.os.trans h.os,k.tape.trans h.tape,k.output.trans h.output,dO h.size k.size,fun i hi hn=>(k.block i (eB hi h.size) hn).trans (h.block i hi hn)⟩
theorem Frm.mono {b:World}(h:Frm S a b)(hS:∀ k,k<a.heap.size->S k->T k):Frm T a b:=
 ⟨h.os,h.tape,h.output,h.size,fun k hk hn=>h.block k hk (fun hs=>hn (hS k hk hs))⟩
theorem Frm.refl (S:Nat->Prop) (w:World):Frm S w w:=⟨rfl,rfl,rfl,dG _,fun _ _ _=>rfl⟩
theorem Frm.cell (h:Frm S a w) (hp:S p.block) (u:Value):Frm S a (w.setCell p u):=
 ⟨h.os,h.tape,h.output,by simpa [World.setCell] using h.size,fun k hk hn=>(Below.heap_setCell _ _ _ _ (by rintro rfl;exact hn hp)).trans (h.block k hk hn)⟩
theorem Frm.ext (h:Frm S a w)(hb:Ext w w'):Frm S a w':=h.trans hb.aj
theorem Ext.frm {b c:World}(h:Ext a b) (k:Frm S b c)(hS:∀ k,k<a.heap.size->¬ S k):Ext a c:=
 ⟨k.os.trans h.os,k.tape.trans h.tape,k.output.trans h.output,dO h.size k.size,fun i hi hn=>(k.block i (eB hi h.size) (hS i hi)).trans (h.block i hi hn)⟩
section
variable {α:Type} {l:List α} {p:α->Bool} {k:Nat} {x:α}
theorem zaS (h:l[k]?=some x)(hp:p x=false):l.all p=false:=
 List.all_eq_false.2 ⟨x,dE h,by simp [hp]⟩
theorem zcH (h:l[k]?=some x)(hk:(l.take k).all p=true)(hp:p x=true):(l.take (k+1)).all p=true:=by
 rw [dN,h,List.all_append,hk];simp [hp]
theorem zeE (hk:l.length<=k)(h:(l.take k).all p=true):l.all p=true:=by
 rwa [List.take_of_length_le hk] at h
end
def Sm (n:Nat):Prop:=n<4294967296
theorem Sm.lt (h:Sm n):n<4294967296:=h
theorem Sm.or {a:Nat}(ha:Sm a)(hb:Sm b):Sm (a|||b):=Nat.or_lt_two_pow (n:=32) ha hb
theorem Sm.and_left {a:Nat} (b:Nat)(ha:Sm a):Sm (a&&&b):=jE Nat.and_le_left ha
theorem Sm.bit (h:n<32):Sm (2 ^ n):=Nat.pow_lt_pow_right oM h
theorem zcL (a:Nat)(ha:a<9223372036854775808):(BitVec.ofInt 64 (a:Int)).toNat=a:=by
 rw [BitVec.ofInt_natCast,BitVec.toNat_ofNat];exact Nat.mod_eq_of_lt oM
theorem zdx {a:Nat}(ha:Sm a)(hb:Sm b):bits .and .i64 (a:Int) (b:Int)=((a&&&b:Nat):Int):=by
 have hx:=(Sm.and_left b ha).lt;have:=ha.lt;have:=hb.lt;show IntKind.i64.wrap ((BitVec.ofInt 64 (a:Int)&&&BitVec.ofInt 64 (b:Int)).toNat:Int)=_;rw [BitVec.toNat_and,zcL a oM,zcL b oM,IntKind.wrap_i64];omega
theorem zcm {a:Nat}(ha:Sm a)(hb:Sm b):bits .or .i64 (a:Int) (b:Int)=((a|||b:Nat):Int):=by
 have hx:=(Sm.or ha hb).lt;have:=ha.lt;have:=hb.lt;show IntKind.i64.wrap ((BitVec.ofInt 64 (a:Int)|||BitVec.ofInt 64 (b:Int)).toNat:Int)=_;rw [BitVec.toNat_or,zcL a oM,zcL b oM,IntKind.wrap_i64];omega
theorem and_one (hx:Sm x):bits .and .i64 (x:Int) 1=((x % 2:Nat):Int):=by
 have:=zdx hx (b:=1) tM;rw [nat_mask1] at this;exact this
theorem div_pow (x n:Nat):(x:Int) / 2 ^ n=((x / 2 ^ n:Nat):Int):=sM
theorem zgs (hx:Sm x)(hn:32<=n):x.testBit n=false:=
 Nat.testBit_lt_two_pow (eB hx.lt (by rw [show (4294967296:Nat)=2 ^ 32 from rfl];exact eH oM hn))
theorem zif (hx:Sm x) (n:Nat):(bits .and .i64 ((x:Int) / 2 ^ min n 64) 1==1)=x.testBit n:=by
 rw [div_pow,and_one (jE (iH _ _) hx)]
 by_cases hn:n<=64
 ·rw [Nat.min_eq_left hn,jZ];rw [Bool.eq_iff_iff];simp only [beq_iff_eq,decide_eq_true_eq];omega
 ·rw [Nat.min_eq_right oM,zgs hx oM];have:x / 2 ^ 64=0:=iY (Nat.lt_trans hx.lt dM);rw [this];decide
def hasB (s:Nat) (n:Int):Bool:=decide (0<=n)&&s.testBit n.toNat
def letters (a k:Nat):List Nat:=(eY k).filter fun l=>a.testBit l
theorem zby (a k:Nat):letters a (k+1)=letters a k++if a.testBit k then [k] else []:=by
 unfold letters;rw [List.range_succ,List.filter_append];cases h:a.testBit k<;>simp [h]
theorem zE (a k:Nat):(letters a k).length<=k:=by
 unfold letters;have:=List.length_filter_le (fun l=>a.testBit l) (eY k);simpa using this
def zav (l:List Nat):List Value:=l.map fun n:Nat=>Value.int .i64 (n:Int)
theorem nats_length (l:List Nat):(zav l).length=l.length:=by simp [zav]
theorem zah (a:Int) (w:World) :
  Calls Tryz.prog 173 #[a] w fun e w'=>e=.returned (.bool (decide (0<=a∧a<=63)))∧w=w':=by
 by_cases h0:0<=a
 ·go_enter Tryz.func173,Tryz.ntmps173
  go_wp2;go_ret;exact⟨by simp [h0],rfl⟩
 ·go_enter Tryz.func173,Tryz.ntmps173
  go_wp2;go_ret;exact⟨by simp;omega,rfl⟩
theorem zY (a:Int) (w:World) :
  Calls Tryz.prog 139 #[a] w fun e w'=>e=.returned (.bool (decide (0<=a∧a<=63)))∧w=w':=by
 by_cases h0:0<=a
 ·go_enter Tryz.func139,Tryz.ntmps139
  go_wp2;go_ret;exact⟨by simp [h0],rfl⟩
 ·go_enter Tryz.func139,Tryz.ntmps139
  go_wp2;go_ret;exact⟨by simp;omega,rfl⟩
theorem zcR (s:ByteArray) (i:Nat)(h:i<s.size):(s[i].toNat:Int)<256:=by
 have:=s[i].toNat_lt;omega
def ltr (b:Int):Int:=if b - 97<0∨6<=b - 97 then -1 else b - 97
theorem zm {a b:Bool}(h:a=b):Ending.returned (.bool a)=.returned (.bool b):=by rw [h]
theorem zJ {k:IntKind} {a b:Int}(h:a=b):Ending.returned (.int k a)=.returned (.int k b):=by rw [h]
theorem zaM (s:ByteArray) (i:Nat)(hi:i<s.size) (w:World) :
  Calls Tryz.prog 153 #[s,i] w fun e w'=>e=.returned (.int .i64 (ltr s[i].toNat))∧w=w':=by
 have a:=zcR s i hi
 by_cases h0:(s[i].toNat:Int) - 97<0
 ·go_enter Tryz.func153,Tryz.ntmps153
  go_wp2;go_ret;exact⟨zJ (by rw [ltr,if_pos (Or.inl h0)]),rfl⟩
 ·by_cases h1:6<=(s[i].toNat:Int) - 97
  ·go_enter Tryz.func153,Tryz.ntmps153
   go_wp2;go_ret;exact⟨zJ (by rw [ltr,if_pos (Or.inr h1)]),rfl⟩
  ·go_enter Tryz.func153,Tryz.ntmps153
   go_wp2;go_ret;exact⟨zJ (by rw [ltr,if_neg oM]),rfl⟩
theorem zbA (s:ByteArray) (i:Nat)(hi:i<s.size) (w:World) :
  Calls Tryz.prog 141 #[s,i] w fun e w'=>e=.returned (.int .i64 (s[i].toNat - 97))∧w=w':=by
 have a:=zcR s i hi
 go_enter Tryz.func141,Tryz.ntmps141
 go_wp2;go_ret;exact⟨rfl,rfl⟩
theorem zax (s n:Nat)(hs:Sm s) (w:World)(hn:n<9223372036854775808) :
  Calls Tryz.prog 140 #[s,n] w fun e w'=>e=.returned (.bool (s.testBit n))∧w=w':=by
 have c:IntKind.u64.wrap (n:Int)=n:=by rw [IntKind.wrap_u64];omega
 have a:=zif hs n;have b:=za a;clear a
 go_enter Tryz.func140,Tryz.ntmps140
 go_wp2;go_ret;exact⟨by simp [b.out],rfl⟩
theorem zbQ (s:Nat) (n:Int)(hs:Sm s) (w:World) :
  Calls Tryz.prog 161 #[s,n] w fun e w'=>e=.returned (.bool (hasB s n))∧w=w':=by
 have a:=zif hs n.toNat;have b:=za a;clear a
 by_cases h0:0<=n
 ·go_enter Tryz.func161,Tryz.ntmps161
  go_wp2;go_ret;exact⟨by simp [b.out,hasB,h0],rfl⟩
 ·go_enter Tryz.func161,Tryz.ntmps161
  go_wp2;go_ret;exact⟨by simp [hasB];omega,rfl⟩
theorem zaf:(Tryz.prog.info? 3).map (fun i=>(i.zero,i.size,i.bytes))=some (some (.int .i64 0),1,8):=kM
def zcl (w:World) (xs:List Nat) (e:Ending) (w':World):Prop:=
 ∃ A c,e=.returned (.slice A xs.length c)∧w'.ownsRow w.heap.size 3 1 (.slice A xs.length c) xs.length (zav xs)∧Ext w w'
theorem yD01a2 {P:Prop}(h:P:=by
 go_roundw
 case rel=>exact⟨k+1,oM,gM,by rw [Hls.out];first|simpa [zav] using zkq|simpa using zkh,aM⟩
 case measure=>simp [intOf];omega
 ):P:=h
theorem zar (a:Nat)(hs:Sm a) (w:World) :
  Calls Tryz.prog 158 #[a] w (zcl w (letters a 6)):=by
 go_enter Tryz.func158,Tryz.ntmps158
 go_wp2
 go_loopw [3,5] (fun v i wr=>∃ k:Nat,k<=6∧i=.int .i64 k∧wr.ownsRow w.heap.size 3 1 v (letters a k).length (zav (letters a k))∧Ext w wr)
  (fun _ i _=>6 - (intOf i).toNat)
 case atStart=>exact⟨0,dI _,rfl,World.ownsRow_nil _ _ _ _,Ext.refl _⟩
 case round =>
  obtain⟨k,g,rfl,zkh,d⟩:=hrel;have h:=zE a k
  by_cases hlt:k<6
  ·cases hb:a.testBit k
   all_goals
    have f:hasB a k=a.testBit k:=by simp [hasB]
    rw [hb] at f;have b:=zby a k;rw [hb] at b;have Hls:=za b;clear b hb;go_wp2_with (first
     |(go_at_call 161;refine (zbQ a k hs _).mono ?_;rintro e w' ⟨rfl,rfl⟩)
     |(at_builtin;refine zX w wr rfl (.tmp 11) (.tmp 13) _ rfl 3 _ 1 8 Tryz.underlying128 zaf rfl dM u3 _ _ _ _ rfl rfl d zkh rfl (zbr _) lM oM ?_;intro v' w1 hext1 zkq hg1 hat1))
    exact yD01a2
  ·obtain rfl:k=6:=oM;obtain⟨A,c,rfl⟩:=zi zkh;go_wp2;go_ret;exact⟨_,_,rfl,zkh,d⟩
def tot (ls:List (List Int)):Nat:=(ls.map List.length).sum
theorem zgt {l:List Int}(h:ls[k]?=some l):tot (ls.take (k+1))=tot (ls.take k)+l.length:=by
 rw [dN,h];simp [tot]
theorem tot_append (a b:List (List Int)):tot (a++b)=tot a+tot b:=by simp [tot]
theorem zir (ls:List (List Int)) (k:Nat):tot (ls.take k)<=tot ls:=by
 have h:=tot_append (ls.take k) (ls.drop k);rw [List.take_append_drop] at h;omega
structure Aut where
 al:Int
 next:List (List Int)
 acc:List Bool
def zH (w:World) (lo hi:Nat) (A:Option Addr) (n:Nat) (A':Option Addr) (n':Nat) (a:Aut):Prop:=
 zbU w lo hi A n a.next∧n'=a.acc.length∧Reads w lo hi 1 A' n' (zag a.acc)
section
variable {w w':World} {lo hi n n':Nat} {A A':Option Addr} {a:Aut}
theorem zH.ext (h:zH w lo hi A n A' n' a)(hb:Ext w w'):zH w' lo hi A n A' n' a:=⟨h.1.ext hb,h.2.1,h.2.2.ext hb⟩
theorem zH.frm (h:zH w lo hi A n A' n' a)(hb:Frm S w w')(hS:∀ k,lo<=k->k<hi->¬ S k):zH w' lo hi A n A' n' a:=⟨h.1.frm hb hS,h.2.1,h.2.2.frm hb hS⟩
theorem zH.more (h:zH w lo hi A n A' n' a)(hL:lo'<=lo)(hH:hi<=hi'):zH w lo' hi' A n A' n' a:=⟨h.1.more hL hH,h.2.1,h.2.2.more hL hH⟩
theorem zH.n1 (h:zH w lo hi A n A' n' a):n=a.next.length:=h.1.1
theorem zH.n2 (h:zH w lo hi A n A' n' a):n'=a.acc.length:=h.2.1
end
def Aut.size (a:Aut):Nat:=a.next.length+tot a.next+a.acc.length
theorem zbh:(Tryz.prog.info? 4).map (fun i=>(i.zero,i.size,i.bytes))=some (some (.bool false),1,1):=kM
theorem zcr:(Tryz.prog.info? 128).map (fun i=>(i.zero,i.size,i.bytes))=some (some (.slice none 0 0),1,24):=kM
def zD (w:World) (base:Nat) (rows:List Value) (ls:List (List Int)):Prop:=
 rows.length=ls.length∧(∀ (i:Nat) (row:Value) (l:List Int),rows[i]?=some row->ls[i]?=some l->w.ownsRow base 3 1 row l.length (ints l)) ∧
  ∀ (i j:Nat) (ri rj:Value) (b:Nat),rows[i]?=some ri->rows[j]?=some rj->i≠j->ri.ownBlock=some b->rj.ownBlock≠some b
theorem zD.nil (w:World) (base:Nat):zD w base [] []:=⟨rfl,fun i row l h=>by simp at h,fun i j ri rj b h=>by simp at h⟩
theorem zD.ext (h:zD w base rows ls)(hb:Ext w w'):zD w' base rows ls:=
 ⟨h.1,fun i row l hr hl=>zh (h.2.1 i row l hr hl) hb,h.2.2⟩
theorem zD.row (h:zD w base rows ls)  {row:Value}(hr:rows[i]?=some row):∃ l,ls[i]?=some l∧w.ownsRow base 3 1 row l.length (ints l):=by
 have b:i<rows.length:=(List.getElem?_eq_some_iff.1 hr).1;have a:ls[i]?=some (ls[i]'(by rw [← h.1];exact b)):=dF _;exact⟨_,a,h.2.1 i row _ hr a⟩
theorem zD.frm (h:zD w base rows ls)(hb:Frm S w w')(hS:∀ (i:Nat) (row:Value) (b:Nat),rows[i]?=some row->row.ownBlock=some b->¬ S b):zD w' base rows ls:=
 ⟨h.1,fun i row l hr hl=>zg (h.2.1 i row l hr hl) hb (fun b hb=>hS i row b hr hb),h.2.2⟩
theorem zD.snoc (h:zD w base rows ls)(hb:Ext w w') {row:Value} {l:List Int}(hbase:base<=w.heap.size)(hrow:w'.ownsRow w.heap.size 3 1 row l.length (ints l)) :
  zD w' base (rows++[row]) (ls++[l]):=by
 have c:=h.1;refine⟨by simp [c],fun i r m hr hm=>?_,fun i j ri rj b hri hrj hij hbi=>?_⟩
 ·rcases fB i rows.length with a|a|a
  ·rw [dP a] at hr;rw [dP oM] at hm;exact zh (h.2.1 i r m hr hm) hb
  ·rw [dV oM,a,gF] at hr;rw [dV oM,a,c,gF] at hm;simp at hr hm;subst hr;subst hm;exact zq hrow hbase
  ·rw [dY (by simp;omega)] at hr;cases hr
 ·have g:∀ (i:Nat) (r:Value) (b:Nat),i<rows.length->rows[i]?=some r->r.ownBlock=some b->b<w.heap.size:=fun i r b a hr hb=>by
   obtain⟨m,_,o⟩:=h.row hr;exact (o.lt b hb).2
  have f:∀ b,row.ownBlock=some b->w.heap.size<=b:=fun b hb=>(hrow.lt b hb).1;have a:i<=rows.length:=by have:=(List.getElem?_eq_some_iff.1 hri).1;simp at this;omega
  have d:j<=rows.length:=by have:=(List.getElem?_eq_some_iff.1 hrj).1;simp at this;omega
  rcases eI a with a|a<;>rcases eI d with d|d
  ·rw [dP a] at hri;rw [dP d] at hrj;exact h.2.2 i j ri rj b hri hrj hij hbi
  ·rw [dP a] at hri;subst d;simp at hrj;subst hrj;intro hc;have k:=g i ri b a hri hbi;have n:=f b hc;omega
  ·rw [dP d] at hrj;subst a;simp at hri;subst hri;intro hc;have k:=g j rj b d hrj hc;have n:=f b hbi;omega
  ·omega
def zfQ (w:World) (base:Nat) (v:Value) (ls:List (List Int)):Prop:=∃ rows,w.ownsRow base 128 1 v ls.length rows∧zD w base rows ls
theorem zfQ.ext (h:zfQ w base v ls)(hb:Ext w w'):zfQ w' base v ls:=by
 obtain⟨a,b,c⟩:=h;exact⟨a,zh b hb,c.ext hb⟩
theorem zD.keep (h:zD w base rows ls)(hb:Frm S w w')(hS:∀ b,base<=b->¬ S b):zD w' base rows ls:=
 ⟨h.1,fun i row l hr hl=>zbI (h.2.1 i row l hr hl) hb hS,h.2.2⟩
theorem zD.less (h:zD w base rows ls)(hb:base'<=base):zD w base' rows ls:=
 ⟨h.1,fun i row l hr hl=>zq (h.2.1 i row l hr hl) hb,h.2.2⟩
theorem zfQ.keep (h:zfQ w base v ls)(hb:Frm S w w')(hS:∀ b,base<=b->¬ S b):zfQ w' base v ls:=by
 obtain⟨a,c,d⟩:=h;exact⟨a,zbI c hb hS,d.keep hb hS⟩
theorem zfQ.less (h:zfQ w base v ls)(hb:base'<=base):zfQ w base' v ls:=by
 obtain⟨a,b,c⟩:=h;exact⟨a,zq b hb,c.less hb⟩
theorem zfQ.reads (h:zfQ w base (.slice A n c) ls)(hn:n=ls.length):zbU w base w.heap.size A n ls:=by
 obtain⟨a,j,b⟩:=h;subst hn;refine⟨rfl,a,Reads.af j,b.1,fun i row l hr hl=>?_⟩;have d:=b.2.1 i row l hr hl;obtain⟨f,g,rfl⟩:=zi d;exact⟨f,g,rfl,Reads.af d⟩
def zab (w:World) (base:Nat) (A:Option Addr) (n c:Nat) (A':Option Addr) (n' c':Nat) (a:Aut):Prop:=
 zfQ w base (.slice A n c) a.next∧n=a.next.length∧w.ownsRow base 4 1 (.slice A' n' c') n' (zag a.acc)∧n'=a.acc.length
theorem zab.ext {a:Aut}(h:zab w base A n c A' n' c' a)(hb:Ext w w'):zab w' base A n c A' n' c' a:=
 ⟨h.1.ext hb,h.2.1,zh h.2.2.1 hb,h.2.2.2⟩
theorem zab.keep {a:Aut}(h:zab w base A n c A' n' c' a)(hb:Frm S w w')(hS:∀ b,base<=b->¬ S b):zab w' base A n c A' n' c' a:=
 ⟨h.1.keep hb hS,h.2.1,zbI h.2.2.1 hb hS,h.2.2.2⟩
theorem zab.less {a:Aut}(h:zab w base A n c A' n' c' a)(hb:base'<=base):zab w base' A n c A' n' c' a:=
 ⟨h.1.less hb,h.2.1,zq h.2.2.1 hb,h.2.2.2⟩
theorem zab.reads {a:Aut}(h:zab w base A n c A' n' c' a):zH w base w.heap.size A n A' n' a:=
 ⟨h.1.reads h.2.1,h.2.2.2,Reads.af h.2.2.1⟩
def RetAut (w:World) (a:Aut) (e:Ending) (w':World):Prop:=
 ∃ A n c A' n' c',e=.returned (.agg #[a.al,.slice A n c,.slice A' n' c'])∧zab w' w.heap.size A n c A' n' c' a∧Ext w w'
def zcF:Op->Bool
 |.move _ | .assign _ | .pick _ _ _ | .binOp _ _ _ _ _ | .unOp _ _ _ | .load _ _ | .fieldAddr _ _ _ | .field _ _ _ | .indexAddr _ _ _ | .index _ _ _ | .extract _ _ | .build _ _ | .slice _ _ _ _ _ | .convert _ _ _=>true
 |.call { callee:=.builtin .len,.. }=>true
 |.call { callee:=.builtin .cap,.. }=>true
 |_=>false
def okOrd (l:List Oper):List Nat->Array Bool->Bool
 |[],listed=>(Region.ready .any l.toArray listed).isEmpty
 |i :: rest,listed =>
  (match l[i]? with
   |some o=>if zcF o.op then Region.free .any l.toArray listed i&&(Region.ready .any l.toArray listed).contains i else Region.ready .any l.toArray listed==[i]
   |none=>false)&&okOrd l rest (listed.setIfInBounds i true)
def zfn (P:Program) (l:List Oper) (Q:Exit->Act->World->Prop) (S:World->Prop):List Nat->Act->World->Prop
 |[],a,w=>Q .normal a w
 |i :: rest,a,w=>match l[i]? with
  |some o=>if zcF o.op then ∃ v,YieldsIf P l.toArray S o v a∧S w∧zfn P l Q S rest (a.put o.dst v) w
   else wpOp P l.toArray Q i (fun a' w'=>S w'∧zfn P l Q S rest a' w') a w
  |none=>False
section
variable {P:Program} {l:List Oper} {Q:Exit->Act->World->Prop} {S:World->Prop}
theorem zie (hs:Region.noSelect l.toArray=true)(hQ:∀ (c:List PanicEntry) (a:Act) (d:Tmp) (v:Value) (w:World),Q (.panic c) (a.put (some d) v) w->Q (.panic c) a w) :
  ∀ (ord:List Nat) (listed:Array Bool) (a:Act) (w:World),okOrd l ord listed=true->zfn P l Q S ord a w->wpAnyH P .any l.toArray Q S ord.length listed a w
 |[],listed,a,w,hok,h=>by
  simp only [okOrd,List.isEmpty_iff] at hok
  exact wpAnyH_done hok h 0
 |i :: rest,listed,a,w,hok,h=>by
  cases ho:l[i]? with
  |none=>simp [okOrd,ho] at hok
  |some o =>
   simp only [okOrd,ho,dJ] at hok
   simp only [zfn,ho] at h
   by_cases hq:zcF o.op=true
   ·rw [if_pos hq] at hok h
    simp only [dJ] at hok
    obtain⟨v,hy,hS,hr⟩:=h
    exact wpAnyH_take (by simpa using ho) hs hok.1.1 hok.1.2 (fun c a w h=>by cases hd:o.dst with|none=>rw [hd] at h;exact h|some d=>rw [hd] at h;exact hQ c a d v w h) hy hS (zie hs hQ rest _ _ _ hok.2 hr)
   ·rw [if_neg hq] at hok h
    refine wpAnyH_all (rs:=[i]) (by simpa using hok.1) sM fun j hj=>?_
    rw [List.mem_singleton.1 hj]
    exact wpOp_mono (fun a' w' h=>⟨h.1,zie hs hQ rest _ _ _ hok.2 h.2⟩) h
theorem zan {a:Act}  (S:World->Prop) (ord:List Nat)(hm:P.follows .mixedOrders=true)(hlen:ord.length=l.length)(hs:Region.noSelect l.toArray=true)(hok:okOrd l ord (Array.replicate l.length false)=true)
  (hQ:∀ (c:List PanicEntry) (a:Act) (d:Tmp) (v:Value) (w:World),Q (.panic c) (a.put (some d) v) w->Q (.panic c) a w) (hS:S w.drew) (h:S w.drew->zfn P l Q S ord a w.drew):(Code.region id l.toArray true).wp P Q a w:=by
 refine wp_region_held (S:=S) hm ?_;have:=zie hs hQ ord _ a w.drew hok (h hS);rw [hlen] at this;simpa using this
theorem zcU {a:Act} (h:Q .normal a w):zfn P l Q S [] a w:=h
theorem seq_read {o:Oper}  {a:Act} (ho:l[i]?=some o)(hq:zcF o.op=true)(hw:Region.wanted o (yielded l.toArray a.tmps)=true)
  (hy:∀ W,S W->(execOp a.eval o).run P W=.ok (.value v) W) (hS:S w) (h:zfn P l Q S rest (a.put o.dst v) w):zfn P l Q S (i :: rest) a w:=by
 simp only [zfn,ho,hq,if_true];exact⟨v,.inl ⟨hw,hy⟩,hS,h⟩
theorem seq_skip {o:Oper} {a:Act} (ho:l[i]?=some o)(hw:Region.wanted o (yielded l.toArray a.tmps)=false)
  (hS:S w) (h:zfn P l Q S rest (a.put o.dst undef) w):zfn P l Q S (i :: rest) a w:=by
 simp only [zfn,ho];split
 ·exact⟨undef,.inr ⟨hw,rfl⟩,hS,h⟩
 ·unfold wpOp;simp only [eM,ho,hw,iN,if_false];exact⟨hS,h⟩
theorem zal {o:Oper} {a:Act} 
  (h:∀ K:Act->World->Prop,Shut (∀ a w,S w->(S w->zfn P l Q S rest a w)->K a w)->o.wp P a w K Q) (ho:l[i]?=some o:=by rfl) (hq:zcF o.op=false:=by rfl) (hw:Region.wanted o (yielded l.toArray a.tmps)=true:=by rfl):zfn P l Q S (i :: rest) a w:=by
 simp only [zfn,ho,hq];unfold wpOp;simp only [eM,ho,hw,if_true];exact .inl (h _ fun a w hS hW=>⟨hS,hW hS⟩)
end
theorem sQ {A B:Prop}(h:B) (k:Bx B->A:=by
 intro h0
 repeat (first|(refine seq_skip rfl rfl aM ?_;simp only [Act.put,List.setIfInBounds_toArray,List.set_cons_zero,List.set_cons_succ])|(refine seq_read (v:=?_) rfl rfl rfl (fun X hX=>?_) aM ?_;rotate_left;(focus (go_simp<;>with_reducible rfl));simp only [Act.put,List.setIfInBounds_toArray,List.set_cons_zero,List.set_cons_succ]))
 exact h0.out):A:=k ⟨h⟩
theorem sR {P:Program} {l:List Oper} {Q:Exit->Act->World->Prop} {id:Nat} {a:Act}  (S:World->Prop) (ord:List Nat)(h:S w.drew->zfn P l Q S ord a w.drew)(hm:P.follows .mixedOrders=true:=by kernel_rfl)(hlen:ord.length=l.length:=by rfl)(hs:Region.noSelect l.toArray=true:=by kernel_rfl)(hok:okOrd l ord (Array.replicate l.length false)=true:=by kernel_rfl)
  (hQ:∀ (c:List PanicEntry) (a:Act) (d:Tmp) (v:Value) (w:World),Q (.panic c) (a.put (some d) v) w->Q (.panic c) a w:=by exact fun _ _ _ _ _ h=>h) (hS:S w.drew:=by first|assumption|exact (Ext.refl _).drew|(refine Ext.drew ?_;assumption)):(Code.region id l.toArray true).wp P Q a w:=
 zan S ord hm hlen hs hok hQ hS h
structure Edg where
 fr:Int
 le:Int
 ta:Int
deriving DecidableEq
structure Sys where
 al:Int
 st:Int
 edges:List Edg
def zw:List Edg->List Value
 |[]=>[]
 |e :: r=>.int .i64 e.fr :: .int .i64 e.le :: .int .i64 e.ta :: zw r
theorem zbl (l:List Edg):(zw l).length=l.length*3:=by
 induction l with
 |nil=>rfl
 |cons e r ih=>simp only [zw,fY,ih];omega
theorem zcS (l m:List Edg):zw (l++m)=zw l++zw m:=by
 induction l with
 |nil=>rfl
 |cons e r ih=>simp [zw,ih]
theorem zdb {l:List Edg}  {e:Edg}(h:l[k]?=some e):(zw l)[k*3]?=some (.int .i64 e.fr)∧(zw l)[k*3+1]?=some (.int .i64 e.le)∧(zw l)[k*3+2]?=some (.int .i64 e.ta):=by
 induction l generalizing k with
 |nil=>simp at h
 |cons a r ih =>
  cases k with
  |zero=>simp at h;subst h;exact⟨rfl,rfl,rfl⟩
  |succ k =>
   have:=ih (k:=k) (by simpa using h);have b:(k+1)*3=k*3+1+1+1:=oM;refine⟨?_,?_,?_⟩<;>rw [b]<;>simp only [zw,List.getElem?_cons_succ]
   ·exact this.1
   ·exact this.2.1
   ·exact this.2.2
theorem zdQ {ad:Addr} (h:w.cell? (ad.add 0)=some v):ad=⟨ad.block,ad.off,none⟩:=by
 rw [addr_zero] at h;obtain⟨b,o,s⟩:=ad;have a:s=none:=World.cell?_spot h;subst a;rfl
theorem Reads.edge {l:List Edg}(h:Reads w lo hi 3 A n (zw l))(hk:k<n) :
  ∃ b o e,A=some ⟨b,o,none⟩∧lo<=b∧b<hi∧Hid (l[k]?=some e)∧w.cell? ⟨b,o+k*3,none⟩=some (.int .i64 e.fr)∧w.cell? ⟨b,o+k*3+1,none⟩=some (.int .i64 e.le)∧w.cell? ⟨b,o+k*3+2,none⟩=some (.int .i64 e.ta):=by
 obtain⟨g,m,q,p,a⟩:=h.at_ hk;have r:l.length=n:=by have:=h.length;rw [zbl] at this;omega
 have hx:l[k]?=some l[k]:=dF oM;have hg:=zdb hx;have c:=a _ _ hg.1;have d:=a _ _ hg.2.1;have f:=a _ _ hg.2.2;have j:=zdb (k:=0) (dF (l:=l) oM);rw [jP] at j;have i:=zdQ (a _ _ j.1);rw [i] at c d f;rw [zZ] at c d f;exact⟨g.block,g.off,l[k],by rw [m,i],q,p,hx,c,by rw [iB];exact d,by rw [iB];exact f⟩
theorem Reads.edge2 {o:Nat} {l:List Edg} {e:Edg}(h:Reads w lo hi 3 (some ⟨b,o,none⟩) n (zw l))(he:l[j]?=some e) :
  w.cell? ⟨b,o+j*3,none⟩=some (.int .i64 e.fr)∧w.cell? ⟨b,o+j*3+1,none⟩=some (.int .i64 e.le)∧w.cell? ⟨b,o+j*3+2,none⟩=some (.int .i64 e.ta):=by
 have m:j<l.length:=(List.getElem?_eq_some_iff.1 he).1;have p:l.length=n:=by have:=h.length;rw [zbl] at this;omega
 obtain⟨i,a,_,_,c⟩:=h.at_ (k:=j) oM;injection a with a
 subst a;have hg:=zdb he;have d:=c _ _ hg.1;have f:=c _ _ hg.2.1;have g:=c _ _ hg.2.2;rw [zZ] at d f g;exact⟨d,by rw [iB];exact f,by rw [iB];exact g⟩
def zP (w:World) (lo hi:Nat) (A:Option Addr) (n:Nat) (s:Sys):Prop:=n=s.edges.length∧Reads w lo hi 3 A n (zw s.edges)
section
variable {w w':World} {lo hi n:Nat} {A:Option Addr} {s:Sys}
theorem zP.ext (h:zP w lo hi A n s)(hb:Ext w w'):zP w' lo hi A n s:=⟨h.1,h.2.ext hb⟩
theorem zP.frm (h:zP w lo hi A n s)(hb:Frm S w w')(hS:∀ k,lo<=k->k<hi->¬ S k):zP w' lo hi A n s:=⟨h.1,h.2.frm hb hS⟩
theorem zP.more (h:zP w lo hi A n s)(hL:lo'<=lo)(hH:hi<=hi'):zP w lo' hi' A n s:=⟨h.1,h.2.more hL hH⟩
end
theorem zbn:(Tryz.prog.info? 152).map (fun i=>(i.zero,i.size,i.bytes))=some (some (.agg #[(0:Int),(0:Int),(0:Int)]),3,24):=kM
def OwnE (w:World) (base:Nat) (A:Option Addr) (n c:Nat) (l:List Edg):Prop:=n=l.length∧w.ownsRow base 152 3 (.slice A n c) n (zw l)
theorem OwnE.ext {l:List Edg}(h:OwnE w base A n c l)(hb:Ext w w'):OwnE w' base A n c l:=⟨h.1,zh h.2 hb⟩
def RetSys (w:World) (s:Sys) (e:Ending) (w':World):Prop:=
 ∃ A n c,e=.returned (.agg #[s.al,s.st,.slice A n c])∧OwnE w' w.heap.size A n c s.edges∧Ext w w'
instance:BEq Edg:=⟨fun a b=>decide (a.fr=b.fr)&&(decide (a.le=b.le)&&decide (a.ta=b.ta))⟩
theorem edg_beq (a b:Edg):(a==b)=(decide (a.fr=b.fr)&&(decide (a.le=b.le)&&decide (a.ta=b.ta))):=rfl
instance:LawfulBEq Edg where
 eq_of_beq {a b} h:=by
  rw [edg_beq] at h;simp only [dJ,decide_eq_true_eq] at h;cases a;cases b;simp_all
 rfl {a}:=by rw [edg_beq];simp
def zgL (w:World) (lo hi:Nat) (A:Option Addr) (n:Nat) (ss:List Sys):Prop:=
 n=ss.length∧∃ cells,Reads w lo hi 3 A n cells∧∀ (k:Nat) (s:Sys),ss[k]?=some s->∃ (B:Option Addr) (m c:Nat),cells[k*3]?=some (.int .i64 s.al)∧cells[k*3+1]?=some (.int .i64 s.st)∧cells[k*3+2]?=some (.slice B m c)∧zP w lo hi B m s
section
variable {w w':World} {lo hi n k:Nat} {A:Option Addr} {ss:List Sys}
theorem zgL.ext (h:zgL w lo hi A n ss)(hb:Ext w w'):zgL w' lo hi A n ss:=by
 obtain⟨e,a,i,hx⟩:=h;refine⟨e,a,i.ext hb,fun k s hs=>?_⟩;obtain⟨B,m,c,b,d,f,g⟩:=hx k s hs;exact⟨B,m,c,b,d,f,g.ext hb⟩
theorem zgL.len (h:zgL w lo hi A n ss):n<=9223372036854775807:=by
 obtain⟨_,a,b,_⟩:=h;exact b.len
theorem zje (h:Reads w lo hi 3 A n xs)(hn:0<n)(hu:xs[0]?=some u):∃ b o,A=some ⟨b,o,none⟩∧lo<=b∧b<hi∧∀ j v,xs[j]?=some v->w.cell? ⟨b,o+j,none⟩=some v:=by
 obtain⟨a,e,g,f,c⟩:=h.at_ hn;have d:=zdQ (c 0 u hu);refine⟨a.block,a.off,by rw [e,d],g,f,fun j v hv=>?_⟩;have:=c j v hv;rw [d,zZ] at this;exact this
theorem zgL.sys (h:zgL w lo hi A n ss)(hk:k<n):∃ b o s B m c,A=some ⟨b,o,none⟩∧lo<=b∧b<hi∧Hid (ss[k]?=some s)∧w.cell? ⟨b,o+k*3,none⟩=some (.int .i64 s.al)∧w.cell? ⟨b,o+k*3+1,none⟩=some (.int .i64 s.st)∧w.cell? ⟨b,o+k*3+2,none⟩=some (.slice B m c)∧zP w lo hi B m s:=by
 obtain⟨e,a,t,hx⟩:=h;have d:ss[0]?=some (ss[0]' oM):=dF _;obtain⟨_,_,_,i,_⟩:=hx 0 _ d;rw [jP] at i;obtain⟨b,o,rfl,r,q,f⟩:=zje t oM i;have g:ss[k]?=some (ss[k]' oM):=dF _;obtain⟨B,m,c,d,j,l,p⟩:=hx k _ g;exact⟨b,o,_,B,m,c,rfl,r,q,g,f _ _ d,by rw [iB];exact f _ _ j,by rw [iB];exact f _ _ l,p⟩
end
section
open Go.ChangeShapes Go.WideShapes Go.ChangeAt Go.Deep
theorem own_:ownKnob Tryz.prog.godebug=none:=kM
theorem laidOut_:laidOutB Tryz.prog=true:=kM
theorem and_t {a b:Bool}(h:a=true) (k:b=true):(a&&b)=true:=by rw [h,k];rfl
end
def Tab (w:World):Prop:=∀ j,j<64->w.cell? ⟨1,j,none⟩=some (.int .u8 (Lib.deBruijn64tab.getD j 0))
theorem Tab.ext (h:Tab w)(hb:Ext w w'):Tab w':=fun j hj=>hb.aa (h j hj)
theorem tz64_core (x k idx:Nat) (w:World)(hx0:((x:Int)==0)=false)
  (key:IntKind.u64.wrap (bits BinOp.and IntKind.u64 (x:Int) (IntKind.u64.wrap (-(x:Int)))*285870213051353865) / 288230376151711744=(idx:Int))
  (hi:idx<64) (hk:k<64) (hcell:w.cell? ⟨1,idx,none⟩=some (.int .u8 k)) :
  Calls Tryz.prog 285 #[.int .u64 x] w fun e w'=>e=.returned (.int .i64 k)∧w=w':=by
 go_enter Tryz.func285,Tryz.ntmps285
 go_wp2_with (simp only [key])
 go_ret;exact⟨rfl,rfl⟩
theorem tz64 (x:Nat)(hx:x<18446744073709551616)(hx0:x≠0) (w:World)(hT:Tab w) :
  Calls Tryz.prog 285 #[.int .u64 x] w fun e w'=>e=.returned (.int .i64 (Lib.ctz 64 x))∧w=w':=by
 obtain⟨b,f⟩:=Lib.lowest_bit 64 x hx0 hx;obtain⟨d,c⟩:=Lib.deBruijn64_at _ f;have a:=hT _ d;rw [c] at a;exact tz64_core x _ _ w (by simp;omega) (tz64_key x _ hx hx0 b) d f a
theorem tz (x:Nat)(hx:x<18446744073709551616)(hx0:x≠0) (w:World)(hT:Tab w) :
  Calls Tryz.prog 276 #[.int .u64 x] w fun e w'=>e=.returned (.int .i64 (Lib.ctz 64 x))∧w=w':=by
 go_enter Tryz.func276,Tryz.ntmps276
 go_wp2_with (go_at_call 285;refine (tz64 x hx hx0 w hT).mono ?_;rintro e w' ⟨rfl,rfl⟩)
 go_ret;exact⟨rfl,rfl⟩
theorem tab_head {rest : List (String × DataW Unit)} (h : laidMet Tryz.prog (("math/bits.deBruijn64tab", Rows.laid_math_bits_deBruijn64tab) :: rest) W) : Tab W := by
 have a : Lib.TabIs Tryz.prog W "math/bits.deBruijn64tab" .u8 (Lib.deBruijn64tab.map fun n : Nat => (n : Int)) :=
  Lib.tabIs_of_head (g:=1) (t:=295) (e:=5) kM kM Tryz.underlying295 Tryz.underlying5 kM kM h
 intro j hj;have:=a.cell (g:=1) kM j (by rw [List.length_map];exact hj);rw [this,List.getD_eq_getElem?_getD,List.getElem?_map,List.getD_eq_getElem?_getD];have b:Lib.deBruijn64tab.length=64:=rfl;rw [List.getElem?_eq_getElem oM];rfl
theorem tab_two {rest : List (String × DataW Unit)} (h : laidMet Tryz.prog (("math/bits.deBruijn32tab", Rows.laid_math_bits_deBruijn32tab) :: ("math/bits.deBruijn64tab", Rows.laid_math_bits_deBruijn64tab) :: rest) W) : Tab W := tab_head (laidMet.tail h)
abbrev zcd:=Nat->World->(Nat->Prop)->Prop
structure zcd.Ok (b0:Nat) (J:zcd):Prop where
 lt:∀ {B:Nat} {W:World} {S:Nat->Prop},J B W S->∀ k,S k->k<W.heap.size
 low:∀ {B:Nat} {W:World} {S:Nat->Prop},J B W S->∀ k,S k->b0<=k
 keep:∀ {B:Nat} {W W':World} {S T:Nat->Prop},J B W S->Frm T W W'->(∀ k,k<W.heap.size->T k->b0<=k∧¬ S k)->J B W' S
 more:∀ {B C:Nat} {W:World} {S:Nat->Prop},J B W S->B<=C->J C W S
structure Kp (J:zcd) (B:Nat) (S:Nat->Prop) (W W':World) (S':Nat->Prop):Prop where
 j:J B W' S'
 frm:Frm S W W'
 new:∀ k,S' k->S k∨W.heap.size<=k
section
variable {b0:Nat} {J:zcd} {A B C:Nat} {S S1 S2:Nat->Prop} {W W1 W2:World}
theorem Kp.refl (h:J B W S):Kp J B S W W S:=⟨h,Frm.refl _ _,fun _ h=>.inl h⟩
theorem Kp.size (h:Kp J B S W W1 S1):W.heap.size<=W1.heap.size:=h.frm.size
theorem Kp.out (h:Kp J B S W W1 S1) (hk:k<W.heap.size)(hS:¬ S k):¬ S1 k:=fun h1=>by
 rcases h.new k h1 with h2|h2
 ·exact hS h2
 ·omega
theorem Kp.trans {J2:zcd}(h:Kp J B S W W1 S1) (k:Kp J2 C S1 W1 W2 S2):Kp J2 C S W W2 S2:=by
 refine⟨k.j,⟨k.frm.os.trans h.frm.os,k.frm.tape.trans h.frm.tape,k.frm.output.trans h.frm.output,dO h.frm.size k.frm.size,fun i hi hn=>?_⟩,fun i hi=>?_⟩
 ·exact (k.frm.block i (eB hi h.frm.size) (h.out hi hn)).trans (h.frm.block i hi hn)
 ·rcases k.new i hi with a|a
  ·exact h.new i a
  ·exact .inr (dO h.frm.size a)
theorem Kp.more (hJ:zcd.Ok b0 J)(h:Kp J B S W W1 S1)(hB:B<=C):Kp J C S W W1 S1:=⟨hJ.more h.j hB,h.frm,h.new⟩
theorem Kp.ext (hJ:zcd.Ok b0 J)(h:Kp J B S W W1 S1)(hx:Ext W1 W2):Kp J B S W W2 S1:=⟨hJ.keep h.j hx (fun _ _ h=>h.elim),h.frm.ext hx,h.new⟩
theorem Kp.own (hJ:zcd.Ok b0 J) (h:Kp J B S W W1 S1)(hf:Frm T W1 W2)(hT:∀ k,k<W1.heap.size->T k->W.heap.size<=k∧b0<=k∧¬ S1 k):Kp J B S W W2 S1:=
 ⟨hJ.keep h.j hf (fun k hk ht=>(hT k hk ht).2),⟨hf.os.trans h.frm.os,hf.tape.trans h.frm.tape,hf.output.trans h.frm.output,dO h.frm.size hf.size,fun i hi hn =>
  (hf.block i (eB hi h.frm.size) (fun ht=>by have:=(hT i (eB hi h.frm.size) ht).1;omega)).trans (h.frm.block i hi hn)⟩,h.new⟩
theorem Kp.cell (hJ:zcd.Ok b0 J)(h:Kp J B S W W1 S1) (hg:W.heap.size<=g)(hb:b0<=g)(hS:¬ S1 g) (j:Nat) (u:Value):Kp J B S W (W1.setCell ⟨g,j,none⟩ u) S1:=
 h.own hJ (Frm.setCell W1 g j u) (fun k _ e=>by subst e;exact⟨hg,hb,hS⟩)
theorem Kp.grown (hJ:zcd.Ok b0 J)(h:Kp J B S W W1 S1) {row:Option Nat}(hg:W1.grownBy W2 row)(hr:∀ k,row=some k->W.heap.size<=k∧b0<=k∧¬ S1 k):Kp J B S W W2 S1:=
 h.own hJ (T:=fun k=>row=some k) (Frm.ae hg) (fun k _ e=>hr k e)
theorem Kp.toExt (h:Kp J B S W W1 S1) (hx:Ext w W)(hS:∀ k,S k->w.heap.size<=k):Ext w W1:=hx.frm h.frm (fun k hk hs=>by have:=hS k hs;omega)
theorem Kp.blk (h:Kp J B S W W1 S1)   (hb:Blk W g t cs)(hS:¬ S g):Blk W1 g t cs∧¬ S1 g:=⟨hb.frm h.frm hS,h.out hb.lt hS⟩
theorem Kp.row (h:Kp J B S W W1 S1) {size:Nat}   (ho:W.ownsRow base e size v n xs)(hS:∀ b,v.ownBlock=some b->¬ S b):W1.ownsRow base e size v n xs∧∀ b,v.ownBlock=some b->¬ S1 b:=
 ⟨zg ho h.frm hS,fun b hb=>h.out (ho.lt b hb).2 (hS b hb)⟩
theorem zcd.fresh (hJ:zcd.Ok b0 J)(h:J B W S) (hk:W.heap.size<=k):¬ S k:=fun hs=>by have:=hJ.lt h k hs;omega
end
section
open Go.Maps
structure KeyG {α:Type} (mt kt:TypeId) (val:α->Value) (lit:α->Lit) (dom:α->Prop):Prop where
 keyed:Keyed Tryz.prog kt
 und:Tryz.prog.underlying mt=some (.map kt 3)
 key:∀ {x:α},dom x->keyOf Tryz.prog kt (val x)=some (lit x)
 inj:∀ {x y:α},dom x->dom y->lit x=lit y->x=y
theorem zeroG (w:World):(zeroValue 3).run Tryz.prog w=.ok (.int .i64 0) w:=kM
theorem wfG (h:x<1152921504606846976):(Lit.int .i64 (x:Int)).wf=true:=WalkArith.wf_i64 oM
section
variable {α:Type} {mt kt:TypeId} {val:α->Value} {lit:α->Lit} {dom:α->Prop}
def zey (kt:TypeId) (lit:α->Lit) (dom:α->Prop) (w:World) (b n:Nat) (M:α->Option Nat):Prop:=
 ∃ D:DataW Unit,w.ownsMap Tryz.prog kt (plainElem Tryz.prog 3) b n D∧∀ x,dom x->Maps.has D (lit x)=(M x).isSome∧∀ v,M x=some v->D.atKey (lit x) (.lit (.int .i64 0))=.lit (.int .i64 (v:Int))
open Classical in
noncomputable def updG (M:α->Option Nat) (x:α) (v:Nat):α->Option Nat:=fun y=>if y=x then some v else M y
theorem updG_same (M:α->Option Nat) (x:α) (v:Nat):updG M x v x=some v:=by unfold updG;rw [if_pos rfl]
theorem updG_ne (M:α->Option Nat) {x y:α} (v:Nat)(h:y≠x):updG M x v y=M y:=by unfold updG;rw [if_neg h]
theorem zey.made (w:World):zey kt lit dom (w.alloc (.map #[] 0)) w.heap.size 0 (fun _=>none):=
 ⟨.map [],World.ownsMap_made _ _ _ _,fun x hx=>⟨rfl,fun v hv=>by cases hv⟩⟩
section
variable {w w':World} {b n:Nat} {M:α->Option Nat}
theorem zey.lt (h:zey kt lit dom w b n M):b<w.heap.size:=by
 obtain⟨D,h,_⟩:=h;exact h.lt
theorem zey.frm (h:zey kt lit dom w b n M)(hf:Frm S w w')(hS:¬ S b):zey kt lit dom w' b n M:=by
 obtain⟨D,⟨d,a,c,r⟩,hx⟩:=h;exact⟨D,⟨d,a,(hf.block b (Array.getElem?_eq_some_iff.1 c).1 hS).trans c,r⟩,hx⟩
theorem zey.ext (h:zey kt lit dom w b n M)(hx:Ext w w'):zey kt lit dom w' b n M:=h.frm hx id
theorem zey.far (h:zey kt lit dom w b n M)   (hg:Blk w g t cs):g≠b:=by
 rintro rfl;obtain⟨D,⟨d,c,a,_⟩,_⟩:=h;unfold Blk at hg;rw [hg] at a;injection a with a
 cases a
theorem zey.ao (h:zey kt lit dom w b n M)   {size:Nat}  (ho:w.ownsRow base e size v k xs):v.ownBlock≠some b:=by
 intro hv;obtain⟨D,⟨j,c,a,_⟩,_⟩:=h;rcases ho.2 with ⟨rfl,_⟩|⟨g,d,f,rfl,_,i,_⟩
 ·simp [Value.ownBlock] at hv
 ·have hg:g=b:=by simpa [Value.ownBlock] using hv
  subst hg;rw [i] at a;injection a with a
  cases a
end
variable (w:World) {ops:Array Oper} {rest:List Oper} {o:Oper} {a:Act} {Q:Exit->Act->World->Prop}
theorem ziN (K:KeyG mt kt val lit dom)(hg:o.guard=none) (m x v:Operand)(hop:o.op=Op.mapUpdate mt m x v∨o.op=Op.insert mt m x v)  {M:α->Option Nat}
  (hm:a.eval m=.map (some b)) (h:zey kt lit dom w b n M) (hn:n<1152921504606846976) (key:α) (v9:Nat) (hx:a.eval x=val key) (hv:a.eval v=.int .i64 (v9:Int)) (hk:dom key) (hv9:v9<1152921504606846976)
  (hK:∀ w',zey kt lit dom w' b (n+1) (updG M key v9)->w.grownBy w' (some b)->wpList Tryz.prog ops Q rest (a.put o.dst undef) w'):wpList Tryz.prog ops Q (o :: rest) a w:=by
 refine wpList_plain hg fun K' hK'=>?_;obtain⟨D,zkh,i⟩:=h;have c:=K.key hk;obtain⟨w',g,j,k⟩:=zkh.update K.keyed K.und lM c (plainElem_int (H:=Unit) Tryz.underlying3 (wfG hv9));have d:zey kt lit dom w' b (n+1) (updG M key v9):=⟨_,j,fun y hy=>by
  unfold updG
  by_cases e:y=key
  ·subst e;rw [if_pos rfl];exact⟨has_put_same zkh.isMap (K.keyed.key c) _,fun u hu=>by rw [atKey_put_same zkh.isMap (K.keyed.key c)];cases hu;rfl⟩
  ·have f:lit y≠lit key:=fun h=>e (K.inj hy hk h);rw [if_neg e,has_put_other f,atKey_put_other f];exact i y hy⟩
 unfold Oper.wp;rcases hop with hop|hop
 all_goals
  simp [execOp,hop,hm,hx,hv,g,Result.andThen];exact hK' _ _ (hK w' d k)
theorem zdf (K:KeyG mt kt val lit dom)(hg:o.guard=none) (m x:Operand)(hop:o.op=Op.lookup mt m x true)  {M:α->Option Nat}
  (hm:a.eval m=.map (some b)) (h:zey kt lit dom w b n M) (key:α) (hx:a.eval x=val key) (hk:dom key)
  (hK:∀ c:Int,(∀ v,M key=some v->c=(v:Int))->wpList Tryz.prog ops Q rest (a.put o.dst (.tuple #[c,.bool (M key).isSome])) w):wpList Tryz.prog ops Q (o :: rest) a w:=by
 obtain⟨D,zkh,d⟩:=h;refine wpList_lookup_own_ok_int w hg m x _ hop kt 3 .i64 K.keyed K.und Tryz.underlying3 (zeroG w) b n D hm zkh _ _ hx (K.key hk) ?_;intro c hat _;rw [(d key hk).1];exact hK c (fun v hv=>by
  have:=(d key hk).2 v hv;rw [this] at hat;injection hat with hat
  injection hat with _ hat
  exact hat.symm)
end
end
def zcY (w:List Nat):Nat:=w.foldl (fun v l=>v*7+(l+1)) 0
theorem zaR (w:List Nat) (l:Nat):zcY (w++[l])=zcY w*7+(l+1):=by simp [zcY]
theorem zgw:zcY []=0:=rfl
theorem zae {α:Type} (w:List α):w=[]∨∃ u l,w=u++[l]:=by
 rcases List.eq_nil_or_concat w with h|⟨u,l,h⟩
 ·exact Or.inl h
 ·exact Or.inr ⟨u,l,by simpa using h⟩
theorem wval_inj:∀ (n:Nat) (u v:List Nat),u.length<=n->(∀ l∈u,l<6)->(∀ l∈v,l<6)->zcY u=zcY v->u=v:=by
 intro n
 induction n with
 |zero =>
  intro u v hu _ _ h;obtain rfl:u=[]:=dQ oM;rcases zae v with rfl|⟨v,m,rfl⟩
  ·rfl
  ·rw [zaR,zgw] at h;omega
 |succ n ih =>
  intro u v hu h1 h2 h;rcases zae u with rfl|⟨u,l,rfl⟩
  ·rcases zae v with rfl|⟨v,m,rfl⟩
   ·rfl
   ·rw [zaR,zgw] at h;omega
  ·rcases zae v with rfl|⟨v,m,rfl⟩
   ·rw [zaR,zgw] at h;omega
   ·have c:=h1 l sM;have d:=h2 m sM;rw [zaR,zaR] at h;have a:l=m:=oM;have b:zcY u=zcY v:=oM;simp only [dS,eC] at hu;rw [a,ih u v oM (fun x hx=>h1 x (by simp [hx])) (fun x hx=>h2 x (by simp [hx])) b]
inductive zbE (d:Nat->Nat->List Nat) (start:List Nat):List Nat->Nat->Prop where
 |nil {x:Nat} (h:x∈start):zbE d start [] x
 |snoc {w:List Nat} {l n x:Nat} (h:zbE d start w n) (hx:x∈d n l):zbE d start (w++[l]) x
theorem zbE.inv {d:Nat->Nat->List Nat} {w:List Nat} (h:zbE d start (w++[l]) x):∃ n,zbE d start w n∧x∈d n l:=by
 generalize hv:w++[l]=v at h;cases h with
 |nil _=>simp at hv
 |@snoc w' l' n _ h hx =>
  have:=List.append_inj' hv rfl;obtain⟨rfl,a⟩:=this;simp at a;subst a;exact⟨n,h,hx⟩
theorem zbE.ah {d:Nat->Nat->List Nat}  (h:zbE d start [] x):x∈start:=by
 generalize hv:([]:List Nat)=v at h;cases h with
 |nil h=>exact h
 |snoc _ _=>simp at hv
def visN (st:List Bool × List Nat) (n:Nat):List Bool × List Nat:=if st.1.getD n true then st else (st.1.set n true,st.2++[n])
def vis (S:List Bool) (ns:List Nat):List Bool × List Nat:=ns.foldl visN (S,[])
theorem vis_snoc (S:List Bool) (ns:List Nat) (n:Nat):vis S (ns++[n])=visN (vis S ns) n:=by simp [vis]
theorem zhG (S:List Bool) (ns:List Nat)(hn:∀ n∈ns,n<S.length) :
  (vis S ns).1.length=S.length∧(∀ x,x<S.length->((vis S ns).1.getD x true=true↔S.getD x true=true∨x∈ns))∧(∀ x,x∈(vis S ns).2↔x∈ns∧S.getD x true=false):=by
 have j:∀ k,k<=ns.length->(vis S (ns.take k)).1.length=S.length∧(∀ x,x<S.length->((vis S (ns.take k)).1.getD x true=true↔S.getD x true=true∨x∈ns.take k))∧(∀ x,x∈(vis S (ns.take k)).2↔x∈ns.take k∧S.getD x true=false):=by
  intro k
  induction k with
  |zero=>intro _;exact⟨rfl,fun x _=>by simp [vis],fun x=>by simp [vis]⟩
  |succ k ih =>
   intro hk;obtain⟨g,d,f⟩:=ih oM;have hx:ns[k]?=some ns[k]:=dF oM;have c:=hn ns[k] (gI _);rw [dN,hx];simp only [eG];generalize ns[k]=n at *;rw [vis_snoc];generalize vis S (ns.take k)=m at *;obtain⟨T,o⟩:=m;simp only at g d f;unfold visN;simp only;cases hT:T.getD n true
   ·have a:=d n c;rw [hT] at a;have i:S.getD n true=false:=by cases h:S.getD n true<;>simp_all
    have l:n∉ns.take k:=fun h=>by simp [h] at a
    refine⟨by simp [g],fun x hx=>?_,fun x=>?_⟩
    ·simp only [iN,if_false,dK,gW,eT]
     by_cases e:x=n
     ·subst e;rw [List.getElem?_set_self oM];simp
     ·rw [List.getElem?_set_ne oM];have:=d x hx;rw [dK,dK] at this;simp only [e,or_false];exact this
    ·simp only [iN,if_false,gW,eT];constructor
     ·rintro (h|rfl)
      ·exact⟨Or.inl ((f x).1 h).1,((f x).1 h).2⟩
      ·exact⟨Or.inr rfl,i⟩
     ·rintro ⟨h|rfl,b⟩
      ·exact Or.inl ((f x).2 ⟨h,b⟩)
      ·exact Or.inr rfl
   ·refine⟨g,fun x hx=>?_,fun x=>?_⟩
    ·simp only [if_true,gW,eT];rw [d x hx];have a:=(d n c).1 hT;constructor
     ·rintro (h|h)
      ·exact Or.inl h
      ·exact Or.inr (Or.inl h)
     ·rintro (h|h|rfl)
      ·exact Or.inl h
      ·exact Or.inr h
      ·exact a
    ·simp only [if_true,gW,eT];rw [f x];have a:=(d n c).1 hT;constructor
     ·rintro ⟨h,b⟩;exact⟨Or.inl h,b⟩
     ·rintro ⟨h|rfl,b⟩
      ·exact⟨h,b⟩
      ·rcases a with h|h
       ·rw [h] at b;cases b
       ·exact⟨h,b⟩
 have:=j ns.length (dG _);rwa [eN] at this
structure Stp where
 parent:Int
 letter:Nat
 nodes:List Nat
structure Bfs (d:Nat->Nat->List Nat) (start:List Nat) (goal:Nat->Bool) (L:List Nat) (N:Nat) (S:List Bool) (st:List Stp) (ws:List (List Nat)) (i j:Nat):Prop where
 len:S.length=N
 wl:ws.length=st.length
 small:∀ (k:Nat) (p:Stp),st[k]?=some p->∀ x∈p.nodes,x<N
 some_:∀ (k:Nat) (p:Stp),st[k]?=some p->p.nodes≠[]
 word:∀ (k:Nat) (p:Stp),st[k]?=some p->(k=0∧p.parent = -1∧ws.getD k []=[])∨(∃ a b:Nat,p.parent=(a:Int)∧a<k∧(a<i∨a=i∧b<j)∧L[b]?=some p.letter∧ws.getD k []=ws.getD a []++[p.letter])
 goes:∀ (k:Nat) (p:Stp),st[k]?=some p->∀ x∈p.nodes,zbE d start (ws.getD k []) x
 incr:∀ a b:Nat,a<b->b<st.length->zcY (ws.getD a [])<zcY (ws.getD b [])
 seen:∀ x,x<N->(S.getD x true=true↔∃ (k:Nat) (p:Stp),st[k]?=some p∧x∈p.nodes)
 first:∀ x∈start,∃ (p:Stp),st[0]?=some p∧x∈p.nodes
 zero:∀ p,st[0]?=some p->ws.getD 0 []=[]
 proc:∀ (k:Nat) (p:Stp) (b l:Nat),st[k]?=some p->L[b]?=some l->(k<i∨k=i∧b<j)->∀ n∈p.nodes,∀ x∈d n l,∃ (k':Nat) (q:Stp),st[k']?=some q∧x∈q.nodes∧zcY (ws.getD k' [])<=zcY (ws.getD k []++[l])
 dull:∀ (k:Nat) (p:Stp),st[k]?=some p->∀ x∈p.nodes,goal x=false
section
variable {d:Nat->Nat->List Nat} {start:List Nat} {goal:Nat->Bool} {L:List Nat} {N:Nat} {S:List Bool} {st:List Stp} {ws:List (List Nat)} {i j:Nat}
def Rise (L:List Nat):Prop:=(∀ l∈L,l<6)∧∀ (a b x y:Nat),L[a]?=some x->L[b]?=some y->a<b->x<y
theorem Bfs.before (h:Bfs d start goal L N S st ws i j) {V:Nat}(hV:∀ (k:Nat) (p:Stp) (b l:Nat),st[k]?=some p->L[b]?=some l->zcY (ws.getD k []++[l])<V->(k<i∨k=i∧b<j)) :
  ∀ (m:Nat) (v:List Nat),v.length<=m->(∀ l∈v,l∈L)->zcY v<V->∀ x,zbE d start v x->∃ (k:Nat) (p:Stp),st[k]?=some p∧x∈p.nodes∧zcY (ws.getD k [])<=zcY v:=by
 intro m
 induction m with
 |zero =>
  intro v hv _ _ x hx;obtain rfl:v=[]:=dQ oM;obtain⟨p,a,c⟩:=h.first x hx.ah
  exact⟨0,p,a,c,by rw [h.zero p a];exact dG _⟩
 |succ m ih =>
  intro v hv hl hlt x hx;rcases zae v with rfl|⟨u,l,rfl⟩
  ·obtain⟨p,a,c⟩:=h.first x hx.ah
   exact⟨0,p,a,c,by rw [h.zero p a];exact dG _⟩
  ·obtain⟨n,z,s⟩:=hx.inv;simp only [dS,eC] at hv;have o:=hl l sM;obtain⟨b,y⟩:=eD o;rw [zaR] at hlt;obtain⟨k,p,a,r,D⟩:=ih u oM (fun x hx=>hl x (by simp [hx])) oM n z;have f:zcY (ws.getD k []++[l])<V:=by rw [zaR];omega
   obtain⟨C,q,B,t,g⟩:=h.proc k p b l a y (hV k p b l a y f) n r x s;exact⟨C,q,B,t,by rw [zaR] at g ⊢;omega⟩
theorem Bfs.none (h:Bfs d start goal L N S st ws i j)(hend:st.length<=i) {v:List Nat}(hv:∀ l∈v,l∈L) (hx:zbE d start v x):goal x=false:=by
 by_cases hst:st=[]
 ·subst hst;exfalso;have:∀ (m:Nat) (v:List Nat),v.length<=m->∀ x,¬ zbE d start v x:=by
   intro m
   induction m with
   |zero =>
    intro v hv x hx;obtain rfl:v=[]:=dQ oM;obtain⟨p,a,_⟩:=h.first x hx.ah
    simp at a
   |succ m ih =>
    intro v hv x hx;rcases zae v with rfl|⟨u,l,rfl⟩
    ·obtain⟨p,a,_⟩:=h.first x hx.ah
     simp at a
    ·obtain⟨n,f,_⟩:=hx.inv;exact ih u (by simp at hv;omega) n f
  exact this v.length v (dG _) x hx
 ·obtain⟨k,p,a,c,_⟩:=h.before (V:=zcY v+1) (fun k p b l a hb _=>Or.inl (by have:=(List.getElem?_eq_some_iff.1 a).1;omega)) v.length v (dG _) hv oM x hx;exact h.dull k p a x c
theorem Bfs.ahead (h:Bfs d start goal L N S st ws i j)(hL:Rise L) (hi:i<st.length)(hl:L[j]?=some l) (hk:k<st.length):zcY (ws.getD k [])<zcY (ws.getD i []++[l]):=by
 rw [zaR];rcases h.word k _ (dF hk) with ⟨_,_,e⟩|⟨a,b,_,n,c,f,e⟩
 ·rw [e,zgw];omega
 ·rw [e,zaR];have o:=hL.1 _ (dE f);rcases c with g|⟨rfl,m⟩
  ·have:=h.incr a i g hi;omega
  ·have:=hL.2 b j _ _ f hl m;omega
theorem Bfs.taken (h:Bfs d start goal L N S st ws i j)(hL:Rise L) (hi:i<st.length)(hl:L[j]?=some l) (k:Nat) (p:Stp) (b m:Nat)(hp:st[k]?=some p)(hb:L[b]?=some m)(hlt:zcY (ws.getD k []++[m])<zcY (ws.getD i []++[l])):k<i∨k=i∧b<j:=by
 rw [zaR,zaR] at hlt;have f:=(List.getElem?_eq_some_iff.1 hp).1;have g:=hL.1 _ (dE hb);have n:=hL.1 _ (dE hl);rcases fB k i with a|a|a
 ·exact Or.inl a
 ·subst a;refine Or.inr ⟨rfl,?_⟩;rcases fB b j with c|c|c
  ·exact c
  ·subst c;rw [hb] at hl;have:=Option.some.inj hl;omega
  ·have:=hL.2 j b _ _ hl hb c;omega
 ·have:=h.incr i k a f;omega
theorem Bfs.found (h:Bfs d start goal L N S st ws i j)(hL:Rise L) (hi:i<st.length)(hl:L[j]?=some l) {v:List Nat}(hv:∀ x∈v,x∈L)(hlt:zcY v<zcY (ws.getD i []++[l])) (hx:zbE d start v x):goal x=false:=by
 obtain⟨k,p,a,c,_⟩:=h.before (fun k p b m a hb hlt=>h.taken hL hi hl k p b m a hb hlt) v.length v (dG _) hv hlt x hx;exact h.dull k p a x c
theorem Bfs.row (h:Bfs d start goal L N S st ws i j)(hj:L.length<=j):Bfs d start goal L N S st ws (i+1) 0:=
 { h with
  word:=fun k p hp=>by
   rcases h.word k p hp with h1|⟨a,b,h1,h2,h3,h4⟩
   ·exact Or.inl h1
   ·exact Or.inr ⟨a,b,h1,h2,oM,h4⟩
  proc:=fun k p b l hp hb hk=>by
   have hbl:=(List.getElem?_eq_some_iff.1 hb).1
   exact h.proc k p b l hp hb oM }
def addS (st:List Stp) (a:Int) (l:Nat) (fr:List Nat):List Stp:=if fr=[] then st else st++[⟨a,l,fr⟩]
def addW (ws:List (List Nat)) (w:List Nat) (fr:List Nat):List (List Nat):=if fr=[] then ws else ws++[w]
theorem zfX {ws:List (List Nat)}  (w:List Nat)(hk:k<ws.length):(ws++[w]).getD k []=ws.getD k []:=by
 rw [dK,dK,dP hk]
theorem zhN {ws:List (List Nat)} (w:List Nat):(ws++[w]).getD ws.length []=w:=by
 rw [dK,dV (dG _),gF];rfl
theorem Bfs.step (h:Bfs d start goal L N S st ws i j)(hL:Rise L)  {pi:Stp}(hi:st[i]?=some pi)(hl:L[j]?=some l) {rs:List Nat}(hrs:∀ x,x∈rs↔∃ n∈pi.nodes,x∈d n l)(hN:∀ x∈rs,x<N)(hg:∀ x∈(vis S rs).2,goal x=false) :
  Bfs d start goal L N (vis S rs).1 (addS st i l (vis S rs).2) (addW ws (ws.getD i []++[l]) (vis S rs).2) i (j+1):=by
 have M:=(List.getElem?_eq_some_iff.1 hi).1;obtain⟨Y,Z,Q⟩:=zhG S rs (fun n E=>by rw [h.len];exact hN n E);generalize (vis S rs).1=T at *;generalize (vis S rs).2=J at *;have s:=fun k v=>h.ahead hL M hl (k:=k) v
 by_cases hfr:J=[]
 ·subst hfr;rw [addS,if_pos rfl,addW,if_pos rfl];have I:∀ x∈rs,S.getD x true=true:=fun x hx=>by
   cases hS:S.getD x true
   ·have:=(Q x).2 ⟨hx,hS⟩;cases this
   ·rfl
  refine { h with len:=Y.trans h.len,word:=?_,seen:=?_,proc:=?_ }
  ·intro k p c;rcases h.word k p c with f|⟨a,b,f,h2,h3,h4⟩
   ·exact Or.inl f
   ·exact Or.inr ⟨a,b,f,h2,oM,h4⟩
  ·intro x hx;rw [Z x (by rw [h.len];exact hx)];constructor
   ·rintro (f|f)
    ·exact (h.seen x hx).1 f
    ·exact (h.seen x hx).1 (I x f)
   ·intro f;exact Or.inl ((h.seen x hx).2 f)
  ·intro k p b m c hb v n E x hx
   by_cases hkj:k=i∧b=j
   ·obtain⟨rfl,rfl⟩:=hkj;rw [hi] at c;obtain rfl:=Option.some.inj c;rw [hl] at hb;obtain rfl:=Option.some.inj hb;have z:=(hrs x).2 ⟨n,E,hx⟩;obtain⟨F,q,H,y⟩:=(h.seen x (hN x z)).1 (I x z);exact⟨F,q,H,y,Nat.le_of_lt (s F (List.getElem?_eq_some_iff.1 H).1)⟩
   ·exact h.proc k p b m c hb oM n E x hx
 ·rw [addS,if_neg hfr,addW,if_neg hfr];have g:∀ {k:Nat} {p:Stp},(st++[(⟨i,l,J⟩:Stp)])[k]?=some p->(k<st.length∧st[k]?=some p)∨(k=st.length∧p=⟨i,l,J⟩):=by
   intro k p c;rcases fB k st.length with v|v|v
   ·rw [dP v] at c;exact Or.inl ⟨v,c⟩
   ·rw [dV oM,v,gF] at c;exact Or.inr ⟨v,(Option.some.inj c).symm⟩
   ·rw [dY (by simp;omega)] at c;cases c
  have r:∀ {k:Nat} {p:Stp},st[k]?=some p->(st++[(⟨i,l,J⟩:Stp)])[k]?=some p:=fun {k p} c=>by
   rw [dP (List.getElem?_eq_some_iff.1 c).1];exact c
  have G:(st++[(⟨i,l,J⟩:Stp)])[st.length]?=some ⟨i,l,J⟩:=by rw [dV (dG _),gF];rfl
  have O:=h.wl;have o:∀ k,k<st.length->(ws++[ws.getD i []++[l]]).getD k []=ws.getD k []:=fun k v=>zfX _ oM;have C:(ws++[ws.getD i []++[l]]).getD st.length []=ws.getD i []++[l]:=by rw [← O];exact zhN _
  have u:∀ x∈J,x∈rs∧S.getD x true=false:=fun x hx=>(Q x).1 hx;refine⟨Y.trans h.len,by simp [O],?_,?_,?_,?_,?_,?_,?_,?_,?_,?_⟩
  ·intro k p c x hx;rcases g c with ⟨_,f⟩|⟨_,rfl⟩
   ·exact h.small k p f x hx
   ·exact hN x (u x hx).1
  ·intro k p c;rcases g c with ⟨_,f⟩|⟨_,rfl⟩
   ·exact h.some_ k p f
   ·exact hfr
  ·intro k p c;rcases g c with ⟨B,f⟩|⟨rfl,rfl⟩
   ·rcases h.word k p f with ⟨e0,R,U⟩|⟨a,b,R,U,e3,e4,e5⟩
    ·exact Or.inl ⟨e0,R,by rw [o k B];exact U⟩
    ·exact Or.inr ⟨a,b,R,U,oM,e4,by rw [o k B,o a oM];exact e5⟩
   ·exact Or.inr ⟨i,j,rfl,M,Or.inr ⟨rfl,oM⟩,hl,by rw [C,o i M]⟩
  ·intro k p c x hx;rcases g c with ⟨B,f⟩|⟨rfl,rfl⟩
   ·rw [o k B];exact h.goes k p f x hx
   ·rw [C];obtain⟨n,E,X⟩:=(hrs x).1 (u x hx).1;exact .snoc (h.goes i pi hi n E) X
  ·intro a b hab hb;simp only [dS,eC] at hb
   by_cases hbl:b<st.length
   ·rw [o a oM,o b hbl];exact h.incr a b hab hbl
   ·obtain rfl:b=st.length:=oM;rw [o a hab,C];exact s a hab
  ·intro x hx;rw [Z x (by rw [h.len];exact hx)];constructor
   ·rintro (f|f)
    ·obtain⟨k,p,c,t⟩:=(h.seen x hx).1 f;exact⟨k,p,r c,t⟩
    ·cases hS:S.getD x true
     ·exact⟨_,_,G,(Q x).2 ⟨f,hS⟩⟩
     ·obtain⟨k,p,c,t⟩:=(h.seen x hx).1 hS;exact⟨k,p,r c,t⟩
   ·rintro ⟨k,p,c,t⟩;rcases g c with ⟨_,f⟩|⟨_,rfl⟩
    ·exact Or.inl ((h.seen x hx).2 ⟨k,p,f,t⟩)
    ·exact Or.inr (u x t).1
  ·intro x hx;obtain⟨p,c,t⟩:=h.first x hx
   exact⟨p,r c,t⟩
  ·intro p c;rcases g c with ⟨B,f⟩|⟨B,_⟩
   ·rw [o 0 B];exact h.zero p f
   ·omega
  ·intro k p b m c hb v n E x hx;rcases g c with ⟨B,f⟩|⟨rfl,rfl⟩
   ·rw [o k B]
    by_cases hkj:k=i∧b=j
    ·obtain⟨rfl,rfl⟩:=hkj;rw [hi] at f;obtain rfl:=Option.some.inj f;rw [hl] at hb;obtain rfl:=Option.some.inj hb;have z:=(hrs x).2 ⟨n,E,hx⟩;cases hS:S.getD x true
     ·exact⟨_,_,G,(Q x).2 ⟨z,hS⟩,by rw [C];exact dG _⟩
     ·obtain⟨F,q,H,y⟩:=(h.seen x (hN x z)).1 hS;have D:=(List.getElem?_eq_some_iff.1 H).1;exact⟨F,q,r H,y,by rw [o F D];exact Nat.le_of_lt (s F D)⟩
    ·obtain⟨F,q,H,y,V⟩:=h.proc k p b m f hb oM n E x hx;have D:=(List.getElem?_eq_some_iff.1 H).1;exact⟨F,q,r H,y,by rw [o F D];exact V⟩
   ·omega
  ·intro k p c x hx;rcases g c with ⟨_,f⟩|⟨_,rfl⟩
   ·exact h.dull k p f x hx
   ·exact hg x hx
theorem Bfs.begin_ {d:Nat->Nat->List Nat}  {goal:Nat->Bool} {L:List Nat} {N:Nat}(hN:∀ x∈start,x<N)(hg:∀ x∈(vis (dU N false) start).2,goal x=false) :
  Bfs d start goal L N (vis (dU N false) start).1 (addS [] (-1) 0 (vis (dU N false) start).2) (addW [] [] (vis (dU N false) start).2) 0 0:=by
 obtain⟨r,s,t⟩:=zhG (dU N false) start (fun n hn=>by simpa using hN n hn);have o:∀ x,x<N->(dU N false).getD x true=false:=fun x hx=>by simp [dK,hx]
 generalize (vis (dU N false) start).1=T at *;generalize (vis (dU N false) start).2=i at *;have g:∀ x,x∈i↔x∈start:=fun x=>(t x).trans ⟨fun h=>h.1,fun h=>⟨h,o x (hN x h)⟩⟩;have m:∀ x,x<N->(T.getD x true=true↔x∈start):=fun x hx=>by
  rw [s x (by simpa using hx),o x hx];simp
 by_cases he:i=[]
 ·subst he;rw [addS,if_pos rfl,addW,if_pos rfl];have q:∀ x,x∉start:=fun x hx=>by have:=(g x).2 hx;cases this
  refine⟨by simpa using r,rfl,fun k p c=>by simp at c,fun k p c=>by simp at c,fun k p c=>by simp at c,fun k p c=>by simp at c,fun a b _ hb=>by simp at hb,fun x hx=>?_,fun x hx=>absurd hx (q x),fun p c=>by simp at c,fun k p b l c=>by simp at c,fun k p c=>by simp at c⟩;rw [m x hx];exact⟨fun h=>absurd h (q x),fun ⟨k,p,c,_⟩=>by simp at c⟩
 ·rw [addS,if_neg he,addW,if_neg he];have f:∀ {k:Nat} {p:Stp},([]++[(⟨-1,0,i⟩:Stp)])[k]?=some p->k=0∧p=⟨-1,0,i⟩:=by
   intro k p c;cases k with
   |zero=>exact⟨rfl,by simpa using c.symm⟩
   |succ k=>simp at c
  refine⟨by simpa using r,rfl,?_,?_,?_,?_,?_,?_,?_,?_,?_,?_⟩
  ·intro k p c x hx;obtain⟨rfl,rfl⟩:=f c;exact hN x ((g x).1 hx)
  ·intro k p c;obtain⟨rfl,rfl⟩:=f c;exact he
  ·intro k p c;obtain⟨rfl,rfl⟩:=f c;exact Or.inl ⟨rfl,rfl,rfl⟩
  ·intro k p c x hx;obtain⟨rfl,rfl⟩:=f c;exact .nil ((g x).1 hx)
  ·intro a b hab hb;simp at hb;omega
  ·intro x hx;rw [m x hx];constructor
   ·intro h;exact⟨0,_,rfl,(g x).2 h⟩
   ·rintro ⟨k,p,c,j⟩;obtain⟨rfl,rfl⟩:=f c;exact (g x).1 j
  ·intro x hx;exact⟨_,rfl,(g x).2 hx⟩
  ·intro p _;rfl
  ·intro k p b l c _ hk;omega
  ·intro k p c x hx;obtain⟨rfl,rfl⟩:=f c;exact hg x hx
end
theorem visN_cnt (st:List Bool × List Nat) (n:Nat):(visN st n).1.count true+st.2.length=st.1.count true+(visN st n).2.length:=by
 unfold visN;cases h:st.1.getD n true
 ·have b:n<st.1.length:=by
   rcases e8 n st.1.length with a|a
   ·exact a
   ·rw [dK,dY a] at h;cases h
  have c:st.1[n]=false:=by rw [dK,dF b] at h;exact h
  simp only [iN,if_false];rw [List.count_set b,c];simp;omega
 ·simp
theorem foldl_cnt (ns:List Nat) (st:List Bool × List Nat):(ns.foldl visN st).1.count true+st.2.length=st.1.count true+(ns.foldl visN st).2.length:=by
 induction ns generalizing st with
 |nil=>rfl
 |cons n r ih =>
  have a:=ih (visN st n);have b:=visN_cnt st n;rw [iG];omega
theorem vis_cnt (S:List Bool) (ns:List Nat):(vis S ns).1.count true=S.count true+(vis S ns).2.length:=by
 have:=foldl_cnt ns (S,[]);simpa [vis] using this
def Cnt (S:List Bool) (st:List Stp):Prop:=(st.map fun p=>p.nodes.length).sum=S.count true
theorem Cnt.add {S:List Bool} {st:List Stp}(h:Cnt S st) (a:Int) (l:Nat) (ns:List Nat):Cnt (vis S ns).1 (addS st a l (vis S ns).2):=by
 unfold Cnt at h ⊢;rw [vis_cnt,addS]
 by_cases he:(vis S ns).2=[]
 ·rw [if_pos he,he,h];rfl
 ·rw [if_neg he];simp [h]
theorem Cnt.nil (N:Nat):Cnt (dU N false) []:=by
 unfold Cnt;simp [List.count_replicate]
theorem sum_len {l:List Nat}(h:∀ x∈l,1<=x):l.length<=l.sum:=by
 induction l with
 |nil=>simp
 |cons x r ih =>
  have a:=ih (fun y hy=>h y (by simp [hy]));have b:=h x sM;simp;omega
theorem sum_mem {l:List Nat} (h:x∈l):x<=l.sum:=by
 induction l with
 |nil=>cases h
 |cons y r ih =>
  rcases List.mem_cons.1 h with rfl|h
  ·simp
  ·have:=ih h;simp;omega
theorem Cnt.steps {S:List Bool} {st:List Stp}(h:Cnt S st)(hs:∀ (k:Nat) (p:Stp),st[k]?=some p->p.nodes≠[]):st.length<=S.length:=by
 unfold Cnt at h;have a:(st.map fun p=>p.nodes.length).length<=(st.map fun p=>p.nodes.length).sum:=sum_len (fun x hx=>by
  obtain⟨p,c,rfl⟩:=List.mem_map.1 hx;obtain⟨k,b⟩:=eD c;have:=hs k p b;have:=List.length_pos_iff.2 this;omega)
 rw [List.length_map,h] at a;exact dO a List.count_le_length
theorem Cnt.nodes {S:List Bool} {st:List Stp}(h:Cnt S st)  {p:Stp}(hp:st[k]?=some p):p.nodes.length<=S.length:=by
 unfold Cnt at h;have a:=sum_mem (List.mem_map.2 ⟨p,dE hp,rfl⟩:p.nodes.length∈st.map fun p=>p.nodes.length);rw [h] at a;exact dO a List.count_le_length
def reach (d:Nat->Nat->List Nat) (l:Nat) (ns:List Nat):List Nat:=(ns.map fun n=>d n l).flatten
theorem zhY {d:Nat->Nat->List Nat}   :x∈reach d l ns↔∃ n∈ns,x∈d n l:=by
 unfold reach;rw [List.mem_flatten];exact⟨fun ⟨ys,h1,h2⟩=>by obtain⟨n,a,rfl⟩:=List.mem_map.1 h1;exact⟨n,a,h2⟩,fun ⟨n,a,h2⟩=>⟨_,List.mem_map.2 ⟨n,a,rfl⟩,h2⟩⟩
theorem reach_snoc (d:Nat->Nat->List Nat) (l:Nat) (ns:List Nat) (n:Nat):reach d l (ns++[n])=reach d l ns++d n l:=by simp [reach]
theorem reach_take {d:Nat->Nat->List Nat}  (h:ns[k]?=some n):reach d l (ns.take (k+1))=reach d l (ns.take k)++d n l:=by
 rw [dN,h];exact reach_snoc _ _ _ _
theorem reach_len {d:Nat->Nat->List Nat} {D:Nat} (h:∀ n∈ns,(d n l).length<=D):(reach d l ns).length<=ns.length*D:=by
 induction ns with
 |nil=>simp [reach]
 |cons n r ih =>
  have a:=ih (fun x hx=>h x (by simp [hx]));have b:=h n sM;simp only [reach,fQ,List.flatten_cons,dS,fY,iT,Nat.one_mul] at a ⊢;omega
def Found (d:Nat->Nat->List Nat) (start:List Nat) (goal:Nat->Bool) (L:List Nat) (v:List Nat):Prop:=
 (∀ l∈v,l∈L)∧(∃ x,zbE d start v x∧goal x=true)∧∀ u,(∀ l∈u,l∈L)->zcY u<zcY v->∀ x,zbE d start u x->goal x=false
def Lost (d:Nat->Nat->List Nat) (start:List Nat) (goal:Nat->Bool) (L:List Nat):Prop:=∀ v,(∀ l∈v,l∈L)->∀ x,zbE d start v x->goal x=false
def E (es:List Edg) (i l k:Nat):Prop:=∃ e∈es,e.fr=i∧e.le=l∧e.ta=k
def rel (R:List Nat) (i j:Nat):Prop:=i<R.length∧(R.getD i 0).testBit j=true
def succ (es:List Edg) (i l:Int):Nat:=es.foldl (fun m e=>if e.fr=i∧e.le=l then m|||2 ^ e.ta.toNat else m) 0
theorem succ_snoc (es:List Edg) (e:Edg) (i l:Int):succ (es++[e]) i l=if e.fr=i∧e.le=l then succ es i l|||2 ^ e.ta.toNat else succ es i l:=by
 simp [succ]
theorem and_pred (k m:Nat):(2 ^ k*(2*m+1))&&&(2 ^ k*(2*m+1) - 1)=2 ^ k*(2*m):=by
 have c:=jU k;have e:2 ^ k*(2*m+1) - 1=2 ^ k*(2*m)+(2 ^ k - 1):=by rw [Nat.mul_add,jA];omega
 rw [e];apply fO;intro i;have a:∀ q,(2 ^ k*q).testBit i=if i<k then false else q.testBit (i - k):=fun q=>by
  have:=iK q (b:=0) (i:=k) c i;rw [gX] at this;rw [this,iM]
 rw [fX,a,iK _ oM,a]
 by_cases hi:i<k
 ·simp [hi]
 ·simp only [hi,if_false];cases hd:i - k with
  |zero=>simp [Nat.testBit_zero]
  |succ d=>rw [iZ,iZ,show (2*m+1) / 2=m by omega,show (2*m) / 2=m by omega];simp
theorem lowest (h0:x≠0)(hs:Sm x):∃ k,Lib.ctz 64 x=k∧k<32∧x.testBit k=true∧(∀ i,i<k->x.testBit i=false)∧x&&&(x - 1)=x - 2 ^ k∧2 ^ k<=x:=by
 have hx:=hs.lt;obtain⟨m,a,g⟩:=Lib.ctzFrom_spec 64 x oM oM;have e:Lib.ctz 64 x=Lib.ctzFrom 64 x:=by simp [Lib.ctz,h0]
 generalize Lib.ctzFrom 64 x=k at *;have f:=jU k;have c:2 ^ k<=x:=by rw [a];exact Nat.le_mul_of_pos_right _ oM
 have d:∀ q i,(2 ^ k*q).testBit i=if i<k then false else q.testBit (i - k):=fun q i=>by
  have:=iK q (b:=0) (i:=k) f i;rw [gX] at this;rw [this,iM]
 refine⟨k,e,?_,?_,fun i hi=>?_,?_,c⟩
 ·apply Nat.lt_of_not_le;intro h32;have:=eH (n:=2) oM h32;omega
 ·rw [a,d];simp
 ·rw [a,d];simp [hi]
 ·rw [a,and_pred,Nat.mul_add,jA,Nat.add_sub_cancel]
theorem zds (h:x.testBit j=true)(hl:∀ i,i<j->x.testBit i=false) (k:Nat):(x - 2 ^ j).testBit k=(x.testBit k&&!decide (k=j)):=by
 have f:x / 2 ^ j % 2=1:=by
  have:=h;rw [jZ] at this;simpa using this
 have g:=jU j;have l:x % 2 ^ j=0:=by
  apply fO;intro i;rw [Nat.testBit_mod_two_pow,iM]
  by_cases hi:i<j
  ·simp [hi,hl i hi]
  ·simp [hi]
 have a:=Nat.div_add_mod x (2 ^ j);rw [l,gX] at a;generalize x / 2 ^ j=q at *;have c:∀ q i,(2 ^ j*q).testBit i=if i<j then false else q.testBit (i - j):=fun q i=>by
  have:=iK q (b:=0) (i:=j) g i;rw [gX] at this;rw [this,iM]
 have e:x - 2 ^ j=2 ^ j*(q - 1):=by rw [← a,Nat.mul_sub,jA]
 rw [e,← a,c,c]
 by_cases hk:k<j
 ·simp [hk]
 ·simp only [hk,if_false];obtain⟨d,rfl⟩:∃ d,k=j+d:=⟨k - j,oM⟩;rw [Nat.add_sub_cancel_left];cases d with
  |zero=>simp [Nat.testBit_zero];omega
  |succ d =>
   rw [iZ,iZ,show (q - 1) / 2=q / 2 by omega];simp
theorem zhW (h:x.testBit k=true)(hl:∀ i,i<k->x.testBit i=false):∀ n,(n<=k->letters x n=[]∧letters (x - 2 ^ k) n=[])∧(k<n->letters x n=k :: letters (x - 2 ^ k) n)
 |0=>⟨fun _=>⟨rfl,rfl⟩,fun h=>oM⟩
 |n+1=>by
  have ih:=zhW h hl n
  have hb:=zds h hl n
  rw [zby,zby,hb]
  refine⟨fun hn=>?_,fun hn=>?_⟩
  ·obtain⟨e1,e2⟩:=ih.1 oM
   rw [e1,e2,hl n oM]
   simp
  ·rcases e8 k n with h1|h1
   ·rw [ih.2 h1]
    have:n≠k:=oM
    simp [this]
   ·obtain⟨e1,e2⟩:=ih.1 h1
    obtain rfl:n=k:=oM
    rw [e1,e2,h]
    simp
theorem letters_step (h0:x≠0)(hs:Sm x):letters x 32=Lib.ctz 64 x :: letters (x&&&(x - 1)) 32∧x&&&(x - 1)<x∧Lib.ctz 64 x<32:=by
 obtain⟨k,e,a,c,d,b,f⟩:=lowest h0 hs;have g:=jU k;rw [e,b];exact⟨(zhW c d 32).2 a,oM,a⟩
theorem impl_members (a:Nat)(hs:Sm a) (w:World)(hT:Tab w) :
  Calls Tryz.prog 243 #[a] w (zcl w (letters a 32)):=by
 have d:=zE a 32
 go_enter Tryz.func243,Tryz.ntmps243
 go_wp2
 go_loopw [0,3,4] (fun s v _ wr=>∃ x:Nat,s=.int .i64 x∧Sm x∧∃ o:List Nat,Hid (letters a 32=o++letters x 32)∧wr.ownsRow w.heap.size 3 1 v o.length (zav o)∧Ext w wr)
  (fun s _ _ _=>(intOf s).toNat)
 case atStart=>exact⟨a,rfl,hs,[],rfl,World.ownsRow_nil _ _ _ _,Ext.refl _⟩
 case round =>
  obtain⟨x,rfl,hx,o,k,zkh,h⟩:=hrel;have r:=hx.lt;have g:o.length+(letters x 32).length<=32:=by have:=k.out;rw [this,dS] at d;exact d
  by_cases h0:x=0
  ·subst h0;obtain⟨A,c,rfl⟩:=zi zkh;go_wp2;go_ret;have f:=k.out;rw [show letters 0 32=[] by decide,List.append_nil] at f;exact⟨A,c,by rw [f];rfl,by rw [f];exact zkh,h⟩
  ·obtain⟨j,hlt,t⟩:=letters_step h0 hx;have p:=za j;have q:((x:Int) != 0)=true:=by simp;omega
   have i:=hT.ext h;have l:=za (zdx (a:=x) (b:=x - 1) hx tM);have n:o.length<32:=by rw [j] at g;simp at g;omega
   clear j d g;have m:=za (show ((x:Int) - 1)=((x - 1:Nat):Int) by omega);go_wp2_with (first
    |(go_at_call 276;refine (tz x oM h0 _ i).mono ?_;rintro e w' ⟨rfl,rfl⟩)
    |(at_builtin;refine zX w wr rfl (.tmp 10) (.tmp 14) _ rfl 3 _ 1 8 Tryz.underlying128 zaf rfl dM u3 _ _ _ _ rfl rfl h zkh rfl (zbr _) lM oM ?_;intro v' w1 hext1 zkq hg1 hat1))
   go_roundw
   case rel=>exact⟨x&&&(x - 1),by rw [m.out,l.out],jE Nat.and_le_left hx,o++[Lib.ctz 64 x],by have:=k.out;unfold Hid;rw [this,p.out];simp,by simpa [zav] using zkq,aM⟩
   case measure =>
    have:=l.out;rw [← m.out] at this;simp [intOf];omega
theorem foldl_bit (es:List Edg) (p:Edg->Prop) [DecidablePred p] (m k:Nat):(es.foldl (fun m e=>if p e then m|||2 ^ e.ta.toNat else m) m).testBit k=true↔m.testBit k=true∨∃ e∈es,p e∧e.ta.toNat=k:=by
 induction es generalizing m with
 |nil=>simp
 |cons e r ih =>
  rw [iG,ih]
  by_cases hp:p e
  ·rw [if_pos hp,Nat.testBit_or,Nat.testBit_two_pow];simp only [Bool.or_eq_true,decide_eq_true_eq,List.mem_cons];constructor
   ·rintro ((h|h)|⟨c,a,b⟩)
    ·exact Or.inl h
    ·exact Or.inr ⟨e,Or.inl rfl,hp,h⟩
    ·exact Or.inr ⟨c,Or.inr a,b⟩
   ·rintro (h|⟨c,a|a,b⟩)
    ·exact Or.inl (Or.inl h)
    ·subst a;exact Or.inl (Or.inr b.2)
    ·exact Or.inr ⟨c,a,b⟩
  ·rw [if_neg hp];constructor
   ·rintro (h|⟨c,a,b⟩)
    ·exact Or.inl h
    ·exact Or.inr ⟨c,eE _ a,b⟩
   ·rintro (h|⟨c,a,b⟩)
    ·exact Or.inl h
    ·rcases List.mem_cons.1 a with a|a
     ·subst a;exact absurd b.1 hp
     ·exact Or.inr ⟨c,a,b⟩
theorem zew (es:List Edg) (i l:Int) (k:Nat):(succ es i l).testBit k=true↔∃ e∈es,(e.fr=i∧e.le=l)∧e.ta.toNat=k:=by
 have:=foldl_bit es (fun e=>e.fr=i∧e.le=l) 0 k;simpa [succ] using this
def Few (n:Nat) (es:List Edg):Prop:=∀ e∈es,(0<=e.fr∧e.fr<n)∧(0<=e.le∧e.le<6)∧(0<=e.ta∧e.ta<n)
theorem succ_lt {es:List Edg}(h:Few n es) (i l:Int):succ es i l<2 ^ n:=by
 apply jR;intro k hk;rw [eQ];intro hb;obtain⟨e,a,_,b⟩:=(zew es i l k).1 hb;have:=h e a;omega
theorem succ_sm {es:List Edg}(h:Few n es)(hn:n<=16) (i l:Int):Sm (succ es i l):=
 eB (succ_lt h i l) (by rw [show (4294967296:Nat)=2 ^ 32 from rfl];exact eH oM oM)
def diff (a b:Nat):Nat:=a ^^^ (a&&&b)
theorem zjz (a b k:Nat):(diff a b).testBit k=(a.testBit k&&!b.testBit k):=by
 unfold diff;rw [Nat.testBit_xor,fX];cases a.testBit k<;>cases b.testBit k<;>rfl
theorem diff_le (a b:Nat):diff a b<=a:=by
 apply Nat.le_of_testBit;intro k hk;rw [zjz] at hk;simp at hk;exact hk.1
theorem zeo {a:Nat}:k∈letters a n↔k<n∧a.testBit k=true:=by simp [letters]
def cho (s:Sys) (i l:Nat):List Nat:=if s.al.toNat.testBit l then letters (succ s.edges i l) 32 else [i]
def nx:List Sys->Nat->Nat->List Nat × Nat × Nat
 |[],m,_=>([0],1,m)
 |s :: r,m,l=>((cho s ((nx r m l).2.2 % s.st.toNat) l).flatMap (fun q=>(nx r m l).1.map fun x=>q*(nx r m l).2.1+x),(nx r m l).2.1*s.st.toNat,(nx r m l).2.2 / s.st.toNat)
def Sml (s:Sys):Prop:=1<=s.st∧s.st<=16∧Few s.st.toNat s.edges∧0<=s.al∧s.al<=63
theorem zge (a k:Nat):(letters a k).Nodup:=List.Pairwise.filter _ List.nodup_range
theorem zK {a:Nat}:x∈letters a k↔x<k∧a.testBit x=true:=by simp [letters,List.mem_filter]
theorem cho_lt {s:Sys}(h:Sml s) (hi:i<s.st.toNat):∀ q∈cho s i l,q<s.st.toNat:=by
 intro q hq;unfold cho at hq
 split at hq
 ·have b:=(zK.1 hq).2;rcases e8 q s.st.toNat with a|a
  ·exact a
  ·have:=Nat.testBit_lt_two_pow (eB (succ_lt h.2.2.1 i l) (eH oM a));rw [b] at this;cases this
 ·rw [List.mem_singleton.1 hq];exact hi
theorem cho_nodup (s:Sys) (i l:Nat):(cho s i l).Nodup:=by
 unfold cho;split
 ·exact zge _ _
 ·simp
theorem zhZ {l:List Nat}(h:l.Nodup) {p:Nat}(hl:∀ x∈l,x<p):l.length<=p:=by
 have a:l ⊆ eY p:=fun x hx=>List.mem_range.2 (hl x hx);have:=List.Nodup.length_le_of_subset h a;simpa using this
theorem cho_len {s:Sys}(h:Sml s) (hi:i<s.st.toNat):(cho s i l).length<=s.st.toNat:=zhZ (cho_nodup s i l) (cho_lt h hi)
theorem flat_nodup {l R:List Nat} {W:Nat}(hl:l.Nodup)(hR:R.Nodup)(hW:∀ x∈R,x<W):(l.flatMap fun q=>R.map fun x=>q*W+x).Nodup:=by
 induction l with
 |nil=>simp
 |cons a r ih =>
  rw [jX];rw [List.nodup_cons] at hl;refine List.nodup_append.2 ⟨?_,ih hl.2,?_⟩
  ·exact List.Pairwise.map _ (fun a b h=>by simpa using h) hR
  ·intro x hx y c hxy;subst hxy;obtain⟨u,m,rfl⟩:=List.mem_map.1 hx;obtain⟨b,j,c⟩:=List.mem_flatMap.1 c;obtain⟨v,n,k⟩:=List.mem_map.1 c;have g:=hW u m;have i:=hW v n;have:a=b:=by
    have d:(a*W+u) / W=a:=by rw [Nat.add_comm,Nat.add_mul_div_right _ _ oM,iY g,dW]
    have f:(b*W+v) / W=b:=by rw [Nat.add_comm,Nat.add_mul_div_right _ _ oM,iY i,dW]
    rw [← d,← f,k]
   subst this;exact hl.1 j
theorem nx_facts {ss:List Sys}(h:∀ s∈ss,Sml s) (m l:Nat):1<=(nx ss m l).2.1∧(nx ss m l).2.1<=16 ^ ss.length∧(∀ x∈(nx ss m l).1,x<(nx ss m l).2.1)∧(nx ss m l).1.Nodup∧(nx ss m l).2.2<=m:=by
 induction ss with
 |nil=>simp [nx]
 |cons s r ih =>
  obtain⟨f,g,d,i,j⟩:=ih fun s b=>h s (eE _ b);have b:=h s List.mem_cons_self;have a:1<=s.st.toNat∧s.st.toNat<=16:=by have:=b.1;have:=b.2.1;omega
  refine⟨Nat.mul_pos f a.1,?_,fun x hx=>?_,flat_nodup (cho_nodup _ _ _) i d,dO (iH _ _) j⟩
  ·rw [nx,fY,Nat.pow_succ];exact Nat.mul_le_mul g a.2
  ·rw [nx] at hx ⊢;obtain⟨q,k,hx⟩:=List.mem_flatMap.1 hx;obtain⟨y,n,rfl⟩:=List.mem_map.1 hx;have c:=cho_lt b (Nat.mod_lt _ a.1) q k;have o:=d y n
   calc q*(nx r m l).2.1+y<q*(nx r m l).2.1+(nx r m l).2.1:=oM
    _=(q+1)*(nx r m l).2.1:=by rw [iT,Nat.one_mul]
    _<=s.st.toNat*(nx r m l).2.1:=jM _ c
    _=(nx r m l).2.1*s.st.toNat:=fL _ _
theorem nx_len {ss:List Sys}(h:∀ s∈ss,Sml s) (m l:Nat):(nx ss m l).1.length<=16 ^ ss.length:=by
 obtain⟨d,a,b,c,_⟩:=nx_facts h m l;exact dO (zhZ c b) a
theorem zaj (a:Nat)(hs:Sm a) (w:World) :
  Calls Tryz.prog 131 #[a] w (zcl w (letters a 6)):=by
 go_enter Tryz.func131,Tryz.ntmps131
 go_wp2
 go_loopw [3,4] (fun v i wr=>∃ k:Nat,k<=6∧i=.int .i64 k∧wr.ownsRow w.heap.size 3 1 v (letters a k).length (zav (letters a k))∧Ext w wr)
  (fun _ i _=>6 - (intOf i).toNat)
 case atStart=>exact⟨0,dI _,rfl,World.ownsRow_lit w #[] 0 (dG _) lM rfl,(Ext.refl _).alloc _⟩
 case round =>
  obtain⟨k,g,rfl,zkh,d⟩:=hrel;have h:=zE a k
  by_cases hlt:k<6
  ·cases hb:a.testBit k
   all_goals
    have f:=za hb;have b:=zby a k;rw [hb] at b;have Hls:=za b;clear b hb;go_wp2_with (first
     |(go_at_call 140;refine (zax a k hs _ oM).mono ?_;rw [f.out];rintro e w' ⟨rfl,rfl⟩)
     |(at_builtin;refine zX w wr rfl _ _ _ rfl 3 _ 1 8 Tryz.underlying128 zaf rfl dM u3 _ _ _ _ rfl rfl d zkh rfl (zbr _) lM oM ?_;intro v' w1 hext1 zkq hg1 hat1))
    exact yD01a2
  ·obtain rfl:k=6:=oM;obtain⟨A,c,rfl⟩:=zi zkh;go_wp2;go_ret;exact⟨_,_,rfl,zkh,d⟩
def zdn (b:UInt8):Bool:=decide (97<=(b.toNat:Int)∧(b.toNat:Int)<=102)
def zbe (s:ByteArray):Bool:=decide (s.size<=50000)&&s.data.toList.all zdn
theorem zco (s:ByteArray) (i:Nat)(h:i<s.size):s.data.toList[i]?=some s[i]:=by
 rw [dF (by simpa using h)];rfl
theorem yD01a1 {P:Prop}(h:P:=by
 go_wp2_with (go_at_call 141;refine (zbA s k hlt _).mono ?_;rw [hx.out];rintro e w' ⟨rfl,rfl⟩)
 go_ret;exact⟨zm (by rw [zbe,zaS hg.out (by have:=hx.out;simp [zdn];omega),Bool.and_false]),rfl⟩
 ):P:=h
theorem zcJ (s:ByteArray) (w:World)(hs:s.size<=9223372036854775807) :
  Calls Tryz.prog 138 #[s] w fun e w'=>e=.returned (.bool (zbe s))∧w=w':=by
 by_cases h:50000<s.size
 ·go_enter Tryz.func138,Tryz.ntmps138
  go_wp2;go_ret;exact⟨by simp [zbe,show ¬ s.size<=50000 by omega],rfl⟩
 ·go_enter Tryz.func138,Tryz.ntmps138
  go_wp2
  go_loop [3] (fun i=>∃ k:Nat,k<=s.size∧i=.int .i64 k∧Hid ((s.data.toList.take k).all zdn=true)) (fun i=>s.size - (intOf i).toNat)
  case atStart=>exact⟨0,dI _,rfl,rfl⟩
  case round =>
   obtain⟨k,d,rfl,a⟩:=hrel
   by_cases hlt:k<s.size
   ·have hg:=za (zco s k hlt);obtain⟨x,hx,b,c⟩:∃ x:Int,Hid ((s[k].toNat:Int) - 97=x) ∧ -97<=x∧x<=158:=⟨(s[k].toNat:Int) - 97,za rfl,oM,by have:=zcR s k hlt;omega⟩
    by_cases h0:x<0
    ·exact yD01a1
    ·by_cases h1:6<=x
     ·exact yD01a1
     ·go_wp2_with (go_at_call 141;refine (zbA s k hlt _).mono ?_;rw [hx.out];rintro e w' ⟨rfl,rfl⟩)
      go_round
      case rel=>exact⟨k+1,oM,gM,zcH hg.out a.out (by have:=hx.out;simp [zdn];omega)⟩
      case measure=>simp [intOf];omega
   ·obtain rfl:k=s.size:=oM;go_wp2;go_ret;exact⟨zm (by rw [zbe,zeE sM a.out];simp;omega),rfl⟩
def zeC (s:ByteArray) (a:Nat):Bool:=s.data.toList.all fun b=>hasB a (ltr b.toNat)
theorem over_all {a:Nat}(h:a=63) (b:UInt8):hasB a (ltr b.toNat)=zdn b:=by
 subst h;have:b.toNat<256:=b.toNat_lt;unfold hasB ltr zdn
 by_cases h1:(b.toNat:Int) - 97<0
 ·rw [if_pos (.inl h1)];simp;omega
 ·by_cases h2:6<=(b.toNat:Int) - 97
  ·rw [if_pos (.inr h2)];simp;omega
  ·rw [if_neg oM];have c:b.toNat=97∨b.toNat=98∨b.toNat=99∨b.toNat=100∨b.toNat=101∨b.toNat=102:=oM;rcases c with h|h|h|h|h|h<;>rw [h]<;>decide
theorem overB_63 (s:ByteArray):zeC s 63=s.data.toList.all zdn:=by
 unfold zeC
 congr 1
 funext b
 exact over_all rfl b
theorem zbg (s:ByteArray) (a:Nat) (w:World)(hs:s.size<=9223372036854775807)(ha:a<=63) :
  Calls Tryz.prog 103 #[s,a] w fun e w'=>e=.returned (.bool (decide (s.size<=50000)&&zeC s a))∧w=w':=by
 have j:Sm a:=tM;have g:(decide ((0:Int)<=a∧(a:Int)<=63))=true:=by simp;omega
 have d:=za g;clear g
 by_cases h:50000<s.size
 ·go_enter Tryz.func103,Tryz.ntmps103
  go_wp2_with (go_at_call 173;refine (zah _ _).mono ?_;rw [d.out];rintro e w' ⟨rfl,rfl⟩)
  go_ret;exact⟨by simp [show ¬ s.size<=50000 by omega],rfl⟩
 ·go_enter Tryz.func103,Tryz.ntmps103
  go_wp2_with (go_at_call 173;refine (zah _ _).mono ?_;rw [d.out];rintro e w' ⟨rfl,rfl⟩)
  go_loop [16] (fun i=>∃ k:Nat,k<=s.size∧i=.int .i64 k∧Hid ((s.data.toList.take k).all (fun b=>hasB a (ltr b.toNat))=true)) (fun i=>s.size - (intOf i).toNat)
  case atStart=>exact⟨0,dI _,rfl,rfl⟩
  case round =>
   obtain⟨k,l,rfl,c⟩:=hrel
   by_cases hlt:k<s.size
   ·have hg:=za (zco s k hlt);cases hb:hasB a (ltr (s[k].toNat:Int))
    ·have f:=za hb;clear hb;go_wp2_with (first|(go_at_call 153;refine (zaM s k hlt _).mono ?_;rintro e w' ⟨rfl,rfl⟩)|(go_at_call 161;refine (zbQ _ _ j _).mono ?_;rw [f.out];rintro e w' ⟨rfl,rfl⟩))
     go_ret;exact⟨zm (by rw [zeC,zaS hg.out f.out,iW]),rfl⟩
    ·have f:=za hb;clear hb;go_wp2_with (first|(go_at_call 153;refine (zaM s k hlt _).mono ?_;rintro e w' ⟨rfl,rfl⟩)|(go_at_call 161;refine (zbQ _ _ j _).mono ?_;rw [f.out];rintro e w' ⟨rfl,rfl⟩))
     go_round
     case rel=>exact⟨k+1,oM,gM,zcH hg.out c.out f.out⟩
     case measure=>simp [intOf];omega
   ·obtain rfl:k=s.size:=oM;go_wp2;go_ret;exact⟨zm (by rw [zeC,zeE sM c.out];simp;omega),rfl⟩
theorem zdK (s:ByteArray) (w:World)(hs:s.size<=9223372036854775807) :
  Calls Tryz.prog 106 #[s] w fun e w'=>e=.returned (.bool (zbe s))∧w=w':=by
 have a:=overB_63 s;have b:=za a;clear a
 go_enter Tryz.func106,Tryz.ntmps106
 go_wp2_with (go_at_call 103;refine (zbg s 63 _ hs oM).mono ?_;rintro e w' ⟨rfl,rfl⟩)
 go_ret;exact⟨zm (by rw [b.out];rfl),rfl⟩
def rowB (k n:Nat) (row:List Int):Bool:=decide (row.length=k)&&row.all fun q=>decide (0<=q∧q<n)
def zj (a:Aut):Bool:=
 decide (0<=a.al∧a.al<=63)&&(decide (1<=a.next.length∧a.next.length<=12)&&(decide (a.acc.length=a.next.length)&&a.next.all (rowB (letters a.al.toNat 6).length a.next.length)))
theorem zjh (lo hi:Nat) (A:Option Addr) (n c:Nat) (l:List Int) (k m:Nat) (w:World)(h:Reads w lo hi 1 A n (ints l))(hk:k<=100) (_hm:m<=100) :
  Calls Tryz.prog 261 #[.slice A n c,k,m] w fun e w'=>e=.returned (.bool (rowB k m l))∧w=w':=by
 have j:=h.len;have f:l.length=n:=by have:=h.length;rw [zdm] at this;omega
 have b:=za f;clear f
 by_cases he:n=k
 ·subst he
  go_enter Tryz.func261,Tryz.ntmps261
  go_wp2
  go_loop [7] (fun i=>∃ k:Nat,k<=n∧i=.int .i64 k∧Hid ((l.take k).all (fun q=>decide (0<=q∧q<m))=true)) (fun i=>n - (intOf i).toNat)
  case atStart=>exact⟨0,dI _,rfl,rfl⟩
  case round =>
   obtain⟨k,hk,rfl,a⟩:=hrel
   by_cases hlt:k<n
   ·obtain⟨g,x,rfl,_,_,hx,d⟩:=h.int hlt
    by_cases h0:x<0
    ·go_wp2;go_ret;exact⟨zm (by rw [rowB,zaS hx.out (by simp;omega),iW]),rfl⟩
    ·by_cases h1:(m:Int)<=x
     ·go_wp2;go_ret;exact⟨zm (by rw [rowB,zaS hx.out (by simp;omega),iW]),rfl⟩
     ·go_wp2
      go_round
      case rel=>exact⟨k+1,oM,gM,zcH hx.out a.out (by simp;omega)⟩
      case measure=>simp [intOf];omega
   ·obtain rfl:k=n:=oM;go_wp2;go_ret;exact⟨zm (by rw [rowB,zeE (oH b.out) a.out,b.out];simp),rfl⟩
 ·go_enter Tryz.func261,Tryz.ntmps261
  go_wp2;go_ret;exact⟨zm (by rw [rowB,b.out];simp [he]),rfl⟩
theorem zO (lo hi:Nat) (A:Option Addr) (n c:Nat) (A':Option Addr) (n' c':Nat) (a:Aut) (w:World)(h:zH w lo hi A n A' n' a) :
  Calls Tryz.prog 200 #[.agg #[a.al,.slice A n c,.slice A' n' c']] w fun e w'=>e=.returned (.bool (zj a))∧Ext w w':=by
 have x:=h.n1;have y:=h.n2;have q:=za (show zj a=(decide (0<=a.al∧a.al<=63)&&(decide (1<=n∧n<=12)&&(decide (n'=n)&&a.next.all (rowB (letters a.al.toNat 6).length n)))) by unfold zj;rw [← x,← y]);have Q:=h.1.len;have R:=h.2.2.len;clear x y
 by_cases hal:0<=a.al∧a.al<=63
 ·have o:=za (show decide (0<=a.al∧a.al<=63)=true by simp;omega)
  by_cases hn:1<=n∧n<=12
  ·have L:decide ((n:Int)<1)=false:=by simp;omega
   have M:decide (12<(n:Int))=false:=by simp;omega
   by_cases hn':n'=n
   ·subst hn';obtain⟨al,b⟩:∃ al:Nat,Hid (a.al=al):=⟨a.al.toNat,by unfold Hid;omega⟩;have t:Sm al:=by have:=b.out;unfold Sm;omega
    have S:=zE al 6;rw [b.out];rw [b.out] at o;rw [b.out,Int.toNat_natCast] at q;clear hal;have z:=fun W (hW:Ext w W)=>h.1.ext hW;have F:=za z;clear z
    go_enter Tryz.func200,Tryz.ntmps200
    go_wp2_with (go_at_call 139;refine (zY _ _).mono ?_;rw [o.out];rintro e w' ⟨rfl,rfl⟩)
    go_loopw [4] (fun i wr=>∃ k:Nat,k<=n'∧i=.int .i64 k∧Hid ((a.next.take k).all (rowB (letters al 6).length n')=true)∧Ext (w.alloc (.cells #[Value.int .i64 al,Value.slice A n' c,Value.slice A' n' c'] 31)) wr)
     (fun i _=>n' - (intOf i).toNat)
    case atStart=>exact⟨0,dI _,rfl,rfl,Ext.refl _⟩
    case round =>
     obtain⟨k,Z,rfl,g,f⟩:=hrel;have B:∀ W,Ext wr W->∀ j,W.cell? ⟨w.heap.size,j,none⟩=#[Value.int .i64 al,Value.slice A n' c,Value.slice A' n' c'][j]?:=fun W hW=>zdk (f.trans hW)
     by_cases hlt:k<n'
     ·obtain⟨G,E,I,l,rfl,T,O,C,m,s⟩:=(F.out wr (((Ext.refl _).alloc _).trans f)).row hlt;have J:∀ W,Ext wr W->W.cell? (G.add k)=some (.slice E l.length I):=fun W hW=>hW.aa m;have V:=Ext.refl wr;have u:∀ W,Ext wr W->Ext w W:=fun W hW=>(((Ext.refl _).alloc _).trans f).trans hW;have r:=za u;clear u;cases hrb:rowB (letters al 6).length n' l
      ·have d:=za hrb;clear hrb;go_wp2_with fail
       go_region_held3 (fun W=>Ext wr W) (first|assumption|(refine Ext.drew ?_;assumption)|(refine Ext.trans ?_ aM;assumption)|(refine Ext.trans ?_ aM;refine Ext.drew ?_;assumption)) (first|(go_at_call 131;refine (zaj _ t _).mono ?_;rintro e X ⟨D,H,rfl,v,p⟩)|(go_at_call 261;refine (zjh _ _ _ _ _ _ _ _ _ (s.ext ?_) oM oM).mono ?_;assumption;rw [d.out];rintro e Y ⟨rfl,rfl⟩))
       go_wp2;go_ret;exact⟨zm (by rw [q.out,zaS C.out d.out];simp),r.out _ aM⟩
      ·have d:=za hrb;clear hrb;go_wp2_with fail
       go_region_held3 (fun W=>Ext wr W) (first|assumption|(refine Ext.drew ?_;assumption)|(refine Ext.trans ?_ aM;assumption)|(refine Ext.trans ?_ aM;refine Ext.drew ?_;assumption)) (first|(go_at_call 131;refine (zaj _ t _).mono ?_;rintro e X ⟨D,H,rfl,v,p⟩)|(go_at_call 261;refine (zjh _ _ _ _ _ _ _ _ _ (s.ext ?_) oM oM).mono ?_;assumption;rw [d.out];rintro e Y ⟨rfl,rfl⟩))
       go_wp2;go_roundw
       case rel=>exact⟨k+1,oM,gM,zcH C.out g.out d.out,f.trans aM⟩
       case measure=>simp [intOf];omega
     ·obtain rfl:k=n':=oM;go_wp2;go_ret;exact⟨zm (by rw [q.out,zeE (oH h.n1) g.out,o.out];simp;omega),((Ext.refl _).alloc _).trans f⟩
   ·have U:((n':Int) != (n:Int))=true:=by simp;omega
    go_enter Tryz.func200,Tryz.ntmps200
    go_wp2_with (go_at_call 139;refine (zY _ _).mono ?_;rw [o.out];rintro e w' ⟨rfl,rfl⟩)
    go_ret;exact⟨zm (by rw [q.out];simp [hn']),(Ext.refl _).alloc _⟩
  ·go_enter Tryz.func200,Tryz.ntmps200
   go_wp2_with (go_at_call 139;refine (zY _ _).mono ?_;rw [o.out];rintro e w' ⟨rfl,rfl⟩)
   all_goals go_ret
   all_goals exact⟨zm (by rw [q.out];simp [hn]),(Ext.refl _).alloc _⟩
 ·go_enter Tryz.func200,Tryz.ntmps200
  have o:decide (0<=a.al∧a.al<=63)=false:=by simp;omega
  go_wp2_with (go_at_call 139;refine (zY _ _).mono ?_;rw [o];rintro e w' ⟨rfl,rfl⟩)
  go_ret;exact⟨zm (by rw [q.out];simp;omega),(Ext.refl _).alloc _⟩
def place (a l:Nat):Nat:=(letters a l).length
def aGo (a:Aut) (q l:Nat):Nat:=if a.al.toNat.testBit l then ((a.next.getD q []).getD (place a.al.toNat l) 0).toNat else q
abbrev Mem:=Nat × (Nat->Nat->List Nat)
def zeh (s:Sys):Mem:=(s.st.toNat,cho s)
def zbJ (a:Aut):Mem:=(a.next.length,fun q l=>[aGo a q l])
def zaA:List Nat->Nat
 |[]=>1
 |m :: r=>m*zaA r
def zM (ms:List Mem):Nat:=zaA (ms.map Prod.fst)
theorem zdZ (m:Mem) (r:List Mem):zM (m :: r)=m.1*zM r:=rfl
theorem zdF (a b:List Nat):zaA (a++b)=zaA a*zaA b:=by
 induction a with
 |nil=>simp [zaA]
 |cons x r ih=>rw [List.cons_append,zaA,zaA,ih,iU]
theorem zcf (a b:List Mem):zM (a++b)=zM a*zM b:=by
 unfold zM;rw [eP,zdF]
theorem prodS_pos {l:List Nat}(h:∀ x∈l,1<=x):1<=zaA l:=by
 induction l with
 |nil=>simp [zaA]
 |cons x r ih=>exact Nat.mul_pos (h x sM) (ih fun y hy=>h y (by simp [hy]))
def dec:List Nat->Nat->List Nat
 |[],_=>[]
 |s :: r,x=>(x / zaA r % s) :: dec r x
theorem zdV (l:List Nat) (x:Nat):(dec l x).length=l.length:=by
 induction l with
 |nil=>rfl
 |cons s r ih=>simp [dec,ih]
theorem zjy {l:List Nat} {s:Nat}(h:l[k]?=some s):(dec l x)[k]?=some (x / zaA (l.drop (k+1)) % s):=by
 induction l generalizing k with
 |nil=>simp at h
 |cons t r ih =>
  cases k with
  |zero=>simp at h;subst h;simp [dec]
  |succ k=>simp at h;simpa [dec] using ih h
def encF (acc:Nat):List Nat->List Nat->Nat
 |s :: r,x :: xs=>encF (acc*s+x) r xs
 |_,_=>acc
def pnx:List Mem->Nat->Nat->List Nat
 |[],_,_=>[0]
 |m :: r,x,l=>(m.2 (x / zM r % m.1) l).flatMap fun q=>(pnx r x l).map fun y=>q*zM r+y
def zeB (m:Mem):Prop:=1<=m.1∧∀ q l,q<m.1->l<6->∀ x∈m.2 q l,x<m.1
theorem zgk {ms:List Mem}(h:∀ m∈ms,zeB m):1<=zM ms:=prodS_pos fun x hx=>by
 obtain⟨m,hm,rfl⟩:=List.mem_map.1 hx
 exact (h m hm).1
theorem zjd {ms:List Mem}(h:∀ m∈ms,zeB m) (hl:l<6):∀ y∈pnx ms x l,y<zM ms:=by
 induction ms with
 |nil=>intro y a;simp [pnx] at a;subst a;simp [zM,zaA]
 |cons m r ih =>
  intro y a;rw [pnx] at a;obtain⟨q,c,a⟩:=List.mem_flatMap.1 a;obtain⟨z,d,rfl⟩:=List.mem_map.1 a;have b:=(h m sM).2 _ l (Nat.mod_lt _ (h m sM).1) hl q c;have f:=ih (fun m hm=>h m (by simp [hm])) z d;rw [zdZ]
  calc q*zM r+z<q*zM r+zM r:=oM
   _=(q+1)*zM r:=by rw [iT,Nat.one_mul]
   _<=m.1*zM r:=jM _ b
theorem zgD (a b:List Mem) (x l:Nat):pnx (a++b) x l=(pnx a (x / zM b) l).flatMap fun q=>(pnx b x l).map fun y=>q*zM b+y:=by
 induction a with
 |nil=>simp [pnx]
 |cons m r ih =>
  rw [List.cons_append,pnx,pnx,ih,zcf,List.flatMap_assoc];rw [jD,fL (zM b) (zM r)]
  congr 1
  funext q
  rw [List.map_flatMap,List.flatMap_map]
  congr 1
  funext z
  rw [List.map_map]
  congr 1
  funext y
  simp only [Function.comp];rw [iT,iU,iB]
theorem nx_pnx (ss:List Sys) (m l:Nat):nx ss m l=(pnx (ss.map zeh) m l,zM (ss.map zeh),m / zM (ss.map zeh)):=by
 induction ss with
 |nil=>simp [nx,pnx,zM,zaA]
 |cons s r ih =>
  rw [nx,ih,fQ,pnx,zdZ];simp only [zeh];rw [jD,fL (zM _) s.st.toNat]
theorem pnx_two (a p:Aut) (x l:Nat):pnx [zbJ a,zbJ p] x l=[aGo a (x / p.next.length % a.next.length) l*p.next.length+aGo p (x % p.next.length) l]:=by
 simp [pnx,zbJ,zM,zaA]
theorem pnx_one (p:Aut) (x l:Nat):pnx [zbJ p] x l=[aGo p (x % p.next.length) l]:=by
 simp [pnx,zbJ,zM,zaA]
theorem pnx_under (ss:List Sys) (a p:Aut) (x l:Nat) :
  pnx (ss.map zeh++[zbJ a,zbJ p]) x l=(nx ss (x / p.next.length / a.next.length) l).1.map fun y=>y*a.next.length*p.next.length+(aGo a (x / p.next.length % a.next.length) l*p.next.length+aGo p (x % p.next.length) l):=by
 have b:zM [zbJ a,zbJ p]=a.next.length*p.next.length:=by simp [zM,zaA,zbJ]
 rw [zgD,pnx_two,nx_pnx,b,jD,fL p.next.length a.next.length];simp only [fQ,List.map_nil,← List.map_eq_flatMap,iU]
def free:Aut:=⟨0,[[]],[true]⟩
theorem pnx_free (ss:List Sys) (p:Aut) (x l:Nat):pnx (ss.map zeh++[zbJ free,zbJ p]) x l=pnx (ss.map zeh++[zbJ p]) x l:=by
 have a:∀ q l,aGo free q l=q:=fun q l=>by simp [aGo,free]
 rw [zgD,zgD,pnx_two,pnx_one,a];have b:zM [zbJ free,zbJ p]=p.next.length:=by simp [zM,zaA,zbJ,free]
 have c:zM [zbJ p]=p.next.length:=by simp [zM,zaA,zbJ]
 rw [b,c];have d:free.next.length=1:=rfl;rw [d,Nat.mod_one,jP,dW]
def fwd (cs:List (Nat × List Nat)):List Nat:=cs.foldl (fun out c=>out.flatMap fun o=>c.2.map fun x=>o*c.1+x) [0]
theorem zjD (cs:List (Nat × List Nat)) (c:Nat × List Nat):fwd (cs++[c])=(fwd cs).flatMap fun o=>c.2.map fun x=>o*c.1+x:=by simp [fwd]
def chs:List Mem->Nat->Nat->List (Nat × List Nat)
 |[],_,_=>[]
 |m :: r,x,l=>(m.1,m.2 (x / zM r % m.1) l) :: chs r x l
theorem zgB (ms:List Mem) (x l:Nat):(chs ms x l).length=ms.length:=by
 induction ms with
 |nil=>rfl
 |cons m r ih=>simp [chs,ih]
theorem chs_get {ms:List Mem}  {m:Mem}(h:ms[k]?=some m):(chs ms x l)[k]?=some (m.1,m.2 (x / zM (ms.drop (k+1)) % m.1) l):=by
 induction ms generalizing k with
 |nil=>simp at h
 |cons t r ih =>
  cases k with
  |zero=>simp at h;subst h;simp [chs]
  |succ k=>simp at h;simpa [chs] using ih h
theorem foldl_pnx (ms:List Mem) (x l:Nat) (out:List Nat):(chs ms x l).foldl (fun out c=>out.flatMap fun o=>c.2.map fun x=>o*c.1+x) out=out.flatMap fun o=>(pnx ms x l).map fun y=>o*zM ms+y:=by
 induction ms generalizing out with
 |nil=>simp [chs,pnx,zM,zaA]
 |cons m r ih =>
  rw [chs,iG,ih,pnx,List.flatMap_assoc]
  congr 1
  funext o
  rw [List.flatMap_map,List.map_flatMap]
  congr 1
  funext q
  rw [List.map_map]
  congr 1
  funext y
  simp only [Function.comp,zdZ];rw [iT,iU,iB]
theorem fwd_pnx (ms:List Mem) (x l:Nat):fwd (chs ms x l)=pnx ms x l:=by
 have:=foldl_pnx ms x l [0];simpa [fwd] using this
theorem flat_len {α β:Type} {l:List α} {f:α->List β} (h:∀ x∈l,(f x).length<=k):(l.flatMap f).length<=l.length*k:=by
 induction l with
 |nil=>simp
 |cons x r ih =>
  have a:=ih fun y hy=>h y (by simp [hy]);have b:=h x sM;rw [jX,dS,fY,iT,Nat.one_mul];omega
theorem fwd_len {cs:List (Nat × List Nat)}(h:∀ c∈cs,c.2.length<=c.1):(fwd cs).length<=zaA (cs.map Prod.fst):=by
 have a:∀ n,n<=cs.length->(fwd (cs.take n)).length<=zaA ((cs.take n).map Prod.fst):=by
  intro n
  induction n with
  |zero=>intro _;simp [fwd,zaA]
  |succ n ih =>
   intro hn;have b:cs[n]?=some cs[n]:=dF oM;rw [dN,b];simp only [eG];rw [zjD,eP,zdF];refine dO (flat_len (k:=(cs[n]).2.length) fun x _=>sM) ?_;refine Nat.mul_le_mul (ih oM) ?_;simpa [zaA] using h cs[n] (gI _)
 have:=a cs.length (dG _);rwa [eN] at this
theorem fwd_lt {cs:List (Nat × List Nat)}(h:∀ c∈cs,∀ x∈c.2,x<c.1):∀ y∈fwd cs,y<zaA (cs.map Prod.fst):=by
 have b:∀ n,n<=cs.length->∀ y∈fwd (cs.take n),y<zaA ((cs.take n).map Prod.fst):=by
  intro n
  induction n with
  |zero=>intro _ y a;simp [fwd] at a;subst a;simp [zaA]
  |succ n ih =>
   intro hn y a;have f:cs[n]?=some cs[n]:=dF oM;rw [dN,f] at a ⊢;simp only [eG] at a ⊢;rw [zjD] at a;rw [eP,zdF];obtain⟨o,g,a⟩:=List.mem_flatMap.1 a;obtain⟨x,hx,rfl⟩:=List.mem_map.1 a;have d:=ih oM o g;have i:=h cs[n] (gI _) x hx;simp only [fQ,List.map_nil,zaA,jA]
   calc o*(cs[n]).1+x<o*(cs[n]).1+(cs[n]).1:=oM
    _=(o+1)*(cs[n]).1:=by rw [iT,Nat.one_mul]
    _<=_:=jM _ d
 have:=b cs.length (dG _);rwa [eN] at this
theorem zeJ {s:Sys}(h:Sml s):zeB (zeh s):=⟨by have:=h.1;simp only [zeh];omega,fun q l hq hl x hx=>cho_lt h hq x hx⟩
theorem zl {a:Aut}(h:zj a=true):(0<=a.al∧a.al<=63)∧(1<=a.next.length∧a.next.length<=12)∧a.acc.length=a.next.length∧∀ (q:Nat) (row:List Int),a.next[q]?=some row->row.length=(letters a.al.toNat 6).length∧∀ x∈row,0<=x∧x<a.next.length:=by
 simp only [zj,dJ,decide_eq_true_eq,eL] at h;obtain⟨b,c,d,f⟩:=h;refine⟨b,c,d,fun q row hr=>?_⟩;have:=f row (dE hr);simp only [rowB,dJ,decide_eq_true_eq,eL] at this;exact this
theorem place_lt {a:Nat}(hl:l<6)(hb:a.testBit l=true):place a l<(letters a 6).length:=by
 have b:∀ n,l+1<=n->place a l<(letters a n).length:=by
  intro n
  induction n with
  |zero=>intro h;omega
  |succ n ih =>
   intro h;rw [zby,dS]
   by_cases e:n=l
   ·subst e;simp [place,hb]
   ·have:=ih oM;omega
 exact b 6 oM
theorem zdP {a:Aut}(h:zj a=true) {q:Nat}(hq:q<a.next.length)(hl:l<6):aGo a q l<a.next.length:=by
 obtain⟨_,_,_,g⟩:=zl h;unfold aGo;split
 ·rename_i hb;have b:a.next[q]?=some a.next[q]:=dF hq;obtain⟨d,f⟩:=g q _ b;have c:=place_lt hl hb;rw [← d] at c;have hx:=f _ (gI c);simp only [dK,b,Option.getD_some,dF c];omega
 ·exact hq
theorem zbK {a:Aut}(h:zj a=true):zeB (zbJ a):=⟨(zl h).2.1.1,fun q l hq hl x hx=>by
 simp only [zbJ,eT] at hx ⊢
 subst hx
 exact zdP h hq hl⟩
theorem zdW:zj free=true:=dM
theorem wrap_pow2 {t:Nat}(ht:t<32):wrap64 ((2:Int) ^ t)=((2 ^ t:Nat):Int):=by
 have a:=(Sm.bit ht).lt;have e:(2:Int) ^ t=((2 ^ t:Nat):Int):=sM;rw [e];generalize (2:Nat) ^ t=p at *;unfold wrap64;omega
theorem zgG (n:Nat)(hn:n<32) (w:World) :
  Calls Tryz.prog 241 #[n] w fun e w'=>e=.returned (.int .i64 (2 ^ n:Nat))∧w=w':=by
 have c:IntKind.u64.wrap (n:Int)=n:=by rw [IntKind.wrap_u64];omega
 have a:(n:Int)<=64:=oM;have b:=za (wrap_pow2 hn)
 go_enter Tryz.func241,Tryz.ntmps241
 go_wp2;go_ret;exact⟨zJ (by rw [← b.out]),rfl⟩
def zbN (es:List Edg) (set:Nat) (l:Int):Nat:=es.foldl (fun m e=>if e.le=l∧set.testBit e.fr.toNat=true then m|||2 ^ e.ta.toNat else m) 0
theorem stepB_snoc (es:List Edg) (e:Edg) (set:Nat) (l:Int):zbN (es++[e]) set l=if e.le=l∧set.testBit e.fr.toNat=true then zbN es set l|||2 ^ e.ta.toNat else zbN es set l:=by simp [zbN]
theorem zee (es:List Edg) (set:Nat) (l:Int) (k:Nat):(zbN es set l).testBit k=true↔∃ e∈es,(e.le=l∧set.testBit e.fr.toNat=true)∧e.ta.toNat=k:=by
 have:=foldl_bit es (fun e=>e.le=l∧set.testBit e.fr.toNat=true) 0 k;simpa [zbN] using this
theorem zka {es:List Edg}(h:Few n es) (set:Nat) (l:Int):zbN es set l<2 ^ n:=by
 apply jR;intro k hk;rw [eQ];intro hb;obtain⟨e,a,_,b⟩:=(zee es set l k).1 hb;have:=h e a;omega
theorem zfL {s:Sys} {set:Nat} {l:Int} {k0:Nat} (h:zP w lo hi A n s)(hf:Few k0 s.edges)(hk0:k0<=16)(hset:Sm set) :
  Calls Tryz.prog 221 #[.agg #[s.al,s.st,.slice A n c],set,l] w fun e w'=>e=.returned (.int .i64 (zbN s.edges set l:Nat))∧Ext w w':=by
 have X:=h.2.len;have M:=za h.1;have F:=za (fun W (hW:Ext w W)=>h.2.ext hW);have G:=za hf;clear hf
 go_enter Tryz.func221,Tryz.ntmps221
 go_wp2
 go_loopw [7,8] (fun v i wr=>∃ k:Nat,k<=n∧i=.int .i64 k∧∃ y:Nat,v=.int .i64 y∧Sm y∧Hid (y=zbN (s.edges.take k) set l)∧Ext w wr∧Ext (w.alloc (.cells #[s.al,s.st,.slice A n c] 38)) wr) (fun _ i _=>n - (intOf i).toNat)
 case atStart=>exact⟨0,dI _,rfl,0,rfl,tM,rfl,(Ext.refl _).alloc _,Ext.refl _⟩
 case round =>
  obtain⟨k,V,rfl,y,rfl,D,g,d,a⟩:=hrel;have S:=fun j=>zdk (j:=j) a
  by_cases hlt:k<n
  ·obtain⟨b,o,x,rfl,_,_,hx,H,R,I⟩:=(F.out wr d).edge hlt;obtain⟨⟨J,L⟩,⟨T,U⟩,⟨O,Q⟩⟩:=G.out x (dE hx.out);have p:=za (show s.edges.take (k+1)=s.edges.take k++[x] by rw [dN,hx.out];rfl);obtain⟨f,q⟩:∃ f:Nat,x.fr=f:=⟨x.fr.toNat,oM⟩;obtain⟨t,B⟩:∃ t:Nat,x.ta=t:=⟨x.ta.toNat,oM⟩;rw [q] at H J L;rw [B] at I O Q;have r:=za (stepB_snoc (s.edges.take k) x set l)
   by_cases hle:x.le=l
   ·have z:(x.le==l)=true:=by simp [hle]
    have m:=za hle;clear hle;cases hb:set.testBit f
    ·have u:=za hb;clear hb;go_wp2_with (go_at_call 140;refine (zax set f hset _ oM).mono ?_;rw [u.out];rintro e w' ⟨rfl,rfl⟩)
     go_roundw
     case rel=>exact⟨k+1,oM,gM,y,rfl,D,by unfold Hid;rw [p.out,r.out,if_neg (by rintro ⟨_,C⟩;rw [q] at C;simp [u.out] at C)];exact g.out,d,a⟩
     case measure=>simp [intOf];omega
    ·have u:=za hb;clear hb;have E:=za (show bits .or .i64 (y:Nat) ((2:Int) ^ t)=((y|||2 ^ t:Nat):Int) by have:=zcm D (Sm.bit (n:=t) oM);rw [show (((2:Nat) ^ t:Nat):Int)=(2:Int) ^ t by simp] at this;exact this);go_wp2_with (first
      |(go_at_call 140;refine (zax set f hset _ oM).mono ?_;rw [u.out];rintro e w' ⟨rfl,rfl⟩)
      |(go_at_call 241;refine (zgG t oM _).mono ?_;rintro e w' ⟨rfl,rfl⟩))
     go_roundw
     case rel=>exact⟨k+1,oM,gM,y|||2 ^ t,by rw [E.out],D.or (Sm.bit oM),by unfold Hid;rw [p.out,r.out,if_pos ⟨m.out,by rw [q];simpa using u.out⟩,← g.out,B];rfl,d,a⟩
     case measure=>simp [intOf];omega
   ·have z:(x.le==l)=false:=by simp [hle]
    have m:=za hle;clear hle;go_wp2;go_roundw
    case rel=>exact⟨k+1,oM,gM,y,rfl,D,by unfold Hid;rw [p.out,r.out,if_neg (by rintro ⟨C,_⟩;exact m.out C)];exact g.out,d,a⟩
    case measure=>simp [intOf];omega
  ·obtain rfl:n=k:=oM;go_wp2;go_ret;exact⟨zJ (by rw [g.out,M.out,eN]),d⟩
theorem Reads.nat {l:List Nat}(h:Reads w lo hi 1 A n (zav l))(hk:k<n):∃ ad x,A=some ad∧lo<=ad.block∧ad.block<hi∧Hid (l[k]?=some x)∧w.cell? (ad.add k)=some (.int .i64 (x:Nat)):=by
 have e:zav l=ints (l.map fun n:Nat=>(n:Int)):=by simp [zav,ints]
 rw [e] at h;obtain⟨ad,x,b,f,d,hx,c⟩:=h.int hk;have a:=hx.out;rw [dT] at a;cases hq:l[k]? with
 |none=>rw [hq] at a;simp at a
 |some q =>
  rw [hq] at a;simp at a;exact⟨ad,q,b,f,d,rfl,by rw [c,a]⟩
def MovAt (w:World) (b:Nat) (es:List Edg):Prop:=∀ i l:Nat,i<16->l<6->w.cell? ⟨b,i*6+l,none⟩=some (.int .i64 (succ es i l:Nat))
theorem MovAt.ext {es:List Edg}(h:MovAt w b es)(hb:Ext w w'):MovAt w' b es:=fun i l hi hl=>hb.aa (h i l hi hl)
theorem bits_andNot {a:Nat}(ha:Sm a)(hb:Sm b):bits .andNot .i64 (a:Int) (b:Int)=(diff a b:Nat):=by
 have c:=ha.lt;have d:=hb.lt;have f:=diff_le a b;show IntKind.i64.wrap ((BitVec.ofInt 64 (a:Int)&&&~~~ BitVec.ofInt 64 (b:Int)).toNat:Int)=_;have e:(BitVec.ofInt 64 (a:Int)&&&~~~ BitVec.ofInt 64 (b:Int)).toNat=diff a b:=by
  apply fO;intro k;rw [zjz,BitVec.toNat_and,fX,zcL a oM,BitVec.testBit_toNat,BitVec.getLsbD_not,← BitVec.testBit_toNat,zcL b oM]
  by_cases hk:k<64
  ·simp [hk]
  ·simp only [hk,decide_false,Bool.false_and,iW];rw [zgs ha oM];rfl
 rw [e,IntKind.wrap_i64];omega
def MovB (w:World) (b:Nat) (es:List Edg):Prop:=∃ cs,Blk w b 282 cs∧∀ i l:Nat,i<16->l<6->cs[i*6+l]?=some (.int .i64 (succ es i l:Nat))
theorem MovB.at_ {es:List Edg}(h:MovB w b es):MovAt w b es:=by
 obtain⟨d,a,c⟩:=h;exact fun i l hi hl=>by rw [a.cell,c i l hi hl]
theorem MovB.ext {es:List Edg}(h:MovB w b es)(hx:Ext w w'):MovB w' b es:=by
 obtain⟨a,c,d⟩:=h;exact⟨a,c.ext hx,d⟩
theorem zero_mov (w:World):(zeroValue 282).run Tryz.prog w=.ok (.agg (Array.replicate 96 (.int .i64 0))) w:=kM
theorem wrap_pow {t:Nat}(ht:t<32):wrap64 ((2:Int) ^ t)=((2 ^ t:Nat):Int):=by
 have a:=(Sm.bit ht).lt;have e:(2:Int) ^ t=((2 ^ t:Nat):Int):=sM;rw [e];generalize (2:Nat) ^ t=p at *;unfold wrap64;omega
theorem mov_store {es:List Edg} {f t:Nat}(hcs:∀ i l:Nat,i<16->l<6->cs[i*6+l]?=some (.int .i64 (succ es i l:Nat)))(hs:Sm (succ es f g))(ht:t<16)(hf:f<16)(hg:g<6)(hi:i<16)(hl:l<6) :
  (cs.setIfInBounds (f*6+g) (.int .i64 (bits .or .i64 (succ es f g:Nat) (wrap64 (2 ^ t)))))[i*6+l]?=some (.int .i64 ((if (f:Int)=i∧(g:Int)=l then succ es i l|||2 ^ (t:Int).toNat else succ es i l:Nat))):=by
 rw [wrap_pow oM,zcm hs (Sm.bit oM),Array.getElem?_setIfInBounds]
 by_cases he:f*6+g=i*6+l
 ·have c:f=i:=oM;have d:g=l:=oM;subst c;subst d;have b:f*6+g<cs.size:=by
   rcases e8 (f*6+g) cs.size with a|a
   ·exact a
   ·have:=hcs f g hf hg;rw [Array.getElem?_eq_none a] at this;cases this
  rw [if_pos rfl,if_pos b,if_pos ⟨rfl,rfl⟩];rfl
 ·rw [if_neg he,hcs i l hi hl,if_neg];rintro ⟨a,h⟩;exact he oM
theorem zdA {s:Sys} (h:zP w lo hi A n s)(hf:Few 16 s.edges) :
  Calls Tryz.prog 227 #[.agg #[s.al,s.st,.slice A n c]] w fun e w'=>∃ b,e=.returned (.pointer (some ⟨b,0,none⟩))∧w.heap.size<=b∧MovB w' b s.edges∧Ext w w':=by
 have hn:=h.2.len;have hL:=za h.1;have O:=fun W (hW:Ext w W)=>h.2.ext hW;have V:=za O;clear O;have J:=za hf;clear hf
 go_enter Tryz.func227,Tryz.ntmps227
 have S:=zero_mov;generalize hzz:Array.replicate 96 (Value.int .i64 0)=U at S;have Y:=za hzz;clear hzz;go_wp2_with (simp only [S])
 go_loopw [10] (fun i wr=>∃ k:Nat,k<=n∧i=.int .i64 k∧MovB wr (w.heap.size+1) (s.edges.take k)∧Ext w wr) (fun i _=>n - (intOf i).toNat)
 case atStart=>exact⟨0,dI _,rfl,⟨U,by have:=Blk.new (w.alloc (.cells #[s.al,s.st,.slice A n c] 38)) 282 U;simpa using this,fun i l hi hl=>by rw [← Y.out,Array.getElem?_replicate,if_pos oM];rfl⟩,((Ext.refl _).alloc _).alloc _⟩
 case round =>
  obtain⟨k,hk,rfl,d,q⟩:=hrel
  by_cases hlt:k<n
  ·obtain⟨b,o,x,rfl,ai,ah,hx,Z,c1,c2⟩:=(V.out wr q).edge hlt;obtain⟨⟨L,C⟩,⟨M,D⟩,⟨T,E⟩⟩:=J.out x (dE hx.out);obtain⟨f,hf⟩:∃ f:Nat,x.fr=f:=⟨x.fr.toNat,oM⟩;obtain⟨g,hg⟩:∃ g:Nat,x.le=g:=⟨x.le.toNat,oM⟩;obtain⟨t,R⟩:∃ t:Nat,x.ta=t:=⟨x.ta.toNat,oM⟩;rw [hf] at Z L C;rw [hg] at c1 M D;rw [R] at c2 T E;have v:f<16:=oM;have y:g<6:=oM;have I:t<16:=oM;clear L C M D T E;obtain⟨cs,r,u⟩:=d;have H:Sm (succ (s.edges.take k) f g):=succ_sm (n:=16) (fun e he=>J.out e (List.mem_of_mem_take he)) oM f g;go_wp2;have z:=(Ext.refl wr).alloc (.cells #[f,g,t] 152);have m:=Blk.new wr 152 #[f,g,t];generalize hq:wr.alloc _=p at *;clear hq;have a:=r.ext z;have hd:p.cell? ⟨w.heap.size+1,f*6+g,none⟩=some (.int .i64 (succ (s.edges.take k) f g:Nat)):=by rw [a.cell,u f g v y]
   have G:=a.frozen (f*6+g);have q0:=m.cell 0;have q1:=m.cell 1;have q2:=m.cell 2
   go_still_tail 16,(by kernel_rfl)
   have C:(f:Int)<16:=oM;have D:(g:Int)<6:=oM;have E:(t:Int)<=64:=oM
   repeat (refine wpStill_step (fun K hK=>?_);go_simp;(try simp only [C,D,E,if_true]);refine hK _ ?_;clear hK K)
   refine wpStill_nil ?_;change wpList _ _ _ _ _ p.drew;have ag:p.drew.cell? ⟨w.heap.size+1,f*6+g,none⟩=some (.int .i64 (succ (s.edges.take k) f g:Nat)):=hd;have Q:p.drew.frozen? ⟨w.heap.size+1,f*6+g,none⟩=false:=G;have j:Blk p.drew (w.heap.size+1) 282 cs:=a;have B:Ext wr p.drew:=z.drew;generalize p.drew=w2 at *;have X:=za (succ_snoc (s.edges.take k) x);have F:=za (show s.edges.take (k+1)=s.edges.take k++[x] by rw [dN,hx.out];rfl);go_wp2;go_roundw
   case rel=>exact⟨k+1,oM,gM,⟨_,j.ab (f*6+g) _,fun i l hi hl=>by
    rw [F.out,X.out,hf,hg,R];exact mov_store u H I v y hi hl⟩,(q.trans B).setCell (by dsimp only;omega) _⟩
   case measure=>simp [intOf];omega
  ·obtain rfl:k=n:=oM;go_wp2;go_ret;rw [hL.out,eN] at d;exact⟨_,rfl,oM,d,q⟩
theorem zhy (R:List Nat) (i v:Nat):zav (R.set i v)=(zav R).set i (.int .i64 (v:Nat)):=by simp [zav,List.map_set]
end Go.Proofs.YtcfchopfijalpaaGreatDoor
