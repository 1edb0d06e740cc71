/- Plain lemmas -/
import Derived.WalkKit
import Derived.WalkSpells
import Derived.WalkLawsBesides
import Derived.BigQuiet
import Derived.Deep.QuietTactic
import Derived.Deep.RegionWith
import Derived.Deep.RegionHeld3
import Derived.Deep.AppendLies
import Derived.Deep.Draws
import Derived.Laws.OwnMore
import Derived.Laws.BitsAllLaws
import Derived.Laws.BitsLemmas
import Derived.Maps.AppendAt
import Derived.Test.YtckbjnndaaoddaaGreatDoorRows
import Derived.OrdersHeld
import Derived.ProofKit
import Derived.Deep.Slices
import Derived.Deep.Fields
import Derived.ChangeSame
import Derived.ChangeArms
import Derived.Lib.SmallJoins
import Derived.OpenShut
import Derived.ShutString
import Derived.ChangeOld
import Derived.Lib.TrailingZeros
import Derived.Shelf.Spec.TrailingZeros
import Derived.Lib.LaidTab
import Derived.LaidMore
import Derived.Stop.Joined
import Derived.Stop.LaidErr
import Derived.Lib.SliceRun
import Derived.Deep.DeepCutAuto
import Derived.IntWalk
set_option maxHeartbeats 2000000
set_option maxRecDepth 100000
namespace Go.Proofs.YtckbjnndaaoddaaGreatDoor
open Go Go.RowKit
open Bool renaming and_eq_true->dI
open Int renaming natCast_emod->gC
open List renaming eq_nil_of_length_eq_zero->dU,getElem?_append_left->dJ,getElem?_append_right->dP,getElem?_cons_succ->jL,getElem?_eq_getElem->dD,getElem?_map->dS,getElem?_toArray->eP,length_append->dN,mem_of_getElem?->dC,nil_append->eG,take_add_one->dO,take_of_length_le->dK
open Nat renaming add_assoc->fW,add_zero->gR,and_le_left->fX,div_le_self->hY,eq_of_testBit_eq->fV,eq_zero_or_pos->gO,le_refl->dE,le_trans->dL,lt_of_le_of_lt->iU,lt_of_lt_of_le->dY,lt_or_eq_of_le->eF,lt_or_ge->eL,mul_one->jN,pow_le_pow_right->dV,testBit_eq_decide_div_mod_eq->jR,testBit_succ->iC,testBit_two_pow_mul_add->iA,two_pow_pos->iY,zero_add->dW,zero_le->dG,zero_testBit->iD
open Option renaming map_eq_some_iff->fQ
instance cN011:Coe Int Value:=⟨fun x=>.int .i64 x⟩
instance cN012:Coe Nat Value:=⟨fun x=>.int .i64 (x:Int)⟩
instance cN013:Coe Unit Value:=⟨fun _=>.slice none 0 0⟩
instance cN014:Coe ByteArray Value:=⟨fun x=>.string x⟩
instance cN015:Coe Nat Addr:=⟨fun x=>⟨x,0,none⟩⟩
theorem oM {P:Prop}(h:P:=by omega):P:=h
theorem dM {P:Prop}(h:P:=by decide):P:=h
theorem sM {P:Prop}(h:P:=by simp):P:=h
theorem gM {P:Prop}(h:P:=by go_num):P:=h
theorem aM {P:Prop}(h:P:=by assumption):P:=h
theorem kM {P:Prop}(h:P:=by kernel_rfl):P:=h
theorem lM {P:Prop}(h:P:=by unfold maxLen;omega):P:=h
theorem tM {P:Prop}(h:P:=by unfold Sm;omega):P:=h
theorem oH {A P:Prop}(a:A)(h:A->P:=by intro _;omega):P:=h a
theorem mQ {v:Ending}{R:World->Prop}{Q:Ending->World->Prop}(k:∀ w,R w->Q v w):∀ e w,e=v∧R w->Q e w:=fun _ w h=>h.1 ▸ k w h.2
variable {A A':Option Addr} {M R base base' c c' cap g hi hi' i id j k lo lo' n n' x:Nat} {S:Nat->Prop} {W b w w':World} {a:Act} {cs ds:Array Value} {e t u:TypeId} {l:List Int} {ls:List (List Int)} {p:Addr} {rest:List Nat} {rows xs:List Value} {v:Value}
theorem za {p:Prop}(h:p):Hid p:=h
structure Bx (p:Prop):Prop where
 out:p
theorem pT {A B:Prop}(h:B) (k:Bx B->A:=by
 intro h0
 try simp only [Act.put,List.setIfInBounds_toArray,List.set_cons_zero,List.set_cons_succ]
 exact h0.out):A:=k ⟨h⟩
theorem zhN (a:Addr) (n:Nat):(a.add n).block=a.block:=by unfold Addr.add;split<;>rfl
theorem addr_zero (a:Addr):a.add 0=a:=by simp [Addr.add]
theorem zX (g o n:Nat):(⟨g,o,none⟩:Addr).add n=⟨g,o+n,none⟩:=by unfold Addr.add;split<;>simp_all
structure Frm (S:Nat->Prop) (w w':World):Prop where
 os:w'.os=w.os
 tape:w'.tape=w.tape
 output:w'.output=w.output
 size:w.heap.size<=w'.heap.size
 block:∀ k,k<w.heap.size->¬ S k->w'.heap[k]?=w.heap[k]?
def Ext (w w':World):Prop:=Frm (fun _=>False) w w'
theorem Ext.refl (w:World):Ext w w:=⟨rfl,rfl,rfl,dE _,fun _ _ _=>rfl⟩
theorem Ext.trans {a c:World}(h:Ext a b) (k:Ext b c):Ext a c:=
 ⟨k.os.trans h.os,k.tape.trans h.tape,k.output.trans h.output,dL h.size k.size,fun i hi hn=>(k.block i (dY hi h.size) hn).trans (h.block i hi hn)⟩
theorem Ext.drew {a:World}(h:Ext a w):Ext a w.drew:=⟨h.os,h.tape,h.output,h.size,h.block⟩
theorem Ext.drewN {a:World}(h:Ext a w) (n:Nat):Ext a (w.drewN n):=⟨h.os,h.tape,h.output,h.size,h.block⟩
theorem Ext.alloc {a:World}(h:Ext a w) (o:Obj):Ext a (w.alloc o):=
 h.trans ⟨rfl,rfl,rfl,sM,fun k hk _=>Below.heap_alloc _ _ _ hk⟩
theorem Ext.setCell {a:World}(h:Ext a w) (hp:a.heap.size<=p.block) (u:Value):Ext a (w.setCell p u):=
 ⟨h.os,h.tape,h.output,by simpa [World.setCell] using h.size,fun k hk hn=>(Below.heap_setCell _ _ _ _ oM).trans (h.block k hk hn)⟩
theorem Ext.grown {a:World} {row:Option Nat}(h:Ext a w)(hg:w.grownBy w' row)(hr:∀ k,row=some k->a.heap.size<=k):Ext a w':=
 ⟨hg.os.trans h.os,hg.tape.trans h.tape,hg.output.trans h.output,dL h.size hg.size,
  fun k hk hn=>(hg.block k (dY hk h.size) (fun e=>by have:=hr k e.symm;omega)).trans (h.block k hk hn)⟩
theorem Ext.heap (h:Ext w w') (hk:k<w.heap.size):w'.heap[k]?=w.heap[k]?:=h.block k hk id
theorem Ext.cell (h:Ext w w') (hp:p.block<w.heap.size):w'.cell? p=w.cell? p:=World.cell?_of_block (w:=w) (h.heap hp)
theorem Ext.aa (h:Ext w w')  (hv:w.cell? p=some v):w'.cell? p=some v:=
 (h.cell (World.block_lt_of_cell? w p hv)).trans hv
def Blk (w:World) (g:Nat) (t:TypeId) (cs:Array Value):Prop:=w.heap[g]?=some (.cells cs t (0,0))
section
variable {w w':World} {g:Nat} {t:TypeId} {cs:Array Value}
theorem Blk.lt (h:Blk w g t cs):g<w.heap.size:=by
 rcases eL g w.heap.size with hlt|a
 ·exact hlt
 ·unfold Blk at h;rw [Array.getElem?_eq_none a] at h;cases h
theorem Blk.cell (h:Blk w g t cs) (i:Nat):w.cell? ⟨g,i,none⟩=cs[i]?:=cell_of_row w g i cs t (0,0) h
theorem Blk.frozen (h:Blk w g t cs) (i:Nat):w.frozen? ⟨g,i,none⟩=false:=by
 unfold Blk at h;simp [World.frozen?,h]
theorem Blk.new (w:World) (t:TypeId) (cs:Array Value):Blk (w.alloc (.cells cs t)) w.heap.size t cs:=heap_alloc_new w _
theorem Ext.eq_ {a b:World}(h:a=b):Ext a b:=h ▸ Ext.refl a
theorem Ext.bl_ {V W:World}{c:Array Value}{t:TypeId}(h:V.alloc (.cells c t)=W):Blk W V.heap.size t c:=h ▸ Blk.new V t c
theorem Ext.al_ {V W:World}{o:Obj}(h:V.alloc o=W):Ext V W:=h ▸ (Ext.refl V).alloc o
theorem Blk.ext (h:Blk w g t cs)(hb:Ext w w'):Blk w' g t cs:=(hb.heap h.lt).trans h
theorem Ext.x1_ {w W:World}{c:Array Value}{t:TypeId}(h:w.alloc (.cells c t)=W):Ext w W∧Blk W w.heap.size t c:=⟨Ext.al_ h,Ext.bl_ h⟩
theorem Ext.x2_ {w W:World}{c d:Array Value}{t u:TypeId}(h:(w.alloc (.cells c t)).alloc (.cells d u)=W):Ext w W∧Blk W w.heap.size t c∧Blk W (w.heap.size+1) u d:=by
 have a:=Ext.x1_ (w:=w) (c:=c) (t:=t) rfl;have b:=Ext.x1_ h;rw [World.size_alloc] at b;exact⟨a.1.trans b.1,Blk.ext a.2 b.1,b.2⟩
theorem Ext.x3_ {w W:World}{c d e:Array Value}{t u v:TypeId}(h:((w.alloc (.cells c t)).alloc (.cells d u)).alloc (.cells e v)=W):Ext w W∧Blk W w.heap.size t c∧Blk W (w.heap.size+1) u d∧Blk W (w.heap.size+1+1) v e:=by
 have a:=Ext.x1_ (w:=w) (c:=c) (t:=t) rfl;have b:=Ext.x2_ h;rw [World.size_alloc] at b;exact⟨a.1.trans b.1,Blk.ext a.2 b.1,b.2⟩
theorem Ext.x4_ {w W:World}{c d e f:Array Value}{t u v x:TypeId}(h:(((w.alloc (.cells c t)).alloc (.cells d u)).alloc (.cells e v)).alloc (.cells f x)=W):Ext w W∧Blk W w.heap.size t c∧Blk W (w.heap.size+1) u d∧Blk W (w.heap.size+1+1) v e∧Blk W (w.heap.size+1+1+1) x f:=by
 have a:=Ext.x1_ (w:=w) (c:=c) (t:=t) rfl;have b:=Ext.x3_ h;rw [World.size_alloc] at b;exact⟨a.1.trans b.1,Blk.ext a.2 b.1,b.2⟩
theorem Blk.cells (h:Blk w g t cs):∀ W,Ext w W->∀ i,W.cell? ⟨g,i,none⟩=cs[i]?:=fun _ hW=>(h.ext hW).cell
theorem Blk.frm (h:Blk w g t cs)(hb:Frm S w w')(hg:¬ S g):Blk w' g t cs:=(hb.block g h.lt hg).trans h
theorem Blk.ae (h:Blk w g t cs) (i:Nat) (u:Value):Blk (w.setCell ⟨g,i,none⟩ u) g t (cs.setIfInBounds i u):=by
 unfold Blk at h ⊢;simp [World.setCell,Array.getElem?_modify,h]
end
theorem Blk.diff {h:Nat}   (a:Blk w g t cs) (b:Blk w h u ds)(hne:t≠u):g≠h:=by
 rintro rfl;unfold Blk at a b;rw [a] at b;injection b with b
 injection b with _ b
 exact hne b
theorem zbP (h:Ext (w.alloc (.cells cs t)) w'):Blk w' w.heap.size t cs:=(Blk.new w t cs).ext h
theorem zM (h:Ext ((w.alloc (.cells cs t)).alloc (.cells ds u)) w'):Blk w' w.heap.size t cs∧Blk w' (w.heap.size+1) u ds:=by
 refine⟨zbP (((Ext.refl _).alloc _).trans h),?_⟩;have:=zbP h;simpa using this
theorem zR {es:Array Value} {v:TypeId}(h:Ext (((w.alloc (.cells cs t)).alloc (.cells ds u)).alloc (.cells es v)) w'):Blk w' w.heap.size t cs∧Blk w' (w.heap.size+1) u ds∧Blk w' (w.heap.size+1+1) v es:=by
 have h2:=zM (((Ext.refl _).alloc _).trans h);refine⟨h2.1,h2.2,?_⟩;have:=zbP h;simpa using this
theorem Blk.far (h:Blk w g t cs) (hp:g≠p.block) (u:Value):Blk (w.setCell p u) g t cs:=(Below.heap_setCell w p u g hp).trans h
theorem zcz (h:Ext (w.alloc (.cells cs t)) w'):∀ j,w'.cell? ⟨w.heap.size,j,none⟩=cs[j]?:=(zbP h).cell
def Reads (w:World) (lo hi size:Nat) (A:Option Addr) (n:Nat) (xs:List Value):Prop:=
 xs.length=n*size∧n<=9223372036854775807∧(0<n->∃ ad,A=some ad∧lo<=ad.block∧ad.block<hi∧∀ j u,xs[j]?=some u->w.cell? (ad.add j)=some u)
section
variable {w w':World} {lo hi size n:Nat} {A:Option Addr} {xs:List Value}
theorem Reads.nil:Reads w lo hi size A 0 []:=⟨sM,oM,fun h=>absurd h oM⟩
theorem Reads.len (h:Reads w lo hi size A n xs):n<=9223372036854775807:=h.2.1
theorem Reads.length (h:Reads w lo hi size A n xs):xs.length=n*size:=h.1
theorem Reads.at_ (h:Reads w lo hi size A n xs)(hk:k<n):∃ ad,A=some ad∧lo<=ad.block∧ad.block<hi∧∀ j u,xs[j]?=some u->w.cell? (ad.add j)=some u:=h.2.2 oM
theorem Reads.one (h:Reads w lo hi 1 A n xs)(hk:k<n):∃ ad u,A=some ad∧lo<=ad.block∧ad.block<hi∧Hid (xs[k]?=some u)∧w.cell? (ad.add k)=some u:=by
 obtain⟨ad,e,c,a,b⟩:=h.2.2 oM;have hx:k<xs.length:=oH h.1;exact⟨ad,xs[k],e,c,a,dD hx,b k _ (dD hx)⟩
theorem Reads.more (h:Reads w lo hi size A n xs)(hL:lo'<=lo)(hH:hi<=hi'):Reads w lo' hi' size A n xs:=
 ⟨h.1,h.2.1,fun hn=>by
  obtain⟨ad,e,hl,hb,hc⟩:=h.2.2 hn
  exact⟨ad,e,oM,oM,hc⟩⟩
theorem Reads.ext (h:Reads w lo hi size A n xs)(hb:Ext w w'):Reads w' lo hi size A n xs:=
 ⟨h.1,h.2.1,fun hn=>by
  obtain⟨ad,e,hl,hi,hc⟩:=h.2.2 hn
  exact⟨ad,e,hl,hi,fun j u hu=>hb.aa (hc j u hu)⟩⟩
theorem Reads.frm (h:Reads w lo hi size A n xs)(hb:Frm S w w')(hS:∀ k,lo<=k->k<hi->¬ S k):Reads w' lo hi size A n xs:=
 ⟨h.1,h.2.1,fun hn=>by
  obtain⟨ad,e,hl,hi,hc⟩:=h.2.2 hn
  refine⟨ad,e,hl,hi,fun j u hu=>?_⟩
  have hcell:=hc j u hu
  have hlt:=World.block_lt_of_cell? w _ hcell
  exact (World.cell?_of_block (w:=w) (hb.block _ hlt (by rw [zhN];exact hS _ hl hi))).trans hcell⟩
theorem Reads.af (h:w.ownsRow base e size (.slice A n c) n xs):Reads w base w.heap.size size A n xs:=by
 rcases h.2 with ⟨o,i⟩|⟨g,d,f,m,k,hg,l,a,_,b⟩
 ·subst i;have hx:xs=[]:=dU (by simpa using h.1);subst hx;exact Reads.nil
 ·have j:A=some ⟨g,0,none⟩:=by injection m
  subst j;exact⟨h.1,by unfold maxLen at a;omega,fun _=>⟨_,rfl,k,(Array.getElem?_eq_some_iff.1 hg).1,h.cells (g:=g) rfl⟩⟩
end
theorem zU {P:Program} (wb w:World) {ops:Array Oper} {rest:List Oper} {o:Oper}  {Q:Exit->Act->World->Prop}(hgd:o.guard=none) (s x:Operand) (t:TypeId)
  (ho:o.op=.call { callee:=.builtin .append,args:=#[s,x],argTypes:=#[t,t] })
  (e:TypeId) (z:Value) (size bytes:Nat) (ht:P.underlying t=some (.slice e)) (hi:(P.info? e).map (fun i=>(i.zero,i.size,i.bytes))=some (some z,size,bytes)) (hzs:z.cells.size=size) (hsz:0<size)
  (v:Value) (n:Nat) (xs:List Value) (us:Array Value) (e':TypeId) (hs:a.eval s=v) (hx:a.eval x=.slice (some w.heap.size) 1 1)
  (zjg:Ext wb w) (zje:w.ownsRow wb.heap.size e size v n xs) (hus:us.size=size) (h1:∀ u∈us.toList,u.oneCell'=true)
  (h63:n+1<=maxLen) (hbytes:(n+1)*bytes<=140737488355328)
  (h:∀ v' w',Ext wb w'->w'.ownsRow wb.heap.size e size v' (n+1) (xs++us.toList)->w.grownBy w' v.ownBlock->(v'.ownBlock=v.ownBlock∨v'.ownBlock=some (w.heap.size+1))->wpList P ops Q rest (a.put o.dst v') w') :
  wpList P ops Q (o :: rest) a (w.alloc (.cells us e')):=by
 obtain⟨i,c,d,f,g⟩:=info_parts hi;refine wpList_append_own_at (w.alloc (.cells us e')) hgd s x t ho wb.heap.size e i z size bytes ht c d f g hzs hsz v n xs hs (zje.alloc _) ⟨w.heap.size,0,none⟩ 1 1 us.toList hx (by simpa using hus) ?_ h1 h63 hbytes (by have:=zjg.size;simp;omega) ?_
 ·intro j u hu;rw [zX,dW,(Blk.new w e' us).cell];simpa using hu
 ·intro v' w' hown' hg _ hat;have b:w.grownBy w' v.ownBlock:=⟨hg.os,hg.tape,hg.output,dL sM hg.size,fun k hk hne=>(hg.block k (by simp;omega) hne).trans (Below.heap_alloc w _ k hk)⟩;exact h v' w' (zjg.grown b (fun k hk=>(zje.lt k hk).1)) hown' b (by simpa using hat)
theorem zbm {P:Program} (wb w:World) {ops:Array Oper} {rest:List Oper} {o:Oper}  {Q:Exit->Act->World->Prop}(hgd:o.guard=none) (l c:Operand) (t:TypeId)(ho:o.op=.makeSlice t l c)
  (e:TypeId) (z:Value) (size bytes:Nat) (ht:P.underlying t=some (.slice e)) (hi:(P.info? e).map (fun i=>(i.zero,i.size,i.bytes))=some (some z,size,bytes))
  (kl kc:IntKind) (n:Nat) (hl:a.eval l=.int kl (n:Int)) (hc:a.eval c=.int kc (n:Int)) (zjg:Ext wb w) (hbytes:n*bytes<=140737488355328) (h63:n<=maxLen)
  (h:∀ w',Ext wb w'->w'.ownsRow wb.heap.size e size (.slice (some w.heap.size) n n) n (madeCells z.cells (n*size)).toList->Ext w w'->w.heap.size<w'.heap.size->wpList P ops Q rest (a.put o.dst (.slice (some w.heap.size) n n)) w') :
  wpList P ops Q (o :: rest) a w:=by
 obtain⟨i,d,f,j,k⟩:=info_parts hi;refine wpList_make_full w hgd l c t ho wb.heap.size e i z size ht d f j kl kc n n n hl hc rfl rfl (by rw [k,Nat.mul_comm];omega) h63 zjg.size ?_;intro w' zje hg;refine h w' (zjg.grown hg sM) zje ((Ext.refl _).grown hg sM) ?_;rcases zje.2 with ⟨b,_⟩|⟨g,m,p,b,_,q,_⟩
 ·simp at b
 ·have:w.heap.size=g:=by injection b with h1;injection h1 with h1;injection h1
  subst this;exact (Array.getElem?_eq_some_iff.1 q).1
theorem zg {size:Nat}   (h:w.ownsRow base e size v n xs):∃ A c,v=.slice A n c:=by
 rcases h.2 with ⟨rfl,d⟩|⟨g,a,b,rfl,_⟩
 ·exact⟨none,0,by rw [d]⟩
 ·exact⟨_,_,rfl⟩
theorem zaL (n:Int):∀ u∈(#[Value.int .i64 n]:Array Value).toList,u.oneCell'=true:=by simp [Value.oneCell']
theorem ziq (n:Int):∀ u∈(#[Value.int .u8 n]:Array Value).toList,u.oneCell'=true:=by simp [Value.oneCell']
theorem zaF (A:Option Addr) (n c:Nat):∀ u∈(#[Value.slice A n c]:Array Value).toList,u.oneCell'=true:=by simp [Value.oneCell']
def ints (l:List Int):List Value:=l.map (Value.int .i64)
theorem zdq (l:List Int):(ints l).length=l.length:=by simp [ints]
def zaw (l:List Bool):List Value:=l.map Value.bool
theorem zdG (l:List Bool):(zaw l).length=l.length:=by simp [zaw]
theorem ints_get {u:Value}(h:(ints l)[k]?=some u):∃ n,l[k]?=some n∧u=.int .i64 n:=by
 simp only [ints,dS,fQ] at h;obtain⟨n,a,rfl⟩:=h;exact⟨n,a,rfl⟩
theorem bools_get {l:List Bool}  {u:Value}(h:(zaw l)[k]?=some u):∃ n,l[k]?=some n∧u=.bool n:=by
 simp only [zaw,dS,fQ] at h;obtain⟨n,a,rfl⟩:=h;exact⟨n,a,rfl⟩
theorem Reads.int (h:Reads w lo hi 1 A n (ints l))(hk:k<n):∃ ad x,A=some ad∧lo<=ad.block∧ad.block<hi∧Hid (l[k]?=some x)∧w.cell? (ad.add k)=some (.int .i64 x):=by
 obtain⟨ad,u,e,d,b,hx,c⟩:=h.one hk;obtain⟨x,a,rfl⟩:=ints_get hx.out;exact⟨ad,x,e,d,b,a,c⟩
theorem Reads.bool {l:List Bool}(h:Reads w lo hi 1 A n (zaw l))(hk:k<n):∃ ad x,A=some ad∧lo<=ad.block∧ad.block<hi∧Hid (l[k]?=some x)∧w.cell? (ad.add k)=some (.bool x):=by
 obtain⟨ad,u,e,d,b,hx,c⟩:=h.one hk;obtain⟨x,a,rfl⟩:=bools_get hx.out;exact⟨ad,x,e,d,b,a,c⟩
def zep (w:World) (lo hi:Nat) (rows:List Value) (ls:List (List Int)):Prop:=
 rows.length=ls.length∧∀ (i:Nat) (row:Value) (l:List Int),rows[i]?=some row->ls[i]?=some l->∃ A c,row=.slice A l.length c∧Reads w lo hi 1 A l.length (ints l)
def zbC (w:World) (lo hi:Nat) (A:Option Addr) (n:Nat) (ls:List (List Int)):Prop:=
 n=ls.length∧∃ rows,Reads w lo hi 1 A n rows∧zep w lo hi rows ls
section
variable {w w':World} {lo hi n k:Nat} {A:Option Addr} {ls:List (List Int)} {rows:List Value}
theorem zep.ext (h:zep w lo hi rows ls)(hb:Ext w w'):zep w' lo hi rows ls:=
 ⟨h.1,fun i row l hr hl=>by
  obtain⟨A,c,e,hx⟩:=h.2 i row l hr hl
  exact⟨A,c,e,hx.ext hb⟩⟩
theorem zbC.ext (h:zbC w lo hi A n ls)(hb:Ext w w'):zbC w' lo hi A n ls:=by
 obtain⟨e,a,b,hx⟩:=h;exact⟨e,a,b.ext hb,hx.ext hb⟩
theorem zep.frm (h:zep w lo hi rows ls)(hb:Frm S w w')(hS:∀ k,lo<=k->k<hi->¬ S k):zep w' lo hi rows ls:=
 ⟨h.1,fun i row l hr hl=>by
  obtain⟨A,c,e,hx⟩:=h.2 i row l hr hl
  exact⟨A,c,e,hx.frm hb hS⟩⟩
theorem zbC.frm (h:zbC w lo hi A n ls)(hb:Frm S w w')(hS:∀ k,lo<=k->k<hi->¬ S k):zbC w' lo hi A n ls:=by
 obtain⟨e,a,b,hx⟩:=h;exact⟨e,a,b.frm hb hS,hx.frm hb hS⟩
theorem zep.more (h:zep w lo hi rows ls)(hL:lo'<=lo)(hH:hi<=hi'):zep w lo' hi' rows ls:=
 ⟨h.1,fun i row l hr hl=>by
  obtain⟨A,c,e,hx⟩:=h.2 i row l hr hl
  exact⟨A,c,e,hx.more hL hH⟩⟩
theorem zbC.more (h:zbC w lo hi A n ls)(hL:lo'<=lo)(hH:hi<=hi'):zbC w lo' hi' A n ls:=by
 obtain⟨e,a,b,hx⟩:=h;exact⟨e,a,b.more hL hH,hx.more hL hH⟩
theorem zbC.len (h:zbC w lo hi A n ls):n<=9223372036854775807:=by
 obtain⟨_,a,b,_⟩:=h;exact b.len
theorem zbC.row (h:zbC w lo hi A n ls)(hk:k<n):∃ ad Ak ck l,A=some ad∧lo<=ad.block∧ad.block<hi∧Hid (ls[k]?=some l)∧w.cell? (ad.add k)=some (.slice Ak l.length ck)∧Reads w lo hi 1 Ak l.length (ints l):=by
 obtain⟨e,b,i,hx⟩:=h;obtain⟨ad,u,c,g,d,j,f⟩:=i.one hk;have hlt:k<ls.length:=oM;obtain⟨Ak,ck,rfl,a⟩:=hx.2 k u ls[k] j.out (dD hlt);exact⟨ad,Ak,ck,ls[k],c,g,d,dD hlt,f,a⟩
end
section
variable {w w':World} {base base' size size' n n':Nat} {e e':TypeId} {v v':Value} {xs xs':List Value}
theorem zh (h:w.ownsRow base e size v n xs)(hb:Ext w w'):w'.ownsRow base e size v n xs:=by
 refine⟨h.1,?_⟩;rcases h.2 with d|⟨g,a,b,f,hg,c,r⟩
 ·exact .inl d
 ·exact .inr ⟨g,a,b,f,hg,(hb.heap (Array.getElem?_eq_some_iff.1 c).1).trans c,r⟩
theorem zf (h:w.ownsRow base e size v n xs)(hb:Frm S w w')(hS:∀ b,v.ownBlock=some b->¬ S b):w'.ownsRow base e size v n xs:=by
 refine⟨h.1,?_⟩;rcases h.2 with i|⟨g,a,c,f,hg,d,r⟩
 ·exact .inl i
 ·exact .inr ⟨g,a,c,f,hg,(hb.block g (Array.getElem?_eq_some_iff.1 d).1 (hS g (by rw [f];rfl))).trans d,r⟩
theorem zbq (h:w.ownsRow base e size v n xs)(hb:Frm S w w')(hS:∀ b,base<=b->¬ S b):w'.ownsRow base e size v n xs:=zf h hb fun b hv=>hS b (h.lt b hv).1
theorem zn (h:w.ownsRow base e size v n xs)(hb:base'<=base):w.ownsRow base' e size v n xs:=by
 refine⟨h.1,?_⟩;rcases h.2 with c|⟨g,a,b,d,hg,r⟩
 ·exact .inl c
 ·exact .inr ⟨g,a,b,d,oM,r⟩
theorem zaI (h:w.ownsRow base e size v n xs)(h':w.ownsRow base' e' size' v' n' xs')(hne:e≠e') {b:Nat}(hb:v.ownBlock=some b):v'.ownBlock≠some b:=by
 rcases h.2 with ⟨rfl,_⟩|⟨g,i,j,rfl,_,l,_⟩
 ·simp [Value.ownBlock] at hb
 ·rcases h'.2 with ⟨rfl,_⟩|⟨k,d,f,rfl,_,a,_⟩
  ·simp [Value.ownBlock]
  ·have c:g=b:=by simpa [Value.ownBlock] using hb
   subst c;intro he;have hg:k=g:=by simpa [Value.ownBlock] using he
   subst hg;rw [l] at a;injection a with a
   injection a with _ ht
   exact hne ht
theorem zaM (h:w.ownsRow base e size (.slice (some g) n cap) n xs) (j:Nat)(hj:j<n*size):∃ u,w.cell? ⟨g,j,none⟩=some u:=by
 have hx:j<xs.length:=by rw [h.1];exact hj
 exact⟨xs[j],by rw [h.cellAt j hj,dD hx]⟩
theorem zeM (h:w.ownsRow base e size v n xs):xs.length=n*size:=h.1
end
theorem Ext.aj (h:Ext w w'):Frm S w w':=⟨h.os,h.tape,h.output,h.size,fun k hk _=>h.block k hk id⟩
theorem Frm.ab {row:Option Nat}(h:w.grownBy w' row):Frm (fun k=>row=some k) w w':=
 ⟨h.os,h.tape,h.output,h.size,fun k hk hn=>h.block k hk (fun e=>hn e.symm)⟩
theorem Frm.setCell (w:World) (g j:Nat) (u:Value):Frm (fun k=>k=g) w (w.setCell ⟨g,j,none⟩ u):=
 ⟨rfl,rfl,rfl,by simp [World.setCell],fun k _ hn=>Below.heap_setCell _ _ _ _ hn⟩
theorem Frm.trans {a c:World}(h:Frm S a b) (k:Frm S b c):Frm S a c:=
 ⟨k.os.trans h.os,k.tape.trans h.tape,k.output.trans h.output,dL h.size k.size,fun i hi hn=>(k.block i (dY hi h.size) hn).trans (h.block i hi hn)⟩
theorem Frm.mono {T:Nat->Prop} {a:World}(h:Frm S a b)(hS:∀ k,k<a.heap.size->S k->T k):Frm T a b:=
 ⟨h.os,h.tape,h.output,h.size,fun k hk hn=>h.block k hk (fun hs=>hn (hS k hk hs))⟩
theorem Frm.refl (S:Nat->Prop) (w:World):Frm S w w:=⟨rfl,rfl,rfl,dE _,fun _ _ _=>rfl⟩
theorem Frm.cell {a:World}(h:Frm S a w) (hp:S p.block) (u:Value):Frm S a (w.setCell p u):=
 ⟨h.os,h.tape,h.output,by simpa [World.setCell] using h.size,fun k hk hn=>(Below.heap_setCell _ _ _ _ (by rintro rfl;exact hn hp)).trans (h.block k hk hn)⟩
theorem Frm.ext {a:World}(h:Frm S a w)(hb:Ext w w'):Frm S a w':=h.trans hb.aj
theorem Ext.frm {a c:World}(h:Ext a b) (k:Frm S b c)(hS:∀ k,k<a.heap.size->¬ S k):Ext a c:=
 ⟨k.os.trans h.os,k.tape.trans h.tape,k.output.trans h.output,dL h.size k.size,fun i hi hn=>(k.block i (dY hi h.size) (hS i hi)).trans (h.block i hi hn)⟩
section
variable {α:Type} {l:List α} {p:α->Bool} {k:Nat} {x:α}
theorem zaH (h:l[k]?=some x)(hp:p x=false):l.all p=false:=
 List.all_eq_false.2 ⟨x,dC h,by simp [hp]⟩
theorem zch (h:l[k]?=some x)(hk:(l.take k).all p=true)(hp:p x=true):(l.take (k+1)).all p=true:=by
 rw [dO,h,List.all_append,hk];simp [hp]
theorem zdF (hk:l.length<=k)(h:(l.take k).all p=true):l.all p=true:=by
 rwa [dK hk] at h
end
def Sm (n:Nat):Prop:=n<4294967296
theorem Sm.lt (h:Sm n):n<4294967296:=h
theorem Sm.or {a b:Nat}(ha:Sm a)(hb:Sm b):Sm (a|||b):=Nat.or_lt_two_pow (n:=32) ha hb
theorem Sm.and_left {a:Nat} (b:Nat)(ha:Sm a):Sm (a&&&b):=iU fX ha
theorem Sm.bit (h:n<32):Sm (2 ^ n):=Nat.pow_lt_pow_right oM h
theorem zcY (a:Nat)(ha:a<9223372036854775808):(BitVec.ofInt 64 (a:Int)).toNat=a:=by
 rw [BitVec.ofInt_natCast,BitVec.toNat_ofNat];exact Nat.mod_eq_of_lt oM
theorem zbO {a b:Nat}(ha:Sm a)(hb:Sm b):bits .and .i64 (a:Int) (b:Int)=((a&&&b:Nat):Int):=by
 have hx:=(Sm.and_left b ha).lt;have:=ha.lt;have:=hb.lt;show IntKind.i64.wrap ((BitVec.ofInt 64 (a:Int)&&&BitVec.ofInt 64 (b:Int)).toNat:Int)=_;rw [BitVec.toNat_and,zcY a oM,zcY b oM,IntKind.wrap_i64];omega
theorem zbE {a b:Nat}(ha:Sm a)(hb:Sm b):bits .or .i64 (a:Int) (b:Int)=((a|||b:Nat):Int):=by
 have hx:=(Sm.or ha hb).lt;have:=ha.lt;have:=hb.lt;show IntKind.i64.wrap ((BitVec.ofInt 64 (a:Int)|||BitVec.ofInt 64 (b:Int)).toNat:Int)=_;rw [BitVec.toNat_or,zcY a oM,zcY b oM,IntKind.wrap_i64];omega
theorem and_one (hx:Sm x):bits .and .i64 (x:Int) 1=((x % 2:Nat):Int):=by
 have:=zbO hx (b:=1) tM;rw [nat_mask1] at this;exact this
theorem div_pow (x n:Nat):(x:Int) / 2 ^ n=((x / 2 ^ n:Nat):Int):=sM
theorem zjb (hx:Sm x)(hn:32<=n):x.testBit n=false:=
 Nat.testBit_lt_two_pow (dY hx.lt (by rw [show (4294967296:Nat)=2 ^ 32 from rfl];exact dV oM hn))
theorem zgZ (hx:Sm x) (n:Nat):(bits .and .i64 ((x:Int) / 2 ^ min n 64) 1==1)=x.testBit n:=by
 rw [div_pow,and_one (iU (hY _ _) hx)]
 by_cases hn:n<=64
 ·rw [Nat.min_eq_left hn,jR];rw [Bool.eq_iff_iff];simp only [beq_iff_eq,decide_eq_true_eq];omega
 ·rw [Nat.min_eq_right oM,zjb hx oM];have:x / 2 ^ 64=0:=Nat.div_eq_of_lt (Nat.lt_trans hx.lt dM);rw [this];decide
def hasB (s:Nat) (n:Int):Bool:=decide (0<=n)&&s.testBit n.toNat
def letters (a k:Nat):List Nat:=(List.range k).filter fun l=>a.testBit l
theorem letters_zero (a:Nat):letters a 0=[]:=rfl
theorem zaX (a k:Nat):letters a (k+1)=letters a k++if a.testBit k then [k] else []:=by
 unfold letters;rw [List.range_succ,List.filter_append];cases h:a.testBit k<;>simp [h]
theorem zy (a k:Nat):(letters a k).length<=k:=by
 unfold letters;have:=List.length_filter_le (fun l=>a.testBit l) (List.range k);simpa using this
def zae (l:List Nat):List Value:=l.map fun n:Nat=>Value.int .i64 (n:Int)
theorem nats_length (l:List Nat):(zae l).length=l.length:=by simp [zae]
theorem zas (a:Int) (w:World) :
  Calls Tryz.prog 82 #[a] w fun e w'=>e=.returned (.bool (decide (0<=a∧a<=63)))∧w=w':=by
 by_cases h0:0<=a
 ·go_enter Tryz.func82,Tryz.ntmps82
  go_wp2;go_ret;exact⟨by simp [h0],rfl⟩
 ·go_enter Tryz.func82,Tryz.ntmps82
  go_wp2;go_ret;exact⟨by simp;omega,rfl⟩
theorem zW (a:Int) (w:World) :
  Calls Tryz.prog 142 #[a] w fun e w'=>e=.returned (.bool (decide (0<=a∧a<=63)))∧w=w':=by
 by_cases h0:0<=a
 ·go_enter Tryz.func142,Tryz.ntmps142
  go_wp2;go_ret;exact⟨by simp [h0],rfl⟩
 ·go_enter Tryz.func142,Tryz.ntmps142
  go_wp2;go_ret;exact⟨by simp;omega,rfl⟩
theorem zcr (s:ByteArray) (i:Nat)(h:i<s.size):(s[i].toNat:Int)<256:=by
 have:=s[i].toNat_lt;omega
def ltr (b:Int):Int:=if b - 97<0∨6<=b - 97 then -1 else b - 97
theorem zj {a b:Bool}(h:a=b):Ending.returned (.bool a)=.returned (.bool b):=by rw [h]
theorem zD {k:IntKind} {a b:Int}(h:a=b):Ending.returned (.int k a)=.returned (.int k b):=by rw [h]
theorem zbp (s:ByteArray) (i:Nat)(hi:i<s.size) (w:World) :
  Calls Tryz.prog 121 #[s,i] w fun e w'=>e=.returned (.int .i64 (ltr s[i].toNat))∧w=w':=by
 have a:=zcr s i hi
 by_cases h0:(s[i].toNat:Int) - 97<0
 ·go_enter Tryz.func121,Tryz.ntmps121
  go_wp2;go_ret;exact⟨zD (by rw [ltr,if_pos (Or.inl h0)]),rfl⟩
 ·by_cases h1:6<=(s[i].toNat:Int) - 97
  ·go_enter Tryz.func121,Tryz.ntmps121
   go_wp2;go_ret;exact⟨zD (by rw [ltr,if_pos (Or.inr h1)]),rfl⟩
  ·go_enter Tryz.func121,Tryz.ntmps121
   go_wp2;go_ret;exact⟨zD (by rw [ltr,if_neg oM]),rfl⟩
theorem zbj (s:ByteArray) (i:Nat)(hi:i<s.size) (w:World) :
  Calls Tryz.prog 144 #[s,i] w fun e w'=>e=.returned (.int .i64 (s[i].toNat - 97))∧w=w':=by
 have a:=zcr s i hi
 go_enter Tryz.func144,Tryz.ntmps144
 go_wp2;go_ret;exact⟨rfl,rfl⟩
theorem zau (s n:Nat)(hs:Sm s) (w:World)(hn:n<9223372036854775808) :
  Calls Tryz.prog 143 #[s,n] w fun e w'=>e=.returned (.bool (s.testBit n))∧w=w':=by
 have c:IntKind.u64.wrap (n:Int)=n:=by rw [IntKind.wrap_u64];omega
 have a:=zgZ hs n;have b:=za a;clear a
 go_enter Tryz.func143,Tryz.ntmps143
 go_wp2;go_ret;exact⟨by simp [b.out],rfl⟩
theorem zbz (s:Nat) (n:Int)(hs:Sm s) (w:World) :
  Calls Tryz.prog 127 #[s,n] w fun e w'=>e=.returned (.bool (hasB s n))∧w=w':=by
 have a:=zgZ hs n.toNat;have b:=za a;clear a
 by_cases h0:0<=n
 ·go_enter Tryz.func127,Tryz.ntmps127
  go_wp2;go_ret;exact⟨by simp [b.out,hasB,h0],rfl⟩
 ·go_enter Tryz.func127,Tryz.ntmps127
  go_wp2;go_ret;exact⟨by simp [hasB];omega,rfl⟩
theorem zS:(Tryz.prog.info? 3).map (fun i=>(i.zero,i.size,i.bytes))=some (some (.int .i64 0),1,8):=kM
def zbM (w:World) (xs:List Nat) (e:Ending) (w':World):Prop:=
 ∃ A c,e=.returned (.slice A xs.length c)∧w'.ownsRow w.heap.size 3 1 (.slice A xs.length c) xs.length (zae xs)∧Ext w w'
theorem yN01a3 {P:Prop}(h:P:=by
 go_roundw
 case rel=>exact⟨k+1,oM,gM,by rw [Hls.out];first|simpa [zae] using zjn|simpa using zje,aM⟩
 case measure=>simp [intOf];omega
 ):P:=h
theorem zbv (a:Nat)(hs:Sm a) (w:World) :
  Calls Tryz.prog 67 #[a] w (zbM w (letters a 6)):=by
 go_enter Tryz.func67,Tryz.ntmps67
 go_wp2
 go_loopw [3,5] (fun v i wr=>∃ k:Nat,k<=6∧i=.int .i64 k∧wr.ownsRow w.heap.size 3 1 v (letters a k).length (zae (letters a k))∧Ext w wr)
  (fun _ i _=>6 - (intOf i).toNat)
 case atStart=>exact⟨0,dG _,rfl,World.ownsRow_nil _ _ _ _,Ext.refl _⟩
 case round =>
  obtain⟨k,g,rfl,zje,d⟩:=hrel;have h:=zy a k
  by_cases hlt:k<6
  ·cases hb:a.testBit k
   all_goals
    have f:hasB a k=a.testBit k:=by simp [hasB]
    rw [hb] at f;have b:=zaX a k;rw [hb] at b;have Hls:=za b;clear b hb;go_wp2_with (first
     |(go_at_call 127;refine (zbz a k hs _).mono ?_;rintro e w' ⟨rfl,rfl⟩)
     |(at_builtin;refine zU w wr rfl (.tmp 11) (.tmp 13) _ rfl 3 _ 1 8 Tryz.underlying110 zS rfl dM u3 _ _ _ _ rfl rfl d zje rfl (zaL _) lM oM ?_;intro v' w1 hext1 zjn hg1 hat1))
    exact yN01a3
  ·obtain rfl:k=6:=oM;obtain⟨A,c,rfl⟩:=zg zje;go_wp2;go_ret;exact⟨_,_,rfl,zje,d⟩
def tot (ls:List (List Int)):Nat:=(ls.map List.length).sum
theorem zfB (h:ls[k]?=some l):tot (ls.take (k+1))=tot (ls.take k)+l.length:=by
 rw [dO,h];simp [tot]
theorem tot_append (a b:List (List Int)):tot (a++b)=tot a+tot b:=by simp [tot]
theorem zhl (ls:List (List Int)) (k:Nat):tot (ls.take k)<=tot ls:=by
 have h:=tot_append (ls.take k) (ls.drop k);rw [List.take_append_drop] at h;omega
structure Aut where
 al:Int
 next:List (List Int)
 acc:List Bool
def zH (w:World) (lo hi:Nat) (A:Option Addr) (n:Nat) (A':Option Addr) (n':Nat) (a:Aut):Prop:=
 zbC w lo hi A n a.next∧n'=a.acc.length∧Reads w lo hi 1 A' n' (zaw a.acc)
section
variable {w w':World} {lo hi n n':Nat} {A A':Option Addr} {a:Aut}
theorem zH.ext (h:zH w lo hi A n A' n' a)(hb:Ext w w'):zH w' lo hi A n A' n' a:=⟨h.1.ext hb,h.2.1,h.2.2.ext hb⟩
theorem zH.frm (h:zH w lo hi A n A' n' a)(hb:Frm S w w')(hS:∀ k,lo<=k->k<hi->¬ S k):zH w' lo hi A n A' n' a:=⟨h.1.frm hb hS,h.2.1,h.2.2.frm hb hS⟩
theorem zH.more (h:zH w lo hi A n A' n' a)(hL:lo'<=lo)(hH:hi<=hi'):zH w lo' hi' A n A' n' a:=⟨h.1.more hL hH,h.2.1,h.2.2.more hL hH⟩
theorem zH.n1 (h:zH w lo hi A n A' n' a):n=a.next.length:=h.1.1
theorem zH.n2 (h:zH w lo hi A n A' n' a):n'=a.acc.length:=h.2.1
end
def Aut.size (a:Aut):Nat:=a.next.length+tot a.next+a.acc.length
theorem zaT:(Tryz.prog.info? 4).map (fun i=>(i.zero,i.size,i.bytes))=some (some (.bool false),1,1):=kM
theorem zbw:(Tryz.prog.info? 110).map (fun i=>(i.zero,i.size,i.bytes))=some (some (.slice none 0 0),1,24):=kM
def zE (w:World) (base:Nat) (rows:List Value) (ls:List (List Int)):Prop:=
 rows.length=ls.length∧(∀ (i:Nat) (row:Value) (l:List Int),rows[i]?=some row->ls[i]?=some l->w.ownsRow base 3 1 row l.length (ints l)) ∧
  ∀ (i j:Nat) (ri rj:Value) (b:Nat),rows[i]?=some ri->rows[j]?=some rj->i≠j->ri.ownBlock=some b->rj.ownBlock≠some b
theorem zE.nil (w:World) (base:Nat):zE w base [] []:=⟨rfl,fun i row l h=>by simp at h,fun i j ri rj b h=>by simp at h⟩
theorem zE.ext (h:zE w base rows ls)(hb:Ext w w'):zE w' base rows ls:=
 ⟨h.1,fun i row l hr hl=>zh (h.2.1 i row l hr hl) hb,h.2.2⟩
theorem zE.row (h:zE w base rows ls)  {row:Value}(hr:rows[i]?=some row):∃ l,ls[i]?=some l∧w.ownsRow base 3 1 row l.length (ints l):=by
 have b:i<rows.length:=(List.getElem?_eq_some_iff.1 hr).1;have a:ls[i]?=some (ls[i]'(by rw [← h.1];exact b)):=dD _;exact⟨_,a,h.2.1 i row _ hr a⟩
theorem zE.frm (h:zE w base rows ls)(hb:Frm S w w')(hS:∀ (i:Nat) (row:Value) (b:Nat),rows[i]?=some row->row.ownBlock=some b->¬ S b):zE w' base rows ls:=
 ⟨h.1,fun i row l hr hl=>zf (h.2.1 i row l hr hl) hb (fun b hb=>hS i row b hr hb),h.2.2⟩
theorem zE.snoc (h:zE w base rows ls)(hb:Ext w w') {row:Value} (hbase:base<=w.heap.size)(hrow:w'.ownsRow w.heap.size 3 1 row l.length (ints l)) :
  zE w' base (rows++[row]) (ls++[l]):=by
 have c:=h.1;refine⟨by simp [c],fun i r m hr hm=>?_,fun i j ri rj b hri hrj hij hbi=>?_⟩
 ·rcases Nat.lt_trichotomy i rows.length with a|a|a
  ·rw [dJ a] at hr;rw [dJ oM] at hm;exact zh (h.2.1 i r m hr hm) hb
  ·rw [dP oM,a,Nat.sub_self] at hr;rw [dP oM,a,c,Nat.sub_self] at hm;simp at hr hm;subst hr;subst hm;exact zn hrow hbase
  ·rw [List.getElem?_eq_none (by simp;omega)] at hr;cases hr
 ·have g:∀ (i:Nat) (r:Value) (b:Nat),i<rows.length->rows[i]?=some r->r.ownBlock=some b->b<w.heap.size:=fun i r b a hr hb=>by
   obtain⟨m,_,ho⟩:=h.row hr;exact (ho.lt b hb).2
  have f:∀ b,row.ownBlock=some b->w.heap.size<=b:=fun b hb=>(hrow.lt b hb).1;have a:i<=rows.length:=by have:=(List.getElem?_eq_some_iff.1 hri).1;simp at this;omega
  have d:j<=rows.length:=by have:=(List.getElem?_eq_some_iff.1 hrj).1;simp at this;omega
  rcases eF a with a|a<;>rcases eF d with d|d
  ·rw [dJ a] at hri;rw [dJ d] at hrj;exact h.2.2 i j ri rj b hri hrj hij hbi
  ·rw [dJ a] at hri;subst d;simp at hrj;subst hrj;intro hc;have h1:=g i ri b a hri hbi;have h2:=f b hc;omega
  ·rw [dJ d] at hrj;subst a;simp at hri;subst hri;intro hc;have h1:=g j rj b d hrj hc;have h2:=f b hbi;omega
  ·omega
def zed (w:World) (base:Nat) (v:Value) (ls:List (List Int)):Prop:=∃ rows,w.ownsRow base 110 1 v ls.length rows∧zE w base rows ls
theorem zed.ext (h:zed w base v ls)(hb:Ext w w'):zed w' base v ls:=by
 obtain⟨a,h1,h2⟩:=h;exact⟨a,zh h1 hb,h2.ext hb⟩
theorem zE.keep (h:zE w base rows ls)(hb:Frm S w w')(hS:∀ b,base<=b->¬ S b):zE w' base rows ls:=
 ⟨h.1,fun i row l hr hl=>zbq (h.2.1 i row l hr hl) hb hS,h.2.2⟩
theorem zE.less (h:zE w base rows ls)(hb:base'<=base):zE w base' rows ls:=
 ⟨h.1,fun i row l hr hl=>zn (h.2.1 i row l hr hl) hb,h.2.2⟩
theorem zed.keep (h:zed w base v ls)(hb:Frm S w w')(hS:∀ b,base<=b->¬ S b):zed w' base v ls:=by
 obtain⟨a,h1,h2⟩:=h;exact⟨a,zbq h1 hb hS,h2.keep hb hS⟩
theorem zed.less (h:zed w base v ls)(hb:base'<=base):zed w base' v ls:=by
 obtain⟨a,h1,h2⟩:=h;exact⟨a,zn h1 hb,h2.less hb⟩
theorem zed.reads (h:zed w base (.slice A n c) ls)(hn:n=ls.length):zbC w base w.heap.size A n ls:=by
 obtain⟨a,h1,h2⟩:=h;subst hn;refine⟨rfl,a,Reads.af h1,h2.1,fun i row l hr hl=>?_⟩;have ho:=h2.2.1 i row l hr hl;obtain⟨b,d,rfl⟩:=zg ho;exact⟨b,d,rfl,Reads.af ho⟩
def zZ (w:World) (base:Nat) (A:Option Addr) (n c:Nat) (A':Option Addr) (n' c':Nat) (a:Aut):Prop:=
 zed w base (.slice A n c) a.next∧n=a.next.length∧w.ownsRow base 4 1 (.slice A' n' c') n' (zaw a.acc)∧n'=a.acc.length
theorem zZ.ext {a:Aut}(h:zZ w base A n c A' n' c' a)(hb:Ext w w'):zZ w' base A n c A' n' c' a:=
 ⟨h.1.ext hb,h.2.1,zh h.2.2.1 hb,h.2.2.2⟩
theorem zZ.keep {a:Aut}(h:zZ w base A n c A' n' c' a)(hb:Frm S w w')(hS:∀ b,base<=b->¬ S b):zZ w' base A n c A' n' c' a:=
 ⟨h.1.keep hb hS,h.2.1,zbq h.2.2.1 hb hS,h.2.2.2⟩
theorem zZ.less {a:Aut}(h:zZ w base A n c A' n' c' a)(hb:base'<=base):zZ w base' A n c A' n' c' a:=
 ⟨h.1.less hb,h.2.1,zn h.2.2.1 hb,h.2.2.2⟩
theorem zZ.reads {a:Aut}(h:zZ w base A n c A' n' c' a):zH w base w.heap.size A n A' n' a:=
 ⟨h.1.reads h.2.1,h.2.2.2,Reads.af h.2.2.1⟩
def RetAut (w:World) (a:Aut) (e:Ending) (w':World):Prop:=
 ∃ A n c A' n' c',e=.returned (.agg #[a.al,.slice A n c,.slice A' n' c'])∧zZ w' w.heap.size A n c A' n' c' a∧Ext w w'
def zce:Op->Bool
 |.move _ | .assign _ | .pick _ _ _ | .binOp _ _ _ _ _ | .unOp _ _ _ | .load _ _ | .fieldAddr _ _ _ | .field _ _ _ | .indexAddr _ _ _ | .index _ _ _ | .extract _ _ | .build _ _ | .slice _ _ _ _ _ | .convert _ _ _=>true
 |.call { callee:=.builtin .len,.. }=>true
 |.call { callee:=.builtin .cap,.. }=>true
 |_=>false
def okOrd (l:List Oper):List Nat->Array Bool->Bool
 |[],listed=>(Region.ready .any l.toArray listed).isEmpty
 |i :: rest,listed =>
  (match l[i]? with
   |some o=>if zce o.op then Region.free .any l.toArray listed i&&(Region.ready .any l.toArray listed).contains i else Region.ready .any l.toArray listed==[i]
   |none=>false)&&okOrd l rest (listed.setIfInBounds i true)
def zeo (P:Program) (l:List Oper) (Q:Exit->Act->World->Prop) (S:World->Prop):List Nat->Act->World->Prop
 |[],a,w=>Q .normal a w
 |i :: rest,a,w=>match l[i]? with
  |some o=>if zce o.op then ∃ v,YieldsIf P l.toArray S o v a∧S w∧zeo P l Q S rest (a.put o.dst v) w
   else wpOp P l.toArray Q i (fun a' w'=>S w'∧zeo P l Q S rest a' w') a w
  |none=>False
section
variable {P:Program} {l:List Oper} {Q:Exit->Act->World->Prop} {S:World->Prop}
theorem zgY (hs:Region.noSelect l.toArray=true)(hQ:∀ (c:List PanicEntry) (a:Act) (d:Tmp) (v:Value) (w:World),Q (.panic c) (a.put (some d) v) w->Q (.panic c) a w) :
  ∀ (ord:List Nat) (listed:Array Bool) (a:Act) (w:World),okOrd l ord listed=true->zeo P l Q S ord a w->wpAnyH P .any l.toArray Q S ord.length listed a w
 |[],listed,a,w,hok,h=>by
  simp only [okOrd,List.isEmpty_iff] at hok
  exact wpAnyH_done hok h 0
 |i :: rest,listed,a,w,hok,h=>by
  cases ho:l[i]? with
  |none=>simp [okOrd,ho] at hok
  |some o =>
   simp only [okOrd,ho,dI] at hok
   simp only [zeo,ho] at h
   by_cases hq:zce o.op=true
   ·rw [if_pos hq] at hok h
    simp only [dI] at hok
    obtain⟨v,hy,hS,hr⟩:=h
    exact wpAnyH_take (by simpa using ho) hs hok.1.1 hok.1.2 (fun c a w h=>by cases hd:o.dst with|none=>rw [hd] at h;exact h|some d=>rw [hd] at h;exact hQ c a d v w h) hy hS (zgY hs hQ rest _ _ _ hok.2 hr)
   ·rw [if_neg hq] at hok h
    refine wpAnyH_all (rs:=[i]) (by simpa using hok.1) sM fun j hj=>?_
    rw [List.mem_singleton.1 hj]
    exact wpOp_mono (fun a' w' h=>⟨h.1,zgY hs hQ rest _ _ _ hok.2 h.2⟩) h
theorem zam (S:World->Prop) (ord:List Nat)(hm:P.follows .mixedOrders=true)(hlen:ord.length=l.length)(hs:Region.noSelect l.toArray=true)(hok:okOrd l ord (Array.replicate l.length false)=true)
  (hQ:∀ (c:List PanicEntry) (a:Act) (d:Tmp) (v:Value) (w:World),Q (.panic c) (a.put (some d) v) w->Q (.panic c) a w) (hS:S w.drew) (h:S w.drew->zeo P l Q S ord a w.drew):(Code.region id l.toArray true).wp P Q a w:=by
 refine wp_region_held (S:=S) hm ?_;have:=zgY hs hQ ord _ a w.drew hok (h hS);rw [hlen] at this;simpa using this
theorem zcs (h:Q .normal a w):zeo P l Q S [] a w:=h
theorem seq_read {o:Oper}   (ho:l[i]?=some o)(hq:zce o.op=true)(hw:Region.wanted o (yielded l.toArray a.tmps)=true)
  (hy:∀ W,S W->(execOp a.eval o).run P W=.ok (.value v) W) (hS:S w) (h:zeo P l Q S rest (a.put o.dst v) w):zeo P l Q S (i :: rest) a w:=by
 simp only [zeo,ho,hq,if_true];exact⟨v,.inl ⟨hw,hy⟩,hS,h⟩
theorem seq_skip {o:Oper}  (ho:l[i]?=some o)(hw:Region.wanted o (yielded l.toArray a.tmps)=false)
  (hS:S w) (h:zeo P l Q S rest (a.put o.dst undef) w):zeo P l Q S (i :: rest) a w:=by
 simp only [zeo,ho];split
 ·exact⟨undef,.inr ⟨hw,rfl⟩,hS,h⟩
 ·unfold wpOp;simp only [eP,ho,hw,Bool.false_eq_true,if_false];exact⟨hS,h⟩
theorem zai {o:Oper}  
  (h:∀ K:Act->World->Prop,Shut (∀ a w,S w->(S w->zeo P l Q S rest a w)->K a w)->o.wp P a w K Q) (ho:l[i]?=some o:=by rfl) (hq:zce o.op=false:=by rfl) (hw:Region.wanted o (yielded l.toArray a.tmps)=true:=by rfl):zeo P l Q S (i :: rest) a w:=by
 simp only [zeo,ho,hq];unfold wpOp;simp only [eP,ho,hw,if_true];exact .inl (h _ fun a w hS hW=>⟨hS,hW hS⟩)
end
theorem sQ {A B:Prop}(h:B) (k:Bx B->A:=by
 intro h0
 repeat (first|(refine seq_skip rfl rfl aM ?_;simp only [Act.put,List.setIfInBounds_toArray,List.set_cons_zero,List.set_cons_succ])|(refine seq_read (v:=?_) rfl rfl rfl (fun X hX=>?_) aM ?_;rotate_left;(focus (go_simp<;>with_reducible rfl));simp only [Act.put,List.setIfInBounds_toArray,List.set_cons_zero,List.set_cons_succ]))
 exact h0.out):A:=k ⟨h⟩
theorem sR {P:Program} {l:List Oper} {Q:Exit->Act->World->Prop} {id:Nat}   (S:World->Prop) (ord:List Nat)(h:S w.drew->zeo P l Q S ord a w.drew)(hm:P.follows .mixedOrders=true:=by kernel_rfl)(hlen:ord.length=l.length:=by rfl)(hs:Region.noSelect l.toArray=true:=by kernel_rfl)(hok:okOrd l ord (Array.replicate l.length false)=true:=by kernel_rfl)
  (hQ:∀ (c:List PanicEntry) (a:Act) (d:Tmp) (v:Value) (w:World),Q (.panic c) (a.put (some d) v) w->Q (.panic c) a w:=by exact fun _ _ _ _ _ h=>h) (hS:S w.drew:=by first|assumption|exact (Ext.refl _).drew|(refine Ext.drew ?_;assumption)):(Code.region id l.toArray true).wp P Q a w:=
 zam S ord hm hlen hs hok hQ hS h
structure Edg where
 fr:Int
 le:Int
 ta:Int
deriving DecidableEq
structure Sys where
 al:Int
 st:Int
 edges:List Edg
def zu:List Edg->List Value
 |[]=>[]
 |e :: r=>.int .i64 e.fr :: .int .i64 e.le :: .int .i64 e.ta :: zu r
theorem zby (l:List Edg):(zu l).length=l.length*3:=by
 induction l with
 |nil=>rfl
 |cons e r ih=>simp only [zu,List.length_cons,ih];omega
theorem zbx (l m:List Edg):zu (l++m)=zu l++zu m:=by
 induction l with
 |nil=>rfl
 |cons e r ih=>simp [zu,ih]
theorem zcv {l:List Edg}  {e:Edg}(h:l[k]?=some e):(zu l)[k*3]?=some (.int .i64 e.fr)∧(zu l)[k*3+1]?=some (.int .i64 e.le)∧(zu l)[k*3+2]?=some (.int .i64 e.ta):=by
 induction l generalizing k with
 |nil=>simp at h
 |cons a r ih =>
  cases k with
  |zero=>simp at h;subst h;exact⟨rfl,rfl,rfl⟩
  |succ k =>
   have:=ih (k:=k) (by simpa using h);have b:(k+1)*3=k*3+1+1+1:=oM;refine⟨?_,?_,?_⟩<;>rw [b]<;>simp only [zu,jL]
   ·exact this.1
   ·exact this.2.1
   ·exact this.2.2
theorem zcU {ad:Addr} (h:w.cell? (ad.add 0)=some v):ad=⟨ad.block,ad.off,none⟩:=by
 rw [addr_zero] at h;obtain⟨b,o,s⟩:=ad;have a:s=none:=World.cell?_spot h;subst a;rfl
theorem Reads.az {l:List Edg}(h:Reads w lo hi 3 A n (zu l))(hk:k<n) :
  ∃ b o e,A=some ⟨b,o,none⟩∧lo<=b∧b<hi∧Hid (l[k]?=some e)∧w.cell? ⟨b,o+k*3,none⟩=some (.int .i64 e.fr)∧w.cell? ⟨b,o+k*3+1,none⟩=some (.int .i64 e.le)∧w.cell? ⟨b,o+k*3+2,none⟩=some (.int .i64 e.ta):=by
 obtain⟨d,i,m,j,a⟩:=h.at_ hk;have p:l.length=n:=by have:=h.length;rw [zby] at this;omega
 have hx:l[k]?=some l[k]:=dD oM;have hg:=zcv hx;have c:=a _ _ hg.1;have h1:=a _ _ hg.2.1;have h2:=a _ _ hg.2.2;have g:=zcv (k:=0) (dD (l:=l) oM);rw [Nat.zero_mul] at g;have f:=zcU (a _ _ g.1);rw [f] at c h1 h2;rw [zX] at c h1 h2;exact⟨d.block,d.off,l[k],by rw [i,f],m,j,hx,c,by rw [fW];exact h1,by rw [fW];exact h2⟩
theorem Reads.edge2 {b o:Nat} {l:List Edg} {e:Edg}(h:Reads w lo hi 3 (some ⟨b,o,none⟩) n (zu l))(he:l[j]?=some e) :
  w.cell? ⟨b,o+j*3,none⟩=some (.int .i64 e.fr)∧w.cell? ⟨b,o+j*3+1,none⟩=some (.int .i64 e.le)∧w.cell? ⟨b,o+j*3+2,none⟩=some (.int .i64 e.ta):=by
 have g:j<l.length:=(List.getElem?_eq_some_iff.1 he).1;have i:l.length=n:=by have:=h.length;rw [zby] at this;omega
 obtain⟨f,a,_,_,c⟩:=h.at_ (k:=j) oM;injection a with a
 subst a;have hg:=zcv he;have d:=c _ _ hg.1;have h1:=c _ _ hg.2.1;have h2:=c _ _ hg.2.2;rw [zX] at d h1 h2;exact⟨d,by rw [fW];exact h1,by rw [fW];exact h2⟩
def zO (w:World) (lo hi:Nat) (A:Option Addr) (n:Nat) (s:Sys):Prop:=n=s.edges.length∧Reads w lo hi 3 A n (zu s.edges)
section
variable {w w':World} {lo hi n:Nat} {A:Option Addr} {s:Sys}
theorem zO.ext (h:zO w lo hi A n s)(hb:Ext w w'):zO w' lo hi A n s:=⟨h.1,h.2.ext hb⟩
theorem zO.frm (h:zO w lo hi A n s)(hb:Frm S w w')(hS:∀ k,lo<=k->k<hi->¬ S k):zO w' lo hi A n s:=⟨h.1,h.2.frm hb hS⟩
theorem zO.more (h:zO w lo hi A n s)(hL:lo'<=lo)(hH:hi<=hi'):zO w lo' hi' A n s:=⟨h.1,h.2.more hL hH⟩
end
theorem zbb:(Tryz.prog.info? 117).map (fun i=>(i.zero,i.size,i.bytes))=some (some (.agg #[(0:Int),(0:Int),(0:Int)]),3,24):=kM
def OwnE (w:World) (base:Nat) (A:Option Addr) (n c:Nat) (l:List Edg):Prop:=n=l.length∧w.ownsRow base 117 3 (.slice A n c) n (zu l)
theorem OwnE.ext {l:List Edg}(h:OwnE w base A n c l)(hb:Ext w w'):OwnE w' base A n c l:=⟨h.1,zh h.2 hb⟩
def RetSys (w:World) (s:Sys) (e:Ending) (w':World):Prop:=
 ∃ A n c,e=.returned (.agg #[s.al,s.st,.slice A n c])∧OwnE w' w.heap.size A n c s.edges∧Ext w w'
instance:BEq Edg:=⟨fun a b=>decide (a.fr=b.fr)&&(decide (a.le=b.le)&&decide (a.ta=b.ta))⟩
theorem edg_beq (a b:Edg):(a==b)=(decide (a.fr=b.fr)&&(decide (a.le=b.le)&&decide (a.ta=b.ta))):=rfl
instance:LawfulBEq Edg where
 eq_of_beq {a b} h:=by
  rw [edg_beq] at h;simp only [dI,decide_eq_true_eq] at h;cases a;cases b;simp_all
 rfl {a}:=by rw [edg_beq];simp
def zeB (w:World) (lo hi:Nat) (A:Option Addr) (n:Nat) (ss:List Sys):Prop:=
 n=ss.length∧∃ cells,Reads w lo hi 3 A n cells∧∀ (k:Nat) (s:Sys),ss[k]?=some s->∃ (B:Option Addr) (m c:Nat),cells[k*3]?=some (.int .i64 s.al)∧cells[k*3+1]?=some (.int .i64 s.st)∧cells[k*3+2]?=some (.slice B m c)∧zO w lo hi B m s
section
variable {w w':World} {lo hi n k:Nat} {A:Option Addr} {ss:List Sys}
theorem zeB.ext (h:zeB w lo hi A n ss)(hb:Ext w w'):zeB w' lo hi A n ss:=by
 obtain⟨e,a,f,hx⟩:=h;refine⟨e,a,f.ext hb,fun k s hs=>?_⟩;obtain⟨B,m,c,b,h1,h2,d⟩:=hx k s hs;exact⟨B,m,c,b,h1,h2,d.ext hb⟩
theorem zeB.len (h:zeB w lo hi A n ss):n<=9223372036854775807:=by
 obtain⟨_,a,b,_⟩:=h;exact b.len
theorem zid {u:Value}(h:Reads w lo hi 3 A n xs)(hn:0<n)(hu:xs[0]?=some u):∃ b o,A=some ⟨b,o,none⟩∧lo<=b∧b<hi∧∀ j v,xs[j]?=some v->w.cell? ⟨b,o+j,none⟩=some v:=by
 obtain⟨a,e,g,f,c⟩:=h.at_ hn;have d:=zcU (c 0 u hu);refine⟨a.block,a.off,by rw [e,d],g,f,fun j v hv=>?_⟩;have:=c j v hv;rw [d,zX] at this;exact this
theorem zeB.sys (h:zeB w lo hi A n ss)(hk:k<n):∃ b o s B m c,A=some ⟨b,o,none⟩∧lo<=b∧b<hi∧Hid (ss[k]?=some s)∧w.cell? ⟨b,o+k*3,none⟩=some (.int .i64 s.al)∧w.cell? ⟨b,o+k*3+1,none⟩=some (.int .i64 s.st)∧w.cell? ⟨b,o+k*3+2,none⟩=some (.slice B m c)∧zO w lo hi B m s:=by
 obtain⟨e,a,q,hx⟩:=h;have d:ss[0]?=some (ss[0]' oM):=dD _;obtain⟨_,_,_,i,_⟩:=hx 0 _ d;rw [Nat.zero_mul] at i;obtain⟨b,o,rfl,p,l,f⟩:=zid q oM i;have g:ss[k]?=some (ss[k]' oM):=dD _;obtain⟨B,m,c,d,h1,h2,j⟩:=hx k _ g;exact⟨b,o,_,B,m,c,rfl,p,l,g,f _ _ d,by rw [fW];exact f _ _ h1,by rw [fW];exact f _ _ h2,j⟩
end
section
open Go.ChangeShapes Go.WideShapes Go.ChangeAt Go.Deep
theorem own_:ownKnob Tryz.prog.godebug=none:=kM
theorem laidOut_:laidOutB Tryz.prog=true:=kM
theorem and_t {a b:Bool}(h:a=true) (k:b=true):(a&&b)=true:=by rw [h,k];rfl
end
def Tab (w:World):Prop:=∀ j,j<64->w.cell? ⟨1,j,none⟩=some (.int .u8 (Lib.deBruijn64tab.getD j 0))
theorem Tab.ext (h:Tab w)(hb:Ext w w'):Tab w':=fun j hj=>hb.aa (h j hj)
theorem tz64_core (x k idx:Nat) (w:World)(hx0:((x:Int)==0)=false)
  (key:IntKind.u64.wrap (bits BinOp.and IntKind.u64 (x:Int) (IntKind.u64.wrap (-(x:Int)))*285870213051353865) / 288230376151711744=(idx:Int))
  (hi:idx<64) (hk:k<64) (hcell:w.cell? ⟨1,idx,none⟩=some (.int .u8 k)) :
  Calls Tryz.prog 282 #[.int .u64 x] w fun e w'=>e=.returned (.int .i64 k)∧w=w':=by
 go_enter Tryz.func282,Tryz.ntmps282
 go_wp2_with (simp only [key])
 go_ret;exact⟨rfl,rfl⟩
theorem tz64 (x:Nat)(hx:x<18446744073709551616)(hx0:x≠0) (w:World)(hT:Tab w) :
  Calls Tryz.prog 282 #[.int .u64 x] w fun e w'=>e=.returned (.int .i64 (Lib.ctz 64 x))∧w=w':=by
 obtain⟨b,f⟩:=Lib.lowest_bit 64 x hx0 hx;obtain⟨d,c⟩:=Lib.deBruijn64_at _ f;have a:=hT _ d;rw [c] at a;exact tz64_core x _ _ w (by simp;omega) (tz64_key x _ hx hx0 b) d f a
theorem tz (x:Nat)(hx:x<18446744073709551616)(hx0:x≠0) (w:World)(hT:Tab w) :
  Calls Tryz.prog 229 #[.int .u64 x] w fun e w'=>e=.returned (.int .i64 (Lib.ctz 64 x))∧w=w':=by
 go_enter Tryz.func229,Tryz.ntmps229
 go_wp2_with (go_at_call 282;refine (tz64 x hx hx0 w hT).mono ?_;rintro e w' ⟨rfl,rfl⟩)
 go_ret;exact⟨rfl,rfl⟩
theorem tab_head {rest : List (String × DataW Unit)} (h : laidMet Tryz.prog (("math/bits.deBruijn64tab", Rows.laid_math_bits_deBruijn64tab) :: rest) W) : Tab W := by
 have h1 : Lib.TabIs Tryz.prog W "math/bits.deBruijn64tab" .u8 (Lib.deBruijn64tab.map fun n : Nat => (n : Int)) :=
  Lib.tabIs_of_head (g:=1) (t:=297) (e:=5) kM kM Tryz.underlying297 Tryz.underlying5 kM kM h
 intro j hj;have:=h1.cell (g:=1) kM j (by rw [List.length_map];exact hj);rw [this,List.getD_eq_getElem?_getD,List.getElem?_map,List.getD_eq_getElem?_getD];have a:Lib.deBruijn64tab.length=64:=rfl;rw [List.getElem?_eq_getElem oM];rfl
theorem tab_two {rest : List (String × DataW Unit)} (h : laidMet Tryz.prog (("math/bits.deBruijn32tab", Rows.laid_math_bits_deBruijn32tab) :: ("math/bits.deBruijn64tab", Rows.laid_math_bits_deBruijn64tab) :: rest) W) : Tab W := tab_head (laidMet.tail h)
section
variable {P:Program} (w:World)
theorem ziK (base:Nat) (t ty e:TypeId) (i:TypeInfo) (size:Nat)(ht:P.underlying t=some (.slice e))(hi:P.info? e=some i)
  (v:Value) (n:Nat) (xs:List Value) (zje:w.ownsRow base e size v n xs) (c:Nat):(Builtin.append_ #[t,t] ty #[v,.slice none 0 c]).run P w=.ok v w:=by
 rcases zje.2 with ⟨rfl,rfl⟩|⟨g,b,d,rfl,_,_,a,_⟩
 ·simp [Builtin.append_,run_underlying ht,sizeOf,typeInfo,hi,Builtin.lenOf,Builtin.firstCells]
 ·simp [Builtin.append_,run_underlying ht,sizeOf,typeInfo,hi,Builtin.lenOf,Builtin.firstCells,a,storeCells]
theorem zv {o:Oper}  {K:Act->World->Prop} {Q:Exit->Act->World->Prop} (s x:Operand) (t:TypeId)
  (ho:o.op=.call { callee:=.builtin .append,args:=#[s,x],argTypes:=#[t,t] })
  (base:Nat) (e:TypeId) (z:Value) (size bytes:Nat) (ht:P.underlying t=some (.slice e)) (hi:(P.info? e).map (fun i=>(i.zero,i.size,i.bytes))=some (some z,size,bytes)) (hzs:z.cells.size=size) (hsz:0<size)
  (v:Value) (n:Nat) (xs:List Value) (hs:a.eval s=v) (zje:w.ownsRow base e size v n xs)
  (lo hi':Nat) (A:Option Addr) (m c:Nat) (news:List Value) (hx:a.eval x=.slice A m c) (hr:Reads w lo hi' size A m news) (h1:∀ u∈news,u.oneCell'=true)
  (h63:n+m<=maxLen) (hbytes:(n+m)*bytes<=140737488355328) (hbase:base<=w.heap.size)
  (h:∀ v' w',w'.ownsRow base e size v' (n+m) (xs++news)->w.grownBy w' v.ownBlock->(v'.ownBlock=v.ownBlock∨v'.ownBlock=some w.heap.size)->K (a.put o.dst v') w'):o.wp P a w K Q:=by
 obtain⟨i,b,l,p,q⟩:=info_parts hi;have k:∃ v' w',(Builtin.append_ #[t,t] o.type #[v,.slice A m c]).run P w=.ok v' w'∧w'.ownsRow base e size v' (n+m) (xs++news)∧w.grownBy w' v.ownBlock∧(v'.ownBlock=v.ownBlock∨v'.ownBlock=some w.heap.size):=by
  by_cases h0:m=0
  ·subst h0;obtain rfl:news=[]:=dU (by simpa using hr.1);cases A with
   |none=>exact⟨v,w,ziK w base t o.type e i size ht b v n xs zje c,by simpa using zje,World.grownBy.refl w _,.inl rfl⟩
   |some r =>
    obtain⟨v',w',h2,d,f,_,g⟩:=run_append_own_at (P:=P) w base t o.type e i z size bytes ht b l p q hzs hsz v n xs zje r 0 c [] sM (fun j u hu=>by simp at hu) h1 h63 hbytes hbase;exact⟨v',w',h2,d,f,g⟩
  ·obtain⟨r,rfl,_,_,y⟩:=hr.2.2 oM;obtain⟨v',w',h2,d,f,_,g⟩:=run_append_own_at (P:=P) w base t o.type e i z size bytes ht b l p q hzs hsz v n xs zje r m c news hr.1 y h1 h63 hbytes hbase;exact⟨v',w',h2,d,f,g⟩
 obtain⟨v',w',h2,d,f,g⟩:=k;unfold Oper.wp execOp;simp only [ho,resolve,invoke,builtin,Sem.run_bind,Sem.run_pure,Result.andThen_ok,List.map_toArray,List.map_cons,List.map_nil,hs,hx,h2];exact h v' w' d f g
theorem zeW {ops:Array Oper} {rest:List Oper} {o:Oper}  {Q:Exit->Act->World->Prop}(hgd:o.guard=none) (s x:Operand) (t:TypeId)
  (ho:o.op=.call { callee:=.builtin .append,args:=#[s,x],argTypes:=#[t,t] })
  (base:Nat) (e:TypeId) (z:Value) (size bytes:Nat) (ht:P.underlying t=some (.slice e)) (hi:(P.info? e).map (fun i=>(i.zero,i.size,i.bytes))=some (some z,size,bytes)) (hzs:z.cells.size=size) (hsz:0<size)
  (v:Value) (n:Nat) (xs:List Value) (hs:a.eval s=v) (zje:w.ownsRow base e size v n xs)
  (lo hi':Nat) (A:Option Addr) (m c:Nat) (news:List Value) (hx:a.eval x=.slice A m c) (hr:Reads w lo hi' size A m news) (h1:∀ u∈news,u.oneCell'=true)
  (h63:n+m<=maxLen) (hbytes:(n+m)*bytes<=140737488355328) (hbase:base<=w.heap.size)
  (h:∀ v' w',w'.ownsRow base e size v' (n+m) (xs++news)->w.grownBy w' v.ownBlock->(v'.ownBlock=v.ownBlock∨v'.ownBlock=some w.heap.size)->wpList P ops Q rest (a.put o.dst v') w'):wpList P ops Q (o :: rest) a w:=
 wpList_plain hgd fun _ hK=>zv w s x t ho base e z size bytes ht hi hzs hsz v n xs hs zje lo hi' A m c news hx hr h1 h63 hbytes hbase fun v' w' h2 h3 h4=>hK _ _ (h v' w' h2 h3 h4)
end
theorem zgv (l:List Int):∀ u∈ints l,u.oneCell'=true:=by
 intro u hu;obtain⟨x,_,rfl⟩:=List.mem_map.1 hu;rfl
theorem zfa (l:List Bool):∀ u∈zaw l,u.oneCell'=true:=by
 intro u hu;obtain⟨x,_,rfl⟩:=List.mem_map.1 hu;rfl
theorem grown_new {w1:World}   (hg:(w.alloc (.cells cs t)).grownBy w1 (Value.slice (some w.heap.size) n c).ownBlock):Ext w w1:=
 ((Ext.refl w).alloc _).grown hg (fun k hk=>by
  have hk':w.heap.size=k:=by simpa [Value.ownBlock] using hk
  omega)
theorem clone_int (h:Reads w lo hi 1 A n (ints l))(hn:n<=1048576) :
  Calls Tryz.prog 195 #[.slice A n c] w fun e w'=>∃ v',e=.returned v'∧w'.ownsRow w.heap.size 3 1 v' n (ints l)∧Ext w w':=by
 cases A with
 |none =>
  obtain rfl:n=0:=by
   rcases gO n with b|b
   ·exact b
   ·obtain⟨_,h1,_⟩:=h.2.2 b;cases h1
  have d:=h.length;obtain rfl:l=[]:=dU (by rw [zdq] at d;omega);clear h;have f:=fun (w:World) (a:Option Addr) (n c n' c':Nat)=>Lib.run_eql_slice_nil (P:=Tryz.prog) w 110 _ a n c n' c' Tryz.underlying110
  go_enter Tryz.func195,Tryz.ntmps195
  go_wp2;go_ret;exact⟨_,rfl,World.ownsRow_nil _ _ _ _,Ext.refl _⟩
 |some ad =>
  have H:=za (h.ext ((Ext.refl w).alloc (.cells #[] 3)));clear h;have f:=fun (w:World) (a:Option Addr) (n c n' c':Nat)=>Lib.run_eql_slice_nil (P:=Tryz.prog) w 110 _ a n c n' c' Tryz.underlying110
  go_enter Tryz.func195,Tryz.ntmps195
  go_wp2_with (at_builtin;refine zeW _ rfl _ _ 110 rfl w.heap.size 3 _ 1 8 Tryz.underlying110 zS rfl dM _ 0 [] rfl (World.ownsRow_made w #[] 0 (dE _) (dG _) rfl) _ _ (some ad) n c (ints l) rfl H.out (zgv l) lM oM sM ?_;intro v' w1 zje hg hat)
  have hx:=grown_new hg;rw [dW,eG] at zje;go_ret;exact⟨_,rfl,zje,hx⟩
theorem zhP {l:List Bool} (h:Reads w lo hi 1 A n (zaw l))(hn:n<=1048576) :
  Calls Tryz.prog 194 #[.slice A n c] w fun e w'=>∃ v',e=.returned v'∧w'.ownsRow w.heap.size 4 1 v' n (zaw l)∧Ext w w':=by
 cases A with
 |none =>
  obtain rfl:n=0:=by
   rcases gO n with b|b
   ·exact b
   ·obtain⟨_,h1,_⟩:=h.2.2 b;cases h1
  have d:=h.length;obtain rfl:l=[]:=dU (by rw [zdG] at d;omega);clear h;have f:=fun (w:World) (a:Option Addr) (n c n' c':Nat)=>Lib.run_eql_slice_nil (P:=Tryz.prog) w 25 _ a n c n' c' Tryz.underlying25
  go_enter Tryz.func194,Tryz.ntmps194
  go_wp2;go_ret;exact⟨_,rfl,World.ownsRow_nil _ _ _ _,Ext.refl _⟩
 |some ad =>
  have H:=za (h.ext ((Ext.refl w).alloc (.cells #[] 4)));clear h;have f:=fun (w:World) (a:Option Addr) (n c n' c':Nat)=>Lib.run_eql_slice_nil (P:=Tryz.prog) w 25 _ a n c n' c' Tryz.underlying25
  go_enter Tryz.func194,Tryz.ntmps194
  go_wp2_with (at_builtin;refine zeW _ rfl _ _ 25 rfl w.heap.size 4 _ 1 1 Tryz.underlying25 zaT rfl dM _ 0 [] rfl (World.ownsRow_made w #[] 0 (dE _) (dG _) rfl) _ _ (some ad) n c (zaw l) rfl H.out (zfa l) lM oM sM ?_;intro v' w1 zje hg hat)
  have hx:=grown_new hg;rw [dW,eG] at zje;go_ret;exact⟨_,rfl,zje,hx⟩
section
variable {P:Program} {ops:Array Oper} {Q:Exit->Act->World->Prop} {md:Region.Mode} {S:Array Bool->World->Prop}
def wpAnyL (P:Program) (md:Region.Mode) (ops:Array Oper) (Q:Exit->Act->World->Prop) (S:Array Bool->World->Prop):Nat->Array Bool->Act->World->Prop
 |0,listed,a,w=>Region.ready md ops listed=[]∧Q .normal a w
 |fuel+1,listed,a,w =>
  (Region.ready md ops listed=[]->Q .normal a w) ∧
  ∀ i∈Region.ready md ops listed,wpOp P ops Q i (fun a' w'=>S (listed.setIfInBounds i true) w'∧wpAnyL P md ops Q S fuel (listed.setIfInBounds i true) a' w') a w
theorem zfR:∀ (fuel:Nat) (listed:Array Bool) (a:Act) (w:World),wpAnyL P md ops Q S fuel listed a w->wpAny P md ops Q fuel listed a w
 |0,_,_,_,h=>h
 |fuel+1,_,_,_,h=>⟨h.1,fun i hi=>wpOp_mono (fun a' w' h'=>zfR fuel _ a' w' h'.2) (h.2 i hi)⟩
theorem wpAnyL_first {oi:Oper}  {Si:World->Prop} {G:Array Bool->Prop}(hi:ops[i]?=some oi)(hsel:∀ (j:Nat) (o:Oper) cs b,ops[j]?=some o->o.op≠.select cs b)
  (hQ:∀ c a w,Q (.panic c) (a.put oi.dst v) w->Q (.panic c) a w)
  (hG:∀ listed j,j∈Region.ready md ops listed->G listed->G (listed.setIfInBounds j true))
  (hSi:∀ listed w,G listed->listed.getD i true=false->S listed w->Si w)
  (hup:∀ listed w,S listed w->S (listed.setIfInBounds i true) w) (hdn:∀ listed w,listed.getD i true=false->S (listed.setIfInBounds i true) w->S listed w) :
  ∀ (fuel:Nat) (listed:Array Bool) (a:Act) (w:World),G listed ->
   (∀ j oj,ops[j]?=some oj->j≠i->listed.getD j true=false->(∀ e∈oj.after,Region.binds md e=true->e.on≠i)->oi.apart ops oj=true) ->
   i∈Region.ready md ops listed->YieldsIf P ops Si oi v a->S listed w ->
   wpAnyL P md ops Q S fuel (listed.setIfInBounds i true) (a.put oi.dst v) w->wpAnyL P md ops Q S (fuel+1) listed a w:=by
 intro fuel
 induction fuel with
 |zero =>
  intro listed a w hg _ hr hy hS H;refine⟨fun h=>(by rw [h] at hr;cases hr),fun j hj=>?_⟩
  by_cases hji:j=i
  ·subst hji;exact hy.wpOp hi (hSi _ _ hg (mem_ready.1 hr).1 hS) ⟨hup _ _ hS,H⟩
  ·have:=ready_mono hj hji;rw [H.1] at this;cases this
 |succ fuel ih =>
  intro listed a w hg hfree hr hy hS H;refine⟨fun h=>(by rw [h] at hr;cases hr),fun j hj=>?_⟩
  by_cases hji:j=i
  ·subst hji;exact hy.wpOp hi (hSi _ _ hg (mem_ready.1 hr).1 hS) ⟨hup _ _ hS,H⟩
  ·have h1:=H.2 j (ready_mono hj hji);obtain⟨f,oj,g,l⟩:=mem_ready.1 hj;have n:∀ e∈oj.after,Region.binds md e=true->e.on≠i:=fun e he hb heq=>by
    have h1:=l e he hb;have q:=(mem_ready.1 hr).1;rw [heq] at h1;rcases eL i listed.size with p | p
    ·simp [p] at q h1;rw [q] at h1;cases h1
    ·simp [Array.getElem?_eq_none p] at h1
   have h2:=wpOp_putIf g (hfree j oj g hji f n) (fun cs b=>hsel i oi cs b hi) (fun cs b=>hsel j oj cs b g) hQ hy h1;have d:∀ k ok,ops[k]?=some ok->k≠i->(listed.setIfInBounds j true).getD k true=false ->
     (∀ e∈ok.after,Region.binds md e=true->e.on≠i)->oi.apart ops ok=true:=fun k ok hk hki hun hno=>by
    refine hfree k ok hk hki ?_ hno
    by_cases hjk:j=k
    ·subst hjk;exact f
    ·rw [getD_set_ne true hjk] at hun;exact hun
   have m:(listed.setIfInBounds j true).getD i true=false:=by
    rw [getD_set_ne true hji];exact (mem_ready.1 hr).1
   refine wpOp_mono (fun a' w' h3=>?_) h2;have r:S (listed.setIfInBounds j true) w':=hdn _ _ m (by rw [Array.setIfInBounds_comm _ _ hji];exact h3.2.1);refine⟨r,ih (listed.setIfInBounds j true) a' w' (hG _ _ hj hg) d (ready_mono hr (Ne.symm hji)) h3.1 r ?_⟩;rw [Array.setIfInBounds_comm _ _ hji];exact h3.2.2
end
def Clo (l:List Oper) (listed:Array Bool):Prop:=∀ j,listed.getD j false=true->∀ o,l[j]?=some o->∀ e∈o.after,Region.binds .any e=true->listed.getD e.on false=true
def below (l:List Oper):Nat->Nat->Nat->Bool
 |0,_,_=>false
 |f+1,t,i=>match l[t]? with
  |some o=>o.after.any fun e=>Region.binds .any e&&(e.on==i || below l f e.on i)
  |none=>false
theorem zfH {l:List Oper} {listed:Array Bool}(hc:Clo l listed):∀ (f t i:Nat),below l f t i=true->listed.getD t false=true->listed.getD i false=true
 |0,_,_,h,_=>by simp [below] at h
 |f+1,t,i,h,ht=>by
  unfold below at h
  cases ho:l[t]? with
  |none=>simp [ho] at h
  |some o =>
   simp only [ho] at h
   obtain⟨e,he,hb⟩:=Array.any_eq_true'.1 h
   simp only [dI,Bool.or_eq_true,beq_iff_eq] at hb
   have h1:=hc t ht o ho e he hb.1
   rcases hb.2 with h2|h2
   ·rw [← h2];exact h1
   ·exact zfH hc f e.on i h2 h1
theorem zbo {l:List Oper} {listed:Array Bool} (hj:j∈Region.ready .any l.toArray listed)(h:Clo l listed):Clo l (listed.setIfInBounds j true):=by
 intro k hk o ho e he hb
 by_cases hkj:j=k
 ·subst hkj;obtain⟨_,b,ho',a⟩:=mem_ready.1 hj;have:b=o:=by
   have h1:l[j]?=some b:=by simpa using ho'
   rw [ho] at h1;exact (Option.some.inj h1).symm
  subst this;exact getD_set_true (a e he hb)
 ·rw [getD_set_ne false hkj] at hk;exact getD_set_true (h k hk o ho e he hb)
def pureOp:Op->Bool
 |.move _ | .assign _ | .pick _ _ _ | .binOp _ _ _ _ _ | .unOp _ _ _ | .fieldAddr _ _ _ | .field _ _ _ | .extract _ _ | .build _ _=>true
 |_=>false
inductive Ord where
 |nil:Ord
 |one:Nat->Ord->Ord
 |two:Nat->Ord->Nat->Ord->Ord
def Ord.of:List Nat->Ord
 |[]=>.nil
 |i :: r=>.one i (Ord.of r)
def Ord.app:List Nat->Ord->Ord
 |[],o=>o
 |i :: r,o=>.one i (Ord.app r o)
def zer (l:List Oper) (T:List Nat):Ord->Array Bool->Bool
 |.nil,listed=>(Region.ready .any l.toArray listed).isEmpty
 |.one i rest,listed =>
  (match l[i]? with
   |some o=>if zce o.op then Region.free .any l.toArray listed i&&(Region.ready .any l.toArray listed).contains i&&!T.contains i&&(pureOp o.op || T.all fun t=>below l l.length t i)
    else Region.ready .any l.toArray listed==[i]
   |none=>false)&&zer l T rest (listed.setIfInBounds i true)
 |.two i r j r',listed=>(i<l.length&&j<l.length&&Region.ready .any l.toArray listed==[i,j])&&(zer l T r (listed.setIfInBounds i true)&&zer l T r' (listed.setIfInBounds j true))
def zaP (P:Program) (l:List Oper) (T:List Nat) (Q:Exit->Act->World->Prop) (S:World->Prop):Ord->Act->World->Prop
 |.nil,a,w=>Q .normal a w
 |.one i rest,a,w=>match l[i]? with
  |some o=>if zce o.op then ∃ v,YieldsIf P l.toArray (if pureOp o.op then fun _=>True else S) o v a∧zaP P l T Q S rest (a.put o.dst v) w
   else wpOp P l.toArray Q i (fun a' w'=>(T.contains i=false->S w')∧zaP P l T Q S rest a' w') a w
  |none=>False
 |.two i r j r',a,w=>wpOp P l.toArray Q i (fun a' w'=>(T.contains i=false->S w')∧zaP P l T Q S r a' w') a w∧wpOp P l.toArray Q j (fun a' w'=>(T.contains j=false->S w')∧zaP P l T Q S r' a' w') a w
def Ord.len:Ord->Nat
 |.nil=>0
 |.one _ r=>r.len+1
 |.two _ r _ r'=>(if r.len=r'.len then r.len else 0)+1
def Ord.even:Ord->Bool
 |.nil=>true
 |.one _ r=>r.even
 |.two _ r _ r'=>r.len==r'.len&&(r.even&&r'.even)
section
variable {P:Program} {l:List Oper} {Q:Exit->Act->World->Prop} {S:World->Prop} {T:List Nat}
def zdi (T:List Nat) (listed:Array Bool):Prop:=∃ t∈T,listed.getD t false=true
theorem zde (hs:Region.noSelect l.toArray=true)(hQ:∀ (c:List PanicEntry) (a:Act) (d:Tmp) (v:Value) (w:World),Q (.panic c) (a.put (some d) v) w->Q (.panic c) a w) :
  ∀ (ord:Ord) (listed:Array Bool) (a:Act) (w:World),listed.size=l.length->Clo l listed->ord.even=true->zer l T ord listed=true->(zdi T listed∨S w)->zaP P l T Q S ord a w ->
   wpAnyL P .any l.toArray Q (fun listed w=>zdi T listed∨S w) ord.len listed a w
 |.nil,listed,a,w,_,_,_,hok,_,h=>by
  simp only [zer,List.isEmpty_iff] at hok;exact⟨hok,h⟩
 |.one i rest,listed,a,w,hsz,hc,hev,hok,hS,h=>by
  cases ho:l[i]? with
  |none=>simp [zer,ho] at hok
  |some o =>
   have hil:i<l.length:=(List.getElem?_eq_some_iff.1 ho).1;simp only [zer,ho,dI] at hok;simp only [zaP,ho] at h
   by_cases hq:zce o.op=true
   ·rw [if_pos hq] at hok h;simp only [dI] at hok;obtain⟨⟨⟨⟨hf,hrd⟩,hnT⟩,hpure⟩,hrest⟩:=hok;obtain⟨v,hy,hr⟩:=h;have hmem:i∈Region.ready .any l.toArray listed:=by simpa using hrd
    have u:i∉T:=by simpa using hnT
    have g:∀ listed:Array Bool,zdi T (listed.setIfInBounds i true)↔zdi T listed:=fun listed=>by
     constructor
     ·rintro ⟨t,p,q⟩;refine⟨t,p,?_⟩;rwa [getD_set_ne false (by rintro rfl;exact u p)] at q
     ·rintro ⟨t,p,q⟩;exact⟨t,p,getD_set_true q⟩
    refine wpAnyL_first (G:=fun listed=>Clo l listed∧listed.size=l.length) (by simpa using ho) (Region.noSelect_spec hs)
     (fun c a w h=>by cases hd:o.dst with|none=>rw [hd] at h;exact h|some d=>rw [hd] at h;exact hQ c a d v w h)
     (fun li j m hg=>⟨zbo m hg.1,by simpa using hg.2⟩) ?_ (fun li w h=>h.imp (fun x=>(g li).2 x) id) (fun li w _ h=>h.imp (fun x=>(g li).1 x) id)
     rest.len listed a w ⟨hc,hsz⟩ (Region.free_spec (by simpa using ho) hf) hmem hy hS ?_
    ·intro li w' hg hun h
     by_cases hp:pureOp o.op=true
     ·rw [if_pos hp];trivial
     ·rw [if_neg hp];rcases h with ⟨t,p,q⟩|h
      ·exfalso;simp only [hp,Bool.false_or] at hpure;have C:=List.all_eq_true.1 hpure t p;have h1:=zfH hg.1 _ _ _ C q;have h2:i<li.size:=by rw [hg.2];exact hil
       simp [h2] at hun h1;rw [h1] at hun;cases hun
      ·exact h
    ·exact zde hs hQ rest _ _ _ (by simpa using hsz) (zbo hmem hc) hev hrest (hS.imp (fun x=>(g _).2 x) id) hr
   ·rw [if_neg hq] at hok h;have b:Region.ready .any l.toArray listed=[i]:=by simpa using hok.1
    have hmem:i∈Region.ready .any l.toArray listed:=by rw [b];simp
    refine⟨fun h0=>(by rw [h0] at b;cases b),fun j m=>?_⟩;rw [b] at m;rw [List.mem_singleton.1 m];refine wpOp_mono (fun a' w' h=>?_) h;have f:zdi T (listed.setIfInBounds i true)∨S w':=by
     cases hT:T.contains i
     ·exact Or.inr (h.1 hT)
     ·refine Or.inl ⟨i,by simpa using hT,?_⟩;have:i<listed.size:=oM;simp [this]
    exact⟨f,zde hs hQ rest _ _ _ (by simpa using hsz) (zbo hmem hc) hev hok.2 f h.2⟩
 |.two i r j r',listed,a,w,hsz,hc,hev,hok,hS,h=>by
  simp only [Ord.even,dI,beq_iff_eq] at hev;simp only [zer,dI,decide_eq_true_eq,beq_iff_eq] at hok;simp only [zaP] at h;obtain⟨⟨⟨B,m⟩,b⟩,y,z⟩:=hok;have s:(Ord.two i r j r').len=r.len+1:=by simp [Ord.len,hev.1]
  rw [s];have D:∀ k,k∈Region.ready .any l.toArray listed↔k=i∨k=j:=fun k=>by rw [b];simp
  have f:∀ k w',k<l.length->(T.contains k=false->S w')->zdi T (listed.setIfInBounds k true)∨S w':=fun k w' hk hx=>by
   cases hT:T.contains k
   ·exact Or.inr (hx hT)
   ·refine Or.inl ⟨k,by simpa using hT,?_⟩;have:k<listed.size:=oM;simp [this]
  refine⟨fun h0=>(by rw [h0] at b;cases b),fun k hk=>?_⟩;rcases (D k).1 hk with n | n
  ·rw [n] at hk ⊢;refine wpOp_mono (fun a' w' h=>?_) h.1;exact⟨f _ _ B h.1,zde hs hQ r _ _ _ (by simpa using hsz) (zbo hk hc) hev.2.1 y (f _ _ B h.1) h.2⟩
  ·rw [n] at hk ⊢;refine wpOp_mono (fun a' w' h=>?_) h.2;have:=zde hs hQ r' _ _ _ (by simpa using hsz) (zbo hk hc) hev.2.2 z (f _ _ m h.1) h.2;rw [← hev.1] at this;exact⟨f _ _ m h.1,this⟩
theorem clo_start (l:List Oper):Clo l (Array.replicate l.length false):=by
 intro j hj;exfalso;rcases eL j l.length with h|h
 ·simp [h] at hj
 ·simp [Nat.not_lt.2 h] at hj
theorem zhM (S:World->Prop) (T:List Nat) (ord:Ord)(hm:P.follows .mixedOrders=true)(hlen:ord.len=l.length)(hev:ord.even=true)(hs:Region.noSelect l.toArray=true)(hok:zer l T ord (Array.replicate l.length false)=true)
  (hQ:∀ (c:List PanicEntry) (a:Act) (d:Tmp) (v:Value) (w:World),Q (.panic c) (a.put (some d) v) w->Q (.panic c) a w) (hS:S w.drew) (h:zaP P l T Q S ord a w.drew):(Code.region id l.toArray true).wp P Q a w:=by
 refine wp_region_any hm ?_;have:=zfR _ _ _ _ (zde hs hQ ord _ a w.drew sM (clo_start l) hev hok (Or.inr hS) h);rw [hlen] at this;simpa using this
theorem zal (h:Q .normal a w):zaP P l T Q S .nil a w:=h
theorem tseq_pure {rest:Ord} {o:Oper}   (ho:l[i]?=some o)(hq:zce o.op=true) (_hp:pureOp o.op=true)(hw:Region.wanted o (yielded l.toArray a.tmps)=true)
  (hy:∀ W,(execOp a.eval o).run P W=.ok (.value v) W) (h:zaP P l T Q S rest (a.put o.dst v) w):zaP P l T Q S (.one i rest) a w:=by
 simp only [zaP,ho,hq,if_true];exact⟨v,.inl ⟨hw,fun W _=>hy W⟩,h⟩
theorem tseq_read {rest:Ord} {o:Oper}   (ho:l[i]?=some o)(hq:zce o.op=true)(hp:pureOp o.op=false)(hw:Region.wanted o (yielded l.toArray a.tmps)=true)
  (hy:∀ W,S W->(execOp a.eval o).run P W=.ok (.value v) W) (h:zaP P l T Q S rest (a.put o.dst v) w):zaP P l T Q S (.one i rest) a w:=by
 simp only [zaP,ho,hq,hp,if_true];exact⟨v,.inl ⟨hw,hy⟩,h⟩
theorem yN01a4 {P:Prop}(h:P:=by
 split
 ·exact⟨undef,.inr ⟨hw,rfl⟩,h⟩
 ·unfold wpOp;simp only [List.getElem?_toArray,ho,hw,Bool.false_eq_true,if_false];exact⟨fun _=>hS,h⟩
 ):P:=h
theorem tseq_skip {rest:Ord} {o:Oper}  (ho:l[i]?=some o)(hw:Region.wanted o (yielded l.toArray a.tmps)=false)
  (hS:S w) (h:zaP P l T Q S rest (a.put o.dst undef) w):zaP P l T Q S (.one i rest) a w:=by
 simp only [zaP,ho];exact yN01a4
theorem zB {rest:Ord} {o:Oper}  
  (h:∀ K:Act->World->Prop,Shut (∀ a w,S w->zaP P l T Q S rest a w->K a w)->o.wp P a w K Q) (ho:l[i]?=some o:=by rfl) (hq:zce o.op=false:=by rfl) (hw:Region.wanted o (yielded l.toArray a.tmps)=true:=by rfl):zaP P l T Q S (.one i rest) a w:=by
 simp only [zaP,ho,hq];unfold wpOp;simp only [eP,ho,hw,if_true];exact .inl (h _ fun a w hS hW=>⟨fun _=>hS,hW⟩)
theorem zN {rest:Ord} {o:Oper}  
  (h:∀ K:Act->World->Prop,Shut (∀ a w,zaP P l T Q S rest a w->K a w)->o.wp P a w K Q) (ho:l[i]?=some o:=by rfl) (hq:zce o.op=false:=by rfl) (hT:T.contains i=true:=by rfl) (hw:Region.wanted o (yielded l.toArray a.tmps)=true:=by rfl):zaP P l T Q S (.one i rest) a w:=by
 simp only [zaP,ho,hq];unfold wpOp;simp only [eP,ho,hw,if_true];exact .inl (h _ fun a w hW=>⟨fun hn=>absurd (hn.symm.trans hT) dM,hW⟩)
end
section
variable {P:Program} {l:List Oper} {Q:Exit->Act->World->Prop} {S:World->Prop} {T:List Nat}
theorem yN01a1 {P:Prop}(h:P:=by
 constructor
 ·unfold wpOp;simp only [List.getElem?_toArray,ho,hw,if_true];exact .inl (h1 _ fun a w hS hW=>⟨fun _=>hS,hW⟩)
 ·unfold wpOp;simp only [List.getElem?_toArray,ho',hw',if_true];exact .inl (h2 _ fun a w hS hW=>⟨fun _=>hS,hW⟩)
 ):P:=h
theorem zfC {j:Nat} {r r':Ord} {o o':Oper}  
  (h1:∀ K:Act->World->Prop,Shut (∀ a w,S w->zaP P l T Q S r a w->K a w)->o.wp P a w K Q) (h2:∀ K:Act->World->Prop,Shut (∀ a w,S w->zaP P l T Q S r' a w->K a w)->o'.wp P a w K Q) (ho:l[i]?=some o:=by rfl) (ho':l[j]?=some o':=by rfl) (hw:Region.wanted o (yielded l.toArray a.tmps)=true:=by rfl) (hw':Region.wanted o' (yielded l.toArray a.tmps)=true:=by rfl):zaP P l T Q S (.two i r j r') a w:=by
 exact yN01a1
end
theorem zaE {P:Program} (wb w:World) {o:Oper}  {K:Act->World->Prop} {Q:Exit->Act->World->Prop} (s x:Operand) (t:TypeId)
  (ho:o.op=.call { callee:=.builtin .append,args:=#[s,x],argTypes:=#[t,t] })
  (e:TypeId) (z:Value) (size bytes:Nat) (ht:P.underlying t=some (.slice e)) (hi:(P.info? e).map (fun i=>(i.zero,i.size,i.bytes))=some (some z,size,bytes)) (hzs:z.cells.size=size) (hsz:0<size)
  (v:Value) (n:Nat) (xs:List Value) (us:Array Value) (e':TypeId) (hs:a.eval s=v) (hx:a.eval x=.slice (some w.heap.size) 1 1)
  (zjg:wb.heap.size<=w.heap.size) (zje:w.ownsRow wb.heap.size e size v n xs) (hus:us.size=size) (h1:∀ u∈us.toList,u.oneCell'=true)
  (h63:n+1<=maxLen) (hbytes:(n+1)*bytes<=140737488355328)
  (h:∀ g cap w',w'.ownsRow wb.heap.size e size (.slice (some ⟨g,0,none⟩) (n+1) cap) (n+1) (xs++us.toList)->w.grownBy w' v.ownBlock->(v.ownBlock=some g∨g=w.heap.size+1)->g<w'.heap.size->K (a.put o.dst (.slice (some ⟨g,0,none⟩) (n+1) cap)) w') :
  o.wp P a (w.alloc (.cells us e')) K Q:=by
 obtain⟨i,c,d,f,l⟩:=info_parts hi;refine wp_append_lies (w.alloc (.cells us e')) s x t ho wb.heap.size e i z size bytes ht c d f l hzs hsz v n xs hs (zje.alloc _) ⟨w.heap.size,0,none⟩ 1 1 us.toList hx (by simpa using hus) ?_ h1 oM h63 hbytes (by simp;omega) (w.heap.size+1) sM ?_
 ·intro j u hu;rw [zX,dW,(Blk.new w e' us).cell];simpa using hu
 ·intro g cap w' hown' hg hat hlt;have b:w.grownBy w' v.ownBlock:=⟨hg.os,hg.tape,hg.output,dL sM hg.size,fun k hk hne=>(hg.block k (by simp;omega) hne).trans (Below.heap_alloc w _ k hk)⟩;exact h g cap w' hown' b hat hlt
theorem zQ {P:Program} (wb w:World) {ops:Array Oper} {rest:List Oper} {o:Oper}  {Q:Exit->Act->World->Prop}(hgd:o.guard=none) (s x:Operand) (t:TypeId)
  (ho:o.op=.call { callee:=.builtin .append,args:=#[s,x],argTypes:=#[t,t] })
  (e:TypeId) (z:Value) (size bytes:Nat) (ht:P.underlying t=some (.slice e)) (hi:(P.info? e).map (fun i=>(i.zero,i.size,i.bytes))=some (some z,size,bytes)) (hzs:z.cells.size=size) (hsz:0<size)
  (v:Value) (n:Nat) (xs:List Value) (us:Array Value) (e':TypeId) (hs:a.eval s=v) (hx:a.eval x=.slice (some w.heap.size) 1 1)
  (zjg:wb.heap.size<=w.heap.size) (zje:w.ownsRow wb.heap.size e size v n xs) (hus:us.size=size) (h1:∀ u∈us.toList,u.oneCell'=true)
  (h63:n+1<=maxLen) (hbytes:(n+1)*bytes<=140737488355328)
  (h:∀ g cap w',w'.ownsRow wb.heap.size e size (.slice (some ⟨g,0,none⟩) (n+1) cap) (n+1) (xs++us.toList)->w.grownBy w' v.ownBlock->(v.ownBlock=some g∨g=w.heap.size+1)->g<w'.heap.size->wpList P ops Q rest (a.put o.dst (.slice (some ⟨g,0,none⟩) (n+1) cap)) w') :
  wpList P ops Q (o :: rest) a (w.alloc (.cells us e')):=
 wpList_plain hgd fun _ hK=>zaE wb w s x t ho e z size bytes ht hi hzs hsz v n xs us e' hs hx zjg zje hus h1 h63 hbytes fun g cap w' h2 h3 h4 h5=>hK _ _ (h g cap w' h2 h3 h4 h5)
theorem tQ {A B:Prop}(h:B) (k:Bx B->A:=by
 intro h0
 repeat (first|(refine tseq_skip rfl rfl aM ?_;simp only [Act.put,List.setIfInBounds_toArray,List.set_cons_zero,List.set_cons_succ])|(refine tseq_pure (v:=?_) rfl rfl rfl rfl (fun X=>?_) ?_;rotate_left;(focus (go_simp<;>with_reducible rfl));simp only [Act.put,List.setIfInBounds_toArray,List.set_cons_zero,List.set_cons_succ])|(refine tseq_read (v:=?_) rfl rfl rfl rfl (fun X hX=>?_) ?_;rotate_left;(focus (go_simp<;>with_reducible rfl));simp only [Act.put,List.setIfInBounds_toArray,List.set_cons_zero,List.set_cons_succ]))
 exact h0.out):A:=k ⟨h⟩
theorem tR {P:Program} {l:List Oper} {Q:Exit->Act->World->Prop} {id:Nat}   (S:World->Prop) (T:List Nat) (ord:Ord)(h:zaP P l T Q S ord a w.drew)(hm:P.follows .mixedOrders=true:=by kernel_rfl)(hlen:ord.len=l.length:=by rfl)(hev:ord.even=true:=by kernel_rfl)(hs:Region.noSelect l.toArray=true:=by kernel_rfl)(hok:zer l T ord (Array.replicate l.length false)=true:=by kernel_rfl)
  (hQ:∀ (c:List PanicEntry) (a:Act) (d:Tmp) (v:Value) (w:World),Q (.panic c) (a.put (some d) v) w->Q (.panic c) a w:=by exact fun _ _ _ _ _ h=>h) (hS:S w.drew:=by first|assumption|exact (Ext.refl _).drew|exact (Dr.refl _ _).drew|(refine Ext.drew ?_;assumption)):(Code.region id l.toArray true).wp P Q a w:=
 zhM S T ord hm hlen hev hs hok hQ hS h
def zgW:Op->Bool
 |.makeFunc _ _ _ | .move _ | .assign _ | .pick _ _ _ | .binOp _ _ _ _ _ | .unOp _ _ _ | .fieldAddr _ _ _ | .field _ _ _ | .extract _ _ | .build _ _=>true
 |_=>false
def zds:Op->Bool
 |.makeFunc _ _ _=>true
 |o=>zce o
inductive zw where
 |nil:zw
 |one:Nat->zw->zw
 |two:Nat->zw->Nat->zw->zw
 |three:Nat->zw->Nat->zw->Nat->zw->zw
def zw.of:List Nat->zw
 |[]=>.nil
 |i :: r=>.one i (zw.of r)
def zw.app:List Nat->zw->zw
 |[],o=>o
 |i :: r,o=>.one i (zw.app r o)
def zcI (l:List Oper) (T:List Nat):zw->Array Bool->Bool
 |.nil,listed=>(Region.ready .any l.toArray listed).isEmpty
 |.one i rest,listed =>
  (match l[i]? with
   |some o=>if zds o.op then Region.free .any l.toArray listed i&&(Region.ready .any l.toArray listed).contains i&&!T.contains i&&(zgW o.op || T.all fun t=>below l l.length t i)
    else Region.ready .any l.toArray listed==[i]
   |none=>false)&&zcI l T rest (listed.setIfInBounds i true)
 |.two i r j r',listed=>(i<l.length&&j<l.length&&Region.ready .any l.toArray listed==[i,j])&&(zcI l T r (listed.setIfInBounds i true)&&zcI l T r' (listed.setIfInBounds j true))
 |.three i r j r' k r'',listed=>(i<l.length&&j<l.length&&k<l.length&&Region.ready .any l.toArray listed==[i,j,k])&&(zcI l T r (listed.setIfInBounds i true)&&zcI l T r' (listed.setIfInBounds j true)&&zcI l T r'' (listed.setIfInBounds k true))
def zaz (P:Program) (l:List Oper) (T:List Nat) (Q:Exit->Act->World->Prop) (S:World->Prop):zw->Act->World->Prop
 |.nil,a,w=>Q .normal a w
 |.one i rest,a,w=>match l[i]? with
  |some o=>if zds o.op then ∃ v,YieldsIf P l.toArray (if zgW o.op then fun _=>True else S) o v a∧zaz P l T Q S rest (a.put o.dst v) w
   else wpOp P l.toArray Q i (fun a' w'=>(T.contains i=false->S w')∧zaz P l T Q S rest a' w') a w
  |none=>False
 |.two i r j r',a,w=>wpOp P l.toArray Q i (fun a' w'=>(T.contains i=false->S w')∧zaz P l T Q S r a' w') a w∧wpOp P l.toArray Q j (fun a' w'=>(T.contains j=false->S w')∧zaz P l T Q S r' a' w') a w
 |.three i r j r' k r'',a,w=>wpOp P l.toArray Q i (fun a' w'=>(T.contains i=false->S w')∧zaz P l T Q S r a' w') a w∧wpOp P l.toArray Q j (fun a' w'=>(T.contains j=false->S w')∧zaz P l T Q S r' a' w') a w∧wpOp P l.toArray Q k (fun a' w'=>(T.contains k=false->S w')∧zaz P l T Q S r'' a' w') a w
def zw.len:zw->Nat
 |.nil=>0
 |.one _ r=>r.len+1
 |.two _ r _ _=>r.len+1
 |.three _ r _ _ _ _=>r.len+1
def zw.even:zw->Bool
 |.nil=>true
 |.one _ r=>r.even
 |.two _ r _ r'=>r.len==r'.len&&(r.even&&r'.even)
 |.three _ r _ r' _ r''=>(r.len==r'.len&&r.len==r''.len)&&(r.even&&r'.even&&r''.even)
section
variable {P:Program} {l:List Oper} {Q:Exit->Act->World->Prop} {S:World->Prop} {T:List Nat}
theorem zbJ (hs:Region.noSelect l.toArray=true)(hQ:∀ (c:List PanicEntry) (a:Act) (d:Tmp) (v:Value) (w:World),Q (.panic c) (a.put (some d) v) w->Q (.panic c) a w) :
  ∀ (ord:zw) (listed:Array Bool) (a:Act) (w:World),listed.size=l.length->Clo l listed->ord.even=true->zcI l T ord listed=true->(zdi T listed∨S w)->zaz P l T Q S ord a w ->
   wpAnyL P .any l.toArray Q (fun listed w=>zdi T listed∨S w) ord.len listed a w
 |.nil,listed,a,w,_,_,_,hok,_,h=>by
  simp only [zcI,List.isEmpty_iff] at hok;exact⟨hok,h⟩
 |.one i rest,listed,a,w,hsz,hc,hev,hok,hS,h=>by
  cases ho:l[i]? with
  |none=>simp [zcI,ho] at hok
  |some o =>
   have hil:i<l.length:=(List.getElem?_eq_some_iff.1 ho).1;simp only [zcI,ho,dI] at hok;simp only [zaz,ho] at h
   by_cases hq:zds o.op=true
   ·rw [if_pos hq] at hok h;simp only [dI] at hok;obtain⟨⟨⟨⟨hf,hrd⟩,hnT⟩,hpure⟩,hrest⟩:=hok;obtain⟨v,hy,hr⟩:=h;have hmem:i∈Region.ready .any l.toArray listed:=by simpa using hrd
    have D:i∉T:=by simpa using hnT
    have p:∀ listed:Array Bool,zdi T (listed.setIfInBounds i true)↔zdi T listed:=fun listed=>by
     constructor
     ·rintro ⟨t,z,C⟩;refine⟨t,z,?_⟩;rwa [getD_set_ne false (by rintro rfl;exact D z)] at C
     ·rintro ⟨t,z,C⟩;exact⟨t,z,getD_set_true C⟩
    refine wpAnyL_first (G:=fun listed=>Clo l listed∧listed.size=l.length) (by simpa using ho) (Region.noSelect_spec hs)
     (fun c a w h=>by cases hd:o.dst with|none=>rw [hd] at h;exact h|some d=>rw [hd] at h;exact hQ c a d v w h)
     (fun li j s hg=>⟨zbo s hg.1,by simpa using hg.2⟩) ?_ (fun li w h=>h.imp (fun x=>(p li).2 x) id) (fun li w _ h=>h.imp (fun x=>(p li).1 x) id)
     rest.len listed a w ⟨hc,hsz⟩ (Region.free_spec (by simpa using ho) hf) hmem hy hS ?_
    ·intro li w' hg hun h
     by_cases hp:zgW o.op=true
     ·rw [if_pos hp];trivial
     ·rw [if_neg hp];rcases h with ⟨t,z,C⟩|h
      ·exfalso;simp only [hp,Bool.false_or] at hpure;have J:=List.all_eq_true.1 hpure t z;have h1:=zfH hg.1 _ _ _ J C;have h2:i<li.size:=by rw [hg.2];exact hil
       simp [h2] at hun h1;rw [h1] at hun;cases hun
      ·exact h
    ·exact zbJ hs hQ rest _ _ _ (by simpa using hsz) (zbo hmem hc) hev hrest (hS.imp (fun x=>(p _).2 x) id) hr
   ·rw [if_neg hq] at hok h;have b:Region.ready .any l.toArray listed=[i]:=by simpa using hok.1
    have hmem:i∈Region.ready .any l.toArray listed:=by rw [b];simp
    refine⟨fun h0=>(by rw [h0] at b;cases b),fun j s=>?_⟩;rw [b] at s;rw [List.mem_singleton.1 s];refine wpOp_mono (fun a' w' h=>?_) h;have f:zdi T (listed.setIfInBounds i true)∨S w':=by
     cases hT:T.contains i
     ·exact Or.inr (h.1 hT)
     ·refine Or.inl ⟨i,by simpa using hT,?_⟩;have:i<listed.size:=oM;simp [this]
    exact⟨f,zbJ hs hQ rest _ _ _ (by simpa using hsz) (zbo hmem hc) hev hok.2 f h.2⟩
 |.two i r j r',listed,a,w,hsz,hc,hev,hok,hS,h=>by
  simp only [zw.even,dI,beq_iff_eq] at hev;simp only [zcI,dI,decide_eq_true_eq,beq_iff_eq] at hok;simp only [zaz] at h;obtain⟨⟨⟨B,s⟩,b⟩,m,n⟩:=hok;have g:(zw.two i r j r').len=r.len+1:=rfl;rw [g];have F:∀ k,k∈Region.ready .any l.toArray listed↔k=i∨k=j:=fun k=>by rw [b];simp
  have f:∀ k w',k<l.length->(T.contains k=false->S w')->zdi T (listed.setIfInBounds k true)∨S w':=fun k w' u hx=>by
   cases hT:T.contains k
   ·exact Or.inr (hx hT)
   ·refine Or.inl ⟨k,by simpa using hT,?_⟩;have:k<listed.size:=oM;simp [this]
  refine⟨fun h0=>(by rw [h0] at b;cases b),fun k u=>?_⟩;rcases (F k).1 u with y | y
  ·rw [y] at u ⊢;refine wpOp_mono (fun a' w' h=>?_) h.1;exact⟨f _ _ B h.1,zbJ hs hQ r _ _ _ (by simpa using hsz) (zbo u hc) hev.2.1 m (f _ _ B h.1) h.2⟩
  ·rw [y] at u ⊢;refine wpOp_mono (fun a' w' h=>?_) h.2;have:=zbJ hs hQ r' _ _ _ (by simpa using hsz) (zbo u hc) hev.2.2 n (f _ _ s h.1) h.2;rw [← hev.1] at this;exact⟨f _ _ s h.1,this⟩
 |.three i r j r' k r'',listed,a,w,hsz,hc,hev,hok,hS,h=>by
  simp only [zw.even,dI,beq_iff_eq] at hev;simp only [zcI,dI,decide_eq_true_eq,beq_iff_eq] at hok;simp only [zaz] at h;obtain⟨⟨⟨⟨B,s⟩,u⟩,b⟩,⟨m,n⟩,E⟩:=hok;obtain⟨⟨H,I⟩,⟨L,M⟩,O⟩:=hev;have g:(zw.three i r j r' k r'').len=r.len+1:=rfl;rw [g];have F:∀ x,x∈Region.ready .any l.toArray listed↔x=i∨x=j∨x=k:=fun x=>by rw [b];simp
  have f:∀ k w',k<l.length->(T.contains k=false->S w')->zdi T (listed.setIfInBounds k true)∨S w':=fun k w' u hx=>by
   cases hT:T.contains k
   ·exact Or.inr (hx hT)
   ·refine Or.inl ⟨k,by simpa using hT,?_⟩;have:k<listed.size:=oM;simp [this]
  refine⟨fun h0=>(by rw [h0] at b;cases b),fun x hx=>?_⟩;rcases (F x).1 hx with q | q | q
  ·rw [q] at hx ⊢;refine wpOp_mono (fun a' w' h=>?_) h.1;exact⟨f _ _ B h.1,zbJ hs hQ r _ _ _ (by simpa using hsz) (zbo hx hc) L m (f _ _ B h.1) h.2⟩
  ·rw [q] at hx ⊢;refine wpOp_mono (fun a' w' h=>?_) h.2.1;have:=zbJ hs hQ r' _ _ _ (by simpa using hsz) (zbo hx hc) M n (f _ _ s h.1) h.2;rw [← H] at this;exact⟨f _ _ s h.1,this⟩
  ·rw [q] at hx ⊢;refine wpOp_mono (fun a' w' h=>?_) h.2.2;have:=zbJ hs hQ r'' _ _ _ (by simpa using hsz) (zbo hx hc) O E (f _ _ u h.1) h.2;rw [← I] at this;exact⟨f _ _ u h.1,this⟩
theorem zbn (S:World->Prop) (T:List Nat) (ord:zw)(hm:P.follows .mixedOrders=true)(hlen:ord.len=l.length)(hev:ord.even=true)(hs:Region.noSelect l.toArray=true)(hok:zcI l T ord (Array.replicate l.length false)=true)
  (hQ:∀ (c:List PanicEntry) (a:Act) (d:Tmp) (v:Value) (w:World),Q (.panic c) (a.put (some d) v) w->Q (.panic c) a w) (hS:S w.drew) (h:zaz P l T Q S ord a w.drew):(Code.region id l.toArray true).wp P Q a w:=by
 refine wp_region_any hm ?_;have:=zfR _ _ _ _ (zbJ hs hQ ord _ a w.drew sM (clo_start l) hev hok (Or.inr hS) h);rw [hlen] at this;simpa using this
theorem ze (h:Q .normal a w):zaz P l T Q S .nil a w:=h
theorem useq_pure {rest:zw} {o:Oper}   (ho:l[i]?=some o)(hq:zds o.op=true) (_hp:zgW o.op=true)(hw:Region.wanted o (yielded l.toArray a.tmps)=true)
  (hy:∀ W,(execOp a.eval o).run P W=.ok (.value v) W) (h:zaz P l T Q S rest (a.put o.dst v) w):zaz P l T Q S (.one i rest) a w:=by
 simp only [zaz,ho,hq,if_true];exact⟨v,.inl ⟨hw,fun W _=>hy W⟩,h⟩
theorem zbU {rest:zw} {o:Oper}   (ho:l[i]?=some o)(hq:zds o.op=true)(hp:zgW o.op=false)(hw:Region.wanted o (yielded l.toArray a.tmps)=true)
  (hy:∀ W,S W->(execOp a.eval o).run P W=.ok (.value v) W) (h:zaz P l T Q S rest (a.put o.dst v) w):zaz P l T Q S (.one i rest) a w:=by
 simp only [zaz,ho,hq,hp,if_true];exact⟨v,.inl ⟨hw,hy⟩,h⟩
theorem useq_skip {rest:zw} {o:Oper}  (ho:l[i]?=some o)(hw:Region.wanted o (yielded l.toArray a.tmps)=false)
  (hS:S w) (h:zaz P l T Q S rest (a.put o.dst undef) w):zaz P l T Q S (.one i rest) a w:=by
 simp only [zaz,ho];exact yN01a4
theorem zd {rest:zw} {o:Oper}  
  (h:∀ K:Act->World->Prop,Shut (∀ a w,S w->zaz P l T Q S rest a w->K a w)->o.wp P a w K Q) (ho:l[i]?=some o:=by rfl) (hq:zds o.op=false:=by rfl) (hw:Region.wanted o (yielded l.toArray a.tmps)=true:=by rfl):zaz P l T Q S (.one i rest) a w:=by
 simp only [zaz,ho,hq];unfold wpOp;simp only [eP,ho,hw,if_true];exact .inl (h _ fun a w hS hW=>⟨fun _=>hS,hW⟩)
theorem zb {rest:zw} {o:Oper}  
  (h:∀ K:Act->World->Prop,Shut (∀ a w,zaz P l T Q S rest a w->K a w)->o.wp P a w K Q) (ho:l[i]?=some o:=by rfl) (hq:zds o.op=false:=by rfl) (hT:T.contains i=true:=by rfl) (hw:Region.wanted o (yielded l.toArray a.tmps)=true:=by rfl):zaz P l T Q S (.one i rest) a w:=by
 simp only [zaz,ho,hq];unfold wpOp;simp only [eP,ho,hw,if_true];exact .inl (h _ fun a w hW=>⟨fun hn=>absurd (hn.symm.trans hT) dM,hW⟩)
end
section
variable {P:Program} {l:List Oper} {Q:Exit->Act->World->Prop} {S:World->Prop} {T:List Nat}
theorem zm {j:Nat} {r r':zw} {o o':Oper}  
  (h1:∀ K:Act->World->Prop,Shut (∀ a w,S w->zaz P l T Q S r a w->K a w)->o.wp P a w K Q) (h2:∀ K:Act->World->Prop,Shut (∀ a w,S w->zaz P l T Q S r' a w->K a w)->o'.wp P a w K Q) (ho:l[i]?=some o:=by rfl) (ho':l[j]?=some o':=by rfl) (hw:Region.wanted o (yielded l.toArray a.tmps)=true:=by rfl) (hw':Region.wanted o' (yielded l.toArray a.tmps)=true:=by rfl):zaz P l T Q S (.two i r j r') a w:=by
 exact yN01a1
theorem zaK {j k:Nat} {r r' r'':zw} {o o' o'':Oper}  
  (h1:∀ K:Act->World->Prop,Shut (∀ a w,S w->zaz P l T Q S r a w->K a w)->o.wp P a w K Q) (h2:∀ K:Act->World->Prop,Shut (∀ a w,S w->zaz P l T Q S r' a w->K a w)->o'.wp P a w K Q) (h3:∀ K:Act->World->Prop,Shut (∀ a w,S w->zaz P l T Q S r'' a w->K a w)->o''.wp P a w K Q) (ho:l[i]?=some o:=by rfl) (ho':l[j]?=some o':=by rfl) (ho'':l[k]?=some o'':=by rfl) (hw:Region.wanted o (yielded l.toArray a.tmps)=true:=by rfl) (hw':Region.wanted o' (yielded l.toArray a.tmps)=true:=by rfl) (hw'':Region.wanted o'' (yielded l.toArray a.tmps)=true:=by rfl):zaz P l T Q S (.three i r j r' k r'') a w:=by
 refine⟨?_,?_,?_⟩
 ·unfold wpOp;simp only [eP,ho,hw,if_true];exact .inl (h1 _ fun a w hS hW=>⟨fun _=>hS,hW⟩)
 ·unfold wpOp;simp only [eP,ho',hw',if_true];exact .inl (h2 _ fun a w hS hW=>⟨fun _=>hS,hW⟩)
 ·unfold wpOp;simp only [eP,ho'',hw'',if_true];exact .inl (h3 _ fun a w hS hW=>⟨fun _=>hS,hW⟩)
end
theorem uQ {A B:Prop}(h:B) (k:Bx B->A:=by
 intro h0
 repeat (first|(refine useq_skip rfl rfl aM ?_;simp only [Act.put,List.setIfInBounds_toArray,List.set_cons_zero,List.set_cons_succ])|(refine useq_pure (v:=?_) rfl rfl rfl rfl (fun X=>?_) ?_;rotate_left;(focus (go_simp<;>with_reducible rfl));simp only [Act.put,List.setIfInBounds_toArray,List.set_cons_zero,List.set_cons_succ])|(refine zbU (v:=?_) rfl rfl rfl rfl (fun X hX=>?_) ?_;rotate_left;(focus (go_simp<;>with_reducible rfl));simp only [Act.put,List.setIfInBounds_toArray,List.set_cons_zero,List.set_cons_succ]))
 exact h0.out):A:=k ⟨h⟩
theorem uR {P:Program} {l:List Oper} {Q:Exit->Act->World->Prop} {id:Nat}   (S:World->Prop) (T:List Nat) (ord:zw)(h:zaz P l T Q S ord a w.drew)(hm:P.follows .mixedOrders=true:=by kernel_rfl)(hlen:ord.len=l.length:=by kernel_rfl)(hev:ord.even=true:=by kernel_rfl)(hs:Region.noSelect l.toArray=true:=by kernel_rfl)(hok:zcI l T ord (Array.replicate l.length false)=true:=by kernel_rfl)
  (hQ:∀ (c:List PanicEntry) (a:Act) (d:Tmp) (v:Value) (w:World),Q (.panic c) (a.put (some d) v) w->Q (.panic c) a w:=by exact fun _ _ _ _ _ h=>h) (hS:S w.drew:=by first|assumption|exact (Ext.refl _).drew|(refine Ext.drew ?_;assumption)):(Code.region id l.toArray true).wp P Q a w:=
 zbn S T ord hm hlen hev hs hok hQ hS h
theorem zV (W:World) (Z:Nat) (u0 u1 u2:Value):Frm (fun k=>k=Z) W (((W.setCell Z u0).setCell ⟨Z,1,none⟩ u1).setCell ⟨Z,2,none⟩ u2):=
 ((Frm.setCell W Z 0 u0).trans (Frm.setCell _ Z 1 u1)).trans (Frm.setCell _ Z 2 u2)
theorem zaq {Z:Nat}  (h:Blk w Z t cs)(hc:cs.size=3) (u0 u1 u2:Value):Blk (((w.setCell Z u0).setCell ⟨Z,1,none⟩ u1).setCell ⟨Z,2,none⟩ u2) Z t #[u0,u1,u2]:=by
 obtain⟨l⟩:=cs
 match l,hc with
 |[a,b,c],_=>simpa using ((h.ae 0 u0).ae 1 u1).ae 2 u2
theorem zq {size G:Nat}   (h:w.ownsRow base e size v n xs)(hB:Blk w G t cs)(hne:e≠t) {b:Nat}(hv:v.ownBlock=some b):b≠G:=by
 rintro rfl;rcases h.2 with ⟨rfl,_⟩|⟨g,a,c,rfl,_,d,_⟩
 ·simp [Value.ownBlock] at hv
 ·have hg:g=b:=by simpa [Value.ownBlock] using hv
  subst hg;unfold Blk at hB;rw [d] at hB;injection hB with hB
  injection hB with _ ht
  exact absurd ht hne
structure Gra (w0 W:World) (G:Nat) (al:Int) (v:Value) (ls:List (List Int)) (vA:Value) (acc:List Bool):Prop where
 blk:Blk W G 27 #[al,v,vA]
 own:zed W w0.heap.size v ls
 acc:W.ownsRow w0.heap.size 4 1 vA acc.length (zaw acc)
 ext:Ext w0 W
 hG:w0.heap.size<=G
section
variable {w0 W W':World} {G:Nat} {al:Int} {v vA:Value} {ls:List (List Int)} {acc:List Bool}
theorem Gra.ar (h:Gra w0 W G al v ls vA acc)(hb:Ext W W'):Gra w0 W' G al v ls vA acc:=⟨h.blk.ext hb,h.own.ext hb,zh h.acc hb,h.ext.trans hb,h.hG⟩
theorem Gra.push {W1:World}  {row:Value}  (h:Gra w0 W G al v ls vA acc)(hrows:zE W w0.heap.size rows ls)(hv:W.ownsRow w0.heap.size 110 1 v ls.length rows)
  (hx:Ext W W1) (hrow:W1.ownsRow W.heap.size 3 1 row l.length (ints l))
  (zje:W'.ownsRow w0.heap.size 110 1 (.slice (some g) (ls.length+1) cap) (ls.length+1) (rows++[row]))
  (hg:W1.grownBy W' v.ownBlock) (hat:v.ownBlock=some g∨g=W1.heap.size+1) :
  Hid (W'.cell? ⟨G,1,none⟩=some v)∧W'.frozen? ⟨G,1,none⟩=false∧Gra w0 (W'.setCell ⟨G,1,none⟩ (.slice (some g) (ls.length+1) cap)) G al (.slice (some g) (ls.length+1) cap) (ls++[l]) vA acc:=by
 have a:=h.blk.ext hx;have d:=zh hv hx;have f:Blk W' G 27 #[.int .i64 al,v,vA]:=(hg.block G a.lt (fun e=>zq d a dM e.symm rfl)).trans a;have s:g≠G:=by
  rcases hat with h1|h1
  ·exact zq d a dM h1
  ·have:=a.lt;omega
 have q:Ext w0 W':=(h.ext.trans hx).grown hg (fun k hk=>(d.lt k hk).1);have m:=hrows.snoc hx (h.ext.size) hrow;have j:Frm (fun k=>v.ownBlock=some k) W1 W':=Frm.ab hg;have n:zE W' w0.heap.size (rows++[row]) (ls++[l]):=m.frm j (fun i r b hr hb hS=>by
  obtain⟨t,_,ho⟩:=m.row hr;exact zaI ho d dM hb hS)
 have o:W'.ownsRow w0.heap.size 4 1 vA acc.length (zaw acc):=zf (zh h.acc hx) j (fun b hb hS=>zaI (zh h.acc hx) d dM hb hS);have c:=Frm.setCell W' G 1 (.slice (some g) (ls.length+1) cap);refine⟨f.cell 1,f.frozen 1,⟨by simpa using f.ae 1 _,⟨rows++[row],?_,?_⟩,?_,q.setCell (p:=⟨G,1,none⟩) h.hG _,h.hG⟩⟩
 ·rw [dN,List.length_singleton];exact zf zje c (fun b hv hS=>by
   have:g=b:=by simpa [Value.ownBlock] using hv
   omega)
 ·refine n.frm c (fun i r b hr hb hS=>?_);obtain⟨t,_,ho⟩:=n.row hr;exact zq ho f dM hb hS
 ·exact zf o c (fun b hb hS=>zq o f dM hb hS)
end
theorem zcG {a:Aut} (h:zH w lo hi A n A' n' a)(hs:a.size<=1048576) :
  Calls Tryz.prog 104 #[.agg #[a.al,.slice A n c,.slice A' n' c']] w (RetAut w a):=by
 have h1:n<=1048576:=by have:=h.n1;unfold Aut.size at hs;omega
 have h2:n'<=1048576:=by have:=h.n2;unfold Aut.size at hs;omega
 have o:∀ (k:Nat) (l:List Int),a.next[k]?=some l->l.length<=1048576:=fun k l V=>by
  have h1:=zfB V;have h2:=zhl a.next (k+1);unfold Aut.size at hs;omega
 have O:=za o;have R:=za h.n1;have S:=za h.n2;have HS:=za (fun W (hW:Ext w W)=>h.1.ext hW);have HA:=za (fun W (hW:Ext w W)=>h.2.2.ext hW);have aq:=h.1.len;clear o h hs
 go_enter Tryz.func104,Tryz.ntmps104
 go_upto_region 1 with fail
 generalize U0:(w.alloc _).alloc _=q at *;obtain⟨y,b1,bz⟩:=Ext.x2_ U0;have ar:w.heap.size+2=q.heap.size:=by rw [← U0];simp
 clear U0
 go_cut [3] (fun v wx=>∃ (G:Nat) (vA:Value),v=.pointer (some G)∧Gra q wx G a.al (.slice none 0 0) [] vA a.acc)
 case first =>
  have c1:=fun W (hW:Ext q W)=>(b1.ext hW).cell;have z:=Ext.refl q;refine uR (fun X=>Ext q X) [7] (zw.app [0,1,2,3] (zw.two 4 (zw.of [5,6,7]) 6 (zw.of [4,5,7]))) ?_;refine uQ ?_;have g:Ext q q.drew:=z.drew;generalize q.drew=wd at *;refine zm (fun K hK=>?_) (fun K hK=>?_)
  ·go_simp;refine (zhP (HA.out _ (y.trans g)) h2).mono ?_;rintro e w' ⟨am,rfl,j,C⟩;obtain⟨M,Q,rfl⟩:=zg j;have m:=g.trans C;refine hK.out _ _ m ?_;refine pT ?_;refine uQ ?_;refine zd fun K hK=>?_;go_simp;have B:=(Ext.refl w').alloc (.cells #[(0:Int),(),()] 27);have hG:=m.size;have f:=zn (zh j B) g.size;replace m:=m.trans B;refine hK.out _ _ m ?_;generalize U0:w'.alloc _=L at *;have r:=Ext.bl_ U0;clear U0;generalize w'.heap.size=G at *;refine pT ?_;refine uQ ?_;have cG:=r.cell;have fG:=r.frozen;refine zb fun K hK=>?_;go_simp;refine hK.out _ _ ?_;refine ze ?_;have s:Gra q (((L.setCell G a.al).setCell ⟨G,1,none⟩ ()).setCell ⟨G,2,none⟩ (.slice M n' Q)) G a.al (.slice none 0 0) [] (.slice M n' Q) a.acc:=⟨zaq r rfl _ _ _,⟨[],World.ownsRow_nil _ _ _ _,zE.nil _ _⟩,by
    rw [← S.out];exact zf f (zV L G _ _ _) (fun b x hS=>zq f r dM x hS),m.frm (zV L G _ _ _) (fun k hk e=>oM),hG⟩
   go_wp2_with fail
   go_meet;exact⟨G,_,rfl,s⟩
  ·go_simp;have B:=(Ext.refl wd).alloc (.cells #[(0:Int),(),()] 27);have hG:=g.size;replace g:=g.trans B;refine hK.out _ _ g ?_;generalize U0:wd.alloc _=L at *;have r:=Ext.bl_ U0;clear U0;generalize wd.heap.size=G at *;refine pT ?_;refine zd fun K hK=>?_;go_simp;refine (zhP (HA.out _ (y.trans g)) h2).mono ?_;rintro e w' ⟨am,rfl,j,C⟩;obtain⟨M,Q,rfl⟩:=zg j;have f:=zn j g.size;replace r:=r.ext C;replace g:=g.trans C;refine hK.out _ _ g ?_;refine pT ?_;refine uQ ?_;have cG:=r.cell;have fG:=r.frozen;refine zb fun K hK=>?_;go_simp;refine hK.out _ _ ?_;refine ze ?_;have s:Gra q (((w'.setCell G a.al).setCell ⟨G,1,none⟩ ()).setCell ⟨G,2,none⟩ (.slice M n' Q)) G a.al (.slice none 0 0) [] (.slice M n' Q) a.acc:=⟨zaq r rfl _ _ _,⟨[],World.ownsRow_nil _ _ _ _,zE.nil _ _⟩,by
    rw [← S.out];exact zf f (zV w' G _ _ _) (fun b x hS=>zq f r dM x hS),g.frm (zV w' G _ _ _) (fun k hk e=>oM),hG⟩
   go_wp2_with fail
   go_meet;exact⟨G,_,rfl,s⟩
 case rest =>
  obtain⟨G,vA,rfl,d⟩:=hcut;have k1:=(b1.ext d.ext).cell;go_wp2_with fail
  go_loopw [5,15] (fun _ i wr=>∃ (k:Nat) (v:Value),k<=n∧i=.int .i64 k∧Gra q wr G a.al v (a.next.take k) vA a.acc) (fun _ i _=>n - (intOf i).toNat)
  case atStart=>exact⟨0,_,dG _,rfl,by simpa using d⟩
  case round =>
   clear d k1;obtain⟨k,v,hk,rfl,d⟩:=hrel
   by_cases hlt:k<n
   ·obtain⟨ad,Ak,ck,l,rfl,_,_,V,af,T⟩:=(HS.out wr (y.trans d.ext)).row hlt;have ah:=O.out k l V.out;have Z:=za (show a.next.take (k+1)=a.next.take k++[l] by rw [dO,V.out];rfl);have U:=za (show (a.next.take k).length=k by rw [List.length_take];have:=R.out;omega);obtain⟨D,x,J⟩:=d.own;go_upto_region 5 with fail
    have cG:=fun W (hW:Ext wr W)=>(d.blk.ext hW).cell;have z:=Ext.refl wr;have Y:=za (fun W (hW:Ext wr W)=>T.ext hW);clear af T;refine uR (fun X=>Ext wr X) [5,7] (zw.of [0,1,2,3,4,5,6,7]) ?_;refine uQ ?_;refine zd fun K hK=>?_;go_simp;refine (clone_int (Y.out _ z.drew) ah).mono ?_;rintro e L ⟨row,rfl,o,ai⟩;obtain⟨BR,dR,rfl⟩:=zg o;have p:=z.drew.trans ai;refine hK.out _ _ p ?_;refine pT ?_;refine uQ ?_;refine zd fun K hK=>?_;go_simp;refine hK.out _ _ (p.alloc _) ?_;refine pT ?_;refine zb fun K hK=>?_;refine zaE q L _ _ _ rfl 110 _ 1 24 Tryz.underlying24 zbw rfl dM v (a.next.take k).length D _ _ rfl rfl (d.ext.trans p).size (zh x p) rfl (zaF _ _ _) (by unfold maxLen;have:=U.out;omega) (oH U.out) ?_;intro g5 cap5 w5 zjq hg5 hat5 hlt5;refine hK.out _ _ ?_;refine pT ?_;refine uQ ?_;obtain⟨p1,p2,p3⟩:=d.push J x p o (W':=w5) zjq hg5 hat5;have aB:=p1.out;refine zb fun K hK=>?_;go_simp;refine hK.out _ _ ?_;refine ze ?_;go_wp2_with fail
    go_roundw
    case rel=>exact⟨k+1,_,oM,gM,by rw [Z.out];first|exact p3|simpa using p3⟩
    case measure=>simp [intOf];omega
   ·obtain rfl:n=k:=oM;obtain⟨t,u,rfl⟩:∃ t u,v=.slice t n u:=by
     obtain⟨D,x,_⟩:=d.own;rw [dK (oH R.out),← R.out] at x;exact zg x
    obtain⟨E,F,rfl⟩:=zg d.acc;have cG:=d.blk.cell;have H:=bz.ext d.ext;have cZ:=H.cell;have fZ:=H.frozen;have I:=zV wr (w.heap.size+1) (.int .i64 a.al) (.slice t n u) (.slice E a.acc.length F);have ae:=zaq H rfl (.int .i64 a.al) (.slice t n u) (.slice E a.acc.length F);have aj:=(y.trans d.ext).frm I (fun k hk e=>oM);have s:=za (show RetAut w a (.returned (.agg #[a.al,.slice t n u,.slice E a.acc.length F])) (((wr.setCell ⟨w.heap.size+1,0,none⟩ a.al).setCell ⟨w.heap.size+1,1,none⟩ (.slice t n u)).setCell ⟨w.heap.size+1,2,none⟩ (.slice E a.acc.length F)) from by
     refine⟨t,n,u,E,a.acc.length,F,rfl,⟨?_,R.out,?_,rfl⟩,aj⟩
     ·have ho:=d.own;rw [dK (oH R.out)] at ho;exact (ho.keep I (fun b h1 e=>oM)).less oM
     ·exact zn (zbq d.acc I (fun b h1 e=>oM)) oM)
    go_wp2_with fail
    generalize ((wr.setCell ⟨w.heap.size+1,0,none⟩ a.al).setCell ⟨w.heap.size+1,1,none⟩ (.slice t n u)).setCell ⟨w.heap.size+1,2,none⟩ (.slice E a.acc.length F)=wf at *;have cf:=ae.cell;exact bodyPost_ret (v:=.agg #[a.al,.slice t n u,.slice E a.acc.length F]) (by simp [results,Tryz.results104,go_sem,cf]) rfl s.out
def Rd (w:World) (R M:Nat):Prop:=
 ∃ (A:Option Addr) (n c p:Nat),p<=M∧n<=2000∧Blk w R 163 #[.slice A n c,p]∧(0<n->∃ g o,A=some ⟨g,o,none⟩∧g<R∧∀ j,j<n->∃ b:Nat,b<256∧w.cell? ⟨g,o+j,none⟩=some (.int .u8 b))
def Dr (R:Nat) (w w':World):Prop:=Frm (fun k=>k=R) w w'
theorem Dr.refl (R:Nat) (w:World):Dr R w w:=Frm.refl _ _
theorem Dr.trans {a c:World}(h:Dr R a b) (k:Dr R b c):Dr R a c:=Frm.trans h k
theorem Dr.ext {a c:World}(h:Dr R a b) (k:Ext b c):Dr R a c:=Frm.ext h k
theorem Ext.dr {a:World}(h:Ext a b):Dr R a b:=h.aj
theorem Dr.drew {a:World}(h:Dr R a w):Dr R a w.drew:=⟨h.os,h.tape,h.output,h.size,h.block⟩
theorem Dr.drewN {a:World}(h:Dr R a w) (n:Nat):Dr R a (w.drewN n):=⟨h.os,h.tape,h.output,h.size,h.block⟩
theorem Dr.alloc {a:World}(h:Dr R a w) (o:Obj):Dr R a (w.alloc o):=h.ext ((Ext.refl _).alloc _)
theorem Dr.ag {a:World}(h:Dr R a w) (hp:a.heap.size<=p.block) (u:Value):Dr R a (w.setCell p u):=
 ⟨h.os,h.tape,h.output,by simpa [World.setCell] using h.size,fun k hk hn=>(Below.heap_setCell _ _ _ _ oM).trans (h.block k hk hn)⟩
theorem Dr.grown {a:World} {row:Option Nat}(h:Dr R a w)(hg:w.grownBy w' row)(hr:∀ k,row=some k->a.heap.size<=k):Dr R a w':=
 ⟨hg.os.trans h.os,hg.tape.trans h.tape,hg.output.trans h.output,dL h.size hg.size,
  fun k hk hn=>(hg.block k (dY hk h.size) (fun e=>by have:=hr k e.symm;omega)).trans (h.block k hk hn)⟩
theorem Blk.dr (h:Blk w g t cs)(hb:Dr R w w')(hg:g≠R):Blk w' g t cs:=h.frm hb hg
theorem Dr.aa (h:Dr R w w')  (hv:w.cell? p=some v)(hp:p.block≠R):w'.cell? p=some v:=
 (World.cell?_of_block (w:=w) (h.block _ (World.block_lt_of_cell? w p hv) hp)).trans hv
theorem Rd.ext (h:Rd w R M)(hb:Ext w w'):Rd w' R M:=by
 obtain⟨A,n,c,p,l,k,f,hx⟩:=h;refine⟨A,n,c,p,l,k,f.ext hb,fun h0=>?_⟩;obtain⟨g,o,e,hg,i⟩:=hx h0;exact⟨g,o,e,hg,fun j hj=>by obtain⟨b,a,d⟩:=i j hj;exact⟨b,a,hb.aa d⟩⟩
theorem Rd.more {N:Nat}(h:Rd w R M)(hM:M<=N):Rd w R N:=by
 obtain⟨A,n,c,p,a,r⟩:=h;exact⟨A,n,c,p,dL a hM,r⟩
theorem Rd.lt (h:Rd w R M):R<w.heap.size:=by
 obtain⟨A,n,c,p,_,_,a,_⟩:=h;exact a.lt
theorem Rd.frm (h:Rd w R M)(hb:Frm S w w')(hS:∀ k,k<=R->¬ S k):Rd w' R M:=by
 obtain⟨A,n,c,p,m,l,f,hx⟩:=h;refine⟨A,n,c,p,m,l,f.frm hb (hS R (dE _)),fun h0=>?_⟩;obtain⟨g,o,e,hg,i⟩:=hx h0;exact⟨g,o,e,hg,fun j hj=>by
  obtain⟨b,d,a⟩:=i j hj;exact⟨b,d,(World.cell?_of_block (w:=w) (hb.block g (World.block_lt_of_cell? w _ a) (hS g oM))).trans a⟩⟩
def RetPick (R M:Nat) (n:Int) (w:World) (e:Ending) (w':World):Prop:=∃ k:Nat,e=.returned (.int .i64 k)∧(1<=n->(k:Int)<n)∧(n<1->k=0)∧Rd w' R (M+1)∧Dr R w w'
theorem bits_xor_nat {a b:Nat}(ha:a<4611686018427387904)(hb:b<4611686018427387904):bits .xor .i64 (a:Int) (b:Int)=((a ^^^ b:Nat):Int):=by
 have hx:a ^^^ b<2 ^ 62:=Nat.xor_lt_two_pow (by simpa using ha) (by simpa using hb);show IntKind.i64.wrap ((BitVec.ofInt 64 (a:Int) ^^^ BitVec.ofInt 64 (b:Int)).toNat:Int)=_;rw [BitVec.toNat_xor,zcY a oM,zcY b oM,IntKind.wrap_i64];omega
theorem zx {n:Int} (h:Rd w R M)(hM:M<=1000000000) :
  Calls Tryz.prog 73 #[.pointer (some R),n] w (RetPick R M n w):=by
 obtain⟨A,m,c,p,hp,hm,u,hx⟩:=h;have c0:=u.cell 0;have c1:=u.cell 1;have f1:=u.frozen 1;have r:=u.ae 1 (.int .i64 ((p:Int)+1));have f:=Frm.setCell w R 1 (.int .i64 ((p:Int)+1));have ax:(p:Int)<=1000000000:=oM;have q:Hid (Rd (w.setCell ⟨R,1,none⟩ (.int .i64 ((p:Int)+1))) R (M+1)):=by
  refine za ⟨A,m,c,p+1,oM,hm,by simpa using r,fun h0=>?_⟩;obtain⟨g,o,e,hg,F⟩:=hx h0;exact⟨g,o,e,hg,fun j hj=>by
   obtain⟨b,v,s⟩:=F j hj;exact⟨b,v,(World.cell?_of_block (w:=w) (f.block g (World.block_lt_of_cell? w _ s) (by show ¬ g=R;omega))).trans s⟩⟩
 simp only [eP,List.getElem?_cons_zero,jL] at c0 c1
 by_cases hn:n<1
 ·go_enter Tryz.func73,Tryz.ntmps73
  go_wp2;go_ret;exact⟨0,rfl,fun h=>oM,fun _=>rfl,q.out,f⟩
 ·by_cases h0:m=0
  ·subst h0
   go_enter Tryz.func73,Tryz.ntmps73
   go_wp2;go_ret;exact⟨0,rfl,fun h=>oM,fun _=>rfl,q.out,f⟩
  ·obtain⟨k,rfl⟩:∃ k:Nat,n=k:=⟨n.toNat,oM⟩;have ar:(1:Int)<=(k:Int):=oM;obtain⟨g,o,rfl,hg,F⟩:=hx oM;have L:¬ g=R:=oM;have av:(0:Int)<(m:Int):=oM;have aw:(m:Int)<=2000:=oM;have aq:((m:Int)==0)=false:=by simp;omega
   have J:=za F;clear F hx
   by_cases hpm:p<m
   ·obtain⟨b,hb,ap⟩:=J.out p hpm;have ao:(b:Int)<256:=oM;have C:(p:Int)<(m:Int):=oM;have d:=za (gC b k)
    go_enter Tryz.func73,Tryz.ntmps73
    go_wp2;go_ret;exact⟨b % k,zD d.out.symm,fun _=>by rw [d.out];exact Int.emod_lt_of_pos _ oM,fun h=>oM,q.out,f⟩
   ·have O:p % m<m:=Nat.mod_lt _ oM;have Q:(p*7+3) % m<m:=Nat.mod_lt _ oM;have ay:p / m<=p:=hY _ _;obtain⟨i,v,z⟩:=J.out _ O;obtain⟨l,s,B⟩:=J.out _ Q;have G:(p:Int).tmod (m:Int)=((p % m:Nat):Int):=by rw [Int.tmod_eq_emod_of_nonneg oM];exact (gC p m).symm
    have H:((p:Int)*7+3).tmod (m:Int)=(((p*7+3) % m:Nat):Int):=by rw [Int.tmod_eq_emod_of_nonneg oM];rw [gC];rfl
    have I:(p:Int).tdiv (m:Int)=((p / m:Nat):Int):=by rw [Int.tdiv_eq_ediv_of_nonneg oM];exact (Int.natCast_ediv p m).symm
    have C:(m:Int)<=(p:Int):=oM;have t:∀ j,(w.setCell ⟨R,1,none⟩ (.int .i64 ((p:Int)+1))).cell? ⟨g,j,none⟩=w.cell? ⟨g,j,none⟩:=fun j=>by
     refine World.cell?_of_block ?_;exact Below.heap_setCell _ _ _ _ (fun h=>L h)
    have e1:=(t _).trans z;have e2:=(t _).trans B;have d0:(w.setCell ⟨R,1,none⟩ (.int .i64 ((p:Int)+1))).cell? R=some (.slice (some ⟨g,o,none⟩) m c):=by simpa using r.cell 0
    have Z:=za G;have T2:=za H;have T3:=za I;clear t z B G H I u r;generalize p % m=V at *;generalize (p*7+3) % m=X at *;generalize p / m=E at *;obtain⟨x,hx⟩:∃ x:Nat,x=i*131+l*1117+p*29+E*53:=⟨_,rfl⟩;have az:x<100000000000:=oM;obtain⟨y,U⟩:∃ y:Nat,Hid (x ^^^ (x / 64)=y):=⟨_,rfl⟩;have D:=za (show bits .xor .i64 (x:Int) ((x:Int) / 64)=(y:Int) by rw [← U.out];exact bits_xor_nat (a:=x) (b:=x / 64) oM oM);have aB:(y:Int)<1099511627776:=by
     have:x ^^^ (x / 64)<2 ^ 40:=Nat.xor_lt_two_pow oM oM;rw [U.out] at this;omega
    have d:=za (gC y k);have S:(i:Int)*131+(l:Int)*1117+(p:Int)*29+(E:Int)*53=(x:Int):=oM;have Y:=za S;clear hx S
    go_enter Tryz.func73,Tryz.ntmps73
    go_wp2;generalize w.setCell ⟨R,1,none⟩ (.int .i64 ((p:Int)+1))=w1 at *;have G:=Z.out;have H:=T2.out;have I:=T3.out;have a1:IntKind.i64.wrap ((p:Int)*7)=(p:Int)*7:=IntWalk.i64_in _ oM;have a2:IntKind.i64.wrap ((p:Int)*7+3)=(p:Int)*7+3:=IntWalk.i64_in _ oM;have a3:IntKind.i64.wrap ((i:Int)*131)=(i:Int)*131:=IntWalk.i64_in _ oM;have a4:IntKind.i64.wrap ((l:Int)*1117)=(l:Int)*1117:=IntWalk.i64_in _ oM;have a5:IntKind.i64.wrap ((i:Int)*131+(l:Int)*1117)=(i:Int)*131+(l:Int)*1117:=IntWalk.i64_in _ oM;have a6:IntKind.i64.wrap ((p:Int)*29)=(p:Int)*29:=IntWalk.i64_in _ oM;have a7:IntKind.i64.wrap ((i:Int)*131+(l:Int)*1117+(p:Int)*29)=(i:Int)*131+(l:Int)*1117+(p:Int)*29:=IntWalk.i64_in _ oM;have a8:IntKind.i64.wrap ((E:Int)*53)=(E:Int)*53:=IntWalk.i64_in _ oM;have a9:IntKind.i64.wrap ((i:Int)*131+(l:Int)*1117+(p:Int)*29+(E:Int)*53)=(x:Int):=by rw [Y.out];exact IntWalk.i64_in _ oM
    have i1:(V:Int)<(m:Int):=oM;have i2:(X:Int)<(m:Int):=oM;have i3:(0:Int)<=(V:Int):=oM;have i4:(0:Int)<=(X:Int):=oM
    go_quiet (fail)
    clear a1 a2 a3 a4 a5 a6 a7 a8 a9 G H I;have aA:=D.out;have T:(x:Int)<100000000000:=oM;go_wp2;go_ret;exact⟨y % k,zD d.out.symm,fun _=>by rw [d.out];exact Int.emod_lt_of_pos _ oM,fun h=>oM,q.out,Dr.drewN f _⟩
def zaa (l:List ByteArray):List Value:=l.map Value.string
theorem zbH (l:List ByteArray):(zaa l).length=l.length:=by simp [zaa]
theorem Reads.dr {size:Nat}  (h:Reads w lo hi size A n xs)(hb:Dr R w w')(hR:R<lo):Reads w' lo hi size A n xs:=
 h.frm hb (fun k h1 _ h2=>oM)
def RetNum (R M:Nat) (l:List Int) (w:World) (e:Ending) (w':World):Prop:=∃ x,x∈l∧e=.returned (.int .i64 x)∧Rd w' R (M+1)∧Dr R w w'
def RetOf (R M:Nat) (l:List ByteArray) (w:World) (e:Ending) (w':World):Prop:=∃ x,x∈l∧e=.returned (.string x)∧Rd w' R (M+1)∧Dr R w w'
theorem l19Rd_num (h:Rd w R M)(hM:M<=1000000000)(hL:Reads w lo hi 1 A n (ints l))(hlo:R<lo)(hn:0<n) :
  Calls Tryz.prog 163 #[.pointer (some R),.slice A n c] w (RetNum R M l w):=by
 have g:=hL.len;have d:(1:Int)<=(n:Int):=oM
 go_enter Tryz.func163,Tryz.ntmps163
 go_wp2_with fail
 refine (zx h hM).mono ?_;rintro e p ⟨k,rfl,a,_,j,f⟩;have i:=a d;have b:k<n:=oM;obtain⟨m,x,rfl,_,_,hx,o⟩:=(hL.dr f hlo).int b;clear a;go_wp2_with fail
 go_ret;exact⟨x,dC hx.out,rfl,j,f⟩
theorem l19Rd_of {l:List ByteArray} (h:Rd w R M)(hM:M<=1000000000)(hL:Reads w lo hi 1 A n (zaa l))(hlo:R<lo)(hn:0<n) :
  Calls Tryz.prog 167 #[.pointer (some R),.slice A n c] w (RetOf R M l w):=by
 have g:=hL.len;have d:(1:Int)<=(n:Int):=oM
 go_enter Tryz.func167,Tryz.ntmps167
 go_wp2_with fail
 refine (zx h hM).mono ?_;rintro e r ⟨k,rfl,a,_,m,f⟩;have j:=a d;have b:k<n:=oM;obtain⟨p,u,rfl,_,_,o,q⟩:=(hL.dr f hlo).one b;obtain⟨x,hx,rfl⟩:∃ x,l[k]?=some x∧u=.string x:=by
  have:=o.out;simp only [zaa,dS,fQ] at this;obtain⟨x,h1,h2⟩:=this;exact⟨x,h1,h2.symm⟩
 have i:=za hx;clear a hx;go_wp2_with fail
 go_ret;exact⟨x,dC i.out,rfl,m,f⟩
def Bytes (w:World) (A:Option Addr) (n:Nat):Prop:=0<n->∃ g o,A=some ⟨g,o,none⟩∧g<w.heap.size∧∀ j,j<n->∃ b:Nat,b<256∧w.cell? ⟨g,o+j,none⟩=some (.int .u8 b)
theorem Bytes.ext (h:Bytes w A n)(hb:Ext w w'):Bytes w' A n:=fun h0=>by
 obtain⟨g,o,e,hg,hc⟩:=h h0
 exact⟨g,o,e,dY hg hb.size,fun j hj=>by obtain⟨b,h1,h2⟩:=hc j hj;exact⟨b,h1,hb.aa h2⟩⟩
def RetOpen (w:World) (e:Ending) (w':World):Prop:=∃ R,e=.returned (.pointer (some ⟨R,0,none⟩))∧w.heap.size<=R∧Rd w' R 0∧Ext w w'
theorem spec_l19Open (h:Bytes w A n)(hn:n<=9223372036854775807)(hc:n<=c)(hc2:c<=9223372036854775807) :
  Calls Tryz.prog 48 #[.slice A n c] w (RetOpen w):=by
 by_cases hb:2000<n
 ·obtain⟨g,o,rfl,hg,a⟩:=h oM;have d:=za a;clear a h;have h1:(2000:Int)<(n:Int):=oM;have h2:(2000:Int)<=(c:Int):=oM
  go_enter Tryz.func48,Tryz.ntmps48
  go_wp2;go_ret;refine⟨w.heap.size,rfl,dE _,⟨some ⟨g,o,none⟩,2000,c,0,oM,oM,Blk.new _ _ _,fun _=>⟨g,o,rfl,hg,fun j hj=>?_⟩⟩,(Ext.refl _).alloc _⟩;obtain⟨b,h1,h2⟩:=d.out j oM;exact⟨b,h1,((Ext.refl w).alloc _).aa h2⟩
 ·have f:=za h;clear h;have h1:(n:Int)<=2000:=oM
  go_enter Tryz.func48,Tryz.ntmps48
  go_wp2;go_ret;refine⟨w.heap.size,rfl,dE _,⟨A,n,c,0,oM,oM,Blk.new _ _ _,fun h0=>?_⟩,(Ext.refl _).alloc _⟩;obtain⟨g,o,e,hg,hc⟩:=f.out h0;exact⟨g,o,e,hg,fun j hj=>by obtain⟨b,h1,h2⟩:=hc j hj;exact⟨b,h1,((Ext.refl w).alloc _).aa h2⟩⟩
theorem zY (a:Nat)(hs:Sm a) (w:World) :
  Calls Tryz.prog 134 #[a] w (zbM w (letters a 6)):=by
 go_enter Tryz.func134,Tryz.ntmps134
 go_wp2
 go_loopw [3,4] (fun v i wr=>∃ k:Nat,k<=6∧i=.int .i64 k∧wr.ownsRow w.heap.size 3 1 v (letters a k).length (zae (letters a k))∧Ext w wr)
  (fun _ i _=>6 - (intOf i).toNat)
 case atStart=>exact⟨0,dG _,rfl,World.ownsRow_lit w #[] 0 (dE _) lM rfl,(Ext.refl _).alloc _⟩
 case round =>
  obtain⟨k,g,rfl,zje,d⟩:=hrel;have h:=zy a k
  by_cases hlt:k<6
  ·cases hb:a.testBit k
   all_goals
    have f:=za hb;have b:=zaX a k;rw [hb] at b;have Hls:=za b;clear b hb;go_wp2_with (first
     |(go_at_call 143;refine (zau a k hs _ oM).mono ?_;rw [f.out];rintro e w' ⟨rfl,rfl⟩)
     |(at_builtin;refine zU w wr rfl _ _ _ rfl 3 _ 1 8 Tryz.underlying110 zS rfl dM u3 _ _ _ _ rfl rfl d zje rfl (zaL _) lM oM ?_;intro v' w1 hext1 zjn hg1 hat1))
    exact yN01a3
  ·obtain rfl:k=6:=oM;obtain⟨A,c,rfl⟩:=zg zje;go_wp2;go_ret;exact⟨_,_,rfl,zje,d⟩
def zcA (b:UInt8):Bool:=decide (97<=(b.toNat:Int)∧(b.toNat:Int)<=102)
def zaW (s:ByteArray):Bool:=decide (s.size<=50000)&&s.data.toList.all zcA
theorem zci (s:ByteArray) (i:Nat)(h:i<s.size):s.data.toList[i]?=some s[i]:=by
 rw [dD (by simpa using h)];rfl
theorem yN01a2 {P:Prop}(h:P:=by
 go_wp2_with (go_at_call 144;refine (zbj s k hlt _).mono ?_;rw [hx.out];rintro e w' ⟨rfl,rfl⟩)
 go_ret;exact⟨zj (by rw [zaW,zaH hg.out (by have:=hx.out;simp [zcA];omega),Bool.and_false]),rfl⟩
 ):P:=h
theorem zbd (s:ByteArray) (w:World)(hs:s.size<=9223372036854775807) :
  Calls Tryz.prog 141 #[s] w fun e w'=>e=.returned (.bool (zaW s))∧w=w':=by
 by_cases h:50000<s.size
 ·go_enter Tryz.func141,Tryz.ntmps141
  go_wp2;go_ret;exact⟨by simp [zaW,show ¬ s.size<=50000 by omega],rfl⟩
 ·go_enter Tryz.func141,Tryz.ntmps141
  go_wp2
  go_loop [3] (fun i=>∃ k:Nat,k<=s.size∧i=.int .i64 k∧Hid ((s.data.toList.take k).all zcA=true)) (fun i=>s.size - (intOf i).toNat)
  case atStart=>exact⟨0,dG _,rfl,rfl⟩
  case round =>
   obtain⟨k,d,rfl,a⟩:=hrel
   by_cases hlt:k<s.size
   ·have hg:=za (zci s k hlt);obtain⟨x,hx,b,c⟩:∃ x:Int,Hid ((s[k].toNat:Int) - 97=x) ∧ -97<=x∧x<=158:=⟨(s[k].toNat:Int) - 97,za rfl,oM,by have:=zcr s k hlt;omega⟩
    by_cases h0:x<0
    ·exact yN01a2
    ·by_cases h1:6<=x
     ·exact yN01a2
     ·go_wp2_with (go_at_call 144;refine (zbj s k hlt _).mono ?_;rw [hx.out];rintro e w' ⟨rfl,rfl⟩)
      go_round
      case rel=>exact⟨k+1,oM,gM,zch hg.out a.out (by have:=hx.out;simp [zcA];omega)⟩
      case measure=>simp [intOf];omega
   ·obtain rfl:k=s.size:=oM;go_wp2;go_ret;exact⟨zj (by rw [zaW,zdF sM a.out];simp;omega),rfl⟩
def zdK (s:ByteArray) (a:Nat):Bool:=s.data.toList.all fun b=>hasB a (ltr b.toNat)
theorem over_all {a:Nat}(h:a=63) (b:UInt8):hasB a (ltr b.toNat)=zcA b:=by
 subst h;have:b.toNat<256:=b.toNat_lt;unfold hasB ltr zcA
 by_cases h1:(b.toNat:Int) - 97<0
 ·rw [if_pos (.inl h1)];simp;omega
 ·by_cases h2:6<=(b.toNat:Int) - 97
  ·rw [if_pos (.inr h2)];simp;omega
  ·rw [if_neg oM];have c:b.toNat=97∨b.toNat=98∨b.toNat=99∨b.toNat=100∨b.toNat=101∨b.toNat=102:=oM;rcases c with h|h|h|h|h|h<;>rw [h]<;>decide
theorem overB_63 (s:ByteArray):zdK s 63=s.data.toList.all zcA:=by
 unfold zdK
 congr 1
 funext b
 exact over_all rfl b
theorem zaS (s:ByteArray) (a:Nat) (w:World)(hs:s.size<=9223372036854775807)(ha:a<=63) :
  Calls Tryz.prog 85 #[s,a] w fun e w'=>e=.returned (.bool (decide (s.size<=50000)&&zdK s a))∧w=w':=by
 have j:Sm a:=tM;have g:(decide ((0:Int)<=a∧(a:Int)<=63))=true:=by simp;omega
 have d:=za g;clear g
 by_cases h:50000<s.size
 ·go_enter Tryz.func85,Tryz.ntmps85
  go_wp2_with (go_at_call 82;refine (zas _ _).mono ?_;rw [d.out];rintro e w' ⟨rfl,rfl⟩)
  go_ret;exact⟨by simp [show ¬ s.size<=50000 by omega],rfl⟩
 ·go_enter Tryz.func85,Tryz.ntmps85
  go_wp2_with (go_at_call 82;refine (zas _ _).mono ?_;rw [d.out];rintro e w' ⟨rfl,rfl⟩)
  go_loop [16] (fun i=>∃ k:Nat,k<=s.size∧i=.int .i64 k∧Hid ((s.data.toList.take k).all (fun b=>hasB a (ltr b.toNat))=true)) (fun i=>s.size - (intOf i).toNat)
  case atStart=>exact⟨0,dG _,rfl,rfl⟩
  case round =>
   obtain⟨k,l,rfl,c⟩:=hrel
   by_cases hlt:k<s.size
   ·have hg:=za (zci s k hlt);cases hb:hasB a (ltr (s[k].toNat:Int))
    ·have f:=za hb;clear hb;go_wp2_with (first|(go_at_call 121;refine (zbp s k hlt _).mono ?_;rintro e w' ⟨rfl,rfl⟩)|(go_at_call 127;refine (zbz _ _ j _).mono ?_;rw [f.out];rintro e w' ⟨rfl,rfl⟩))
     go_ret;exact⟨zj (by rw [zdK,zaH hg.out f.out,Bool.and_false]),rfl⟩
    ·have f:=za hb;clear hb;go_wp2_with (first|(go_at_call 121;refine (zbp s k hlt _).mono ?_;rintro e w' ⟨rfl,rfl⟩)|(go_at_call 127;refine (zbz _ _ j _).mono ?_;rw [f.out];rintro e w' ⟨rfl,rfl⟩))
     go_round
     case rel=>exact⟨k+1,oM,gM,zch hg.out c.out f.out⟩
     case measure=>simp [intOf];omega
   ·obtain rfl:k=s.size:=oM;go_wp2;go_ret;exact⟨zj (by rw [zdK,zdF sM c.out];simp;omega),rfl⟩
theorem zcP (s:ByteArray) (w:World)(hs:s.size<=9223372036854775807) :
  Calls Tryz.prog 88 #[s] w fun e w'=>e=.returned (.bool (zaW s))∧w=w':=by
 have a:=overB_63 s;have b:=za a;clear a
 go_enter Tryz.func88,Tryz.ntmps88
 go_wp2_with (go_at_call 85;refine (zaS s 63 _ hs oM).mono ?_;rintro e w' ⟨rfl,rfl⟩)
 go_ret;exact⟨zj (by rw [b.out];rfl),rfl⟩
def E (es:List Edg) (i l k:Nat):Prop:=∃ e∈es,e.fr=i∧e.le=l∧e.ta=k
def rel (R:List Nat) (i j:Nat):Prop:=i<R.length∧(R.getD i 0).testBit j=true
def succ (es:List Edg) (i l:Int):Nat:=es.foldl (fun m e=>if e.fr=i∧e.le=l then m|||2 ^ e.ta.toNat else m) 0
theorem succ_snoc (es:List Edg) (e:Edg) (i l:Int):succ (es++[e]) i l=if e.fr=i∧e.le=l then succ es i l|||2 ^ e.ta.toNat else succ es i l:=by
 simp [succ]
theorem and_pred (k m:Nat):(2 ^ k*(2*m+1))&&&(2 ^ k*(2*m+1) - 1)=2 ^ k*(2*m):=by
 have c:=iY k;have e:2 ^ k*(2*m+1) - 1=2 ^ k*(2*m)+(2 ^ k - 1):=by rw [Nat.mul_add,jN];omega
 rw [e];apply fV;intro i;have a:∀ q,(2 ^ k*q).testBit i=if i<k then false else q.testBit (i - k):=fun q=>by
  have:=iA q (b:=0) (i:=k) c i;rw [gR] at this;rw [this,iD]
 rw [Nat.testBit_and,a,iA _ oM,a]
 by_cases hi:i<k
 ·simp [hi]
 ·simp only [hi,if_false];cases hd:i - k with
  |zero=>simp [Nat.testBit_zero]
  |succ d=>rw [iC,iC,show (2*m+1) / 2=m by omega,show (2*m) / 2=m by omega];simp
theorem lowest (h0:x≠0)(hs:Sm x):∃ k,Lib.ctz 64 x=k∧k<32∧x.testBit k=true∧(∀ i,i<k->x.testBit i=false)∧x&&&(x - 1)=x - 2 ^ k∧2 ^ k<=x:=by
 have hx:=hs.lt;obtain⟨m,a,g⟩:=Lib.ctzFrom_spec 64 x oM oM;have e:Lib.ctz 64 x=Lib.ctzFrom 64 x:=by simp [Lib.ctz,h0]
 generalize Lib.ctzFrom 64 x=k at *;have f:=iY k;have c:2 ^ k<=x:=by rw [a];exact Nat.le_mul_of_pos_right _ oM
 have d:∀ q i,(2 ^ k*q).testBit i=if i<k then false else q.testBit (i - k):=fun q i=>by
  have:=iA q (b:=0) (i:=k) f i;rw [gR] at this;rw [this,iD]
 refine⟨k,e,?_,?_,fun i hi=>?_,?_,c⟩
 ·apply Nat.lt_of_not_le;intro h32;have:=dV (n:=2) oM h32;omega
 ·rw [a,d];simp
 ·rw [a,d];simp [hi]
 ·rw [a,and_pred,Nat.mul_add,jN,Nat.add_sub_cancel]
theorem zcE (h:x.testBit j=true)(hl:∀ i,i<j->x.testBit i=false) (k:Nat):(x - 2 ^ j).testBit k=(x.testBit k&&!decide (k=j)):=by
 have f:x / 2 ^ j % 2=1:=by
  have:=h;rw [jR] at this;simpa using this
 have g:=iY j;have l:x % 2 ^ j=0:=by
  apply fV;intro i;rw [Nat.testBit_mod_two_pow,iD]
  by_cases hi:i<j
  ·simp [hi,hl i hi]
  ·simp [hi]
 have a:=Nat.div_add_mod x (2 ^ j);rw [l,gR] at a;generalize x / 2 ^ j=q at *;have c:∀ q i,(2 ^ j*q).testBit i=if i<j then false else q.testBit (i - j):=fun q i=>by
  have:=iA q (b:=0) (i:=j) g i;rw [gR] at this;rw [this,iD]
 have e:x - 2 ^ j=2 ^ j*(q - 1):=by rw [← a,Nat.mul_sub,jN]
 rw [e,← a,c,c]
 by_cases hk:k<j
 ·simp [hk]
 ·simp only [hk,if_false];obtain⟨d,rfl⟩:∃ d,k=j+d:=⟨k - j,oM⟩;rw [Nat.add_sub_cancel_left];cases d with
  |zero=>simp [Nat.testBit_zero];omega
  |succ d =>
   rw [iC,iC,show (q - 1) / 2=q / 2 by omega];simp
theorem zgT (h:x.testBit k=true)(hl:∀ i,i<k->x.testBit i=false):∀ n,(n<=k->letters x n=[]∧letters (x - 2 ^ k) n=[])∧(k<n->letters x n=k :: letters (x - 2 ^ k) n)
 |0=>⟨fun _=>⟨rfl,rfl⟩,fun h=>oM⟩
 |n+1=>by
  have ih:=zgT h hl n
  have hb:=zcE h hl n
  rw [zaX,zaX,hb]
  refine⟨fun hn=>?_,fun hn=>?_⟩
  ·obtain⟨e1,e2⟩:=ih.1 oM
   rw [e1,e2,hl n oM]
   simp
  ·rcases eL k n with h1|h1
   ·rw [ih.2 h1]
    have:n≠k:=oM
    simp [this]
   ·obtain⟨e1,e2⟩:=ih.1 h1
    obtain rfl:n=k:=oM
    rw [e1,e2,h]
    simp
theorem letters_step (h0:x≠0)(hs:Sm x):letters x 32=Lib.ctz 64 x :: letters (x&&&(x - 1)) 32∧x&&&(x - 1)<x∧Lib.ctz 64 x<32:=by
 obtain⟨k,e,a,c,d,b,f⟩:=lowest h0 hs;have g:=iY k;rw [e,b];exact⟨(zgT c d 32).2 a,oM,a⟩
theorem impl_members (a:Nat)(hs:Sm a) (w:World)(hT:Tab w) :
  Calls Tryz.prog 155 #[a] w (zbM w (letters a 32)):=by
 have d:=zy a 32
 go_enter Tryz.func155,Tryz.ntmps155
 go_wp2
 go_loopw [0,3,4] (fun s v _ wr=>∃ x:Nat,s=.int .i64 x∧Sm x∧∃ o:List Nat,Hid (letters a 32=o++letters x 32)∧wr.ownsRow w.heap.size 3 1 v o.length (zae o)∧Ext w wr)
  (fun s _ _ _=>(intOf s).toNat)
 case atStart=>exact⟨a,rfl,hs,[],rfl,World.ownsRow_nil _ _ _ _,Ext.refl _⟩
 case round =>
  obtain⟨x,rfl,hx,o,ho,zje,h⟩:=hrel;have q:=hx.lt;have g:o.length+(letters x 32).length<=32:=by have:=ho.out;rw [this,dN] at d;exact d
  by_cases h0:x=0
  ·subst h0;obtain⟨A,c,rfl⟩:=zg zje;go_wp2;go_ret;have f:=ho.out;rw [show letters 0 32=[] by decide,List.append_nil] at f;exact⟨A,c,by rw [f];rfl,by rw [f];exact zje,h⟩
  ·obtain⟨j,hlt,r⟩:=letters_step h0 hx;have n:=za j;have p:((x:Int) != 0)=true:=by simp;omega
   have i:=hT.ext h;have k:=za (zbO (a:=x) (b:=x - 1) hx tM);have m:o.length<32:=by rw [j] at g;simp at g;omega
   clear j d g;have l:=za (show ((x:Int) - 1)=((x - 1:Nat):Int) by omega);go_wp2_with (first
    |(go_at_call 229;refine (tz x oM h0 _ i).mono ?_;rintro e w' ⟨rfl,rfl⟩)
    |(at_builtin;refine zU w wr rfl (.tmp 10) (.tmp 14) _ rfl 3 _ 1 8 Tryz.underlying110 zS rfl dM u3 _ _ _ _ rfl rfl h zje rfl (zaL _) lM oM ?_;intro v' w1 hext1 zjn hg1 hat1))
   go_roundw
   case rel=>exact⟨x&&&(x - 1),by rw [l.out,k.out],iU fX hx,o++[Lib.ctz 64 x],by have:=ho.out;unfold Hid;rw [this,n.out];simp,by simpa [zae] using zjn,aM⟩
   case measure =>
    have:=k.out;rw [← l.out] at this;simp [intOf];omega
end Go.Proofs.YtckbjnndaaoddaaGreatDoor
