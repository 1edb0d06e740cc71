/- Plain lemmas -/
import Derived.WalkKit
import Derived.WalkSpells
import Derived.WalkLawsBesides
import Derived.BigQuiet
import Derived.Deep.QuietTactic
import Derived.Deep.RegionWith
import Derived.Deep.RegionHeld3
import Derived.Deep.AppendLies
import Derived.Deep.Draws
import Derived.Laws.OwnMore
import Derived.Laws.BitsAllLaws
import Derived.Laws.BitsLemmas
import Derived.Maps.AppendAt
import Derived.Test.YtckbjnndaaoddaaGreatDoorRows
import Derived.OrdersHeld
import Derived.ProofKit
import Derived.Deep.Slices
import Derived.Deep.Fields
import Derived.ChangeSame
import Derived.ChangeArms
import Derived.Lib.SmallJoins
import Derived.OpenShut
import Derived.ShutString
import Derived.ChangeOld
import Derived.Lib.TrailingZeros
import Derived.Shelf.Spec.TrailingZeros
import Derived.Lib.LaidTab
import Derived.LaidMore
import Derived.Stop.Joined
import Derived.Stop.LaidErr
import Derived.Maps.OwnSet
import Derived.Maps.OwnOps
import Derived.StillTailTactics
set_option maxHeartbeats 4000000
set_option maxRecDepth 100000
namespace Go.Proofs.YtckbjnndaaoddaaGreatDoor
open Go Go.RowKit
open Bool renaming and_eq_true->eD,and_false->j8,eq_false_iff->fT,false_eq_true->jX
open List renaming all_eq_true->fH,eq_nil_of_length_eq_zero->eJ,flatMap_cons->jB,foldl_cons->jP,getD_eq_getElem?_getD->eE,getElem?_append_left->eH,getElem?_append_right->eN,getElem?_eq_getElem->dH,getElem?_eq_none->eR,getElem?_map->eM,getElem?_of_mem->eU,getElem?_toArray->fJ,getElem_mem->gI,length_append->eK,length_cons->gJ,length_singleton->eY,map_append->fO,map_cons->gZ,mem_append->iU,mem_cons_of_mem->eZ,mem_of_getElem?->dG,mem_singleton->fN,range->fW,replicate->eQ,take_add_one->eG,take_length->fB
open Nat renaming add_assoc->gF,add_mul->jQ,add_mul_div_right->j6,add_zero->iP,and_le_left->kO,div_div_eq_div_mul->j0,div_eq_of_lt->jD,div_le_self->jF,eq_of_testBit_eq->gY,le_refl->dI,le_trans->eI,lt_of_le_of_lt->j1,lt_of_lt_of_le->eV,lt_or_eq_of_le->fC,lt_or_ge->fM,lt_pow_two_of_testBit->kJ,lt_trichotomy->fQ,mul_assoc->jS,mul_comm->gK,mul_le_mul_right->kB,mul_one->jK,one_mul->kC,pow_le_pow_right->e6,sub_self->iI,testBit_and->iE,testBit_eq_decide_div_mod_eq->kV,testBit_lt_two_pow->kW,testBit_succ->jW,testBit_two_pow_mul_add->jJ,two_pow_pos->kP,zero_add->eO,zero_le->eC,zero_mul->kH,zero_testBit->jM
open Option renaming map_eq_some_iff->fS,toList_some->e8
instance cY011:Coe Int Value:=⟨fun x=>.int .i64 x⟩
instance cY012:Coe Nat Value:=⟨fun x=>.int .i64 (x:Int)⟩
instance cY013:Coe Unit Value:=⟨fun _=>.slice none 0 0⟩
instance cY014:Coe ByteArray Value:=⟨fun x=>.string x⟩
instance cY015:Coe Nat Addr:=⟨fun x=>⟨x,0,none⟩⟩
theorem oM {P:Prop}(h:P:=by omega):P:=h
theorem dM {P:Prop}(h:P:=by decide):P:=h
theorem sM {P:Prop}(h:P:=by simp):P:=h
theorem gM {P:Prop}(h:P:=by go_num):P:=h
theorem aM {P:Prop}(h:P:=by assumption):P:=h
theorem kM {P:Prop}(h:P:=by kernel_rfl):P:=h
theorem lM {P:Prop}(h:P:=by unfold maxLen;omega):P:=h
theorem tM {P:Prop}(h:P:=by unfold Sm;omega):P:=h
theorem oH {A P:Prop}(a:A)(h:A->P:=by intro _;omega):P:=h a
theorem mQ {v:Ending}{R:World->Prop}{Q:Ending->World->Prop}(k:∀ w,R w->Q v w):∀ e w,e=v∧R w->Q e w:=fun _ w h=>h.1 ▸ k w h.2
variable {A A':Option Addr} {N b base base' c c' g hi hi' i id j k l lo lo' n n' o q x:Nat} {S T:Nat->Prop} {W a w w':World} {cs ds:Array Value} {e t u:TypeId} {ls:List (List Int)} {ns rest start:List Nat} {p:Addr} {rows xs:List Value} {v:Value}
theorem za {p:Prop}(h:p):Hid p:=h
structure Bx (p:Prop):Prop where
 out:p
theorem pT {A B:Prop}(h:B) (k:Bx B->A:=by
 intro h0
 try simp only [Act.put,List.setIfInBounds_toArray,List.set_cons_zero,List.set_cons_succ]
 exact h0.out):A:=k ⟨h⟩
theorem ziI (a:Addr) (n:Nat):(a.add n).block=a.block:=by unfold Addr.add;split<;>rfl
theorem addr_zero (a:Addr):a.add 0=a:=by simp [Addr.add]
theorem zT (g o n:Nat):(⟨g,o,none⟩:Addr).add n=⟨g,o+n,none⟩:=by unfold Addr.add;split<;>simp_all
structure Frm (S:Nat->Prop) (w w':World):Prop where
 os:w'.os=w.os
 tape:w'.tape=w.tape
 output:w'.output=w.output
 size:w.heap.size<=w'.heap.size
 block:∀ k,k<w.heap.size->¬ S k->w'.heap[k]?=w.heap[k]?
def Ext (w w':World):Prop:=Frm (fun _=>False) w w'
theorem Ext.refl (w:World):Ext w w:=⟨rfl,rfl,rfl,dI _,fun _ _ _=>rfl⟩
theorem Ext.trans {b c:World}(h:Ext a b) (k:Ext b c):Ext a c:=
 ⟨k.os.trans h.os,k.tape.trans h.tape,k.output.trans h.output,eI h.size k.size,fun i hi hn=>(k.block i (eV hi h.size) hn).trans (h.block i hi hn)⟩
theorem Ext.drew (h:Ext a w):Ext a w.drew:=⟨h.os,h.tape,h.output,h.size,h.block⟩
theorem Ext.drewN (h:Ext a w) (n:Nat):Ext a (w.drewN n):=⟨h.os,h.tape,h.output,h.size,h.block⟩
theorem Ext.alloc (h:Ext a w) (o:Obj):Ext a (w.alloc o):=
 h.trans ⟨rfl,rfl,rfl,sM,fun k hk _=>Below.heap_alloc _ _ _ hk⟩
theorem Ext.setCell (h:Ext a w) (hp:a.heap.size<=p.block) (u:Value):Ext a (w.setCell p u):=
 ⟨h.os,h.tape,h.output,by simpa [World.setCell] using h.size,fun k hk hn=>(Below.heap_setCell _ _ _ _ oM).trans (h.block k hk hn)⟩
theorem Ext.grown {row:Option Nat}(h:Ext a w)(hg:w.grownBy w' row)(hr:∀ k,row=some k->a.heap.size<=k):Ext a w':=
 ⟨hg.os.trans h.os,hg.tape.trans h.tape,hg.output.trans h.output,eI h.size hg.size,
  fun k hk hn=>(hg.block k (eV hk h.size) (fun e=>by have:=hr k e.symm;omega)).trans (h.block k hk hn)⟩
theorem Ext.heap (h:Ext w w') (hk:k<w.heap.size):w'.heap[k]?=w.heap[k]?:=h.block k hk id
theorem Ext.cell (h:Ext w w') (hp:p.block<w.heap.size):w'.cell? p=w.cell? p:=World.cell?_of_block (w:=w) (h.heap hp)
theorem Ext.aa (h:Ext w w')  (hv:w.cell? p=some v):w'.cell? p=some v:=
 (h.cell (World.block_lt_of_cell? w p hv)).trans hv
def Blk (w:World) (g:Nat) (t:TypeId) (cs:Array Value):Prop:=w.heap[g]?=some (.cells cs t (0,0))
section
variable {w w':World} {g:Nat} {t:TypeId} {cs:Array Value}
theorem Blk.lt (h:Blk w g t cs):g<w.heap.size:=by
 rcases fM g w.heap.size with hlt|a
 ·exact hlt
 ·unfold Blk at h;rw [Array.getElem?_eq_none a] at h;cases h
theorem Blk.cell (h:Blk w g t cs) (i:Nat):w.cell? ⟨g,i,none⟩=cs[i]?:=cell_of_row w g i cs t (0,0) h
theorem Blk.frozen (h:Blk w g t cs) (i:Nat):w.frozen? ⟨g,i,none⟩=false:=by
 unfold Blk at h;simp [World.frozen?,h]
theorem Blk.new (w:World) (t:TypeId) (cs:Array Value):Blk (w.alloc (.cells cs t)) w.heap.size t cs:=heap_alloc_new w _
theorem Ext.eq_ {a b:World}(h:a=b):Ext a b:=h ▸ Ext.refl a
theorem Ext.bl_ {V W:World}{c:Array Value}{t:TypeId}(h:V.alloc (.cells c t)=W):Blk W V.heap.size t c:=h ▸ Blk.new V t c
theorem Ext.al_ {V W:World}{o:Obj}(h:V.alloc o=W):Ext V W:=h ▸ (Ext.refl V).alloc o
theorem Blk.ext (h:Blk w g t cs)(hb:Ext w w'):Blk w' g t cs:=(hb.heap h.lt).trans h
theorem Ext.x1_ {w W:World}{c:Array Value}{t:TypeId}(h:w.alloc (.cells c t)=W):Ext w W∧Blk W w.heap.size t c:=⟨Ext.al_ h,Ext.bl_ h⟩
theorem Ext.x2_ {w W:World}{c d:Array Value}{t u:TypeId}(h:(w.alloc (.cells c t)).alloc (.cells d u)=W):Ext w W∧Blk W w.heap.size t c∧Blk W (w.heap.size+1) u d:=by
 have a:=Ext.x1_ (w:=w) (c:=c) (t:=t) rfl;have b:=Ext.x1_ h;rw [World.size_alloc] at b;exact⟨a.1.trans b.1,Blk.ext a.2 b.1,b.2⟩
theorem Ext.x3_ {w W:World}{c d e:Array Value}{t u v:TypeId}(h:((w.alloc (.cells c t)).alloc (.cells d u)).alloc (.cells e v)=W):Ext w W∧Blk W w.heap.size t c∧Blk W (w.heap.size+1) u d∧Blk W (w.heap.size+1+1) v e:=by
 have a:=Ext.x1_ (w:=w) (c:=c) (t:=t) rfl;have b:=Ext.x2_ h;rw [World.size_alloc] at b;exact⟨a.1.trans b.1,Blk.ext a.2 b.1,b.2⟩
theorem Ext.x4_ {w W:World}{c d e f:Array Value}{t u v x:TypeId}(h:(((w.alloc (.cells c t)).alloc (.cells d u)).alloc (.cells e v)).alloc (.cells f x)=W):Ext w W∧Blk W w.heap.size t c∧Blk W (w.heap.size+1) u d∧Blk W (w.heap.size+1+1) v e∧Blk W (w.heap.size+1+1+1) x f:=by
 have a:=Ext.x1_ (w:=w) (c:=c) (t:=t) rfl;have b:=Ext.x3_ h;rw [World.size_alloc] at b;exact⟨a.1.trans b.1,Blk.ext a.2 b.1,b.2⟩
theorem Blk.cells (h:Blk w g t cs):∀ W,Ext w W->∀ i,W.cell? ⟨g,i,none⟩=cs[i]?:=fun _ hW=>(h.ext hW).cell
theorem Blk.frm (h:Blk w g t cs)(hb:Frm S w w')(hg:¬ S g):Blk w' g t cs:=(hb.block g h.lt hg).trans h
theorem Blk.ab (h:Blk w g t cs) (i:Nat) (u:Value):Blk (w.setCell ⟨g,i,none⟩ u) g t (cs.setIfInBounds i u):=by
 unfold Blk at h ⊢;simp [World.setCell,Array.getElem?_modify,h]
end
theorem Blk.diff {h:Nat}   (a:Blk w g t cs) (b:Blk w h u ds)(hne:t≠u):g≠h:=by
 rintro rfl;unfold Blk at a b;rw [a] at b;injection b with b
 injection b with _ b
 exact hne b
theorem zcv (h:Ext (w.alloc (.cells cs t)) w'):Blk w' w.heap.size t cs:=(Blk.new w t cs).ext h
theorem zJ (h:Ext ((w.alloc (.cells cs t)).alloc (.cells ds u)) w'):Blk w' w.heap.size t cs∧Blk w' (w.heap.size+1) u ds:=by
 refine⟨zcv (((Ext.refl _).alloc _).trans h),?_⟩;have:=zcv h;simpa using this
theorem zU {es:Array Value} {v:TypeId}(h:Ext (((w.alloc (.cells cs t)).alloc (.cells ds u)).alloc (.cells es v)) w'):Blk w' w.heap.size t cs∧Blk w' (w.heap.size+1) u ds∧Blk w' (w.heap.size+1+1) v es:=by
 have a:=zJ (((Ext.refl _).alloc _).trans h);refine⟨a.1,a.2,?_⟩;have:=zcv h;simpa using this
theorem Blk.far (h:Blk w g t cs) (hp:g≠p.block) (u:Value):Blk (w.setCell p u) g t cs:=(Below.heap_setCell w p u g hp).trans h
theorem zcm (h:Ext (w.alloc (.cells cs t)) w'):∀ j,w'.cell? ⟨w.heap.size,j,none⟩=cs[j]?:=(zcv h).cell
def Reads (w:World) (lo hi size:Nat) (A:Option Addr) (n:Nat) (xs:List Value):Prop:=
 xs.length=n*size∧n<=9223372036854775807∧(0<n->∃ ad,A=some ad∧lo<=ad.block∧ad.block<hi∧∀ j u,xs[j]?=some u->w.cell? (ad.add j)=some u)
section
variable {w w':World} {lo hi size n:Nat} {A:Option Addr} {xs:List Value}
theorem Reads.nil:Reads w lo hi size A 0 []:=⟨sM,oM,fun h=>absurd h oM⟩
theorem Reads.len (h:Reads w lo hi size A n xs):n<=9223372036854775807:=h.2.1
theorem Reads.length (h:Reads w lo hi size A n xs):xs.length=n*size:=h.1
theorem Reads.at_ (h:Reads w lo hi size A n xs)(hk:k<n):∃ ad,A=some ad∧lo<=ad.block∧ad.block<hi∧∀ j u,xs[j]?=some u->w.cell? (ad.add j)=some u:=h.2.2 oM
theorem Reads.one (h:Reads w lo hi 1 A n xs)(hk:k<n):∃ ad u,A=some ad∧lo<=ad.block∧ad.block<hi∧Hid (xs[k]?=some u)∧w.cell? (ad.add k)=some u:=by
 obtain⟨ad,e,c,a,b⟩:=h.2.2 oM;have hx:k<xs.length:=oH h.1;exact⟨ad,xs[k],e,c,a,dH hx,b k _ (dH hx)⟩
theorem Reads.more (h:Reads w lo hi size A n xs)(hL:lo'<=lo)(hH:hi<=hi'):Reads w lo' hi' size A n xs:=
 ⟨h.1,h.2.1,fun hn=>by
  obtain⟨ad,e,hl,hb,hc⟩:=h.2.2 hn
  exact⟨ad,e,oM,oM,hc⟩⟩
theorem Reads.ext (h:Reads w lo hi size A n xs)(hb:Ext w w'):Reads w' lo hi size A n xs:=
 ⟨h.1,h.2.1,fun hn=>by
  obtain⟨ad,e,hl,hi,hc⟩:=h.2.2 hn
  exact⟨ad,e,hl,hi,fun j u hu=>hb.aa (hc j u hu)⟩⟩
theorem Reads.frm (h:Reads w lo hi size A n xs)(hb:Frm S w w')(hS:∀ k,lo<=k->k<hi->¬ S k):Reads w' lo hi size A n xs:=
 ⟨h.1,h.2.1,fun hn=>by
  obtain⟨ad,e,hl,hi,hc⟩:=h.2.2 hn
  refine⟨ad,e,hl,hi,fun j u hu=>?_⟩
  have hcell:=hc j u hu
  have hlt:=World.block_lt_of_cell? w _ hcell
  exact (World.cell?_of_block (w:=w) (hb.block _ hlt (by rw [ziI];exact hS _ hl hi))).trans hcell⟩
theorem Reads.af (h:w.ownsRow base e size (.slice A n c) n xs):Reads w base w.heap.size size A n xs:=by
 rcases h.2 with ⟨o,i⟩|⟨g,d,f,m,k,hg,l,a,_,b⟩
 ·subst i;have hx:xs=[]:=eJ (by simpa using h.1);subst hx;exact Reads.nil
 ·have j:A=some ⟨g,0,none⟩:=by injection m
  subst j;exact⟨h.1,by unfold maxLen at a;omega,fun _=>⟨_,rfl,k,(Array.getElem?_eq_some_iff.1 hg).1,h.cells (g:=g) rfl⟩⟩
end
theorem zO {P:Program} (wb w:World) {ops:Array Oper} {rest:List Oper} {o:Oper} {a:Act} {Q:Exit->Act->World->Prop}(hgd:o.guard=none) (s x:Operand) (t:TypeId)
  (ho:o.op=.call { callee:=.builtin .append,args:=#[s,x],argTypes:=#[t,t] })
  (e:TypeId) (z:Value) (size bytes:Nat) (ht:P.underlying t=some (.slice e)) (hi:(P.info? e).map (fun i=>(i.zero,i.size,i.bytes))=some (some z,size,bytes)) (hzs:z.cells.size=size) (hsz:0<size)
  (v:Value) (n:Nat) (xs:List Value) (us:Array Value) (e':TypeId) (hs:a.eval s=v) (hx:a.eval x=.slice (some w.heap.size) 1 1)
  (zkh:Ext wb w) (zkf:w.ownsRow wb.heap.size e size v n xs) (hus:us.size=size) (h1:∀ u∈us.toList,u.oneCell'=true)
  (h63:n+1<=maxLen) (hbytes:(n+1)*bytes<=140737488355328)
  (h:∀ v' w',Ext wb w'->w'.ownsRow wb.heap.size e size v' (n+1) (xs++us.toList)->w.grownBy w' v.ownBlock->(v'.ownBlock=v.ownBlock∨v'.ownBlock=some (w.heap.size+1))->wpList P ops Q rest (a.put o.dst v') w') :
  wpList P ops Q (o :: rest) a (w.alloc (.cells us e')):=by
 obtain⟨i,c,d,f,g⟩:=info_parts hi;refine wpList_append_own_at (w.alloc (.cells us e')) hgd s x t ho wb.heap.size e i z size bytes ht c d f g hzs hsz v n xs hs (zkf.alloc _) ⟨w.heap.size,0,none⟩ 1 1 us.toList hx (by simpa using hus) ?_ h1 h63 hbytes (by have:=zkh.size;simp;omega) ?_
 ·intro j u hu;rw [zT,eO,(Blk.new w e' us).cell];simpa using hu
 ·intro v' w' hown' hg _ hat;have b:w.grownBy w' v.ownBlock:=⟨hg.os,hg.tape,hg.output,eI sM hg.size,fun k hk hne=>(hg.block k (by simp;omega) hne).trans (Below.heap_alloc w _ k hk)⟩;exact h v' w' (zkh.grown b (fun k hk=>(zkf.lt k hk).1)) hown' b (by simpa using hat)
theorem zbS {P:Program} (wb w:World) {ops:Array Oper} {rest:List Oper} {o:Oper} {a:Act} {Q:Exit->Act->World->Prop}(hgd:o.guard=none) (l c:Operand) (t:TypeId)(ho:o.op=.makeSlice t l c)
  (e:TypeId) (z:Value) (size bytes:Nat) (ht:P.underlying t=some (.slice e)) (hi:(P.info? e).map (fun i=>(i.zero,i.size,i.bytes))=some (some z,size,bytes))
  (kl kc:IntKind) (n:Nat) (hl:a.eval l=.int kl (n:Int)) (hc:a.eval c=.int kc (n:Int)) (zkh:Ext wb w) (hbytes:n*bytes<=140737488355328) (h63:n<=maxLen)
  (h:∀ w',Ext wb w'->w'.ownsRow wb.heap.size e size (.slice (some w.heap.size) n n) n (madeCells z.cells (n*size)).toList->Ext w w'->w.heap.size<w'.heap.size->wpList P ops Q rest (a.put o.dst (.slice (some w.heap.size) n n)) w') :
  wpList P ops Q (o :: rest) a w:=by
 obtain⟨i,d,f,j,k⟩:=info_parts hi;refine wpList_make_full w hgd l c t ho wb.heap.size e i z size ht d f j kl kc n n n hl hc rfl rfl (by rw [k,gK];omega) h63 zkh.size ?_;intro w' zkf hg;refine h w' (zkh.grown hg sM) zkf ((Ext.refl _).grown hg sM) ?_;rcases zkf.2 with ⟨b,_⟩|⟨g,m,p,b,_,q,_⟩
 ·simp at b
 ·have:w.heap.size=g:=by injection b with h1;injection h1 with h1;injection h1
  subst this;exact (Array.getElem?_eq_some_iff.1 q).1
theorem zi {size:Nat}   (h:w.ownsRow base e size v n xs):∃ A c,v=.slice A n c:=by
 rcases h.2 with ⟨rfl,d⟩|⟨g,a,b,rfl,_⟩
 ·exact⟨none,0,by rw [d]⟩
 ·exact⟨_,_,rfl⟩
theorem zbg (n:Int):∀ u∈(#[Value.int .i64 n]:Array Value).toList,u.oneCell'=true:=by simp [Value.oneCell']
theorem zjq (n:Int):∀ u∈(#[Value.int .u8 n]:Array Value).toList,u.oneCell'=true:=by simp [Value.oneCell']
theorem zbc (A:Option Addr) (n c:Nat):∀ u∈(#[Value.slice A n c]:Array Value).toList,u.oneCell'=true:=by simp [Value.oneCell']
def ints (l:List Int):List Value:=l.map (Value.int .i64)
theorem zdc (l:List Int):(ints l).length=l.length:=by simp [ints]
def zak (l:List Bool):List Value:=l.map Value.bool
theorem zbT (l:List Bool):(zak l).length=l.length:=by simp [zak]
theorem ints_get {l:List Int}  {u:Value}(h:(ints l)[k]?=some u):∃ n,l[k]?=some n∧u=.int .i64 n:=by
 simp only [ints,eM,fS] at h;obtain⟨n,a,rfl⟩:=h;exact⟨n,a,rfl⟩
theorem bools_get {l:List Bool}  {u:Value}(h:(zak l)[k]?=some u):∃ n,l[k]?=some n∧u=.bool n:=by
 simp only [zak,eM,fS] at h;obtain⟨n,a,rfl⟩:=h;exact⟨n,a,rfl⟩
theorem Reads.int {l:List Int}(h:Reads w lo hi 1 A n (ints l))(hk:k<n):∃ ad x,A=some ad∧lo<=ad.block∧ad.block<hi∧Hid (l[k]?=some x)∧w.cell? (ad.add k)=some (.int .i64 x):=by
 obtain⟨ad,u,e,d,b,hx,c⟩:=h.one hk;obtain⟨x,a,rfl⟩:=ints_get hx.out;exact⟨ad,x,e,d,b,a,c⟩
theorem Reads.bool {l:List Bool}(h:Reads w lo hi 1 A n (zak l))(hk:k<n):∃ ad x,A=some ad∧lo<=ad.block∧ad.block<hi∧Hid (l[k]?=some x)∧w.cell? (ad.add k)=some (.bool x):=by
 obtain⟨ad,u,e,d,b,hx,c⟩:=h.one hk;obtain⟨x,a,rfl⟩:=bools_get hx.out;exact⟨ad,x,e,d,b,a,c⟩
def zff (w:World) (lo hi:Nat) (rows:List Value) (ls:List (List Int)):Prop:=
 rows.length=ls.length∧∀ (i:Nat) (row:Value) (l:List Int),rows[i]?=some row->ls[i]?=some l->∃ A c,row=.slice A l.length c∧Reads w lo hi 1 A l.length (ints l)
def zbH (w:World) (lo hi:Nat) (A:Option Addr) (n:Nat) (ls:List (List Int)):Prop:=
 n=ls.length∧∃ rows,Reads w lo hi 1 A n rows∧zff w lo hi rows ls
section
variable {w w':World} {lo hi n k:Nat} {A:Option Addr} {ls:List (List Int)} {rows:List Value}
theorem zff.ext (h:zff w lo hi rows ls)(hb:Ext w w'):zff w' lo hi rows ls:=
 ⟨h.1,fun i row l hr hl=>by
  obtain⟨A,c,e,hx⟩:=h.2 i row l hr hl
  exact⟨A,c,e,hx.ext hb⟩⟩
theorem zbH.ext (h:zbH w lo hi A n ls)(hb:Ext w w'):zbH w' lo hi A n ls:=by
 obtain⟨e,a,b,hx⟩:=h;exact⟨e,a,b.ext hb,hx.ext hb⟩
theorem zff.frm (h:zff w lo hi rows ls)(hb:Frm S w w')(hS:∀ k,lo<=k->k<hi->¬ S k):zff w' lo hi rows ls:=
 ⟨h.1,fun i row l hr hl=>by
  obtain⟨A,c,e,hx⟩:=h.2 i row l hr hl
  exact⟨A,c,e,hx.frm hb hS⟩⟩
theorem zbH.frm (h:zbH w lo hi A n ls)(hb:Frm S w w')(hS:∀ k,lo<=k->k<hi->¬ S k):zbH w' lo hi A n ls:=by
 obtain⟨e,a,b,hx⟩:=h;exact⟨e,a,b.frm hb hS,hx.frm hb hS⟩
theorem zff.more (h:zff w lo hi rows ls)(hL:lo'<=lo)(hH:hi<=hi'):zff w lo' hi' rows ls:=
 ⟨h.1,fun i row l hr hl=>by
  obtain⟨A,c,e,hx⟩:=h.2 i row l hr hl
  exact⟨A,c,e,hx.more hL hH⟩⟩
theorem zbH.more (h:zbH w lo hi A n ls)(hL:lo'<=lo)(hH:hi<=hi'):zbH w lo' hi' A n ls:=by
 obtain⟨e,a,b,hx⟩:=h;exact⟨e,a,b.more hL hH,hx.more hL hH⟩
theorem zbH.len (h:zbH w lo hi A n ls):n<=9223372036854775807:=by
 obtain⟨_,a,b,_⟩:=h;exact b.len
theorem zbH.row (h:zbH w lo hi A n ls)(hk:k<n):∃ ad Ak ck l,A=some ad∧lo<=ad.block∧ad.block<hi∧Hid (ls[k]?=some l)∧w.cell? (ad.add k)=some (.slice Ak l.length ck)∧Reads w lo hi 1 Ak l.length (ints l):=by
 obtain⟨e,b,i,hx⟩:=h;obtain⟨ad,u,c,g,d,j,f⟩:=i.one hk;have hlt:k<ls.length:=oM;obtain⟨Ak,ck,rfl,a⟩:=hx.2 k u ls[k] j.out (dH hlt);exact⟨ad,Ak,ck,ls[k],c,g,d,dH hlt,f,a⟩
end
section
variable {w w':World} {base base' size size' n n':Nat} {e e':TypeId} {v v':Value} {xs xs':List Value}
theorem zh (h:w.ownsRow base e size v n xs)(hb:Ext w w'):w'.ownsRow base e size v n xs:=by
 refine⟨h.1,?_⟩;rcases h.2 with d|⟨g,a,b,f,hg,c,r⟩
 ·exact .inl d
 ·exact .inr ⟨g,a,b,f,hg,(hb.heap (Array.getElem?_eq_some_iff.1 c).1).trans c,r⟩
theorem zf (h:w.ownsRow base e size v n xs)(hb:Frm S w w')(hS:∀ b,v.ownBlock=some b->¬ S b):w'.ownsRow base e size v n xs:=by
 refine⟨h.1,?_⟩;rcases h.2 with i|⟨g,a,c,f,hg,d,r⟩
 ·exact .inl i
 ·exact .inr ⟨g,a,c,f,hg,(hb.block g (Array.getElem?_eq_some_iff.1 d).1 (hS g (by rw [f];rfl))).trans d,r⟩
theorem zaF (h:w.ownsRow base e size v n xs)(hb:Frm S w w')(hS:∀ b,base<=b->¬ S b):w'.ownsRow base e size v n xs:=zf h hb fun b hv=>hS b (h.lt b hv).1
theorem zq (h:w.ownsRow base e size v n xs)(hb:base'<=base):w.ownsRow base' e size v n xs:=by
 refine⟨h.1,?_⟩;rcases h.2 with c|⟨g,a,b,d,hg,r⟩
 ·exact .inl c
 ·exact .inr ⟨g,a,b,d,oM,r⟩
theorem zas (h:w.ownsRow base e size v n xs)(h':w.ownsRow base' e' size' v' n' xs')(hne:e≠e') (hb:v.ownBlock=some b):v'.ownBlock≠some b:=by
 rcases h.2 with ⟨rfl,_⟩|⟨g,i,j,rfl,_,l,_⟩
 ·simp [Value.ownBlock] at hb
 ·rcases h'.2 with ⟨rfl,_⟩|⟨k,d,f,rfl,_,a,_⟩
  ·simp [Value.ownBlock]
  ·have c:g=b:=by simpa [Value.ownBlock] using hb
   subst c;intro he;have hg:k=g:=by simpa [Value.ownBlock] using he
   subst hg;rw [l] at a;injection a with a
   injection a with _ ht
   exact hne ht
theorem zbd {cap:Nat}(h:w.ownsRow base e size (.slice (some g) n cap) n xs) (j:Nat)(hj:j<n*size):∃ u,w.cell? ⟨g,j,none⟩=some u:=by
 have hx:j<xs.length:=by rw [h.1];exact hj
 exact⟨xs[j],by rw [h.cellAt j hj,dH hx]⟩
theorem zdB (h:w.ownsRow base e size v n xs):xs.length=n*size:=h.1
end
theorem Ext.ak (h:Ext w w'):Frm S w w':=⟨h.os,h.tape,h.output,h.size,fun k hk _=>h.block k hk id⟩
theorem Frm.ae {row:Option Nat}(h:w.grownBy w' row):Frm (fun k=>row=some k) w w':=
 ⟨h.os,h.tape,h.output,h.size,fun k hk hn=>h.block k hk (fun e=>hn e.symm)⟩
theorem Frm.setCell (w:World) (g j:Nat) (u:Value):Frm (fun k=>k=g) w (w.setCell ⟨g,j,none⟩ u):=
 ⟨rfl,rfl,rfl,by simp [World.setCell],fun k _ hn=>Below.heap_setCell _ _ _ _ hn⟩
theorem Frm.trans {b c:World}(h:Frm S a b) (k:Frm S b c):Frm S a c:=
 ⟨k.os.trans h.os,k.tape.trans h.tape,k.output.trans h.output,eI h.size k.size,fun i hi hn=>(k.block i (eV hi h.size) hn).trans (h.block i hi hn)⟩
theorem Frm.mono {b:World}(h:Frm S a b)(hS:∀ k,k<a.heap.size->S k->T k):Frm T a b:=
 ⟨h.os,h.tape,h.output,h.size,fun k hk hn=>h.block k hk (fun hs=>hn (hS k hk hs))⟩
theorem Frm.refl (S:Nat->Prop) (w:World):Frm S w w:=⟨rfl,rfl,rfl,dI _,fun _ _ _=>rfl⟩
theorem Frm.cell (h:Frm S a w) (hp:S p.block) (u:Value):Frm S a (w.setCell p u):=
 ⟨h.os,h.tape,h.output,by simpa [World.setCell] using h.size,fun k hk hn=>(Below.heap_setCell _ _ _ _ (by rintro rfl;exact hn hp)).trans (h.block k hk hn)⟩
theorem Frm.ext (h:Frm S a w)(hb:Ext w w'):Frm S a w':=h.trans hb.ak
theorem Ext.frm {b c:World}(h:Ext a b) (k:Frm S b c)(hS:∀ k,k<a.heap.size->¬ S k):Ext a c:=
 ⟨k.os.trans h.os,k.tape.trans h.tape,k.output.trans h.output,eI h.size k.size,fun i hi hn=>(k.block i (eV hi h.size) (hS i hi)).trans (h.block i hi hn)⟩
section
variable {α:Type} {l:List α} {p:α->Bool} {k:Nat} {x:α}
theorem zaM (h:l[k]?=some x)(hp:p x=false):l.all p=false:=
 List.all_eq_false.2 ⟨x,dG h,by simp [hp]⟩
theorem zcM (h:l[k]?=some x)(hk:(l.take k).all p=true)(hp:p x=true):(l.take (k+1)).all p=true:=by
 rw [eG,h,List.all_append,hk];simp [hp]
theorem zfo (hk:l.length<=k)(h:(l.take k).all p=true):l.all p=true:=by
 rwa [List.take_of_length_le hk] at h
end
def Sm (n:Nat):Prop:=n<4294967296
theorem Sm.lt (h:Sm n):n<4294967296:=h
theorem Sm.or {a:Nat}(ha:Sm a)(hb:Sm b):Sm (a|||b):=Nat.or_lt_two_pow (n:=32) ha hb
theorem Sm.and_left {a:Nat} (b:Nat)(ha:Sm a):Sm (a&&&b):=j1 kO ha
theorem Sm.bit (h:n<32):Sm (2 ^ n):=Nat.pow_lt_pow_right oM h
theorem zcA (a:Nat)(ha:a<9223372036854775808):(BitVec.ofInt 64 (a:Int)).toNat=a:=by
 rw [BitVec.ofInt_natCast,BitVec.toNat_ofNat];exact Nat.mod_eq_of_lt oM
theorem zbZ {a:Nat}(ha:Sm a)(hb:Sm b):bits .and .i64 (a:Int) (b:Int)=((a&&&b:Nat):Int):=by
 have hx:=(Sm.and_left b ha).lt;have:=ha.lt;have:=hb.lt;show IntKind.i64.wrap ((BitVec.ofInt 64 (a:Int)&&&BitVec.ofInt 64 (b:Int)).toNat:Int)=_;rw [BitVec.toNat_and,zcA a oM,zcA b oM,IntKind.wrap_i64];omega
theorem zbb {a:Nat}(ha:Sm a)(hb:Sm b):bits .or .i64 (a:Int) (b:Int)=((a|||b:Nat):Int):=by
 have hx:=(Sm.or ha hb).lt;have:=ha.lt;have:=hb.lt;show IntKind.i64.wrap ((BitVec.ofInt 64 (a:Int)|||BitVec.ofInt 64 (b:Int)).toNat:Int)=_;rw [BitVec.toNat_or,zcA a oM,zcA b oM,IntKind.wrap_i64];omega
theorem and_one (hx:Sm x):bits .and .i64 (x:Int) 1=((x % 2:Nat):Int):=by
 have:=zbZ hx (b:=1) tM;rw [nat_mask1] at this;exact this
theorem div_pow (x n:Nat):(x:Int) / 2 ^ n=((x / 2 ^ n:Nat):Int):=sM
theorem zgc (hx:Sm x)(hn:32<=n):x.testBit n=false:=
 kW (eV hx.lt (by rw [show (4294967296:Nat)=2 ^ 32 from rfl];exact e6 oM hn))
theorem zhV (hx:Sm x) (n:Nat):(bits .and .i64 ((x:Int) / 2 ^ min n 64) 1==1)=x.testBit n:=by
 rw [div_pow,and_one (j1 (jF _ _) hx)]
 by_cases hn:n<=64
 ·rw [Nat.min_eq_left hn,kV];rw [Bool.eq_iff_iff];simp only [beq_iff_eq,decide_eq_true_eq];omega
 ·rw [Nat.min_eq_right oM,zgc hx oM];have:x / 2 ^ 64=0:=jD (Nat.lt_trans hx.lt dM);rw [this];decide
def hasB (s:Nat) (n:Int):Bool:=decide (0<=n)&&s.testBit n.toNat
def letters (a k:Nat):List Nat:=(fW k).filter fun l=>a.testBit l
theorem zbo (a k:Nat):letters a (k+1)=letters a k++if a.testBit k then [k] else []:=by
 unfold letters;rw [List.range_succ,List.filter_append];cases h:a.testBit k<;>simp [h]
theorem zA (a k:Nat):(letters a k).length<=k:=by
 unfold letters;have:=List.length_filter_le (fun l=>a.testBit l) (fW k);simpa using this
def zac (l:List Nat):List Value:=l.map fun n:Nat=>Value.int .i64 (n:Int)
theorem zde (l:List Nat):(zac l).length=l.length:=by simp [zac]
theorem zaz (a:Int) (w:World) :
  Calls Tryz.prog 82 #[a] w fun e w'=>e=.returned (.bool (decide (0<=a∧a<=63)))∧w=w':=by
 by_cases h0:0<=a
 ·go_enter Tryz.func82,Tryz.ntmps82
  go_wp2;go_ret;exact⟨by simp [h0],rfl⟩
 ·go_enter Tryz.func82,Tryz.ntmps82
  go_wp2;go_ret;exact⟨by simp;omega,rfl⟩
theorem zS (a:Int) (w:World) :
  Calls Tryz.prog 142 #[a] w fun e w'=>e=.returned (.bool (decide (0<=a∧a<=63)))∧w=w':=by
 by_cases h0:0<=a
 ·go_enter Tryz.func142,Tryz.ntmps142
  go_wp2;go_ret;exact⟨by simp [h0],rfl⟩
 ·go_enter Tryz.func142,Tryz.ntmps142
  go_wp2;go_ret;exact⟨by simp;omega,rfl⟩
theorem zcG (s:ByteArray) (i:Nat)(h:i<s.size):(s[i].toNat:Int)<256:=by
 have:=s[i].toNat_lt;omega
def ltr (b:Int):Int:=if b - 97<0∨6<=b - 97 then -1 else b - 97
theorem zu {a b:Bool}(h:a=b):Ending.returned (.bool a)=.returned (.bool b):=by rw [h]
theorem zap {k:IntKind} {a b:Int}(h:a=b):Ending.returned (.int k a)=.returned (.int k b):=by rw [h]
theorem zcd (s:ByteArray) (i:Nat)(hi:i<s.size) (w:World) :
  Calls Tryz.prog 121 #[s,i] w fun e w'=>e=.returned (.int .i64 (ltr s[i].toNat))∧w=w':=by
 have a:=zcG s i hi
 by_cases h0:(s[i].toNat:Int) - 97<0
 ·go_enter Tryz.func121,Tryz.ntmps121
  go_wp2;go_ret;exact⟨zap (by rw [ltr,if_pos (Or.inl h0)]),rfl⟩
 ·by_cases h1:6<=(s[i].toNat:Int) - 97
  ·go_enter Tryz.func121,Tryz.ntmps121
   go_wp2;go_ret;exact⟨zap (by rw [ltr,if_pos (Or.inr h1)]),rfl⟩
  ·go_enter Tryz.func121,Tryz.ntmps121
   go_wp2;go_ret;exact⟨zap (by rw [ltr,if_neg oM]),rfl⟩
theorem zbC (s:ByteArray) (i:Nat)(hi:i<s.size) (w:World) :
  Calls Tryz.prog 144 #[s,i] w fun e w'=>e=.returned (.int .i64 (s[i].toNat - 97))∧w=w':=by
 have a:=zcG s i hi
 go_enter Tryz.func144,Tryz.ntmps144
 go_wp2;go_ret;exact⟨rfl,rfl⟩
theorem zaq (s n:Nat)(hs:Sm s) (w:World)(hn:n<9223372036854775808) :
  Calls Tryz.prog 143 #[s,n] w fun e w'=>e=.returned (.bool (s.testBit n))∧w=w':=by
 have c:IntKind.u64.wrap (n:Int)=n:=by rw [IntKind.wrap_u64];omega
 have a:=zhV hs n;have b:=za a;clear a
 go_enter Tryz.func143,Tryz.ntmps143
 go_wp2;go_ret;exact⟨by simp [b.out],rfl⟩
theorem zcw (s:Nat) (n:Int)(hs:Sm s) (w:World) :
  Calls Tryz.prog 127 #[s,n] w fun e w'=>e=.returned (.bool (hasB s n))∧w=w':=by
 have a:=zhV hs n.toNat;have b:=za a;clear a
 by_cases h0:0<=n
 ·go_enter Tryz.func127,Tryz.ntmps127
  go_wp2;go_ret;exact⟨by simp [b.out,hasB,h0],rfl⟩
 ·go_enter Tryz.func127,Tryz.ntmps127
  go_wp2;go_ret;exact⟨by simp [hasB];omega,rfl⟩
theorem zae:(Tryz.prog.info? 3).map (fun i=>(i.zero,i.size,i.bytes))=some (some (.int .i64 0),1,8):=kM
def zbI (w:World) (xs:List Nat) (e:Ending) (w':World):Prop:=
 ∃ A c,e=.returned (.slice A xs.length c)∧w'.ownsRow w.heap.size 3 1 (.slice A xs.length c) xs.length (zac xs)∧Ext w w'
theorem yY01a2 {P:Prop}(h:P:=by
 go_roundw
 case rel=>exact⟨k+1,oM,gM,by rw [Hls.out];first|simpa [zac] using zko|simpa using zkf,aM⟩
 case measure=>simp [intOf];omega
 ):P:=h
theorem zag (a:Nat)(hs:Sm a) (w:World) :
  Calls Tryz.prog 67 #[a] w (zbI w (letters a 6)):=by
 go_enter Tryz.func67,Tryz.ntmps67
 go_wp2
 go_loopw [3,5] (fun v i wr=>∃ k:Nat,k<=6∧i=.int .i64 k∧wr.ownsRow w.heap.size 3 1 v (letters a k).length (zac (letters a k))∧Ext w wr)
  (fun _ i _=>6 - (intOf i).toNat)
 case atStart=>exact⟨0,eC _,rfl,World.ownsRow_nil _ _ _ _,Ext.refl _⟩
 case round =>
  obtain⟨k,g,rfl,zkf,d⟩:=hrel;have h:=zA a k
  by_cases hlt:k<6
  ·cases hb:a.testBit k
   all_goals
    have f:hasB a k=a.testBit k:=by simp [hasB]
    rw [hb] at f;have b:=zbo a k;rw [hb] at b;have Hls:=za b;clear b hb;go_wp2_with (first
     |(go_at_call 127;refine (zcw a k hs _).mono ?_;rintro e w' ⟨rfl,rfl⟩)
     |(at_builtin;refine zO w wr rfl (.tmp 11) (.tmp 13) _ rfl 3 _ 1 8 Tryz.underlying110 zae rfl dM u3 _ _ _ _ rfl rfl d zkf rfl (zbg _) lM oM ?_;intro v' w1 hext1 zko hg1 hat1))
    exact yY01a2
  ·obtain rfl:k=6:=oM;obtain⟨A,c,rfl⟩:=zi zkf;go_wp2;go_ret;exact⟨_,_,rfl,zkf,d⟩
def tot (ls:List (List Int)):Nat:=(ls.map List.length).sum
theorem zge {l:List Int}(h:ls[k]?=some l):tot (ls.take (k+1))=tot (ls.take k)+l.length:=by
 rw [eG,h];simp [tot]
theorem tot_append (a b:List (List Int)):tot (a++b)=tot a+tot b:=by simp [tot]
theorem zie (ls:List (List Int)) (k:Nat):tot (ls.take k)<=tot ls:=by
 have h:=tot_append (ls.take k) (ls.drop k);rw [List.take_append_drop] at h;omega
structure Aut where
 al:Int
 next:List (List Int)
 acc:List Bool
def zF (w:World) (lo hi:Nat) (A:Option Addr) (n:Nat) (A':Option Addr) (n':Nat) (a:Aut):Prop:=
 zbH w lo hi A n a.next∧n'=a.acc.length∧Reads w lo hi 1 A' n' (zak a.acc)
section
variable {w w':World} {lo hi n n':Nat} {A A':Option Addr} {a:Aut}
theorem zF.ext (h:zF w lo hi A n A' n' a)(hb:Ext w w'):zF w' lo hi A n A' n' a:=⟨h.1.ext hb,h.2.1,h.2.2.ext hb⟩
theorem zF.frm (h:zF w lo hi A n A' n' a)(hb:Frm S w w')(hS:∀ k,lo<=k->k<hi->¬ S k):zF w' lo hi A n A' n' a:=⟨h.1.frm hb hS,h.2.1,h.2.2.frm hb hS⟩
theorem zF.more (h:zF w lo hi A n A' n' a)(hL:lo'<=lo)(hH:hi<=hi'):zF w lo' hi' A n A' n' a:=⟨h.1.more hL hH,h.2.1,h.2.2.more hL hH⟩
theorem zF.n1 (h:zF w lo hi A n A' n' a):n=a.next.length:=h.1.1
theorem zF.n2 (h:zF w lo hi A n A' n' a):n'=a.acc.length:=h.2.1
end
def Aut.size (a:Aut):Nat:=a.next.length+tot a.next+a.acc.length
theorem zbh:(Tryz.prog.info? 4).map (fun i=>(i.zero,i.size,i.bytes))=some (some (.bool false),1,1):=kM
theorem zcB:(Tryz.prog.info? 110).map (fun i=>(i.zero,i.size,i.bytes))=some (some (.slice none 0 0),1,24):=kM
def zC (w:World) (base:Nat) (rows:List Value) (ls:List (List Int)):Prop:=
 rows.length=ls.length∧(∀ (i:Nat) (row:Value) (l:List Int),rows[i]?=some row->ls[i]?=some l->w.ownsRow base 3 1 row l.length (ints l)) ∧
  ∀ (i j:Nat) (ri rj:Value) (b:Nat),rows[i]?=some ri->rows[j]?=some rj->i≠j->ri.ownBlock=some b->rj.ownBlock≠some b
theorem zC.nil (w:World) (base:Nat):zC w base [] []:=⟨rfl,fun i row l h=>by simp at h,fun i j ri rj b h=>by simp at h⟩
theorem zC.ext (h:zC w base rows ls)(hb:Ext w w'):zC w' base rows ls:=
 ⟨h.1,fun i row l hr hl=>zh (h.2.1 i row l hr hl) hb,h.2.2⟩
theorem zC.row (h:zC w base rows ls)  {row:Value}(hr:rows[i]?=some row):∃ l,ls[i]?=some l∧w.ownsRow base 3 1 row l.length (ints l):=by
 have b:i<rows.length:=(List.getElem?_eq_some_iff.1 hr).1;have a:ls[i]?=some (ls[i]'(by rw [← h.1];exact b)):=dH _;exact⟨_,a,h.2.1 i row _ hr a⟩
theorem zC.frm (h:zC w base rows ls)(hb:Frm S w w')(hS:∀ (i:Nat) (row:Value) (b:Nat),rows[i]?=some row->row.ownBlock=some b->¬ S b):zC w' base rows ls:=
 ⟨h.1,fun i row l hr hl=>zf (h.2.1 i row l hr hl) hb (fun b hb=>hS i row b hr hb),h.2.2⟩
theorem zC.snoc (h:zC w base rows ls)(hb:Ext w w') {row:Value} {l:List Int}(hbase:base<=w.heap.size)(hrow:w'.ownsRow w.heap.size 3 1 row l.length (ints l)) :
  zC w' base (rows++[row]) (ls++[l]):=by
 have c:=h.1;refine⟨by simp [c],fun i r m hr hm=>?_,fun i j ri rj b hri hrj hij hbi=>?_⟩
 ·rcases fQ i rows.length with a|a|a
  ·rw [eH a] at hr;rw [eH oM] at hm;exact zh (h.2.1 i r m hr hm) hb
  ·rw [eN oM,a,iI] at hr;rw [eN oM,a,c,iI] at hm;simp at hr hm;subst hr;subst hm;exact zq hrow hbase
  ·rw [eR (by simp;omega)] at hr;cases hr
 ·have g:∀ (i:Nat) (r:Value) (b:Nat),i<rows.length->rows[i]?=some r->r.ownBlock=some b->b<w.heap.size:=fun i r b a hr hb=>by
   obtain⟨m,_,o⟩:=h.row hr;exact (o.lt b hb).2
  have f:∀ b,row.ownBlock=some b->w.heap.size<=b:=fun b hb=>(hrow.lt b hb).1;have a:i<=rows.length:=by have:=(List.getElem?_eq_some_iff.1 hri).1;simp at this;omega
  have d:j<=rows.length:=by have:=(List.getElem?_eq_some_iff.1 hrj).1;simp at this;omega
  rcases fC a with a|a<;>rcases fC d with d|d
  ·rw [eH a] at hri;rw [eH d] at hrj;exact h.2.2 i j ri rj b hri hrj hij hbi
  ·rw [eH a] at hri;subst d;simp at hrj;subst hrj;intro hc;have k:=g i ri b a hri hbi;have n:=f b hc;omega
  ·rw [eH d] at hrj;subst a;simp at hri;subst hri;intro hc;have k:=g j rj b d hrj hc;have n:=f b hbi;omega
  ·omega
def zfF (w:World) (base:Nat) (v:Value) (ls:List (List Int)):Prop:=∃ rows,w.ownsRow base 110 1 v ls.length rows∧zC w base rows ls
theorem zfF.ext (h:zfF w base v ls)(hb:Ext w w'):zfF w' base v ls:=by
 obtain⟨a,b,c⟩:=h;exact⟨a,zh b hb,c.ext hb⟩
theorem zC.keep (h:zC w base rows ls)(hb:Frm S w w')(hS:∀ b,base<=b->¬ S b):zC w' base rows ls:=
 ⟨h.1,fun i row l hr hl=>zaF (h.2.1 i row l hr hl) hb hS,h.2.2⟩
theorem zC.less (h:zC w base rows ls)(hb:base'<=base):zC w base' rows ls:=
 ⟨h.1,fun i row l hr hl=>zq (h.2.1 i row l hr hl) hb,h.2.2⟩
theorem zfF.keep (h:zfF w base v ls)(hb:Frm S w w')(hS:∀ b,base<=b->¬ S b):zfF w' base v ls:=by
 obtain⟨a,c,d⟩:=h;exact⟨a,zaF c hb hS,d.keep hb hS⟩
theorem zfF.less (h:zfF w base v ls)(hb:base'<=base):zfF w base' v ls:=by
 obtain⟨a,b,c⟩:=h;exact⟨a,zq b hb,c.less hb⟩
theorem zfF.reads (h:zfF w base (.slice A n c) ls)(hn:n=ls.length):zbH w base w.heap.size A n ls:=by
 obtain⟨a,j,b⟩:=h;subst hn;refine⟨rfl,a,Reads.af j,b.1,fun i row l hr hl=>?_⟩;have d:=b.2.1 i row l hr hl;obtain⟨f,g,rfl⟩:=zi d;exact⟨f,g,rfl,Reads.af d⟩
def zN (w:World) (base:Nat) (A:Option Addr) (n c:Nat) (A':Option Addr) (n' c':Nat) (a:Aut):Prop:=
 zfF w base (.slice A n c) a.next∧n=a.next.length∧w.ownsRow base 4 1 (.slice A' n' c') n' (zak a.acc)∧n'=a.acc.length
theorem zN.ext {a:Aut}(h:zN w base A n c A' n' c' a)(hb:Ext w w'):zN w' base A n c A' n' c' a:=
 ⟨h.1.ext hb,h.2.1,zh h.2.2.1 hb,h.2.2.2⟩
theorem zN.keep {a:Aut}(h:zN w base A n c A' n' c' a)(hb:Frm S w w')(hS:∀ b,base<=b->¬ S b):zN w' base A n c A' n' c' a:=
 ⟨h.1.keep hb hS,h.2.1,zaF h.2.2.1 hb hS,h.2.2.2⟩
theorem zN.less {a:Aut}(h:zN w base A n c A' n' c' a)(hb:base'<=base):zN w base' A n c A' n' c' a:=
 ⟨h.1.less hb,h.2.1,zq h.2.2.1 hb,h.2.2.2⟩
theorem zN.reads {a:Aut}(h:zN w base A n c A' n' c' a):zF w base w.heap.size A n A' n' a:=
 ⟨h.1.reads h.2.1,h.2.2.2,Reads.af h.2.2.1⟩
def RetAut (w:World) (a:Aut) (e:Ending) (w':World):Prop:=
 ∃ A n c A' n' c',e=.returned (.agg #[a.al,.slice A n c,.slice A' n' c'])∧zN w' w.heap.size A n c A' n' c' a∧Ext w w'
def zcr:Op->Bool
 |.move _ | .assign _ | .pick _ _ _ | .binOp _ _ _ _ _ | .unOp _ _ _ | .load _ _ | .fieldAddr _ _ _ | .field _ _ _ | .indexAddr _ _ _ | .index _ _ _ | .extract _ _ | .build _ _ | .slice _ _ _ _ _ | .convert _ _ _=>true
 |.call { callee:=.builtin .len,.. }=>true
 |.call { callee:=.builtin .cap,.. }=>true
 |_=>false
def okOrd (l:List Oper):List Nat->Array Bool->Bool
 |[],listed=>(Region.ready .any l.toArray listed).isEmpty
 |i :: rest,listed =>
  (match l[i]? with
   |some o=>if zcr o.op then Region.free .any l.toArray listed i&&(Region.ready .any l.toArray listed).contains i else Region.ready .any l.toArray listed==[i]
   |none=>false)&&okOrd l rest (listed.setIfInBounds i true)
def zfe (P:Program) (l:List Oper) (Q:Exit->Act->World->Prop) (S:World->Prop):List Nat->Act->World->Prop
 |[],a,w=>Q .normal a w
 |i :: rest,a,w=>match l[i]? with
  |some o=>if zcr o.op then ∃ v,YieldsIf P l.toArray S o v a∧S w∧zfe P l Q S rest (a.put o.dst v) w
   else wpOp P l.toArray Q i (fun a' w'=>S w'∧zfe P l Q S rest a' w') a w
  |none=>False
section
variable {P:Program} {l:List Oper} {Q:Exit->Act->World->Prop} {S:World->Prop}
theorem zhU (hs:Region.noSelect l.toArray=true)(hQ:∀ (c:List PanicEntry) (a:Act) (d:Tmp) (v:Value) (w:World),Q (.panic c) (a.put (some d) v) w->Q (.panic c) a w) :
  ∀ (ord:List Nat) (listed:Array Bool) (a:Act) (w:World),okOrd l ord listed=true->zfe P l Q S ord a w->wpAnyH P .any l.toArray Q S ord.length listed a w
 |[],listed,a,w,hok,h=>by
  simp only [okOrd,List.isEmpty_iff] at hok
  exact wpAnyH_done hok h 0
 |i :: rest,listed,a,w,hok,h=>by
  cases ho:l[i]? with
  |none=>simp [okOrd,ho] at hok
  |some o =>
   simp only [okOrd,ho,eD] at hok
   simp only [zfe,ho] at h
   by_cases hq:zcr o.op=true
   ·rw [if_pos hq] at hok h
    simp only [eD] at hok
    obtain⟨v,hy,hS,hr⟩:=h
    exact wpAnyH_take (by simpa using ho) hs hok.1.1 hok.1.2 (fun c a w h=>by cases hd:o.dst with|none=>rw [hd] at h;exact h|some d=>rw [hd] at h;exact hQ c a d v w h) hy hS (zhU hs hQ rest _ _ _ hok.2 hr)
   ·rw [if_neg hq] at hok h
    refine wpAnyH_all (rs:=[i]) (by simpa using hok.1) sM fun j hj=>?_
    rw [List.mem_singleton.1 hj]
    exact wpOp_mono (fun a' w' h=>⟨h.1,zhU hs hQ rest _ _ _ hok.2 h.2⟩) h
theorem zaj {a:Act}  (S:World->Prop) (ord:List Nat)(hm:P.follows .mixedOrders=true)(hlen:ord.length=l.length)(hs:Region.noSelect l.toArray=true)(hok:okOrd l ord (Array.replicate l.length false)=true)
  (hQ:∀ (c:List PanicEntry) (a:Act) (d:Tmp) (v:Value) (w:World),Q (.panic c) (a.put (some d) v) w->Q (.panic c) a w) (hS:S w.drew) (h:S w.drew->zfe P l Q S ord a w.drew):(Code.region id l.toArray true).wp P Q a w:=by
 refine wp_region_held (S:=S) hm ?_;have:=zhU hs hQ ord _ a w.drew hok (h hS);rw [hlen] at this;simpa using this
theorem zcI {a:Act} (h:Q .normal a w):zfe P l Q S [] a w:=h
theorem seq_read {o:Oper}  {a:Act} (ho:l[i]?=some o)(hq:zcr o.op=true)(hw:Region.wanted o (yielded l.toArray a.tmps)=true)
  (hy:∀ W,S W->(execOp a.eval o).run P W=.ok (.value v) W) (hS:S w) (h:zfe P l Q S rest (a.put o.dst v) w):zfe P l Q S (i :: rest) a w:=by
 simp only [zfe,ho,hq,if_true];exact⟨v,.inl ⟨hw,hy⟩,hS,h⟩
theorem seq_skip {o:Oper} {a:Act} (ho:l[i]?=some o)(hw:Region.wanted o (yielded l.toArray a.tmps)=false)
  (hS:S w) (h:zfe P l Q S rest (a.put o.dst undef) w):zfe P l Q S (i :: rest) a w:=by
 simp only [zfe,ho];split
 ·exact⟨undef,.inr ⟨hw,rfl⟩,hS,h⟩
 ·unfold wpOp;simp only [fJ,ho,hw,jX,if_false];exact⟨hS,h⟩
theorem zai {o:Oper} {a:Act} 
  (h:∀ K:Act->World->Prop,Shut (∀ a w,S w->(S w->zfe P l Q S rest a w)->K a w)->o.wp P a w K Q) (ho:l[i]?=some o:=by rfl) (hq:zcr o.op=false:=by rfl) (hw:Region.wanted o (yielded l.toArray a.tmps)=true:=by rfl):zfe P l Q S (i :: rest) a w:=by
 simp only [zfe,ho,hq];unfold wpOp;simp only [fJ,ho,hw,if_true];exact .inl (h _ fun a w hS hW=>⟨hS,hW hS⟩)
end
theorem sQ {A B:Prop}(h:B) (k:Bx B->A:=by
 intro h0
 repeat (first|(refine seq_skip rfl rfl aM ?_;simp only [Act.put,List.setIfInBounds_toArray,List.set_cons_zero,List.set_cons_succ])|(refine seq_read (v:=?_) rfl rfl rfl (fun X hX=>?_) aM ?_;rotate_left;(focus (go_simp<;>with_reducible rfl));simp only [Act.put,List.setIfInBounds_toArray,List.set_cons_zero,List.set_cons_succ]))
 exact h0.out):A:=k ⟨h⟩
theorem sR {P:Program} {l:List Oper} {Q:Exit->Act->World->Prop} {id:Nat} {a:Act}  (S:World->Prop) (ord:List Nat)(h:S w.drew->zfe P l Q S ord a w.drew)(hm:P.follows .mixedOrders=true:=by kernel_rfl)(hlen:ord.length=l.length:=by rfl)(hs:Region.noSelect l.toArray=true:=by kernel_rfl)(hok:okOrd l ord (Array.replicate l.length false)=true:=by kernel_rfl)
  (hQ:∀ (c:List PanicEntry) (a:Act) (d:Tmp) (v:Value) (w:World),Q (.panic c) (a.put (some d) v) w->Q (.panic c) a w:=by exact fun _ _ _ _ _ h=>h) (hS:S w.drew:=by first|assumption|exact (Ext.refl _).drew|(refine Ext.drew ?_;assumption)):(Code.region id l.toArray true).wp P Q a w:=
 zaj S ord hm hlen hs hok hQ hS h
structure Edg where
 fr:Int
 le:Int
 ta:Int
deriving DecidableEq
structure Sys where
 al:Int
 st:Int
 edges:List Edg
def zn:List Edg->List Value
 |[]=>[]
 |e :: r=>.int .i64 e.fr :: .int .i64 e.le :: .int .i64 e.ta :: zn r
theorem zL (l:List Edg):(zn l).length=l.length*3:=by
 induction l with
 |nil=>rfl
 |cons e r ih=>simp only [zn,gJ,ih];omega
theorem zcH (l m:List Edg):zn (l++m)=zn l++zn m:=by
 induction l with
 |nil=>rfl
 |cons e r ih=>simp [zn,ih]
theorem zcc {l:List Edg}  {e:Edg}(h:l[k]?=some e):(zn l)[k*3]?=some (.int .i64 e.fr)∧(zn l)[k*3+1]?=some (.int .i64 e.le)∧(zn l)[k*3+2]?=some (.int .i64 e.ta):=by
 induction l generalizing k with
 |nil=>simp at h
 |cons a r ih =>
  cases k with
  |zero=>simp at h;subst h;exact⟨rfl,rfl,rfl⟩
  |succ k =>
   have:=ih (k:=k) (by simpa using h);have b:(k+1)*3=k*3+1+1+1:=oM;refine⟨?_,?_,?_⟩<;>rw [b]<;>simp only [zn,List.getElem?_cons_succ]
   ·exact this.1
   ·exact this.2.1
   ·exact this.2.2
theorem zdH {ad:Addr} (h:w.cell? (ad.add 0)=some v):ad=⟨ad.block,ad.off,none⟩:=by
 rw [addr_zero] at h;obtain⟨b,o,s⟩:=ad;have a:s=none:=World.cell?_spot h;subst a;rfl
theorem Reads.edge {l:List Edg}(h:Reads w lo hi 3 A n (zn l))(hk:k<n) :
  ∃ b o e,A=some ⟨b,o,none⟩∧lo<=b∧b<hi∧Hid (l[k]?=some e)∧w.cell? ⟨b,o+k*3,none⟩=some (.int .i64 e.fr)∧w.cell? ⟨b,o+k*3+1,none⟩=some (.int .i64 e.le)∧w.cell? ⟨b,o+k*3+2,none⟩=some (.int .i64 e.ta):=by
 obtain⟨g,m,q,p,a⟩:=h.at_ hk;have r:l.length=n:=by have:=h.length;rw [zL] at this;omega
 have hx:l[k]?=some l[k]:=dH oM;have hg:=zcc hx;have c:=a _ _ hg.1;have d:=a _ _ hg.2.1;have f:=a _ _ hg.2.2;have j:=zcc (k:=0) (dH (l:=l) oM);rw [kH] at j;have i:=zdH (a _ _ j.1);rw [i] at c d f;rw [zT] at c d f;exact⟨g.block,g.off,l[k],by rw [m,i],q,p,hx,c,by rw [gF];exact d,by rw [gF];exact f⟩
theorem Reads.edge2 {l:List Edg} {e:Edg}(h:Reads w lo hi 3 (some ⟨b,o,none⟩) n (zn l))(he:l[j]?=some e) :
  w.cell? ⟨b,o+j*3,none⟩=some (.int .i64 e.fr)∧w.cell? ⟨b,o+j*3+1,none⟩=some (.int .i64 e.le)∧w.cell? ⟨b,o+j*3+2,none⟩=some (.int .i64 e.ta):=by
 have m:j<l.length:=(List.getElem?_eq_some_iff.1 he).1;have p:l.length=n:=by have:=h.length;rw [zL] at this;omega
 obtain⟨i,a,_,_,c⟩:=h.at_ (k:=j) oM;injection a with a
 subst a;have hg:=zcc he;have d:=c _ _ hg.1;have f:=c _ _ hg.2.1;have g:=c _ _ hg.2.2;rw [zT] at d f g;exact⟨d,by rw [gF];exact f,by rw [gF];exact g⟩
def zV (w:World) (lo hi:Nat) (A:Option Addr) (n:Nat) (s:Sys):Prop:=n=s.edges.length∧Reads w lo hi 3 A n (zn s.edges)
section
variable {w w':World} {lo hi n:Nat} {A:Option Addr} {s:Sys}
theorem zV.ext (h:zV w lo hi A n s)(hb:Ext w w'):zV w' lo hi A n s:=⟨h.1,h.2.ext hb⟩
theorem zV.frm (h:zV w lo hi A n s)(hb:Frm S w w')(hS:∀ k,lo<=k->k<hi->¬ S k):zV w' lo hi A n s:=⟨h.1,h.2.frm hb hS⟩
theorem zV.more (h:zV w lo hi A n s)(hL:lo'<=lo)(hH:hi<=hi'):zV w lo' hi' A n s:=⟨h.1,h.2.more hL hH⟩
end
theorem zaV:(Tryz.prog.info? 117).map (fun i=>(i.zero,i.size,i.bytes))=some (some (.agg #[(0:Int),(0:Int),(0:Int)]),3,24):=kM
def OwnE (w:World) (base:Nat) (A:Option Addr) (n c:Nat) (l:List Edg):Prop:=n=l.length∧w.ownsRow base 117 3 (.slice A n c) n (zn l)
theorem OwnE.ext {l:List Edg}(h:OwnE w base A n c l)(hb:Ext w w'):OwnE w' base A n c l:=⟨h.1,zh h.2 hb⟩
def RetSys (w:World) (s:Sys) (e:Ending) (w':World):Prop:=
 ∃ A n c,e=.returned (.agg #[s.al,s.st,.slice A n c])∧OwnE w' w.heap.size A n c s.edges∧Ext w w'
instance:BEq Edg:=⟨fun a b=>decide (a.fr=b.fr)&&(decide (a.le=b.le)&&decide (a.ta=b.ta))⟩
theorem edg_beq (a b:Edg):(a==b)=(decide (a.fr=b.fr)&&(decide (a.le=b.le)&&decide (a.ta=b.ta))):=rfl
instance:LawfulBEq Edg where
 eq_of_beq {a b} h:=by
  rw [edg_beq] at h;simp only [eD,decide_eq_true_eq] at h;cases a;cases b;simp_all
 rfl {a}:=by rw [edg_beq];simp
def zdG (w:World) (lo hi:Nat) (A:Option Addr) (n:Nat) (ss:List Sys):Prop:=
 n=ss.length∧∃ cells,Reads w lo hi 3 A n cells∧∀ (k:Nat) (s:Sys),ss[k]?=some s->∃ (B:Option Addr) (m c:Nat),cells[k*3]?=some (.int .i64 s.al)∧cells[k*3+1]?=some (.int .i64 s.st)∧cells[k*3+2]?=some (.slice B m c)∧zV w lo hi B m s
section
variable {w w':World} {lo hi n k:Nat} {A:Option Addr} {ss:List Sys}
theorem zdG.ext (h:zdG w lo hi A n ss)(hb:Ext w w'):zdG w' lo hi A n ss:=by
 obtain⟨e,a,i,hx⟩:=h;refine⟨e,a,i.ext hb,fun k s hs=>?_⟩;obtain⟨B,m,c,b,d,f,g⟩:=hx k s hs;exact⟨B,m,c,b,d,f,g.ext hb⟩
theorem zdG.len (h:zdG w lo hi A n ss):n<=9223372036854775807:=by
 obtain⟨_,a,b,_⟩:=h;exact b.len
theorem ziY {u:Value}(h:Reads w lo hi 3 A n xs)(hn:0<n)(hu:xs[0]?=some u):∃ b o,A=some ⟨b,o,none⟩∧lo<=b∧b<hi∧∀ j v,xs[j]?=some v->w.cell? ⟨b,o+j,none⟩=some v:=by
 obtain⟨a,e,g,f,c⟩:=h.at_ hn;have d:=zdH (c 0 u hu);refine⟨a.block,a.off,by rw [e,d],g,f,fun j v hv=>?_⟩;have:=c j v hv;rw [d,zT] at this;exact this
theorem zdG.sys (h:zdG w lo hi A n ss)(hk:k<n):∃ b o s B m c,A=some ⟨b,o,none⟩∧lo<=b∧b<hi∧Hid (ss[k]?=some s)∧w.cell? ⟨b,o+k*3,none⟩=some (.int .i64 s.al)∧w.cell? ⟨b,o+k*3+1,none⟩=some (.int .i64 s.st)∧w.cell? ⟨b,o+k*3+2,none⟩=some (.slice B m c)∧zV w lo hi B m s:=by
 obtain⟨e,a,t,hx⟩:=h;have d:ss[0]?=some (ss[0]' oM):=dH _;obtain⟨_,_,_,i,_⟩:=hx 0 _ d;rw [kH] at i;obtain⟨b,o,rfl,r,q,f⟩:=ziY t oM i;have g:ss[k]?=some (ss[k]' oM):=dH _;obtain⟨B,m,c,d,j,l,p⟩:=hx k _ g;exact⟨b,o,_,B,m,c,rfl,r,q,g,f _ _ d,by rw [gF];exact f _ _ j,by rw [gF];exact f _ _ l,p⟩
theorem zdG.ax {s:Sys}(h:zdG w lo hi (some ⟨b,o,none⟩) n ss)(hs:ss[k]?=some s):∃ B m c,w.cell? ⟨b,o+k*3,none⟩=some (.int .i64 s.al)∧w.cell? ⟨b,o+k*3+1,none⟩=some (.int .i64 s.st)∧w.cell? ⟨b,o+k*3+2,none⟩=some (.slice B m c)∧zV w lo hi B m s:=by
 have f:k<n:=by rw [h.1];exact (List.getElem?_eq_some_iff.1 hs).1
 obtain⟨g,i,j,B,m,c,a,_,_,d,r⟩:=h.sys f;injection a with a
 injection a with h1 h2
 subst h1;subst h2;have:=d.out;rw [hs] at this;injection this with this
 subst this;exact⟨B,m,c,r⟩
end
theorem info_sys:(Tryz.prog.info? 38).map (fun i=>(i.zero,i.size,i.bytes))=some (some (.agg #[(0:Int),(0:Int),()]),3,40):=kM
section
open Go.ChangeShapes Go.WideShapes Go.ChangeAt Go.Deep
theorem own_:ownKnob Tryz.prog.godebug=none:=kM
theorem laidOut_:laidOutB Tryz.prog=true:=kM
theorem and_t {a b:Bool}(h:a=true) (k:b=true):(a&&b)=true:=by rw [h,k];rfl
end
def Tab (w:World):Prop:=∀ j,j<64->w.cell? ⟨1,j,none⟩=some (.int .u8 (Lib.deBruijn64tab.getD j 0))
theorem Tab.ext (h:Tab w)(hb:Ext w w'):Tab w':=fun j hj=>hb.aa (h j hj)
theorem tz64_core (x k idx:Nat) (w:World)(hx0:((x:Int)==0)=false)
  (key:IntKind.u64.wrap (bits BinOp.and IntKind.u64 (x:Int) (IntKind.u64.wrap (-(x:Int)))*285870213051353865) / 288230376151711744=(idx:Int))
  (hi:idx<64) (hk:k<64) (hcell:w.cell? ⟨1,idx,none⟩=some (.int .u8 k)) :
  Calls Tryz.prog 282 #[.int .u64 x] w fun e w'=>e=.returned (.int .i64 k)∧w=w':=by
 go_enter Tryz.func282,Tryz.ntmps282
 go_wp2_with (simp only [key])
 go_ret;exact⟨rfl,rfl⟩
theorem tz64 (x:Nat)(hx:x<18446744073709551616)(hx0:x≠0) (w:World)(hT:Tab w) :
  Calls Tryz.prog 282 #[.int .u64 x] w fun e w'=>e=.returned (.int .i64 (Lib.ctz 64 x))∧w=w':=by
 obtain⟨b,f⟩:=Lib.lowest_bit 64 x hx0 hx;obtain⟨d,c⟩:=Lib.deBruijn64_at _ f;have a:=hT _ d;rw [c] at a;exact tz64_core x _ _ w (by simp;omega) (tz64_key x _ hx hx0 b) d f a
theorem tz (x:Nat)(hx:x<18446744073709551616)(hx0:x≠0) (w:World)(hT:Tab w) :
  Calls Tryz.prog 229 #[.int .u64 x] w fun e w'=>e=.returned (.int .i64 (Lib.ctz 64 x))∧w=w':=by
 go_enter Tryz.func229,Tryz.ntmps229
 go_wp2_with (go_at_call 282;refine (tz64 x hx hx0 w hT).mono ?_;rintro e w' ⟨rfl,rfl⟩)
 go_ret;exact⟨rfl,rfl⟩
theorem tab_head {rest : List (String × DataW Unit)} (h : laidMet Tryz.prog (("math/bits.deBruijn64tab", Rows.laid_math_bits_deBruijn64tab) :: rest) W) : Tab W := by
 have a : Lib.TabIs Tryz.prog W "math/bits.deBruijn64tab" .u8 (Lib.deBruijn64tab.map fun n : Nat => (n : Int)) :=
  Lib.tabIs_of_head (g:=1) (t:=297) (e:=5) kM kM Tryz.underlying297 Tryz.underlying5 kM kM h
 intro j hj;have:=a.cell (g:=1) kM j (by rw [List.length_map];exact hj);rw [this,List.getD_eq_getElem?_getD,List.getElem?_map,List.getD_eq_getElem?_getD];have b:Lib.deBruijn64tab.length=64:=rfl;rw [List.getElem?_eq_getElem oM];rfl
theorem tab_two {rest : List (String × DataW Unit)} (h : laidMet Tryz.prog (("math/bits.deBruijn32tab", Rows.laid_math_bits_deBruijn32tab) :: ("math/bits.deBruijn64tab", Rows.laid_math_bits_deBruijn64tab) :: rest) W) : Tab W := tab_head (laidMet.tail h)
abbrev zbx:=Nat->World->(Nat->Prop)->Prop
structure zbx.Ok (b0:Nat) (J:zbx):Prop where
 lt:∀ {B:Nat} {W:World} {S:Nat->Prop},J B W S->∀ k,S k->k<W.heap.size
 low:∀ {B:Nat} {W:World} {S:Nat->Prop},J B W S->∀ k,S k->b0<=k
 keep:∀ {B:Nat} {W W':World} {S T:Nat->Prop},J B W S->Frm T W W'->(∀ k,k<W.heap.size->T k->b0<=k∧¬ S k)->J B W' S
 more:∀ {B C:Nat} {W:World} {S:Nat->Prop},J B W S->B<=C->J C W S
structure Kp (J:zbx) (B:Nat) (S:Nat->Prop) (W W':World) (S':Nat->Prop):Prop where
 j:J B W' S'
 frm:Frm S W W'
 new:∀ k,S' k->S k∨W.heap.size<=k
section
variable {b0:Nat} {J:zbx} {A B C:Nat} {S S1 S2:Nat->Prop} {W W1 W2:World}
theorem Kp.refl (h:J B W S):Kp J B S W W S:=⟨h,Frm.refl _ _,fun _ h=>.inl h⟩
theorem Kp.size (h:Kp J B S W W1 S1):W.heap.size<=W1.heap.size:=h.frm.size
theorem Kp.out (h:Kp J B S W W1 S1) (hk:k<W.heap.size)(hS:¬ S k):¬ S1 k:=fun h1=>by
 rcases h.new k h1 with h2|h2
 ·exact hS h2
 ·omega
theorem Kp.trans {J2:zbx}(h:Kp J B S W W1 S1) (k:Kp J2 C S1 W1 W2 S2):Kp J2 C S W W2 S2:=by
 refine⟨k.j,⟨k.frm.os.trans h.frm.os,k.frm.tape.trans h.frm.tape,k.frm.output.trans h.frm.output,eI h.frm.size k.frm.size,fun i hi hn=>?_⟩,fun i hi=>?_⟩
 ·exact (k.frm.block i (eV hi h.frm.size) (h.out hi hn)).trans (h.frm.block i hi hn)
 ·rcases k.new i hi with a|a
  ·exact h.new i a
  ·exact .inr (eI h.frm.size a)
theorem Kp.more (hJ:zbx.Ok b0 J)(h:Kp J B S W W1 S1)(hB:B<=C):Kp J C S W W1 S1:=⟨hJ.more h.j hB,h.frm,h.new⟩
theorem Kp.ext (hJ:zbx.Ok b0 J)(h:Kp J B S W W1 S1)(hx:Ext W1 W2):Kp J B S W W2 S1:=⟨hJ.keep h.j hx (fun _ _ h=>h.elim),h.frm.ext hx,h.new⟩
theorem Kp.own (hJ:zbx.Ok b0 J) (h:Kp J B S W W1 S1)(hf:Frm T W1 W2)(hT:∀ k,k<W1.heap.size->T k->W.heap.size<=k∧b0<=k∧¬ S1 k):Kp J B S W W2 S1:=
 ⟨hJ.keep h.j hf (fun k hk ht=>(hT k hk ht).2),⟨hf.os.trans h.frm.os,hf.tape.trans h.frm.tape,hf.output.trans h.frm.output,eI h.frm.size hf.size,fun i hi hn =>
  (hf.block i (eV hi h.frm.size) (fun ht=>by have:=(hT i (eV hi h.frm.size) ht).1;omega)).trans (h.frm.block i hi hn)⟩,h.new⟩
theorem Kp.cell (hJ:zbx.Ok b0 J)(h:Kp J B S W W1 S1) (hg:W.heap.size<=g)(hb:b0<=g)(hS:¬ S1 g) (j:Nat) (u:Value):Kp J B S W (W1.setCell ⟨g,j,none⟩ u) S1:=
 h.own hJ (Frm.setCell W1 g j u) (fun k _ e=>by subst e;exact⟨hg,hb,hS⟩)
theorem Kp.grown (hJ:zbx.Ok b0 J)(h:Kp J B S W W1 S1) {row:Option Nat}(hg:W1.grownBy W2 row)(hr:∀ k,row=some k->W.heap.size<=k∧b0<=k∧¬ S1 k):Kp J B S W W2 S1:=
 h.own hJ (T:=fun k=>row=some k) (Frm.ae hg) (fun k _ e=>hr k e)
theorem Kp.av (h:Kp J B S W W1 S1) (hx:Ext w W)(hS:∀ k,S k->w.heap.size<=k):Ext w W1:=hx.frm h.frm (fun k hk hs=>by have:=hS k hs;omega)
theorem Kp.blk (h:Kp J B S W W1 S1)   (hb:Blk W g t cs)(hS:¬ S g):Blk W1 g t cs∧¬ S1 g:=⟨hb.frm h.frm hS,h.out hb.lt hS⟩
theorem Kp.row (h:Kp J B S W W1 S1) {size:Nat}   (ho:W.ownsRow base e size v n xs)(hS:∀ b,v.ownBlock=some b->¬ S b):W1.ownsRow base e size v n xs∧∀ b,v.ownBlock=some b->¬ S1 b:=
 ⟨zf ho h.frm hS,fun b hb=>h.out (ho.lt b hb).2 (hS b hb)⟩
theorem zbx.fresh (hJ:zbx.Ok b0 J)(h:J B W S) (hk:W.heap.size<=k):¬ S k:=fun hs=>by have:=hJ.lt h k hs;omega
end
section
open Go.Maps
structure KeyG {α:Type} (mt kt:TypeId) (val:α->Value) (lit:α->Lit) (dom:α->Prop):Prop where
 keyed:Keyed Tryz.prog kt
 und:Tryz.prog.underlying mt=some (.map kt 3)
 key:∀ {x:α},dom x->keyOf Tryz.prog kt (val x)=some (lit x)
 inj:∀ {x y:α},dom x->dom y->lit x=lit y->x=y
theorem zeroG (w:World):(zeroValue 3).run Tryz.prog w=.ok (.int .i64 0) w:=kM
theorem wfG (h:x<1152921504606846976):(Lit.int .i64 (x:Int)).wf=true:=WalkArith.wf_i64 oM
section
variable {α:Type} {mt kt:TypeId} {val:α->Value} {lit:α->Lit} {dom:α->Prop}
def zeq (kt:TypeId) (lit:α->Lit) (dom:α->Prop) (w:World) (b n:Nat) (M:α->Option Nat):Prop:=
 ∃ D:DataW Unit,w.ownsMap Tryz.prog kt (plainElem Tryz.prog 3) b n D∧∀ x,dom x->Maps.has D (lit x)=(M x).isSome∧∀ v,M x=some v->D.atKey (lit x) (.lit (.int .i64 0))=.lit (.int .i64 (v:Int))
open Classical in
noncomputable def updG (M:α->Option Nat) (x:α) (v:Nat):α->Option Nat:=fun y=>if y=x then some v else M y
theorem zig (M:α->Option Nat) (x:α) (v:Nat):updG M x v x=some v:=by unfold updG;rw [if_pos rfl]
theorem updG_ne (M:α->Option Nat) {x y:α} (v:Nat)(h:y≠x):updG M x v y=M y:=by unfold updG;rw [if_neg h]
theorem zeq.made (w:World):zeq kt lit dom (w.alloc (.map #[] 0)) w.heap.size 0 (fun _=>none):=
 ⟨.map [],World.ownsMap_made _ _ _ _,fun x hx=>⟨rfl,fun v hv=>by cases hv⟩⟩
section
variable {w w':World} {b n:Nat} {M:α->Option Nat}
theorem zeq.lt (h:zeq kt lit dom w b n M):b<w.heap.size:=by
 obtain⟨D,h,_⟩:=h;exact h.lt
theorem zeq.frm (h:zeq kt lit dom w b n M)(hf:Frm S w w')(hS:¬ S b):zeq kt lit dom w' b n M:=by
 obtain⟨D,⟨d,a,c,r⟩,hx⟩:=h;exact⟨D,⟨d,a,(hf.block b (Array.getElem?_eq_some_iff.1 c).1 hS).trans c,r⟩,hx⟩
theorem zeq.ext (h:zeq kt lit dom w b n M)(hx:Ext w w'):zeq kt lit dom w' b n M:=h.frm hx id
theorem zeq.far (h:zeq kt lit dom w b n M)   (hg:Blk w g t cs):g≠b:=by
 rintro rfl;obtain⟨D,⟨d,c,a,_⟩,_⟩:=h;unfold Blk at hg;rw [hg] at a;injection a with a
 cases a
theorem zeq.aj (h:zeq kt lit dom w b n M)   {size:Nat}  (ho:w.ownsRow base e size v k xs):v.ownBlock≠some b:=by
 intro hv;obtain⟨D,⟨j,c,a,_⟩,_⟩:=h;rcases ho.2 with ⟨rfl,_⟩|⟨g,d,f,rfl,_,i,_⟩
 ·simp [Value.ownBlock] at hv
 ·have hg:g=b:=by simpa [Value.ownBlock] using hv
  subst hg;rw [i] at a;injection a with a
  cases a
end
variable (w:World) {ops:Array Oper} {rest:List Oper} {o:Oper} {a:Act} {Q:Exit->Act->World->Prop}
theorem ziD (K:KeyG mt kt val lit dom)(hg:o.guard=none) (m x v:Operand)(hop:o.op=Op.mapUpdate mt m x v∨o.op=Op.insert mt m x v)  {M:α->Option Nat}
  (hm:a.eval m=.map (some b)) (h:zeq kt lit dom w b n M) (hn:n<1152921504606846976) (key:α) (v9:Nat) (hx:a.eval x=val key) (hv:a.eval v=.int .i64 (v9:Int)) (hk:dom key) (hv9:v9<1152921504606846976)
  (hK:∀ w',zeq kt lit dom w' b (n+1) (updG M key v9)->w.grownBy w' (some b)->wpList Tryz.prog ops Q rest (a.put o.dst undef) w'):wpList Tryz.prog ops Q (o :: rest) a w:=by
 refine wpList_plain hg fun K' hK'=>?_;obtain⟨D,zkf,i⟩:=h;have c:=K.key hk;obtain⟨w',g,j,k⟩:=zkf.update K.keyed K.und lM c (plainElem_int (H:=Unit) Tryz.underlying3 (wfG hv9));have d:zeq kt lit dom w' b (n+1) (updG M key v9):=⟨_,j,fun y hy=>by
  unfold updG
  by_cases e:y=key
  ·subst e;rw [if_pos rfl];exact⟨has_put_same zkf.isMap (K.keyed.key c) _,fun u hu=>by rw [atKey_put_same zkf.isMap (K.keyed.key c)];cases hu;rfl⟩
  ·have f:lit y≠lit key:=fun h=>e (K.inj hy hk h);rw [if_neg e,has_put_other f,atKey_put_other f];exact i y hy⟩
 unfold Oper.wp;rcases hop with hop|hop
 all_goals
  simp [execOp,hop,hm,hx,hv,g,Result.andThen];exact hK' _ _ (hK w' d k)
theorem zcV (K:KeyG mt kt val lit dom)(hg:o.guard=none) (m x:Operand)(hop:o.op=Op.lookup mt m x true)  {M:α->Option Nat}
  (hm:a.eval m=.map (some b)) (h:zeq kt lit dom w b n M) (key:α) (hx:a.eval x=val key) (hk:dom key)
  (hK:∀ c:Int,(∀ v,M key=some v->c=(v:Int))->wpList Tryz.prog ops Q rest (a.put o.dst (.tuple #[c,.bool (M key).isSome])) w):wpList Tryz.prog ops Q (o :: rest) a w:=by
 obtain⟨D,zkf,d⟩:=h;refine wpList_lookup_own_ok_int w hg m x _ hop kt 3 .i64 K.keyed K.und Tryz.underlying3 (zeroG w) b n D hm zkf _ _ hx (K.key hk) ?_;intro c hat _;rw [(d key hk).1];exact hK c (fun v hv=>by
  have:=(d key hk).2 v hv;rw [this] at hat;injection hat with hat
  injection hat with _ hat
  exact hat.symm)
end
end
def zcF (w:List Nat):Nat:=w.foldl (fun v l=>v*7+(l+1)) 0
theorem zaI (w:List Nat) (l:Nat):zcF (w++[l])=zcF w*7+(l+1):=by simp [zcF]
theorem zgi:zcF []=0:=rfl
theorem zY {α:Type} (w:List α):w=[]∨∃ u l,w=u++[l]:=by
 rcases List.eq_nil_or_concat w with h|⟨u,l,h⟩
 ·exact Or.inl h
 ·exact Or.inr ⟨u,l,by simpa using h⟩
theorem zke:∀ (n:Nat) (u v:List Nat),u.length<=n->(∀ l∈u,l<6)->(∀ l∈v,l<6)->zcF u=zcF v->u=v:=by
 intro n
 induction n with
 |zero =>
  intro u v hu _ _ h;obtain rfl:u=[]:=eJ oM;rcases zY v with rfl|⟨v,m,rfl⟩
  ·rfl
  ·rw [zaI,zgi] at h;omega
 |succ n ih =>
  intro u v hu h1 h2 h;rcases zY u with rfl|⟨u,l,rfl⟩
  ·rcases zY v with rfl|⟨v,m,rfl⟩
   ·rfl
   ·rw [zaI,zgi] at h;omega
  ·rcases zY v with rfl|⟨v,m,rfl⟩
   ·rw [zaI,zgi] at h;omega
   ·have c:=h1 l sM;have d:=h2 m sM;rw [zaI,zaI] at h;have a:l=m:=oM;have b:zcF u=zcF v:=oM;simp only [eK,eY] at hu;rw [a,ih u v oM (fun x hx=>h1 x (by simp [hx])) (fun x hx=>h2 x (by simp [hx])) b]
inductive zbe (d:Nat->Nat->List Nat) (start:List Nat):List Nat->Nat->Prop where
 |nil {x:Nat} (h:x∈start):zbe d start [] x
 |snoc {w:List Nat} {l n x:Nat} (h:zbe d start w n) (hx:x∈d n l):zbe d start (w++[l]) x
theorem zbe.inv {d:Nat->Nat->List Nat} {w:List Nat} (h:zbe d start (w++[l]) x):∃ n,zbe d start w n∧x∈d n l:=by
 generalize hv:w++[l]=v at h;cases h with
 |nil _=>simp at hv
 |@snoc w' l' n _ h hx =>
  have:=List.append_inj' hv rfl;obtain⟨rfl,a⟩:=this;simp at a;subst a;exact⟨n,h,hx⟩
theorem zbe.ah {d:Nat->Nat->List Nat}  (h:zbe d start [] x):x∈start:=by
 generalize hv:([]:List Nat)=v at h;cases h with
 |nil h=>exact h
 |snoc _ _=>simp at hv
def visN (st:List Bool × List Nat) (n:Nat):List Bool × List Nat:=if st.1.getD n true then st else (st.1.set n true,st.2++[n])
def vis (S:List Bool) (ns:List Nat):List Bool × List Nat:=ns.foldl visN (S,[])
theorem vis_snoc (S:List Bool) (ns:List Nat) (n:Nat):vis S (ns++[n])=visN (vis S ns) n:=by simp [vis]
theorem zho (S:List Bool) (ns:List Nat)(hn:∀ n∈ns,n<S.length) :
  (vis S ns).1.length=S.length∧(∀ x,x<S.length->((vis S ns).1.getD x true=true↔S.getD x true=true∨x∈ns))∧(∀ x,x∈(vis S ns).2↔x∈ns∧S.getD x true=false):=by
 have j:∀ k,k<=ns.length->(vis S (ns.take k)).1.length=S.length∧(∀ x,x<S.length->((vis S (ns.take k)).1.getD x true=true↔S.getD x true=true∨x∈ns.take k))∧(∀ x,x∈(vis S (ns.take k)).2↔x∈ns.take k∧S.getD x true=false):=by
  intro k
  induction k with
  |zero=>intro _;exact⟨rfl,fun x _=>by simp [vis],fun x=>by simp [vis]⟩
  |succ k ih =>
   intro hk;obtain⟨g,d,f⟩:=ih oM;have hx:ns[k]?=some ns[k]:=dH oM;have c:=hn ns[k] (gI _);rw [eG,hx];simp only [e8];generalize ns[k]=n at *;rw [vis_snoc];generalize vis S (ns.take k)=m at *;obtain⟨T,o⟩:=m;simp only at g d f;unfold visN;simp only;cases hT:T.getD n true
   ·have a:=d n c;rw [hT] at a;have i:S.getD n true=false:=by cases h:S.getD n true<;>simp_all
    have l:n∉ns.take k:=fun h=>by simp [h] at a
    refine⟨by simp [g],fun x hx=>?_,fun x=>?_⟩
    ·simp only [jX,if_false,eE,iU,fN]
     by_cases e:x=n
     ·subst e;rw [List.getElem?_set_self oM];simp
     ·rw [List.getElem?_set_ne oM];have:=d x hx;rw [eE,eE] at this;simp only [e,or_false];exact this
    ·simp only [jX,if_false,iU,fN];constructor
     ·rintro (h|rfl)
      ·exact⟨Or.inl ((f x).1 h).1,((f x).1 h).2⟩
      ·exact⟨Or.inr rfl,i⟩
     ·rintro ⟨h|rfl,b⟩
      ·exact Or.inl ((f x).2 ⟨h,b⟩)
      ·exact Or.inr rfl
   ·refine⟨g,fun x hx=>?_,fun x=>?_⟩
    ·simp only [if_true,iU,fN];rw [d x hx];have a:=(d n c).1 hT;constructor
     ·rintro (h|h)
      ·exact Or.inl h
      ·exact Or.inr (Or.inl h)
     ·rintro (h|h|rfl)
      ·exact Or.inl h
      ·exact Or.inr h
      ·exact a
    ·simp only [if_true,iU,fN];rw [f x];have a:=(d n c).1 hT;constructor
     ·rintro ⟨h,b⟩;exact⟨Or.inl h,b⟩
     ·rintro ⟨h|rfl,b⟩
      ·exact⟨h,b⟩
      ·rcases a with h|h
       ·rw [h] at b;cases b
       ·exact⟨h,b⟩
 have:=j ns.length (dI _);rwa [fB] at this
structure Stp where
 parent:Int
 letter:Nat
 nodes:List Nat
structure Bfs (d:Nat->Nat->List Nat) (start:List Nat) (goal:Nat->Bool) (L:List Nat) (N:Nat) (S:List Bool) (st:List Stp) (ws:List (List Nat)) (i j:Nat):Prop where
 len:S.length=N
 wl:ws.length=st.length
 small:∀ (k:Nat) (p:Stp),st[k]?=some p->∀ x∈p.nodes,x<N
 some_:∀ (k:Nat) (p:Stp),st[k]?=some p->p.nodes≠[]
 word:∀ (k:Nat) (p:Stp),st[k]?=some p->(k=0∧p.parent = -1∧ws.getD k []=[])∨(∃ a b:Nat,p.parent=(a:Int)∧a<k∧(a<i∨a=i∧b<j)∧L[b]?=some p.letter∧ws.getD k []=ws.getD a []++[p.letter])
 goes:∀ (k:Nat) (p:Stp),st[k]?=some p->∀ x∈p.nodes,zbe d start (ws.getD k []) x
 incr:∀ a b:Nat,a<b->b<st.length->zcF (ws.getD a [])<zcF (ws.getD b [])
 seen:∀ x,x<N->(S.getD x true=true↔∃ (k:Nat) (p:Stp),st[k]?=some p∧x∈p.nodes)
 first:∀ x∈start,∃ (p:Stp),st[0]?=some p∧x∈p.nodes
 zero:∀ p,st[0]?=some p->ws.getD 0 []=[]
 proc:∀ (k:Nat) (p:Stp) (b l:Nat),st[k]?=some p->L[b]?=some l->(k<i∨k=i∧b<j)->∀ n∈p.nodes,∀ x∈d n l,∃ (k':Nat) (q:Stp),st[k']?=some q∧x∈q.nodes∧zcF (ws.getD k' [])<=zcF (ws.getD k []++[l])
 dull:∀ (k:Nat) (p:Stp),st[k]?=some p->∀ x∈p.nodes,goal x=false
section
variable {d:Nat->Nat->List Nat} {start:List Nat} {goal:Nat->Bool} {L:List Nat} {N:Nat} {S:List Bool} {st:List Stp} {ws:List (List Nat)} {i j:Nat}
def Rise (L:List Nat):Prop:=(∀ l∈L,l<6)∧∀ (a b x y:Nat),L[a]?=some x->L[b]?=some y->a<b->x<y
theorem Bfs.before (h:Bfs d start goal L N S st ws i j) {V:Nat}(hV:∀ (k:Nat) (p:Stp) (b l:Nat),st[k]?=some p->L[b]?=some l->zcF (ws.getD k []++[l])<V->(k<i∨k=i∧b<j)) :
  ∀ (m:Nat) (v:List Nat),v.length<=m->(∀ l∈v,l∈L)->zcF v<V->∀ x,zbe d start v x->∃ (k:Nat) (p:Stp),st[k]?=some p∧x∈p.nodes∧zcF (ws.getD k [])<=zcF v:=by
 intro m
 induction m with
 |zero =>
  intro v hv _ _ x hx;obtain rfl:v=[]:=eJ oM;obtain⟨p,a,c⟩:=h.first x hx.ah
  exact⟨0,p,a,c,by rw [h.zero p a];exact dI _⟩
 |succ m ih =>
  intro v hv hl hlt x hx;rcases zY v with rfl|⟨u,l,rfl⟩
  ·obtain⟨p,a,c⟩:=h.first x hx.ah
   exact⟨0,p,a,c,by rw [h.zero p a];exact dI _⟩
  ·obtain⟨n,z,s⟩:=hx.inv;simp only [eK,eY] at hv;have o:=hl l sM;obtain⟨b,y⟩:=eU o;rw [zaI] at hlt;obtain⟨k,p,a,r,D⟩:=ih u oM (fun x hx=>hl x (by simp [hx])) oM n z;have f:zcF (ws.getD k []++[l])<V:=by rw [zaI];omega
   obtain⟨C,q,B,t,g⟩:=h.proc k p b l a y (hV k p b l a y f) n r x s;exact⟨C,q,B,t,by rw [zaI] at g ⊢;omega⟩
theorem Bfs.none (h:Bfs d start goal L N S st ws i j)(hend:st.length<=i) {v:List Nat}(hv:∀ l∈v,l∈L) (hx:zbe d start v x):goal x=false:=by
 by_cases hst:st=[]
 ·subst hst;exfalso;have:∀ (m:Nat) (v:List Nat),v.length<=m->∀ x,¬ zbe d start v x:=by
   intro m
   induction m with
   |zero =>
    intro v hv x hx;obtain rfl:v=[]:=eJ oM;obtain⟨p,a,_⟩:=h.first x hx.ah
    simp at a
   |succ m ih =>
    intro v hv x hx;rcases zY v with rfl|⟨u,l,rfl⟩
    ·obtain⟨p,a,_⟩:=h.first x hx.ah
     simp at a
    ·obtain⟨n,f,_⟩:=hx.inv;exact ih u (by simp at hv;omega) n f
  exact this v.length v (dI _) x hx
 ·obtain⟨k,p,a,c,_⟩:=h.before (V:=zcF v+1) (fun k p b l a hb _=>Or.inl (by have:=(List.getElem?_eq_some_iff.1 a).1;omega)) v.length v (dI _) hv oM x hx;exact h.dull k p a x c
theorem Bfs.ahead (h:Bfs d start goal L N S st ws i j)(hL:Rise L) (hi:i<st.length)(hl:L[j]?=some l) (hk:k<st.length):zcF (ws.getD k [])<zcF (ws.getD i []++[l]):=by
 rw [zaI];rcases h.word k _ (dH hk) with ⟨_,_,e⟩|⟨a,b,_,n,c,f,e⟩
 ·rw [e,zgi];omega
 ·rw [e,zaI];have o:=hL.1 _ (dG f);rcases c with g|⟨rfl,m⟩
  ·have:=h.incr a i g hi;omega
  ·have:=hL.2 b j _ _ f hl m;omega
theorem Bfs.taken (h:Bfs d start goal L N S st ws i j)(hL:Rise L) (hi:i<st.length)(hl:L[j]?=some l) (k:Nat) (p:Stp) (b m:Nat)(hp:st[k]?=some p)(hb:L[b]?=some m)(hlt:zcF (ws.getD k []++[m])<zcF (ws.getD i []++[l])):k<i∨k=i∧b<j:=by
 rw [zaI,zaI] at hlt;have f:=(List.getElem?_eq_some_iff.1 hp).1;have g:=hL.1 _ (dG hb);have n:=hL.1 _ (dG hl);rcases fQ k i with a|a|a
 ·exact Or.inl a
 ·subst a;refine Or.inr ⟨rfl,?_⟩;rcases fQ b j with c|c|c
  ·exact c
  ·subst c;rw [hb] at hl;have:=Option.some.inj hl;omega
  ·have:=hL.2 j b _ _ hl hb c;omega
 ·have:=h.incr i k a f;omega
theorem Bfs.found (h:Bfs d start goal L N S st ws i j)(hL:Rise L) (hi:i<st.length)(hl:L[j]?=some l) {v:List Nat}(hv:∀ x∈v,x∈L)(hlt:zcF v<zcF (ws.getD i []++[l])) (hx:zbe d start v x):goal x=false:=by
 obtain⟨k,p,a,c,_⟩:=h.before (fun k p b m a hb hlt=>h.taken hL hi hl k p b m a hb hlt) v.length v (dI _) hv hlt x hx;exact h.dull k p a x c
theorem Bfs.row (h:Bfs d start goal L N S st ws i j)(hj:L.length<=j):Bfs d start goal L N S st ws (i+1) 0:=
 { h with
  word:=fun k p hp=>by
   rcases h.word k p hp with h1|⟨a,b,h1,h2,h3,h4⟩
   ·exact Or.inl h1
   ·exact Or.inr ⟨a,b,h1,h2,oM,h4⟩
  proc:=fun k p b l hp hb hk=>by
   have hbl:=(List.getElem?_eq_some_iff.1 hb).1
   exact h.proc k p b l hp hb oM }
def addS (st:List Stp) (a:Int) (l:Nat) (fr:List Nat):List Stp:=if fr=[] then st else st++[⟨a,l,fr⟩]
def addW (ws:List (List Nat)) (w:List Nat) (fr:List Nat):List (List Nat):=if fr=[] then ws else ws++[w]
theorem zfN {ws:List (List Nat)}  (w:List Nat)(hk:k<ws.length):(ws++[w]).getD k []=ws.getD k []:=by
 rw [eE,eE,eH hk]
theorem zhB {ws:List (List Nat)} (w:List Nat):(ws++[w]).getD ws.length []=w:=by
 rw [eE,eN (dI _),iI];rfl
theorem Bfs.step (h:Bfs d start goal L N S st ws i j)(hL:Rise L)  {pi:Stp}(hi:st[i]?=some pi)(hl:L[j]?=some l) {rs:List Nat}(hrs:∀ x,x∈rs↔∃ n∈pi.nodes,x∈d n l)(hN:∀ x∈rs,x<N)(hg:∀ x∈(vis S rs).2,goal x=false) :
  Bfs d start goal L N (vis S rs).1 (addS st i l (vis S rs).2) (addW ws (ws.getD i []++[l]) (vis S rs).2) i (j+1):=by
 have M:=(List.getElem?_eq_some_iff.1 hi).1;obtain⟨Y,Z,Q⟩:=zho S rs (fun n E=>by rw [h.len];exact hN n E);generalize (vis S rs).1=T at *;generalize (vis S rs).2=J at *;have s:=fun k v=>h.ahead hL M hl (k:=k) v
 by_cases hfr:J=[]
 ·subst hfr;rw [addS,if_pos rfl,addW,if_pos rfl];have I:∀ x∈rs,S.getD x true=true:=fun x hx=>by
   cases hS:S.getD x true
   ·have:=(Q x).2 ⟨hx,hS⟩;cases this
   ·rfl
  refine { h with len:=Y.trans h.len,word:=?_,seen:=?_,proc:=?_ }
  ·intro k p c;rcases h.word k p c with f|⟨a,b,f,h2,h3,h4⟩
   ·exact Or.inl f
   ·exact Or.inr ⟨a,b,f,h2,oM,h4⟩
  ·intro x hx;rw [Z x (by rw [h.len];exact hx)];constructor
   ·rintro (f|f)
    ·exact (h.seen x hx).1 f
    ·exact (h.seen x hx).1 (I x f)
   ·intro f;exact Or.inl ((h.seen x hx).2 f)
  ·intro k p b m c hb v n E x hx
   by_cases hkj:k=i∧b=j
   ·obtain⟨rfl,rfl⟩:=hkj;rw [hi] at c;obtain rfl:=Option.some.inj c;rw [hl] at hb;obtain rfl:=Option.some.inj hb;have z:=(hrs x).2 ⟨n,E,hx⟩;obtain⟨F,q,H,y⟩:=(h.seen x (hN x z)).1 (I x z);exact⟨F,q,H,y,Nat.le_of_lt (s F (List.getElem?_eq_some_iff.1 H).1)⟩
   ·exact h.proc k p b m c hb oM n E x hx
 ·rw [addS,if_neg hfr,addW,if_neg hfr];have g:∀ {k:Nat} {p:Stp},(st++[(⟨i,l,J⟩:Stp)])[k]?=some p->(k<st.length∧st[k]?=some p)∨(k=st.length∧p=⟨i,l,J⟩):=by
   intro k p c;rcases fQ k st.length with v|v|v
   ·rw [eH v] at c;exact Or.inl ⟨v,c⟩
   ·rw [eN oM,v,iI] at c;exact Or.inr ⟨v,(Option.some.inj c).symm⟩
   ·rw [eR (by simp;omega)] at c;cases c
  have r:∀ {k:Nat} {p:Stp},st[k]?=some p->(st++[(⟨i,l,J⟩:Stp)])[k]?=some p:=fun {k p} c=>by
   rw [eH (List.getElem?_eq_some_iff.1 c).1];exact c
  have G:(st++[(⟨i,l,J⟩:Stp)])[st.length]?=some ⟨i,l,J⟩:=by rw [eN (dI _),iI];rfl
  have O:=h.wl;have o:∀ k,k<st.length->(ws++[ws.getD i []++[l]]).getD k []=ws.getD k []:=fun k v=>zfN _ oM;have C:(ws++[ws.getD i []++[l]]).getD st.length []=ws.getD i []++[l]:=by rw [← O];exact zhB _
  have u:∀ x∈J,x∈rs∧S.getD x true=false:=fun x hx=>(Q x).1 hx;refine⟨Y.trans h.len,by simp [O],?_,?_,?_,?_,?_,?_,?_,?_,?_,?_⟩
  ·intro k p c x hx;rcases g c with ⟨_,f⟩|⟨_,rfl⟩
   ·exact h.small k p f x hx
   ·exact hN x (u x hx).1
  ·intro k p c;rcases g c with ⟨_,f⟩|⟨_,rfl⟩
   ·exact h.some_ k p f
   ·exact hfr
  ·intro k p c;rcases g c with ⟨B,f⟩|⟨rfl,rfl⟩
   ·rcases h.word k p f with ⟨e0,R,U⟩|⟨a,b,R,U,e3,e4,e5⟩
    ·exact Or.inl ⟨e0,R,by rw [o k B];exact U⟩
    ·exact Or.inr ⟨a,b,R,U,oM,e4,by rw [o k B,o a oM];exact e5⟩
   ·exact Or.inr ⟨i,j,rfl,M,Or.inr ⟨rfl,oM⟩,hl,by rw [C,o i M]⟩
  ·intro k p c x hx;rcases g c with ⟨B,f⟩|⟨rfl,rfl⟩
   ·rw [o k B];exact h.goes k p f x hx
   ·rw [C];obtain⟨n,E,X⟩:=(hrs x).1 (u x hx).1;exact .snoc (h.goes i pi hi n E) X
  ·intro a b hab hb;simp only [eK,eY] at hb
   by_cases hbl:b<st.length
   ·rw [o a oM,o b hbl];exact h.incr a b hab hbl
   ·obtain rfl:b=st.length:=oM;rw [o a hab,C];exact s a hab
  ·intro x hx;rw [Z x (by rw [h.len];exact hx)];constructor
   ·rintro (f|f)
    ·obtain⟨k,p,c,t⟩:=(h.seen x hx).1 f;exact⟨k,p,r c,t⟩
    ·cases hS:S.getD x true
     ·exact⟨_,_,G,(Q x).2 ⟨f,hS⟩⟩
     ·obtain⟨k,p,c,t⟩:=(h.seen x hx).1 hS;exact⟨k,p,r c,t⟩
   ·rintro ⟨k,p,c,t⟩;rcases g c with ⟨_,f⟩|⟨_,rfl⟩
    ·exact Or.inl ((h.seen x hx).2 ⟨k,p,f,t⟩)
    ·exact Or.inr (u x t).1
  ·intro x hx;obtain⟨p,c,t⟩:=h.first x hx
   exact⟨p,r c,t⟩
  ·intro p c;rcases g c with ⟨B,f⟩|⟨B,_⟩
   ·rw [o 0 B];exact h.zero p f
   ·omega
  ·intro k p b m c hb v n E x hx;rcases g c with ⟨B,f⟩|⟨rfl,rfl⟩
   ·rw [o k B]
    by_cases hkj:k=i∧b=j
    ·obtain⟨rfl,rfl⟩:=hkj;rw [hi] at f;obtain rfl:=Option.some.inj f;rw [hl] at hb;obtain rfl:=Option.some.inj hb;have z:=(hrs x).2 ⟨n,E,hx⟩;cases hS:S.getD x true
     ·exact⟨_,_,G,(Q x).2 ⟨z,hS⟩,by rw [C];exact dI _⟩
     ·obtain⟨F,q,H,y⟩:=(h.seen x (hN x z)).1 hS;have D:=(List.getElem?_eq_some_iff.1 H).1;exact⟨F,q,r H,y,by rw [o F D];exact Nat.le_of_lt (s F D)⟩
    ·obtain⟨F,q,H,y,V⟩:=h.proc k p b m f hb oM n E x hx;have D:=(List.getElem?_eq_some_iff.1 H).1;exact⟨F,q,r H,y,by rw [o F D];exact V⟩
   ·omega
  ·intro k p c x hx;rcases g c with ⟨_,f⟩|⟨_,rfl⟩
   ·exact h.dull k p f x hx
   ·exact hg x hx
theorem Bfs.begin_ {d:Nat->Nat->List Nat}  {goal:Nat->Bool} {L:List Nat} (hN:∀ x∈start,x<N)(hg:∀ x∈(vis (eQ N false) start).2,goal x=false) :
  Bfs d start goal L N (vis (eQ N false) start).1 (addS [] (-1) 0 (vis (eQ N false) start).2) (addW [] [] (vis (eQ N false) start).2) 0 0:=by
 obtain⟨r,s,t⟩:=zho (eQ N false) start (fun n hn=>by simpa using hN n hn);have o:∀ x,x<N->(eQ N false).getD x true=false:=fun x hx=>by simp [eE,hx]
 generalize (vis (eQ N false) start).1=T at *;generalize (vis (eQ N false) start).2=i at *;have g:∀ x,x∈i↔x∈start:=fun x=>(t x).trans ⟨fun h=>h.1,fun h=>⟨h,o x (hN x h)⟩⟩;have m:∀ x,x<N->(T.getD x true=true↔x∈start):=fun x hx=>by
  rw [s x (by simpa using hx),o x hx];simp
 by_cases he:i=[]
 ·subst he;rw [addS,if_pos rfl,addW,if_pos rfl];have q:∀ x,x∉start:=fun x hx=>by have:=(g x).2 hx;cases this
  refine⟨by simpa using r,rfl,fun k p c=>by simp at c,fun k p c=>by simp at c,fun k p c=>by simp at c,fun k p c=>by simp at c,fun a b _ hb=>by simp at hb,fun x hx=>?_,fun x hx=>absurd hx (q x),fun p c=>by simp at c,fun k p b l c=>by simp at c,fun k p c=>by simp at c⟩;rw [m x hx];exact⟨fun h=>absurd h (q x),fun ⟨k,p,c,_⟩=>by simp at c⟩
 ·rw [addS,if_neg he,addW,if_neg he];have f:∀ {k:Nat} {p:Stp},([]++[(⟨-1,0,i⟩:Stp)])[k]?=some p->k=0∧p=⟨-1,0,i⟩:=by
   intro k p c;cases k with
   |zero=>exact⟨rfl,by simpa using c.symm⟩
   |succ k=>simp at c
  refine⟨by simpa using r,rfl,?_,?_,?_,?_,?_,?_,?_,?_,?_,?_⟩
  ·intro k p c x hx;obtain⟨rfl,rfl⟩:=f c;exact hN x ((g x).1 hx)
  ·intro k p c;obtain⟨rfl,rfl⟩:=f c;exact he
  ·intro k p c;obtain⟨rfl,rfl⟩:=f c;exact Or.inl ⟨rfl,rfl,rfl⟩
  ·intro k p c x hx;obtain⟨rfl,rfl⟩:=f c;exact .nil ((g x).1 hx)
  ·intro a b hab hb;simp at hb;omega
  ·intro x hx;rw [m x hx];constructor
   ·intro h;exact⟨0,_,rfl,(g x).2 h⟩
   ·rintro ⟨k,p,c,j⟩;obtain⟨rfl,rfl⟩:=f c;exact (g x).1 j
  ·intro x hx;exact⟨_,rfl,(g x).2 hx⟩
  ·intro p _;rfl
  ·intro k p b l c _ hk;omega
  ·intro k p c x hx;obtain⟨rfl,rfl⟩:=f c;exact hg x hx
end
theorem visN_cnt (st:List Bool × List Nat) (n:Nat):(visN st n).1.count true+st.2.length=st.1.count true+(visN st n).2.length:=by
 unfold visN;cases h:st.1.getD n true
 ·have b:n<st.1.length:=by
   rcases fM n st.1.length with a|a
   ·exact a
   ·rw [eE,eR a] at h;cases h
  have c:st.1[n]=false:=by rw [eE,dH b] at h;exact h
  simp only [jX,if_false];rw [List.count_set b,c];simp;omega
 ·simp
theorem foldl_cnt (ns:List Nat) (st:List Bool × List Nat):(ns.foldl visN st).1.count true+st.2.length=st.1.count true+(ns.foldl visN st).2.length:=by
 induction ns generalizing st with
 |nil=>rfl
 |cons n r ih =>
  have a:=ih (visN st n);have b:=visN_cnt st n;rw [jP];omega
theorem vis_cnt (S:List Bool) (ns:List Nat):(vis S ns).1.count true=S.count true+(vis S ns).2.length:=by
 have:=foldl_cnt ns (S,[]);simpa [vis] using this
def Cnt (S:List Bool) (st:List Stp):Prop:=(st.map fun p=>p.nodes.length).sum=S.count true
theorem Cnt.add {S:List Bool} {st:List Stp}(h:Cnt S st) (a:Int) (l:Nat) (ns:List Nat):Cnt (vis S ns).1 (addS st a l (vis S ns).2):=by
 unfold Cnt at h ⊢;rw [vis_cnt,addS]
 by_cases he:(vis S ns).2=[]
 ·rw [if_pos he,he,h];rfl
 ·rw [if_neg he];simp [h]
theorem Cnt.nil (N:Nat):Cnt (eQ N false) []:=by
 unfold Cnt;simp [List.count_replicate]
theorem sum_len {l:List Nat}(h:∀ x∈l,1<=x):l.length<=l.sum:=by
 induction l with
 |nil=>simp
 |cons x r ih =>
  have a:=ih (fun y hy=>h y (by simp [hy]));have b:=h x sM;simp;omega
theorem sum_mem {l:List Nat} (h:x∈l):x<=l.sum:=by
 induction l with
 |nil=>cases h
 |cons y r ih =>
  rcases List.mem_cons.1 h with rfl|h
  ·simp
  ·have:=ih h;simp;omega
theorem Cnt.steps {S:List Bool} {st:List Stp}(h:Cnt S st)(hs:∀ (k:Nat) (p:Stp),st[k]?=some p->p.nodes≠[]):st.length<=S.length:=by
 unfold Cnt at h;have a:(st.map fun p=>p.nodes.length).length<=(st.map fun p=>p.nodes.length).sum:=sum_len (fun x hx=>by
  obtain⟨p,c,rfl⟩:=List.mem_map.1 hx;obtain⟨k,b⟩:=eU c;have:=hs k p b;have:=List.length_pos_iff.2 this;omega)
 rw [List.length_map,h] at a;exact eI a List.count_le_length
theorem Cnt.nodes {S:List Bool} {st:List Stp}(h:Cnt S st)  {p:Stp}(hp:st[k]?=some p):p.nodes.length<=S.length:=by
 unfold Cnt at h;have a:=sum_mem (List.mem_map.2 ⟨p,dG hp,rfl⟩:p.nodes.length∈st.map fun p=>p.nodes.length);rw [h] at a;exact eI a List.count_le_length
def reach (d:Nat->Nat->List Nat) (l:Nat) (ns:List Nat):List Nat:=(ns.map fun n=>d n l).flatten
theorem zhM {d:Nat->Nat->List Nat}   :x∈reach d l ns↔∃ n∈ns,x∈d n l:=by
 unfold reach;rw [List.mem_flatten];exact⟨fun ⟨ys,h1,h2⟩=>by obtain⟨n,a,rfl⟩:=List.mem_map.1 h1;exact⟨n,a,h2⟩,fun ⟨n,a,h2⟩=>⟨_,List.mem_map.2 ⟨n,a,rfl⟩,h2⟩⟩
theorem reach_snoc (d:Nat->Nat->List Nat) (l:Nat) (ns:List Nat) (n:Nat):reach d l (ns++[n])=reach d l ns++d n l:=by simp [reach]
theorem reach_take {d:Nat->Nat->List Nat}  (h:ns[k]?=some n):reach d l (ns.take (k+1))=reach d l (ns.take k)++d n l:=by
 rw [eG,h];exact reach_snoc _ _ _ _
theorem reach_len {d:Nat->Nat->List Nat} {D:Nat} (h:∀ n∈ns,(d n l).length<=D):(reach d l ns).length<=ns.length*D:=by
 induction ns with
 |nil=>simp [reach]
 |cons n r ih =>
  have a:=ih (fun x hx=>h x (by simp [hx]));have b:=h n sM;simp only [reach,gZ,List.flatten_cons,eK,gJ,jQ,kC] at a ⊢;omega
def Found (d:Nat->Nat->List Nat) (start:List Nat) (goal:Nat->Bool) (L:List Nat) (v:List Nat):Prop:=
 (∀ l∈v,l∈L)∧(∃ x,zbe d start v x∧goal x=true)∧∀ u,(∀ l∈u,l∈L)->zcF u<zcF v->∀ x,zbe d start u x->goal x=false
def Lost (d:Nat->Nat->List Nat) (start:List Nat) (goal:Nat->Bool) (L:List Nat):Prop:=∀ v,(∀ l∈v,l∈L)->∀ x,zbe d start v x->goal x=false
def E (es:List Edg) (i l k:Nat):Prop:=∃ e∈es,e.fr=i∧e.le=l∧e.ta=k
def rel (R:List Nat) (i j:Nat):Prop:=i<R.length∧(R.getD i 0).testBit j=true
def succ (es:List Edg) (i l:Int):Nat:=es.foldl (fun m e=>if e.fr=i∧e.le=l then m|||2 ^ e.ta.toNat else m) 0
theorem succ_snoc (es:List Edg) (e:Edg) (i l:Int):succ (es++[e]) i l=if e.fr=i∧e.le=l then succ es i l|||2 ^ e.ta.toNat else succ es i l:=by
 simp [succ]
theorem and_pred (k m:Nat):(2 ^ k*(2*m+1))&&&(2 ^ k*(2*m+1) - 1)=2 ^ k*(2*m):=by
 have c:=kP k;have e:2 ^ k*(2*m+1) - 1=2 ^ k*(2*m)+(2 ^ k - 1):=by rw [Nat.mul_add,jK];omega
 rw [e];apply gY;intro i;have a:∀ q,(2 ^ k*q).testBit i=if i<k then false else q.testBit (i - k):=fun q=>by
  have:=jJ q (b:=0) (i:=k) c i;rw [iP] at this;rw [this,jM]
 rw [iE,a,jJ _ oM,a]
 by_cases hi:i<k
 ·simp [hi]
 ·simp only [hi,if_false];cases hd:i - k with
  |zero=>simp [Nat.testBit_zero]
  |succ d=>rw [jW,jW,show (2*m+1) / 2=m by omega,show (2*m) / 2=m by omega];simp
theorem lowest (h0:x≠0)(hs:Sm x):∃ k,Lib.ctz 64 x=k∧k<32∧x.testBit k=true∧(∀ i,i<k->x.testBit i=false)∧x&&&(x - 1)=x - 2 ^ k∧2 ^ k<=x:=by
 have hx:=hs.lt;obtain⟨m,a,g⟩:=Lib.ctzFrom_spec 64 x oM oM;have e:Lib.ctz 64 x=Lib.ctzFrom 64 x:=by simp [Lib.ctz,h0]
 generalize Lib.ctzFrom 64 x=k at *;have f:=kP k;have c:2 ^ k<=x:=by rw [a];exact Nat.le_mul_of_pos_right _ oM
 have d:∀ q i,(2 ^ k*q).testBit i=if i<k then false else q.testBit (i - k):=fun q i=>by
  have:=jJ q (b:=0) (i:=k) f i;rw [iP] at this;rw [this,jM]
 refine⟨k,e,?_,?_,fun i hi=>?_,?_,c⟩
 ·apply Nat.lt_of_not_le;intro h32;have:=e6 (n:=2) oM h32;omega
 ·rw [a,d];simp
 ·rw [a,d];simp [hi]
 ·rw [a,and_pred,Nat.mul_add,jK,Nat.add_sub_cancel]
theorem zdh (h:x.testBit j=true)(hl:∀ i,i<j->x.testBit i=false) (k:Nat):(x - 2 ^ j).testBit k=(x.testBit k&&!decide (k=j)):=by
 have f:x / 2 ^ j % 2=1:=by
  have:=h;rw [kV] at this;simpa using this
 have g:=kP j;have l:x % 2 ^ j=0:=by
  apply gY;intro i;rw [Nat.testBit_mod_two_pow,jM]
  by_cases hi:i<j
  ·simp [hi,hl i hi]
  ·simp [hi]
 have a:=Nat.div_add_mod x (2 ^ j);rw [l,iP] at a;generalize x / 2 ^ j=q at *;have c:∀ q i,(2 ^ j*q).testBit i=if i<j then false else q.testBit (i - j):=fun q i=>by
  have:=jJ q (b:=0) (i:=j) g i;rw [iP] at this;rw [this,jM]
 have e:x - 2 ^ j=2 ^ j*(q - 1):=by rw [← a,Nat.mul_sub,jK]
 rw [e,← a,c,c]
 by_cases hk:k<j
 ·simp [hk]
 ·simp only [hk,if_false];obtain⟨d,rfl⟩:∃ d,k=j+d:=⟨k - j,oM⟩;rw [Nat.add_sub_cancel_left];cases d with
  |zero=>simp [Nat.testBit_zero];omega
  |succ d =>
   rw [jW,jW,show (q - 1) / 2=q / 2 by omega];simp
theorem zhJ (h:x.testBit k=true)(hl:∀ i,i<k->x.testBit i=false):∀ n,(n<=k->letters x n=[]∧letters (x - 2 ^ k) n=[])∧(k<n->letters x n=k :: letters (x - 2 ^ k) n)
 |0=>⟨fun _=>⟨rfl,rfl⟩,fun h=>oM⟩
 |n+1=>by
  have ih:=zhJ h hl n
  have hb:=zdh h hl n
  rw [zbo,zbo,hb]
  refine⟨fun hn=>?_,fun hn=>?_⟩
  ·obtain⟨e1,e2⟩:=ih.1 oM
   rw [e1,e2,hl n oM]
   simp
  ·rcases fM k n with h1|h1
   ·rw [ih.2 h1]
    have:n≠k:=oM
    simp [this]
   ·obtain⟨e1,e2⟩:=ih.1 h1
    obtain rfl:n=k:=oM
    rw [e1,e2,h]
    simp
theorem letters_step (h0:x≠0)(hs:Sm x):letters x 32=Lib.ctz 64 x :: letters (x&&&(x - 1)) 32∧x&&&(x - 1)<x∧Lib.ctz 64 x<32:=by
 obtain⟨k,e,a,c,d,b,f⟩:=lowest h0 hs;have g:=kP k;rw [e,b];exact⟨(zhJ c d 32).2 a,oM,a⟩
theorem impl_members (a:Nat)(hs:Sm a) (w:World)(hT:Tab w) :
  Calls Tryz.prog 155 #[a] w (zbI w (letters a 32)):=by
 have d:=zA a 32
 go_enter Tryz.func155,Tryz.ntmps155
 go_wp2
 go_loopw [0,3,4] (fun s v _ wr=>∃ x:Nat,s=.int .i64 x∧Sm x∧∃ o:List Nat,Hid (letters a 32=o++letters x 32)∧wr.ownsRow w.heap.size 3 1 v o.length (zac o)∧Ext w wr)
  (fun s _ _ _=>(intOf s).toNat)
 case atStart=>exact⟨a,rfl,hs,[],rfl,World.ownsRow_nil _ _ _ _,Ext.refl _⟩
 case round =>
  obtain⟨x,rfl,hx,o,k,zkf,h⟩:=hrel;have r:=hx.lt;have g:o.length+(letters x 32).length<=32:=by have:=k.out;rw [this,eK] at d;exact d
  by_cases h0:x=0
  ·subst h0;obtain⟨A,c,rfl⟩:=zi zkf;go_wp2;go_ret;have f:=k.out;rw [show letters 0 32=[] by decide,List.append_nil] at f;exact⟨A,c,by rw [f];rfl,by rw [f];exact zkf,h⟩
  ·obtain⟨j,hlt,t⟩:=letters_step h0 hx;have p:=za j;have q:((x:Int) != 0)=true:=by simp;omega
   have i:=hT.ext h;have l:=za (zbZ (a:=x) (b:=x - 1) hx tM);have n:o.length<32:=by rw [j] at g;simp at g;omega
   clear j d g;have m:=za (show ((x:Int) - 1)=((x - 1:Nat):Int) by omega);go_wp2_with (first
    |(go_at_call 229;refine (tz x oM h0 _ i).mono ?_;rintro e w' ⟨rfl,rfl⟩)
    |(at_builtin;refine zO w wr rfl (.tmp 10) (.tmp 14) _ rfl 3 _ 1 8 Tryz.underlying110 zae rfl dM u3 _ _ _ _ rfl rfl h zkf rfl (zbg _) lM oM ?_;intro v' w1 hext1 zko hg1 hat1))
   go_roundw
   case rel=>exact⟨x&&&(x - 1),by rw [m.out,l.out],j1 kO hx,o++[Lib.ctz 64 x],by have:=k.out;unfold Hid;rw [this,p.out];simp,by simpa [zac] using zko,aM⟩
   case measure =>
    have:=l.out;rw [← m.out] at this;simp [intOf];omega
theorem foldl_bit (es:List Edg) (p:Edg->Prop) [DecidablePred p] (m k:Nat):(es.foldl (fun m e=>if p e then m|||2 ^ e.ta.toNat else m) m).testBit k=true↔m.testBit k=true∨∃ e∈es,p e∧e.ta.toNat=k:=by
 induction es generalizing m with
 |nil=>simp
 |cons e r ih =>
  rw [jP,ih]
  by_cases hp:p e
  ·rw [if_pos hp,Nat.testBit_or,Nat.testBit_two_pow];simp only [Bool.or_eq_true,decide_eq_true_eq,List.mem_cons];constructor
   ·rintro ((h|h)|⟨c,a,b⟩)
    ·exact Or.inl h
    ·exact Or.inr ⟨e,Or.inl rfl,hp,h⟩
    ·exact Or.inr ⟨c,Or.inr a,b⟩
   ·rintro (h|⟨c,a|a,b⟩)
    ·exact Or.inl (Or.inl h)
    ·subst a;exact Or.inl (Or.inr b.2)
    ·exact Or.inr ⟨c,a,b⟩
  ·rw [if_neg hp];constructor
   ·rintro (h|⟨c,a,b⟩)
    ·exact Or.inl h
    ·exact Or.inr ⟨c,eZ _ a,b⟩
   ·rintro (h|⟨c,a,b⟩)
    ·exact Or.inl h
    ·rcases List.mem_cons.1 a with a|a
     ·subst a;exact absurd b.1 hp
     ·exact Or.inr ⟨c,a,b⟩
theorem zcU (es:List Edg) (i l:Int) (k:Nat):(succ es i l).testBit k=true↔∃ e∈es,(e.fr=i∧e.le=l)∧e.ta.toNat=k:=by
 have:=foldl_bit es (fun e=>e.fr=i∧e.le=l) 0 k;simpa [succ] using this
def Few (n:Nat) (es:List Edg):Prop:=∀ e∈es,(0<=e.fr∧e.fr<n)∧(0<=e.le∧e.le<6)∧(0<=e.ta∧e.ta<n)
theorem succ_lt {es:List Edg}(h:Few n es) (i l:Int):succ es i l<2 ^ n:=by
 apply kJ;intro k hk;rw [fT];intro hb;obtain⟨e,a,_,b⟩:=(zcU es i l k).1 hb;have:=h e a;omega
theorem succ_sm {es:List Edg}(h:Few n es)(hn:n<=16) (i l:Int):Sm (succ es i l):=
 eV (succ_lt h i l) (by rw [show (4294967296:Nat)=2 ^ 32 from rfl];exact e6 oM oM)
def diff (a b:Nat):Nat:=a ^^^ (a&&&b)
theorem zjv (a b k:Nat):(diff a b).testBit k=(a.testBit k&&!b.testBit k):=by
 unfold diff;rw [Nat.testBit_xor,iE];cases a.testBit k<;>cases b.testBit k<;>rfl
theorem diff_le (a b:Nat):diff a b<=a:=by
 apply Nat.le_of_testBit;intro k hk;rw [zjv] at hk;simp at hk;exact hk.1
theorem zef {a:Nat}:k∈letters a n↔k<n∧a.testBit k=true:=by simp [letters]
def cho (s:Sys) (i l:Nat):List Nat:=if s.al.toNat.testBit l then letters (succ s.edges i l) 32 else [i]
def nx:List Sys->Nat->Nat->List Nat × Nat × Nat
 |[],m,_=>([0],1,m)
 |s :: r,m,l=>((cho s ((nx r m l).2.2 % s.st.toNat) l).flatMap (fun q=>(nx r m l).1.map fun x=>q*(nx r m l).2.1+x),(nx r m l).2.1*s.st.toNat,(nx r m l).2.2 / s.st.toNat)
def Sml (s:Sys):Prop:=1<=s.st∧s.st<=16∧Few s.st.toNat s.edges∧0<=s.al∧s.al<=63
theorem zee (a k:Nat):(letters a k).Nodup:=List.Pairwise.filter _ List.nodup_range
theorem zD {a:Nat}:x∈letters a k↔x<k∧a.testBit x=true:=by simp [letters,List.mem_filter]
theorem ziK {s:Sys}(h:Sml s) (hi:i<s.st.toNat):∀ q∈cho s i l,q<s.st.toNat:=by
 intro q hq;unfold cho at hq
 split at hq
 ·have b:=(zD.1 hq).2;rcases fM q s.st.toNat with a|a
  ·exact a
  ·have:=kW (eV (succ_lt h.2.2.1 i l) (e6 oM a));rw [b] at this;cases this
 ·rw [List.mem_singleton.1 hq];exact hi
theorem cho_nodup (s:Sys) (i l:Nat):(cho s i l).Nodup:=by
 unfold cho;split
 ·exact zee _ _
 ·simp
theorem zhO {l:List Nat}(h:l.Nodup) {p:Nat}(hl:∀ x∈l,x<p):l.length<=p:=by
 have a:l ⊆ fW p:=fun x hx=>List.mem_range.2 (hl x hx);have:=List.Nodup.length_le_of_subset h a;simpa using this
theorem cho_len {s:Sys}(h:Sml s) (hi:i<s.st.toNat):(cho s i l).length<=s.st.toNat:=zhO (cho_nodup s i l) (ziK h hi)
theorem flat_nodup {l R:List Nat} {W:Nat}(hl:l.Nodup)(hR:R.Nodup)(hW:∀ x∈R,x<W):(l.flatMap fun q=>R.map fun x=>q*W+x).Nodup:=by
 induction l with
 |nil=>simp
 |cons a r ih =>
  rw [jB];rw [List.nodup_cons] at hl;refine List.nodup_append.2 ⟨?_,ih hl.2,?_⟩
  ·exact List.Pairwise.map _ (fun a b h=>by simpa using h) hR
  ·intro x hx y c hxy;subst hxy;obtain⟨u,m,rfl⟩:=List.mem_map.1 hx;obtain⟨b,j,c⟩:=List.mem_flatMap.1 c;obtain⟨v,n,k⟩:=List.mem_map.1 c;have g:=hW u m;have i:=hW v n;have:a=b:=by
    have d:(a*W+u) / W=a:=by rw [Nat.add_comm,j6 _ _ oM,jD g,eO]
    have f:(b*W+v) / W=b:=by rw [Nat.add_comm,j6 _ _ oM,jD i,eO]
    rw [← d,← f,k]
   subst this;exact hl.1 j
theorem zhj {ss:List Sys}(h:∀ s∈ss,Sml s) (m l:Nat):1<=(nx ss m l).2.1∧(nx ss m l).2.1<=16 ^ ss.length∧(∀ x∈(nx ss m l).1,x<(nx ss m l).2.1)∧(nx ss m l).1.Nodup∧(nx ss m l).2.2<=m:=by
 induction ss with
 |nil=>simp [nx]
 |cons s r ih =>
  obtain⟨f,g,d,i,j⟩:=ih fun s b=>h s (eZ _ b);have b:=h s List.mem_cons_self;have a:1<=s.st.toNat∧s.st.toNat<=16:=by have:=b.1;have:=b.2.1;omega
  refine⟨Nat.mul_pos f a.1,?_,fun x hx=>?_,flat_nodup (cho_nodup _ _ _) i d,eI (jF _ _) j⟩
  ·rw [nx,gJ,Nat.pow_succ];exact Nat.mul_le_mul g a.2
  ·rw [nx] at hx ⊢;obtain⟨q,k,hx⟩:=List.mem_flatMap.1 hx;obtain⟨y,n,rfl⟩:=List.mem_map.1 hx;have c:=ziK b (Nat.mod_lt _ a.1) q k;have o:=d y n
   calc q*(nx r m l).2.1+y<q*(nx r m l).2.1+(nx r m l).2.1:=oM
    _=(q+1)*(nx r m l).2.1:=by rw [jQ,kC]
    _<=s.st.toNat*(nx r m l).2.1:=kB _ c
    _=(nx r m l).2.1*s.st.toNat:=gK _ _
theorem nx_len {ss:List Sys}(h:∀ s∈ss,Sml s) (m l:Nat):(nx ss m l).1.length<=16 ^ ss.length:=by
 obtain⟨d,a,b,c,_⟩:=zhj h m l;exact eI (zhO c b) a
theorem zah (a:Nat)(hs:Sm a) (w:World) :
  Calls Tryz.prog 134 #[a] w (zbI w (letters a 6)):=by
 go_enter Tryz.func134,Tryz.ntmps134
 go_wp2
 go_loopw [3,4] (fun v i wr=>∃ k:Nat,k<=6∧i=.int .i64 k∧wr.ownsRow w.heap.size 3 1 v (letters a k).length (zac (letters a k))∧Ext w wr)
  (fun _ i _=>6 - (intOf i).toNat)
 case atStart=>exact⟨0,eC _,rfl,World.ownsRow_lit w #[] 0 (dI _) lM rfl,(Ext.refl _).alloc _⟩
 case round =>
  obtain⟨k,g,rfl,zkf,d⟩:=hrel;have h:=zA a k
  by_cases hlt:k<6
  ·cases hb:a.testBit k
   all_goals
    have f:=za hb;have b:=zbo a k;rw [hb] at b;have Hls:=za b;clear b hb;go_wp2_with (first
     |(go_at_call 143;refine (zaq a k hs _ oM).mono ?_;rw [f.out];rintro e w' ⟨rfl,rfl⟩)
     |(at_builtin;refine zO w wr rfl _ _ _ rfl 3 _ 1 8 Tryz.underlying110 zae rfl dM u3 _ _ _ _ rfl rfl d zkf rfl (zbg _) lM oM ?_;intro v' w1 hext1 zko hg1 hat1))
    exact yY01a2
  ·obtain rfl:k=6:=oM;obtain⟨A,c,rfl⟩:=zi zkf;go_wp2;go_ret;exact⟨_,_,rfl,zkf,d⟩
def zeC (b:UInt8):Bool:=decide (97<=(b.toNat:Int)∧(b.toNat:Int)<=102)
def zbj (s:ByteArray):Bool:=decide (s.size<=50000)&&s.data.toList.all zeC
theorem zcu (s:ByteArray) (i:Nat)(h:i<s.size):s.data.toList[i]?=some s[i]:=by
 rw [dH (by simpa using h)];rfl
theorem yY01a1 {P:Prop}(h:P:=by
 go_wp2_with (go_at_call 144;refine (zbC s k hlt _).mono ?_;rw [hx.out];rintro e w' ⟨rfl,rfl⟩)
 go_ret;exact⟨zu (by rw [zbj,zaM hg.out (by have:=hx.out;simp [zeC];omega),Bool.and_false]),rfl⟩
 ):P:=h
theorem zdE (s:ByteArray) (w:World)(hs:s.size<=9223372036854775807) :
  Calls Tryz.prog 141 #[s] w fun e w'=>e=.returned (.bool (zbj s))∧w=w':=by
 by_cases h:50000<s.size
 ·go_enter Tryz.func141,Tryz.ntmps141
  go_wp2;go_ret;exact⟨by simp [zbj,show ¬ s.size<=50000 by omega],rfl⟩
 ·go_enter Tryz.func141,Tryz.ntmps141
  go_wp2
  go_loop [3] (fun i=>∃ k:Nat,k<=s.size∧i=.int .i64 k∧Hid ((s.data.toList.take k).all zeC=true)) (fun i=>s.size - (intOf i).toNat)
  case atStart=>exact⟨0,eC _,rfl,rfl⟩
  case round =>
   obtain⟨k,d,rfl,a⟩:=hrel
   by_cases hlt:k<s.size
   ·have hg:=za (zcu s k hlt);obtain⟨x,hx,b,c⟩:∃ x:Int,Hid ((s[k].toNat:Int) - 97=x) ∧ -97<=x∧x<=158:=⟨(s[k].toNat:Int) - 97,za rfl,oM,by have:=zcG s k hlt;omega⟩
    by_cases h0:x<0
    ·exact yY01a1
    ·by_cases h1:6<=x
     ·exact yY01a1
     ·go_wp2_with (go_at_call 144;refine (zbC s k hlt _).mono ?_;rw [hx.out];rintro e w' ⟨rfl,rfl⟩)
      go_round
      case rel=>exact⟨k+1,oM,gM,zcM hg.out a.out (by have:=hx.out;simp [zeC];omega)⟩
      case measure=>simp [intOf];omega
   ·obtain rfl:k=s.size:=oM;go_wp2;go_ret;exact⟨zu (by rw [zbj,zfo sM a.out];simp;omega),rfl⟩
def overB (s:ByteArray) (a:Nat):Bool:=s.data.toList.all fun b=>hasB a (ltr b.toNat)
def rowB (k n:Nat) (row:List Int):Bool:=decide (row.length=k)&&row.all fun q=>decide (0<=q∧q<n)
def zj (a:Aut):Bool:=
 decide (0<=a.al∧a.al<=63)&&(decide (1<=a.next.length∧a.next.length<=12)&&(decide (a.acc.length=a.next.length)&&a.next.all (rowB (letters a.al.toNat 6).length a.next.length)))
theorem zja (lo hi:Nat) (A:Option Addr) (n c:Nat) (l:List Int) (k m:Nat) (w:World)(h:Reads w lo hi 1 A n (ints l))(hk:k<=100) (_hm:m<=100) :
  Calls Tryz.prog 171 #[.slice A n c,k,m] w fun e w'=>e=.returned (.bool (rowB k m l))∧w=w':=by
 have j:=h.len;have f:l.length=n:=by have:=h.length;rw [zdc] at this;omega
 have b:=za f;clear f
 by_cases he:n=k
 ·subst he
  go_enter Tryz.func171,Tryz.ntmps171
  go_wp2
  go_loop [7] (fun i=>∃ k:Nat,k<=n∧i=.int .i64 k∧Hid ((l.take k).all (fun q=>decide (0<=q∧q<m))=true)) (fun i=>n - (intOf i).toNat)
  case atStart=>exact⟨0,eC _,rfl,rfl⟩
  case round =>
   obtain⟨k,hk,rfl,a⟩:=hrel
   by_cases hlt:k<n
   ·obtain⟨g,x,rfl,_,_,hx,d⟩:=h.int hlt
    by_cases h0:x<0
    ·go_wp2;go_ret;exact⟨zu (by rw [rowB,zaM hx.out (by simp;omega),j8]),rfl⟩
    ·by_cases h1:(m:Int)<=x
     ·go_wp2;go_ret;exact⟨zu (by rw [rowB,zaM hx.out (by simp;omega),j8]),rfl⟩
     ·go_wp2
      go_round
      case rel=>exact⟨k+1,oM,gM,zcM hx.out a.out (by simp;omega)⟩
      case measure=>simp [intOf];omega
   ·obtain rfl:k=n:=oM;go_wp2;go_ret;exact⟨zu (by rw [rowB,zfo (oH b.out) a.out,b.out];simp),rfl⟩
 ·go_enter Tryz.func171,Tryz.ntmps171
  go_wp2;go_ret;exact⟨zu (by rw [rowB,b.out];simp [he]),rfl⟩
theorem zQ (lo hi:Nat) (A:Option Addr) (n c:Nat) (A':Option Addr) (n' c':Nat) (a:Aut) (w:World)(h:zF w lo hi A n A' n' a) :
  Calls Tryz.prog 79 #[.agg #[a.al,.slice A n c,.slice A' n' c']] w fun e w'=>e=.returned (.bool (zj a))∧Ext w w':=by
 have x:=h.n1;have y:=h.n2;have q:=za (show zj a=(decide (0<=a.al∧a.al<=63)&&(decide (1<=n∧n<=12)&&(decide (n'=n)&&a.next.all (rowB (letters a.al.toNat 6).length n)))) by unfold zj;rw [← x,← y]);have Q:=h.1.len;have R:=h.2.2.len;clear x y
 by_cases hal:0<=a.al∧a.al<=63
 ·have o:=za (show decide (0<=a.al∧a.al<=63)=true by simp;omega)
  by_cases hn:1<=n∧n<=12
  ·have L:decide ((n:Int)<1)=false:=by simp;omega
   have M:decide (12<(n:Int))=false:=by simp;omega
   by_cases hn':n'=n
   ·subst hn';obtain⟨al,b⟩:∃ al:Nat,Hid (a.al=al):=⟨a.al.toNat,by unfold Hid;omega⟩;have t:Sm al:=by have:=b.out;unfold Sm;omega
    have S:=zA al 6;rw [b.out];rw [b.out] at o;rw [b.out,Int.toNat_natCast] at q;clear hal;have z:=fun W (hW:Ext w W)=>h.1.ext hW;have F:=za z;clear z
    go_enter Tryz.func79,Tryz.ntmps79
    go_wp2_with (go_at_call 142;refine (zS _ _).mono ?_;rw [o.out];rintro e w' ⟨rfl,rfl⟩)
    go_loopw [4] (fun i wr=>∃ k:Nat,k<=n'∧i=.int .i64 k∧Hid ((a.next.take k).all (rowB (letters al 6).length n')=true)∧Ext (w.alloc (.cells #[Value.int .i64 al,Value.slice A n' c,Value.slice A' n' c'] 27)) wr)
     (fun i _=>n' - (intOf i).toNat)
    case atStart=>exact⟨0,eC _,rfl,rfl,Ext.refl _⟩
    case round =>
     obtain⟨k,Z,rfl,g,f⟩:=hrel;have B:∀ W,Ext wr W->∀ j,W.cell? ⟨w.heap.size,j,none⟩=#[Value.int .i64 al,Value.slice A n' c,Value.slice A' n' c'][j]?:=fun W hW=>zcm (f.trans hW)
     by_cases hlt:k<n'
     ·obtain⟨G,E,I,l,rfl,T,O,C,m,s⟩:=(F.out wr (((Ext.refl _).alloc _).trans f)).row hlt;have J:∀ W,Ext wr W->W.cell? (G.add k)=some (.slice E l.length I):=fun W hW=>hW.aa m;have V:=Ext.refl wr;have u:∀ W,Ext wr W->Ext w W:=fun W hW=>(((Ext.refl _).alloc _).trans f).trans hW;have r:=za u;clear u;cases hrb:rowB (letters al 6).length n' l
      ·have d:=za hrb;clear hrb;go_wp2_with fail
       go_region_held3 (fun W=>Ext wr W) (first|assumption|(refine Ext.drew ?_;assumption)|(refine Ext.trans ?_ aM;assumption)|(refine Ext.trans ?_ aM;refine Ext.drew ?_;assumption)) (first|(go_at_call 134;refine (zah _ t _).mono ?_;rintro e X ⟨D,H,rfl,v,p⟩)|(go_at_call 171;refine (zja _ _ _ _ _ _ _ _ _ (s.ext ?_) oM oM).mono ?_;assumption;rw [d.out];rintro e Y ⟨rfl,rfl⟩))
       go_wp2;go_ret;exact⟨zu (by rw [q.out,zaM C.out d.out];simp),r.out _ aM⟩
      ·have d:=za hrb;clear hrb;go_wp2_with fail
       go_region_held3 (fun W=>Ext wr W) (first|assumption|(refine Ext.drew ?_;assumption)|(refine Ext.trans ?_ aM;assumption)|(refine Ext.trans ?_ aM;refine Ext.drew ?_;assumption)) (first|(go_at_call 134;refine (zah _ t _).mono ?_;rintro e X ⟨D,H,rfl,v,p⟩)|(go_at_call 171;refine (zja _ _ _ _ _ _ _ _ _ (s.ext ?_) oM oM).mono ?_;assumption;rw [d.out];rintro e Y ⟨rfl,rfl⟩))
       go_wp2;go_roundw
       case rel=>exact⟨k+1,oM,gM,zcM C.out g.out d.out,f.trans aM⟩
       case measure=>simp [intOf];omega
     ·obtain rfl:k=n':=oM;go_wp2;go_ret;exact⟨zu (by rw [q.out,zfo (oH h.n1) g.out,o.out];simp;omega),((Ext.refl _).alloc _).trans f⟩
   ·have U:((n':Int) != (n:Int))=true:=by simp;omega
    go_enter Tryz.func79,Tryz.ntmps79
    go_wp2_with (go_at_call 142;refine (zS _ _).mono ?_;rw [o.out];rintro e w' ⟨rfl,rfl⟩)
    go_ret;exact⟨zu (by rw [q.out];simp [hn']),(Ext.refl _).alloc _⟩
  ·go_enter Tryz.func79,Tryz.ntmps79
   go_wp2_with (go_at_call 142;refine (zS _ _).mono ?_;rw [o.out];rintro e w' ⟨rfl,rfl⟩)
   all_goals go_ret
   all_goals exact⟨zu (by rw [q.out];simp [hn]),(Ext.refl _).alloc _⟩
 ·go_enter Tryz.func79,Tryz.ntmps79
  have o:decide (0<=a.al∧a.al<=63)=false:=by simp;omega
  go_wp2_with (go_at_call 142;refine (zS _ _).mono ?_;rw [o];rintro e w' ⟨rfl,rfl⟩)
  go_ret;exact⟨zu (by rw [q.out];simp;omega),(Ext.refl _).alloc _⟩
def place (a l:Nat):Nat:=(letters a l).length
def aGo (a:Aut) (q l:Nat):Nat:=if a.al.toNat.testBit l then ((a.next.getD q []).getD (place a.al.toNat l) 0).toNat else q
abbrev Mem:=Nat × (Nat->Nat->List Nat)
def zdQ (s:Sys):Mem:=(s.st.toNat,cho s)
def zbv (a:Aut):Mem:=(a.next.length,fun q l=>[aGo a q l])
def zav:List Nat->Nat
 |[]=>1
 |m :: r=>m*zav r
def zE (ms:List Mem):Nat:=zav (ms.map Prod.fst)
theorem zdO (m:Mem) (r:List Mem):zE (m :: r)=m.1*zE r:=rfl
theorem zdv (a b:List Nat):zav (a++b)=zav a*zav b:=by
 induction a with
 |nil=>simp [zav]
 |cons x r ih=>rw [List.cons_append,zav,zav,ih,jS]
theorem zbU (a b:List Mem):zE (a++b)=zE a*zE b:=by
 unfold zE;rw [fO,zdv]
theorem prodS_pos {l:List Nat}(h:∀ x∈l,1<=x):1<=zav l:=by
 induction l with
 |nil=>simp [zav]
 |cons x r ih=>exact Nat.mul_pos (h x sM) (ih fun y hy=>h y (by simp [hy]))
def dec:List Nat->Nat->List Nat
 |[],_=>[]
 |s :: r,x=>(x / zav r % s) :: dec r x
theorem zdK (l:List Nat) (x:Nat):(dec l x).length=l.length:=by
 induction l with
 |nil=>rfl
 |cons s r ih=>simp [dec,ih]
theorem zju {l:List Nat} {s:Nat}(h:l[k]?=some s):(dec l x)[k]?=some (x / zav (l.drop (k+1)) % s):=by
 induction l generalizing k with
 |nil=>simp at h
 |cons t r ih =>
  cases k with
  |zero=>simp at h;subst h;simp [dec]
  |succ k=>simp at h;simpa [dec] using ih h
def encF (acc:Nat):List Nat->List Nat->Nat
 |s :: r,x :: xs=>encF (acc*s+x) r xs
 |_,_=>acc
def pnx:List Mem->Nat->Nat->List Nat
 |[],_,_=>[0]
 |m :: r,x,l=>(m.2 (x / zE r % m.1) l).flatMap fun q=>(pnx r x l).map fun y=>q*zE r+y
def zew (m:Mem):Prop:=1<=m.1∧∀ q l,q<m.1->l<6->∀ x∈m.2 q l,x<m.1
theorem zfW {ms:List Mem}(h:∀ m∈ms,zew m):1<=zE ms:=prodS_pos fun x hx=>by
 obtain⟨m,hm,rfl⟩:=List.mem_map.1 hx
 exact (h m hm).1
theorem ziX {ms:List Mem}(h:∀ m∈ms,zew m) (hl:l<6):∀ y∈pnx ms x l,y<zE ms:=by
 induction ms with
 |nil=>intro y a;simp [pnx] at a;subst a;simp [zE,zav]
 |cons m r ih =>
  intro y a;rw [pnx] at a;obtain⟨q,c,a⟩:=List.mem_flatMap.1 a;obtain⟨z,d,rfl⟩:=List.mem_map.1 a;have b:=(h m sM).2 _ l (Nat.mod_lt _ (h m sM).1) hl q c;have f:=ih (fun m hm=>h m (by simp [hm])) z d;rw [zdO]
  calc q*zE r+z<q*zE r+zE r:=oM
   _=(q+1)*zE r:=by rw [jQ,kC]
   _<=m.1*zE r:=kB _ b
theorem zgu (a b:List Mem) (x l:Nat):pnx (a++b) x l=(pnx a (x / zE b) l).flatMap fun q=>(pnx b x l).map fun y=>q*zE b+y:=by
 induction a with
 |nil=>simp [pnx]
 |cons m r ih =>
  rw [List.cons_append,pnx,pnx,ih,zbU,List.flatMap_assoc];rw [j0,gK (zE b) (zE r)]
  congr 1
  funext q
  rw [List.map_flatMap,List.flatMap_map]
  congr 1
  funext z
  rw [List.map_map]
  congr 1
  funext y
  simp only [Function.comp];rw [jQ,jS,gF]
theorem nx_pnx (ss:List Sys) (m l:Nat):nx ss m l=(pnx (ss.map zdQ) m l,zE (ss.map zdQ),m / zE (ss.map zdQ)):=by
 induction ss with
 |nil=>simp [nx,pnx,zE,zav]
 |cons s r ih =>
  rw [nx,ih,gZ,pnx,zdO];simp only [zdQ];rw [j0,gK (zE _) s.st.toNat]
theorem pnx_two (a p:Aut) (x l:Nat):pnx [zbv a,zbv p] x l=[aGo a (x / p.next.length % a.next.length) l*p.next.length+aGo p (x % p.next.length) l]:=by
 simp [pnx,zbv,zE,zav]
theorem pnx_one (p:Aut) (x l:Nat):pnx [zbv p] x l=[aGo p (x % p.next.length) l]:=by
 simp [pnx,zbv,zE,zav]
theorem pnx_under (ss:List Sys) (a p:Aut) (x l:Nat) :
  pnx (ss.map zdQ++[zbv a,zbv p]) x l=(nx ss (x / p.next.length / a.next.length) l).1.map fun y=>y*a.next.length*p.next.length+(aGo a (x / p.next.length % a.next.length) l*p.next.length+aGo p (x % p.next.length) l):=by
 have b:zE [zbv a,zbv p]=a.next.length*p.next.length:=by simp [zE,zav,zbv]
 rw [zgu,pnx_two,nx_pnx,b,j0,gK p.next.length a.next.length];simp only [gZ,List.map_nil,← List.map_eq_flatMap,jS]
def free:Aut:=⟨0,[[]],[true]⟩
theorem pnx_free (ss:List Sys) (p:Aut) (x l:Nat):pnx (ss.map zdQ++[zbv free,zbv p]) x l=pnx (ss.map zdQ++[zbv p]) x l:=by
 have a:∀ q l,aGo free q l=q:=fun q l=>by simp [aGo,free]
 rw [zgu,zgu,pnx_two,pnx_one,a];have b:zE [zbv free,zbv p]=p.next.length:=by simp [zE,zav,zbv,free]
 have c:zE [zbv p]=p.next.length:=by simp [zE,zav,zbv]
 rw [b,c];have d:free.next.length=1:=rfl;rw [d,Nat.mod_one,kH,eO]
def fwd (cs:List (Nat × List Nat)):List Nat:=cs.foldl (fun out c=>out.flatMap fun o=>c.2.map fun x=>o*c.1+x) [0]
theorem zjy (cs:List (Nat × List Nat)) (c:Nat × List Nat):fwd (cs++[c])=(fwd cs).flatMap fun o=>c.2.map fun x=>o*c.1+x:=by simp [fwd]
def chs:List Mem->Nat->Nat->List (Nat × List Nat)
 |[],_,_=>[]
 |m :: r,x,l=>(m.1,m.2 (x / zE r % m.1) l) :: chs r x l
theorem zgp (ms:List Mem) (x l:Nat):(chs ms x l).length=ms.length:=by
 induction ms with
 |nil=>rfl
 |cons m r ih=>simp [chs,ih]
theorem chs_get {ms:List Mem}  {m:Mem}(h:ms[k]?=some m):(chs ms x l)[k]?=some (m.1,m.2 (x / zE (ms.drop (k+1)) % m.1) l):=by
 induction ms generalizing k with
 |nil=>simp at h
 |cons t r ih =>
  cases k with
  |zero=>simp at h;subst h;simp [chs]
  |succ k=>simp at h;simpa [chs] using ih h
theorem foldl_pnx (ms:List Mem) (x l:Nat) (out:List Nat):(chs ms x l).foldl (fun out c=>out.flatMap fun o=>c.2.map fun x=>o*c.1+x) out=out.flatMap fun o=>(pnx ms x l).map fun y=>o*zE ms+y:=by
 induction ms generalizing out with
 |nil=>simp [chs,pnx,zE,zav]
 |cons m r ih =>
  rw [chs,jP,ih,pnx,List.flatMap_assoc]
  congr 1
  funext o
  rw [List.flatMap_map,List.map_flatMap]
  congr 1
  funext q
  rw [List.map_map]
  congr 1
  funext y
  simp only [Function.comp,zdO];rw [jQ,jS,gF]
theorem fwd_pnx (ms:List Mem) (x l:Nat):fwd (chs ms x l)=pnx ms x l:=by
 have:=foldl_pnx ms x l [0];simpa [fwd] using this
theorem flat_len {α β:Type} {l:List α} {f:α->List β} (h:∀ x∈l,(f x).length<=k):(l.flatMap f).length<=l.length*k:=by
 induction l with
 |nil=>simp
 |cons x r ih =>
  have a:=ih fun y hy=>h y (by simp [hy]);have b:=h x sM;rw [jB,eK,gJ,jQ,kC];omega
theorem fwd_len {cs:List (Nat × List Nat)}(h:∀ c∈cs,c.2.length<=c.1):(fwd cs).length<=zav (cs.map Prod.fst):=by
 have a:∀ n,n<=cs.length->(fwd (cs.take n)).length<=zav ((cs.take n).map Prod.fst):=by
  intro n
  induction n with
  |zero=>intro _;simp [fwd,zav]
  |succ n ih =>
   intro hn;have b:cs[n]?=some cs[n]:=dH oM;rw [eG,b];simp only [e8];rw [zjy,fO,zdv];refine eI (flat_len (k:=(cs[n]).2.length) fun x _=>sM) ?_;refine Nat.mul_le_mul (ih oM) ?_;simpa [zav] using h cs[n] (gI _)
 have:=a cs.length (dI _);rwa [fB] at this
theorem fwd_lt {cs:List (Nat × List Nat)}(h:∀ c∈cs,∀ x∈c.2,x<c.1):∀ y∈fwd cs,y<zav (cs.map Prod.fst):=by
 have b:∀ n,n<=cs.length->∀ y∈fwd (cs.take n),y<zav ((cs.take n).map Prod.fst):=by
  intro n
  induction n with
  |zero=>intro _ y a;simp [fwd] at a;subst a;simp [zav]
  |succ n ih =>
   intro hn y a;have f:cs[n]?=some cs[n]:=dH oM;rw [eG,f] at a ⊢;simp only [e8] at a ⊢;rw [zjy] at a;rw [fO,zdv];obtain⟨o,g,a⟩:=List.mem_flatMap.1 a;obtain⟨x,hx,rfl⟩:=List.mem_map.1 a;have d:=ih oM o g;have i:=h cs[n] (gI _) x hx;simp only [gZ,List.map_nil,zav,jK]
   calc o*(cs[n]).1+x<o*(cs[n]).1+(cs[n]).1:=oM
    _=(o+1)*(cs[n]).1:=by rw [jQ,kC]
    _<=_:=kB _ d
 have:=b cs.length (dI _);rwa [fB] at this
theorem zei {s:Sys}(h:Sml s):zew (zdQ s):=⟨by have:=h.1;simp only [zdQ];omega,fun q l hq hl x hx=>ziK h hq x hx⟩
theorem zl {a:Aut}(h:zj a=true):(0<=a.al∧a.al<=63)∧(1<=a.next.length∧a.next.length<=12)∧a.acc.length=a.next.length∧∀ (q:Nat) (row:List Int),a.next[q]?=some row->row.length=(letters a.al.toNat 6).length∧∀ x∈row,0<=x∧x<a.next.length:=by
 simp only [zj,eD,decide_eq_true_eq,fH] at h;obtain⟨b,c,d,f⟩:=h;refine⟨b,c,d,fun q row hr=>?_⟩;have:=f row (dG hr);simp only [rowB,eD,decide_eq_true_eq,fH] at this;exact this
def Fit (N:Nat) (a:Aut):Prop:=(0<=a.al∧a.al<=63)∧(1<=a.next.length∧a.next.length<=N)∧a.acc.length=a.next.length∧∀ (q:Nat) (row:List Int),a.next[q]?=some row->row.length=(letters a.al.toNat 6).length∧∀ x∈row,0<=x∧x<a.next.length
theorem Fit.row {a:Aut}(h:Fit N a):(0<=a.al∧a.al<=63)∧(1<=a.next.length∧a.next.length<=N)∧a.acc.length=a.next.length∧∀ (q:Nat) (row:List Int),a.next[q]?=some row->row.length=(letters a.al.toNat 6).length∧∀ x∈row,0<=x∧x<a.next.length:=h
theorem fit_of {a:Aut}(h:zj a=true):Fit 12 a:=zl h
theorem place_lt {a:Nat}(hl:l<6)(hb:a.testBit l=true):place a l<(letters a 6).length:=by
 have b:∀ n,l+1<=n->place a l<(letters a n).length:=by
  intro n
  induction n with
  |zero=>intro h;omega
  |succ n ih =>
   intro h;rw [zbo,eK]
   by_cases e:n=l
   ·subst e;simp [place,hb]
   ·have:=ih oM;omega
 exact b 6 oM
theorem aGo_ltF {a:Aut}(h:Fit N a) (hq:q<a.next.length)(hl:l<6):aGo a q l<a.next.length:=by
 obtain⟨_,_,_,g⟩:=h.row;unfold aGo;split
 ·rename_i hb;have b:a.next[q]?=some a.next[q]:=dH hq;obtain⟨d,f⟩:=g q _ b;have c:=place_lt hl hb;rw [← d] at c;have hx:=f _ (gI c);simp only [eE,b,Option.getD_some,dH c];omega
 ·exact hq
theorem zer {a:Aut}(h:zj a=true) (hq:q<a.next.length)(hl:l<6):aGo a q l<a.next.length:=aGo_ltF (fit_of h) hq hl
theorem zbw {a:Aut}(h:zj a=true):zew (zbv a):=⟨(zl h).2.1.1,fun q l hq hl x hx=>by
 simp only [zbv,fN] at hx ⊢
 subst hx
 exact zer h hq hl⟩
theorem zbu:zj free=true:=dM
theorem wrap_pow2 {t:Nat}(ht:t<32):wrap64 ((2:Int) ^ t)=((2 ^ t:Nat):Int):=by
 have a:=(Sm.bit ht).lt;have e:(2:Int) ^ t=((2 ^ t:Nat):Int):=sM;rw [e];generalize (2:Nat) ^ t=p at *;unfold wrap64;omega
theorem zgz (n:Nat)(hn:n<32) (w:World) :
  Calls Tryz.prog 270 #[n] w fun e w'=>e=.returned (.int .i64 (2 ^ n:Nat))∧w=w':=by
 have c:IntKind.u64.wrap (n:Int)=n:=by rw [IntKind.wrap_u64];omega
 have a:(n:Int)<=64:=oM;have b:=za (wrap_pow2 hn)
 go_enter Tryz.func270,Tryz.ntmps270
 go_wp2;go_ret;exact⟨zap (by rw [← b.out]),rfl⟩
def zcj (es:List Edg) (set:Nat) (l:Int):Nat:=es.foldl (fun m e=>if e.le=l∧set.testBit e.fr.toNat=true then m|||2 ^ e.ta.toNat else m) 0
theorem stepB_snoc (es:List Edg) (e:Edg) (set:Nat) (l:Int):zcj (es++[e]) set l=if e.le=l∧set.testBit e.fr.toNat=true then zcj es set l|||2 ^ e.ta.toNat else zcj es set l:=by simp [zcj]
theorem zdV (es:List Edg) (set:Nat) (l:Int) (k:Nat):(zcj es set l).testBit k=true↔∃ e∈es,(e.le=l∧set.testBit e.fr.toNat=true)∧e.ta.toNat=k:=by
 have:=foldl_bit es (fun e=>e.le=l∧set.testBit e.fr.toNat=true) 0 k;simpa [zcj] using this
theorem stepB_lt {es:List Edg}(h:Few n es) (set:Nat) (l:Int):zcj es set l<2 ^ n:=by
 apply kJ;intro k hk;rw [fT];intro hb;obtain⟨e,a,_,b⟩:=(zdV es set l k).1 hb;have:=h e a;omega
theorem zhZ {s:Sys} {set:Nat} {l:Int} {k0:Nat} (h:zV w lo hi A n s)(hf:Few k0 s.edges)(hk0:k0<=16)(hset:Sm set) :
  Calls Tryz.prog 224 #[.agg #[s.al,s.st,.slice A n c],set,l] w fun e w'=>e=.returned (.int .i64 (zcj s.edges set l:Nat))∧Ext w w':=by
 have X:=h.2.len;have M:=za h.1;have F:=za (fun W (hW:Ext w W)=>h.2.ext hW);have G:=za hf;clear hf
 go_enter Tryz.func224,Tryz.ntmps224
 go_wp2
 go_loopw [7,8] (fun v i wr=>∃ k:Nat,k<=n∧i=.int .i64 k∧∃ y:Nat,v=.int .i64 y∧Sm y∧Hid (y=zcj (s.edges.take k) set l)∧Ext w wr∧Ext (w.alloc (.cells #[s.al,s.st,.slice A n c] 38)) wr) (fun _ i _=>n - (intOf i).toNat)
 case atStart=>exact⟨0,eC _,rfl,0,rfl,tM,rfl,(Ext.refl _).alloc _,Ext.refl _⟩
 case round =>
  obtain⟨k,V,rfl,y,rfl,D,g,d,a⟩:=hrel;have S:=fun j=>zcm (j:=j) a
  by_cases hlt:k<n
  ·obtain⟨b,o,x,rfl,_,_,hx,H,R,I⟩:=(F.out wr d).edge hlt;obtain⟨⟨J,L⟩,⟨T,U⟩,⟨O,Q⟩⟩:=G.out x (dG hx.out);have p:=za (show s.edges.take (k+1)=s.edges.take k++[x] by rw [eG,hx.out];rfl);obtain⟨f,q⟩:∃ f:Nat,x.fr=f:=⟨x.fr.toNat,oM⟩;obtain⟨t,B⟩:∃ t:Nat,x.ta=t:=⟨x.ta.toNat,oM⟩;rw [q] at H J L;rw [B] at I O Q;have r:=za (stepB_snoc (s.edges.take k) x set l)
   by_cases hle:x.le=l
   ·have z:(x.le==l)=true:=by simp [hle]
    have m:=za hle;clear hle;cases hb:set.testBit f
    ·have u:=za hb;clear hb;go_wp2_with (go_at_call 143;refine (zaq set f hset _ oM).mono ?_;rw [u.out];rintro e w' ⟨rfl,rfl⟩)
     go_roundw
     case rel=>exact⟨k+1,oM,gM,y,rfl,D,by unfold Hid;rw [p.out,r.out,if_neg (by rintro ⟨_,C⟩;rw [q] at C;simp [u.out] at C)];exact g.out,d,a⟩
     case measure=>simp [intOf];omega
    ·have u:=za hb;clear hb;have E:=za (show bits .or .i64 (y:Nat) ((2:Int) ^ t)=((y|||2 ^ t:Nat):Int) by have:=zbb D (Sm.bit (n:=t) oM);rw [show (((2:Nat) ^ t:Nat):Int)=(2:Int) ^ t by simp] at this;exact this);go_wp2_with (first
      |(go_at_call 143;refine (zaq set f hset _ oM).mono ?_;rw [u.out];rintro e w' ⟨rfl,rfl⟩)
      |(go_at_call 270;refine (zgz t oM _).mono ?_;rintro e w' ⟨rfl,rfl⟩))
     go_roundw
     case rel=>exact⟨k+1,oM,gM,y|||2 ^ t,by rw [E.out],D.or (Sm.bit oM),by unfold Hid;rw [p.out,r.out,if_pos ⟨m.out,by rw [q];simpa using u.out⟩,← g.out,B];rfl,d,a⟩
     case measure=>simp [intOf];omega
   ·have z:(x.le==l)=false:=by simp [hle]
    have m:=za hle;clear hle;go_wp2;go_roundw
    case rel=>exact⟨k+1,oM,gM,y,rfl,D,by unfold Hid;rw [p.out,r.out,if_neg (by rintro ⟨C,_⟩;exact m.out C)];exact g.out,d,a⟩
    case measure=>simp [intOf];omega
  ·obtain rfl:n=k:=oM;go_wp2;go_ret;exact⟨zap (by rw [g.out,M.out,fB]),d⟩
theorem Reads.nat {l:List Nat}(h:Reads w lo hi 1 A n (zac l))(hk:k<n):∃ ad x,A=some ad∧lo<=ad.block∧ad.block<hi∧Hid (l[k]?=some x)∧w.cell? (ad.add k)=some (.int .i64 (x:Nat)):=by
 have e:zac l=ints (l.map fun n:Nat=>(n:Int)):=by simp [zac,ints]
 rw [e] at h;obtain⟨ad,x,b,f,d,hx,c⟩:=h.int hk;have a:=hx.out;rw [eM] at a;cases hq:l[k]? with
 |none=>rw [hq] at a;simp at a
 |some q =>
  rw [hq] at a;simp at a;exact⟨ad,q,b,f,d,rfl,by rw [c,a]⟩
def MovAt (w:World) (b:Nat) (es:List Edg):Prop:=∀ i l:Nat,i<16->l<6->w.cell? ⟨b,i*6+l,none⟩=some (.int .i64 (succ es i l:Nat))
theorem MovAt.ext {es:List Edg}(h:MovAt w b es)(hb:Ext w w'):MovAt w' b es:=fun i l hi hl=>hb.aa (h i l hi hl)
theorem bits_andNot {a:Nat}(ha:Sm a)(hb:Sm b):bits .andNot .i64 (a:Int) (b:Int)=(diff a b:Nat):=by
 have c:=ha.lt;have d:=hb.lt;have f:=diff_le a b;show IntKind.i64.wrap ((BitVec.ofInt 64 (a:Int)&&&~~~ BitVec.ofInt 64 (b:Int)).toNat:Int)=_;have e:(BitVec.ofInt 64 (a:Int)&&&~~~ BitVec.ofInt 64 (b:Int)).toNat=diff a b:=by
  apply gY;intro k;rw [zjv,BitVec.toNat_and,iE,zcA a oM,BitVec.testBit_toNat,BitVec.getLsbD_not,← BitVec.testBit_toNat,zcA b oM]
  by_cases hk:k<64
  ·simp [hk]
  ·simp only [hk,decide_false,Bool.false_and,j8];rw [zgc ha oM];rfl
 rw [e,IntKind.wrap_i64];omega
def MovB (w:World) (b:Nat) (es:List Edg):Prop:=∃ cs,Blk w b 249 cs∧∀ i l:Nat,i<16->l<6->cs[i*6+l]?=some (.int .i64 (succ es i l:Nat))
theorem MovB.at_ {es:List Edg}(h:MovB w b es):MovAt w b es:=by
 obtain⟨d,a,c⟩:=h;exact fun i l hi hl=>by rw [a.cell,c i l hi hl]
theorem MovB.ext {es:List Edg}(h:MovB w b es)(hx:Ext w w'):MovB w' b es:=by
 obtain⟨a,c,d⟩:=h;exact⟨a,c.ext hx,d⟩
theorem zero_mov (w:World):(zeroValue 249).run Tryz.prog w=.ok (.agg (Array.replicate 96 (.int .i64 0))) w:=kM
theorem wrap_pow {t:Nat}(ht:t<32):wrap64 ((2:Int) ^ t)=((2 ^ t:Nat):Int):=by
 have a:=(Sm.bit ht).lt;have e:(2:Int) ^ t=((2 ^ t:Nat):Int):=sM;rw [e];generalize (2:Nat) ^ t=p at *;unfold wrap64;omega
theorem mov_store {es:List Edg} {f t:Nat}(hcs:∀ i l:Nat,i<16->l<6->cs[i*6+l]?=some (.int .i64 (succ es i l:Nat)))(hs:Sm (succ es f g))(ht:t<16)(hf:f<16)(hg:g<6)(hi:i<16)(hl:l<6) :
  (cs.setIfInBounds (f*6+g) (.int .i64 (bits .or .i64 (succ es f g:Nat) (wrap64 (2 ^ t)))))[i*6+l]?=some (.int .i64 ((if (f:Int)=i∧(g:Int)=l then succ es i l|||2 ^ (t:Int).toNat else succ es i l:Nat))):=by
 rw [wrap_pow oM,zbb hs (Sm.bit oM),Array.getElem?_setIfInBounds]
 by_cases he:f*6+g=i*6+l
 ·have c:f=i:=oM;have d:g=l:=oM;subst c;subst d;have b:f*6+g<cs.size:=by
   rcases fM (f*6+g) cs.size with a|a
   ·exact a
   ·have:=hcs f g hf hg;rw [Array.getElem?_eq_none a] at this;cases this
  rw [if_pos rfl,if_pos b,if_pos ⟨rfl,rfl⟩];rfl
 ·rw [if_neg he,hcs i l hi hl,if_neg];rintro ⟨a,h⟩;exact he oM
theorem zeA {s:Sys} (h:zV w lo hi A n s)(hf:Few 16 s.edges) :
  Calls Tryz.prog 154 #[.agg #[s.al,s.st,.slice A n c]] w fun e w'=>∃ b,e=.returned (.pointer (some ⟨b,0,none⟩))∧w.heap.size<=b∧MovB w' b s.edges∧Ext w w':=by
 have hn:=h.2.len;have hL:=za h.1;have O:=fun W (hW:Ext w W)=>h.2.ext hW;have V:=za O;clear O;have J:=za hf;clear hf
 go_enter Tryz.func154,Tryz.ntmps154
 have S:=zero_mov;generalize hzz:Array.replicate 96 (Value.int .i64 0)=U at S;have Y:=za hzz;clear hzz;go_wp2_with (simp only [S])
 go_loopw [10] (fun i wr=>∃ k:Nat,k<=n∧i=.int .i64 k∧MovB wr (w.heap.size+1) (s.edges.take k)∧Ext w wr) (fun i _=>n - (intOf i).toNat)
 case atStart=>exact⟨0,eC _,rfl,⟨U,by have:=Blk.new (w.alloc (.cells #[s.al,s.st,.slice A n c] 38)) 249 U;simpa using this,fun i l hi hl=>by rw [← Y.out,Array.getElem?_replicate,if_pos oM];rfl⟩,((Ext.refl _).alloc _).alloc _⟩
 case round =>
  obtain⟨k,hk,rfl,d,q⟩:=hrel
  by_cases hlt:k<n
  ·obtain⟨b,o,x,rfl,ai,ah,hx,Z,c1,c2⟩:=(V.out wr q).edge hlt;obtain⟨⟨L,C⟩,⟨M,D⟩,⟨T,E⟩⟩:=J.out x (dG hx.out);obtain⟨f,hf⟩:∃ f:Nat,x.fr=f:=⟨x.fr.toNat,oM⟩;obtain⟨g,hg⟩:∃ g:Nat,x.le=g:=⟨x.le.toNat,oM⟩;obtain⟨t,R⟩:∃ t:Nat,x.ta=t:=⟨x.ta.toNat,oM⟩;rw [hf] at Z L C;rw [hg] at c1 M D;rw [R] at c2 T E;have v:f<16:=oM;have y:g<6:=oM;have I:t<16:=oM;clear L C M D T E;obtain⟨cs,r,u⟩:=d;have H:Sm (succ (s.edges.take k) f g):=succ_sm (n:=16) (fun e he=>J.out e (List.mem_of_mem_take he)) oM f g;go_wp2;have z:=(Ext.refl wr).alloc (.cells #[f,g,t] 117);have m:=Blk.new wr 117 #[f,g,t];generalize hq:wr.alloc _=p at *;clear hq;have a:=r.ext z;have hd:p.cell? ⟨w.heap.size+1,f*6+g,none⟩=some (.int .i64 (succ (s.edges.take k) f g:Nat)):=by rw [a.cell,u f g v y]
   have G:=a.frozen (f*6+g);have q0:=m.cell 0;have q1:=m.cell 1;have q2:=m.cell 2
   go_still_tail 16,(by kernel_rfl)
   have C:(f:Int)<16:=oM;have D:(g:Int)<6:=oM;have E:(t:Int)<=64:=oM
   repeat (refine wpStill_step (fun K hK=>?_);go_simp;(try simp only [C,D,E,if_true]);refine hK _ ?_;clear hK K)
   refine wpStill_nil ?_;change wpList _ _ _ _ _ p.drew;have ag:p.drew.cell? ⟨w.heap.size+1,f*6+g,none⟩=some (.int .i64 (succ (s.edges.take k) f g:Nat)):=hd;have Q:p.drew.frozen? ⟨w.heap.size+1,f*6+g,none⟩=false:=G;have j:Blk p.drew (w.heap.size+1) 249 cs:=a;have B:Ext wr p.drew:=z.drew;generalize p.drew=w2 at *;have X:=za (succ_snoc (s.edges.take k) x);have F:=za (show s.edges.take (k+1)=s.edges.take k++[x] by rw [eG,hx.out];rfl);go_wp2;go_roundw
   case rel=>exact⟨k+1,oM,gM,⟨_,j.ab (f*6+g) _,fun i l hi hl=>by
    rw [F.out,X.out,hf,hg,R];exact mov_store u H I v y hi hl⟩,(q.trans B).setCell (by dsimp only;omega) _⟩
   case measure=>simp [intOf];omega
  ·obtain rfl:k=n:=oM;go_wp2;go_ret;rw [hL.out,fB] at d;exact⟨_,rfl,oM,d,q⟩
theorem zhg (R:List Nat) (i v:Nat):zac (R.set i v)=(zac R).set i (.int .i64 (v:Nat)):=by simp [zac,List.map_set]
end Go.Proofs.YtckbjnndaaoddaaGreatDoor
