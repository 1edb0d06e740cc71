/- Plain lemmas -/
import Derived.WalkKit
import Derived.WalkSpells
import Derived.WalkLawsBesides
import Derived.BigQuiet
import Derived.Deep.QuietTactic
import Derived.Deep.RegionWith
import Derived.Deep.RegionHeld3
import Derived.Deep.AppendLies
import Derived.Deep.Draws
import Derived.Laws.OwnMore
import Derived.Laws.BitsAllLaws
import Derived.Laws.BitsLemmas
import Derived.Maps.AppendAt
import Derived.Test.YtckbjnndaaoddaaGreatDoorRows
import Derived.OrdersHeld
import Derived.ProofKit
import Derived.Deep.Slices
import Derived.Deep.Fields
import Derived.ChangeSame
import Derived.ChangeArms
import Derived.Lib.SmallJoins
import Derived.OpenShut
import Derived.ShutString
import Derived.ChangeOld
import Derived.Lib.TrailingZeros
import Derived.Shelf.Spec.TrailingZeros
import Derived.Lib.LaidTab
import Derived.LaidMore
import Derived.Stop.Joined
import Derived.Stop.LaidErr
import Derived.Maps.OwnSet
import Derived.Maps.OwnOps
set_option maxHeartbeats 2000000
set_option maxRecDepth 100000
namespace Go.Proofs.YtckbjnndaaoddaaGreatDoor
open Go Go.RowKit
open Bool renaming and_eq_true->dI,and_false->iY,eq_false_iff->eV,false_eq_true->jD,false->j3,true->jV
open List renaming all_eq_true->eK,cons_append->iB,eq_nil_of_length_eq_zero->dQ,flatMap_cons->iU,foldl_cons->iG,getD_eq_getElem?_getD->dF,getElem?_append_left->dJ,getElem?_append_right->dU,getElem?_eq_getElem->dC,getElem?_eq_none->dW,getElem?_map->dP,getElem?_of_mem->eA,getElem?_toArray->eP,getElem_mem->gG,length_append->dN,length_cons->fO,length_singleton->dV,map_append->eI,map_cons->fL,mem_append->gW,mem_cons_of_mem->eD,mem_of_getElem?->dD,mem_singleton->eT,range->eU,replicate->dT,take_add_one->dO,take_length->eL,getElem?_eq_some_iff->kB,mem_flatMap->kP,mem_map->kE
open Nat renaming add_assoc->iC,add_mul->iV,add_zero->gX,div_div_eq_div_mul->jE,div_eq_of_lt->jA,div_le_self->iK,eq_of_testBit_eq->fI,le_refl->dE,le_trans->dL,lt_of_le_of_lt->jF,lt_of_lt_of_le->eC,lt_or_eq_of_le->dY,lt_or_ge->eS,lt_pow_two_of_testBit->jS,lt_trichotomy->e9,mul_assoc->iW,mul_comm->fJ,mul_le_mul_right->jN,mul_one->jC,pow_le_pow_right->eE,sub_self->fU,testBit_and->fQ,testBit_eq_decide_div_mod_eq->j1,testBit_succ->jB,testBit_two_pow_mul_add->iM,two_pow_pos->jX,zero_add->dX,zero_le->dH,zero_mul->jQ,zero_testBit->iJ
open Option renaming map_eq_some_iff->gE,toList_some->eH,none->fW,some->fV
open Go renaming Calls->j8,Value->j6,World->j2
open Go.Ending renaming returned->j7
open Go.IntKind renaming i64->iX
open Go.Value renaming bool->j9,slice->fF
open Option.some renaming inj->kA
open _root_.Go.Proofs.Tryz renaming prog->j5
instance cX011:Coe Int Value:=⟨fun x=>.int .i64 x⟩
instance cX012:Coe Nat Value:=⟨fun x=>.int .i64 (x:Int)⟩
instance cX013:Coe Unit Value:=⟨fun _=>.slice none 0 0⟩
instance cX014:Coe ByteArray Value:=⟨fun x=>.string x⟩
instance cX015:Coe Nat Addr:=⟨fun x=>⟨x,0,none⟩⟩
theorem oM {P:Prop}(h:P:=by omega):P:=h
theorem dM {P:Prop}(h:P:=by decide):P:=h
theorem sM {P:Prop}(h:P:=by simp):P:=h
theorem gM {P:Prop}(h:P:=by go_num):P:=h
theorem aM {P:Prop}(h:P:=by assumption):P:=h
theorem kM {P:Prop}(h:P:=by kernel_rfl):P:=h
theorem lM {P:Prop}(h:P:=by unfold maxLen;omega):P:=h
theorem tM {P:Prop}(h:P:=by unfold Sm;omega):P:=h
theorem oH {A P:Prop}(a:A)(h:A->P:=by intro _;omega):P:=h a
theorem mQ {v:Ending}{R:j2->Prop}{Q:Ending->j2->Prop}(k:∀ w,R w->Q v w):∀ e w,e=v/\R w->Q e w:=fun _ w h=>h.1 ▸ k w h.2
theorem uM {P:Prop}(h:P:=by simp [intOf];omega):P:=h
variable {A A':Option Addr} {N b base base' c c' g hi hi' i id j k l lo lo' n n' q x:Nat} {S T:Nat->Prop} {W a w w':j2} {cs ds:Array j6} {e t u:TypeId} {ls:List (List Int)} {ns rest start:List Nat} {p:Addr} {rows xs:List j6} {v:j6}
theorem za {p:Prop}(h:p):Hid p:=h
structure Bx (p:Prop):Prop where
 out:p
theorem pT {A B:Prop}(h:B) (k:Bx B->A:=by
 intro h0
 try simp only [Act.put,List.setIfInBounds_toArray,List.set_cons_zero,List.set_cons_succ]
 exact h0.out):A:=k ⟨h⟩
theorem ziP (a:Addr) (n:Nat):(a.add n).block=a.block:=by unfold Addr.add;split<;>rfl
theorem addr_zero (a:Addr):a.add 0=a:=by simp [Addr.add]
theorem zad (g o n:Nat):(⟨g,o,fW⟩:Addr).add n=⟨g,o+n,fW⟩:=by unfold Addr.add;split<;>simp_all
structure Frm (S:Nat->Prop) (w w':j2):Prop where
 os:w'.os=w.os
 tape:w'.tape=w.tape
 output:w'.output=w.output
 size:w.heap.size<=w'.heap.size
 block:∀ k,k<w.heap.size->¬ S k->w'.heap[k]?=w.heap[k]?
def Ext (w w':j2):Prop:=Frm (fun _=>False) w w'
theorem Ext.refl (w:j2):Ext w w:=⟨rfl,rfl,rfl,dE _,fun _ _ _=>rfl⟩
theorem Ext.trans {b c:j2}(h:Ext a b) (k:Ext b c):Ext a c:=
 ⟨k.os.trans h.os,k.tape.trans h.tape,k.output.trans h.output,dL h.size k.size,fun i hi hn=>(k.block i (eC hi h.size) hn).trans (h.block i hi hn)⟩
theorem Ext.drew (h:Ext a w):Ext a w.drew:=⟨h.os,h.tape,h.output,h.size,h.block⟩
theorem Ext.drewN (h:Ext a w) (n:Nat):Ext a (w.drewN n):=⟨h.os,h.tape,h.output,h.size,h.block⟩
theorem Ext.alloc (h:Ext a w) (o:Obj):Ext a (w.alloc o):=
 h.trans ⟨rfl,rfl,rfl,sM,fun k hk _=>Below.heap_alloc _ _ _ hk⟩
theorem Ext.setCell (h:Ext a w) (hp:a.heap.size<=p.block) (u:j6):Ext a (w.setCell p u):=
 ⟨h.os,h.tape,h.output,by simpa [World.setCell] using h.size,fun k hk hn=>(Below.heap_setCell _ _ _ _ oM).trans (h.block k hk hn)⟩
theorem Ext.grown {row:Option Nat}(h:Ext a w)(hg:w.grownBy w' row)(hr:∀ k,row=fV k->a.heap.size<=k):Ext a w':=
 ⟨hg.os.trans h.os,hg.tape.trans h.tape,hg.output.trans h.output,dL h.size hg.size,
  fun k hk hn=>(hg.block k (eC hk h.size) (fun e=>by have:=hr k e.symm;omega)).trans (h.block k hk hn)⟩
theorem Ext.heap (h:Ext w w') (hk:k<w.heap.size):w'.heap[k]?=w.heap[k]?:=h.block k hk id
theorem Ext.cell (h:Ext w w') (hp:p.block<w.heap.size):w'.cell? p=w.cell? p:=World.cell?_of_block (w:=w) (h.heap hp)
theorem Ext.aa (h:Ext w w')  (hv:w.cell? p=fV v):w'.cell? p=fV v:=
 (h.cell (World.block_lt_of_cell? w p hv)).trans hv
def Blk (w:j2) (g:Nat) (t:TypeId) (cs:Array j6):Prop:=w.heap[g]?=fV (.cells cs t (0,0))
section
variable {w w':j2} {g:Nat} {t:TypeId} {cs:Array j6}
theorem Blk.lt (h:Blk w g t cs):g<w.heap.size:=by
 rcases eS g w.heap.size with hlt|a
 ·exact hlt
 ·unfold Blk at h;rw [Array.getElem?_eq_none a] at h;cases h
theorem Blk.cell (h:Blk w g t cs) (i:Nat):w.cell? ⟨g,i,fW⟩=cs[i]?:=cell_of_row w g i cs t (0,0) h
theorem Blk.frozen (h:Blk w g t cs) (i:Nat):w.frozen? ⟨g,i,fW⟩=j3:=by
 unfold Blk at h;simp [World.frozen?,h]
theorem Blk.new (w:j2) (t:TypeId) (cs:Array j6):Blk (w.alloc (.cells cs t)) w.heap.size t cs:=heap_alloc_new w _
theorem Ext.eq_ {a b:j2}(h:a=b):Ext a b:=h ▸ Ext.refl a
theorem Ext.bl_ {V W:j2}{c:Array j6}{t:TypeId}(h:V.alloc (.cells c t)=W):Blk W V.heap.size t c:=h ▸ Blk.new V t c
theorem Ext.al_ {V W:j2}{o:Obj}(h:V.alloc o=W):Ext V W:=h ▸ (Ext.refl V).alloc o
theorem Blk.ext (h:Blk w g t cs)(hb:Ext w w'):Blk w' g t cs:=(hb.heap h.lt).trans h
theorem Ext.x1_ {w W:j2}{c:Array j6}{t:TypeId}(h:w.alloc (.cells c t)=W):Ext w W/\Blk W w.heap.size t c:=⟨Ext.al_ h,Ext.bl_ h⟩
theorem Ext.x2_ {w W:j2}{c d:Array j6}{t u:TypeId}(h:(w.alloc (.cells c t)).alloc (.cells d u)=W):Ext w W/\Blk W w.heap.size t c/\Blk W (w.heap.size+1) u d:=by
 have a:=Ext.x1_ (w:=w) (c:=c) (t:=t) rfl;have b:=Ext.x1_ h;rw [World.size_alloc] at b;exact⟨a.1.trans b.1,Blk.ext a.2 b.1,b.2⟩
theorem Ext.x3_ {w W:j2}{c d e:Array j6}{t u v:TypeId}(h:((w.alloc (.cells c t)).alloc (.cells d u)).alloc (.cells e v)=W):Ext w W/\Blk W w.heap.size t c/\Blk W (w.heap.size+1) u d/\Blk W (w.heap.size+1+1) v e:=by
 have a:=Ext.x1_ (w:=w) (c:=c) (t:=t) rfl;have b:=Ext.x2_ h;rw [World.size_alloc] at b;exact⟨a.1.trans b.1,Blk.ext a.2 b.1,b.2⟩
theorem Ext.x4_ {w W:j2}{c d e f:Array j6}{t u v x:TypeId}(h:(((w.alloc (.cells c t)).alloc (.cells d u)).alloc (.cells e v)).alloc (.cells f x)=W):Ext w W/\Blk W w.heap.size t c/\Blk W (w.heap.size+1) u d/\Blk W (w.heap.size+1+1) v e/\Blk W (w.heap.size+1+1+1) x f:=by
 have a:=Ext.x1_ (w:=w) (c:=c) (t:=t) rfl;have b:=Ext.x3_ h;rw [World.size_alloc] at b;exact⟨a.1.trans b.1,Blk.ext a.2 b.1,b.2⟩
theorem Blk.cells (h:Blk w g t cs):∀ W,Ext w W->∀ i,W.cell? ⟨g,i,fW⟩=cs[i]?:=fun _ hW=>(h.ext hW).cell
theorem Blk.frm (h:Blk w g t cs)(hb:Frm S w w')(hg:¬ S g):Blk w' g t cs:=(hb.block g h.lt hg).trans h
theorem Blk.ae (h:Blk w g t cs) (i:Nat) (u:j6):Blk (w.setCell ⟨g,i,fW⟩ u) g t (cs.setIfInBounds i u):=by
 unfold Blk at h ⊢;simp [World.setCell,Array.getElem?_modify,h]
end
theorem Blk.diff {h:Nat}   (a:Blk w g t cs) (b:Blk w h u ds)(hne:t≠u):g≠h:=by
 rintro rfl;unfold Blk at a b;rw [a] at b;injection b with b
 injection b with _ b
 exact hne b
theorem zcC (h:Ext (w.alloc (.cells cs t)) w'):Blk w' w.heap.size t cs:=(Blk.new w t cs).ext h
theorem zJ (h:Ext ((w.alloc (.cells cs t)).alloc (.cells ds u)) w'):Blk w' w.heap.size t cs/\Blk w' (w.heap.size+1) u ds:=by
 refine⟨zcC (((Ext.refl _).alloc _).trans h),?_⟩;have:=zcC h;simpa using this
theorem zL {es:Array j6} {v:TypeId}(h:Ext (((w.alloc (.cells cs t)).alloc (.cells ds u)).alloc (.cells es v)) w'):Blk w' w.heap.size t cs/\Blk w' (w.heap.size+1) u ds/\Blk w' (w.heap.size+1+1) v es:=by
 have a:=zJ (((Ext.refl _).alloc _).trans h);refine⟨a.1,a.2,?_⟩;have:=zcC h;simpa using this
theorem Blk.far (h:Blk w g t cs) (hp:g≠p.block) (u:j6):Blk (w.setCell p u) g t cs:=(Below.heap_setCell w p u g hp).trans h
theorem zdd (h:Ext (w.alloc (.cells cs t)) w'):∀ j,w'.cell? ⟨w.heap.size,j,fW⟩=cs[j]?:=(zcC h).cell
def Reads (w:j2) (lo hi size:Nat) (A:Option Addr) (n:Nat) (xs:List j6):Prop:=
 xs.length=n*size/\n<=9223372036854775807/\(0<n->∃ ad,A=fV ad/\lo<=ad.block/\ad.block<hi/\∀ j u,xs[j]?=fV u->w.cell? (ad.add j)=fV u)
section
variable {w w':j2} {lo hi size n:Nat} {A:Option Addr} {xs:List j6}
theorem Reads.nil:Reads w lo hi size A 0 []:=⟨sM,oM,fun h=>absurd h oM⟩
theorem Reads.len (h:Reads w lo hi size A n xs):n<=9223372036854775807:=h.2.1
theorem Reads.length (h:Reads w lo hi size A n xs):xs.length=n*size:=h.1
theorem Reads.at_ (h:Reads w lo hi size A n xs)(hk:k<n):∃ ad,A=fV ad/\lo<=ad.block/\ad.block<hi/\∀ j u,xs[j]?=fV u->w.cell? (ad.add j)=fV u:=h.2.2 oM
theorem Reads.one (h:Reads w lo hi 1 A n xs)(hk:k<n):∃ ad u,A=fV ad/\lo<=ad.block/\ad.block<hi/\Hid (xs[k]?=fV u)/\w.cell? (ad.add k)=fV u:=by
 obtain⟨ad,e,c,a,b⟩:=h.2.2 oM;have hx:k<xs.length:=oH h.1;exact⟨ad,xs[k],e,c,a,dC hx,b k _ (dC hx)⟩
theorem Reads.more (h:Reads w lo hi size A n xs)(hL:lo'<=lo)(hH:hi<=hi'):Reads w lo' hi' size A n xs:=
 ⟨h.1,h.2.1,fun hn=>by
  obtain⟨ad,e,hl,hb,hc⟩:=h.2.2 hn
  exact⟨ad,e,oM,oM,hc⟩⟩
theorem Reads.ext (h:Reads w lo hi size A n xs)(hb:Ext w w'):Reads w' lo hi size A n xs:=
 ⟨h.1,h.2.1,fun hn=>by
  obtain⟨ad,e,hl,hi,hc⟩:=h.2.2 hn
  exact⟨ad,e,hl,hi,fun j u hu=>hb.aa (hc j u hu)⟩⟩
theorem Reads.frm (h:Reads w lo hi size A n xs)(hb:Frm S w w')(hS:∀ k,lo<=k->k<hi->¬ S k):Reads w' lo hi size A n xs:=
 ⟨h.1,h.2.1,fun hn=>by
  obtain⟨ad,e,hl,hi,hc⟩:=h.2.2 hn
  refine⟨ad,e,hl,hi,fun j u hu=>?_⟩
  have hcell:=hc j u hu
  have hlt:=World.block_lt_of_cell? w _ hcell
  exact (World.cell?_of_block (w:=w) (hb.block _ hlt (by rw [ziP];exact hS _ hl hi))).trans hcell⟩
theorem Reads.af (h:w.ownsRow base e size (fF A n c) n xs):Reads w base w.heap.size size A n xs:=by
 rcases h.2 with ⟨o,i⟩|⟨g,d,f,m,k,hg,l,a,_,b⟩
 ·subst i;have hx:xs=[]:=dQ (by simpa using h.1);subst hx;exact Reads.nil
 ·have j:A=fV ⟨g,0,fW⟩:=by injection m
  subst j;exact⟨h.1,by unfold maxLen at a;omega,fun _=>⟨_,rfl,k,(Array.getElem?_eq_some_iff.1 hg).1,h.cells (g:=g) rfl⟩⟩
end
theorem zX {P:Program} (wb w:j2) {ops:Array Oper} {rest:List Oper} {o:Oper} {a:Act} {Q:Exit->Act->j2->Prop}(hgd:o.guard=fW) (s x:Operand) (t:TypeId)
  (ho:o.op=.call { callee:=.builtin .append,args:=#[s,x],argTypes:=#[t,t] })
  (e:TypeId) (z:j6) (size bytes:Nat) (ht:P.underlying t=fV (.slice e)) (hi:(P.info? e).map (fun i=>(i.zero,i.size,i.bytes))=fV (fV z,size,bytes)) (hzs:z.cells.size=size) (hsz:0<size)
  (v:j6) (n:Nat) (xs:List j6) (us:Array j6) (e':TypeId) (hs:a.eval s=v) (hx:a.eval x=fF (fV w.heap.size) 1 1)
  (zkt:Ext wb w) (zkr:w.ownsRow wb.heap.size e size v n xs) (hus:us.size=size) (h1:∀ u∈us.toList,u.oneCell'=jV)
  (h63:n+1<=maxLen) (hbytes:(n+1)*bytes<=140737488355328)
  (h:∀ v' w',Ext wb w'->w'.ownsRow wb.heap.size e size v' (n+1) (xs++us.toList)->w.grownBy w' v.ownBlock->(v'.ownBlock=v.ownBlock\/v'.ownBlock=fV (w.heap.size+1))->wpList P ops Q rest (a.put o.dst v') w') :
  wpList P ops Q (o :: rest) a (w.alloc (.cells us e')):=by
 obtain⟨i,c,d,f,g⟩:=info_parts hi;refine wpList_append_own_at (w.alloc (.cells us e')) hgd s x t ho wb.heap.size e i z size bytes ht c d f g hzs hsz v n xs hs (zkr.alloc _) ⟨w.heap.size,0,fW⟩ 1 1 us.toList hx (by simpa using hus) ?_ h1 h63 hbytes (by have:=zkt.size;simp;omega) ?_
 ·intro j u hu;rw [zad,dX,(Blk.new w e' us).cell];simpa using hu
 ·intro v' w' hown' hg _ hat;have b:w.grownBy w' v.ownBlock:=⟨hg.os,hg.tape,hg.output,dL sM hg.size,fun k hk hne=>(hg.block k (by simp;omega) hne).trans (Below.heap_alloc w _ k hk)⟩;exact h v' w' (zkt.grown b (fun k hk=>(zkr.lt k hk).1)) hown' b (by simpa using hat)
theorem zbi {P:Program} (wb w:j2) {ops:Array Oper} {rest:List Oper} {o:Oper} {a:Act} {Q:Exit->Act->j2->Prop}(hgd:o.guard=fW) (l c:Operand) (t:TypeId)(ho:o.op=.makeSlice t l c)
  (e:TypeId) (z:j6) (size bytes:Nat) (ht:P.underlying t=fV (.slice e)) (hi:(P.info? e).map (fun i=>(i.zero,i.size,i.bytes))=fV (fV z,size,bytes))
  (kl kc:IntKind) (n:Nat) (hl:a.eval l=.int kl (n:Int)) (hc:a.eval c=.int kc (n:Int)) (zkt:Ext wb w) (hbytes:n*bytes<=140737488355328) (h63:n<=maxLen)
  (h:∀ w',Ext wb w'->w'.ownsRow wb.heap.size e size (fF (fV w.heap.size) n n) n (madeCells z.cells (n*size)).toList->Ext w w'->w.heap.size<w'.heap.size->wpList P ops Q rest (a.put o.dst (fF (fV w.heap.size) n n)) w') :
  wpList P ops Q (o :: rest) a w:=by
 obtain⟨i,d,f,j,k⟩:=info_parts hi;refine wpList_make_full w hgd l c t ho wb.heap.size e i z size ht d f j kl kc n n n hl hc rfl rfl (by rw [k,fJ];omega) h63 zkt.size ?_;intro w' zkr hg;refine h w' (zkt.grown hg sM) zkr ((Ext.refl _).grown hg sM) ?_;rcases zkr.2 with ⟨b,_⟩|⟨g,m,p,b,_,q,_⟩
 ·simp at b
 ·have:w.heap.size=g:=by injection b with h1;injection h1 with h1;injection h1
  subst this;exact (Array.getElem?_eq_some_iff.1 q).1
theorem zh {size:Nat}   (h:w.ownsRow base e size v n xs):∃ A c,v=fF A n c:=by
 rcases h.2 with ⟨rfl,d⟩|⟨g,a,b,rfl,_⟩
 ·exact⟨fW,0,by rw [d]⟩
 ·exact⟨_,_,rfl⟩
theorem zaM (n:Int):∀ u∈(#[Value.int iX n]:Array j6).toList,u.oneCell'=jV:=by simp [Value.oneCell']
theorem cells_bool (b:Bool):∀ u∈(#[j9 b]:Array j6).toList,u.oneCell'=jV:=by simp [Value.oneCell']
theorem zjz (n:Int):∀ u∈(#[Value.int .u8 n]:Array j6).toList,u.oneCell'=jV:=by simp [Value.oneCell']
theorem zaG (A:Option Addr) (n c:Nat):∀ u∈(#[fF A n c]:Array j6).toList,u.oneCell'=jV:=by simp [Value.oneCell']
def ints (l:List Int):List j6:=l.map (Value.int iX)
theorem zde (l:List Int):(ints l).length=l.length:=by simp [ints]
def zaa (l:List Bool):List j6:=l.map Value.bool
theorem zbX (l:List Bool):(zaa l).length=l.length:=by simp [zaa]
theorem ints_get {l:List Int}  {u:j6}(h:(ints l)[k]?=fV u):∃ n,l[k]?=fV n/\u=.int iX n:=by
 simp only [ints,dP,gE] at h;obtain⟨n,a,rfl⟩:=h;exact⟨n,a,rfl⟩
theorem bools_get {l:List Bool}  {u:j6}(h:(zaa l)[k]?=fV u):∃ n,l[k]?=fV n/\u=.bool n:=by
 simp only [zaa,dP,gE] at h;obtain⟨n,a,rfl⟩:=h;exact⟨n,a,rfl⟩
theorem Reads.int {l:List Int}(h:Reads w lo hi 1 A n (ints l))(hk:k<n):∃ ad x,A=fV ad/\lo<=ad.block/\ad.block<hi/\Hid (l[k]?=fV x)/\w.cell? (ad.add k)=fV (.int iX x):=by
 obtain⟨ad,u,e,d,b,hx,c⟩:=h.one hk;obtain⟨x,a,rfl⟩:=ints_get hx.out;exact⟨ad,x,e,d,b,a,c⟩
theorem Reads.bool {l:List Bool}(h:Reads w lo hi 1 A n (zaa l))(hk:k<n):∃ ad x,A=fV ad/\lo<=ad.block/\ad.block<hi/\Hid (l[k]?=fV x)/\w.cell? (ad.add k)=fV (.bool x):=by
 obtain⟨ad,u,e,d,b,hx,c⟩:=h.one hk;obtain⟨x,a,rfl⟩:=bools_get hx.out;exact⟨ad,x,e,d,b,a,c⟩
def zfl (w:j2) (lo hi:Nat) (rows:List j6) (ls:List (List Int)):Prop:=
 rows.length=ls.length/\∀ (i:Nat) (row:j6) (l:List Int),rows[i]?=fV row->ls[i]?=fV l->∃ A c,row=fF A l.length c/\Reads w lo hi 1 A l.length (ints l)
def zbQ (w:j2) (lo hi:Nat) (A:Option Addr) (n:Nat) (ls:List (List Int)):Prop:=
 n=ls.length/\∃ rows,Reads w lo hi 1 A n rows/\zfl w lo hi rows ls
section
variable {w w':j2} {lo hi n k:Nat} {A:Option Addr} {ls:List (List Int)} {rows:List j6}
theorem zfl.ext (h:zfl w lo hi rows ls)(hb:Ext w w'):zfl w' lo hi rows ls:=
 ⟨h.1,fun i row l hr hl=>by
  obtain⟨A,c,e,hx⟩:=h.2 i row l hr hl
  exact⟨A,c,e,hx.ext hb⟩⟩
theorem zbQ.ext (h:zbQ w lo hi A n ls)(hb:Ext w w'):zbQ w' lo hi A n ls:=by
 obtain⟨e,a,b,hx⟩:=h;exact⟨e,a,b.ext hb,hx.ext hb⟩
theorem zfl.frm (h:zfl w lo hi rows ls)(hb:Frm S w w')(hS:∀ k,lo<=k->k<hi->¬ S k):zfl w' lo hi rows ls:=
 ⟨h.1,fun i row l hr hl=>by
  obtain⟨A,c,e,hx⟩:=h.2 i row l hr hl
  exact⟨A,c,e,hx.frm hb hS⟩⟩
theorem zbQ.frm (h:zbQ w lo hi A n ls)(hb:Frm S w w')(hS:∀ k,lo<=k->k<hi->¬ S k):zbQ w' lo hi A n ls:=by
 obtain⟨e,a,b,hx⟩:=h;exact⟨e,a,b.frm hb hS,hx.frm hb hS⟩
theorem zfl.more (h:zfl w lo hi rows ls)(hL:lo'<=lo)(hH:hi<=hi'):zfl w lo' hi' rows ls:=
 ⟨h.1,fun i row l hr hl=>by
  obtain⟨A,c,e,hx⟩:=h.2 i row l hr hl
  exact⟨A,c,e,hx.more hL hH⟩⟩
theorem zbQ.more (h:zbQ w lo hi A n ls)(hL:lo'<=lo)(hH:hi<=hi'):zbQ w lo' hi' A n ls:=by
 obtain⟨e,a,b,hx⟩:=h;exact⟨e,a,b.more hL hH,hx.more hL hH⟩
theorem zbQ.len (h:zbQ w lo hi A n ls):n<=9223372036854775807:=by
 obtain⟨_,a,b,_⟩:=h;exact b.len
theorem zbQ.row (h:zbQ w lo hi A n ls)(hk:k<n):∃ ad Ak ck l,A=fV ad/\lo<=ad.block/\ad.block<hi/\Hid (ls[k]?=fV l)/\w.cell? (ad.add k)=fV (fF Ak l.length ck)/\Reads w lo hi 1 Ak l.length (ints l):=by
 obtain⟨e,b,i,hx⟩:=h;obtain⟨ad,u,c,g,d,j,f⟩:=i.one hk;have hlt:k<ls.length:=oM;obtain⟨Ak,ck,rfl,a⟩:=hx.2 k u ls[k] j.out (dC hlt);exact⟨ad,Ak,ck,ls[k],c,g,d,dC hlt,f,a⟩
end
section
variable {w w':j2} {base base' size size' n n':Nat} {e e':TypeId} {v v':j6} {xs xs':List j6}
theorem zi (h:w.ownsRow base e size v n xs)(hb:Ext w w'):w'.ownsRow base e size v n xs:=by
 refine⟨h.1,?_⟩;rcases h.2 with d|⟨g,a,b,f,hg,c,r⟩
 ·exact .inl d
 ·exact .inr ⟨g,a,b,f,hg,(hb.heap (Array.getElem?_eq_some_iff.1 c).1).trans c,r⟩
theorem zf (h:w.ownsRow base e size v n xs)(hb:Frm S w w')(hS:∀ b,v.ownBlock=fV b->¬ S b):w'.ownsRow base e size v n xs:=by
 refine⟨h.1,?_⟩;rcases h.2 with i|⟨g,a,c,f,hg,d,r⟩
 ·exact .inl i
 ·exact .inr ⟨g,a,c,f,hg,(hb.block g (Array.getElem?_eq_some_iff.1 d).1 (hS g (by rw [f];rfl))).trans d,r⟩
theorem zbA (h:w.ownsRow base e size v n xs)(hb:Frm S w w')(hS:∀ b,base<=b->¬ S b):w'.ownsRow base e size v n xs:=zf h hb fun b hv=>hS b (h.lt b hv).1
theorem zn (h:w.ownsRow base e size v n xs)(hb:base'<=base):w.ownsRow base' e size v n xs:=by
 refine⟨h.1,?_⟩;rcases h.2 with c|⟨g,a,b,d,hg,r⟩
 ·exact .inl c
 ·exact .inr ⟨g,a,b,d,oM,r⟩
theorem zat (h:w.ownsRow base e size v n xs)(h':w.ownsRow base' e' size' v' n' xs')(hne:e≠e') (hb:v.ownBlock=fV b):v'.ownBlock≠fV b:=by
 rcases h.2 with ⟨rfl,_⟩|⟨g,i,j,rfl,_,l,_⟩
 ·simp [Value.ownBlock] at hb
 ·rcases h'.2 with ⟨rfl,_⟩|⟨k,d,f,rfl,_,a,_⟩
  ·simp [Value.ownBlock]
  ·have c:g=b:=by simpa [Value.ownBlock] using hb
   subst c;intro he;have hg:k=g:=by simpa [Value.ownBlock] using he
   subst hg;rw [l] at a;injection a with a
   injection a with _ ht
   exact hne ht
theorem zaF {cap:Nat}(h:w.ownsRow base e size (fF (fV g) n cap) n xs) (j:Nat)(hj:j<n*size):∃ u,w.cell? ⟨g,j,fW⟩=fV u:=by
 have hx:j<xs.length:=by rw [h.1];exact hj
 exact⟨xs[j],by rw [h.cellAt j hj,dC hx]⟩
theorem zcO (h:w.ownsRow base e size v n xs):xs.length=n*size:=h.1
end
theorem Ext.ak (h:Ext w w'):Frm S w w':=⟨h.os,h.tape,h.output,h.size,fun k hk _=>h.block k hk id⟩
theorem Frm.ab {row:Option Nat}(h:w.grownBy w' row):Frm (fun k=>row=fV k) w w':=
 ⟨h.os,h.tape,h.output,h.size,fun k hk hn=>h.block k hk (fun e=>hn e.symm)⟩
theorem Frm.setCell (w:j2) (g j:Nat) (u:j6):Frm (fun k=>k=g) w (w.setCell ⟨g,j,fW⟩ u):=
 ⟨rfl,rfl,rfl,by simp [World.setCell],fun k _ hn=>Below.heap_setCell _ _ _ _ hn⟩
theorem Frm.trans {b c:j2}(h:Frm S a b) (k:Frm S b c):Frm S a c:=
 ⟨k.os.trans h.os,k.tape.trans h.tape,k.output.trans h.output,dL h.size k.size,fun i hi hn=>(k.block i (eC hi h.size) hn).trans (h.block i hi hn)⟩
theorem Frm.mono {b:j2}(h:Frm S a b)(hS:∀ k,k<a.heap.size->S k->T k):Frm T a b:=
 ⟨h.os,h.tape,h.output,h.size,fun k hk hn=>h.block k hk (fun hs=>hn (hS k hk hs))⟩
theorem Frm.refl (S:Nat->Prop) (w:j2):Frm S w w:=⟨rfl,rfl,rfl,dE _,fun _ _ _=>rfl⟩
theorem Frm.cell (h:Frm S a w) (hp:S p.block) (u:j6):Frm S a (w.setCell p u):=
 ⟨h.os,h.tape,h.output,by simpa [World.setCell] using h.size,fun k hk hn=>(Below.heap_setCell _ _ _ _ (by rintro rfl;exact hn hp)).trans (h.block k hk hn)⟩
theorem Frm.ext (h:Frm S a w)(hb:Ext w w'):Frm S a w':=h.trans hb.ak
theorem Ext.frm {b c:j2}(h:Ext a b) (k:Frm S b c)(hS:∀ k,k<a.heap.size->¬ S k):Ext a c:=
 ⟨k.os.trans h.os,k.tape.trans h.tape,k.output.trans h.output,dL h.size k.size,fun i hi hn=>(k.block i (eC hi h.size) (hS i hi)).trans (h.block i hi hn)⟩
section
variable {α:Type} {l:List α} {p:α->Bool} {k:Nat} {x:α}
theorem zaQ (h:l[k]?=fV x)(hp:p x=j3):l.all p=j3:=
 List.all_eq_false.2 ⟨x,dD h,by simp [hp]⟩
theorem zcB (h:l[k]?=fV x)(hk:(l.take k).all p=jV)(hp:p x=jV):(l.take (k+1)).all p=jV:=by
 rw [dO,h,List.all_append,hk];simp [hp]
theorem zeB (hk:l.length<=k)(h:(l.take k).all p=jV):l.all p=jV:=by
 rwa [List.take_of_length_le hk] at h
end
def Sm (n:Nat):Prop:=n<4294967296
theorem Sm.lt (h:Sm n):n<4294967296:=h
theorem Sm.or {a:Nat}(ha:Sm a)(hb:Sm b):Sm (a|||b):=Nat.or_lt_two_pow (n:=32) ha hb
theorem Sm.and_left {a:Nat} (b:Nat)(ha:Sm a):Sm (a&&&b):=jF Nat.and_le_left ha
theorem Sm.bit (h:n<32):Sm (2 ^ n):=Nat.pow_lt_pow_right oM h
theorem zcG (a:Nat)(ha:a<9223372036854775808):(BitVec.ofInt 64 (a:Int)).toNat=a:=by
 rw [BitVec.ofInt_natCast,BitVec.toNat_ofNat];exact Nat.mod_eq_of_lt oM
theorem zdq {a:Nat}(ha:Sm a)(hb:Sm b):bits .and iX (a:Int) (b:Int)=((a&&&b:Nat):Int):=by
 have hx:=(Sm.and_left b ha).lt;have:=ha.lt;have:=hb.lt;show IntKind.i64.wrap ((BitVec.ofInt 64 (a:Int)&&&BitVec.ofInt 64 (b:Int)).toNat:Int)=_;rw [BitVec.toNat_and,zcG a oM,zcG b oM,IntKind.wrap_i64];omega
theorem zcf {a:Nat}(ha:Sm a)(hb:Sm b):bits .or iX (a:Int) (b:Int)=((a|||b:Nat):Int):=by
 have hx:=(Sm.or ha hb).lt;have:=ha.lt;have:=hb.lt;show IntKind.i64.wrap ((BitVec.ofInt 64 (a:Int)|||BitVec.ofInt 64 (b:Int)).toNat:Int)=_;rw [BitVec.toNat_or,zcG a oM,zcG b oM,IntKind.wrap_i64];omega
theorem and_one (hx:Sm x):bits .and iX (x:Int) 1=((x % 2:Nat):Int):=by
 have:=zdq hx (b:=1) tM;rw [nat_mask1] at this;exact this
theorem div_pow (x n:Nat):(x:Int) / 2 ^ n=((x / 2 ^ n:Nat):Int):=sM
theorem zgr (hx:Sm x)(hn:32<=n):x.testBit n=j3:=
 Nat.testBit_lt_two_pow (eC hx.lt (by rw [show (4294967296:Nat)=2 ^ 32 from rfl];exact eE oM hn))
theorem zib (hx:Sm x) (n:Nat):(bits .and iX ((x:Int) / 2 ^ min n 64) 1==1)=x.testBit n:=by
 rw [div_pow,and_one (jF (iK _ _) hx)]
 by_cases hn:n<=64
 ·rw [Nat.min_eq_left hn,j1];rw [Bool.eq_iff_iff];simp only [beq_iff_eq,decide_eq_true_eq];omega
 ·rw [Nat.min_eq_right oM,zgr hx oM];have:x / 2 ^ 64=0:=jA (Nat.lt_trans hx.lt dM);rw [this];decide
def hasB (s:Nat) (n:Int):Bool:=decide (0<=n)&&s.testBit n.toNat
def letters (a k:Nat):List Nat:=(eU k).filter fun l=>a.testBit l
theorem zbu (a k:Nat):letters a (k+1)=letters a k++if a.testBit k then [k] else []:=by
 unfold letters;rw [List.range_succ,List.filter_append];cases h:a.testBit k<;>simp [h]
theorem zA (a k:Nat):(letters a k).length<=k:=by
 unfold letters;have:=List.length_filter_le (fun l=>a.testBit l) (eU k);simpa using this
def zah (l:List Nat):List j6:=l.map fun n:Nat=>Value.int iX (n:Int)
theorem nats_length (l:List Nat):(zah l).length=l.length:=by simp [zah]
theorem zaj (a:Int) (w:j2) :
  j8 j5 82 #[a] w fun e w'=>e=j7 (.bool (decide (0<=a/\a<=63)))/\w=w':=by
 by_cases h0:0<=a
 ·go_enter Tryz.func82,Tryz.ntmps82
  go_wp2;go_ret;exact⟨by simp [h0],rfl⟩
 ·go_enter Tryz.func82,Tryz.ntmps82
  go_wp2;go_ret;exact⟨by simp;omega,rfl⟩
theorem zZ (a:Int) (w:j2) :
  j8 j5 142 #[a] w fun e w'=>e=j7 (.bool (decide (0<=a/\a<=63)))/\w=w':=by
 by_cases h0:0<=a
 ·go_enter Tryz.func142,Tryz.ntmps142
  go_wp2;go_ret;exact⟨by simp [h0],rfl⟩
 ·go_enter Tryz.func142,Tryz.ntmps142
  go_wp2;go_ret;exact⟨by simp;omega,rfl⟩
theorem zcM (s:ByteArray) (i:Nat)(h:i<s.size):(s[i].toNat:Int)<256:=by
 have:=s[i].toNat_lt;omega
def ltr (b:Int):Int:=if b - 97<0\/6<=b - 97 then -1 else b - 97
theorem zo {a b:Bool}(h:a=b):j7 (.bool a)=j7 (.bool b):=by rw [h]
theorem zav {k:IntKind} {a b:Int}(h:a=b):j7 (.int k a)=j7 (.int k b):=by rw [h]
theorem zbf (s:ByteArray) (i:Nat)(hi:i<s.size) (w:j2) :
  j8 j5 121 #[s,i] w fun e w'=>e=j7 (.int iX (ltr s[i].toNat))/\w=w':=by
 have a:=zcM s i hi
 by_cases h0:(s[i].toNat:Int) - 97<0
 ·go_enter Tryz.func121,Tryz.ntmps121
  go_wp2;go_ret;exact⟨zav (by rw [ltr,if_pos (Or.inl h0)]),rfl⟩
 ·by_cases h1:6<=(s[i].toNat:Int) - 97
  ·go_enter Tryz.func121,Tryz.ntmps121
   go_wp2;go_ret;exact⟨zav (by rw [ltr,if_pos (Or.inr h1)]),rfl⟩
  ·go_enter Tryz.func121,Tryz.ntmps121
   go_wp2;go_ret;exact⟨zav (by rw [ltr,if_neg oM]),rfl⟩
theorem zbJ (s:ByteArray) (i:Nat)(hi:i<s.size) (w:j2) :
  j8 j5 144 #[s,i] w fun e w'=>e=j7 (.int iX (s[i].toNat - 97))/\w=w':=by
 have a:=zcM s i hi
 go_enter Tryz.func144,Tryz.ntmps144
 go_wp2;go_ret;exact⟨rfl,rfl⟩
theorem zax (s n:Nat)(hs:Sm s) (w:j2)(hn:n<9223372036854775808) :
  j8 j5 143 #[s,n] w fun e w'=>e=j7 (.bool (s.testBit n))/\w=w':=by
 have c:IntKind.u64.wrap (n:Int)=n:=by rw [IntKind.wrap_u64];omega
 have a:=zib hs n;have b:=za a;clear a
 go_enter Tryz.func143,Tryz.ntmps143
 go_wp2;go_ret;exact⟨by simp [b.out],rfl⟩
theorem zbN (s:Nat) (n:Int)(hs:Sm s) (w:j2) :
  j8 j5 127 #[s,n] w fun e w'=>e=j7 (.bool (hasB s n))/\w=w':=by
 have a:=zib hs n.toNat;have b:=za a;clear a
 by_cases h0:0<=n
 ·go_enter Tryz.func127,Tryz.ntmps127
  go_wp2;go_ret;exact⟨by simp [b.out,hasB,h0],rfl⟩
 ·go_enter Tryz.func127,Tryz.ntmps127
  go_wp2;go_ret;exact⟨by simp [hasB];omega,rfl⟩
theorem zR:(j5.info? 3).map (fun i=>(i.zero,i.size,i.bytes))=fV (fV (.int iX 0),1,8):=kM
def zce (w:j2) (xs:List Nat) (e:Ending) (w':j2):Prop:=
 ∃ A c,e=j7 (fF A xs.length c)/\w'.ownsRow w.heap.size 3 1 (fF A xs.length c) xs.length (zah xs)/\Ext w w'
theorem yX01a2 {P:Prop}(h:P:=by
 go_roundw
 case rel=>exact⟨k+1,oM,gM,by rw [Hls.out];first|simpa [zah] using zkA|simpa using zkr,aM⟩
 case measure=>simp [intOf];omega
 ):P:=h
theorem zaf (a:Nat)(hs:Sm a) (w:j2) :
  j8 j5 67 #[a] w (zce w (letters a 6)):=by
 go_enter Tryz.func67,Tryz.ntmps67
 go_wp2
 go_loopw [3,5] (fun v i wr=>∃ k:Nat,k<=6/\i=.int iX k/\wr.ownsRow w.heap.size 3 1 v (letters a k).length (zah (letters a k))/\Ext w wr)
  (fun _ i _=>6 - (intOf i).toNat)
 case atStart=>exact⟨0,dH _,rfl,World.ownsRow_nil _ _ _ _,Ext.refl _⟩
 case round =>
  obtain⟨k,g,rfl,zkr,d⟩:=hrel;have h:=zA a k
  by_cases hlt:k<6
  ·cases hb:a.testBit k
   all_goals
    have f:hasB a k=a.testBit k:=by simp [hasB]
    rw [hb] at f;have b:=zbu a k;rw [hb] at b;have Hls:=za b;clear b hb;go_wp2_with (first
     |(go_at_call 127;refine (zbN a k hs _).mono ?_;rintro e w' ⟨rfl,rfl⟩)
     |(at_builtin;refine zX w wr rfl (.tmp 11) (.tmp 13) _ rfl 3 _ 1 8 Tryz.underlying110 zR rfl dM u3 _ _ _ _ rfl rfl d zkr rfl (zaM _) lM oM ?_;intro v' w1 hext1 zkA hg1 hat1))
    exact yX01a2
  ·obtain rfl:k=6:=oM;obtain⟨A,c,rfl⟩:=zh zkr;go_wp2;go_ret;exact⟨_,_,rfl,zkr,d⟩
def tot (ls:List (List Int)):Nat:=(ls.map List.length).sum
theorem zgs {l:List Int}(h:ls[k]?=fV l):tot (ls.take (k+1))=tot (ls.take k)+l.length:=by
 rw [dO,h];simp [tot]
theorem tot_append (a b:List (List Int)):tot (a++b)=tot a+tot b:=by simp [tot]
theorem ziq (ls:List (List Int)) (k:Nat):tot (ls.take k)<=tot ls:=by
 have h:=tot_append (ls.take k) (ls.drop k);rw [List.take_append_drop] at h;omega
structure Aut where
 al:Int
 next:List (List Int)
 acc:List Bool
def zK (w:j2) (lo hi:Nat) (A:Option Addr) (n:Nat) (A':Option Addr) (n':Nat) (a:Aut):Prop:=
 zbQ w lo hi A n a.next/\n'=a.acc.length/\Reads w lo hi 1 A' n' (zaa a.acc)
section
variable {w w':j2} {lo hi n n':Nat} {A A':Option Addr} {a:Aut}
theorem zK.ext (h:zK w lo hi A n A' n' a)(hb:Ext w w'):zK w' lo hi A n A' n' a:=⟨h.1.ext hb,h.2.1,h.2.2.ext hb⟩
theorem zK.frm (h:zK w lo hi A n A' n' a)(hb:Frm S w w')(hS:∀ k,lo<=k->k<hi->¬ S k):zK w' lo hi A n A' n' a:=⟨h.1.frm hb hS,h.2.1,h.2.2.frm hb hS⟩
theorem zK.more (h:zK w lo hi A n A' n' a)(hL:lo'<=lo)(hH:hi<=hi'):zK w lo' hi' A n A' n' a:=⟨h.1.more hL hH,h.2.1,h.2.2.more hL hH⟩
theorem zK.n1 (h:zK w lo hi A n A' n' a):n=a.next.length:=h.1.1
theorem zK.n2 (h:zK w lo hi A n A' n' a):n'=a.acc.length:=h.2.1
end
def Aut.size (a:Aut):Nat:=a.next.length+tot a.next+a.acc.length
theorem zaK:(j5.info? 4).map (fun i=>(i.zero,i.size,i.bytes))=fV (fV (.bool j3),1,1):=kM
theorem zbs:(j5.info? 110).map (fun i=>(i.zero,i.size,i.bytes))=fV (fV (fF fW 0 0),1,24):=kM
def zB (w:j2) (base:Nat) (rows:List j6) (ls:List (List Int)):Prop:=
 rows.length=ls.length/\(∀ (i:Nat) (row:j6) (l:List Int),rows[i]?=fV row->ls[i]?=fV l->w.ownsRow base 3 1 row l.length (ints l)) /\
  ∀ (i j:Nat) (ri rj:j6) (b:Nat),rows[i]?=fV ri->rows[j]?=fV rj->i≠j->ri.ownBlock=fV b->rj.ownBlock≠fV b
theorem zB.nil (w:j2) (base:Nat):zB w base [] []:=⟨rfl,fun i row l h=>by simp at h,fun i j ri rj b h=>by simp at h⟩
theorem zB.ext (h:zB w base rows ls)(hb:Ext w w'):zB w' base rows ls:=
 ⟨h.1,fun i row l hr hl=>zi (h.2.1 i row l hr hl) hb,h.2.2⟩
theorem zB.row (h:zB w base rows ls)  {row:j6}(hr:rows[i]?=fV row):∃ l,ls[i]?=fV l/\w.ownsRow base 3 1 row l.length (ints l):=by
 have b:i<rows.length:=(kB.1 hr).1;have a:ls[i]?=fV (ls[i]'(by rw [<- h.1];exact b)):=dC _;exact⟨_,a,h.2.1 i row _ hr a⟩
theorem zB.frm (h:zB w base rows ls)(hb:Frm S w w')(hS:∀ (i:Nat) (row:j6) (b:Nat),rows[i]?=fV row->row.ownBlock=fV b->¬ S b):zB w' base rows ls:=
 ⟨h.1,fun i row l hr hl=>zf (h.2.1 i row l hr hl) hb (fun b hb=>hS i row b hr hb),h.2.2⟩
theorem zB.snoc (h:zB w base rows ls)(hb:Ext w w') {row:j6} {l:List Int}(hbase:base<=w.heap.size)(hrow:w'.ownsRow w.heap.size 3 1 row l.length (ints l)) :
  zB w' base (rows++[row]) (ls++[l]):=by
 have c:=h.1;refine⟨by simp [c],fun i r m hr hm=>?_,fun i j ri rj b hri hrj hij hbi=>?_⟩
 ·rcases e9 i rows.length with a|a|a
  ·rw [dJ a] at hr;rw [dJ oM] at hm;exact zi (h.2.1 i r m hr hm) hb
  ·rw [dU oM,a,fU] at hr;rw [dU oM,a,c,fU] at hm;simp at hr hm;subst hr;subst hm;exact zn hrow hbase
  ·rw [dW (by simp;omega)] at hr;cases hr
 ·have g:∀ (i:Nat) (r:j6) (b:Nat),i<rows.length->rows[i]?=fV r->r.ownBlock=fV b->b<w.heap.size:=fun i r b a hr hb=>by
   obtain⟨m,_,o⟩:=h.row hr;exact (o.lt b hb).2
  have f:∀ b,row.ownBlock=fV b->w.heap.size<=b:=fun b hb=>(hrow.lt b hb).1;have a:i<=rows.length:=by have:=(kB.1 hri).1;simp at this;omega
  have d:j<=rows.length:=by have:=(kB.1 hrj).1;simp at this;omega
  rcases dY a with a|a<;>rcases dY d with d|d
  ·rw [dJ a] at hri;rw [dJ d] at hrj;exact h.2.2 i j ri rj b hri hrj hij hbi
  ·rw [dJ a] at hri;subst d;simp at hrj;subst hrj;intro hc;have k:=g i ri b a hri hbi;have n:=f b hc;omega
  ·rw [dJ d] at hrj;subst a;simp at hri;subst hri;intro hc;have k:=g j rj b d hrj hc;have n:=f b hbi;omega
  ·omega
def zfa (w:j2) (base:Nat) (v:j6) (ls:List (List Int)):Prop:=∃ rows,w.ownsRow base 110 1 v ls.length rows/\zB w base rows ls
theorem zfa.ext (h:zfa w base v ls)(hb:Ext w w'):zfa w' base v ls:=by
 obtain⟨a,b,c⟩:=h;exact⟨a,zi b hb,c.ext hb⟩
theorem zB.keep (h:zB w base rows ls)(hb:Frm S w w')(hS:∀ b,base<=b->¬ S b):zB w' base rows ls:=
 ⟨h.1,fun i row l hr hl=>zbA (h.2.1 i row l hr hl) hb hS,h.2.2⟩
theorem zB.less (h:zB w base rows ls)(hb:base'<=base):zB w base' rows ls:=
 ⟨h.1,fun i row l hr hl=>zn (h.2.1 i row l hr hl) hb,h.2.2⟩
theorem zfa.keep (h:zfa w base v ls)(hb:Frm S w w')(hS:∀ b,base<=b->¬ S b):zfa w' base v ls:=by
 obtain⟨a,c,d⟩:=h;exact⟨a,zbA c hb hS,d.keep hb hS⟩
theorem zfa.less (h:zfa w base v ls)(hb:base'<=base):zfa w base' v ls:=by
 obtain⟨a,b,c⟩:=h;exact⟨a,zn b hb,c.less hb⟩
theorem zfa.reads (h:zfa w base (fF A n c) ls)(hn:n=ls.length):zbQ w base w.heap.size A n ls:=by
 obtain⟨a,j,b⟩:=h;subst hn;refine⟨rfl,a,Reads.af j,b.1,fun i row l hr hl=>?_⟩;have d:=b.2.1 i row l hr hl;obtain⟨f,g,rfl⟩:=zh d;exact⟨f,g,rfl,Reads.af d⟩
def zT (w:j2) (base:Nat) (A:Option Addr) (n c:Nat) (A':Option Addr) (n' c':Nat) (a:Aut):Prop:=
 zfa w base (fF A n c) a.next/\n=a.next.length/\w.ownsRow base 4 1 (fF A' n' c') n' (zaa a.acc)/\n'=a.acc.length
theorem zT.ext {a:Aut}(h:zT w base A n c A' n' c' a)(hb:Ext w w'):zT w' base A n c A' n' c' a:=
 ⟨h.1.ext hb,h.2.1,zi h.2.2.1 hb,h.2.2.2⟩
theorem zT.keep {a:Aut}(h:zT w base A n c A' n' c' a)(hb:Frm S w w')(hS:∀ b,base<=b->¬ S b):zT w' base A n c A' n' c' a:=
 ⟨h.1.keep hb hS,h.2.1,zbA h.2.2.1 hb hS,h.2.2.2⟩
theorem zT.less {a:Aut}(h:zT w base A n c A' n' c' a)(hb:base'<=base):zT w base' A n c A' n' c' a:=
 ⟨h.1.less hb,h.2.1,zn h.2.2.1 hb,h.2.2.2⟩
theorem zT.reads {a:Aut}(h:zT w base A n c A' n' c' a):zK w base w.heap.size A n A' n' a:=
 ⟨h.1.reads h.2.1,h.2.2.2,Reads.af h.2.2.1⟩
def RetAut (w:j2) (a:Aut) (e:Ending) (w':j2):Prop:=
 ∃ A n c A' n' c',e=j7 (.agg #[a.al,fF A n c,fF A' n' c'])/\zT w' w.heap.size A n c A' n' c' a/\Ext w w'
def zcA:Op->Bool
 |.move _ | .assign _ | .pick _ _ _ | .binOp _ _ _ _ _ | .unOp _ _ _ | .load _ _ | .fieldAddr _ _ _ | .field _ _ _ | .indexAddr _ _ _ | .index _ _ _ | .extract _ _ | .build _ _ | .slice _ _ _ _ _ | .convert _ _ _=>jV
 |.call { callee:=.builtin .len,.. }=>jV
 |.call { callee:=.builtin .cap,.. }=>jV
 |_=>j3
def okOrd (l:List Oper):List Nat->Array Bool->Bool
 |[],listed=>(Region.ready .any l.toArray listed).isEmpty
 |i :: rest,listed =>
  (match l[i]? with
   |some o=>if zcA o.op then Region.free .any l.toArray listed i&&(Region.ready .any l.toArray listed).contains i else Region.ready .any l.toArray listed==[i]
   |none=>j3)&&okOrd l rest (listed.setIfInBounds i jV)
def zfk (P:Program) (l:List Oper) (Q:Exit->Act->j2->Prop) (S:j2->Prop):List Nat->Act->j2->Prop
 |[],a,w=>Q .normal a w
 |i :: rest,a,w=>match l[i]? with
  |some o=>if zcA o.op then ∃ v,YieldsIf P l.toArray S o v a/\S w/\zfk P l Q S rest (a.put o.dst v) w
   else wpOp P l.toArray Q i (fun a' w'=>S w'/\zfk P l Q S rest a' w') a w
  |none=>False
section
variable {P:Program} {l:List Oper} {Q:Exit->Act->j2->Prop} {S:j2->Prop}
theorem zia (hs:Region.noSelect l.toArray=jV)(hQ:∀ (c:List PanicEntry) (a:Act) (d:Tmp) (v:j6) (w:j2),Q (.panic c) (a.put (fV d) v) w->Q (.panic c) a w) :
  ∀ (ord:List Nat) (listed:Array Bool) (a:Act) (w:j2),okOrd l ord listed=jV->zfk P l Q S ord a w->wpAnyH P .any l.toArray Q S ord.length listed a w
 |[],listed,a,w,hok,h=>by
  simp only [okOrd,List.isEmpty_iff] at hok
  exact wpAnyH_done hok h 0
 |i :: rest,listed,a,w,hok,h=>by
  cases ho:l[i]? with
  |none=>simp [okOrd,ho] at hok
  |some o =>
   simp only [okOrd,ho,dI] at hok
   simp only [zfk,ho] at h
   by_cases hq:zcA o.op=jV
   ·rw [if_pos hq] at hok h
    simp only [dI] at hok
    obtain⟨v,hy,hS,hr⟩:=h
    exact wpAnyH_take (by simpa using ho) hs hok.1.1 hok.1.2 (fun c a w h=>by cases hd:o.dst with|none=>rw [hd] at h;exact h|some d=>rw [hd] at h;exact hQ c a d v w h) hy hS (zia hs hQ rest _ _ _ hok.2 hr)
   ·rw [if_neg hq] at hok h
    refine wpAnyH_all (rs:=[i]) (by simpa using hok.1) sM fun j hj=>?_
    rw [List.mem_singleton.1 hj]
    exact wpOp_mono (fun a' w' h=>⟨h.1,zia hs hQ rest _ _ _ hok.2 h.2⟩) h
theorem zam {a:Act}  (S:j2->Prop) (ord:List Nat)(hm:P.follows .mixedOrders=jV)(hlen:ord.length=l.length)(hs:Region.noSelect l.toArray=jV)(hok:okOrd l ord (Array.replicate l.length j3)=jV)
  (hQ:∀ (c:List PanicEntry) (a:Act) (d:Tmp) (v:j6) (w:j2),Q (.panic c) (a.put (fV d) v) w->Q (.panic c) a w) (hS:S w.drew) (h:S w.drew->zfk P l Q S ord a w.drew):(Code.region id l.toArray jV).wp P Q a w:=by
 refine wp_region_held (S:=S) hm ?_;have:=zia hs hQ ord _ a w.drew hok (h hS);rw [hlen] at this;simpa using this
theorem zcP {a:Act} (h:Q .normal a w):zfk P l Q S [] a w:=h
theorem seq_read {o:Oper}  {a:Act} (ho:l[i]?=fV o)(hq:zcA o.op=jV)(hw:Region.wanted o (yielded l.toArray a.tmps)=jV)
  (hy:∀ W,S W->(execOp a.eval o).run P W=.ok (.value v) W) (hS:S w) (h:zfk P l Q S rest (a.put o.dst v) w):zfk P l Q S (i :: rest) a w:=by
 simp only [zfk,ho,hq,if_true];exact⟨v,.inl ⟨hw,hy⟩,hS,h⟩
theorem seq_skip {o:Oper} {a:Act} (ho:l[i]?=fV o)(hw:Region.wanted o (yielded l.toArray a.tmps)=j3)
  (hS:S w) (h:zfk P l Q S rest (a.put o.dst undef) w):zfk P l Q S (i :: rest) a w:=by
 simp only [zfk,ho];split
 ·exact⟨undef,.inr ⟨hw,rfl⟩,hS,h⟩
 ·unfold wpOp;simp only [eP,ho,hw,jD,if_false];exact⟨hS,h⟩
theorem zal {o:Oper} {a:Act} 
  (h:∀ K:Act->World->Prop,Shut (∀ a w,S w->(S w->zfk P l Q S rest a w)->K a w)->o.wp P a w K Q) (ho:l[i]?=some o:=by rfl) (hq:zcA o.op=false:=by rfl) (hw:Region.wanted o (yielded l.toArray a.tmps)=true:=by rfl):zfk P l Q S (i :: rest) a w:=by
 simp only [zfk,ho,hq];unfold wpOp;simp only [eP,ho,hw,if_true];exact .inl (h _ fun a w hS hW=>⟨hS,hW hS⟩)
end
theorem sQ {A B:Prop}(h:B) (k:Bx B->A:=by
 intro h0
 repeat (first|(refine seq_skip rfl rfl aM ?_;simp only [Act.put,List.setIfInBounds_toArray,List.set_cons_zero,List.set_cons_succ])|(refine seq_read (v:=?_) rfl rfl rfl (fun X hX=>?_) aM ?_;rotate_left;(focus (go_simp<;>with_reducible rfl));simp only [Act.put,List.setIfInBounds_toArray,List.set_cons_zero,List.set_cons_succ]))
 exact h0.out):A:=k ⟨h⟩
theorem sR {P:Program} {l:List Oper} {Q:Exit->Act->World->Prop} {id:Nat} {a:Act}  (S:World->Prop) (ord:List Nat)(h:S w.drew->zfk P l Q S ord a w.drew)(hm:P.follows .mixedOrders=true:=by kernel_rfl)(hlen:ord.length=l.length:=by rfl)(hs:Region.noSelect l.toArray=true:=by kernel_rfl)(hok:okOrd l ord (Array.replicate l.length false)=true:=by kernel_rfl)
  (hQ:∀ (c:List PanicEntry) (a:Act) (d:Tmp) (v:Value) (w:World),Q (.panic c) (a.put (some d) v) w->Q (.panic c) a w:=by exact fun _ _ _ _ _ h=>h) (hS:S w.drew:=by first|assumption|exact (Ext.refl _).drew|(refine Ext.drew ?_;assumption)):(Code.region id l.toArray true).wp P Q a w:=
 zam S ord hm hlen hs hok hQ hS h
structure Edg where
 fr:Int
 le:Int
 ta:Int
deriving DecidableEq
structure Sys where
 al:Int
 st:Int
 edges:List Edg
def zw:List Edg->List j6
 |[]=>[]
 |e :: r=>.int iX e.fr :: .int iX e.le :: .int iX e.ta :: zw r
theorem zbj (l:List Edg):(zw l).length=l.length*3:=by
 induction l with
 |nil=>rfl
 |cons e r ih=>simp only [zw,fO,ih];omega
theorem zcN (l m:List Edg):zw (l++m)=zw l++zw m:=by
 induction l with
 |nil=>rfl
 |cons e r ih=>simp [zw,ih]
theorem zcY {l:List Edg}  {e:Edg}(h:l[k]?=fV e):(zw l)[k*3]?=fV (.int iX e.fr)/\(zw l)[k*3+1]?=fV (.int iX e.le)/\(zw l)[k*3+2]?=fV (.int iX e.ta):=by
 induction l generalizing k with
 |nil=>simp at h
 |cons a r ih =>
  cases k with
  |zero=>simp at h;subst h;exact⟨rfl,rfl,rfl⟩
  |succ k =>
   have:=ih (k:=k) (by simpa using h);have b:(k+1)*3=k*3+1+1+1:=oM;refine⟨?_,?_,?_⟩<;>rw [b]<;>simp only [zw,List.getElem?_cons_succ]
   ·exact this.1
   ·exact this.2.1
   ·exact this.2.2
theorem zdM {ad:Addr} (h:w.cell? (ad.add 0)=fV v):ad=⟨ad.block,ad.off,fW⟩:=by
 rw [addr_zero] at h;obtain⟨b,o,s⟩:=ad;have a:s=fW:=World.cell?_spot h;subst a;rfl
theorem Reads.edge {l:List Edg}(h:Reads w lo hi 3 A n (zw l))(hk:k<n) :
  ∃ b o e,A=fV ⟨b,o,fW⟩/\lo<=b/\b<hi/\Hid (l[k]?=fV e)/\w.cell? ⟨b,o+k*3,fW⟩=fV (.int iX e.fr)/\w.cell? ⟨b,o+k*3+1,fW⟩=fV (.int iX e.le)/\w.cell? ⟨b,o+k*3+2,fW⟩=fV (.int iX e.ta):=by
 obtain⟨g,m,q,p,a⟩:=h.at_ hk;have r:l.length=n:=by have:=h.length;rw [zbj] at this;omega
 have hx:l[k]?=fV l[k]:=dC oM;have hg:=zcY hx;have c:=a _ _ hg.1;have d:=a _ _ hg.2.1;have f:=a _ _ hg.2.2;have j:=zcY (k:=0) (dC (l:=l) oM);rw [jQ] at j;have i:=zdM (a _ _ j.1);rw [i] at c d f;rw [zad] at c d f;exact⟨g.block,g.off,l[k],by rw [m,i],q,p,hx,c,by rw [iC];exact d,by rw [iC];exact f⟩
theorem Reads.edge2 {o:Nat} {l:List Edg} {e:Edg}(h:Reads w lo hi 3 (fV ⟨b,o,fW⟩) n (zw l))(he:l[j]?=fV e) :
  w.cell? ⟨b,o+j*3,fW⟩=fV (.int iX e.fr)/\w.cell? ⟨b,o+j*3+1,fW⟩=fV (.int iX e.le)/\w.cell? ⟨b,o+j*3+2,fW⟩=fV (.int iX e.ta):=by
 have m:j<l.length:=(kB.1 he).1;have p:l.length=n:=by have:=h.length;rw [zbj] at this;omega
 obtain⟨i,a,_,_,c⟩:=h.at_ (k:=j) oM;injection a with a
 subst a;have hg:=zcY he;have d:=c _ _ hg.1;have f:=c _ _ hg.2.1;have g:=c _ _ hg.2.2;rw [zad] at d f g;exact⟨d,by rw [iC];exact f,by rw [iC];exact g⟩
def zY (w:j2) (lo hi:Nat) (A:Option Addr) (n:Nat) (s:Sys):Prop:=n=s.edges.length/\Reads w lo hi 3 A n (zw s.edges)
section
variable {w w':j2} {lo hi n:Nat} {A:Option Addr} {s:Sys}
theorem zY.ext (h:zY w lo hi A n s)(hb:Ext w w'):zY w' lo hi A n s:=⟨h.1,h.2.ext hb⟩
theorem zY.frm (h:zY w lo hi A n s)(hb:Frm S w w')(hS:∀ k,lo<=k->k<hi->¬ S k):zY w' lo hi A n s:=⟨h.1,h.2.frm hb hS⟩
theorem zY.more (h:zY w lo hi A n s)(hL:lo'<=lo)(hH:hi<=hi'):zY w lo' hi' A n s:=⟨h.1,h.2.more hL hH⟩
end
theorem zbm:(j5.info? 117).map (fun i=>(i.zero,i.size,i.bytes))=fV (fV (.agg #[(0:Int),(0:Int),(0:Int)]),3,24):=kM
def OwnE (w:j2) (base:Nat) (A:Option Addr) (n c:Nat) (l:List Edg):Prop:=n=l.length/\w.ownsRow base 117 3 (fF A n c) n (zw l)
theorem OwnE.ext {l:List Edg}(h:OwnE w base A n c l)(hb:Ext w w'):OwnE w' base A n c l:=⟨h.1,zi h.2 hb⟩
def RetSys (w:j2) (s:Sys) (e:Ending) (w':j2):Prop:=
 ∃ A n c,e=j7 (.agg #[s.al,s.st,fF A n c])/\OwnE w' w.heap.size A n c s.edges/\Ext w w'
instance:BEq Edg:=⟨fun a b=>decide (a.fr=b.fr)&&(decide (a.le=b.le)&&decide (a.ta=b.ta))⟩
theorem edg_beq (a b:Edg):(a==b)=(decide (a.fr=b.fr)&&(decide (a.le=b.le)&&decide (a.ta=b.ta))):=rfl
instance:LawfulBEq Edg where
 eq_of_beq {a b} h:=by
  rw [edg_beq] at h;simp only [dI,decide_eq_true_eq] at h;cases a;cases b;simp_all
 rfl {a}:=by rw [edg_beq];simp
def zhA (w:j2) (lo hi:Nat) (A:Option Addr) (n:Nat) (ss:List Sys):Prop:=
 n=ss.length/\∃ cells,Reads w lo hi 3 A n cells/\∀ (k:Nat) (s:Sys),ss[k]?=fV s->∃ (B:Option Addr) (m c:Nat),cells[k*3]?=fV (.int iX s.al)/\cells[k*3+1]?=fV (.int iX s.st)/\cells[k*3+2]?=fV (fF B m c)/\zY w lo hi B m s
section
variable {w w':j2} {lo hi n k:Nat} {A:Option Addr} {ss:List Sys}
theorem zhA.ext (h:zhA w lo hi A n ss)(hb:Ext w w'):zhA w' lo hi A n ss:=by
 obtain⟨e,a,i,hx⟩:=h;refine⟨e,a,i.ext hb,fun k s hs=>?_⟩;obtain⟨B,m,c,b,d,f,g⟩:=hx k s hs;exact⟨B,m,c,b,d,f,g.ext hb⟩
theorem zhA.len (h:zhA w lo hi A n ss):n<=9223372036854775807:=by
 obtain⟨_,a,b,_⟩:=h;exact b.len
theorem zji {u:j6}(h:Reads w lo hi 3 A n xs)(hn:0<n)(hu:xs[0]?=fV u):∃ b o,A=fV ⟨b,o,fW⟩/\lo<=b/\b<hi/\∀ j v,xs[j]?=fV v->w.cell? ⟨b,o+j,fW⟩=fV v:=by
 obtain⟨a,e,g,f,c⟩:=h.at_ hn;have d:=zdM (c 0 u hu);refine⟨a.block,a.off,by rw [e,d],g,f,fun j v hv=>?_⟩;have:=c j v hv;rw [d,zad] at this;exact this
theorem zhA.sys (h:zhA w lo hi A n ss)(hk:k<n):∃ b o s B m c,A=fV ⟨b,o,fW⟩/\lo<=b/\b<hi/\Hid (ss[k]?=fV s)/\w.cell? ⟨b,o+k*3,fW⟩=fV (.int iX s.al)/\w.cell? ⟨b,o+k*3+1,fW⟩=fV (.int iX s.st)/\w.cell? ⟨b,o+k*3+2,fW⟩=fV (fF B m c)/\zY w lo hi B m s:=by
 obtain⟨e,a,t,hx⟩:=h;have d:ss[0]?=fV (ss[0]' oM):=dC _;obtain⟨_,_,_,i,_⟩:=hx 0 _ d;rw [jQ] at i;obtain⟨b,o,rfl,r,q,f⟩:=zji t oM i;have g:ss[k]?=fV (ss[k]' oM):=dC _;obtain⟨B,m,c,d,j,l,p⟩:=hx k _ g;exact⟨b,o,_,B,m,c,rfl,r,q,g,f _ _ d,by rw [iC];exact f _ _ j,by rw [iC];exact f _ _ l,p⟩
end
section
open Go.ChangeShapes Go.WideShapes Go.ChangeAt Go.Deep
theorem own_:ownKnob j5.godebug=fW:=kM
theorem laidOut_:laidOutB j5=jV:=kM
theorem and_t {a b:Bool}(h:a=jV) (k:b=jV):(a&&b)=jV:=by rw [h,k];rfl
end
def Tab (w:j2):Prop:=∀ j,j<64->w.cell? ⟨1,j,fW⟩=fV (.int .u8 (Lib.deBruijn64tab.getD j 0))
theorem Tab.ext (h:Tab w)(hb:Ext w w'):Tab w':=fun j hj=>hb.aa (h j hj)
theorem tz64_core (x k idx:Nat) (w:j2)(hx0:((x:Int)==0)=j3)
  (key:IntKind.u64.wrap (bits BinOp.and IntKind.u64 (x:Int) (IntKind.u64.wrap (-(x:Int)))*285870213051353865) / 288230376151711744=(idx:Int))
  (hi:idx<64) (hk:k<64) (hcell:w.cell? ⟨1,idx,fW⟩=fV (.int .u8 k)) :
  j8 j5 282 #[.int .u64 x] w fun e w'=>e=j7 (.int iX k)/\w=w':=by
 go_enter Tryz.func282,Tryz.ntmps282
 go_wp2_with (simp only [key])
 go_ret;exact⟨rfl,rfl⟩
theorem tz64 (x:Nat)(hx:x<18446744073709551616)(hx0:x≠0) (w:j2)(hT:Tab w) :
  j8 j5 282 #[.int .u64 x] w fun e w'=>e=j7 (.int iX (Lib.ctz 64 x))/\w=w':=by
 obtain⟨b,f⟩:=Lib.lowest_bit 64 x hx0 hx;obtain⟨d,c⟩:=Lib.deBruijn64_at _ f;have a:=hT _ d;rw [c] at a;exact tz64_core x _ _ w (by simp;omega) (tz64_key x _ hx hx0 b) d f a
theorem tz (x:Nat)(hx:x<18446744073709551616)(hx0:x≠0) (w:j2)(hT:Tab w) :
  j8 j5 229 #[.int .u64 x] w fun e w'=>e=j7 (.int iX (Lib.ctz 64 x))/\w=w':=by
 go_enter Tryz.func229,Tryz.ntmps229
 go_wp2_with (go_at_call 282;refine (tz64 x hx hx0 w hT).mono ?_;rintro e w' ⟨rfl,rfl⟩)
 go_ret;exact⟨rfl,rfl⟩
theorem tab_head {rest : List (String × DataW Unit)} (h : laidMet Tryz.prog (("math/bits.deBruijn64tab", Rows.laid_math_bits_deBruijn64tab) :: rest) W) : Tab W := by
 have a : Lib.TabIs Tryz.prog W "math/bits.deBruijn64tab" .u8 (Lib.deBruijn64tab.map fun n : Nat => (n : Int)) :=
  Lib.tabIs_of_head (g:=1) (t:=297) (e:=5) kM kM Tryz.underlying297 Tryz.underlying5 kM kM h
 intro j hj;have:=a.cell (g:=1) kM j (by rw [List.length_map];exact hj);rw [this,List.getD_eq_getElem?_getD,List.getElem?_map,List.getD_eq_getElem?_getD];have b:Lib.deBruijn64tab.length=64:=rfl;rw [List.getElem?_eq_getElem oM];rfl
theorem tab_two {rest : List (String × DataW Unit)} (h : laidMet j5 (("math/bits.deBruijn32tab", Rows.laid_math_bits_deBruijn32tab) :: ("math/bits.deBruijn64tab", Rows.laid_math_bits_deBruijn64tab) :: rest) W) : Tab W := tab_head (laidMet.tail h)
abbrev zbo:=Nat->j2->(Nat->Prop)->Prop
structure zbo.Ok (b0:Nat) (J:zbo):Prop where
 lt:∀ {B:Nat} {W:j2} {S:Nat->Prop},J B W S->∀ k,S k->k<W.heap.size
 low:∀ {B:Nat} {W:j2} {S:Nat->Prop},J B W S->∀ k,S k->b0<=k
 keep:∀ {B:Nat} {W W':j2} {S T:Nat->Prop},J B W S->Frm T W W'->(∀ k,k<W.heap.size->T k->b0<=k/\¬ S k)->J B W' S
 more:∀ {B C:Nat} {W:j2} {S:Nat->Prop},J B W S->B<=C->J C W S
structure Kp (J:zbo) (B:Nat) (S:Nat->Prop) (W W':j2) (S':Nat->Prop):Prop where
 j:J B W' S'
 frm:Frm S W W'
 new:∀ k,S' k->S k\/W.heap.size<=k
section
variable {b0:Nat} {J:zbo} {A B C:Nat} {S S1 S2:Nat->Prop} {W W1 W2:j2}
theorem Kp.refl (h:J B W S):Kp J B S W W S:=⟨h,Frm.refl _ _,fun _ h=>.inl h⟩
theorem Kp.size (h:Kp J B S W W1 S1):W.heap.size<=W1.heap.size:=h.frm.size
theorem Kp.out (h:Kp J B S W W1 S1) (hk:k<W.heap.size)(hS:¬ S k):¬ S1 k:=fun h1=>by
 rcases h.new k h1 with h2|h2
 ·exact hS h2
 ·omega
theorem Kp.trans {J2:zbo}(h:Kp J B S W W1 S1) (k:Kp J2 C S1 W1 W2 S2):Kp J2 C S W W2 S2:=by
 refine⟨k.j,⟨k.frm.os.trans h.frm.os,k.frm.tape.trans h.frm.tape,k.frm.output.trans h.frm.output,dL h.frm.size k.frm.size,fun i hi hn=>?_⟩,fun i hi=>?_⟩
 ·exact (k.frm.block i (eC hi h.frm.size) (h.out hi hn)).trans (h.frm.block i hi hn)
 ·rcases k.new i hi with a|a
  ·exact h.new i a
  ·exact .inr (dL h.frm.size a)
theorem Kp.more (hJ:zbo.Ok b0 J)(h:Kp J B S W W1 S1)(hB:B<=C):Kp J C S W W1 S1:=⟨hJ.more h.j hB,h.frm,h.new⟩
theorem Kp.ext (hJ:zbo.Ok b0 J)(h:Kp J B S W W1 S1)(hx:Ext W1 W2):Kp J B S W W2 S1:=⟨hJ.keep h.j hx (fun _ _ h=>h.elim),h.frm.ext hx,h.new⟩
theorem Kp.own (hJ:zbo.Ok b0 J) (h:Kp J B S W W1 S1)(hf:Frm T W1 W2)(hT:∀ k,k<W1.heap.size->T k->W.heap.size<=k/\b0<=k/\¬ S1 k):Kp J B S W W2 S1:=
 ⟨hJ.keep h.j hf (fun k hk ht=>(hT k hk ht).2),⟨hf.os.trans h.frm.os,hf.tape.trans h.frm.tape,hf.output.trans h.frm.output,dL h.frm.size hf.size,fun i hi hn =>
  (hf.block i (eC hi h.frm.size) (fun ht=>by have:=(hT i (eC hi h.frm.size) ht).1;omega)).trans (h.frm.block i hi hn)⟩,h.new⟩
theorem Kp.cell (hJ:zbo.Ok b0 J)(h:Kp J B S W W1 S1) (hg:W.heap.size<=g)(hb:b0<=g)(hS:¬ S1 g) (j:Nat) (u:j6):Kp J B S W (W1.setCell ⟨g,j,fW⟩ u) S1:=
 h.own hJ (Frm.setCell W1 g j u) (fun k _ e=>by subst e;exact⟨hg,hb,hS⟩)
theorem Kp.grown (hJ:zbo.Ok b0 J)(h:Kp J B S W W1 S1) {row:Option Nat}(hg:W1.grownBy W2 row)(hr:∀ k,row=fV k->W.heap.size<=k/\b0<=k/\¬ S1 k):Kp J B S W W2 S1:=
 h.own hJ (T:=fun k=>row=fV k) (Frm.ab hg) (fun k _ e=>hr k e)
theorem Kp.toExt (h:Kp J B S W W1 S1) (hx:Ext w W)(hS:∀ k,S k->w.heap.size<=k):Ext w W1:=hx.frm h.frm (fun k hk hs=>by have:=hS k hs;omega)
theorem Kp.blk (h:Kp J B S W W1 S1)   (hb:Blk W g t cs)(hS:¬ S g):Blk W1 g t cs/\¬ S1 g:=⟨hb.frm h.frm hS,h.out hb.lt hS⟩
theorem Kp.row (h:Kp J B S W W1 S1) {size:Nat}   (ho:W.ownsRow base e size v n xs)(hS:∀ b,v.ownBlock=fV b->¬ S b):W1.ownsRow base e size v n xs/\∀ b,v.ownBlock=fV b->¬ S1 b:=
 ⟨zf ho h.frm hS,fun b hb=>h.out (ho.lt b hb).2 (hS b hb)⟩
theorem zbo.fresh (hJ:zbo.Ok b0 J)(h:J B W S) (hk:W.heap.size<=k):¬ S k:=fun hs=>by have:=hJ.lt h k hs;omega
end
section
open Go.Maps
structure KeyG {α:Type} (mt kt:TypeId) (val:α->j6) (lit:α->Lit) (dom:α->Prop):Prop where
 keyed:Keyed j5 kt
 und:j5.underlying mt=fV (.map kt 3)
 key:∀ {x:α},dom x->keyOf j5 kt (val x)=fV (lit x)
 inj:∀ {x y:α},dom x->dom y->lit x=lit y->x=y
theorem zeroG (w:j2):(zeroValue 3).run j5 w=.ok (.int iX 0) w:=kM
theorem wfG (h:x<1152921504606846976):(Lit.int iX (x:Int)).wf=jV:=WalkArith.wf_i64 oM
section
variable {α:Type} {mt kt:TypeId} {val:α->j6} {lit:α->Lit} {dom:α->Prop}
def zdJ (kt:TypeId) (lit:α->Lit) (dom:α->Prop) (w:j2) (b n:Nat) (M:α->Option Nat):Prop:=
 ∃ D:DataW Unit,w.ownsMap j5 kt (plainElem j5 3) b n D/\∀ x,dom x->Maps.has D (lit x)=(M x).isSome/\∀ v,M x=fV v->D.atKey (lit x) (.lit (.int iX 0))=.lit (.int iX (v:Int))
open Classical in
noncomputable def ziA (M:α->Option Nat) (x:α) (v:Nat):α->Option Nat:=fun y=>if y=x then fV v else M y
theorem zcL (M:α->Option Nat) (x:α) (v:Nat):ziA M x v x=fV v:=by unfold ziA;rw [if_pos rfl]
theorem zdn (M:α->Option Nat) {x y:α} (v:Nat)(h:y≠x):ziA M x v y=M y:=by unfold ziA;rw [if_neg h]
theorem zdJ.made (w:j2):zdJ kt lit dom (w.alloc (.map #[] 0)) w.heap.size 0 (fun _=>fW):=
 ⟨.map [],World.ownsMap_made _ _ _ _,fun x hx=>⟨rfl,fun v hv=>by cases hv⟩⟩
section
variable {w w':j2} {b n:Nat} {M:α->Option Nat}
theorem zdJ.lt (h:zdJ kt lit dom w b n M):b<w.heap.size:=by
 obtain⟨D,h,_⟩:=h;exact h.lt
theorem zdJ.frm (h:zdJ kt lit dom w b n M)(hf:Frm S w w')(hS:¬ S b):zdJ kt lit dom w' b n M:=by
 obtain⟨D,⟨d,a,c,r⟩,hx⟩:=h;exact⟨D,⟨d,a,(hf.block b (Array.getElem?_eq_some_iff.1 c).1 hS).trans c,r⟩,hx⟩
theorem zdJ.ext (h:zdJ kt lit dom w b n M)(hx:Ext w w'):zdJ kt lit dom w' b n M:=h.frm hx id
theorem zdJ.far (h:zdJ kt lit dom w b n M)   (hg:Blk w g t cs):g≠b:=by
 rintro rfl;obtain⟨D,⟨d,c,a,_⟩,_⟩:=h;unfold Blk at hg;rw [hg] at a;injection a with a
 cases a
theorem zdJ.aj (h:zdJ kt lit dom w b n M)   {size:Nat}  (ho:w.ownsRow base e size v k xs):v.ownBlock≠fV b:=by
 intro hv;obtain⟨D,⟨j,c,a,_⟩,_⟩:=h;rcases ho.2 with ⟨rfl,_⟩|⟨g,d,f,rfl,_,i,_⟩
 ·simp [Value.ownBlock] at hv
 ·have hg:g=b:=by simpa [Value.ownBlock] using hv
  subst hg;rw [i] at a;injection a with a
  cases a
end
variable (w:j2) {ops:Array Oper} {rest:List Oper} {o:Oper} {a:Act} {Q:Exit->Act->j2->Prop}
theorem zdI (K:KeyG mt kt val lit dom)(hg:o.guard=fW) (m x v:Operand)(hop:o.op=Op.mapUpdate mt m x v\/o.op=Op.insert mt m x v)  {M:α->Option Nat}
  (hm:a.eval m=.map (fV b)) (h:zdJ kt lit dom w b n M) (hn:n<1152921504606846976) (key:α) (v9:Nat) (hx:a.eval x=val key) (hv:a.eval v=.int iX (v9:Int)) (hk:dom key) (hv9:v9<1152921504606846976)
  (hK:∀ w',zdJ kt lit dom w' b (n+1) (ziA M key v9)->w.grownBy w' (fV b)->wpList j5 ops Q rest (a.put o.dst undef) w'):wpList j5 ops Q (o :: rest) a w:=by
 refine wpList_plain hg fun K' hK'=>?_;obtain⟨D,zkr,i⟩:=h;have c:=K.key hk;obtain⟨w',g,j,k⟩:=zkr.update K.keyed K.und lM c (plainElem_int (H:=Unit) Tryz.underlying3 (wfG hv9));have d:zdJ kt lit dom w' b (n+1) (ziA M key v9):=⟨_,j,fun y hy=>by
  unfold ziA
  by_cases e:y=key
  ·subst e;rw [if_pos rfl];exact⟨has_put_same zkr.isMap (K.keyed.key c) _,fun u hu=>by rw [atKey_put_same zkr.isMap (K.keyed.key c)];cases hu;rfl⟩
  ·have f:lit y≠lit key:=fun h=>e (K.inj hy hk h);rw [if_neg e,has_put_other f,atKey_put_other f];exact i y hy⟩
 unfold Oper.wp;rcases hop with hop|hop
 all_goals
  simp [execOp,hop,hm,hx,hv,g,Result.andThen];exact hK' _ _ (hK w' d k)
theorem zaL (K:KeyG mt kt val lit dom)(hg:o.guard=fW) (m x:Operand)(hop:o.op=Op.lookup mt m x jV)  {M:α->Option Nat}
  (hm:a.eval m=.map (fV b)) (h:zdJ kt lit dom w b n M) (key:α) (hx:a.eval x=val key) (hk:dom key)
  (hK:∀ c:Int,(∀ v,M key=fV v->c=(v:Int))->wpList j5 ops Q rest (a.put o.dst (.tuple #[c,j9 (M key).isSome])) w):wpList j5 ops Q (o :: rest) a w:=by
 obtain⟨D,zkr,d⟩:=h;refine wpList_lookup_own_ok_int w hg m x _ hop kt 3 iX K.keyed K.und Tryz.underlying3 (zeroG w) b n D hm zkr _ _ hx (K.key hk) ?_;intro c hat _;rw [(d key hk).1];exact hK c (fun v hv=>by
  have:=(d key hk).2 v hv;rw [this] at hat;injection hat with hat
  injection hat with _ hat
  exact hat.symm)
end
theorem keyZ:KeyG 112 3 (fun x:Int=>.int iX x) (fun x:Int=>.int iX x) (fun x => -1152921504606846976<x/\x<1152921504606846976):=
 ⟨int_keyed Tryz.underlying3,Tryz.underlying112,fun h=>keyOf_int_mk Tryz.underlying3 (WalkArith.wf_i64 oM),fun _ _ e=>by injection e⟩
end
def zcU (w:List Nat):Nat:=w.foldl (fun v l=>v*7+(l+1)) 0
theorem zaP (w:List Nat) (l:Nat):zcU (w++[l])=zcU w*7+(l+1):=by simp [zcU]
theorem zgu:zcU []=0:=rfl
theorem zab {α:Type} (w:List α):w=[]\/∃ u l,w=u++[l]:=by
 rcases List.eq_nil_or_concat w with h|⟨u,l,h⟩
 ·exact Or.inl h
 ·exact Or.inr ⟨u,l,by simpa using h⟩
theorem wval_inj:∀ (n:Nat) (u v:List Nat),u.length<=n->(∀ l∈u,l<6)->(∀ l∈v,l<6)->zcU u=zcU v->u=v:=by
 intro n
 induction n with
 |zero =>
  intro u v hu _ _ h;obtain rfl:u=[]:=dQ oM;rcases zab v with rfl|⟨v,m,rfl⟩
  ·rfl
  ·rw [zaP,zgu] at h;omega
 |succ n ih =>
  intro u v hu h1 h2 h;rcases zab u with rfl|⟨u,l,rfl⟩
  ·rcases zab v with rfl|⟨v,m,rfl⟩
   ·rfl
   ·rw [zaP,zgu] at h;omega
  ·rcases zab v with rfl|⟨v,m,rfl⟩
   ·rw [zaP,zgu] at h;omega
   ·have c:=h1 l sM;have d:=h2 m sM;rw [zaP,zaP] at h;have a:l=m:=oM;have b:zcU u=zcU v:=oM;simp only [dN,dV] at hu;rw [a,ih u v oM (fun x hx=>h1 x (by simp [hx])) (fun x hx=>h2 x (by simp [hx])) b]
inductive zbx (d:Nat->Nat->List Nat) (start:List Nat):List Nat->Nat->Prop where
 |nil {x:Nat} (h:x∈start):zbx d start [] x
 |snoc {w:List Nat} {l n x:Nat} (h:zbx d start w n) (hx:x∈d n l):zbx d start (w++[l]) x
theorem zbx.inv {d:Nat->Nat->List Nat} {w:List Nat} (h:zbx d start (w++[l]) x):∃ n,zbx d start w n/\x∈d n l:=by
 generalize hv:w++[l]=v at h;cases h with
 |nil _=>simp at hv
 |@snoc w' l' n _ h hx =>
  have:=List.append_inj' hv rfl;obtain⟨rfl,a⟩:=this;simp at a;subst a;exact⟨n,h,hx⟩
theorem zbx.ah {d:Nat->Nat->List Nat}  (h:zbx d start [] x):x∈start:=by
 generalize hv:([]:List Nat)=v at h;cases h with
 |nil h=>exact h
 |snoc _ _=>simp at hv
def visN (st:List Bool × List Nat) (n:Nat):List Bool × List Nat:=if st.1.getD n jV then st else (st.1.set n jV,st.2++[n])
def vis (S:List Bool) (ns:List Nat):List Bool × List Nat:=ns.foldl visN (S,[])
theorem vis_snoc (S:List Bool) (ns:List Nat) (n:Nat):vis S (ns++[n])=visN (vis S ns) n:=by simp [vis]
theorem zhv (S:List Bool) (ns:List Nat)(hn:∀ n∈ns,n<S.length) :
  (vis S ns).1.length=S.length/\(∀ x,x<S.length->((vis S ns).1.getD x jV=jV↔S.getD x jV=jV\/x∈ns))/\(∀ x,x∈(vis S ns).2↔x∈ns/\S.getD x jV=j3):=by
 have j:∀ k,k<=ns.length->(vis S (ns.take k)).1.length=S.length/\(∀ x,x<S.length->((vis S (ns.take k)).1.getD x jV=jV↔S.getD x jV=jV\/x∈ns.take k))/\(∀ x,x∈(vis S (ns.take k)).2↔x∈ns.take k/\S.getD x jV=j3):=by
  intro k
  induction k with
  |zero=>intro _;exact⟨rfl,fun x _=>by simp [vis],fun x=>by simp [vis]⟩
  |succ k ih =>
   intro hk;obtain⟨g,d,f⟩:=ih oM;have hx:ns[k]?=fV ns[k]:=dC oM;have c:=hn ns[k] (gG _);rw [dO,hx];simp only [eH];generalize ns[k]=n at *;rw [vis_snoc];generalize vis S (ns.take k)=m at *;obtain⟨T,o⟩:=m;simp only at g d f;unfold visN;simp only;cases hT:T.getD n jV
   ·have a:=d n c;rw [hT] at a;have i:S.getD n jV=j3:=by cases h:S.getD n jV<;>simp_all
    have l:n∉ns.take k:=fun h=>by simp [h] at a
    refine⟨by simp [g],fun x hx=>?_,fun x=>?_⟩
    ·simp only [jD,if_false,dF,gW,eT]
     by_cases e:x=n
     ·subst e;rw [List.getElem?_set_self oM];simp
     ·rw [List.getElem?_set_ne oM];have:=d x hx;rw [dF,dF] at this;simp only [e,or_false];exact this
    ·simp only [jD,if_false,gW,eT];constructor
     ·rintro (h|rfl)
      ·exact⟨Or.inl ((f x).1 h).1,((f x).1 h).2⟩
      ·exact⟨Or.inr rfl,i⟩
     ·rintro ⟨h|rfl,b⟩
      ·exact Or.inl ((f x).2 ⟨h,b⟩)
      ·exact Or.inr rfl
   ·refine⟨g,fun x hx=>?_,fun x=>?_⟩
    ·simp only [if_true,gW,eT];rw [d x hx];have a:=(d n c).1 hT;constructor
     ·rintro (h|h)
      ·exact Or.inl h
      ·exact Or.inr (Or.inl h)
     ·rintro (h|h|rfl)
      ·exact Or.inl h
      ·exact Or.inr h
      ·exact a
    ·simp only [if_true,gW,eT];rw [f x];have a:=(d n c).1 hT;constructor
     ·rintro ⟨h,b⟩;exact⟨Or.inl h,b⟩
     ·rintro ⟨h|rfl,b⟩
      ·exact⟨h,b⟩
      ·rcases a with h|h
       ·rw [h] at b;cases b
       ·exact⟨h,b⟩
 have:=j ns.length (dE _);rwa [eL] at this
structure Stp where
 parent:Int
 letter:Nat
 nodes:List Nat
structure Bfs (d:Nat->Nat->List Nat) (start:List Nat) (goal:Nat->Bool) (L:List Nat) (N:Nat) (S:List Bool) (st:List Stp) (ws:List (List Nat)) (i j:Nat):Prop where
 len:S.length=N
 wl:ws.length=st.length
 small:∀ (k:Nat) (p:Stp),st[k]?=fV p->∀ x∈p.nodes,x<N
 some_:∀ (k:Nat) (p:Stp),st[k]?=fV p->p.nodes≠[]
 word:∀ (k:Nat) (p:Stp),st[k]?=fV p->(k=0/\p.parent = -1/\ws.getD k []=[])\/(∃ a b:Nat,p.parent=(a:Int)/\a<k/\(a<i\/a=i/\b<j)/\L[b]?=fV p.letter/\ws.getD k []=ws.getD a []++[p.letter])
 goes:∀ (k:Nat) (p:Stp),st[k]?=fV p->∀ x∈p.nodes,zbx d start (ws.getD k []) x
 incr:∀ a b:Nat,a<b->b<st.length->zcU (ws.getD a [])<zcU (ws.getD b [])
 seen:∀ x,x<N->(S.getD x jV=jV↔∃ (k:Nat) (p:Stp),st[k]?=fV p/\x∈p.nodes)
 first:∀ x∈start,∃ (p:Stp),st[0]?=fV p/\x∈p.nodes
 zero:∀ p,st[0]?=fV p->ws.getD 0 []=[]
 proc:∀ (k:Nat) (p:Stp) (b l:Nat),st[k]?=fV p->L[b]?=fV l->(k<i\/k=i/\b<j)->∀ n∈p.nodes,∀ x∈d n l,∃ (k':Nat) (q:Stp),st[k']?=fV q/\x∈q.nodes/\zcU (ws.getD k' [])<=zcU (ws.getD k []++[l])
 dull:∀ (k:Nat) (p:Stp),st[k]?=fV p->∀ x∈p.nodes,goal x=j3
section
variable {d:Nat->Nat->List Nat} {start:List Nat} {goal:Nat->Bool} {L:List Nat} {N:Nat} {S:List Bool} {st:List Stp} {ws:List (List Nat)} {i j:Nat}
def Rise (L:List Nat):Prop:=(∀ l∈L,l<6)/\∀ (a b x y:Nat),L[a]?=fV x->L[b]?=fV y->a<b->x<y
theorem Bfs.before (h:Bfs d start goal L N S st ws i j) {V:Nat}(hV:∀ (k:Nat) (p:Stp) (b l:Nat),st[k]?=fV p->L[b]?=fV l->zcU (ws.getD k []++[l])<V->(k<i\/k=i/\b<j)) :
  ∀ (m:Nat) (v:List Nat),v.length<=m->(∀ l∈v,l∈L)->zcU v<V->∀ x,zbx d start v x->∃ (k:Nat) (p:Stp),st[k]?=fV p/\x∈p.nodes/\zcU (ws.getD k [])<=zcU v:=by
 intro m
 induction m with
 |zero =>
  intro v hv _ _ x hx;obtain rfl:v=[]:=dQ oM;obtain⟨p,a,c⟩:=h.first x hx.ah
  exact⟨0,p,a,c,by rw [h.zero p a];exact dE _⟩
 |succ m ih =>
  intro v hv hl hlt x hx;rcases zab v with rfl|⟨u,l,rfl⟩
  ·obtain⟨p,a,c⟩:=h.first x hx.ah
   exact⟨0,p,a,c,by rw [h.zero p a];exact dE _⟩
  ·obtain⟨n,z,s⟩:=hx.inv;simp only [dN,dV] at hv;have o:=hl l sM;obtain⟨b,y⟩:=eA o;rw [zaP] at hlt;obtain⟨k,p,a,r,D⟩:=ih u oM (fun x hx=>hl x (by simp [hx])) oM n z;have f:zcU (ws.getD k []++[l])<V:=by rw [zaP];omega
   obtain⟨C,q,B,t,g⟩:=h.proc k p b l a y (hV k p b l a y f) n r x s;exact⟨C,q,B,t,by rw [zaP] at g ⊢;omega⟩
theorem Bfs.none (h:Bfs d start goal L N S st ws i j)(hend:st.length<=i) {v:List Nat}(hv:∀ l∈v,l∈L) (hx:zbx d start v x):goal x=j3:=by
 by_cases hst:st=[]
 ·subst hst;exfalso;have:∀ (m:Nat) (v:List Nat),v.length<=m->∀ x,¬ zbx d start v x:=by
   intro m
   induction m with
   |zero =>
    intro v hv x hx;obtain rfl:v=[]:=dQ oM;obtain⟨p,a,_⟩:=h.first x hx.ah
    simp at a
   |succ m ih =>
    intro v hv x hx;rcases zab v with rfl|⟨u,l,rfl⟩
    ·obtain⟨p,a,_⟩:=h.first x hx.ah
     simp at a
    ·obtain⟨n,f,_⟩:=hx.inv;exact ih u (by simp at hv;omega) n f
  exact this v.length v (dE _) x hx
 ·obtain⟨k,p,a,c,_⟩:=h.before (V:=zcU v+1) (fun k p b l a hb _=>Or.inl (by have:=(kB.1 a).1;omega)) v.length v (dE _) hv oM x hx;exact h.dull k p a x c
theorem Bfs.ahead (h:Bfs d start goal L N S st ws i j)(hL:Rise L) (hi:i<st.length)(hl:L[j]?=fV l) (hk:k<st.length):zcU (ws.getD k [])<zcU (ws.getD i []++[l]):=by
 rw [zaP];rcases h.word k _ (dC hk) with ⟨_,_,e⟩|⟨a,b,_,n,c,f,e⟩
 ·rw [e,zgu];omega
 ·rw [e,zaP];have o:=hL.1 _ (dD f);rcases c with g|⟨rfl,m⟩
  ·have:=h.incr a i g hi;omega
  ·have:=hL.2 b j _ _ f hl m;omega
theorem Bfs.taken (h:Bfs d start goal L N S st ws i j)(hL:Rise L) (hi:i<st.length)(hl:L[j]?=fV l) (k:Nat) (p:Stp) (b m:Nat)(hp:st[k]?=fV p)(hb:L[b]?=fV m)(hlt:zcU (ws.getD k []++[m])<zcU (ws.getD i []++[l])):k<i\/k=i/\b<j:=by
 rw [zaP,zaP] at hlt;have f:=(kB.1 hp).1;have g:=hL.1 _ (dD hb);have n:=hL.1 _ (dD hl);rcases e9 k i with a|a|a
 ·exact Or.inl a
 ·subst a;refine Or.inr ⟨rfl,?_⟩;rcases e9 b j with c|c|c
  ·exact c
  ·subst c;rw [hb] at hl;have:=kA hl;omega
  ·have:=hL.2 j b _ _ hl hb c;omega
 ·have:=h.incr i k a f;omega
theorem Bfs.found (h:Bfs d start goal L N S st ws i j)(hL:Rise L) (hi:i<st.length)(hl:L[j]?=fV l) {v:List Nat}(hv:∀ x∈v,x∈L)(hlt:zcU v<zcU (ws.getD i []++[l])) (hx:zbx d start v x):goal x=j3:=by
 obtain⟨k,p,a,c,_⟩:=h.before (fun k p b m a hb hlt=>h.taken hL hi hl k p b m a hb hlt) v.length v (dE _) hv hlt x hx;exact h.dull k p a x c
theorem Bfs.row (h:Bfs d start goal L N S st ws i j)(hj:L.length<=j):Bfs d start goal L N S st ws (i+1) 0:=
 { h with
  word:=fun k p hp=>by
   rcases h.word k p hp with h1|⟨a,b,h1,h2,h3,h4⟩
   ·exact Or.inl h1
   ·exact Or.inr ⟨a,b,h1,h2,oM,h4⟩
  proc:=fun k p b l hp hb hk=>by
   have hbl:=(kB.1 hb).1
   exact h.proc k p b l hp hb oM }
def addS (st:List Stp) (a:Int) (l:Nat) (fr:List Nat):List Stp:=if fr=[] then st else st++[⟨a,l,fr⟩]
def addW (ws:List (List Nat)) (w:List Nat) (fr:List Nat):List (List Nat):=if fr=[] then ws else ws++[w]
theorem zfY {ws:List (List Nat)}  (w:List Nat)(hk:k<ws.length):(ws++[w]).getD k []=ws.getD k []:=by
 rw [dF,dF,dJ hk]
theorem zhK {ws:List (List Nat)} (w:List Nat):(ws++[w]).getD ws.length []=w:=by
 rw [dF,dU (dE _),fU];rfl
theorem Bfs.step (h:Bfs d start goal L N S st ws i j)(hL:Rise L)  {pi:Stp}(hi:st[i]?=fV pi)(hl:L[j]?=fV l) {rs:List Nat}(hrs:∀ x,x∈rs↔∃ n∈pi.nodes,x∈d n l)(hN:∀ x∈rs,x<N)(hg:∀ x∈(vis S rs).2,goal x=j3) :
  Bfs d start goal L N (vis S rs).1 (addS st i l (vis S rs).2) (addW ws (ws.getD i []++[l]) (vis S rs).2) i (j+1):=by
 have M:=(kB.1 hi).1;obtain⟨Y,Z,Q⟩:=zhv S rs (fun n E=>by rw [h.len];exact hN n E);generalize (vis S rs).1=T at *;generalize (vis S rs).2=J at *;have s:=fun k v=>h.ahead hL M hl (k:=k) v
 by_cases hfr:J=[]
 ·subst hfr;rw [addS,if_pos rfl,addW,if_pos rfl];have I:∀ x∈rs,S.getD x jV=jV:=fun x hx=>by
   cases hS:S.getD x jV
   ·have:=(Q x).2 ⟨hx,hS⟩;cases this
   ·rfl
  refine { h with len:=Y.trans h.len,word:=?_,seen:=?_,proc:=?_ }
  ·intro k p c;rcases h.word k p c with f|⟨a,b,f,h2,h3,h4⟩
   ·exact Or.inl f
   ·exact Or.inr ⟨a,b,f,h2,oM,h4⟩
  ·intro x hx;rw [Z x (by rw [h.len];exact hx)];constructor
   ·rintro (f|f)
    ·exact (h.seen x hx).1 f
    ·exact (h.seen x hx).1 (I x f)
   ·intro f;exact Or.inl ((h.seen x hx).2 f)
  ·intro k p b m c hb v n E x hx
   by_cases hkj:k=i/\b=j
   ·obtain⟨rfl,rfl⟩:=hkj;rw [hi] at c;obtain rfl:=kA c;rw [hl] at hb;obtain rfl:=kA hb;have z:=(hrs x).2 ⟨n,E,hx⟩;obtain⟨F,q,H,y⟩:=(h.seen x (hN x z)).1 (I x z);exact⟨F,q,H,y,Nat.le_of_lt (s F (kB.1 H).1)⟩
   ·exact h.proc k p b m c hb oM n E x hx
 ·rw [addS,if_neg hfr,addW,if_neg hfr];have g:∀ {k:Nat} {p:Stp},(st++[(⟨i,l,J⟩:Stp)])[k]?=fV p->(k<st.length/\st[k]?=fV p)\/(k=st.length/\p=⟨i,l,J⟩):=by
   intro k p c;rcases e9 k st.length with v|v|v
   ·rw [dJ v] at c;exact Or.inl ⟨v,c⟩
   ·rw [dU oM,v,fU] at c;exact Or.inr ⟨v,(kA c).symm⟩
   ·rw [dW (by simp;omega)] at c;cases c
  have r:∀ {k:Nat} {p:Stp},st[k]?=fV p->(st++[(⟨i,l,J⟩:Stp)])[k]?=fV p:=fun {k p} c=>by
   rw [dJ (kB.1 c).1];exact c
  have G:(st++[(⟨i,l,J⟩:Stp)])[st.length]?=fV ⟨i,l,J⟩:=by rw [dU (dE _),fU];rfl
  have O:=h.wl;have o:∀ k,k<st.length->(ws++[ws.getD i []++[l]]).getD k []=ws.getD k []:=fun k v=>zfY _ oM;have C:(ws++[ws.getD i []++[l]]).getD st.length []=ws.getD i []++[l]:=by rw [<- O];exact zhK _
  have u:∀ x∈J,x∈rs/\S.getD x jV=j3:=fun x hx=>(Q x).1 hx;refine⟨Y.trans h.len,by simp [O],?_,?_,?_,?_,?_,?_,?_,?_,?_,?_⟩
  ·intro k p c x hx;rcases g c with ⟨_,f⟩|⟨_,rfl⟩
   ·exact h.small k p f x hx
   ·exact hN x (u x hx).1
  ·intro k p c;rcases g c with ⟨_,f⟩|⟨_,rfl⟩
   ·exact h.some_ k p f
   ·exact hfr
  ·intro k p c;rcases g c with ⟨B,f⟩|⟨rfl,rfl⟩
   ·rcases h.word k p f with ⟨e0,R,U⟩|⟨a,b,R,U,e3,e4,e5⟩
    ·exact Or.inl ⟨e0,R,by rw [o k B];exact U⟩
    ·exact Or.inr ⟨a,b,R,U,oM,e4,by rw [o k B,o a oM];exact e5⟩
   ·exact Or.inr ⟨i,j,rfl,M,Or.inr ⟨rfl,oM⟩,hl,by rw [C,o i M]⟩
  ·intro k p c x hx;rcases g c with ⟨B,f⟩|⟨rfl,rfl⟩
   ·rw [o k B];exact h.goes k p f x hx
   ·rw [C];obtain⟨n,E,X⟩:=(hrs x).1 (u x hx).1;exact .snoc (h.goes i pi hi n E) X
  ·intro a b hab hb;simp only [dN,dV] at hb
   by_cases hbl:b<st.length
   ·rw [o a oM,o b hbl];exact h.incr a b hab hbl
   ·obtain rfl:b=st.length:=oM;rw [o a hab,C];exact s a hab
  ·intro x hx;rw [Z x (by rw [h.len];exact hx)];constructor
   ·rintro (f|f)
    ·obtain⟨k,p,c,t⟩:=(h.seen x hx).1 f;exact⟨k,p,r c,t⟩
    ·cases hS:S.getD x jV
     ·exact⟨_,_,G,(Q x).2 ⟨f,hS⟩⟩
     ·obtain⟨k,p,c,t⟩:=(h.seen x hx).1 hS;exact⟨k,p,r c,t⟩
   ·rintro ⟨k,p,c,t⟩;rcases g c with ⟨_,f⟩|⟨_,rfl⟩
    ·exact Or.inl ((h.seen x hx).2 ⟨k,p,f,t⟩)
    ·exact Or.inr (u x t).1
  ·intro x hx;obtain⟨p,c,t⟩:=h.first x hx
   exact⟨p,r c,t⟩
  ·intro p c;rcases g c with ⟨B,f⟩|⟨B,_⟩
   ·rw [o 0 B];exact h.zero p f
   ·omega
  ·intro k p b m c hb v n E x hx;rcases g c with ⟨B,f⟩|⟨rfl,rfl⟩
   ·rw [o k B]
    by_cases hkj:k=i/\b=j
    ·obtain⟨rfl,rfl⟩:=hkj;rw [hi] at f;obtain rfl:=kA f;rw [hl] at hb;obtain rfl:=kA hb;have z:=(hrs x).2 ⟨n,E,hx⟩;cases hS:S.getD x jV
     ·exact⟨_,_,G,(Q x).2 ⟨z,hS⟩,by rw [C];exact dE _⟩
     ·obtain⟨F,q,H,y⟩:=(h.seen x (hN x z)).1 hS;have D:=(kB.1 H).1;exact⟨F,q,r H,y,by rw [o F D];exact Nat.le_of_lt (s F D)⟩
    ·obtain⟨F,q,H,y,V⟩:=h.proc k p b m f hb oM n E x hx;have D:=(kB.1 H).1;exact⟨F,q,r H,y,by rw [o F D];exact V⟩
   ·omega
  ·intro k p c x hx;rcases g c with ⟨_,f⟩|⟨_,rfl⟩
   ·exact h.dull k p f x hx
   ·exact hg x hx
theorem Bfs.begin_ {d:Nat->Nat->List Nat}  {goal:Nat->Bool} {L:List Nat} (hN:∀ x∈start,x<N)(hg:∀ x∈(vis (dT N j3) start).2,goal x=j3) :
  Bfs d start goal L N (vis (dT N j3) start).1 (addS [] (-1) 0 (vis (dT N j3) start).2) (addW [] [] (vis (dT N j3) start).2) 0 0:=by
 obtain⟨r,s,t⟩:=zhv (dT N j3) start (fun n hn=>by simpa using hN n hn);have o:∀ x,x<N->(dT N j3).getD x jV=j3:=fun x hx=>by simp [dF,hx]
 generalize (vis (dT N j3) start).1=T at *;generalize (vis (dT N j3) start).2=i at *;have g:∀ x,x∈i↔x∈start:=fun x=>(t x).trans ⟨fun h=>h.1,fun h=>⟨h,o x (hN x h)⟩⟩;have m:∀ x,x<N->(T.getD x jV=jV↔x∈start):=fun x hx=>by
  rw [s x (by simpa using hx),o x hx];simp
 by_cases he:i=[]
 ·subst he;rw [addS,if_pos rfl,addW,if_pos rfl];have q:∀ x,x∉start:=fun x hx=>by have:=(g x).2 hx;cases this
  refine⟨by simpa using r,rfl,fun k p c=>by simp at c,fun k p c=>by simp at c,fun k p c=>by simp at c,fun k p c=>by simp at c,fun a b _ hb=>by simp at hb,fun x hx=>?_,fun x hx=>absurd hx (q x),fun p c=>by simp at c,fun k p b l c=>by simp at c,fun k p c=>by simp at c⟩;rw [m x hx];exact⟨fun h=>absurd h (q x),fun ⟨k,p,c,_⟩=>by simp at c⟩
 ·rw [addS,if_neg he,addW,if_neg he];have f:∀ {k:Nat} {p:Stp},([]++[(⟨-1,0,i⟩:Stp)])[k]?=fV p->k=0/\p=⟨-1,0,i⟩:=by
   intro k p c;cases k with
   |zero=>exact⟨rfl,by simpa using c.symm⟩
   |succ k=>simp at c
  refine⟨by simpa using r,rfl,?_,?_,?_,?_,?_,?_,?_,?_,?_,?_⟩
  ·intro k p c x hx;obtain⟨rfl,rfl⟩:=f c;exact hN x ((g x).1 hx)
  ·intro k p c;obtain⟨rfl,rfl⟩:=f c;exact he
  ·intro k p c;obtain⟨rfl,rfl⟩:=f c;exact Or.inl ⟨rfl,rfl,rfl⟩
  ·intro k p c x hx;obtain⟨rfl,rfl⟩:=f c;exact .nil ((g x).1 hx)
  ·intro a b hab hb;simp at hb;omega
  ·intro x hx;rw [m x hx];constructor
   ·intro h;exact⟨0,_,rfl,(g x).2 h⟩
   ·rintro ⟨k,p,c,j⟩;obtain⟨rfl,rfl⟩:=f c;exact (g x).1 j
  ·intro x hx;exact⟨_,rfl,(g x).2 hx⟩
  ·intro p _;rfl
  ·intro k p b l c _ hk;omega
  ·intro k p c x hx;obtain⟨rfl,rfl⟩:=f c;exact hg x hx
end
theorem visN_cnt (st:List Bool × List Nat) (n:Nat):(visN st n).1.count jV+st.2.length=st.1.count jV+(visN st n).2.length:=by
 unfold visN;cases h:st.1.getD n jV
 ·have b:n<st.1.length:=by
   rcases eS n st.1.length with a|a
   ·exact a
   ·rw [dF,dW a] at h;cases h
  have c:st.1[n]=j3:=by rw [dF,dC b] at h;exact h
  simp only [jD,if_false];rw [List.count_set b,c];simp;omega
 ·simp
theorem foldl_cnt (ns:List Nat) (st:List Bool × List Nat):(ns.foldl visN st).1.count jV+st.2.length=st.1.count jV+(ns.foldl visN st).2.length:=by
 induction ns generalizing st with
 |nil=>rfl
 |cons n r ih =>
  have a:=ih (visN st n);have b:=visN_cnt st n;rw [iG];omega
theorem vis_cnt (S:List Bool) (ns:List Nat):(vis S ns).1.count jV=S.count jV+(vis S ns).2.length:=by
 have:=foldl_cnt ns (S,[]);simpa [vis] using this
def Cnt (S:List Bool) (st:List Stp):Prop:=(st.map fun p=>p.nodes.length).sum=S.count jV
theorem Cnt.add {S:List Bool} {st:List Stp}(h:Cnt S st) (a:Int) (l:Nat) (ns:List Nat):Cnt (vis S ns).1 (addS st a l (vis S ns).2):=by
 unfold Cnt at h ⊢;rw [vis_cnt,addS]
 by_cases he:(vis S ns).2=[]
 ·rw [if_pos he,he,h];rfl
 ·rw [if_neg he];simp [h]
theorem Cnt.nil (N:Nat):Cnt (dT N j3) []:=by
 unfold Cnt;simp [List.count_replicate]
theorem sum_len {l:List Nat}(h:∀ x∈l,1<=x):l.length<=l.sum:=by
 induction l with
 |nil=>simp
 |cons x r ih =>
  have a:=ih (fun y hy=>h y (by simp [hy]));have b:=h x sM;simp;omega
theorem sum_mem {l:List Nat} (h:x∈l):x<=l.sum:=by
 induction l with
 |nil=>cases h
 |cons y r ih =>
  rcases List.mem_cons.1 h with rfl|h
  ·simp
  ·have:=ih h;simp;omega
theorem Cnt.steps {S:List Bool} {st:List Stp}(h:Cnt S st)(hs:∀ (k:Nat) (p:Stp),st[k]?=fV p->p.nodes≠[]):st.length<=S.length:=by
 unfold Cnt at h;have a:(st.map fun p=>p.nodes.length).length<=(st.map fun p=>p.nodes.length).sum:=sum_len (fun x hx=>by
  obtain⟨p,c,rfl⟩:=kE.1 hx;obtain⟨k,b⟩:=eA c;have:=hs k p b;have:=List.length_pos_iff.2 this;omega)
 rw [List.length_map,h] at a;exact dL a List.count_le_length
theorem Cnt.nodes {S:List Bool} {st:List Stp}(h:Cnt S st)  {p:Stp}(hp:st[k]?=fV p):p.nodes.length<=S.length:=by
 unfold Cnt at h;have a:=sum_mem (kE.2 ⟨p,dD hp,rfl⟩:p.nodes.length∈st.map fun p=>p.nodes.length);rw [h] at a;exact dL a List.count_le_length
def reach (d:Nat->Nat->List Nat) (l:Nat) (ns:List Nat):List Nat:=(ns.map fun n=>d n l).flatten
theorem zhU {d:Nat->Nat->List Nat}   :x∈reach d l ns↔∃ n∈ns,x∈d n l:=by
 unfold reach;rw [List.mem_flatten];exact⟨fun ⟨ys,h1,h2⟩=>by obtain⟨n,a,rfl⟩:=kE.1 h1;exact⟨n,a,h2⟩,fun ⟨n,a,h2⟩=>⟨_,kE.2 ⟨n,a,rfl⟩,h2⟩⟩
theorem reach_snoc (d:Nat->Nat->List Nat) (l:Nat) (ns:List Nat) (n:Nat):reach d l (ns++[n])=reach d l ns++d n l:=by simp [reach]
theorem reach_take {d:Nat->Nat->List Nat}  (h:ns[k]?=fV n):reach d l (ns.take (k+1))=reach d l (ns.take k)++d n l:=by
 rw [dO,h];exact reach_snoc _ _ _ _
theorem reach_len {d:Nat->Nat->List Nat} {D:Nat} (h:∀ n∈ns,(d n l).length<=D):(reach d l ns).length<=ns.length*D:=by
 induction ns with
 |nil=>simp [reach]
 |cons n r ih =>
  have a:=ih (fun x hx=>h x (by simp [hx]));have b:=h n sM;simp only [reach,fL,List.flatten_cons,dN,fO,iV,Nat.one_mul] at a ⊢;omega
def Found (d:Nat->Nat->List Nat) (start:List Nat) (goal:Nat->Bool) (L:List Nat) (v:List Nat):Prop:=
 (∀ l∈v,l∈L)/\(∃ x,zbx d start v x/\goal x=jV)/\∀ u,(∀ l∈u,l∈L)->zcU u<zcU v->∀ x,zbx d start u x->goal x=j3
def Lost (d:Nat->Nat->List Nat) (start:List Nat) (goal:Nat->Bool) (L:List Nat):Prop:=∀ v,(∀ l∈v,l∈L)->∀ x,zbx d start v x->goal x=j3
def E (es:List Edg) (i l k:Nat):Prop:=∃ e∈es,e.fr=i/\e.le=l/\e.ta=k
def rel (R:List Nat) (i j:Nat):Prop:=i<R.length/\(R.getD i 0).testBit j=jV
def succ (es:List Edg) (i l:Int):Nat:=es.foldl (fun m e=>if e.fr=i/\e.le=l then m|||2 ^ e.ta.toNat else m) 0
theorem succ_snoc (es:List Edg) (e:Edg) (i l:Int):succ (es++[e]) i l=if e.fr=i/\e.le=l then succ es i l|||2 ^ e.ta.toNat else succ es i l:=by
 simp [succ]
theorem and_pred (k m:Nat):(2 ^ k*(2*m+1))&&&(2 ^ k*(2*m+1) - 1)=2 ^ k*(2*m):=by
 have c:=jX k;have e:2 ^ k*(2*m+1) - 1=2 ^ k*(2*m)+(2 ^ k - 1):=by rw [Nat.mul_add,jC];omega
 rw [e];apply fI;intro i;have a:∀ q,(2 ^ k*q).testBit i=if i<k then j3 else q.testBit (i - k):=fun q=>by
  have:=iM q (b:=0) (i:=k) c i;rw [gX] at this;rw [this,iJ]
 rw [fQ,a,iM _ oM,a]
 by_cases hi:i<k
 ·simp [hi]
 ·simp only [hi,if_false];cases hd:i - k with
  |zero=>simp [Nat.testBit_zero]
  |succ d=>rw [jB,jB,show (2*m+1) / 2=m by omega,show (2*m) / 2=m by omega];simp
theorem lowest (h0:x≠0)(hs:Sm x):∃ k,Lib.ctz 64 x=k/\k<32/\x.testBit k=jV/\(∀ i,i<k->x.testBit i=j3)/\x&&&(x - 1)=x - 2 ^ k/\2 ^ k<=x:=by
 have hx:=hs.lt;obtain⟨m,a,g⟩:=Lib.ctzFrom_spec 64 x oM oM;have e:Lib.ctz 64 x=Lib.ctzFrom 64 x:=by simp [Lib.ctz,h0]
 generalize Lib.ctzFrom 64 x=k at *;have f:=jX k;have c:2 ^ k<=x:=by rw [a];exact Nat.le_mul_of_pos_right _ oM
 have d:∀ q i,(2 ^ k*q).testBit i=if i<k then j3 else q.testBit (i - k):=fun q i=>by
  have:=iM q (b:=0) (i:=k) f i;rw [gX] at this;rw [this,iJ]
 refine⟨k,e,?_,?_,fun i hi=>?_,?_,c⟩
 ·apply Nat.lt_of_not_le;intro h32;have:=eE (n:=2) oM h32;omega
 ·rw [a,d];simp
 ·rw [a,d];simp [hi]
 ·rw [a,and_pred,Nat.mul_add,jC,Nat.add_sub_cancel]
theorem zdk (h:x.testBit j=jV)(hl:∀ i,i<j->x.testBit i=j3) (k:Nat):(x - 2 ^ j).testBit k=(x.testBit k&&!decide (k=j)):=by
 have f:x / 2 ^ j % 2=1:=by
  have:=h;rw [j1] at this;simpa using this
 have g:=jX j;have l:x % 2 ^ j=0:=by
  apply fI;intro i;rw [Nat.testBit_mod_two_pow,iJ]
  by_cases hi:i<j
  ·simp [hi,hl i hi]
  ·simp [hi]
 have a:=Nat.div_add_mod x (2 ^ j);rw [l,gX] at a;generalize x / 2 ^ j=q at *;have c:∀ q i,(2 ^ j*q).testBit i=if i<j then j3 else q.testBit (i - j):=fun q i=>by
  have:=iM q (b:=0) (i:=j) g i;rw [gX] at this;rw [this,iJ]
 have e:x - 2 ^ j=2 ^ j*(q - 1):=by rw [<- a,Nat.mul_sub,jC]
 rw [e,<- a,c,c]
 by_cases hk:k<j
 ·simp [hk]
 ·simp only [hk,if_false];obtain⟨d,rfl⟩:∃ d,k=j+d:=⟨k - j,oM⟩;rw [Nat.add_sub_cancel_left];cases d with
  |zero=>simp [Nat.testBit_zero];omega
  |succ d =>
   rw [jB,jB,show (q - 1) / 2=q / 2 by omega];simp
theorem zhS (h:x.testBit k=jV)(hl:∀ i,i<k->x.testBit i=j3):∀ n,(n<=k->letters x n=[]/\letters (x - 2 ^ k) n=[])/\(k<n->letters x n=k :: letters (x - 2 ^ k) n)
 |0=>⟨fun _=>⟨rfl,rfl⟩,fun h=>oM⟩
 |n+1=>by
  have ih:=zhS h hl n
  have hb:=zdk h hl n
  rw [zbu,zbu,hb]
  refine⟨fun hn=>?_,fun hn=>?_⟩
  ·obtain⟨e1,e2⟩:=ih.1 oM
   rw [e1,e2,hl n oM]
   simp
  ·rcases eS k n with h1|h1
   ·rw [ih.2 h1]
    have:n≠k:=oM
    simp [this]
   ·obtain⟨e1,e2⟩:=ih.1 h1
    obtain rfl:n=k:=oM
    rw [e1,e2,h]
    simp
theorem letters_step (h0:x≠0)(hs:Sm x):letters x 32=Lib.ctz 64 x :: letters (x&&&(x - 1)) 32/\x&&&(x - 1)<x/\Lib.ctz 64 x<32:=by
 obtain⟨k,e,a,c,d,b,f⟩:=lowest h0 hs;have g:=jX k;rw [e,b];exact⟨(zhS c d 32).2 a,oM,a⟩
theorem impl_members (a:Nat)(hs:Sm a) (w:j2)(hT:Tab w) :
  j8 j5 155 #[a] w (zce w (letters a 32)):=by
 have d:=zA a 32
 go_enter Tryz.func155,Tryz.ntmps155
 go_wp2
 go_loopw [0,3,4] (fun s v _ wr=>∃ x:Nat,s=.int iX x/\Sm x/\∃ o:List Nat,Hid (letters a 32=o++letters x 32)/\wr.ownsRow w.heap.size 3 1 v o.length (zah o)/\Ext w wr)
  (fun s _ _ _=>(intOf s).toNat)
 case atStart=>exact⟨a,rfl,hs,[],rfl,World.ownsRow_nil _ _ _ _,Ext.refl _⟩
 case round =>
  obtain⟨x,rfl,hx,o,k,zkr,h⟩:=hrel;have r:=hx.lt;have g:o.length+(letters x 32).length<=32:=by have:=k.out;rw [this,dN] at d;exact d
  by_cases h0:x=0
  ·subst h0;obtain⟨A,c,rfl⟩:=zh zkr;go_wp2;go_ret;have f:=k.out;rw [show letters 0 32=[] by decide,List.append_nil] at f;exact⟨A,c,by rw [f];rfl,by rw [f];exact zkr,h⟩
  ·obtain⟨j,hlt,t⟩:=letters_step h0 hx;have p:=za j;have q:((x:Int) != 0)=jV:=by simp;omega
   have i:=hT.ext h;have l:=za (zdq (a:=x) (b:=x - 1) hx tM);have n:o.length<32:=by rw [j] at g;simp at g;omega
   clear j d g;have m:=za (show ((x:Int) - 1)=((x - 1:Nat):Int) by omega);go_wp2_with (first
    |(go_at_call 229;refine (tz x oM h0 _ i).mono ?_;rintro e w' ⟨rfl,rfl⟩)
    |(at_builtin;refine zX w wr rfl (.tmp 10) (.tmp 14) _ rfl 3 _ 1 8 Tryz.underlying110 zR rfl dM u3 _ _ _ _ rfl rfl h zkr rfl (zaM _) lM oM ?_;intro v' w1 hext1 zkA hg1 hat1))
   go_roundw
   case rel=>exact⟨x&&&(x - 1),by rw [m.out,l.out],jF Nat.and_le_left hx,o++[Lib.ctz 64 x],by have:=k.out;unfold Hid;rw [this,p.out];simp,by simpa [zah] using zkA,aM⟩
   case measure =>
    have:=l.out;rw [<- m.out] at this;simp [intOf];omega
theorem foldl_bit (es:List Edg) (p:Edg->Prop) [DecidablePred p] (m k:Nat):(es.foldl (fun m e=>if p e then m|||2 ^ e.ta.toNat else m) m).testBit k=jV↔m.testBit k=jV\/∃ e∈es,p e/\e.ta.toNat=k:=by
 induction es generalizing m with
 |nil=>simp
 |cons e r ih =>
  rw [iG,ih]
  by_cases hp:p e
  ·rw [if_pos hp,Nat.testBit_or,Nat.testBit_two_pow];simp only [Bool.or_eq_true,decide_eq_true_eq,List.mem_cons];constructor
   ·rintro ((h|h)|⟨c,a,b⟩)
    ·exact Or.inl h
    ·exact Or.inr ⟨e,Or.inl rfl,hp,h⟩
    ·exact Or.inr ⟨c,Or.inr a,b⟩
   ·rintro (h|⟨c,a|a,b⟩)
    ·exact Or.inl (Or.inl h)
    ·subst a;exact Or.inl (Or.inr b.2)
    ·exact Or.inr ⟨c,a,b⟩
  ·rw [if_neg hp];constructor
   ·rintro (h|⟨c,a,b⟩)
    ·exact Or.inl h
    ·exact Or.inr ⟨c,eD _ a,b⟩
   ·rintro (h|⟨c,a,b⟩)
    ·exact Or.inl h
    ·rcases List.mem_cons.1 a with a|a
     ·subst a;exact absurd b.1 hp
     ·exact Or.inr ⟨c,a,b⟩
theorem zes (es:List Edg) (i l:Int) (k:Nat):(succ es i l).testBit k=jV↔∃ e∈es,(e.fr=i/\e.le=l)/\e.ta.toNat=k:=by
 have:=foldl_bit es (fun e=>e.fr=i/\e.le=l) 0 k;simpa [succ] using this
def Few (n:Nat) (es:List Edg):Prop:=∀ e∈es,(0<=e.fr/\e.fr<n)/\(0<=e.le/\e.le<6)/\(0<=e.ta/\e.ta<n)
theorem succ_lt {es:List Edg}(h:Few n es) (i l:Int):succ es i l<2 ^ n:=by
 apply jS;intro k hk;rw [eV];intro hb;obtain⟨e,a,_,b⟩:=(zes es i l k).1 hb;have:=h e a;omega
theorem succ_sm {es:List Edg}(h:Few n es)(hn:n<=16) (i l:Int):Sm (succ es i l):=
 eC (succ_lt h i l) (by rw [show (4294967296:Nat)=2 ^ 32 from rfl];exact eE oM oM)
def diff (a b:Nat):Nat:=a ^^^ (a&&&b)
theorem zjE (a b k:Nat):(diff a b).testBit k=(a.testBit k&&!b.testBit k):=by
 unfold diff;rw [Nat.testBit_xor,fQ];cases a.testBit k<;>cases b.testBit k<;>rfl
theorem diff_le (a b:Nat):diff a b<=a:=by
 apply Nat.le_of_testBit;intro k hk;rw [zjE] at hk;simp at hk;exact hk.1
theorem zej {a:Nat}:k∈letters a n↔k<n/\a.testBit k=jV:=by simp [letters]
def cho (s:Sys) (i l:Nat):List Nat:=if s.al.toNat.testBit l then letters (succ s.edges i l) 32 else [i]
def nx:List Sys->Nat->Nat->List Nat × Nat × Nat
 |[],m,_=>([0],1,m)
 |s :: r,m,l=>((cho s ((nx r m l).2.2 % s.st.toNat) l).flatMap (fun q=>(nx r m l).1.map fun x=>q*(nx r m l).2.1+x),(nx r m l).2.1*s.st.toNat,(nx r m l).2.2 / s.st.toNat)
def Sml (s:Sys):Prop:=1<=s.st/\s.st<=16/\Few s.st.toNat s.edges/\0<=s.al/\s.al<=63
theorem zgg (a k:Nat):(letters a k).Nodup:=List.Pairwise.filter _ List.nodup_range
theorem zC {a:Nat}:x∈letters a k↔x<k/\a.testBit x=jV:=by simp [letters,List.mem_filter]
theorem cho_lt {s:Sys}(h:Sml s) (hi:i<s.st.toNat):∀ q∈cho s i l,q<s.st.toNat:=by
 intro q hq;unfold cho at hq
 split at hq
 ·have b:=(zC.1 hq).2;rcases eS q s.st.toNat with a|a
  ·exact a
  ·have:=Nat.testBit_lt_two_pow (eC (succ_lt h.2.2.1 i l) (eE oM a));rw [b] at this;cases this
 ·rw [List.mem_singleton.1 hq];exact hi
theorem cho_nodup (s:Sys) (i l:Nat):(cho s i l).Nodup:=by
 unfold cho;split
 ·exact zgg _ _
 ·simp
theorem zdS {l:List Nat}(h:l.Nodup) {p:Nat}(hl:∀ x∈l,x<p):l.length<=p:=by
 have a:l ⊆ eU p:=fun x hx=>List.mem_range.2 (hl x hx);have:=List.Nodup.length_le_of_subset h a;simpa using this
theorem cho_len {s:Sys}(h:Sml s) (hi:i<s.st.toNat):(cho s i l).length<=s.st.toNat:=zdS (cho_nodup s i l) (cho_lt h hi)
theorem flat_nodup {l R:List Nat} {W:Nat}(hl:l.Nodup)(hR:R.Nodup)(hW:∀ x∈R,x<W):(l.flatMap fun q=>R.map fun x=>q*W+x).Nodup:=by
 induction l with
 |nil=>simp
 |cons a r ih =>
  rw [iU];rw [List.nodup_cons] at hl;refine List.nodup_append.2 ⟨?_,ih hl.2,?_⟩
  ·exact List.Pairwise.map _ (fun a b h=>by simpa using h) hR
  ·intro x hx y c hxy;subst hxy;obtain⟨u,m,rfl⟩:=kE.1 hx;obtain⟨b,j,c⟩:=kP.1 c;obtain⟨v,n,k⟩:=kE.1 c;have g:=hW u m;have i:=hW v n;have:a=b:=by
    have d:(a*W+u) / W=a:=by rw [Nat.add_comm,Nat.add_mul_div_right _ _ oM,jA g,dX]
    have f:(b*W+v) / W=b:=by rw [Nat.add_comm,Nat.add_mul_div_right _ _ oM,jA i,dX]
    rw [<- d,<- f,k]
   subst this;exact hl.1 j
theorem nx_facts {ss:List Sys}(h:∀ s∈ss,Sml s) (m l:Nat):1<=(nx ss m l).2.1/\(nx ss m l).2.1<=16 ^ ss.length/\(∀ x∈(nx ss m l).1,x<(nx ss m l).2.1)/\(nx ss m l).1.Nodup/\(nx ss m l).2.2<=m:=by
 induction ss with
 |nil=>simp [nx]
 |cons s r ih =>
  obtain⟨f,g,d,i,j⟩:=ih fun s b=>h s (eD _ b);have b:=h s List.mem_cons_self;have a:1<=s.st.toNat/\s.st.toNat<=16:=by have:=b.1;have:=b.2.1;omega
  refine⟨Nat.mul_pos f a.1,?_,fun x hx=>?_,flat_nodup (cho_nodup _ _ _) i d,dL (iK _ _) j⟩
  ·rw [nx,fO,Nat.pow_succ];exact Nat.mul_le_mul g a.2
  ·rw [nx] at hx ⊢;obtain⟨q,k,hx⟩:=kP.1 hx;obtain⟨y,n,rfl⟩:=kE.1 hx;have c:=cho_lt b (Nat.mod_lt _ a.1) q k;have o:=d y n
   calc q*(nx r m l).2.1+y<q*(nx r m l).2.1+(nx r m l).2.1:=oM
    _=(q+1)*(nx r m l).2.1:=by rw [iV,Nat.one_mul]
    _<=s.st.toNat*(nx r m l).2.1:=jN _ c
    _=(nx r m l).2.1*s.st.toNat:=fJ _ _
theorem nx_len {ss:List Sys}(h:∀ s∈ss,Sml s) (m l:Nat):(nx ss m l).1.length<=16 ^ ss.length:=by
 obtain⟨d,a,b,c,_⟩:=nx_facts h m l;exact dL (zdS c b) a
theorem zak (a:Nat)(hs:Sm a) (w:j2) :
  j8 j5 134 #[a] w (zce w (letters a 6)):=by
 go_enter Tryz.func134,Tryz.ntmps134
 go_wp2
 go_loopw [3,4] (fun v i wr=>∃ k:Nat,k<=6/\i=.int iX k/\wr.ownsRow w.heap.size 3 1 v (letters a k).length (zah (letters a k))/\Ext w wr)
  (fun _ i _=>6 - (intOf i).toNat)
 case atStart=>exact⟨0,dH _,rfl,World.ownsRow_lit w #[] 0 (dE _) lM rfl,(Ext.refl _).alloc _⟩
 case round =>
  obtain⟨k,g,rfl,zkr,d⟩:=hrel;have h:=zA a k
  by_cases hlt:k<6
  ·cases hb:a.testBit k
   all_goals
    have f:=za hb;have b:=zbu a k;rw [hb] at b;have Hls:=za b;clear b hb;go_wp2_with (first
     |(go_at_call 143;refine (zax a k hs _ oM).mono ?_;rw [f.out];rintro e w' ⟨rfl,rfl⟩)
     |(at_builtin;refine zX w wr rfl _ _ _ rfl 3 _ 1 8 Tryz.underlying110 zR rfl dM u3 _ _ _ _ rfl rfl d zkr rfl (zaM _) lM oM ?_;intro v' w1 hext1 zkA hg1 hat1))
    exact yX01a2
  ·obtain rfl:k=6:=oM;obtain⟨A,c,rfl⟩:=zh zkr;go_wp2;go_ret;exact⟨_,_,rfl,zkr,d⟩
def zdf (b:UInt8):Bool:=decide (97<=(b.toNat:Int)/\(b.toNat:Int)<=102)
def zbh (s:ByteArray):Bool:=decide (s.size<=50000)&&s.data.toList.all zdf
theorem zch (s:ByteArray) (i:Nat)(h:i<s.size):s.data.toList[i]?=fV s[i]:=by
 rw [dC (by simpa using h)];rfl
theorem yX01a1 {P:Prop}(h:P:=by
 go_wp2_with (go_at_call 144;refine (zbJ s k hlt _).mono ?_;rw [hx.out];rintro e w' ⟨rfl,rfl⟩)
 go_ret;exact⟨zo (by rw [zbh,zaQ hg.out (by have:=hx.out;simp [zdf];omega),Bool.and_false]),rfl⟩
 ):P:=h
theorem zcE (s:ByteArray) (w:j2)(hs:s.size<=9223372036854775807) :
  j8 j5 141 #[s] w fun e w'=>e=j7 (.bool (zbh s))/\w=w':=by
 by_cases h:50000<s.size
 ·go_enter Tryz.func141,Tryz.ntmps141
  go_wp2;go_ret;exact⟨by simp [zbh,show ¬ s.size<=50000 by omega],rfl⟩
 ·go_enter Tryz.func141,Tryz.ntmps141
  go_wp2
  go_loop [3] (fun i=>∃ k:Nat,k<=s.size/\i=.int iX k/\Hid ((s.data.toList.take k).all zdf=jV)) (fun i=>s.size - (intOf i).toNat)
  case atStart=>exact⟨0,dH _,rfl,rfl⟩
  case round =>
   obtain⟨k,d,rfl,a⟩:=hrel
   by_cases hlt:k<s.size
   ·have hg:=za (zch s k hlt);obtain⟨x,hx,b,c⟩:∃ x:Int,Hid ((s[k].toNat:Int) - 97=x) /\ -97<=x/\x<=158:=⟨(s[k].toNat:Int) - 97,za rfl,oM,by have:=zcM s k hlt;omega⟩
    by_cases h0:x<0
    ·exact yX01a1
    ·by_cases h1:6<=x
     ·exact yX01a1
     ·go_wp2_with (go_at_call 144;refine (zbJ s k hlt _).mono ?_;rw [hx.out];rintro e w' ⟨rfl,rfl⟩)
      go_round
      case rel=>exact⟨k+1,oM,gM,zcB hg.out a.out (by have:=hx.out;simp [zdf];omega)⟩
      case measure=>simp [intOf];omega
   ·obtain rfl:k=s.size:=oM;go_wp2;go_ret;exact⟨zo (by rw [zbh,zeB sM a.out];simp;omega),rfl⟩
def zgl (s:ByteArray) (a:Nat):Bool:=s.data.toList.all fun b=>hasB a (ltr b.toNat)
theorem over_all {a:Nat}(h:a=63) (b:UInt8):hasB a (ltr b.toNat)=zdf b:=by
 subst h;have:b.toNat<256:=b.toNat_lt;unfold hasB ltr zdf
 by_cases h1:(b.toNat:Int) - 97<0
 ·rw [if_pos (.inl h1)];simp;omega
 ·by_cases h2:6<=(b.toNat:Int) - 97
  ·rw [if_pos (.inr h2)];simp;omega
  ·rw [if_neg oM];have c:b.toNat=97\/b.toNat=98\/b.toNat=99\/b.toNat=100\/b.toNat=101\/b.toNat=102:=oM;rcases c with h|h|h|h|h|h<;>rw [h]<;>decide
theorem overB_63 (s:ByteArray):zgl s 63=s.data.toList.all zdf:=by
 unfold zgl
 congr 1
 funext b
 exact over_all rfl b
theorem zhM (s:ByteArray) (a:Nat) (w:j2)(hs:s.size<=9223372036854775807)(ha:a<=63) :
  j8 j5 85 #[s,a] w fun e w'=>e=j7 (.bool (decide (s.size<=50000)&&zgl s a))/\w=w':=by
 have j:Sm a:=tM;have g:(decide ((0:Int)<=a/\(a:Int)<=63))=jV:=by simp;omega
 have d:=za g;clear g
 by_cases h:50000<s.size
 ·go_enter Tryz.func85,Tryz.ntmps85
  go_wp2_with (go_at_call 82;refine (zaj _ _).mono ?_;rw [d.out];rintro e w' ⟨rfl,rfl⟩)
  go_ret;exact⟨by simp [show ¬ s.size<=50000 by omega],rfl⟩
 ·go_enter Tryz.func85,Tryz.ntmps85
  go_wp2_with (go_at_call 82;refine (zaj _ _).mono ?_;rw [d.out];rintro e w' ⟨rfl,rfl⟩)
  go_loop [16] (fun i=>∃ k:Nat,k<=s.size/\i=.int iX k/\Hid ((s.data.toList.take k).all (fun b=>hasB a (ltr b.toNat))=jV)) (fun i=>s.size - (intOf i).toNat)
  case atStart=>exact⟨0,dH _,rfl,rfl⟩
  case round =>
   obtain⟨k,l,rfl,c⟩:=hrel
   by_cases hlt:k<s.size
   ·have hg:=za (zch s k hlt);cases hb:hasB a (ltr (s[k].toNat:Int))
    ·have f:=za hb;clear hb;go_wp2_with (first|(go_at_call 121;refine (zbf s k hlt _).mono ?_;rintro e w' ⟨rfl,rfl⟩)|(go_at_call 127;refine (zbN _ _ j _).mono ?_;rw [f.out];rintro e w' ⟨rfl,rfl⟩))
     go_ret;exact⟨zo (by rw [zgl,zaQ hg.out f.out,iY]),rfl⟩
    ·have f:=za hb;clear hb;go_wp2_with (first|(go_at_call 121;refine (zbf s k hlt _).mono ?_;rintro e w' ⟨rfl,rfl⟩)|(go_at_call 127;refine (zbN _ _ j _).mono ?_;rw [f.out];rintro e w' ⟨rfl,rfl⟩))
     go_round
     case rel=>exact⟨k+1,oM,gM,zcB hg.out c.out f.out⟩
     case measure=>simp [intOf];omega
   ·obtain rfl:k=s.size:=oM;go_wp2;go_ret;exact⟨zo (by rw [zgl,zeB sM c.out];simp;omega),rfl⟩
theorem ziC (s:ByteArray) (w:j2)(hs:s.size<=9223372036854775807) :
  j8 j5 88 #[s] w fun e w'=>e=j7 (.bool (zbh s))/\w=w':=by
 have a:=overB_63 s;have b:=za a;clear a
 go_enter Tryz.func88,Tryz.ntmps88
 go_wp2_with (go_at_call 85;refine (zhM s 63 _ hs oM).mono ?_;rintro e w' ⟨rfl,rfl⟩)
 go_ret;exact⟨zo (by rw [b.out];rfl),rfl⟩
def zjW (k n:Nat) (row:List Int):Bool:=decide (row.length=k)&&row.all fun q=>decide (0<=q/\q<n)
def zj (a:Aut):Bool:=
 decide (0<=a.al/\a.al<=63)&&(decide (1<=a.next.length/\a.next.length<=12)&&(decide (a.acc.length=a.next.length)&&a.next.all (zjW (letters a.al.toNat 6).length a.next.length)))
theorem zjk (lo hi:Nat) (A:Option Addr) (n c:Nat) (l:List Int) (k m:Nat) (w:j2)(h:Reads w lo hi 1 A n (ints l))(hk:k<=100) (_hm:m<=100) :
  j8 j5 171 #[fF A n c,k,m] w fun e w'=>e=j7 (.bool (zjW k m l))/\w=w':=by
 have j:=h.len;have f:l.length=n:=by have:=h.length;rw [zde] at this;omega
 have b:=za f;clear f
 by_cases he:n=k
 ·subst he
  go_enter Tryz.func171,Tryz.ntmps171
  go_wp2
  go_loop [7] (fun i=>∃ k:Nat,k<=n/\i=.int iX k/\Hid ((l.take k).all (fun q=>decide (0<=q/\q<m))=jV)) (fun i=>n - (intOf i).toNat)
  case atStart=>exact⟨0,dH _,rfl,rfl⟩
  case round =>
   obtain⟨k,hk,rfl,a⟩:=hrel
   by_cases hlt:k<n
   ·obtain⟨g,x,rfl,_,_,hx,d⟩:=h.int hlt
    by_cases h0:x<0
    ·go_wp2;go_ret;exact⟨zo (by rw [zjW,zaQ hx.out (by simp;omega),iY]),rfl⟩
    ·by_cases h1:(m:Int)<=x
     ·go_wp2;go_ret;exact⟨zo (by rw [zjW,zaQ hx.out (by simp;omega),iY]),rfl⟩
     ·go_wp2
      go_round
      case rel=>exact⟨k+1,oM,gM,zcB hx.out a.out (by simp;omega)⟩
      case measure=>simp [intOf];omega
   ·obtain rfl:k=n:=oM;go_wp2;go_ret;exact⟨zo (by rw [zjW,zeB (oH b.out) a.out,b.out];simp),rfl⟩
 ·go_enter Tryz.func171,Tryz.ntmps171
  go_wp2;go_ret;exact⟨zo (by rw [zjW,b.out];simp [he]),rfl⟩
theorem zW (lo hi:Nat) (A:Option Addr) (n c:Nat) (A':Option Addr) (n' c':Nat) (a:Aut) (w:j2)(h:zK w lo hi A n A' n' a) :
  j8 j5 79 #[.agg #[a.al,fF A n c,fF A' n' c']] w fun e w'=>e=j7 (.bool (zj a))/\Ext w w':=by
 have x:=h.n1;have y:=h.n2;have q:=za (show zj a=(decide (0<=a.al/\a.al<=63)&&(decide (1<=n/\n<=12)&&(decide (n'=n)&&a.next.all (zjW (letters a.al.toNat 6).length n)))) by unfold zj;rw [<- x,<- y]);have Q:=h.1.len;have R:=h.2.2.len;clear x y
 by_cases hal:0<=a.al/\a.al<=63
 ·have o:=za (show decide (0<=a.al/\a.al<=63)=jV by simp;omega)
  by_cases hn:1<=n/\n<=12
  ·have L:decide ((n:Int)<1)=j3:=by simp;omega
   have M:decide (12<(n:Int))=j3:=by simp;omega
   by_cases hn':n'=n
   ·subst hn';obtain⟨al,b⟩:∃ al:Nat,Hid (a.al=al):=⟨a.al.toNat,by unfold Hid;omega⟩;have t:Sm al:=by have:=b.out;unfold Sm;omega
    have S:=zA al 6;rw [b.out];rw [b.out] at o;rw [b.out,Int.toNat_natCast] at q;clear hal;have z:=fun W (hW:Ext w W)=>h.1.ext hW;have F:=za z;clear z
    go_enter Tryz.func79,Tryz.ntmps79
    go_wp2_with (go_at_call 142;refine (zZ _ _).mono ?_;rw [o.out];rintro e w' ⟨rfl,rfl⟩)
    go_loopw [4] (fun i wr=>∃ k:Nat,k<=n'/\i=.int iX k/\Hid ((a.next.take k).all (zjW (letters al 6).length n')=jV)/\Ext (w.alloc (.cells #[Value.int iX al,fF A n' c,fF A' n' c'] 27)) wr)
     (fun i _=>n' - (intOf i).toNat)
    case atStart=>exact⟨0,dH _,rfl,rfl,Ext.refl _⟩
    case round =>
     obtain⟨k,Z,rfl,g,f⟩:=hrel;have B:∀ W,Ext wr W->∀ j,W.cell? ⟨w.heap.size,j,fW⟩=#[Value.int iX al,fF A n' c,fF A' n' c'][j]?:=fun W hW=>zdd (f.trans hW)
     by_cases hlt:k<n'
     ·obtain⟨G,E,I,l,rfl,T,O,C,m,s⟩:=(F.out wr (((Ext.refl _).alloc _).trans f)).row hlt;have J:∀ W,Ext wr W->W.cell? (G.add k)=fV (fF E l.length I):=fun W hW=>hW.aa m;have V:=Ext.refl wr;have u:∀ W,Ext wr W->Ext w W:=fun W hW=>(((Ext.refl _).alloc _).trans f).trans hW;have r:=za u;clear u;cases hrb:zjW (letters al 6).length n' l
      ·have d:=za hrb;clear hrb;go_wp2_with fail
       go_region_held3 (fun W=>Ext wr W) (first|assumption|(refine Ext.drew ?_;assumption)|(refine Ext.trans ?_ aM;assumption)|(refine Ext.trans ?_ aM;refine Ext.drew ?_;assumption)) (first|(go_at_call 134;refine (zak _ t _).mono ?_;rintro e X ⟨D,H,rfl,v,p⟩)|(go_at_call 171;refine (zjk _ _ _ _ _ _ _ _ _ (s.ext ?_) oM oM).mono ?_;assumption;rw [d.out];rintro e Y ⟨rfl,rfl⟩))
       go_wp2;go_ret;exact⟨zo (by rw [q.out,zaQ C.out d.out];simp),r.out _ aM⟩
      ·have d:=za hrb;clear hrb;go_wp2_with fail
       go_region_held3 (fun W=>Ext wr W) (first|assumption|(refine Ext.drew ?_;assumption)|(refine Ext.trans ?_ aM;assumption)|(refine Ext.trans ?_ aM;refine Ext.drew ?_;assumption)) (first|(go_at_call 134;refine (zak _ t _).mono ?_;rintro e X ⟨D,H,rfl,v,p⟩)|(go_at_call 171;refine (zjk _ _ _ _ _ _ _ _ _ (s.ext ?_) oM oM).mono ?_;assumption;rw [d.out];rintro e Y ⟨rfl,rfl⟩))
       go_wp2;go_roundw
       case rel=>exact⟨k+1,oM,gM,zcB C.out g.out d.out,f.trans aM⟩
       case measure=>simp [intOf];omega
     ·obtain rfl:k=n':=oM;go_wp2;go_ret;exact⟨zo (by rw [q.out,zeB (oH h.n1) g.out,o.out];simp;omega),((Ext.refl _).alloc _).trans f⟩
   ·have U:((n':Int) != (n:Int))=jV:=by simp;omega
    go_enter Tryz.func79,Tryz.ntmps79
    go_wp2_with (go_at_call 142;refine (zZ _ _).mono ?_;rw [o.out];rintro e w' ⟨rfl,rfl⟩)
    go_ret;exact⟨zo (by rw [q.out];simp [hn']),(Ext.refl _).alloc _⟩
  ·go_enter Tryz.func79,Tryz.ntmps79
   go_wp2_with (go_at_call 142;refine (zZ _ _).mono ?_;rw [o.out];rintro e w' ⟨rfl,rfl⟩)
   all_goals go_ret
   all_goals exact⟨zo (by rw [q.out];simp [hn]),(Ext.refl _).alloc _⟩
 ·go_enter Tryz.func79,Tryz.ntmps79
  have o:decide (0<=a.al/\a.al<=63)=j3:=by simp;omega
  go_wp2_with (go_at_call 142;refine (zZ _ _).mono ?_;rw [o];rintro e w' ⟨rfl,rfl⟩)
  go_ret;exact⟨zo (by rw [q.out];simp;omega),(Ext.refl _).alloc _⟩
def place (a l:Nat):Nat:=(letters a l).length
def aGo (a:Aut) (q l:Nat):Nat:=if a.al.toNat.testBit l then ((a.next.getD q []).getD (place a.al.toNat l) 0).toNat else q
abbrev Mem:=Nat × (Nat->Nat->List Nat)
def zee (s:Sys):Mem:=(s.st.toNat,cho s)
def zbD (a:Aut):Mem:=(a.next.length,fun q l=>[aGo a q l])
def zaB:List Nat->Nat
 |[]=>1
 |m :: r=>m*zaB r
def zH (ms:List Mem):Nat:=zaB (ms.map Prod.fst)
theorem zdU (m:Mem) (r:List Mem):zH (m :: r)=m.1*zH r:=rfl
theorem zdz (a b:List Nat):zaB (a++b)=zaB a*zaB b:=by
 induction a with
 |nil=>simp [zaB]
 |cons x r ih=>rw [iB,zaB,zaB,ih,iW]
theorem zca (a b:List Mem):zH (a++b)=zH a*zH b:=by
 unfold zH;rw [eI,zdz]
theorem prodS_pos {l:List Nat}(h:∀ x∈l,1<=x):1<=zaB l:=by
 induction l with
 |nil=>simp [zaB]
 |cons x r ih=>exact Nat.mul_pos (h x sM) (ih fun y hy=>h y (by simp [hy]))
def dec:List Nat->Nat->List Nat
 |[],_=>[]
 |s :: r,x=>(x / zaB r % s) :: dec r x
theorem zdO (l:List Nat) (x:Nat):(dec l x).length=l.length:=by
 induction l with
 |nil=>rfl
 |cons s r ih=>simp [dec,ih]
theorem zjD {l:List Nat} {s:Nat}(h:l[k]?=fV s):(dec l x)[k]?=fV (x / zaB (l.drop (k+1)) % s):=by
 induction l generalizing k with
 |nil=>simp at h
 |cons t r ih =>
  cases k with
  |zero=>simp at h;subst h;simp [dec]
  |succ k=>simp at h;simpa [dec] using ih h
def encF (acc:Nat):List Nat->List Nat->Nat
 |s :: r,x :: xs=>encF (acc*s+x) r xs
 |_,_=>acc
def pnx:List Mem->Nat->Nat->List Nat
 |[],_,_=>[0]
 |m :: r,x,l=>(m.2 (x / zH r % m.1) l).flatMap fun q=>(pnx r x l).map fun y=>q*zH r+y
def zez (m:Mem):Prop:=1<=m.1/\∀ q l,q<m.1->l<6->∀ x∈m.2 q l,x<m.1
theorem zgm {ms:List Mem}(h:∀ m∈ms,zez m):1<=zH ms:=prodS_pos fun x hx=>by
 obtain⟨m,hm,rfl⟩:=kE.1 hx
 exact (h m hm).1
theorem zjh {ms:List Mem}(h:∀ m∈ms,zez m) (hl:l<6):∀ y∈pnx ms x l,y<zH ms:=by
 induction ms with
 |nil=>intro y a;simp [pnx] at a;subst a;simp [zH,zaB]
 |cons m r ih =>
  intro y a;rw [pnx] at a;obtain⟨q,c,a⟩:=kP.1 a;obtain⟨z,d,rfl⟩:=kE.1 a;have b:=(h m sM).2 _ l (Nat.mod_lt _ (h m sM).1) hl q c;have f:=ih (fun m hm=>h m (by simp [hm])) z d;rw [zdU]
  calc q*zH r+z<q*zH r+zH r:=oM
   _=(q+1)*zH r:=by rw [iV,Nat.one_mul]
   _<=m.1*zH r:=jN _ b
theorem zgD (a b:List Mem) (x l:Nat):pnx (a++b) x l=(pnx a (x / zH b) l).flatMap fun q=>(pnx b x l).map fun y=>q*zH b+y:=by
 induction a with
 |nil=>simp [pnx]
 |cons m r ih =>
  rw [iB,pnx,pnx,ih,zca,List.flatMap_assoc];rw [jE,fJ (zH b) (zH r)]
  congr 1
  funext q
  rw [List.map_flatMap,List.flatMap_map]
  congr 1
  funext z
  rw [List.map_map]
  congr 1
  funext y
  simp only [Function.comp];rw [iV,iW,iC]
theorem nx_pnx (ss:List Sys) (m l:Nat):nx ss m l=(pnx (ss.map zee) m l,zH (ss.map zee),m / zH (ss.map zee)):=by
 induction ss with
 |nil=>simp [nx,pnx,zH,zaB]
 |cons s r ih =>
  rw [nx,ih,fL,pnx,zdU];simp only [zee];rw [jE,fJ (zH _) s.st.toNat]
theorem pnx_two (a p:Aut) (x l:Nat):pnx [zbD a,zbD p] x l=[aGo a (x / p.next.length % a.next.length) l*p.next.length+aGo p (x % p.next.length) l]:=by
 simp [pnx,zbD,zH,zaB]
theorem pnx_one (p:Aut) (x l:Nat):pnx [zbD p] x l=[aGo p (x % p.next.length) l]:=by
 simp [pnx,zbD,zH,zaB]
theorem pnx_under (ss:List Sys) (a p:Aut) (x l:Nat) :
  pnx (ss.map zee++[zbD a,zbD p]) x l=(nx ss (x / p.next.length / a.next.length) l).1.map fun y=>y*a.next.length*p.next.length+(aGo a (x / p.next.length % a.next.length) l*p.next.length+aGo p (x % p.next.length) l):=by
 have b:zH [zbD a,zbD p]=a.next.length*p.next.length:=by simp [zH,zaB,zbD]
 rw [zgD,pnx_two,nx_pnx,b,jE,fJ p.next.length a.next.length];simp only [fL,List.map_nil,<- List.map_eq_flatMap,iW]
def free:Aut:=⟨0,[[]],[jV]⟩
theorem pnx_free (ss:List Sys) (p:Aut) (x l:Nat):pnx (ss.map zee++[zbD free,zbD p]) x l=pnx (ss.map zee++[zbD p]) x l:=by
 have a:∀ q l,aGo free q l=q:=fun q l=>by simp [aGo,free]
 rw [zgD,zgD,pnx_two,pnx_one,a];have b:zH [zbD free,zbD p]=p.next.length:=by simp [zH,zaB,zbD,free]
 have c:zH [zbD p]=p.next.length:=by simp [zH,zaB,zbD]
 rw [b,c];have d:free.next.length=1:=rfl;rw [d,Nat.mod_one,jQ,dX]
def fwd (cs:List (Nat × List Nat)):List Nat:=cs.foldl (fun out c=>out.flatMap fun o=>c.2.map fun x=>o*c.1+x) [0]
theorem zjI (cs:List (Nat × List Nat)) (c:Nat × List Nat):fwd (cs++[c])=(fwd cs).flatMap fun o=>c.2.map fun x=>o*c.1+x:=by simp [fwd]
def chs:List Mem->Nat->Nat->List (Nat × List Nat)
 |[],_,_=>[]
 |m :: r,x,l=>(m.1,m.2 (x / zH r % m.1) l) :: chs r x l
theorem zgz (ms:List Mem) (x l:Nat):(chs ms x l).length=ms.length:=by
 induction ms with
 |nil=>rfl
 |cons m r ih=>simp [chs,ih]
theorem chs_get {ms:List Mem}  {m:Mem}(h:ms[k]?=fV m):(chs ms x l)[k]?=fV (m.1,m.2 (x / zH (ms.drop (k+1)) % m.1) l):=by
 induction ms generalizing k with
 |nil=>simp at h
 |cons t r ih =>
  cases k with
  |zero=>simp at h;subst h;simp [chs]
  |succ k=>simp at h;simpa [chs] using ih h
theorem foldl_pnx (ms:List Mem) (x l:Nat) (out:List Nat):(chs ms x l).foldl (fun out c=>out.flatMap fun o=>c.2.map fun x=>o*c.1+x) out=out.flatMap fun o=>(pnx ms x l).map fun y=>o*zH ms+y:=by
 induction ms generalizing out with
 |nil=>simp [chs,pnx,zH,zaB]
 |cons m r ih =>
  rw [chs,iG,ih,pnx,List.flatMap_assoc]
  congr 1
  funext o
  rw [List.flatMap_map,List.map_flatMap]
  congr 1
  funext q
  rw [List.map_map]
  congr 1
  funext y
  simp only [Function.comp,zdU];rw [iV,iW,iC]
theorem fwd_pnx (ms:List Mem) (x l:Nat):fwd (chs ms x l)=pnx ms x l:=by
 have:=foldl_pnx ms x l [0];simpa [fwd] using this
theorem flat_len {α β:Type} {l:List α} {f:α->List β} (h:∀ x∈l,(f x).length<=k):(l.flatMap f).length<=l.length*k:=by
 induction l with
 |nil=>simp
 |cons x r ih =>
  have a:=ih fun y hy=>h y (by simp [hy]);have b:=h x sM;rw [iU,dN,fO,iV,Nat.one_mul];omega
theorem fwd_len {cs:List (Nat × List Nat)}(h:∀ c∈cs,c.2.length<=c.1):(fwd cs).length<=zaB (cs.map Prod.fst):=by
 have a:∀ n,n<=cs.length->(fwd (cs.take n)).length<=zaB ((cs.take n).map Prod.fst):=by
  intro n
  induction n with
  |zero=>intro _;simp [fwd,zaB]
  |succ n ih =>
   intro hn;have b:cs[n]?=fV cs[n]:=dC oM;rw [dO,b];simp only [eH];rw [zjI,eI,zdz];refine dL (flat_len (k:=(cs[n]).2.length) fun x _=>sM) ?_;refine Nat.mul_le_mul (ih oM) ?_;simpa [zaB] using h cs[n] (gG _)
 have:=a cs.length (dE _);rwa [eL] at this
theorem fwd_lt {cs:List (Nat × List Nat)}(h:∀ c∈cs,∀ x∈c.2,x<c.1):∀ y∈fwd cs,y<zaB (cs.map Prod.fst):=by
 have b:∀ n,n<=cs.length->∀ y∈fwd (cs.take n),y<zaB ((cs.take n).map Prod.fst):=by
  intro n
  induction n with
  |zero=>intro _ y a;simp [fwd] at a;subst a;simp [zaB]
  |succ n ih =>
   intro hn y a;have f:cs[n]?=fV cs[n]:=dC oM;rw [dO,f] at a ⊢;simp only [eH] at a ⊢;rw [zjI] at a;rw [eI,zdz];obtain⟨o,g,a⟩:=kP.1 a;obtain⟨x,hx,rfl⟩:=kE.1 a;have d:=ih oM o g;have i:=h cs[n] (gG _) x hx;simp only [fL,List.map_nil,zaB,jC]
   calc o*(cs[n]).1+x<o*(cs[n]).1+(cs[n]).1:=oM
    _=(o+1)*(cs[n]).1:=by rw [iV,Nat.one_mul]
    _<=_:=jN _ d
 have:=b cs.length (dE _);rwa [eL] at this
theorem zeI {s:Sys}(h:Sml s):zez (zee s):=⟨by have:=h.1;simp only [zee];omega,fun q l hq hl x hx=>cho_lt h hq x hx⟩
theorem zk {a:Aut}(h:zj a=jV):(0<=a.al/\a.al<=63)/\(1<=a.next.length/\a.next.length<=12)/\a.acc.length=a.next.length/\∀ (q:Nat) (row:List Int),a.next[q]?=fV row->row.length=(letters a.al.toNat 6).length/\∀ x∈row,0<=x/\x<a.next.length:=by
 simp only [zj,dI,decide_eq_true_eq,eK] at h;obtain⟨b,c,d,f⟩:=h;refine⟨b,c,d,fun q row hr=>?_⟩;have:=f row (dD hr);simp only [zjW,dI,decide_eq_true_eq,eK] at this;exact this
def Fit (N:Nat) (a:Aut):Prop:=(0<=a.al/\a.al<=63)/\(1<=a.next.length/\a.next.length<=N)/\a.acc.length=a.next.length/\∀ (q:Nat) (row:List Int),a.next[q]?=fV row->row.length=(letters a.al.toNat 6).length/\∀ x∈row,0<=x/\x<a.next.length
theorem Fit.row {a:Aut}(h:Fit N a):(0<=a.al/\a.al<=63)/\(1<=a.next.length/\a.next.length<=N)/\a.acc.length=a.next.length/\∀ (q:Nat) (row:List Int),a.next[q]?=fV row->row.length=(letters a.al.toNat 6).length/\∀ x∈row,0<=x/\x<a.next.length:=h
theorem fit_of {a:Aut}(h:zj a=jV):Fit 12 a:=zk h
theorem Fit.valid {a:Aut}(h:Fit N a)(hn:a.next.length<=12):zj a=jV:=by
 obtain⟨b,c,d,f⟩:=h;simp only [zj,dI,decide_eq_true_eq,eK];refine⟨b,⟨c.1,hn⟩,d,fun row hr=>?_⟩;obtain⟨q,g⟩:=eA hr;have:=f q row g;simp only [zjW,dI,decide_eq_true_eq,eK];exact this
theorem place_lt {a:Nat}(hl:l<6)(hb:a.testBit l=jV):place a l<(letters a 6).length:=by
 have b:∀ n,l+1<=n->place a l<(letters a n).length:=by
  intro n
  induction n with
  |zero=>intro h;omega
  |succ n ih =>
   intro h;rw [zbu,dN]
   by_cases e:n=l
   ·subst e;simp [place,hb]
   ·have:=ih oM;omega
 exact b 6 oM
theorem aGo_ltF {a:Aut}(h:Fit N a) (hq:q<a.next.length)(hl:l<6):aGo a q l<a.next.length:=by
 obtain⟨_,_,_,g⟩:=h.row;unfold aGo;split
 ·rename_i hb;have b:a.next[q]?=fV a.next[q]:=dC hq;obtain⟨d,f⟩:=g q _ b;have c:=place_lt hl hb;rw [<- d] at c;have hx:=f _ (gG c);simp only [dF,b,Option.getD_some,dC c];omega
 ·exact hq
theorem zdL {a:Aut}(h:zj a=jV) (hq:q<a.next.length)(hl:l<6):aGo a q l<a.next.length:=aGo_ltF (fit_of h) hq hl
theorem zbE {a:Aut}(h:zj a=jV):zez (zbD a):=⟨(zk h).2.1.1,fun q l hq hl x hx=>by
 simp only [zbD,eT] at hx ⊢
 subst hx
 exact zdL h hq hl⟩
theorem zdP:zj free=jV:=dM
theorem wrap_pow2 {t:Nat}(ht:t<32):wrap64 ((2:Int) ^ t)=((2 ^ t:Nat):Int):=by
 have a:=(Sm.bit ht).lt;have e:(2:Int) ^ t=((2 ^ t:Nat):Int):=sM;rw [e];generalize (2:Nat) ^ t=p at *;unfold wrap64;omega
theorem zgG (n:Nat)(hn:n<32) (w:j2) :
  j8 j5 270 #[n] w fun e w'=>e=j7 (.int iX (2 ^ n:Nat))/\w=w':=by
 have c:IntKind.u64.wrap (n:Int)=n:=by rw [IntKind.wrap_u64];omega
 have a:(n:Int)<=64:=oM;have b:=za (wrap_pow2 hn)
 go_enter Tryz.func270,Tryz.ntmps270
 go_wp2;go_ret;exact⟨zav (by rw [<- b.out]),rfl⟩
def zcq (es:List Edg) (set:Nat) (l:Int):Nat:=es.foldl (fun m e=>if e.le=l/\set.testBit e.fr.toNat=jV then m|||2 ^ e.ta.toNat else m) 0
theorem stepB_snoc (es:List Edg) (e:Edg) (set:Nat) (l:Int):zcq (es++[e]) set l=if e.le=l/\set.testBit e.fr.toNat=jV then zcq es set l|||2 ^ e.ta.toNat else zcq es set l:=by simp [zcq]
theorem zea (es:List Edg) (set:Nat) (l:Int) (k:Nat):(zcq es set l).testBit k=jV↔∃ e∈es,(e.le=l/\set.testBit e.fr.toNat=jV)/\e.ta.toNat=k:=by
 have:=foldl_bit es (fun e=>e.le=l/\set.testBit e.fr.toNat=jV) 0 k;simpa [zcq] using this
theorem stepB_lt {es:List Edg}(h:Few n es) (set:Nat) (l:Int):zcq es set l<2 ^ n:=by
 apply jS;intro k hk;rw [eV];intro hb;obtain⟨e,a,_,b⟩:=(zea es set l k).1 hb;have:=h e a;omega
theorem zih {s:Sys} {set:Nat} {l:Int} {k0:Nat} (h:zY w lo hi A n s)(hf:Few k0 s.edges)(hk0:k0<=16)(hset:Sm set) :
  j8 j5 224 #[.agg #[s.al,s.st,fF A n c],set,l] w fun e w'=>e=j7 (.int iX (zcq s.edges set l:Nat))/\Ext w w':=by
 have X:=h.2.len;have M:=za h.1;have F:=za (fun W (hW:Ext w W)=>h.2.ext hW);have G:=za hf;clear hf
 go_enter Tryz.func224,Tryz.ntmps224
 go_wp2
 go_loopw [7,8] (fun v i wr=>∃ k:Nat,k<=n/\i=.int iX k/\∃ y:Nat,v=.int iX y/\Sm y/\Hid (y=zcq (s.edges.take k) set l)/\Ext w wr/\Ext (w.alloc (.cells #[s.al,s.st,fF A n c] 38)) wr) (fun _ i _=>n - (intOf i).toNat)
 case atStart=>exact⟨0,dH _,rfl,0,rfl,tM,rfl,(Ext.refl _).alloc _,Ext.refl _⟩
 case round =>
  obtain⟨k,V,rfl,y,rfl,D,g,d,a⟩:=hrel;have S:=fun j=>zdd (j:=j) a
  by_cases hlt:k<n
  ·obtain⟨b,o,x,rfl,_,_,hx,H,R,I⟩:=(F.out wr d).edge hlt;obtain⟨⟨J,L⟩,⟨T,U⟩,⟨O,Q⟩⟩:=G.out x (dD hx.out);have p:=za (show s.edges.take (k+1)=s.edges.take k++[x] by rw [dO,hx.out];rfl);obtain⟨f,q⟩:∃ f:Nat,x.fr=f:=⟨x.fr.toNat,oM⟩;obtain⟨t,B⟩:∃ t:Nat,x.ta=t:=⟨x.ta.toNat,oM⟩;rw [q] at H J L;rw [B] at I O Q;have r:=za (stepB_snoc (s.edges.take k) x set l)
   by_cases hle:x.le=l
   ·have z:(x.le==l)=jV:=by simp [hle]
    have m:=za hle;clear hle;cases hb:set.testBit f
    ·have u:=za hb;clear hb;go_wp2_with (go_at_call 143;refine (zax set f hset _ oM).mono ?_;rw [u.out];rintro e w' ⟨rfl,rfl⟩)
     go_roundw
     case rel=>exact⟨k+1,oM,gM,y,rfl,D,by unfold Hid;rw [p.out,r.out,if_neg (by rintro ⟨_,C⟩;rw [q] at C;simp [u.out] at C)];exact g.out,d,a⟩
     case measure=>simp [intOf];omega
    ·have u:=za hb;clear hb;have E:=za (show bits .or iX (y:Nat) ((2:Int) ^ t)=((y|||2 ^ t:Nat):Int) by have:=zcf D (Sm.bit (n:=t) oM);rw [show (((2:Nat) ^ t:Nat):Int)=(2:Int) ^ t by simp] at this;exact this);go_wp2_with (first
      |(go_at_call 143;refine (zax set f hset _ oM).mono ?_;rw [u.out];rintro e w' ⟨rfl,rfl⟩)
      |(go_at_call 270;refine (zgG t oM _).mono ?_;rintro e w' ⟨rfl,rfl⟩))
     go_roundw
     case rel=>exact⟨k+1,oM,gM,y|||2 ^ t,by rw [E.out],D.or (Sm.bit oM),by unfold Hid;rw [p.out,r.out,if_pos ⟨m.out,by rw [q];simpa using u.out⟩,<- g.out,B];rfl,d,a⟩
     case measure=>simp [intOf];omega
   ·have z:(x.le==l)=j3:=by simp [hle]
    have m:=za hle;clear hle;go_wp2;go_roundw
    case rel=>exact⟨k+1,oM,gM,y,rfl,D,by unfold Hid;rw [p.out,r.out,if_neg (by rintro ⟨C,_⟩;exact m.out C)];exact g.out,d,a⟩
    case measure=>simp [intOf];omega
  ·obtain rfl:n=k:=oM;go_wp2;go_ret;exact⟨zav (by rw [g.out,M.out,eL]),d⟩
theorem Reads.nat {l:List Nat}(h:Reads w lo hi 1 A n (zah l))(hk:k<n):∃ ad x,A=fV ad/\lo<=ad.block/\ad.block<hi/\Hid (l[k]?=fV x)/\w.cell? (ad.add k)=fV (.int iX (x:Nat)):=by
 have e:zah l=ints (l.map fun n:Nat=>(n:Int)):=by simp [zah,ints]
 rw [e] at h;obtain⟨ad,x,b,f,d,hx,c⟩:=h.int hk;have a:=hx.out;rw [dP] at a;cases hq:l[k]? with
 |none=>rw [hq] at a;simp at a
 |some q =>
  rw [hq] at a;simp at a;exact⟨ad,q,b,f,d,rfl,by rw [c,a]⟩
def MovAt (w:j2) (b:Nat) (es:List Edg):Prop:=∀ i l:Nat,i<16->l<6->w.cell? ⟨b,i*6+l,fW⟩=fV (.int iX (succ es i l:Nat))
theorem MovAt.ext {es:List Edg}(h:MovAt w b es)(hb:Ext w w'):MovAt w' b es:=fun i l hi hl=>hb.aa (h i l hi hl)
theorem bits_andNot {a:Nat}(ha:Sm a)(hb:Sm b):bits .andNot iX (a:Int) (b:Int)=(diff a b:Nat):=by
 have c:=ha.lt;have d:=hb.lt;have f:=diff_le a b;show IntKind.i64.wrap ((BitVec.ofInt 64 (a:Int)&&&~~~ BitVec.ofInt 64 (b:Int)).toNat:Int)=_;have e:(BitVec.ofInt 64 (a:Int)&&&~~~ BitVec.ofInt 64 (b:Int)).toNat=diff a b:=by
  apply fI;intro k;rw [zjE,BitVec.toNat_and,fQ,zcG a oM,BitVec.testBit_toNat,BitVec.getLsbD_not,<- BitVec.testBit_toNat,zcG b oM]
  by_cases hk:k<64
  ·simp [hk]
  ·simp only [hk,decide_false,Bool.false_and,iY];rw [zgr ha oM];rfl
 rw [e,IntKind.wrap_i64];omega
end Go.Proofs.YtckbjnndaaoddaaGreatDoor
