/- Plain lemmas -/
import Derived.WalkKit
import Derived.WalkSpells
import Derived.WalkLawsBesides
import Derived.BigQuiet
import Derived.Deep.QuietTactic
import Derived.Deep.RegionWith
import Derived.Deep.RegionHeld3
import Derived.Deep.AppendLies
import Derived.Deep.Draws
import Derived.Laws.OwnMore
import Derived.Laws.BitsAllLaws
import Derived.Laws.BitsLemmas
import Derived.Maps.AppendAt
import Derived.Test.YtfcjhpodichpjaaDoorRows
import Derived.ProofKit
import Derived.Deep.Slices
import Derived.Deep.Fields
import Derived.ChangeSame
import Derived.ChangeArms
import Derived.Lib.SmallJoins
import Derived.OpenShut
import Derived.ShutString
import Derived.ChangeOld
import Derived.OrdersHeld
import Derived.IntWalk
import Derived.Lib.TrailingZeros
import Derived.Shelf.Spec.TrailingZeros
import Derived.Laws.BytesArg
import Derived.Deep.DeepCutAuto
import Derived.StillTailTactics
import Derived.Lib.ItoaNum
set_option maxHeartbeats 2000000
set_option maxRecDepth 100000
namespace Go.Proofs.YtfcjhpodichpjaaDoor
open Go Go.RowKit
theorem zb {p:Prop}(h:p):Hid p:=h
theorem addr_block (a:Addr) (n:Nat):(a.add n).block=a.block:=by unfold Addr.add;split<;>rfl
theorem addr_lit (g o n:Nat):(⟨g,o,none⟩:Addr).add n=⟨g,o+n,none⟩:=by unfold Addr.add;split<;>simp_all
structure Frm (S:Nat→Prop) (w w':World):Prop where
 os:w'.os=w.os
 tape:w'.tape=w.tape
 output:w'.output=w.output
 size:w.heap.size≤w'.heap.size
 block:∀ k,k<w.heap.size→¬ S k→w'.heap[k]?=w.heap[k]?
def Ext (w w':World):Prop:=Frm (fun _=>False) w w'
theorem Ext.refl (w:World):Ext w w:=⟨rfl,rfl,rfl,Nat.le_refl _,fun _ _ _=>rfl⟩
theorem Ext.trans {a b c:World}(h:Ext a b) (k:Ext b c):Ext a c:=
 ⟨k.os.trans h.os,k.tape.trans h.tape,k.output.trans h.output,Nat.le_trans h.size k.size,fun i hi hn=>(k.block i (Nat.lt_of_lt_of_le hi h.size) hn).trans (h.block i hi hn)⟩
theorem Ext.drew {a w:World}(h:Ext a w):Ext a w.drew:=⟨h.os,h.tape,h.output,h.size,h.block⟩
theorem Ext.drewN {a w:World}(h:Ext a w) (n:Nat):Ext a (w.drewN n):=⟨h.os,h.tape,h.output,h.size,h.block⟩
theorem Ext.alloc {a w:World}(h:Ext a w) (o:Obj):Ext a (w.alloc o):=
 h.trans ⟨rfl,rfl,rfl,by simp,fun k hk _=>Below.heap_alloc _ _ _ hk⟩
theorem Ext.setCell {a w:World}(h:Ext a w) {p:Addr}(hp:a.heap.size≤p.block) (u:Value):Ext a (w.setCell p u):=
 ⟨h.os,h.tape,h.output,by simpa [World.setCell] using h.size,fun k hk hn=>(Below.heap_setCell _ _ _ _ (by omega)).trans (h.block k hk hn)⟩
theorem Ext.grown {a w w':World} {row:Option Nat}(h:Ext a w)(hg:w.grownBy w' row)(hr:∀ k,row=some k→a.heap.size≤k):Ext a w':=
 ⟨hg.os.trans h.os,hg.tape.trans h.tape,hg.output.trans h.output,Nat.le_trans h.size hg.size,
  fun k hk hn=>(hg.block k (Nat.lt_of_lt_of_le hk h.size) (fun e=>by have:=hr k e.symm;omega)).trans (h.block k hk hn)⟩
theorem Ext.of_below {w w':World}(h:Below w.heap.size w w'):Ext w w':=⟨h.os,h.tape,h.output,h.size,fun k hk _=>h.block k hk⟩
theorem Ext.heap {w w':World}(h:Ext w w') {k:Nat}(hk:k<w.heap.size):w'.heap[k]?=w.heap[k]?:=h.block k hk id
theorem Ext.cell {w w':World}(h:Ext w w') {p:Addr}(hp:p.block<w.heap.size):w'.cell? p=w.cell? p:=World.cell?_of_block (w:=w) (h.heap hp)
theorem Ext.cell_some {w w':World}(h:Ext w w') {p:Addr} {v:Value}(hv:w.cell? p=some v):w'.cell? p=some v:=
 (h.cell (World.block_lt_of_cell? w p hv)).trans hv
def Blk (w:World) (g:Nat) (t:TypeId) (cs:Array Value):Prop:=w.heap[g]?=some (.cells cs t (0,0))
section
variable {w w':World} {g:Nat} {t:TypeId} {cs:Array Value}
theorem Blk.lt (h:Blk w g t cs):g<w.heap.size:=by
 rcases Nat.lt_or_ge g w.heap.size with hlt|hge
 ·exact hlt
 ·unfold Blk at h;rw [Array.getElem?_eq_none hge] at h;cases h
theorem Blk.cell (h:Blk w g t cs) (i:Nat):w.cell? ⟨g,i,none⟩=cs[i]?:=cell_of_row w g i cs t (0,0) h
theorem Blk.frozen (h:Blk w g t cs) (i:Nat):w.frozen? ⟨g,i,none⟩=false:=by
 unfold Blk at h
 simp [World.frozen?,h]
theorem Blk.new (w:World) (t:TypeId) (cs:Array Value):Blk (w.alloc (.cells cs t)) w.heap.size t cs:=heap_alloc_new w _
theorem Blk.ext (h:Blk w g t cs)(hb:Ext w w'):Blk w' g t cs:=(hb.heap h.lt).trans h
theorem Blk.cells (h:Blk w g t cs):∀ W,Ext w W→∀ i,W.cell? ⟨g,i,none⟩=cs[i]?:=fun _ hW=>(h.ext hW).cell
theorem Blk.set_ (h:Blk w g t cs) (i:Nat) (u:Value):Blk (w.setCell ⟨g,i,none⟩ u) g t (cs.setIfInBounds i u):=by
 unfold Blk at h ⊢
 simp [World.setCell,Array.getElem?_modify,h]
end
theorem zm {w w':World} {cs:Array Value} {t:TypeId}(h:Ext (w.alloc (.cells cs t)) w'):Blk w' w.heap.size t cs:=(Blk.new w t cs).ext h
theorem zV {w w':World} {cs ds:Array Value} {t u:TypeId}(h:Ext ((w.alloc (.cells cs t)).alloc (.cells ds u)) w'):Blk w' w.heap.size t cs∧Blk w' (w.heap.size+1) u ds:=by
 refine⟨zm (((Ext.refl _).alloc _).trans h),?_⟩
 have:=zm h
 simpa using this
theorem ext_blk3 {w w':World} {cs ds es:Array Value} {t u v:TypeId}(h:Ext (((w.alloc (.cells cs t)).alloc (.cells ds u)).alloc (.cells es v)) w'):Blk w' w.heap.size t cs∧Blk w' (w.heap.size+1) u ds∧Blk w' (w.heap.size+1+1) v es:=by
 have h2:=zV (((Ext.refl _).alloc _).trans h)
 refine⟨h2.1,h2.2,?_⟩
 have:=zm h
 simpa using this
theorem Blk.far {w:World} {g:Nat} {t:TypeId} {cs:Array Value}(h:Blk w g t cs) {p:Addr}(hp:g≠p.block) (u:Value):Blk (w.setCell p u) g t cs:=(Below.heap_setCell w p u g hp).trans h
theorem zH {w w':World} {cs:Array Value} {t:TypeId}(h:Ext (w.alloc (.cells cs t)) w'):∀ j,w'.cell? ⟨w.heap.size,j,none⟩=cs[j]?:=(zm h).cell
def Reads (w:World) (lo hi size:Nat) (A:Option Addr) (n:Nat) (xs:List Value):Prop:=
 xs.length=n*size∧n≤9223372036854775807∧(0<n→∃ ad,A=some ad∧lo≤ad.block∧ad.block<hi∧∀ j u,xs[j]?=some u→w.cell? (ad.add j)=some u)
section
variable {w w':World} {lo hi size n:Nat} {A:Option Addr} {xs:List Value}
theorem Reads.nil:Reads w lo hi size A 0 []:=⟨by simp,by omega,fun h=>absurd h (by omega)⟩
theorem Reads.len (h:Reads w lo hi size A n xs):n≤9223372036854775807:=h.2.1
theorem Reads.length (h:Reads w lo hi size A n xs):xs.length=n*size:=h.1
theorem Reads.at_ {k:Nat}(h:Reads w lo hi size A n xs)(hk:k<n):∃ ad,A=some ad∧lo≤ad.block∧ad.block<hi∧∀ j u,xs[j]?=some u→w.cell? (ad.add j)=some u:=h.2.2 (by omega)
theorem Reads.one {k:Nat}(h:Reads w lo hi 1 A n xs)(hk:k<n):∃ ad u,A=some ad∧lo≤ad.block∧ad.block<hi∧Hid (xs[k]?=some u)∧w.cell? (ad.add k)=some u:=by
 obtain⟨ad,e,hl,hb,hc⟩:=h.2.2 (by omega)
 have hx:k<xs.length:=by have:=h.1;omega
 exact⟨ad,xs[k],e,hl,hb,List.getElem?_eq_getElem hx,hc k _ (List.getElem?_eq_getElem hx)⟩
theorem Reads.ext (h:Reads w lo hi size A n xs)(hb:Ext w w'):Reads w' lo hi size A n xs:=
 ⟨h.1,h.2.1,fun hn=>by
  obtain⟨ad,e,hl,hi,hc⟩:=h.2.2 hn
  exact⟨ad,e,hl,hi,fun j u hu=>hb.cell_some (hc j u hu)⟩⟩
theorem Reads.of_own {base:Nat} {e:TypeId} {c:Nat}(h:w.ownsRow base e size (.slice A n c) n xs):Reads w base w.heap.size size A n xs:=by
 rcases h.2 with ⟨h',h0⟩|⟨g,cap,cur,hv,hb,hg,hnc,hcm,_,htake⟩
 ·subst h0
  have hx:xs=[]:=List.eq_nil_of_length_eq_zero (by simpa using h.1)
  subst hx
  exact Reads.nil
 ·have hA:A=some ⟨g,0,none⟩:=by injection hv
  subst hA
  exact⟨h.1,by unfold maxLen at hcm;omega,fun _=>⟨_,rfl,hb,(Array.getElem?_eq_some_iff.1 hg).1,h.cells (g:=g) rfl⟩⟩
end
theorem zM {P:Program} (wb w:World) {ops:Array Oper} {rest:List Oper} {o:Oper} {a:Act} {Q:Exit→Act→World→Prop}(hgd:o.guard=none) (s x:Operand) (t:TypeId)
  (ho:o.op=.call { callee:=.builtin .append,args:=#[s,x],argTypes:=#[t,t] })
  (e:TypeId) (z:Value) (size bytes:Nat) (ht:P.underlying t=some (.slice e)) (hi:(P.info? e).map (fun i=>(i.zero,i.size,i.bytes))=some (some z,size,bytes)) (hzs:z.cells.size=size) (hsz:0<size)
  (v:Value) (n:Nat) (xs:List Value) (us:Array Value) (e':TypeId) (hs:a.eval s=v) (hx:a.eval x=.slice (some ⟨w.heap.size,0,none⟩) 1 1)
  (zaG:Ext wb w) (zaF:w.ownsRow wb.heap.size e size v n xs) (hus:us.size=size) (h1:∀ u∈us.toList,u.oneCell'=true)
  (h63:n+1≤maxLen) (hbytes:(n+1)*bytes≤140737488355328)
  (h:∀ v' w',Ext wb w'→w'.ownsRow wb.heap.size e size v' (n+1) (xs++us.toList)→w.grownBy w' v.ownBlock→(v'.ownBlock=v.ownBlock∨v'.ownBlock=some (w.heap.size+1))→wpList P ops Q rest (a.put o.dst v') w') :
  wpList P ops Q (o :: rest) a (w.alloc (.cells us e')):=by
 obtain⟨i,hi0,hz0,hz1,hz2⟩:=info_parts hi
 refine wpList_append_own_at (w.alloc (.cells us e')) hgd s x t ho wb.heap.size e i z size bytes ht hi0 hz0 hz1 hz2 hzs hsz v n xs hs (zaF.alloc _) ⟨w.heap.size,0,none⟩ 1 1 us.toList hx (by simpa using hus) ?_ h1 h63 hbytes (by have:=zaG.size;simp;omega) ?_
 ·intro j u hu
  rw [addr_lit,Nat.zero_add,(Blk.new w e' us).cell]
  simpa using hu
 ·intro v' w' hown' hg _ hat
  have hg':w.grownBy w' v.ownBlock:=⟨hg.os,hg.tape,hg.output,Nat.le_trans (by simp) hg.size,fun k hk hne=>(hg.block k (by simp;omega) hne).trans (Below.heap_alloc w _ k hk)⟩
  exact h v' w' (zaG.grown hg' (fun k hk=>(zaF.lt k hk).1)) hown' hg' (by simpa using hat)
theorem zs {P:Program} (wb w:World) {ops:Array Oper} {rest:List Oper} {o:Oper} {a:Act} {Q:Exit→Act→World→Prop}(hgd:o.guard=none) (l c:Operand) (t:TypeId)(ho:o.op=.makeSlice t l c)
  (e:TypeId) (z:Value) (size bytes:Nat) (ht:P.underlying t=some (.slice e)) (hi:(P.info? e).map (fun i=>(i.zero,i.size,i.bytes))=some (some z,size,bytes))
  (kl kc:IntKind) (n:Nat) (hl:a.eval l=.int kl (n:Int)) (hc:a.eval c=.int kc (n:Int)) (zaG:Ext wb w) (hbytes:n*bytes≤140737488355328) (h63:n≤maxLen)
  (h:∀ w',Ext wb w'→w'.ownsRow wb.heap.size e size (.slice (some ⟨w.heap.size,0,none⟩) n n) n (madeCells z.cells (n*size)).toList→Ext w w'→w.heap.size<w'.heap.size→wpList P ops Q rest (a.put o.dst (.slice (some ⟨w.heap.size,0,none⟩) n n)) w') :
  wpList P ops Q (o :: rest) a w:=by
 obtain⟨i,hi0,hz0,hz1,hz2⟩:=info_parts hi
 refine wpList_make_full w hgd l c t ho wb.heap.size e i z size ht hi0 hz0 hz1 kl kc n n n hl hc rfl rfl (by rw [hz2,Nat.mul_comm];omega) h63 zaG.size ?_
 intro w' zaF hg
 refine h w' (zaG.grown hg (by simp)) zaF ((Ext.refl _).grown hg (by simp)) ?_
 rcases zaF.2 with ⟨h',_⟩|⟨g,cap,cur,h',_,hh,_⟩
 ·simp at h'
 ·have:w.heap.size=g:=by injection h' with h1;injection h1 with h1;injection h1
  subst this
  exact (Array.getElem?_eq_some_iff.1 hh).1
theorem zW {w:World} {base:Nat} {e:TypeId} {size:Nat} {v:Value} {n:Nat} {xs:List Value}(h:w.ownsRow base e size v n xs):∃ A c,v=.slice A n c:=by
 rcases h.2 with ⟨rfl,h0⟩|⟨g,cap,cur,rfl,_⟩
 ·exact⟨none,0,by rw [h0]⟩
 ·exact⟨_,_,rfl⟩
theorem cells_int (n:Int):∀ u∈(#[Value.int .i64 n]:Array Value).toList,u.oneCell'=true:=by simp [Value.oneCell']
theorem cells_u8 (n:Int):∀ u∈(#[Value.int .u8 n]:Array Value).toList,u.oneCell'=true:=by simp [Value.oneCell']
def ints (l:List Int):List Value:=l.map (Value.int .i64)
theorem zI (l:List Int):(ints l).length=l.length:=by simp [ints]
def zu (l:List Bool):List Value:=l.map Value.bool
theorem zT (l:List Bool):(zu l).length=l.length:=by simp [zu]
theorem ints_get {l:List Int} {k:Nat} {u:Value}(h:(ints l)[k]?=some u):∃ n,l[k]?=some n∧u=.int .i64 n:=by
 simp only [ints,List.getElem?_map,Option.map_eq_some_iff] at h
 obtain⟨n,hn,rfl⟩:=h
 exact⟨n,hn,rfl⟩
theorem bools_get {l:List Bool} {k:Nat} {u:Value}(h:(zu l)[k]?=some u):∃ n,l[k]?=some n∧u=.bool n:=by
 simp only [zu,List.getElem?_map,Option.map_eq_some_iff] at h
 obtain⟨n,hn,rfl⟩:=h
 exact⟨n,hn,rfl⟩
theorem Reads.int {w:World} {lo hi n k:Nat} {A:Option Addr} {l:List Int}(h:Reads w lo hi 1 A n (ints l))(hk:k<n):∃ ad x,A=some ad∧lo≤ad.block∧ad.block<hi∧Hid (l[k]?=some x)∧w.cell? (ad.add k)=some (.int .i64 x):=by
 obtain⟨ad,u,e,hl,hb,hx,hc⟩:=h.one hk
 obtain⟨x,hx',rfl⟩:=ints_get hx.out
 exact⟨ad,x,e,hl,hb,hx',hc⟩
theorem Reads.bool {w:World} {lo hi n k:Nat} {A:Option Addr} {l:List Bool}(h:Reads w lo hi 1 A n (zu l))(hk:k<n):∃ ad x,A=some ad∧lo≤ad.block∧ad.block<hi∧Hid (l[k]?=some x)∧w.cell? (ad.add k)=some (.bool x):=by
 obtain⟨ad,u,e,hl,hb,hx,hc⟩:=h.one hk
 obtain⟨x,hx',rfl⟩:=bools_get hx.out
 exact⟨ad,x,e,hl,hb,hx',hc⟩
def RowsAt (w:World) (lo hi:Nat) (rows:List Value) (ls:List (List Int)):Prop:=
 rows.length=ls.length∧∀ (i:Nat) (row:Value) (l:List Int),rows[i]?=some row→ls[i]?=some l→∃ A c,row=.slice A l.length c∧Reads w lo hi 1 A l.length (ints l)
def zk (w:World) (lo hi:Nat) (A:Option Addr) (n:Nat) (ls:List (List Int)):Prop:=
 n=ls.length∧∃ rows,Reads w lo hi 1 A n rows∧RowsAt w lo hi rows ls
section
variable {w w':World} {lo hi n k:Nat} {A:Option Addr} {ls:List (List Int)} {rows:List Value}
theorem RowsAt.ext (h:RowsAt w lo hi rows ls)(hb:Ext w w'):RowsAt w' lo hi rows ls:=
 ⟨h.1,fun i row l hr hl=>by
  obtain⟨A,c,e,hx⟩:=h.2 i row l hr hl
  exact⟨A,c,e,hx.ext hb⟩⟩
theorem zk.ext (h:zk w lo hi A n ls)(hb:Ext w w'):zk w' lo hi A n ls:=by
 obtain⟨e,rows,hr,hx⟩:=h
 exact⟨e,rows,hr.ext hb,hx.ext hb⟩
theorem zk.len (h:zk w lo hi A n ls):n≤9223372036854775807:=by
 obtain⟨_,rows,hr,_⟩:=h
 exact hr.len
theorem zk.row (h:zk w lo hi A n ls)(hk:k<n):∃ ad Ak ck l,A=some ad∧lo≤ad.block∧ad.block<hi∧Hid (ls[k]?=some l)∧w.cell? (ad.add k)=some (.slice Ak l.length ck)∧Reads w lo hi 1 Ak l.length (ints l):=by
 obtain⟨e,rows,hr,hx⟩:=h
 obtain⟨ad,u,eA,hl,hb,hu,hc⟩:=hr.one hk
 have hlt:k<ls.length:=by omega
 obtain⟨Ak,ck,rfl,hrk⟩:=hx.2 k u ls[k] hu.out (List.getElem?_eq_getElem hlt)
 exact⟨ad,Ak,ck,ls[k],eA,hl,hb,List.getElem?_eq_getElem hlt,hc,hrk⟩
end
section
variable {w w':World} {base base' size size' n n':Nat} {e e':TypeId} {v v':Value} {xs xs':List Value}
theorem own_ext (h:w.ownsRow base e size v n xs)(hb:Ext w w'):w'.ownsRow base e size v n xs:=by
 refine⟨h.1,?_⟩
 rcases h.2 with hn|⟨g,cap,cur,hv,hg,hh,r⟩
 ·exact .inl hn
 ·exact .inr ⟨g,cap,cur,hv,hg,(hb.heap (Array.getElem?_eq_some_iff.1 hh).1).trans hh,r⟩
theorem own_frm {S:Nat→Prop}(h:w.ownsRow base e size v n xs)(hb:Frm S w w')(hS:∀ b,v.ownBlock=some b→¬ S b):w'.ownsRow base e size v n xs:=by
 refine⟨h.1,?_⟩
 rcases h.2 with hn|⟨g,cap,cur,hv,hg,hh,r⟩
 ·exact .inl hn
 ·exact .inr ⟨g,cap,cur,hv,hg,(hb.block g (Array.getElem?_eq_some_iff.1 hh).1 (hS g (by rw [hv];rfl))).trans hh,r⟩
theorem zX {S:Nat→Prop}(h:w.ownsRow base e size v n xs)(hb:Frm S w w')(hS:∀ b,base≤b→¬ S b):w'.ownsRow base e size v n xs:=own_frm h hb fun b hv=>hS b (h.lt b hv).1
theorem zO (h:w.ownsRow base e size v n xs)(hb:base'≤base):w.ownsRow base' e size v n xs:=by
 refine⟨h.1,?_⟩
 rcases h.2 with hn|⟨g,cap,cur,hv,hg,r⟩
 ·exact .inl hn
 ·exact .inr ⟨g,cap,cur,hv,by omega,r⟩
theorem own_ne (h:w.ownsRow base e size v n xs)(h':w.ownsRow base' e' size' v' n' xs')(hne:e≠e') {b:Nat}(hb:v.ownBlock=some b):v'.ownBlock≠some b:=by
 rcases h.2 with ⟨rfl,_⟩|⟨g,cap,cur,rfl,_,hh,_⟩
 ·simp [Value.ownBlock] at hb
 ·rcases h'.2 with ⟨rfl,_⟩|⟨g',cap',cur',rfl,_,hh',_⟩
  ·simp [Value.ownBlock]
  ·have hb1:g=b:=by simpa [Value.ownBlock] using hb
   subst hb1
   intro he
   have hg:g'=g:=by simpa [Value.ownBlock] using he
   subst hg
   rw [hh] at hh'
   injection hh' with hh'
   injection hh' with _ ht
   exact hne ht
theorem own_cell {g n cap:Nat}(h:w.ownsRow base e size (.slice (some ⟨g,0,none⟩) n cap) n xs) (j:Nat)(hj:j<n*size):∃ u,w.cell? ⟨g,j,none⟩=some u:=by
 have hx:j<xs.length:=by rw [h.1];exact hj
 exact⟨xs[j],by rw [h.cellAt j hj,List.getElem?_eq_getElem hx]⟩
end
theorem Ext.toFrm {w w':World} {S:Nat→Prop}(h:Ext w w'):Frm S w w':=⟨h.os,h.tape,h.output,h.size,fun k hk _=>h.block k hk id⟩
theorem Frm.setCell (w:World) (g j:Nat) (u:Value):Frm (fun k=>k=g) w (w.setCell ⟨g,j,none⟩ u):=
 ⟨rfl,rfl,rfl,by simp [World.setCell],fun k _ hn=>Below.heap_setCell _ _ _ _ hn⟩
theorem Frm.trans {S:Nat→Prop} {a b c:World}(h:Frm S a b) (k:Frm S b c):Frm S a c:=
 ⟨k.os.trans h.os,k.tape.trans h.tape,k.output.trans h.output,Nat.le_trans h.size k.size,fun i hi hn=>(k.block i (Nat.lt_of_lt_of_le hi h.size) hn).trans (h.block i hi hn)⟩
theorem Frm.refl (S:Nat→Prop) (w:World):Frm S w w:=⟨rfl,rfl,rfl,Nat.le_refl _,fun _ _ _=>rfl⟩
theorem Frm.cell {S:Nat→Prop} {a w:World}(h:Frm S a w) {p:Addr}(hp:S p.block) (u:Value):Frm S a (w.setCell p u):=
 ⟨h.os,h.tape,h.output,by simpa [World.setCell] using h.size,fun k hk hn=>(Below.heap_setCell _ _ _ _ (by rintro rfl;exact hn hp)).trans (h.block k hk hn)⟩
theorem Frm.ext {S:Nat→Prop} {a w w':World}(h:Frm S a w)(hb:Ext w w'):Frm S a w':=h.trans hb.toFrm
theorem Ext.frm {S:Nat→Prop} {a b c:World}(h:Ext a b) (k:Frm S b c)(hS:∀ k,k<a.heap.size→¬ S k):Ext a c:=
 ⟨k.os.trans h.os,k.tape.trans h.tape,k.output.trans h.output,Nat.le_trans h.size k.size,fun i hi hn=>(k.block i (Nat.lt_of_lt_of_le hi h.size) (hS i hi)).trans (h.block i hi hn)⟩
theorem set_end {xs rest:List Value} {k:Nat} (u:Value)(hk:xs.length=k)(hr:0<rest.length):(xs++rest).set k u=(xs++[u])++rest.tail:=by
 subst hk
 rw [List.set_append_right _ _ (by omega),Nat.sub_self]
 cases rest with
 |nil=>simp at hr
 |cons r rs=>simp
section
variable {α:Type} {l:List α} {p:α→Bool} {k:Nat} {x:α}
theorem zl (h:l[k]?=some x)(hp:p x=false):l.all p=false:=
 List.all_eq_false.2 ⟨x,List.mem_of_getElem? h,by simp [hp]⟩
theorem zB (h:l[k]?=some x)(hk:(l.take k).all p=true)(hp:p x=true):(l.take (k+1)).all p=true:=by
 rw [List.take_add_one,h,List.all_append,hk]
 simp [hp]
theorem zQ (hk:l.length≤k)(h:(l.take k).all p=true):l.all p=true:=by
 rwa [List.take_of_length_le hk] at h
end
theorem set_mix {vals rest:List Value} {k:Nat} {u:Value}(hu:vals[k]?=some u)(hr:rest.length=vals.length - k):(vals.take k++rest).set k u=vals.take (k+1)++rest.tail:=by
 have hk:k<vals.length:=by
  rcases Nat.lt_or_ge k vals.length with h|h
  ·exact h
  ·rw [List.getElem?_eq_none h] at hu;cases hu
 have hl:(vals.take k).length=k:=by simp;omega
 rw [List.set_append_right _ _ (by omega),hl,Nat.sub_self,List.take_add_one,hu]
 cases rest with
 |nil=>simp at hr;omega
 |cons r rs=>simp
def Sm (n:Nat):Prop:=n<4294967296
theorem Sm.lt {n:Nat}(h:Sm n):n<4294967296:=h
theorem Sm.and_left {a:Nat} (b:Nat)(ha:Sm a):Sm (a&&&b):=Nat.lt_of_le_of_lt Nat.and_le_left ha
theorem i64_toNat (a:Nat)(ha:a<9223372036854775808):(BitVec.ofInt 64 (a:Int)).toNat=a:=by
 rw [BitVec.ofInt_natCast,BitVec.toNat_ofNat];exact Nat.mod_eq_of_lt (by omega)
theorem bits_and {a b:Nat}(ha:Sm a)(hb:Sm b):bits .and .i64 (a:Int) (b:Int)=((a&&&b:Nat):Int):=by
 have hx:=(Sm.and_left b ha).lt
 have:=ha.lt;have:=hb.lt
 show IntKind.i64.wrap ((BitVec.ofInt 64 (a:Int)&&&BitVec.ofInt 64 (b:Int)).toNat:Int)=_
 rw [BitVec.toNat_and,i64_toNat a (by omega),i64_toNat b (by omega),IntKind.wrap_i64]
 omega
theorem and_one {x:Nat}(hx:Sm x):bits .and .i64 (x:Int) 1=((x % 2:Nat):Int):=by
 have:=bits_and hx (b:=1) (by unfold Sm;omega)
 rw [nat_mask1] at this
 exact this
theorem div_pow (x n:Nat):(x:Int) / 2 ^ n=((x / 2 ^ n:Nat):Int):=by simp
theorem zaE {x n:Nat}(hx:Sm x)(hn:32≤n):x.testBit n=false:=
 Nat.testBit_lt_two_pow (Nat.lt_of_lt_of_le hx.lt (by rw [show (4294967296:Nat)=2 ^ 32 from rfl];exact Nat.pow_le_pow_right (by omega) hn))
theorem zag {x:Nat}(hx:Sm x) (n:Nat):(bits .and .i64 ((x:Int) / 2 ^ min n 64) 1==1)=x.testBit n:=by
 rw [div_pow,and_one (Nat.lt_of_le_of_lt (Nat.div_le_self _ _) hx)]
 by_cases hn:n≤64
 ·rw [Nat.min_eq_left hn,Nat.testBit_eq_decide_div_mod_eq]
  rw [Bool.eq_iff_iff]
  simp only [beq_iff_eq,decide_eq_true_eq]
  omega
 ·rw [Nat.min_eq_right (by omega),zaE hx (by omega)]
  have:x / 2 ^ 64=0:=Nat.div_eq_of_lt (Nat.lt_trans hx.lt (by decide))
  rw [this];decide
def hasB (s:Nat) (n:Int):Bool:=decide (0≤n)&&s.testBit n.toNat
def zc (a k:Nat):List Nat:=(List.range k).filter fun l=>a.testBit l
theorem zU (a k:Nat):zc a (k+1)=zc a k++if a.testBit k then [k] else []:=by
 unfold zc
 rw [List.range_succ,List.filter_append]
 cases h:a.testBit k<;>simp [h]
theorem zd (a k:Nat):(zc a k).length≤k:=by
 unfold zc
 have:=List.length_filter_le (fun l=>a.testBit l) (List.range k)
 simpa using this
def nats (l:List Nat):List Value:=l.map fun n:Nat=>Value.int .i64 (n:Int)
theorem ze (a:Int) (w:World) :
  Calls Tryd.prog 80 #[.int .i64 a] w fun e w'=>e=.returned (.bool (decide (0≤a∧a≤63)))∧w=w':=by
 by_cases h0:0≤a
 ·go_enter Tryd.func80,Tryd.ntmps80
  go_wp2
  go_ret
  exact⟨by simp [h0],rfl⟩
 ·go_enter Tryd.func80,Tryd.ntmps80
  go_wp2
  go_ret
  exact⟨by simp;omega,rfl⟩
theorem zi (a:Int) (w:World) :
  Calls Tryd.prog 74 #[.int .i64 a] w fun e w'=>e=.returned (.bool (decide (0≤a∧a≤63)))∧w=w':=by
 by_cases h0:0≤a
 ·go_enter Tryd.func74,Tryd.ntmps74
  go_wp2
  go_ret
  exact⟨by simp [h0],rfl⟩
 ·go_enter Tryd.func74,Tryd.ntmps74
  go_wp2
  go_ret
  exact⟨by simp;omega,rfl⟩
theorem byte_lt (s:ByteArray) (i:Nat)(h:i<s.size):(s[i].toNat:Int)<256:=by
 have:=s[i].toNat_lt
 omega
def ltr (b:Int):Int:=if b - 97<0∨6≤b - 97 then -1 else b - 97
theorem za {a b:Bool}(h:a=b):Ending.returned (.bool a)=.returned (.bool b):=by rw [h]
theorem zj {k:IntKind} {a b:Int}(h:a=b):Ending.returned (.int k a)=.returned (.int k b):=by rw [h]
theorem zN (s:ByteArray) (i:Nat)(hi:i<s.size) (w:World) :
  Calls Tryd.prog 109 #[.string s,.int .i64 i] w fun e w'=>e=.returned (.int .i64 (ltr s[i].toNat))∧w=w':=by
 have hb:=byte_lt s i hi
 by_cases h0:(s[i].toNat:Int) - 97<0
 ·go_enter Tryd.func109,Tryd.ntmps109
  go_wp2
  go_ret
  exact⟨zj (by rw [ltr,if_pos (Or.inl h0)]),rfl⟩
 ·by_cases h1:6≤(s[i].toNat:Int) - 97
  ·go_enter Tryd.func109,Tryd.ntmps109
   go_wp2
   go_ret
   exact⟨zj (by rw [ltr,if_pos (Or.inr h1)]),rfl⟩
  ·go_enter Tryd.func109,Tryd.ntmps109
   go_wp2
   go_ret
   exact⟨zj (by rw [ltr,if_neg (by omega)]),rfl⟩
theorem zah (s:ByteArray) (i:Nat)(hi:i<s.size) (w:World) :
  Calls Tryd.prog 77 #[.string s,.int .i64 i] w fun e w'=>e=.returned (.int .i64 (s[i].toNat - 97))∧w=w':=by
 have hb:=byte_lt s i hi
 go_enter Tryd.func77,Tryd.ntmps77
 go_wp2
 go_ret
 exact⟨rfl,rfl⟩
theorem spec_l1Has (s n:Nat)(hs:Sm s) (w:World)(hn:n<9223372036854775808) :
  Calls Tryd.prog 33 #[.int .i64 s,.int .i64 n] w fun e w'=>e=.returned (.bool (s.testBit n))∧w=w':=by
 have hu:IntKind.u64.wrap (n:Int)=n:=by rw [IntKind.wrap_u64];omega
 have hb:=zag hs n
 have Hb:=zb hb
 clear hb
 go_enter Tryd.func33,Tryd.ntmps33
 go_wp2
 go_ret
 exact⟨by simp [Hb.out],rfl⟩
theorem zay (s:Nat) (n:Int)(hs:Sm s) (w:World) :
  Calls Tryd.prog 30 #[.int .i64 s,.int .i64 n] w fun e w'=>e=.returned (.bool (hasB s n))∧w=w':=by
 have hb:=zag hs n.toNat
 have Hb:=zb hb
 clear hb
 by_cases h0:0≤n
 ·go_enter Tryd.func30,Tryd.ntmps30
  go_wp2
  go_ret
  exact⟨by simp [Hb.out,hasB,h0],rfl⟩
 ·go_enter Tryd.func30,Tryd.ntmps30
  go_wp2
  go_ret
  exact⟨by simp [hasB];omega,rfl⟩
theorem zaA:(Tryd.prog.info? 3).map (fun i=>(i.zero,i.size,i.bytes))=some (some (.int .i64 0),1,8):=by kernel_rfl
def RetNats (w:World) (xs:List Nat) (e:Ending) (w':World):Prop:=
 ∃ A c,e=.returned (.slice A xs.length c)∧w'.ownsRow w.heap.size 3 1 (.slice A xs.length c) xs.length (nats xs)∧Ext w w'
theorem yU01a4 {P:Prop}(h:P:=by
 go_roundw
 case rel=>exact⟨k+1,by omega,by go_num,by rw [Hls.out];first|simpa [nats] using zaI|simpa using zaF,by assumption⟩
 case measure=>simp [intOf];omega
 ):P:=h
theorem zF (a:Nat)(hs:Sm a) (w:World) :
  Calls Tryd.prog 81 #[.int .i64 a] w (RetNats w (zc a 6)):=by
 go_enter Tryd.func81,Tryd.ntmps81
 go_wp2
 go_loopw [3,5] (fun v i wr=>∃ k:Nat,k≤6∧i=.int .i64 k∧wr.ownsRow w.heap.size 3 1 v (zc a k).length (nats (zc a k))∧Ext w wr)
  (fun _ i _=>6 - (intOf i).toNat)
 case atStart=>exact⟨0,Nat.zero_le _,rfl,World.ownsRow_nil _ _ _ _,Ext.refl _⟩
 case round =>
  obtain⟨k,hk,rfl,zaF,zaG⟩:=hrel
  have hl:=zd a k
  by_cases hlt:k<6
  ·cases hb:a.testBit k
   all_goals
    have Hb:hasB a k=a.testBit k:=by simp [hasB]
    rw [hb] at Hb
    have hls:=zU a k
    rw [hb] at hls
    have Hls:=zb hls
    clear hls hb
    go_wp2_with (first
     |(go_at_call 30;refine (zay a k hs _).mono ?_;rintro e w' ⟨rfl,rfl⟩)
     |(at_builtin;refine zM w wr rfl (.tmp 11) (.tmp 13) _ rfl 3 _ 1 8 Tryd.underlying62 zaA rfl (by decide) u3 _ _ _ _ rfl rfl zaG zaF rfl (cells_int _) (by unfold maxLen;omega) (by omega) ?_;intro v' w1 hext1 zaI hg1 hat1))
    exact yU01a4
  ·obtain rfl:k=6:=by omega
   obtain⟨A,c,rfl⟩:=zW zaF
   go_wp2
   go_ret
   exact⟨_,_,rfl,zaF,zaG⟩
def leftOf (left:Int) (n:Nat):Int:=if left - n<0 then -1 else left - n
theorem zad (left:Int) (n:Nat)(h:left≤1048576):leftOf left n≤1048576:=by unfold leftOf;split<;>omega
theorem leftOf_ge (left:Int) (n:Nat):-1≤leftOf left n:=by unfold leftOf;split<;>omega
theorem leftOf_two {left:Int} {m:Nat} (n:Nat)(h:0≤leftOf left m):leftOf left (m+n)=if leftOf left m - n<0 then -1 else leftOf left m - n:=by
 unfold leftOf at *
 split at h
 ·omega
 ·rename_i h';rw [if_neg h'];split<;>split<;>omega
theorem zar (A:Option Addr) (n c:Nat) (left:Int) (w:World)(hn:n≤9223372036854775807)(h0:0≤left)(h1:left≤1048576) :
  Calls Tryd.prog 73 #[.slice A n c,.int .i64 left] w fun e w'=>e=.returned (.int .i64 (leftOf left n))∧w=w':=by
 by_cases h:left - n<0
 ·go_enter Tryd.func73,Tryd.ntmps73
  go_wp2
  go_ret
  exact⟨zj (by unfold leftOf;split<;>omega),rfl⟩
 ·go_enter Tryd.func73,Tryd.ntmps73
  go_wp2
  go_ret
  exact⟨zj (by unfold leftOf;split<;>omega),rfl⟩
theorem szBoolS_any (A:Option Addr) (n c:Nat) (left:Int) (w:World)(hn:n≤9223372036854775807)(h0:0≤left)(h1:left≤1048576) :
  Calls Tryd.prog 37 #[.slice A n c,.int .i64 left] w fun e w'=>e=.returned (.int .i64 (leftOf left n))∧w=w':=by
 by_cases h:left - n<0
 ·go_enter Tryd.func37,Tryd.ntmps37
  go_wp2
  go_ret
  exact⟨zj (by unfold leftOf;split<;>omega),rfl⟩
 ·go_enter Tryd.func37,Tryd.ntmps37
  go_wp2
  go_ret
  exact⟨zj (by unfold leftOf;split<;>omega),rfl⟩
def tot (ls:List (List Int)):Nat:=(ls.map List.length).sum
theorem zP {ls:List (List Int)} {k:Nat} {l:List Int}(h:ls[k]?=some l):tot (ls.take (k+1))=tot (ls.take k)+l.length:=by
 rw [List.take_add_one,h]
 simp [tot]
theorem tot_append (a b:List (List Int)):tot (a++b)=tot a+tot b:=by simp [tot]
theorem zak (ls:List (List Int)) (k:Nat):tot (ls.take k)≤tot ls:=by
 have h:=tot_append (ls.take k) (ls.drop k)
 rw [List.take_append_drop] at h
 omega
theorem zai (lo hi:Nat) (A:Option Addr) (n c:Nat) (ls:List (List Int)) (left:Int) (w:World)(h:zk w lo hi A n ls)(h0:0≤left)(h1:left≤1048576) :
  Calls Tryd.prog 36 #[.slice A n c,.int .i64 left] w fun e w'=>e=.returned (.int .i64 (leftOf left (ls.length+tot ls)))∧w=w':=by
 have hn:=h.len
 have hL:n≤ls.length∧ls.length≤n:=by have:=h.1;omega
 by_cases hneg:left - n<0
 ·go_enter Tryd.func36,Tryd.ntmps36
  go_wp2
  go_ret
  exact⟨zj (by unfold leftOf;split<;>omega),rfl⟩
 ·go_enter Tryd.func36,Tryd.ntmps36
  go_wp2
  go_loop [1,5] (fun v i=>∃ k:Nat,k≤n∧i=.int .i64 k∧∃ m:Int,v=.int .i64 m∧Hid (m=left - n - tot (ls.take k))∧0≤m∧m≤1048576)
   (fun _ i=>n - (intOf i).toNat)
  case atStart=>exact⟨0,Nat.zero_le _,rfl,_,rfl,by simp [tot,Hid],by omega,by omega⟩
  case round =>
   obtain⟨k,hk,rfl,m,rfl,hm,hm0,hm1⟩:=hrel
   by_cases hlt:k<n
   ·obtain⟨ad,Ak,ck,l,rfl,hlo,hhi,hl,hcell,hrk⟩:=h.row hlt
    have hlen:=hrk.len
    have hg:=leftOf_ge m l.length
    have ht:=zb (zP hl.out)
    have hle:=zak ls (k+1)
    by_cases hs:leftOf m l.length<0
    ·go_wp2_with (go_at_call 73;refine (zar _ _ _ _ _ hlen hm0 hm1).mono ?_;rintro e w' ⟨rfl,rfl⟩)
     go_ret
     have hm':=hm.out
     have ht':=ht.out
     exact⟨zj (by unfold leftOf at hs ⊢;(repeat split)<;>(split at hs)<;>omega),rfl⟩
    ·go_wp2_with (go_at_call 73;refine (zar _ _ _ _ _ hlen hm0 hm1).mono ?_;rintro e w' ⟨rfl,rfl⟩)
     go_round
     case rel=>exact⟨k+1,by omega,by go_num,_,rfl,by have hm':=hm.out;have ht':=ht.out;unfold Hid;unfold leftOf at hs ⊢;split at hs<;>split<;>omega,by omega,zad _ _ hm1⟩
     case measure=>simp [intOf];omega
   ·obtain rfl:k=n:=by omega
    go_wp2
    go_ret
    have hm':=hm.out
    rw [List.take_of_length_le (by omega)] at hm'
    exact⟨zj (by unfold leftOf;split<;>omega),rfl⟩
structure Aut where
 al:Int
 next:List (List Int)
 acc:List Bool
def zn (w:World) (lo hi:Nat) (A:Option Addr) (n:Nat) (A':Option Addr) (n':Nat) (a:Aut):Prop:=
 zk w lo hi A n a.next∧n'=a.acc.length∧Reads w lo hi 1 A' n' (zu a.acc)
section
variable {w w':World} {lo hi n n':Nat} {A A':Option Addr} {a:Aut}
theorem zn.ext (h:zn w lo hi A n A' n' a)(hb:Ext w w'):zn w' lo hi A n A' n' a:=⟨h.1.ext hb,h.2.1,h.2.2.ext hb⟩
theorem zn.n1 (h:zn w lo hi A n A' n' a):n=a.next.length:=h.1.1
theorem zn.n2 (h:zn w lo hi A n A' n' a):n'=a.acc.length:=h.2.1
end
def Aut.size (a:Aut):Nat:=a.next.length+tot a.next+a.acc.length
theorem zA (lo hi:Nat) (A:Option Addr) (n c:Nat) (A':Option Addr) (n' c':Nat) (a:Aut) (left:Int) (w:World)(h:zn w lo hi A n A' n' a)(h0:0≤left)(h1:left≤1048576) :
  Calls Tryd.prog 15 #[.agg #[.int .i64 a.al,.slice A n c,.slice A' n' c'],.int .i64 left] w fun e w'=>e=.returned (.int .i64 (leftOf left a.size))∧Ext w w':=by
 have hle:=zad left (a.next.length+tot a.next) h1
 have hsz:leftOf left a.size=if leftOf left (a.next.length+tot a.next)<0 then -1 else leftOf (leftOf left (a.next.length+tot a.next)) a.acc.length:=by
  unfold leftOf Aut.size;(repeat' split)<;>omega
 have Hsz:=zb hsz
 clear hsz
 have hR:=fun W (hW:Ext w W)=>h.1.ext hW
 have HR:=zb hR
 clear hR
 have hn':=h.2.1
 have hl':=h.2.2.len
 subst hn'
 by_cases hneg:leftOf left (a.next.length+tot a.next)<0
 ·go_enter Tryd.func15,Tryd.ntmps15
  go_wp2_with (go_at_call 36;refine (zai _ _ _ _ _ _ _ _ (HR.out _ ((Ext.refl _).alloc _)) h0 h1).mono ?_;rintro e w' ⟨rfl,rfl⟩)
  go_ret
  exact⟨zj (by rw [Hsz.out,if_pos hneg]),(Ext.refl _).alloc _⟩
 ·go_enter Tryd.func15,Tryd.ntmps15
  have hpos:0≤leftOf left (a.next.length+tot a.next):=by omega
  go_wp2_with (first
   |(go_at_call 36;refine (zai _ _ _ _ _ _ _ _ (HR.out _ ((Ext.refl _).alloc _)) h0 h1).mono ?_;rintro e w' ⟨rfl,rfl⟩)
   |(go_at_call 37;refine (szBoolS_any _ _ _ _ _ hl' hpos hle).mono ?_;rintro e w' ⟨rfl,rfl⟩))
  all_goals go_ret
  ·exact⟨zj (by have:=Hsz.out;have:=leftOf_ge (leftOf left (a.next.length+tot a.next)) a.acc.length;rw [if_neg (by omega)] at *;omega),(Ext.refl _).alloc _⟩
  ·exact⟨zj (by have:=Hsz.out;rw [if_neg (by omega)] at *;omega),(Ext.refl _).alloc _⟩
theorem yU01a1 {P:Prop}(h:P:=by
 go_wp2
 go_roundw
 case rel=>exact⟨k+1,by omega,by go_num,rest.tail,by have:=hrest.out;unfold Hid;rw [List.length_tail];omega,hs1.out.1,zaG.frm (Frm.setCell _ _ _ _) (by omega)⟩
 case measure=>simp [intOf];omega
 ):P:=h
theorem yU01a3 {P:Prop}(h:P:=by
 obtain rfl:k=n:=by omega
 go_wp2
 go_ret
 rw [List.take_of_length_le (by omega)] at zaF
 have:rest=[]:=List.eq_nil_of_length_eq_zero (by rw [hrest.out];omega)
 subst this
 exact⟨rfl,by simpa using zaF,zaG⟩
 ):P:=h
theorem toIntS_any (lo hi:Nat) (A:Option Addr) (n c:Nat) (l:List Int) (w:World)(h:Reads w lo hi 1 A n (ints l))(hn:n≤1048576) :
  Calls Tryd.prog 79 #[.slice A n c] w fun e w'=>e=.returned (.slice (some ⟨w.heap.size,0,none⟩) n n)∧w'.ownsRow w.heap.size 3 1 (.slice (some ⟨w.heap.size,0,none⟩) n n) n (ints l)∧Ext w w':=by
 have hl:=h.length
 go_enter Tryd.func79,Tryd.ntmps79
 go_wp2_with (at_make;refine zs w _ rfl _ _ 62 rfl 3 _ 1 8 Tryd.underlying62 zaA _ _ n rfl rfl (Ext.refl _) (by omega) (by unfold maxLen;omega) ?_;intro w1 hext1 zaI _ _)
 go_loopw [4] (fun i wr=>∃ k:Nat,k≤n∧i=.int .i64 k∧∃ rest:List Value,Hid (rest.length=n - k)∧wr.ownsRow w.heap.size 3 1 (.slice (some ⟨w.heap.size,0,none⟩) n n) n ((ints l).take k++rest)∧Ext w wr)
  (fun i _=>n - (intOf i).toNat)
 case atStart=>exact⟨0,Nat.zero_le _,rfl,_,by have:=zaI.1;simp at this;unfold Hid;omega,by simpa using zaI,hext1⟩
 case round =>
  obtain⟨k,hk,rfl,rest,hrest,zaF,zaG⟩:=hrel
  by_cases hlt:k<n
  ·obtain⟨ad,x,rfl,hlo,hhi,hx,hcell⟩:=(h.ext zaG).int hlt
   have hc0:wr.cell? ⟨w.heap.size,k,none⟩=((ints l).take k++rest)[k]?:=zaF.cellAt k (by omega)
   have hf0:=zaF.frozenAt k
   have hin:k<((ints l).take k++rest).length:=by rw [zaF.1];omega
   rw [List.getElem?_eq_getElem hin] at hc0
   have hst:=zaF.stored k (.int .i64 x)
   rw [set_mix (by simp [ints,hx.out]) (by rw [hrest.out];omega)] at hst
   have hs1:=zb hst
   clear hst
   generalize ((ints l).take k++rest)[k]=old at hc0
   exact yU01a1
  ·exact yU01a3
theorem info_bool:(Tryd.prog.info? 4).map (fun i=>(i.zero,i.size,i.bytes))=some (some (.bool false),1,1):=by kernel_rfl
theorem info_ints:(Tryd.prog.info? 62).map (fun i=>(i.zero,i.size,i.bytes))=some (some (.slice none 0 0),1,24):=by kernel_rfl
theorem toBoolS_any (lo hi:Nat) (A:Option Addr) (n c:Nat) (l:List Bool) (w:World)(h:Reads w lo hi 1 A n (zu l))(hn:n≤1048576) :
  Calls Tryd.prog 44 #[.slice A n c] w fun e w'=>e=.returned (.slice (some ⟨w.heap.size,0,none⟩) n n)∧w'.ownsRow w.heap.size 4 1 (.slice (some ⟨w.heap.size,0,none⟩) n n) n (zu l)∧Ext w w':=by
 have hl:=h.length
 go_enter Tryd.func44,Tryd.ntmps44
 go_wp2_with (at_make;refine zs w _ rfl _ _ 23 rfl 4 _ 1 1 Tryd.underlying23 info_bool _ _ n rfl rfl (Ext.refl _) (by omega) (by unfold maxLen;omega) ?_;intro w1 hext1 zaI _ _)
 go_loopw [4] (fun i wr=>∃ k:Nat,k≤n∧i=.int .i64 k∧∃ rest:List Value,Hid (rest.length=n - k)∧wr.ownsRow w.heap.size 4 1 (.slice (some ⟨w.heap.size,0,none⟩) n n) n ((zu l).take k++rest)∧Ext w wr)
  (fun i _=>n - (intOf i).toNat)
 case atStart=>exact⟨0,Nat.zero_le _,rfl,_,by have:=zaI.1;simp at this;unfold Hid;omega,by simpa using zaI,hext1⟩
 case round =>
  obtain⟨k,hk,rfl,rest,hrest,zaF,zaG⟩:=hrel
  by_cases hlt:k<n
  ·obtain⟨ad,x,rfl,hlo,hhi,hx,hcell⟩:=(h.ext zaG).bool hlt
   have hc0:wr.cell? ⟨w.heap.size,k,none⟩=((zu l).take k++rest)[k]?:=zaF.cellAt k (by omega)
   have hf0:=zaF.frozenAt k
   have hin:k<((zu l).take k++rest).length:=by rw [zaF.1];omega
   rw [List.getElem?_eq_getElem hin] at hc0
   have hst:=zaF.stored k (.bool x)
   rw [set_mix (by simp [zu,hx.out]) (by rw [hrest.out];omega)] at hst
   have hs1:=zb hst
   clear hst
   generalize ((zu l).take k++rest)[k]=old at hc0
   exact yU01a1
  ·exact yU01a3
def zg (w:World) (base:Nat) (rows:List Value) (ls:List (List Int)):Prop:=
 rows.length=ls.length∧(∀ (i:Nat) (row:Value) (l:List Int),rows[i]?=some row→ls[i]?=some l→w.ownsRow base 3 1 row l.length (ints l)) ∧
  ∀ (i j:Nat) (ri rj:Value) (b:Nat),rows[i]?=some ri→rows[j]?=some rj→i≠j→ri.ownBlock=some b→rj.ownBlock≠some b
theorem zg.nil (w:World) (base:Nat):zg w base [] []:=⟨rfl,fun i row l h=>by simp at h,fun i j ri rj b h=>by simp at h⟩
theorem zg.row {w:World} {base:Nat} {rows:List Value} {ls:List (List Int)}(h:zg w base rows ls) {i:Nat} {row:Value}(hr:rows[i]?=some row):∃ l,ls[i]?=some l∧w.ownsRow base 3 1 row l.length (ints l):=by
 have hi:i<rows.length:=(List.getElem?_eq_some_iff.1 hr).1
 have hl:ls[i]?=some (ls[i]'(by rw [← h.1];exact hi)):=List.getElem?_eq_getElem _
 exact⟨_,hl,h.2.1 i row _ hr hl⟩
theorem zg.frm {S:Nat→Prop} {w w':World} {base:Nat} {rows:List Value} {ls:List (List Int)}(h:zg w base rows ls)(hb:Frm S w w')(hS:∀ (i:Nat) (row:Value) (b:Nat),rows[i]?=some row→row.ownBlock=some b→¬ S b):zg w' base rows ls:=
 ⟨h.1,fun i row l hr hl=>own_frm (h.2.1 i row l hr hl) hb (fun b hb=>hS i row b hr hb),h.2.2⟩
theorem zg.snoc {w w':World} {base:Nat} {rows:List Value} {ls:List (List Int)}(h:zg w base rows ls)(hb:Ext w w') {row:Value} {l:List Int}(hbase:base≤w.heap.size)(hrow:w'.ownsRow w.heap.size 3 1 row l.length (ints l)) :
  zg w' base (rows++[row]) (ls++[l]):=by
 have hlen:=h.1
 refine⟨by simp [hlen],fun i r m hr hm=>?_,fun i j ri rj b hri hrj hij hbi=>?_⟩
 ·rcases Nat.lt_trichotomy i rows.length with hi|hi|hi
  ·rw [List.getElem?_append_left hi] at hr
   rw [List.getElem?_append_left (by omega)] at hm
   exact own_ext (h.2.1 i r m hr hm) hb
  ·rw [List.getElem?_append_right (by omega),hi,Nat.sub_self] at hr
   rw [List.getElem?_append_right (by omega),hi,hlen,Nat.sub_self] at hm
   simp at hr hm
   subst hr;subst hm
   exact zO hrow hbase
  ·rw [List.getElem?_eq_none (by simp;omega)] at hr;cases hr
 ·have old:∀ (i:Nat) (r:Value) (b:Nat),i<rows.length→rows[i]?=some r→r.ownBlock=some b→b<w.heap.size:=fun i r b hi hr hb=>by
   obtain⟨m,_,ho⟩:=h.row hr
   exact (ho.lt b hb).2
  have new:∀ b,row.ownBlock=some b→w.heap.size≤b:=fun b hb=>(hrow.lt b hb).1
  have hi:i≤rows.length:=by have:=(List.getElem?_eq_some_iff.1 hri).1;simp at this;omega
  have hj:j≤rows.length:=by have:=(List.getElem?_eq_some_iff.1 hrj).1;simp at this;omega
  rcases Nat.lt_or_eq_of_le hi with hi|hi<;>rcases Nat.lt_or_eq_of_le hj with hj|hj
  ·rw [List.getElem?_append_left hi] at hri
   rw [List.getElem?_append_left hj] at hrj
   exact h.2.2 i j ri rj b hri hrj hij hbi
  ·rw [List.getElem?_append_left hi] at hri
   subst hj
   simp at hrj
   subst hrj
   intro hc
   have h1:=old i ri b hi hri hbi
   have h2:=new b hc
   omega
  ·rw [List.getElem?_append_left hj] at hrj
   subst hi
   simp at hri
   subst hri
   intro hc
   have h1:=old j rj b hj hrj hc
   have h2:=new b hbi
   omega
  ·omega
def zal (w:World) (base:Nat) (v:Value) (ls:List (List Int)):Prop:=∃ rows,w.ownsRow base 62 1 v ls.length rows∧zg w base rows ls
theorem zg.keep {S:Nat→Prop} {w w':World} {base:Nat} {rows:List Value} {ls:List (List Int)}(h:zg w base rows ls)(hb:Frm S w w')(hS:∀ b,base≤b→¬ S b):zg w' base rows ls:=
 ⟨h.1,fun i row l hr hl=>zX (h.2.1 i row l hr hl) hb hS,h.2.2⟩
theorem zg.less {w:World} {base base':Nat} {rows:List Value} {ls:List (List Int)}(h:zg w base rows ls)(hb:base'≤base):zg w base' rows ls:=
 ⟨h.1,fun i row l hr hl=>zO (h.2.1 i row l hr hl) hb,h.2.2⟩
theorem zal.keep {S:Nat→Prop} {w w':World} {base:Nat} {v:Value} {ls:List (List Int)}(h:zal w base v ls)(hb:Frm S w w')(hS:∀ b,base≤b→¬ S b):zal w' base v ls:=by
 obtain⟨rows,h1,h2⟩:=h
 exact⟨rows,zX h1 hb hS,h2.keep hb hS⟩
theorem zal.less {w:World} {base base':Nat} {v:Value} {ls:List (List Int)}(h:zal w base v ls)(hb:base'≤base):zal w base' v ls:=by
 obtain⟨rows,h1,h2⟩:=h
 exact⟨rows,zO h1 hb,h2.less hb⟩
theorem zal.reads {w:World} {base:Nat} {A:Option Addr} {n c:Nat} {ls:List (List Int)}(h:zal w base (.slice A n c) ls)(hn:n=ls.length):zk w base w.heap.size A n ls:=by
 obtain⟨rows,h1,h2⟩:=h
 subst hn
 refine⟨rfl,rows,Reads.of_own h1,h2.1,fun i row l hr hl=>?_⟩
 have ho:=h2.2.1 i row l hr hl
 obtain⟨A',c',rfl⟩:=zW ho
 exact⟨A',c',rfl,Reads.of_own ho⟩
theorem rows_store {w:World} {base g n cap k:Nat} {rows rest:List Value} {row:Value} {ls:List (List Int)} (zaF:w.ownsRow base 62 1 (.slice (some ⟨g,0,none⟩) n cap) n (rows++rest))(hk:rows.length=k)(hr:0<rest.length)
  (hrows:zg w base (rows++[row]) ls) :
  (w.setCell ⟨g,k,none⟩ row).ownsRow base 62 1 (.slice (some ⟨g,0,none⟩) n cap) n ((rows++[row])++rest.tail)∧zg (w.setCell ⟨g,k,none⟩ row) base (rows++[row]) ls:=by
 refine⟨?_,hrows.frm (Frm.setCell w g k row) fun i r b hr hb=>?_⟩
 ·have h:=(zaF.stored k row).1
  rw [set_end row hk hr] at h
  exact h
 ·rintro rfl
  obtain⟨l,_,ho⟩:=hrows.row hr
  exact own_ne ho zaF (by decide) hb rfl
theorem toIntSS_any (lo hi:Nat) (A:Option Addr) (n c:Nat) (ls:List (List Int)) (w:World)(h:zk w lo hi A n ls)(hn:ls.length+tot ls≤1048576) :
  Calls Tryd.prog 43 #[.slice A n c] w fun e w'=>e=.returned (.slice (some ⟨w.heap.size,0,none⟩) n n)∧zal w' w.heap.size (.slice (some ⟨w.heap.size,0,none⟩) n n) ls∧Ext w w':=by
 have hL:n≤ls.length∧ls.length≤n:=by have:=h.1;omega
 have hrow:∀ (k:Nat) (l:List Int),ls[k]?=some l→l.length≤1048576:=fun k l hl=>by
  have h1:=zP hl
  have h2:=zak ls (k+1)
  omega
 have Hrow:=zb hrow
 clear hrow
 go_enter Tryd.func43,Tryd.ntmps43
 go_wp2_with (at_make;refine zs w _ rfl _ _ 22 rfl 62 _ 1 24 Tryd.underlying22 info_ints _ _ n rfl rfl (Ext.refl _) (by omega) (by unfold maxLen;omega) ?_;intro w1 hext1 zaI _ hsz1)
 go_loopw [4] (fun i wr=>∃ k:Nat,k≤n∧i=.int .i64 k∧∃ rows rest:List Value,Hid (rest.length=n - k)∧wr.ownsRow w.heap.size 62 1 (.slice (some ⟨w.heap.size,0,none⟩) n n) n (rows++rest)∧zg wr w.heap.size rows (ls.take k)∧Ext w wr)
  (fun i _=>n - (intOf i).toNat)
 case atStart=>exact⟨0,Nat.zero_le _,rfl,[],_,by have:=zaI.1;simp at this;unfold Hid;omega,by simpa using zaI,zg.nil _ _,hext1⟩
 case round =>
  obtain⟨k,hk,rfl,rows,rest,hrest,zaF,hrows,zaG⟩:=hrel
  by_cases hlt:k<n
  ·obtain⟨ad,Ak,ck,l,rfl,hlo,hhi,hl,hcell,hrk⟩:=(h.ext zaG).row hlt
   have hll:=Hrow.out k l hl.out
   have hrl:rows.length≤k∧k≤rows.length:=by have:=hrows.1;simp at this;omega
   go_wp2_with (go_at_call 79;refine (toIntS_any _ _ _ _ _ _ _ hrk hll).mono ?_;rintro e w2 ⟨rfl,zaJ,hext2⟩;have hown':=own_ext zaF hext2;have hf0:=hown'.frozenAt k;obtain⟨old,hc0⟩:=own_cell hown' k (by omega))
   have hrs:=hrows.snoc hext2 zaG.size zaJ
   have hres:=rows_store (k:=k) hown' (by omega) (by rw [hrest.out];omega) hrs
   go_roundw
   case rel=>exact⟨k+1,by omega,by go_num,_,rest.tail,by have:=hrest.out;unfold Hid;rw [List.length_tail];omega,hres.1,by rw [List.take_add_one,hl.out];exact hres.2,(zaG.trans hext2).frm (Frm.setCell _ _ _ _) (by omega)⟩
   case measure=>simp [intOf];omega
  ·obtain rfl:k=n:=by omega
   go_wp2
   go_ret
   have:rest=[]:=List.eq_nil_of_length_eq_zero (by rw [hrest.out];omega)
   subst this
   rw [List.take_of_length_le (by omega)] at hrows
   refine⟨rfl,⟨rows,?_,hrows⟩,zaG⟩
   rw [← h.1]
   simpa using zaF
def zE (w:World) (base:Nat) (A:Option Addr) (n c:Nat) (A':Option Addr) (n' c':Nat) (a:Aut):Prop:=
 zal w base (.slice A n c) a.next∧n=a.next.length∧w.ownsRow base 4 1 (.slice A' n' c') n' (zu a.acc)∧n'=a.acc.length
theorem zE.keep {S:Nat→Prop} {w w':World} {base:Nat} {A:Option Addr} {n c:Nat} {A':Option Addr} {n' c':Nat} {a:Aut}(h:zE w base A n c A' n' c' a)(hb:Frm S w w')(hS:∀ b,base≤b→¬ S b):zE w' base A n c A' n' c' a:=
 ⟨h.1.keep hb hS,h.2.1,zX h.2.2.1 hb hS,h.2.2.2⟩
theorem zE.less {w:World} {base base':Nat} {A:Option Addr} {n c:Nat} {A':Option Addr} {n' c':Nat} {a:Aut}(h:zE w base A n c A' n' c' a)(hb:base'≤base):zE w base' A n c A' n' c' a:=
 ⟨h.1.less hb,h.2.1,zO h.2.2.1 hb,h.2.2.2⟩
theorem zE.reads {w:World} {base:Nat} {A:Option Addr} {n c:Nat} {A':Option Addr} {n' c':Nat} {a:Aut}(h:zE w base A n c A' n' c' a):zn w base w.heap.size A n A' n' a:=
 ⟨h.1.reads h.2.1,h.2.2.2,Reads.of_own h.2.2.1⟩
def RetAut (w:World) (a:Aut) (e:Ending) (w':World):Prop:=
 ∃ A n c A' n' c',e=.returned (.agg #[.int .i64 a.al,.slice A n c,.slice A' n' c'])∧zE w' w.heap.size A n c A' n' c' a∧Ext w w'
theorem zaj (lo hi:Nat) (A:Option Addr) (n c:Nat) (A':Option Addr) (n' c':Nat) (a:Aut) (w:World)(h:zn w lo hi A n A' n' a)(hs:a.size≤1048576) :
  Calls Tryd.prog 18 #[.agg #[.int .i64 a.al,.slice A n c,.slice A' n' c']] w (RetAut w a):=by
 have h1:a.next.length+tot a.next≤1048576:=by unfold Aut.size at hs;omega
 have h2:n'≤1048576:=by have:=h.n2;unfold Aut.size at hs;omega
 have hR:=fun W (hW:Ext w W)=>h.1.ext hW
 have hR2:=fun W (hW:Ext w W)=>h.2.2.ext hW
 have HR:=zb hR
 have HR2:=zb hR2
 clear hR hR2
 go_enter Tryd.func18,Tryd.ntmps18
 go_wp2_with (first
  |(go_at_call 43;refine (toIntSS_any _ _ _ _ _ _ _ (HR.out _ ?_) h1).mono ?_;exact (((Ext.refl _).alloc _).alloc _).alloc _;rintro e w2 ⟨rfl,zaJ,hext2⟩;obtain⟨b1,b2,b3⟩:=ext_blk3 hext2;have c1:=b1.cell;have c3:=b3.cell;have f3:=b3.frozen;have hx2:=((((Ext.refl w).alloc _).alloc _).alloc _).trans hext2)
  |(go_at_call 44;refine (toBoolS_any _ _ _ _ _ _ _ (HR2.out _ ?_) h2).mono ?_;exact hx2.setCell (by simp;omega) _;rintro e w3 ⟨rfl,zaK,hext3⟩;have b2':=(b2.far (p:=⟨w.heap.size+1+1,1,none⟩) (by simp) _).ext hext3;have b3':=(b3.set_ 1 _).ext hext3;have c2':=b2'.cell;have f2':=b2'.frozen;have c3':=b3'.cell;have f3':=b3'.frozen))
 have z2:=hext2.size
 have z3:=hext3.size
 simp only [World.size_alloc,World.size_setCell] at z2 z3 zaJ zaK
 refine bodyPost_ret (v:=.agg #[.int .i64 a.al,.slice (some ⟨w.heap.size+1+1+1,0,none⟩) n n,.slice (some ⟨w2.heap.size,0,none⟩) n' n']) (by simp [results,Tryd.results18,go_sem,c2']) rfl ⟨_,_,_,_,_,_,rfl,⟨?_,h.n1,?_,h.n2⟩,?_⟩
 ·refine (zaJ.keep (S:=fun k=>k<w.heap.size+3) ?_ (by intro b hb;omega)).less (by omega)
  exact (((((((Frm.refl _ _).cell (by simp) _).ext hext3).cell (by simp) _).cell (by simp) _).cell (by simp) _).cell (by simp) _)
 ·refine zO (zX (S:=fun k=>k<w.heap.size+3) zaK ?_ (by intro b hb;omega)) (by omega)
  exact (((((Frm.refl _ _).cell (by simp) _).cell (by simp) _).cell (by simp) _).cell (by simp) _)
 ·exact ((((((hx2.setCell (by simp;omega) _).trans hext3).setCell (by simp;omega) _).setCell (by simp) _).setCell (by simp) _).setCell (by simp) _)
end Go.Proofs.YtfcjhpodichpjaaDoor
namespace Go.Proofs.YtfcjhpodichpjaaDoor
open Go Go.RowKit Go.ChangeShapes Go.WideShapes Go.Deep
theorem zR {α:Type} (f:α→Value) (V:Nat→Value):∀ len:Nat,(∀ r,r<len→∃ n,V r=f n)→∃ l:List α,l.length=len∧(List.range len).map V=l.map f
 |0,_=>⟨[],rfl,rfl⟩
 |len+1,h=>by
  obtain⟨l,hl,he⟩:=zR f V len fun r hr=>h r (by omega)
  obtain⟨n,hn⟩:=h len (by omega)
  exact⟨l++[n],by simp [hl],by rw [List.range_succ,List.map_append,he];simp [hn]⟩
section
variable {H:Type} {enc:TypeId × Value→H} {P:Program} {w:World} {spare:Nat→Bool} {held:Bool}
theorem zaC {t e:TypeId} {fuel:Nat} {cs:List Value} {x:DataW H × List MemPlace}(ht:P.underlying t=some (.slice e))(hc:P.cellsOf e=1)(h:DataW.trod enc P w 0 spare held fuel t cs=some x) :
  ∃ (A:Option Addr) (n c:Nat) (V:Nat→Value) (k:Nat),cs=[.slice A n c]∧Reads w 0 w.heap.size 1 A n ((List.range n).map V)∧∀ i,i<n→∃ y,DataW.trod enc P w 0 spare held k e [V i]=some y:=by
 rcases open_slice1 ht hc h with ⟨rfl,_⟩|⟨a,len,cap,m,n,V,D,Pl,rfl,hb,hl,hm,hmm,_,hx⟩
 ·exact⟨none,0,0,fun _=>undef,0,rfl,Reads.nil,fun i hi=>by omega⟩
 ·have hlm:len≤m:=by rw [hmm];split<;>omega
  refine⟨some a,len,cap,V,n,rfl,⟨by simp,by unfold maxLen at hm;omega,fun h0=>?_⟩,fun i hi=>⟨_,(hx i (by omega)).2⟩⟩
  have hblk:a.block<w.heap.size:=by
   have:=World.block_lt_of_cell? w _ (hx 0 (by omega)).1
   rwa [addr_block] at this
  refine⟨a,rfl,Nat.zero_le _,hblk,fun j u hu=>?_⟩
  have hj:j<len:=by
   have:=(List.getElem?_eq_some_iff.1 hu).1
   simpa using this
  rw [(hx j (by omega)).1]
  simpa [hj] using hu
theorem open_ints_ {t e:TypeId} {fuel:Nat} {cs:List Value} {x:DataW H × List MemPlace}(ht:P.underlying t=some (.slice e))(he:P.underlying e=some (.int .i64))(hc:P.cellsOf e=1)(h:DataW.trod enc P w 0 spare held fuel t cs=some x) :
  ∃ (A:Option Addr) (c:Nat) (l:List Int),cs=[.slice A l.length c]∧Reads w 0 w.heap.size 1 A l.length (ints l):=by
 obtain⟨A,n,c,V,k,rfl,hr,hV⟩:=zaC ht hc h
 obtain⟨l,hl,hm⟩:=zR (Value.int .i64) V n fun r hr=>by
  obtain⟨y,hy⟩:=hV r hr
  obtain⟨m,hm,_⟩:=DataW.trod_int he hy
  exact⟨m,by simpa using hm⟩
 subst hl
 rw [hm] at hr
 exact⟨A,c,l,rfl,hr⟩
theorem open_bools_ {t e:TypeId} {fuel:Nat} {cs:List Value} {x:DataW H × List MemPlace}(ht:P.underlying t=some (.slice e))(he:P.underlying e=some .bool)(hc:P.cellsOf e=1)(h:DataW.trod enc P w 0 spare held fuel t cs=some x) :
  ∃ (A:Option Addr) (c:Nat) (l:List Bool),cs=[.slice A l.length c]∧Reads w 0 w.heap.size 1 A l.length (zu l):=by
 obtain⟨A,n,c,V,k,rfl,hr,hV⟩:=zaC ht hc h
 obtain⟨l,hl,hm⟩:=zR Value.bool V n fun r hr=>by
  obtain⟨y,hy⟩:=hV r hr
  obtain⟨m,hm,_⟩:=DataW.trod_bool he hy
  exact⟨m,by simpa using hm⟩
 subst hl
 rw [hm] at hr
 exact⟨A,c,l,rfl,hr⟩
theorem zaf {w:World} (V:Nat→Value):∀ n:Nat,(∀ i,i<n→∃ (A:Option Addr) (c:Nat) (l:List Int),V i=.slice A l.length c∧Reads w 0 w.heap.size 1 A l.length (ints l))→∃ ls:List (List Int),ls.length=n∧RowsAt w 0 w.heap.size ((List.range n).map V) ls
 |0,_=>⟨[],rfl,rfl,fun i row l h=>by simp at h⟩
 |n+1,h=>by
  obtain⟨ls,hl,hr⟩:=zaf V n fun i hi=>h i (by omega)
  obtain⟨A,c,l,hv,hx⟩:=h n (by omega)
  refine⟨ls++[l],by simp [hl],by simp [hl],fun i row m hrow hm=>?_⟩
  have hi:i<n+1:=by
   have:=(List.getElem?_eq_some_iff.1 hrow).1
   simpa using this
  rcases Nat.lt_or_eq_of_le (Nat.le_of_lt_succ hi) with h1|h1
  ·refine hr.2 i row m ?_ ?_
   ·simp only [List.getElem?_map] at hrow ⊢
    rw [List.getElem?_range (by omega)] at hrow
    rw [List.getElem?_range h1]
    exact hrow
   ·rwa [List.getElem?_append_left (by omega)] at hm
  ·subst h1
   simp at hrow
   rw [List.getElem?_append_right (by omega),hl,Nat.sub_self] at hm
   simp at hm
   subst hm;subst hrow
   exact⟨A,c,hv,hx⟩
theorem open_intss_ {t e q:TypeId} {fuel:Nat} {cs:List Value} {x:DataW H × List MemPlace}(ht:P.underlying t=some (.slice e))(he:P.underlying e=some (.slice q))(hq:P.underlying q=some (.int .i64))(hc:P.cellsOf e=1)(hcq:P.cellsOf q=1)
  (h:DataW.trod enc P w 0 spare held fuel t cs=some x) :
  ∃ (A:Option Addr) (n c:Nat) (ls:List (List Int)),cs=[.slice A n c]∧zk w 0 w.heap.size A n ls:=by
 obtain⟨A,n,c,V,k,rfl,hr,hV⟩:=zaC ht hc h
 obtain⟨ls,hl,hm⟩:=zaf (w:=w) V n fun i hi=>by
  obtain⟨y,hy⟩:=hV i hi
  obtain⟨A,c,l,hl,hr⟩:=open_ints_ he hq hcq hy
  exact⟨A,c,l,by simpa using hl,hr⟩
 exact⟨A,n,c,ls,rfl,hl.symm,_,hr,hm⟩
theorem open_aut {t e q b:TypeId} {f0 f1 f2:Field} {fuel:Nat} {cs:List Value} {x:DataW H × List MemPlace}(ht:P.underlying t=some (.struct #[f0,f1,f2]))(hC:P.cellsOf t=3)
  (o0:f0.offset=0) (o1:f1.offset=1) (o2:f2.offset=2) (c0:P.cellsOf f0.type=1) (c1:P.cellsOf f1.type=1) (c2:P.cellsOf f2.type=1)
  (u0:P.underlying f0.type=some (.int .i64)) (u1:P.underlying f1.type=some (.slice e)) (ue:P.underlying e=some (.slice q)) (uq:P.underlying q=some (.int .i64)) (ce:P.cellsOf e=1) (cq:P.cellsOf q=1)
  (u2:P.underlying f2.type=some (.slice b)) (ub:P.underlying b=some .bool) (cb:P.cellsOf b=1)
  (h:DataW.trod enc P w 0 spare held fuel t cs=some x) :
  ∃ (a:Aut) (A:Option Addr) (n c:Nat) (A':Option Addr) (n' c':Nat),cs=[.int .i64 a.al,.slice A n c,.slice A' n' c']∧zn w 0 w.heap.size A n A' n' a:=by
 obtain⟨y0,y1,y2,k,_,hl,h0,h1,h2⟩:=trod_struct3 ht h
 rw [hC] at hl
 match cs,hl with
 |[v0,v1,v2],_ =>
  rw [o0,c0] at h0
  rw [o1,c1] at h1
  rw [o2,c2] at h2
  obtain⟨al,e0,_⟩:=DataW.trod_int u0 h0
  obtain⟨A,n,c,ls,e1,hr1⟩:=open_intss_ u1 ue uq ce cq h1
  obtain⟨A',c',l,e2,hr2⟩:=open_bools_ u2 ub cb h2
  simp at e0 e1 e2
  subst e0;subst e1;subst e2
  exact⟨⟨al,ls,l⟩,A,n,c,A',_,c',rfl,hr1,rfl,hr2⟩
theorem array5 {α:Type} {cs:Array α}(h:cs.size=5):∃ c0 c1 c2 c3 c4,cs=#[c0,c1,c2,c3,c4]:=by
 obtain⟨l⟩:=cs
 match l,h with
 |[c0,c1,c2,c3,c4],_=>exact⟨c0,c1,c2,c3,c4,rfl⟩
end
end Go.Proofs.YtfcjhpodichpjaaDoor
namespace Go.Proofs.YtfcjhpodichpjaaDoor
open Go Go.RowKit
structure Edg where
 fr:Int
 le:Int
 ta:Int
deriving DecidableEq
theorem eq_stop {α:Type} [BEq α] [LawfulBEq α] {l m:List α} {k:Nat} {x y:α}(hx:l[k]?=some x)(hy:m[k]?=some y)(h:(x==y)=false):(l==m)=false:=by
 rw [beq_eq_false_iff_ne]
 rintro rfl
 rw [hx] at hy
 injection hy with hy
 subst hy
 simp at h
theorem eq_step {α:Type} [BEq α] [LawfulBEq α] {l m:List α} {k:Nat} {x y:α}(hx:l[k]?=some x)(hy:m[k]?=some y)(h:(x==y)=true)(hk:l.take k=m.take k):l.take (k+1)=m.take (k+1):=by
 rw [List.take_add_one,List.take_add_one,hx,hy,hk,eq_of_beq h]
theorem eq_end {α:Type} [BEq α] [LawfulBEq α] {l m:List α} {k:Nat}(h1:l.length≤k)(h2:m.length≤k)(hk:l.take k=m.take k):(l==m)=true:=by
 rw [List.take_of_length_le h1,List.take_of_length_le h2] at hk
 simp [hk]
theorem eq_lens {α:Type} [BEq α] [LawfulBEq α] {l m:List α}(h:l.length≠m.length):(l==m)=false:=by
 rw [beq_eq_false_iff_ne]
 rintro rfl
 exact h rfl
theorem yU01a5 {P:Prop}(h:P:=by
 obtain rfl:k=n:=by omega
 go_wp2
 go_ret
 exact⟨za (by rw [eq_end (by have:=Hl.out;omega) (by have:=Hl'.out;omega) heq.out]),zaG⟩
 ):P:=h
theorem eqIntS_any (lo hi lo' hi':Nat) (A:Option Addr) (n c:Nat) (B:Option Addr) (m d:Nat) (l l':List Int) (w:World)(h:Reads w lo hi 1 A n (ints l))(h':Reads w lo' hi' 1 B m (ints l')) :
  Calls Tryd.prog 88 #[.slice A n c,.slice B m d] w fun e w'=>e=.returned (.bool (l==l'))∧Ext w w':=by
 have hn:=h.len
 have hm:=h'.len
 have hl:l.length=n:=by have:=h.length;rw [zI] at this;omega
 have hl':l'.length=m:=by have:=h'.length;rw [zI] at this;omega
 have Hl:=zb hl
 have Hl':=zb hl'
 clear hl hl'
 by_cases he:n=m
 ·subst he
  go_enter Tryd.func88,Tryd.ntmps88
  go_wp2
  go_loopw [5] (fun i wr=>∃ k:Nat,k≤n∧i=.int .i64 k∧Hid (l.take k=l'.take k)∧Ext w wr) (fun i _=>n - (intOf i).toNat)
  case atStart=>exact⟨0,Nat.zero_le _,rfl,rfl,Ext.refl _⟩
  case round =>
   obtain⟨k,hk,rfl,heq,zaG⟩:=hrel
   by_cases hlt:k<n
   ·obtain⟨ad,x,rfl,_,_,hx,hc⟩:=(h.ext zaG).int hlt
    obtain⟨ad',y,rfl,_,_,hy,hc'⟩:=(h'.ext zaG).int hlt
    cases hb:x != y
    ·go_wp2
     go_quiet (fail)
     go_wp2
     go_roundw
     case rel=>exact⟨k+1,by omega,by go_num,eq_step hx.out hy.out (by simpa using hb) heq.out,zaG.drewN _⟩
     case measure=>simp [intOf];omega
    ·go_wp2
     go_quiet (fail)
     go_wp2
     go_ret
     exact⟨za (by rw [eq_stop hx.out hy.out (by simpa using hb)]),zaG.drewN _⟩
   ·exact yU01a5
 ·have hne:((n:Int) != (m:Int))=true:=by simp;omega
  go_enter Tryd.func88,Tryd.ntmps88
  go_wp2
  go_ret
  exact⟨za (by rw [eq_lens (by rw [Hl.out,Hl'.out];exact he)]),Ext.refl _⟩
theorem eqBoolS_any (lo hi lo' hi':Nat) (A:Option Addr) (n c:Nat) (B:Option Addr) (m d:Nat) (l l':List Bool) (w:World)(h:Reads w lo hi 1 A n (zu l))(h':Reads w lo' hi' 1 B m (zu l')) :
  Calls Tryd.prog 51 #[.slice A n c,.slice B m d] w fun e w'=>e=.returned (.bool (l==l'))∧Ext w w':=by
 have hn:=h.len
 have hm:=h'.len
 have hl:l.length=n:=by have:=h.length;rw [zT] at this;omega
 have hl':l'.length=m:=by have:=h'.length;rw [zT] at this;omega
 have Hl:=zb hl
 have Hl':=zb hl'
 clear hl hl'
 by_cases he:n=m
 ·subst he
  go_enter Tryd.func51,Tryd.ntmps51
  go_wp2
  go_loopw [5] (fun i wr=>∃ k:Nat,k≤n∧i=.int .i64 k∧Hid (l.take k=l'.take k)∧Ext w wr) (fun i _=>n - (intOf i).toNat)
  case atStart=>exact⟨0,Nat.zero_le _,rfl,rfl,Ext.refl _⟩
  case round =>
   obtain⟨k,hk,rfl,heq,zaG⟩:=hrel
   by_cases hlt:k<n
   ·obtain⟨ad,x,rfl,_,_,hx,hc⟩:=(h.ext zaG).bool hlt
    obtain⟨ad',y,rfl,_,_,hy,hc'⟩:=(h'.ext zaG).bool hlt
    cases hb:x==y
    ·go_wp2
     go_quiet (fail)
     go_wp2
     go_ret
     exact⟨za (by rw [eq_stop hx.out hy.out hb]),zaG.drewN _⟩
    ·go_wp2
     go_quiet (fail)
     go_wp2
     go_roundw
     case rel=>exact⟨k+1,by omega,by go_num,eq_step hx.out hy.out hb heq.out,zaG.drewN _⟩
     case measure=>simp [intOf];omega
   ·exact yU01a5
 ·have hne:((n:Int) != (m:Int))=true:=by simp;omega
  go_enter Tryd.func51,Tryd.ntmps51
  go_wp2
  go_ret
  exact⟨za (by rw [eq_lens (by rw [Hl.out,Hl'.out];exact he)]),Ext.refl _⟩
theorem zZ (lo hi lo' hi':Nat) (A:Option Addr) (n c:Nat) (B:Option Addr) (m d:Nat) (l l':List (List Int)) (w:World)(h:zk w lo hi A n l)(h':zk w lo' hi' B m l') :
  Calls Tryd.prog 50 #[.slice A n c,.slice B m d] w fun e w'=>e=.returned (.bool (l==l'))∧Ext w w':=by
 have hn:=h.len
 have hm:=h'.len
 have Hl:=zb h.1
 have Hl':=zb h'.1
 by_cases he:n=m
 ·subst he
  go_enter Tryd.func50,Tryd.ntmps50
  go_wp2
  go_loopw [5] (fun i wr=>∃ k:Nat,k≤n∧i=.int .i64 k∧Hid (l.take k=l'.take k)∧Ext w wr) (fun i _=>n - (intOf i).toNat)
  case atStart=>exact⟨0,Nat.zero_le _,rfl,rfl,Ext.refl _⟩
  case round =>
   obtain⟨k,hk,rfl,heq,zaG⟩:=hrel
   by_cases hlt:k<n
   ·obtain⟨ad,Ak,ck,x,rfl,_,_,hx,hc,hrk⟩:=(h.ext zaG).row hlt
    obtain⟨ad',Bk,dk,y,rfl,_,_,hy,hc',hrk'⟩:=(h'.ext zaG).row hlt
    have hce:∀ W,Ext wr W→W.cell? (ad.add k)=some (.slice Ak x.length ck):=fun W hW=>hW.cell_some hc
    have hce':∀ W,Ext wr W→W.cell? (ad'.add k)=some (.slice Bk y.length dk):=fun W hW=>hW.cell_some hc'
    have hwr:=Ext.refl wr
    cases hb:x==y
    all_goals
     have Hb:=zb hb
     clear hb
     go_wp2_with fail
     go_region_held3 (fun W=>Ext wr W) (first|assumption|(refine Ext.drew ?_;assumption)|(refine Ext.trans ?_ (by assumption);assumption)|(refine Ext.trans ?_ (by assumption);refine Ext.drew ?_;assumption)) ((go_at_call 88;refine (eqIntS_any _ _ _ _ _ _ _ _ _ _ _ _ _ (hrk.ext ?_) (hrk'.ext ?_)).mono ?_;assumption;assumption;rw [Hb.out];rintro e w3 ⟨rfl,hext3⟩))
     go_wp2
    ·go_ret
     exact⟨za (by rw [eq_stop hx.out hy.out Hb.out]),zaG.trans (by assumption)⟩
    ·go_roundw
     case rel=>exact⟨k+1,by omega,by go_num,eq_step hx.out hy.out Hb.out heq.out,zaG.trans (by assumption)⟩
     case measure=>simp [intOf];omega
   ·exact yU01a5
 ·have hne:((n:Int) != (m:Int))=true:=by simp;omega
  go_enter Tryd.func50,Tryd.ntmps50
  go_wp2
  go_ret
  exact⟨za (by rw [eq_lens (by rw [← Hl.out,← Hl'.out];exact he)]),Ext.refl _⟩
def autEq (a b:Aut):Bool:=decide (a.al=b.al)&&(a.next==b.next&&a.acc==b.acc)
theorem autEq_self (a:Aut):autEq a a=true:=by simp [autEq]
theorem zY (lo hi lo' hi':Nat) (A:Option Addr) (n c:Nat) (A':Option Addr) (n' c':Nat) (B:Option Addr) (m d:Nat) (B':Option Addr) (m' d':Nat) (a b:Aut) (w:World)(h:zn w lo hi A n A' n' a)(h':zn w lo' hi' B m B' m' b) :
  Calls Tryd.prog 22 #[.agg #[.int .i64 a.al,.slice A n c,.slice A' n' c'],.agg #[.int .i64 b.al,.slice B m d,.slice B' m' d']] w fun e w'=>e=.returned (.bool (autEq a b))∧Ext w w':=by
 have hR:=fun W (hW:Ext w W)=>h.ext hW
 have HR:=zb hR
 have hR':=fun W (hW:Ext w W)=>h'.ext hW
 have HR':=zb hR'
 clear hR hR'
 by_cases h0:a.al=b.al
 ·have hne:(a.al != b.al)=false:=by simp [h0]
  have H0:=zb h0
  clear h0
  cases h1:a.next==b.next
  ·have H1:=zb h1
   clear h1
   go_enter Tryd.func22,Tryd.ntmps22
   go_wp2_with (go_at_call 50;refine (zZ _ _ _ _ _ _ _ _ _ _ _ _ _ (HR.out _ ?_).1 (HR'.out _ ?_).1).mono ?_;exact ((Ext.refl _).alloc _).alloc _;exact ((Ext.refl _).alloc _).alloc _;rw [H1.out];rintro e w2 ⟨rfl,hext2⟩;obtain⟨b1,b2⟩:=zV hext2;have c1:=b1.cell;have c2:=b2.cell)
   go_ret
   exact⟨za (by rw [autEq,H1.out];simp),(((Ext.refl _).alloc _).alloc _).trans hext2⟩
  ·have H1:=zb h1
   clear h1
   go_enter Tryd.func22,Tryd.ntmps22
   go_wp2_with (first
    |(go_at_call 50;refine (zZ _ _ _ _ _ _ _ _ _ _ _ _ _ (HR.out _ ?_).1 (HR'.out _ ?_).1).mono ?_;exact ((Ext.refl _).alloc _).alloc _;exact ((Ext.refl _).alloc _).alloc _;rw [H1.out];rintro e w2 ⟨rfl,hext2⟩;obtain⟨b1,b2⟩:=zV hext2;have c1:=b1.cell;have c2:=b2.cell)
    |(go_at_call 51;refine (eqBoolS_any _ _ _ _ _ _ _ _ _ _ _ _ _ (HR.out _ ?_).2.2 (HR'.out _ ?_).2.2).mono ?_;exact (((Ext.refl _).alloc _).alloc _).trans hext2;exact (((Ext.refl _).alloc _).alloc _).trans hext2;rintro e w3 ⟨rfl,hext3⟩))
   all_goals go_ret
   all_goals exact⟨za (by rw [autEq,H1.out,H0.out];simp_all),((((Ext.refl _).alloc _).alloc _).trans hext2).trans hext3⟩
 ·have hne:(a.al != b.al)=true:=by simp [h0]
  go_enter Tryd.func22,Tryd.ntmps22
  go_wp2
  go_ret
  exact⟨za (by rw [autEq];simp [h0]),((Ext.refl _).alloc _).alloc _⟩
instance:BEq Edg:=⟨fun a b=>decide (a.fr=b.fr)&&(decide (a.le=b.le)&&decide (a.ta=b.ta))⟩
theorem edg_beq (a b:Edg):(a==b)=(decide (a.fr=b.fr)&&(decide (a.le=b.le)&&decide (a.ta=b.ta))):=rfl
instance:LawfulBEq Edg where
 eq_of_beq {a b} h:=by
  rw [edg_beq] at h
  simp only [Bool.and_eq_true,decide_eq_true_eq] at h
  cases a;cases b;simp_all
 rfl {a}:=by rw [edg_beq];simp
end Go.Proofs.YtfcjhpodichpjaaDoor
namespace Go.Proofs.YtfcjhpodichpjaaDoor
open Go Go.ChangeShapes Go.WideShapes Go.ChangeAt Go.RowKit Go.Deep
theorem own_:ownKnob Tryd.prog.godebug=none:=by kernel_rfl
theorem laidOut_:laidOutB Tryd.prog=true:=by kernel_rfl
theorem zaB {H:Type} {enc:TypeId × Value→H} {w:World} {spare:Nat→Bool} {held:Bool} {fuel:Nat} {cs:List Value} {x:DataW H × List MemPlace}(h:DataW.trod enc Tryd.prog w 0 spare held fuel 25 cs=some x) :
  ∃ (a:Aut) (A:Option Addr) (n c:Nat) (A':Option Addr) (n' c':Nat),cs=[.int .i64 a.al,.slice A n c,.slice A' n' c']∧zn w 0 w.heap.size A n A' n' a:=
 open_aut Tryd.underlying25 (by kernel_rfl) rfl rfl rfl (by kernel_rfl) (by kernel_rfl) (by kernel_rfl) Tryd.underlying3 Tryd.underlying22 Tryd.underlying62 Tryd.underlying3 (by kernel_rfl) (by kernel_rfl) Tryd.underlying23 Tryd.underlying4 (by kernel_rfl) h
theorem and_t {a b:Bool}(h:a=true) (k:b=true):(a&&b)=true:=by rw [h,k];rfl
end Go.Proofs.YtfcjhpodichpjaaDoor
namespace Go.Proofs.YtfcjhpodichpjaaDoor
open Go Go.RowKit
theorem zq (a:Nat)(hs:Sm a) (w:World) :
  Calls Tryd.prog 76 #[.int .i64 a] w (RetNats w (zc a 6)):=by
 go_enter Tryd.func76,Tryd.ntmps76
 go_wp2
 go_loopw [3,4] (fun v i wr=>∃ k:Nat,k≤6∧i=.int .i64 k∧wr.ownsRow w.heap.size 3 1 v (zc a k).length (nats (zc a k))∧Ext w wr)
  (fun _ i _=>6 - (intOf i).toNat)
 case atStart=>exact⟨0,Nat.zero_le _,rfl,World.ownsRow_lit w #[] 0 (Nat.le_refl _) (by unfold maxLen;omega) rfl,(Ext.refl _).alloc _⟩
 case round =>
  obtain⟨k,hk,rfl,zaF,zaG⟩:=hrel
  have hl:=zd a k
  by_cases hlt:k<6
  ·cases hb:a.testBit k
   all_goals
    have Hb:=zb hb
    have hls:=zU a k
    rw [hb] at hls
    have Hls:=zb hls
    clear hls hb
    go_wp2_with (first
     |(go_at_call 33;refine (spec_l1Has a k hs _ (by omega)).mono ?_;rw [Hb.out];rintro e w' ⟨rfl,rfl⟩)
     |(at_builtin;refine zM w wr rfl _ _ _ rfl 3 _ 1 8 Tryd.underlying62 zaA rfl (by decide) u3 _ _ _ _ rfl rfl zaG zaF rfl (cells_int _) (by unfold maxLen;omega) (by omega) ?_;intro v' w1 hext1 zaI hg1 hat1))
    exact yU01a4
  ·obtain rfl:k=6:=by omega
   obtain⟨A,c,rfl⟩:=zW zaF
   go_wp2
   go_ret
   exact⟨_,_,rfl,zaF,zaG⟩
def zx (b:UInt8):Bool:=decide (97≤(b.toNat:Int)∧(b.toNat:Int)≤102)
def wordB (s:ByteArray):Bool:=decide (s.size≤50000)&&s.data.toList.all zx
theorem byte_get (s:ByteArray) (i:Nat)(h:i<s.size):s.data.toList[i]?=some s[i]:=by
 rw [List.getElem?_eq_getElem (by simpa using h)];rfl
theorem yU01a2 {P:Prop}(h:P:=by
 go_wp2_with (go_at_call 77;refine (zah s k hlt _).mono ?_;rw [hx.out];rintro e w' ⟨rfl,rfl⟩)
 go_ret
 exact⟨za (by rw [wordB,zl hg.out (by have:=hx.out;simp [zx];omega),Bool.and_false]),rfl⟩
 ):P:=h
theorem zao (s:ByteArray) (w:World)(hs:s.size≤9223372036854775807) :
  Calls Tryd.prog 40 #[.string s] w fun e w'=>e=.returned (.bool (wordB s))∧w=w':=by
 by_cases h:50000<s.size
 ·go_enter Tryd.func40,Tryd.ntmps40
  go_wp2
  go_ret
  exact⟨by simp [wordB,show ¬ s.size≤50000 by omega],rfl⟩
 ·go_enter Tryd.func40,Tryd.ntmps40
  go_wp2
  go_loop [3] (fun i=>∃ k:Nat,k≤s.size∧i=.int .i64 k∧Hid ((s.data.toList.take k).all zx=true)) (fun i=>s.size - (intOf i).toNat)
  case atStart=>exact⟨0,Nat.zero_le _,rfl,rfl⟩
  case round =>
   obtain⟨k,hk,rfl,hall⟩:=hrel
   by_cases hlt:k<s.size
   ·have hg:=zb (byte_get s k hlt)
    obtain⟨x,hx,hx0,hx1⟩:∃ x:Int,Hid ((s[k].toNat:Int) - 97=x) ∧ -97≤x∧x≤158:=⟨(s[k].toNat:Int) - 97,zb rfl,by omega,by have:=byte_lt s k hlt;omega⟩
    by_cases h0:x<0
    ·exact yU01a2
    ·by_cases h1:6≤x
     ·exact yU01a2
     ·go_wp2_with (go_at_call 77;refine (zah s k hlt _).mono ?_;rw [hx.out];rintro e w' ⟨rfl,rfl⟩)
      go_round
      case rel=>exact⟨k+1,by omega,by go_num,zB hg.out hall.out (by have:=hx.out;simp [zx];omega)⟩
      case measure=>simp [intOf];omega
   ·obtain rfl:k=s.size:=by omega
    go_wp2
    go_ret
    exact⟨za (by rw [wordB,zQ (by simp) hall.out];simp;omega),rfl⟩
def overB (s:ByteArray) (a:Nat):Bool:=s.data.toList.all fun b=>hasB a (ltr b.toNat)
theorem over_all {a:Nat}(h:a=63) (b:UInt8):hasB a (ltr b.toNat)=zx b:=by
 subst h
 have:b.toNat<256:=b.toNat_lt
 unfold hasB ltr zx
 by_cases h1:(b.toNat:Int) - 97<0
 ·rw [if_pos (.inl h1)];simp;omega
 ·by_cases h2:6≤(b.toNat:Int) - 97
  ·rw [if_pos (.inr h2)];simp;omega
  ·rw [if_neg (by omega)]
   have h3:b.toNat=97∨b.toNat=98∨b.toNat=99∨b.toNat=100∨b.toNat=101∨b.toNat=102:=by omega
   rcases h3 with h|h|h|h|h|h<;>rw [h]<;>decide
theorem overB_63 (s:ByteArray):overB s 63=s.data.toList.all zx:=by
 unfold overB
 congr 1
 funext b
 exact over_all rfl b
theorem zaa (s:ByteArray) (a:Nat) (w:World)(hs:s.size≤9223372036854775807)(ha:a≤63) :
  Calls Tryd.prog 82 #[.string s,.int .i64 a] w fun e w'=>e=.returned (.bool (decide (s.size≤50000)&&overB s a))∧w=w':=by
 have hsm:Sm a:=by unfold Sm;omega
 have hal:(decide ((0:Int)≤a∧(a:Int)≤63))=true:=by simp;omega
 have Hal:=zb hal
 clear hal
 by_cases h:50000<s.size
 ·go_enter Tryd.func82,Tryd.ntmps82
  go_wp2_with (go_at_call 80;refine (ze _ _).mono ?_;rw [Hal.out];rintro e w' ⟨rfl,rfl⟩)
  go_ret
  exact⟨by simp [show ¬ s.size≤50000 by omega],rfl⟩
 ·go_enter Tryd.func82,Tryd.ntmps82
  go_wp2_with (go_at_call 80;refine (ze _ _).mono ?_;rw [Hal.out];rintro e w' ⟨rfl,rfl⟩)
  go_loop [16] (fun i=>∃ k:Nat,k≤s.size∧i=.int .i64 k∧Hid ((s.data.toList.take k).all (fun b=>hasB a (ltr b.toNat))=true)) (fun i=>s.size - (intOf i).toNat)
  case atStart=>exact⟨0,Nat.zero_le _,rfl,rfl⟩
  case round =>
   obtain⟨k,hk,rfl,hall⟩:=hrel
   by_cases hlt:k<s.size
   ·have hg:=zb (byte_get s k hlt)
    cases hb:hasB a (ltr (s[k].toNat:Int))
    ·have Hb:=zb hb
     clear hb
     go_wp2_with (first|(go_at_call 109;refine (zN s k hlt _).mono ?_;rintro e w' ⟨rfl,rfl⟩)|(go_at_call 30;refine (zay _ _ hsm _).mono ?_;rw [Hb.out];rintro e w' ⟨rfl,rfl⟩))
     go_ret
     exact⟨za (by rw [overB,zl hg.out Hb.out,Bool.and_false]),rfl⟩
    ·have Hb:=zb hb
     clear hb
     go_wp2_with (first|(go_at_call 109;refine (zN s k hlt _).mono ?_;rintro e w' ⟨rfl,rfl⟩)|(go_at_call 30;refine (zay _ _ hsm _).mono ?_;rw [Hb.out];rintro e w' ⟨rfl,rfl⟩))
     go_round
     case rel=>exact⟨k+1,by omega,by go_num,zB hg.out hall.out Hb.out⟩
     case measure=>simp [intOf];omega
   ·obtain rfl:k=s.size:=by omega
    go_wp2
    go_ret
    exact⟨za (by rw [overB,zQ (by simp) hall.out];simp;omega),rfl⟩
theorem zam (s:ByteArray) (w:World)(hs:s.size≤9223372036854775807) :
  Calls Tryd.prog 46 #[.string s] w fun e w'=>e=.returned (.bool (wordB s))∧w=w':=by
 have hov:=overB_63 s
 have Hov:=zb hov
 clear hov
 go_enter Tryd.func46,Tryd.ntmps46
 go_wp2_with (go_at_call 82;refine (zaa s 63 _ hs (by omega)).mono ?_;rintro e w' ⟨rfl,rfl⟩)
 go_ret
 exact⟨za (by rw [Hov.out];rfl),rfl⟩
def rowB (k n:Nat) (row:List Int):Bool:=decide (row.length=k)&&row.all fun q=>decide (0≤q∧q<n)
def zh (a:Aut):Bool:=
 decide (0≤a.al∧a.al≤63)&&(decide (1≤a.next.length∧a.next.length≤12)&&(decide (a.acc.length=a.next.length)&&a.next.all (rowB (zc a.al.toNat 6).length a.next.length)))
theorem zaq (lo hi:Nat) (A:Option Addr) (n c:Nat) (l:List Int) (k m:Nat) (w:World)(h:Reads w lo hi 1 A n (ints l))(hk:k≤100) (_hm:m≤100) :
  Calls Tryd.prog 75 #[.slice A n c,.int .i64 k,.int .i64 m] w fun e w'=>e=.returned (.bool (rowB k m l))∧w=w':=by
 have hn:=h.len
 have hl:l.length=n:=by have:=h.length;rw [zI] at this;omega
 have Hl:=zb hl
 clear hl
 by_cases he:n=k
 ·subst he
  go_enter Tryd.func75,Tryd.ntmps75
  go_wp2
  go_loop [7] (fun i=>∃ k:Nat,k≤n∧i=.int .i64 k∧Hid ((l.take k).all (fun q=>decide (0≤q∧q<m))=true)) (fun i=>n - (intOf i).toNat)
  case atStart=>exact⟨0,Nat.zero_le _,rfl,rfl⟩
  case round =>
   obtain⟨k,hk,rfl,hall⟩:=hrel
   by_cases hlt:k<n
   ·obtain⟨ad,x,rfl,_,_,hx,hcell⟩:=h.int hlt
    by_cases h0:x<0
    ·go_wp2
     go_ret
     exact⟨za (by rw [rowB,zl hx.out (by simp;omega),Bool.and_false]),rfl⟩
    ·by_cases h1:(m:Int)≤x
     ·go_wp2
      go_ret
      exact⟨za (by rw [rowB,zl hx.out (by simp;omega),Bool.and_false]),rfl⟩
     ·go_wp2
      go_round
      case rel=>exact⟨k+1,by omega,by go_num,zB hx.out hall.out (by simp;omega)⟩
      case measure=>simp [intOf];omega
   ·obtain rfl:k=n:=by omega
    go_wp2
    go_ret
    exact⟨za (by rw [rowB,zQ (by have:=Hl.out;omega) hall.out,Hl.out];simp),rfl⟩
 ·go_enter Tryd.func75,Tryd.ntmps75
  go_wp2
  go_ret
  exact⟨za (by rw [rowB,Hl.out];simp [he]),rfl⟩
theorem zp (lo hi:Nat) (A:Option Addr) (n c:Nat) (A':Option Addr) (n' c':Nat) (a:Aut) (w:World)(h:zn w lo hi A n A' n' a) :
  Calls Tryd.prog 38 #[.agg #[.int .i64 a.al,.slice A n c,.slice A' n' c']] w fun e w'=>e=.returned (.bool (zh a))∧Ext w w':=by
 have h1:=h.n1
 have h2:=h.n2
 have Hv:=zb (show zh a=(decide (0≤a.al∧a.al≤63)&&(decide (1≤n∧n≤12)&&(decide (n'=n)&&a.next.all (rowB (zc a.al.toNat 6).length n)))) by unfold zh;rw [← h1,← h2])
 have hl1:=h.1.len
 have hl2:=h.2.2.len
 clear h1 h2
 by_cases hal:0≤a.al∧a.al≤63
 ·have hd:=zb (show decide (0≤a.al∧a.al≤63)=true by simp;omega)
  by_cases hn:1≤n∧n≤12
  ·have hd1:decide ((n:Int)<1)=false:=by simp;omega
   have hd2:decide (12<(n:Int))=false:=by simp;omega
   by_cases hn':n'=n
   ·subst hn'
    obtain⟨al,hal'⟩:∃ al:Nat,Hid (a.al=al):=⟨a.al.toNat,by unfold Hid;omega⟩
    have hsm:Sm al:=by have:=hal'.out;unfold Sm;omega
    have hll:=zd al 6
    rw [hal'.out]
    rw [hal'.out] at hd
    rw [hal'.out,Int.toNat_natCast] at Hv
    clear hal
    have hR:=fun W (hW:Ext w W)=>h.1.ext hW
    have HR:=zb hR
    clear hR
    go_enter Tryd.func38,Tryd.ntmps38
    go_wp2_with (go_at_call 74;refine (zi _ _).mono ?_;rw [hd.out];rintro e w' ⟨rfl,rfl⟩)
    go_loopw [4] (fun i wr=>∃ k:Nat,k≤n'∧i=.int .i64 k∧Hid ((a.next.take k).all (rowB (zc al 6).length n')=true)∧Ext (w.alloc (.cells #[Value.int .i64 al,Value.slice A n' c,Value.slice A' n' c'] 30)) wr)
     (fun i _=>n' - (intOf i).toNat)
    case atStart=>exact⟨0,Nat.zero_le _,rfl,rfl,Ext.refl _⟩
    case round =>
     obtain⟨k,hk,rfl,hall,zaG⟩:=hrel
     have hbox:∀ W,Ext wr W→∀ j,W.cell? ⟨w.heap.size,j,none⟩=#[Value.int .i64 al,Value.slice A n' c,Value.slice A' n' c'][j]?:=fun W hW=>zH (zaG.trans hW)
     by_cases hlt:k<n'
     ·obtain⟨ad,Ak,ck,l,rfl,hlo,hhi,hl,hcell,hrk⟩:=(HR.out wr (((Ext.refl _).alloc _).trans zaG)).row hlt
      have hce:∀ W,Ext wr W→W.cell? (ad.add k)=some (.slice Ak l.length ck):=fun W hW=>hW.cell_some hcell
      have hwr:=Ext.refl wr
      have zaH:∀ W,Ext wr W→Ext w W:=fun W hW=>(((Ext.refl _).alloc _).trans zaG).trans hW
      have Hfin:=zb zaH
      clear zaH
      cases hrb:rowB (zc al 6).length n' l
      ·have Hrb:=zb hrb
       clear hrb
       go_wp2_with fail
       go_region_held3 (fun W=>Ext wr W) (first|assumption|(refine Ext.drew ?_;assumption)|(refine Ext.trans ?_ (by assumption);assumption)|(refine Ext.trans ?_ (by assumption);refine Ext.drew ?_;assumption)) (first|(go_at_call 76;refine (zq _ hsm _).mono ?_;rintro e w2 ⟨A2,c2,rfl,zaJ,hext2⟩)|(go_at_call 75;refine (zaq _ _ _ _ _ _ _ _ _ (hrk.ext ?_) (by omega) (by omega)).mono ?_;assumption;rw [Hrb.out];rintro e w3 ⟨rfl,rfl⟩))
       go_wp2
       go_ret
       exact⟨za (by rw [Hv.out,zl hl.out Hrb.out];simp),Hfin.out _ (by assumption)⟩
      ·have Hrb:=zb hrb
       clear hrb
       go_wp2_with fail
       go_region_held3 (fun W=>Ext wr W) (first|assumption|(refine Ext.drew ?_;assumption)|(refine Ext.trans ?_ (by assumption);assumption)|(refine Ext.trans ?_ (by assumption);refine Ext.drew ?_;assumption)) (first|(go_at_call 76;refine (zq _ hsm _).mono ?_;rintro e w2 ⟨A2,c2,rfl,zaJ,hext2⟩)|(go_at_call 75;refine (zaq _ _ _ _ _ _ _ _ _ (hrk.ext ?_) (by omega) (by omega)).mono ?_;assumption;rw [Hrb.out];rintro e w3 ⟨rfl,rfl⟩))
       go_wp2
       go_roundw
       case rel=>exact⟨k+1,by omega,by go_num,zB hl.out hall.out Hrb.out,zaG.trans (by assumption)⟩
       case measure=>simp [intOf];omega
     ·obtain rfl:k=n':=by omega
      go_wp2
      go_ret
      exact⟨za (by rw [Hv.out,zQ (by have:=h.n1;omega) hall.out,hd.out];simp;omega),((Ext.refl _).alloc _).trans zaG⟩
   ·have hne:((n':Int) != (n:Int))=true:=by simp;omega
    go_enter Tryd.func38,Tryd.ntmps38
    go_wp2_with (go_at_call 74;refine (zi _ _).mono ?_;rw [hd.out];rintro e w' ⟨rfl,rfl⟩)
    go_ret
    exact⟨za (by rw [Hv.out];simp [hn']),(Ext.refl _).alloc _⟩
  ·go_enter Tryd.func38,Tryd.ntmps38
   go_wp2_with (go_at_call 74;refine (zi _ _).mono ?_;rw [hd.out];rintro e w' ⟨rfl,rfl⟩)
   all_goals go_ret
   all_goals exact⟨za (by rw [Hv.out];simp [hn]),(Ext.refl _).alloc _⟩
 ·go_enter Tryd.func38,Tryd.ntmps38
  have hd:decide (0≤a.al∧a.al≤63)=false:=by simp;omega
  go_wp2_with (go_at_call 74;refine (zi _ _).mono ?_;rw [hd];rintro e w' ⟨rfl,rfl⟩)
  go_ret
  exact⟨za (by rw [Hv.out];simp;omega),(Ext.refl _).alloc _⟩
theorem zo (lo hi:Nat) (A:Option Addr) (n c:Nat) (A':Option Addr) (n' c':Nat) (a:Aut) (w:World)(h:zn w lo hi A n A' n' a) :
  Calls Tryd.prog 45 #[.agg #[.int .i64 a.al,.slice A n c,.slice A' n' c']] w fun e w'=>e=.returned (.bool (zh a))∧Ext w w':=by
 have h1:=h.n1
 have h2:=h.n2
 have Hv:=zb (show zh a=(decide (0≤a.al∧a.al≤63)&&(decide (1≤n∧n≤12)&&(decide (n'=n)&&a.next.all (rowB (zc a.al.toNat 6).length n)))) by unfold zh;rw [← h1,← h2])
 have hl1:=h.1.len
 have hl2:=h.2.2.len
 clear h1 h2
 by_cases hal:0≤a.al∧a.al≤63
 ·have hd:=zb (show decide (0≤a.al∧a.al≤63)=true by simp;omega)
  by_cases hn:1≤n∧n≤12
  ·have hd1:decide ((n:Int)<1)=false:=by simp;omega
   have hd2:decide (12<(n:Int))=false:=by simp;omega
   by_cases hn':n'=n
   ·subst hn'
    obtain⟨al,hal'⟩:∃ al:Nat,Hid (a.al=al):=⟨a.al.toNat,by unfold Hid;omega⟩
    have hsm:Sm al:=by have:=hal'.out;unfold Sm;omega
    have hll:=zd al 6
    rw [hal'.out]
    rw [hal'.out] at hd
    rw [hal'.out,Int.toNat_natCast] at Hv
    clear hal
    have hR:=fun W (hW:Ext w W)=>h.1.ext hW
    have HR:=zb hR
    clear hR
    go_enter Tryd.func45,Tryd.ntmps45
    go_wp2_with (first
     |(go_at_call 80;refine (ze _ _).mono ?_;rw [hd.out];rintro e w' ⟨rfl,rfl⟩)
     |(go_at_call 81;refine (zF _ hsm _).mono ?_;rintro e w2 ⟨A2,c2,rfl,zaJ,hext2⟩;have hbox2:=zH hext2))
    go_loopw [40] (fun i wr=>∃ k:Nat,k≤n'∧i=.int .i64 k∧Hid ((a.next.take k).all (rowB (zc al 6).length n')=true)∧Ext w2 wr)
     (fun i _=>n' - (intOf i).toNat)
    case atStart=>exact⟨0,Nat.zero_le _,rfl,rfl,Ext.refl _⟩
    case round =>
     obtain⟨k,hk,rfl,hall,zaG⟩:=hrel
     have hbox:∀ W,Ext wr W→∀ j,W.cell? ⟨w.heap.size,j,none⟩=#[Value.int .i64 al,Value.slice A n' c,Value.slice A' n' c'][j]?:=fun W hW=>zH ((hext2.trans zaG).trans hW)
     have hwr:=Ext.refl wr
     clear hbox2
     have zaH:Ext w wr:=(((Ext.refl _).alloc _).trans hext2).trans zaG
     by_cases hlt:k<n'
     ·obtain⟨ad,Ak,ck,l,rfl,hlo,hhi,hl,hcell,hrk⟩:=(HR.out wr zaH).row hlt
      by_cases hlk:l.length=(zc al 6).length
      ·obtain⟨m,hm⟩:∃ m,Hid ((zc al 6).length=m):=⟨_,rfl⟩
       have hlm:Hid (l.length=m):=by have:=hm.out;unfold Hid;omega
       rw [hm.out] at hll ⊢
       rw [hm.out] at hall Hv
       rw [hlm.out] at hcell hrk
       clear hlk
       go_wp2_with fail
       go_loop [50] (fun i=>∃ j:Nat,j≤m∧i=.int .i64 j∧Hid ((l.take j).all (fun q=>decide (0≤q∧q<n'))=true)) (fun i=>m - (intOf i).toNat)
       case atStart=>exact⟨0,Nat.zero_le _,rfl,rfl⟩
       case round =>
        obtain⟨j,hj,rfl,hallj⟩:=hrel
        by_cases hltj:j<m
        ·obtain⟨ad2,x,rfl,_,_,hx,hcell2⟩:=hrk.int hltj
         by_cases h0:x<0
         ·go_wp2
          go_ret
          exact⟨za (by rw [Hv.out,zl hl.out (by rw [rowB,zl hx.out (by simp;omega),Bool.and_false])];simp),zaH⟩
         ·by_cases h1:(n':Int)≤x
          ·go_wp2
           go_ret
           exact⟨za (by rw [Hv.out,zl hl.out (by rw [rowB,zl hx.out (by simp;omega),Bool.and_false])];simp),zaH⟩
          ·go_wp2
           go_round
           case rel=>exact⟨j+1,by omega,by go_num,zB hx.out hallj.out (by simp;omega)⟩
           case measure=>simp [intOf];omega
        ·obtain rfl:j=m:=by omega
         go_wp2
         go_roundw
         case rel=>exact⟨k+1,by omega,by go_num,zB hl.out hall.out (by rw [rowB,zQ (by have:=hlm.out;omega) hallj.out,hlm.out];simp),zaG⟩
         case measure=>simp [intOf];omega
      ·have hne:((l.length:Int) != ((zc al 6).length:Int))=true:=by simp;omega
       go_wp2
       go_ret
       exact⟨za (by rw [Hv.out,zl hl.out (by simp [rowB,hlk])];simp),zaH⟩
     ·obtain rfl:k=n':=by omega
      go_wp2
      go_ret
      exact⟨za (by rw [Hv.out,zQ (by have:=h.n1;omega) hall.out,hd.out];simp;omega),zaH⟩
   ·have hne:((n':Int) != (n:Int))=true:=by simp;omega
    go_enter Tryd.func45,Tryd.ntmps45
    go_wp2_with (go_at_call 80;refine (ze _ _).mono ?_;rw [hd.out];rintro e w' ⟨rfl,rfl⟩)
    go_ret
    exact⟨za (by rw [Hv.out];simp [hn']),(Ext.refl _).alloc _⟩
  ·go_enter Tryd.func45,Tryd.ntmps45
   go_wp2_with (go_at_call 80;refine (ze _ _).mono ?_;rw [hd.out];rintro e w' ⟨rfl,rfl⟩)
   all_goals go_ret
   all_goals exact⟨za (by rw [Hv.out];simp [hn]),(Ext.refl _).alloc _⟩
 ·go_enter Tryd.func45,Tryd.ntmps45
  have hd:decide (0≤a.al∧a.al≤63)=false:=by simp;omega
  go_wp2_with (go_at_call 80;refine (ze _ _).mono ?_;rw [hd];rintro e w' ⟨rfl,rfl⟩)
  go_ret
  exact⟨za (by rw [Hv.out];simp;omega),(Ext.refl _).alloc _⟩
def zG (a:Aut):Bool:=decide (a.al=0)&&(decide (a.next.length=0)&&decide (a.acc.length=0))
theorem spec_l13None (lo hi:Nat) (A:Option Addr) (n c:Nat) (A':Option Addr) (n' c':Nat) (a:Aut) (w:World)(h:zn w lo hi A n A' n' a) :
  Calls Tryd.prog 39 #[.agg #[.int .i64 a.al,.slice A n c,.slice A' n' c']] w fun e w'=>e=.returned (.bool (zG a))∧Ext w w':=by
 have Hv:=zb (show zG a=(decide (a.al=0)&&(decide (n=0)&&decide (n'=0))) by unfold zG;rw [← h.n1,← h.n2])
 have hl1:=h.1.len
 have hl2:=h.2.2.len
 clear h
 by_cases h0:a.al=0
 ·have hb:((a.al:Int)==0)=true:=by simp [h0]
  have H0:=zb h0
  clear h0
  by_cases h1:n=0
  ·have hb1:((n:Int)==0)=true:=by simp [h1]
   have H1:=zb h1
   clear h1
   go_enter Tryd.func39,Tryd.ntmps39
   go_wp2
   go_ret
   exact⟨za (by rw [Hv.out,H0.out,H1.out];by_cases h2:n'=0<;>simp [h2]),(Ext.refl _).alloc _⟩
  ·have hb1:((n:Int)==0)=false:=by simp [h1]
   go_enter Tryd.func39,Tryd.ntmps39
   go_wp2
   go_ret
   exact⟨za (by rw [Hv.out];simp [h1]),(Ext.refl _).alloc _⟩
 ·have hb:((a.al:Int)==0)=false:=by simp [h0]
  go_enter Tryd.func39,Tryd.ntmps39
  go_wp2
  go_ret
  exact⟨za (by rw [Hv.out];simp [h0]),(Ext.refl _).alloc _⟩
def zf (hd:Bool) (a:Aut) (s:ByteArray):Bool:=if hd then zh a&&s.toList.isEmpty else zG a&&wordB s
theorem zy (lo hi:Nat) (A:Option Addr) (n c:Nat) (A':Option Addr) (n' c':Nat)(hd:Bool) (a:Aut) (s:ByteArray) (w:World)(h:zn w lo hi A n A' n' a)(hs:s.size≤9223372036854775807) :
  Calls Tryd.prog 16 #[.agg #[.bool hd,.int .i64 a.al,.slice A n c,.slice A' n' c',.string s]] w fun e w'=>e=.returned (.bool (zf hd a s))∧Ext w w':=by
 have hR:=fun W (hW:Ext w W)=>h.ext hW
 have HR:=zb hR
 clear hR
 cases hd
 ·cases hb:zG a
  all_goals
   have Hb:=zb hb
   clear hb
   go_enter Tryd.func16,Tryd.ntmps16
   go_wp2_with (first
    |(go_at_call 39;refine (spec_l13None _ _ _ _ _ _ _ _ _ _ (HR.out _ ?_)).mono ?_;exact (Ext.refl _).alloc _;rw [Hb.out];rintro e w2 ⟨rfl,hext2⟩;have hbox:=zH hext2)
    |(go_at_call 40;refine (zao s _ hs).mono ?_;rintro e w' ⟨rfl,rfl⟩))
   go_ret
   exact⟨za (by rw [zf,Hb.out];simp),((Ext.refl _).alloc _).trans hext2⟩
 ·cases hb:zh a
  all_goals
   have Hb:=zb hb
   clear hb
   go_enter Tryd.func16,Tryd.ntmps16
   go_wp2_with (go_at_call 38;refine (zp _ _ _ _ _ _ _ _ _ _ (HR.out _ ?_)).mono ?_;exact (Ext.refl _).alloc _;rw [Hb.out];rintro e w2 ⟨rfl,hext2⟩;have hbox:=zH hext2)
   go_ret
   exact⟨za (by rw [zf,Hb.out];simp),((Ext.refl _).alloc _).trans hext2⟩
theorem zv (lo hi:Nat) (A:Option Addr) (n c:Nat) (A':Option Addr) (n' c':Nat)(hd:Bool) (a:Aut) (s:ByteArray) (w:World)(h:zn w lo hi A n A' n' a)(hs:s.size≤9223372036854775807) :
  Calls Tryd.prog 19 #[.agg #[.bool hd,.int .i64 a.al,.slice A n c,.slice A' n' c',.string s]] w fun e w'=>e=.returned (.bool (zf hd a s))∧Ext w w':=by
 have hR:=fun W (hW:Ext w W)=>h.ext hW
 have HR:=zb hR
 clear hR
 cases hd
 ·have Hv:=zb (show zG a=(decide (a.al=0)&&(decide (n=0)&&decide (n'=0))) by unfold zG;rw [← h.n1,← h.n2])
  have hl1:=h.1.len
  have hl2:=h.2.2.len
  clear h
  by_cases h0:a.al=0
  ·have hb:((a.al:Int)==0)=true:=by simp [h0]
   have H0:=zb h0
   clear h0
   by_cases h1:n=0
   ·have hb1:((n:Int)==0)=true:=by simp [h1]
    have H1:=zb h1
    clear h1
    by_cases h2:n'=0
    ·have hb2:((n':Int)==0)=true:=by simp [h2]
     have H2:=zb h2
     clear h2
     go_enter Tryd.func19,Tryd.ntmps19
     go_wp2_with (go_at_call 46;refine (zam s _ hs).mono ?_;rintro e w' ⟨rfl,rfl⟩)
     go_ret
     exact⟨za (by rw [zf,Hv.out,H0.out,H1.out,H2.out];simp),((Ext.refl _).alloc _).alloc _⟩
    ·have hb2:((n':Int)==0)=false:=by simp [h2]
     go_enter Tryd.func19,Tryd.ntmps19
     go_wp2_with fail
     go_ret
     exact⟨za (by rw [zf,Hv.out];simp [h2]),((Ext.refl _).alloc _).alloc _⟩
   ·have hb1:((n:Int)==0)=false:=by simp [h1]
    go_enter Tryd.func19,Tryd.ntmps19
    go_wp2_with fail
    go_ret
    exact⟨za (by rw [zf,Hv.out];simp [h1]),((Ext.refl _).alloc _).alloc _⟩
  ·have hb:((a.al:Int)==0)=false:=by simp [h0]
   go_enter Tryd.func19,Tryd.ntmps19
   go_wp2_with fail
   go_ret
   exact⟨za (by rw [zf,Hv.out];simp [h0]),((Ext.refl _).alloc _).alloc _⟩
 ·cases hb:zh a
  all_goals
   have Hb:=zb hb
   clear hb
   go_enter Tryd.func19,Tryd.ntmps19
   go_wp2_with (go_at_call 45;refine (zo _ _ _ _ _ _ _ _ _ _ (HR.out _ ?_)).mono ?_;exact (Ext.refl _).alloc _;rw [Hb.out];rintro e w2 ⟨rfl,hext2⟩;have hbox:=zH hext2)
   go_ret
   exact⟨za (by rw [zf,Hb.out];simp),((Ext.refl _).alloc _).trans hext2⟩
theorem szCertificate_any (lo hi:Nat) (A:Option Addr) (n c:Nat) (A':Option Addr) (n' c':Nat)(hd:Bool) (a:Aut) (s:ByteArray) (left:Int) (w:World)(h:zn w lo hi A n A' n' a)(hs:s.size≤9223372036854775807)(h0:0≤left)(h1:left≤1048576) :
  Calls Tryd.prog 5 #[.agg #[.bool hd,.int .i64 a.al,.slice A n c,.slice A' n' c',.string s],.int .i64 left] w fun e w'=>e=.returned (.int .i64 (leftOf left (a.size+s.size)))∧Ext w w':=by
 have hle:=zad left a.size h1
 have hsz:leftOf left (a.size+s.size)=if leftOf left a.size<0 then -1 else leftOf (leftOf left a.size) s.size:=by
  unfold leftOf;(repeat' split)<;>omega
 have Hsz:=zb hsz
 clear hsz
 have hR:=fun W (hW:Ext w W)=>h.ext hW
 have HR:=zb hR
 clear hR
 by_cases hneg:leftOf left a.size<0
 ·go_enter Tryd.func5,Tryd.ntmps5
  go_wp2_with (go_at_call 15;refine (zA _ _ _ _ _ _ _ _ _ _ _ (HR.out _ ((Ext.refl _).alloc _)) h0 h1).mono ?_;rintro e w' ⟨rfl,hx⟩)
  go_ret
  exact⟨zj (by rw [Hsz.out,if_pos hneg]),((Ext.refl _).alloc _).trans hx⟩
 ·go_enter Tryd.func5,Tryd.ntmps5
  have hpos:0≤leftOf left a.size:=by omega
  go_wp2_with (go_at_call 15;refine (zA _ _ _ _ _ _ _ _ _ _ _ (HR.out _ ((Ext.refl _).alloc _)) h0 h1).mono ?_;rintro e w' ⟨rfl,hx⟩;have hb:=zH hx)
  all_goals go_ret
  all_goals exact⟨zj (by rw [leftOf_two _ hpos];split<;>omega),((Ext.refl _).alloc _).trans hx⟩
def RetCert (w:World) (hd:Bool) (a:Aut) (s:ByteArray) (e:Ending) (w':World):Prop:=
 ∃ A n c A' n' c',e=.returned (.agg #[.bool hd,.int .i64 a.al,.slice A n c,.slice A' n' c',.string s])∧zE w' w.heap.size A n c A' n' c' a∧Ext w w'
theorem toCertificate_any (lo hi:Nat) (A:Option Addr) (n c:Nat) (A':Option Addr) (n' c':Nat)(hd:Bool) (a:Aut) (s:ByteArray) (w:World)(h:zn w lo hi A n A' n' a)(hs:a.size≤1048576) :
  Calls Tryd.prog 7 #[.agg #[.bool hd,.int .i64 a.al,.slice A n c,.slice A' n' c',.string s]] w (RetCert w hd a s):=by
 have hR:=fun W (hW:Ext w W)=>h.ext hW
 have HR:=zb hR
 clear hR
 go_enter Tryd.func7,Tryd.ntmps7
 go_wp2_with (go_at_call 18;refine (zaj _ _ _ _ _ _ _ _ _ _ (HR.out _ ?_) hs).mono ?_;exact (((Ext.refl _).alloc _).alloc _).alloc _;rintro e w2 ⟨B,m,d,B',m',d',rfl,zaJ,hext2⟩;obtain⟨b1,b2,b3⟩:=ext_blk3 hext2;have c1:=b1.cell;have c2:=b2.cell;have c3:=b3.cell;have f2:=b2.frozen;have f3:=b3.frozen;have hx2:=((((Ext.refl w).alloc _).alloc _).alloc _).trans hext2)
 have z2:=hext2.size
 simp only [World.size_alloc] at z2 zaJ
 refine bodyPost_ret (v:=.agg #[.bool hd,.int .i64 a.al,.slice B m d,.slice B' m' d',.string s]) (by simp [results,Tryd.results7,go_sem,c2]) rfl ⟨_,_,_,_,_,_,rfl,?_,?_⟩
 ·refine (zaJ.keep (S:=fun k=>k<w.heap.size+3) ?_ (by intro b hb;omega)).less (by omega)
  iterate 9 refine Frm.cell ?_ (by dsimp only;omega) _
  exact Frm.refl _ _
 ·iterate 9 refine Ext.setCell ?_ (by dsimp only;omega) _
  exact hx2
def certEq (hd:Bool) (a:Aut) (s:ByteArray) (hd':Bool) (b:Aut) (s':ByteArray):Bool:=(hd==hd')&&(autEq a b&&s.toList==s'.toList)
theorem eqCertificate_any (lo hi lo' hi':Nat) (A:Option Addr) (n c:Nat) (A':Option Addr) (n' c':Nat)(hd:Bool) (s:ByteArray) (B:Option Addr) (m d:Nat) (B':Option Addr) (m' d':Nat)(hd':Bool) (s':ByteArray) (a b:Aut) (w:World)
  (h:zn w lo hi A n A' n' a) (h':zn w lo' hi' B m B' m' b) :
  Calls Tryd.prog 9 #[.agg #[.bool hd,.int .i64 a.al,.slice A n c,.slice A' n' c',.string s],.agg #[.bool hd',.int .i64 b.al,.slice B m d,.slice B' m' d',.string s']] w fun e w'=>e=.returned (.bool (certEq hd a s hd' b s'))∧Ext w w':=by
 have hR:=fun W (hW:Ext w W)=>h.ext hW
 have HR:=zb hR
 have hR':=fun W (hW:Ext w W)=>h'.ext hW
 have HR':=zb hR'
 clear hR hR'
 cases h0:hd==hd'
 ·go_enter Tryd.func9,Tryd.ntmps9
  go_wp2
  go_ret
  exact⟨za (by rw [certEq,h0];simp),((Ext.refl _).alloc _).alloc _⟩
 ·cases h1:autEq a b
  all_goals
   have H1:=zb h1
   clear h1
   go_enter Tryd.func9,Tryd.ntmps9
   go_wp2_with (go_at_call 22;refine (zY _ _ _ _ _ _ _ _ _ _ _ _ _ _ _ _ _ _ _ (HR.out _ ?_) (HR'.out _ ?_)).mono ?_;exact ((Ext.refl _).alloc _).alloc _;exact ((Ext.refl _).alloc _).alloc _;rw [H1.out];rintro e w2 ⟨rfl,hext2⟩;obtain⟨b1,b2⟩:=zV hext2;have c1:=b1.cell;have c2:=b2.cell)
   all_goals go_ret
   all_goals exact⟨za (by rw [certEq,H1.out,h0];simp_all),(((Ext.refl _).alloc _).alloc _).trans hext2⟩
def strs (l:List ByteArray):List Value:=l.map Value.string
def rel (R:List Nat) (i j:Nat):Prop:=i<R.length∧(R.getD i 0).testBit j=true
def succ (es:List Edg) (i l:Int):Nat:=es.foldl (fun m e=>if e.fr=i∧e.le=l then m|||2 ^ e.ta.toNat else m) 0
theorem zae {a n k:Nat}:k∈zc a n↔k<n∧a.testBit k=true:=by simp [zc]
theorem Reads.nat {w:World} {lo hi n k:Nat} {A:Option Addr} {l:List Nat}(h:Reads w lo hi 1 A n (nats l))(hk:k<n):∃ ad x,A=some ad∧lo≤ad.block∧ad.block<hi∧Hid (l[k]?=some x)∧w.cell? (ad.add k)=some (.int .i64 (x:Nat)):=by
 have e:nats l=ints (l.map fun n:Nat=>(n:Int)):=by simp [nats,ints]
 rw [e] at h
 obtain⟨ad,x,ha,hl,hh,hx,hc⟩:=h.int hk
 have hx':=hx.out
 rw [List.getElem?_map] at hx'
 cases hq:l[k]? with
 |none=>rw [hq] at hx';simp at hx'
 |some q =>
  rw [hq] at hx'
  simp at hx'
  exact⟨ad,q,ha,hl,hh,rfl,by rw [hc,hx']⟩
theorem conv_one (w:World) (x:Int):(convert 36 9 (.slice (some ⟨w.heap.size,0,none⟩) 1 1)).run Tryd.prog (w.alloc (.cells #[.int .u8 x] 5))=.ok (.string (strOfNums [x])) (w.alloc (.cells #[.int .u8 x] 5)):=
 run_convert_bytes_arg _ _ 5 Tryd.underlying36 Tryd.underlying5 w.heap.size 0 1 1 [x] rfl (fun i hi=>by
  obtain rfl:i=0:=by omega
  rw [(Blk.new w 5 #[.int .u8 x]).cell];rfl) _ Tryd.underlying9
theorem size_one (x:Int):(strOfNums [x]).size=1:=by simp [strOfNums];rfl
theorem info_str:(Tryd.prog.info? 9).map (fun i=>(i.zero,i.size,i.bytes))=some (some (.string ⟨#[]⟩),1,16):=by kernel_rfl
theorem zS {a:Aut}(h:zh a=true):∃ al:Nat,a.al=al∧al<64∧1≤a.next.length∧a.next.length≤12∧a.acc.length=a.next.length∧∀ l∈a.next,l.length=(zc al 6).length∧∀ q∈l,0≤q∧q<a.next.length:=by
 simp only [zh,Bool.and_eq_true,decide_eq_true_eq,List.all_eq_true,rowB] at h
 obtain⟨h1,h2,h3,h4⟩:=h
 refine⟨a.al.toNat,by omega,by omega,h2.1,h2.2,h3,fun l hl=>⟨(h4 l hl).1,fun q hq=>(h4 l hl).2 q hq⟩⟩
def keyL (f:Nat→List UInt8) (x:Nat) (r:List Nat):List UInt8:=f x++r.flatMap fun y=>44 :: f y
section
variable {f:Nat→List UInt8} {B:Nat}
theorem keyL_snoc (x:Nat) (r:List Nat) (y:Nat):keyL f x (r++[y])=keyL f x r++(44 :: f y):=by
 unfold keyL
 rw [List.flatMap_append,List.append_assoc]
 simp
end
theorem dig_len {x:Nat}(h:x<100):(Lib.decDigits x).length≤2:=by
 by_cases h1:x<10
 ·rw [Lib.decDigits_one h1];simp
 ·rw [Lib.decDigits_two h1 h];simp
def zJ:List Nat→List UInt8
 |[]=>[]
 |x :: r=>keyL Lib.decDigits x r
def rowX (b:Bool) (r:List Int):List UInt8:=(if b then 43 else 45) :: zJ (r.map Int.toNat)
def alX (al:Nat):List UInt8:=if al=0 then [45] else (zc al 6).map fun l=>UInt8.ofNat (97+l)
def zr (a:Aut):List (List UInt8):=(a.next.zip a.acc).map fun p=>rowX p.2 p.1
def txtA (a:Aut):List UInt8:=if zh a then alX a.al.toNat++(zr a).flatMap (32 :: ·) else []
def RowS (r:List Int):Prop:=∀ q∈r,0≤q∧q<100
theorem RowS.nat {r:List Int}(h:RowS r):∀ x∈r.map Int.toNat,x<100:=fun x hx=>by
 obtain⟨q,hq,rfl⟩:=List.mem_map.1 hx
 have:=h q hq
 omega
theorem al_ne {al:Nat}(h:al<64):alX al≠[]:=by
 have:∀ al<64,alX al≠[]:=by decide +kernel
 exact this al h
theorem zL {a:Aut}(h:zh a=true):0≤a.al∧a.al.toNat<64∧a.next.length=a.acc.length∧a.next.length≤12∧1≤a.next.length∧∀ r∈a.next,RowS r∧r.length≤6:=by
 simp only [zh,Bool.and_eq_true,decide_eq_true_eq,List.all_eq_true,rowB] at h
 obtain⟨h1,h2,h3,h4⟩:=h
 refine⟨h1.1,by omega,h3.symm,h2.2,h2.1,fun r hr=>⟨fun q hq=>?_,?_⟩⟩
 ·have:=(h4 r hr).2 q hq
  omega
 ·have:=(h4 r hr).1
  have:=zd a.al.toNat 6
  omega
def holdsX:List UInt8:=[104,111,108,100,115,32]
def failsX:List UInt8:=[102,97,105,108,115,32]
def wordX (x:ByteArray):List UInt8:=if x.toList.isEmpty then [45] else x.data.toList
def txtC (hd:Bool) (a:Aut) (x:ByteArray):List UInt8:=if zf hd a x then (if hd then holdsX++txtA a else failsX++wordX x) else []
def zav (L:List UInt8) (w:World) (e:Ending) (w':World):Prop:=∃ t:ByteArray,e=.returned (.string t)∧Hid (t.data.toList=L)∧Ext w w'
theorem zK {t:ByteArray} {L:List UInt8}(h:t.data.toList=L):t.size=L.length:=by
 rw [← h,Array.length_toList]
 rfl
theorem zt {t u:ByteArray} {L M:List UInt8}(h:t.data.toList=L) (g:u.data.toList=M):(t++u).data.toList=L++M:=by
 rw [ByteArray.data_append,Array.toList_append,h,g]
theorem tx_eq {t u:ByteArray}(h:t.data.toList=u.data.toList):t=u:=by
 cases t
 cases u
 exact congrArg ByteArray.mk (Array.toList_inj.1 h)
theorem tx_num (x:Nat):(strOfNums [(x:Int)]).data.toList=[UInt8.ofNat x]:=by simp [strOfNums]
theorem spec_l1TextX {l:Nat} {w:World}(h1:l<6):Calls Tryd.prog 78 #[.int .i64 l] w (zav [UInt8.ofNat (97+l)] w):=by
 have hc:=conv_one w
 have hw:IntKind.u8.wrap (97+(l:Int))=((97+l:Nat):Int):=by rw [IntKind.wrap_u8];omega
 go_enter Tryd.func78,Tryd.ntmps78
 go_wp2
 go_ret
 exact⟨_,rfl,zb (by first|exact tx_num _|(rw [hw];exact tx_num _)),(Ext.refl _).alloc _⟩
theorem alX_take {ls:List Nat} {k l:Nat}(h:ls[k]?=some l):(ls.take (k+1)).map (fun l=>UInt8.ofNat (97+l))=(ls.take k).map (fun l=>UInt8.ofNat (97+l))++[UInt8.ofNat (97+l)]:=by
 rw [List.take_add_one,h,List.map_append]
 rfl
theorem zD {a:Nat} {w:World}(ha:a<64) :
  Calls Tryd.prog 41 #[.int .i64 a] w (zav (alX a) w):=by
 have hsm:Sm a:=by unfold Sm;omega
 have hd:=zb (show decide (0≤(a:Int)∧(a:Int)≤63)=true by simp;omega)
 by_cases h0:a=0
 ·subst h0
  rw [show ((0:Nat):Int)=0 from rfl]
  have hd0:=zb (show decide ((0:Int)≤0∧(0:Int)≤63)=true by decide)
  go_enter Tryd.func41,Tryd.ntmps41
  go_wp2_with (go_at_call 74;refine (zi _ _).mono ?_;rw [hd0.out];rintro e w' ⟨rfl,rfl⟩)
  go_ret
  exact⟨_,rfl,zb rfl,Ext.refl _⟩
 ·have h0':((a:Int)==0)=false:=by simp;omega
  have hal:=zb (show alX a=(zc a 6).map (fun l=>UInt8.ofNat (97+l)) by unfold alX;rw [if_neg h0])
  go_enter Tryd.func41,Tryd.ntmps41
  go_wp2_with fail
  refine (zi _ _).mono ?_
  rw [hd.out]
  rintro e w' ⟨rfl,rfl⟩
  go_wp2_with fail
  refine (zq a hsm _).mono ?_
  rintro e w1 ⟨B,d,rfl,zaI,hx1⟩
  have hl6:=zd a 6
  have hlm:=zb (fun k (hk:k∈zc a 6)=>(zae.1 hk).1)
  have hrd:=Reads.of_own zaI
  clear zaI
  generalize zc a 6=ls at *
  go_wp2_with fail
  go_loopw [3,5] (fun v i wr=>∃ k:Nat,k≤ls.length∧i=.int .i64 k∧∃ s:ByteArray,v=.string s∧s.size≤k∧Hid (s.data.toList=(ls.take k).map (fun l=>UInt8.ofNat (97+l)))∧Ext w1 wr) (fun _ i _=>ls.length - (intOf i).toNat)
  case atStart=>exact⟨0,Nat.zero_le _,rfl,_,rfl,Nat.le_refl _,zb rfl,Ext.refl _⟩
  case round =>
   obtain⟨k,hk,rfl,s,rfl,hs,hst0,zaG⟩:=hrel
   by_cases hlt:k<ls.length
   ·obtain⟨ad,l,rfl,_,_,hl,hlc⟩:=(hrd.ext zaG).nat hlt
    have hl6':=hlm.out l (List.mem_of_getElem? hl.out)
    go_wp2_with fail
    refine (spec_l1TextX (l:=l) (by omega)).mono ?_
    rintro e w2 ⟨t,rfl,ht,hx2⟩
    have ht1:t.size=1:=zK ht.out
    have hst:s.size+t.size≤7:=by omega
    go_wp2_with fail
    go_roundw
    case rel=>exact⟨k+1,by omega,by go_num,_,rfl,by rw [ByteArray.size_append];omega,zb (by rw [alX_take hl.out];exact zt hst0.out ht.out),zaG.trans hx2⟩
    case measure=>simp [intOf];omega
   ·obtain rfl:k=ls.length:=by omega
    go_wp2_with fail
    go_ret
    exact⟨s,rfl,zb (by rw [hst0.out,hal.out,List.take_length]),hx1.trans zaG⟩
theorem spec_l19DecX {n:Nat} {w:World}(hn:n<100) :
  Calls Tryd.prog 42 #[.int .i64 n] w (zav (Lib.decDigits n) w):=by
 have hn1:(n:Int)<100:=by omega
 have Hn:=zb hn
 go_enter Tryd.func42,Tryd.ntmps42
 go_wp2_with fail
 go_loopw [0,3] (fun n' v wr=>∃ (m:Nat) (s:ByteArray),n'=.int .i64 m∧v=.string s∧(m<100∧s.size=0∨m<10∧s.size≤1)∧Hid (m=n∧s.data.toList=[]∨9<n∧m=n / 10∧s.data.toList=[UInt8.ofNat (48+n % 10)])∧Ext w wr) (fun n' _ _=>(intOf n').toNat)
 case atStart=>exact⟨n,_,rfl,rfl,Or.inl ⟨hn,rfl⟩,zb (Or.inl ⟨rfl,rfl⟩),Ext.refl _⟩
 case round =>
  obtain⟨m,s,rfl,rfl,hms,hmn,zaG⟩:=hrel
  have hm100:m<100:=by omega
  have hc:=conv_one wr
  have hso:=size_one
  by_cases hlt:9<m
  ·have hs0:s.size=0:=by omega
   have hdiv:=zb (Int.natCast_ediv m 10)
   have hm9:(9:Int)<(m:Int):=by omega
   have hs1:s.size≤1:=by omega
   have Hs0:=zb hs0
   have hmn2:Hid (m=n∧s.data.toList=[]):=zb (by
    rcases hmn.out with h|⟨h1,h2,-⟩
    ·exact h
    ·have:=Hn.out
     omega)
   clear hms hs0 hmn
   have hw:IntKind.u8.wrap (48+(m:Int) % 10)=((48+m % 10:Nat):Int):=by rw [IntKind.wrap_u8];omega
   go_wp2_with fail
   go_roundw
   case rel=>exact⟨m / 10,_,by rw [hdiv.out];rfl,rfl,Or.inr ⟨by omega,by rw [ByteArray.size_append,size_one,Hs0.out];omega⟩,zb (Or.inr ⟨by have:=hmn2.out.1;omega,by rw [hmn2.out.1],by
    rw [← hmn2.out.1]
    refine (zt (L:=[UInt8.ofNat (48+m % 10)]) ?_ hmn2.out.2).trans (List.append_nil _)
    first|exact tx_num _|(rw [hw];exact tx_num _)⟩),zaG.alloc _⟩
   case measure=>simp [intOf];omega
  ·have hm9:(m:Int)≤9:=by omega
   have hs1:s.size≤1:=by omega
   clear hms
   have hw:IntKind.u8.wrap (48+(m:Int))=((48+m:Nat):Int):=by rw [IntKind.wrap_u8];omega
   have Hlt:=zb (show m<10 by omega)
   go_wp2_with fail
   go_ret
   refine⟨_,rfl,zb ?_,zaG.alloc _⟩
   have h1:∀ (M:List UInt8),s.data.toList=M→((strOfNums [((48+m:Nat):Int)])++s).data.toList=UInt8.ofNat (48+m) :: M:=fun M h=>zt (tx_num _) h
   have h2:((strOfNums [((48+m:Nat):Int)])++s).data.toList=Lib.decDigits n:=by
    rcases hmn.out with ⟨rfl,h⟩|⟨g1,rfl,h⟩
    ·rw [h1 _ h,Lib.decDigits_one Hlt.out]
    ·rw [h1 _ h,Lib.decDigits_two (by omega) Hn.out]
   first|exact h2|(rw [hw];exact h2)
theorem joinX_take {r:List Nat} {j x:Nat}(h:r[j]?=some x):zJ (r.take (j+1))=zJ (r.take j)++(if 0<j then [44] else [])++Lib.decDigits x:=by
 cases r with
 |nil=>simp at h
 |cons y r =>
  cases j with
  |zero =>
   simp only [List.getElem?_cons_zero,Option.some.injEq] at h
   subst h
   simp [zJ,keyL]
  |succ j =>
   simp only [List.getElem?_cons_succ] at h
   rw [List.take_succ_cons,List.take_succ_cons,List.take_add_one,h]
   show keyL _ _ (r.take j++[x])=keyL _ _ _++_++_
   rw [keyL_snoc]
   simp
theorem zap {a:Aut} {k:Nat} {l:List Int} {b:Bool}(hl:a.next[k]?=some l)(hb:a.acc[k]?=some b):((zr a).take (k+1)).flatMap (32 :: ·)=((zr a).take k).flatMap (32 :: ·)++32 :: rowX b l:=by
 have h:(zr a)[k]?=some (rowX b l):=by
  unfold zr
  rw [List.getElem?_map,(List.getElem?_zip_eq_some (z:=(l,b))).2 ⟨hl,hb⟩]
  rfl
 rw [List.take_add_one,h,List.flatMap_append]
 simp
theorem zz {lo hi:Nat} {A:Option Addr} {n c:Nat} {A':Option Addr} {n' c':Nat} {a:Aut} {w:World}(h:zn w lo hi A n A' n' a) :
  Calls Tryd.prog 17 #[.agg #[.int .i64 a.al,.slice A n c,.slice A' n' c']] w (zav (txtA a) w):=by
 have HV:=zb (fun W (hW:Ext w W)=>zp lo hi A n c A' n' c' a W ⟨h.1.ext hW,h.2.1,h.2.2.ext hW⟩)
 cases h1:zh a
 ·have H1:=zb h1
  have HX:=zb (show txtA a=[] by unfold txtA;rw [h1];rfl)
  clear h1 h
  go_enter Tryd.func17,Tryd.ntmps17
  go_wp2_with (go_at_call 38;refine (HV.out _ ((Ext.refl _).alloc _)).mono ?_;rw [H1.out];rintro e w1 ⟨rfl,hx⟩)
  go_ret
  exact⟨_,rfl,zb HX.out.symm,((Ext.refl _).alloc _).trans hx⟩
 ·have HX:=zb (show txtA a=alX a.al.toNat++(zr a).flatMap (32 :: ·) by unfold txtA;rw [h1];rfl)
  have Hsm:=zb (zL h1)
  obtain⟨al,ha,ha2,hn1,hn2,hac,hrows⟩:=zS h1
  have H1:=zb h1
  have Hn:=zb h.n1
  have Hn':=zb h.n2
  have Ha:=zb ha
  have Hrows:=zb hrows
  have HS:=zb (fun W (hW:Ext w W)=>h.1.ext hW)
  have HB:=zb (fun W (hW:Ext w W)=>h.2.2.ext hW)
  have e1:n=n':=by have:=h.n1;have:=h.n2;omega
  subst e1
  have hnn:n≤12:=by have:=h.n1;omega
  clear h1 ha hn1 hn2 hac hrows h
  go_enter Tryd.func17,Tryd.ntmps17
  go_wp2_with fail
  refine (HV.out _ ((Ext.refl _).alloc _)).mono ?_
  rw [H1.out]
  rintro e w1 ⟨rfl,hx⟩
  have b1:=zm hx
  rw [Ha.out] at b1
  have hw1:=((Ext.refl w).alloc _).trans hx
  have cb:=b1.cells
  have hr1:=Ext.refl w1
  clear hx
  go_wp2_with fail
  refine (zD ha2).mono ?_
  rintro e w2 ⟨t2,rfl,ht2,hx2⟩
  have hts:t2.size≤6:=by
   rw [zK ht2.out]
   unfold alX
   split
   ·simp
   ·rw [List.length_map]
    exact zd al 6
  have hat:al=a.al.toNat:=by have:=Ha.out;omega
  rw [hat] at ht2
  clear hat
  go_wp2_with fail
  go_loopw [3,4] (fun v i wr=>∃ (k:Nat) (t:ByteArray),k≤n∧i=.int .i64 k∧v=.string t∧t.size≤20+100*k∧Hid (t.data.toList=alX a.al.toNat++((zr a).take k).flatMap (32 :: ·))∧Ext w1 wr) (fun _ i _=>n - (intOf i).toNat)
  case atStart=>exact⟨0,t2,Nat.zero_le _,rfl,rfl,by omega,zb (by rw [ht2.out];simp),hx2⟩
  case round =>
   clear hx2 ht2 hr1 hts
   obtain⟨k,t,hk,rfl,rfl,ht,htx,zaG⟩:=hrel
   have cb0:=cb wr zaG
   by_cases hlt:k<n
   ·obtain⟨ad,Ak,ck,l,rfl,_,_,hl,hc0,hrk⟩:=(HS.out wr (hw1.trans zaG)).row hlt
    obtain⟨ad',x,rfl,_,_,hbx,hb0⟩:=(HB.out wr (hw1.trans zaG)).bool hlt
    have hq:=zb (Hrows.out l (List.mem_of_getElem? hl.out))
    have hl6:l.length≤6:=by have:=hq.out.1;have:=zd al 6;omega
    have Hrk:=zb (fun W (hW:Ext wr W)=>hrk.ext hW)
    have Hcr:=zb (fun W (hW:Ext wr W)=>hW.cell_some hc0)
    have Hcb:=zb (fun W (hW:Ext wr W)=>cb W (zaG.trans hW))
    have Htk:=zb (zap hl.out hbx.out)
    have hww:=Ext.refl wr
    clear hrk
    go_upto_if 24 with fail
    go_cut [5] (fun s5 wx=>∃ m:ByteArray,s5=.string m∧m.size=2∧Hid (m.data.toList=[32,if x then 43 else 45])∧Ext wr wx)
    case first =>
     cases x
     ·go_wp2_with fail
      go_meet
      exact⟨{ data:=#[32,45] },rfl,rfl,zb rfl,hww⟩
     ·go_wp2_with fail
      go_meet
      exact⟨{ data:=#[32,43] },rfl,rfl,zb rfl,hww⟩
    case rest =>
     clear hc0 hb0 cb0 hww
     obtain⟨m,rfl,hm2,hmx,hwc⟩:=hcut
     obtain⟨wK,hwK⟩:∃ wK,wK=wr:=⟨_,rfl⟩
     rw [← hwK] at Hrk Hcr Hcb hwc zaG
     clear hwK
     have q0:¬ 9223372036854775807<t.size+m.size:=by omega
     have hsz:(t++m).size=t.size+2:=by rw [ByteArray.size_append,hm2]
     have htm:=zb (zt htx.out hmx.out)
     go_upto_region 11 with fail
     generalize t++m=t1 at *
     clear q0
     go_wp2_with fail
     go_loopw [3,6] (fun v jv wr=>∃ (j:Nat) (t:ByteArray),j≤l.length∧jv=.int .i64 j∧v=.string t∧t.size≤22+100*k+10*j∧Hid (t.data.toList=(alX a.al.toNat++((zr a).take k).flatMap (32 :: ·)++[32,if x then 43 else 45])++zJ ((l.map Int.toNat).take j))∧Ext wK wr) (fun _ jv _=>l.length - (intOf jv).toNat)
     case atStart=>exact⟨0,t1,Nat.zero_le _,rfl,rfl,by omega,zb (by rw [htm.out];simp [zJ]),hwc⟩
     case round =>
      clear hwc
      obtain⟨j,t2,hj,rfl,rfl,ht2,htx2,hwx⟩:=hrel
      have cb0:=Hcb.out wr hwx
      have hc0:=Hcr.out wr hwx
      by_cases hjl:j<l.length
      ·obtain⟨ad2,q,rfl,-,-,hql,hcq⟩:=(Hrk.out wr hwx).int hjl
       obtain⟨hq0,hq1⟩:=hq.out.2 q (List.mem_of_getElem? hql.out)
       obtain⟨u,rfl⟩:∃ u:Nat,q=u:=⟨q.toNat,by omega⟩
       have hu:u<100:=by have:=Hn.out;omega
       have Hjt:=zb (joinX_take (r:=l.map Int.toNat) (j:=j) (x:=u) (by rw [List.getElem?_map,hql.out];rfl))
       clear hq0 hq1
       go_upto_if 39 with fail
       go_cut [3] (fun s3 wx=>∃ m:ByteArray,s3=.string m∧m.size≤t2.size+1∧Hid (m.data.toList=t2.data.toList++(if 0<j then [44] else []))∧wx=wr)
       case first =>
        by_cases hj0:0<j
        ·have hj0':((j:Int)>0):=by omega
         have q1:¬ 9223372036854775807<t2.size+1:=by omega
         go_wp2_with fail
         go_meet
         exact⟨_,rfl,by rw [ByteArray.size_append];exact Nat.le_refl _,zb (by rw [if_pos hj0];exact zt rfl rfl),rfl⟩
        ·have hj0':¬ ((j:Int)>0):=by omega
         go_wp2_with fail
         go_meet
         exact⟨t2,rfl,by omega,zb (by rw [if_neg hj0,List.append_nil]),rfl⟩
       case rest =>
        obtain⟨m3,rfl,hm3,hmx3,rfl⟩:=hcut
        go_wp2_with fail
        refine (spec_l19DecX (n:=u) hu).mono ?_
        rintro e w4 ⟨t4,rfl,ht4,hx4⟩
        have ht42:t4.size≤2:=by rw [zK ht4.out];exact dig_len hu
        have q2:¬ 9223372036854775807<m3.size+t4.size:=by omega
        go_wp2_with fail
        go_roundw
        case rel=>exact⟨j+1,_,by omega,by go_num,rfl,by rw [ByteArray.size_append];omega,zb (by rw [zt hmx3.out ht4.out,htx2.out,Hjt.out];simp only [List.append_assoc]),hwx.trans hx4⟩
        case measure=>simp [intOf];omega
      ·obtain rfl:j=l.length:=by omega
       go_wp2_with fail
       go_roundw
       case rel=>exact⟨k+1,t2,by omega,by go_num,rfl,by omega,zb (by
        have e:(l.map Int.toNat).take l.length=l.map Int.toNat:=List.take_of_length_le (by simp)
        rw [htx2.out,Htk.out,e]
        unfold rowX
        simp),zaG.trans hwx⟩
       case measure=>simp [intOf];omega
   ·obtain rfl:n=k:=by omega
    go_wp2_with fail
    go_ret
    exact⟨t,rfl,zb (by
     rw [htx.out,HX.out,List.take_of_length_le]
     unfold zr
     rw [List.length_map,List.length_zip]
     have:=Hn.out
     omega),hw1.trans zaG⟩
theorem zaw {α β:Type} {f:α→List β} {k:Nat}:∀ {l:List α},(∀ x∈l,(f x).length≤k)→(l.flatMap f).length≤l.length*k
 |[],_=>by simp
 |x :: l,h=>by
  have h1:=h x (by simp)
  have h2:=zaw (f:=f) (k:=k) (l:=l) (fun y hy=>h y (by simp [hy]))
  rw [List.flatMap_cons,List.length_append,List.length_cons,Nat.succ_mul]
  omega
theorem alX_len (al:Nat):(alX al).length≤6:=by
 unfold alX
 split
 ·simp
 ·rw [List.length_map]
  exact zd al 6
theorem zab {r:List Nat}(hr:∀ x∈r,x<100):(zJ r).length≤3*r.length:=by
 cases r with
 |nil=>simp [zJ]
 |cons x r =>
  have h1:=dig_len (hr x (by simp))
  have h2:=zaw (f:=fun y=>44 :: Lib.decDigits y) (k:=3) (l:=r) (fun y hy=>by
   have:=dig_len (hr y (by simp [hy]))
   simp only [List.length_cons]
   omega)
  unfold zJ keyL
  rw [List.length_append,List.length_cons]
  omega
theorem row_len {b:Bool} {r:List Int}(hr:RowS r)(h6:r.length≤6):(rowX b r).length≤19:=by
 have:=zab hr.nat
 rw [List.length_map] at this
 unfold rowX
 rw [List.length_cons]
 omega
theorem txtA_len (a:Aut):(txtA a).length≤300:=by
 unfold txtA
 split
 ·rename_i h
  obtain⟨-,-,h2,h3,-,h5⟩:=zL h
  have h1:=alX_len a.al.toNat
  have h4:=zaw (f:=fun x=>(32:UInt8) :: x) (k:=20) (l:=zr a) (fun x hx=>by
   obtain⟨p,hp,rfl⟩:=List.mem_map.1 hx
   have h6:=h5 p.1 (List.of_mem_zip hp).1
   have:=row_len (b:=p.2) h6.1 h6.2
   simp only [List.length_cons]
   omega)
  have h6:(zr a).length≤12:=by
   unfold zr
   rw [List.length_map,List.length_zip]
   omega
  have:(zr a).length*20≤12*20:=Nat.mul_le_mul_right 20 h6
  rw [List.length_append]
  omega
 ·simp
theorem txtC_no {hd:Bool} {a:Aut} {s:ByteArray}(h:zf hd a s=false):txtC hd a s=[]:=by
 unfold txtC
 rw [h]
 rfl
theorem txtC_holds {a:Aut} {s:ByteArray}(h:zf true a s=true):txtC true a s=holdsX++txtA a:=by
 unfold txtC
 rw [if_pos h]
 rfl
theorem zas {a:Aut} {s:ByteArray}(h:zf false a s=true):txtC false a s=failsX++wordX s:=by
 unfold txtC
 rw [if_pos h]
 rfl
theorem zat {s:ByteArray}(h:s.toList.isEmpty=true):wordX s=[45]:=by
 unfold wordX
 rw [h]
 rfl
theorem zau {s:ByteArray}(h:s.toList.isEmpty=false):wordX s=s.data.toList:=by
 unfold wordX
 rw [h]
 rfl
theorem zaD {lo hi:Nat} {A:Option Addr} {n c:Nat} {A':Option Addr} {n' c':Nat} {hd:Bool} {a:Aut} {s:ByteArray} {w:World}(h:zn w lo hi A n A' n' a)(hs:s.size≤2000000) :
  Calls Tryd.prog 6 #[.agg #[.bool hd,.int .i64 a.al,.slice A n c,.slice A' n' c',.string s]] w (zav (txtC hd a s) w):=by
 have HV:=zb (fun W (hW:Ext w W)=>zy _ _ _ _ c _ _ c' hd _ s W (h.ext hW) (by omega))
 have HF:=zb (fun W (hW:Ext w W)=>zz (c:=c) (c':=c') (h.ext hW))
 have Hl:=zb (txtA_len a)
 cases hv:zf hd a s
 ·rw [hv] at HV
  have H0:=zb (txtC_no hv)
  clear h hv
  go_enter Tryd.func6,Tryd.ntmps6
  go_wp2_with (go_at_call 16;refine (HV.out _ ((Ext.refl _).alloc _)).mono ?_;rintro e w1 ⟨rfl,hx⟩)
  go_ret
  exact⟨_,rfl,zb H0.out.symm,((Ext.refl _).alloc _).trans hx⟩
 ·rw [hv] at HV
  cases hd
  ·have H0:=zb (zas hv)
   clear h hv
   cases he:s.toList.isEmpty
   ·rw [zau he] at H0
    have q0:¬ 9223372036854775807<6+s.size:=by omega
    go_enter Tryd.func6,Tryd.ntmps6
    go_wp2_with fail
    refine (HV.out _ ((Ext.refl _).alloc _)).mono ?_
    rintro e w1 ⟨rfl,hx⟩
    have b1:=zm hx
    have cb:=b1.cell
    have hw1:=((Ext.refl w).alloc _).trans hx
    go_wp2_with fail
    go_ret
    exact⟨_,rfl,zb (by rw [H0.out];exact zt rfl rfl),hw1⟩
   ·rw [zat he] at H0
    go_enter Tryd.func6,Tryd.ntmps6
    go_wp2_with fail
    refine (HV.out _ ((Ext.refl _).alloc _)).mono ?_
    rintro e w1 ⟨rfl,hx⟩
    have b1:=zm hx
    have cb:=b1.cell
    have hw1:=((Ext.refl w).alloc _).trans hx
    go_wp2_with fail
    go_ret
    exact⟨_,rfl,zb (by rw [H0.out];rfl),hw1⟩
  ·have H0:=zb (txtC_holds hv)
   clear h hv
   go_enter Tryd.func6,Tryd.ntmps6
   go_wp2_with fail
   refine (HV.out _ ((Ext.refl _).alloc _)).mono ?_
   rintro e w1 ⟨rfl,hx⟩
   have b1:=zm hx
   have cb:=b1.cell
   have hw1:=((Ext.refl w).alloc _).trans hx
   go_wp2_with fail
   refine (HF.out _ hw1).mono ?_
   rintro e w2 ⟨t2,rfl,ht2,hx2⟩
   have hts:t2.size≤300:=by rw [zK ht2.out];exact Hl.out
   have q0:¬ 9223372036854775807<6+t2.size:=by omega
   go_wp2_with fail
   go_ret
   exact⟨_,rfl,zb (by rw [H0.out];exact zt rfl ht2.out),hw1.trans hx2⟩
theorem own_some' {w:World} {base:Nat} {e:TypeId} {size n c:Nat} {A:Option Addr} {xs:List Value}(h:w.ownsRow base e size (.slice A n c) n xs)(hn:0<n):∃ g,A=some ⟨g,0,none⟩∧base≤g∧g<w.heap.size:=by
 rcases h.2 with ⟨_,h0⟩|⟨g,cap,cur,hv,hg,hh,_⟩
 ·omega
 ·injection hv with h1 h2 h3
  exact⟨g,h1,hg,(Array.getElem?_eq_some_iff.1 hh).1⟩
end Go.Proofs.YtfcjhpodichpjaaDoor
