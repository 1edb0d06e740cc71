/- strings.Spli -/
import Derived.RangeFuncNested
import Derived.RangeFuncBound
import Derived.RangeFuncCalls
import Derived.RangeFuncLeaves
import Derived.Shelf.Abstract
import Derived.Shelf.RegionOpen
import Derived.WalkKit
import Derived.OwnWalkIn
import Derived.TacticsInMore
import Derived.LoopNIn
import Derived.LoopIn
import Derived.Test.YtfcjhpodichpjaaGreatDoorU11
import Derived.Test.YtfcjhpodichpjaaGreatDoorU01
import Derived.Test.YtfcjhpodichpjaaGreatDoorU02
import Derived.Maps.AppendAt
import Derived.RangeFuncBox
import Derived.Deep.DeepCutAuto
import Derived.Deep.CutBlock
set_option maxHeartbeats 4000000
set_option maxRecDepth 100000
namespace Go.Proofs.YtfcjhpodichpjaaGreatDoor
open Go Go.RowKit Go.Shelf
attribute [local go_sem] Oper.semAt_some
def PcS (s:ByteArray) (xs:List ByteArray):Prop:=xs.map (fun x=>x.data.toList)=zbh 44 s.data.toList
def PcP (s:ByteArray) (xs:List ByteArray):Prop:=xs.map (fun x=>x.data.toList) <+: zbh 44 s.data.toList
theorem pc_hit {s y z r:ByteArray} {pre:List ByteArray} {u v:List UInt8}(h:pre.map (fun x=>x.data.toList)++zbh 44 y.data.toList=zbh 44 s.data.toList)(hy:y.data.toList=u++44 :: v)(hu:(44:UInt8)∉u)(hz:z.data.toList=u)(hr:r.data.toList=v) :
  PcP s (pre++[z])∧(pre++[z]).map (fun x=>x.data.toList)++zbh 44 r.data.toList=zbh 44 s.data.toList:=by
 rw [hy,zee hu] at h
 have e:(pre++[z]).map (fun x=>x.data.toList)++zbh 44 r.data.toList=zbh 44 s.data.toList:=by
  rw [← h,hr]
  simp [hz]
 exact⟨⟨_,e⟩,e⟩
theorem pc_last {s y:ByteArray} {pre:List ByteArray}(h:pre.map (fun x=>x.data.toList)++zbh 44 y.data.toList=zbh 44 s.data.toList)(hy:(44:UInt8)∉y.data.toList):PcS s (pre++[y]):=by
 rw [zcL hy] at h
 unfold PcS
 rw [← h]
 simp
theorem PcS.p {s:ByteArray} {xs:List ByteArray}(h:PcS s xs):PcP s xs:=by
 unfold PcS at h
 unfold PcP
 rw [h]
 exact List.prefix_refl _
theorem Below.blk {n k:Nat} {w w':World} {t:TypeId} {cs:Array Value}(h:Below n w w')(hk:k<n)(hb:Blk w k t cs):Blk w' k t cs:=(h.block k hk).trans hb
def KpS (b:Nat) (W W':World):Prop:=∀ k,b≤k→k<b+3→W'.heap[k]?=W.heap[k]?
theorem KpS.blk {b k:Nat} {w w':World} {t:TypeId} {cs:Array Value}(h:KpS b w w')(h1:b≤k)(h2:k<b+3)(hb:Blk w k t cs):Blk w' k t cs:=(h k h1 h2).trans hb
theorem KpS.trans {b:Nat} {u v w:World}(h:KpS b u v) (g:KpS b v w):KpS b u w:=fun k h1 h2=>(g k h1 h2).trans (h k h1 h2)
theorem KpS.put {b k:Nat} {W:World} {o:Obj}(hk:b+3≤k):KpS b W (W.putObj k o):=fun j h1 h2=>World.putObj_heap_other (by omega)
def leftS (b:Nat) (W:World):Nat:=match W.cell? ⟨b,0,none⟩ with
 |some (.string y)=>y.size
 |_=>0
theorem seq_in {n b l:Nat} {s:ByteArray}(hn:1≤n)(hs:s.size≤2000000) (J Jx:List ByteArray→World→Prop)(hJs:zgP b J)
  (hY:∀ pre x W1,J pre W1→PcP s (pre++[x])→YieldAt Fence.wide (n - 1) Tryz.prog l #[.string x] W1 fun e W'=>(e=.returned (.bool true)∧J (pre++[x]) W'∧KpS b W1 W')∨(e=.returned (.bool false)∧Jx (pre++[x]) W'))
  (W:World) (b0:Blk W b 9 #[.string s]) (b1:Blk W (b+1) 9 #[.string ⟨#[44]⟩]) (b2:Blk W (b+2) 3 #[.int .i64 0]) (h0:J [] W) :
  CallsIn Fence.wide n Tryz.prog 185 #[.func (.yield l) #[] #[],.pointer (some ⟨b+1,0,none⟩),.pointer (some ⟨b,0,none⟩),.pointer (some ⟨b+2,0,none⟩)] W fun e W'=>(∃ v,e=.returned v)∧((∃ xs,PcS s xs∧J xs W')∨(∃ pre,PcP s pre∧Jx pre W')):=by
 have Hs:=za hs
 clear hs
 refine callsIn_of_wp Tryz.func185 rfl trivial ?_ rfl
 simp only [Tryz.ntmps185,List.size_toArray,List.length_cons,List.length_nil,Nat.reduceAdd,Nat.reduceSub,Array.replicate_succ,Array.replicate_zero,List.push_toArray,List.append_toArray,List.nil_append,List.cons_append]
 have c1:=b1.cell
 gi_wp2
 clear c1
 gi_loopw [7,8] (fun _ _ wr=>∃ (pre:List ByteArray) (y:ByteArray),Hid (y.size≤2000000)∧Hid (Blk wr b 9 #[.string y])∧Hid (Blk wr (b+1) 9 #[.string ⟨#[44]⟩])∧Hid (Blk wr (b+2) 3 #[.int .i64 0])∧Hid (pre.map (fun x=>x.data.toList)++zbh 44 y.data.toList=zbh 44 s.data.toList)∧J pre wr) (fun _ _ wr=>leftS b wr)
 case atStart=>exact⟨[],s,Hs,za b0,za b1,za b2,za rfl,h0⟩
 case round =>
  obtain⟨pre,y,hy,e0,e1,e2,hcut,hJ⟩:=hrel
  have c0:=e0.out.cell
  have f0:=e0.out.frozen
  have c1:=e1.out.cell
  have c2:=e2.out.cell
  have hl0:=za (show leftS b wr=y.size by unfold leftS;rw [c0];rfl)
  have hys:y.size≤2000000:=hy.out
  rcases zfy 44 y.data.toList with ⟨h1,h2⟩|⟨u,v,h1,h2,h3⟩
  ·have hlast:=pc_last hcut.out h1
   have HI:=za (zgB y wr)
   rw [h2] at HI
   obtain⟨fn,tmps,assign,body,hyy,hR⟩:=hY pre y wr hJ hlast.p
   have Hl:=za hlast
   clear h1 h2 hlast
   gi_wp2_with (refine⟨trivial,?_⟩;gi_at_call 155;refine (callsIn_wide.2 HI.out).mono ?_;rintro e w' ⟨rfl,rfl⟩)
   refine hR.mono ?_
   rintro e W3 (⟨rfl,hJ3,hk3⟩|⟨rfl,hJx3⟩)
   ·gi_wp2
    go_end0
    exact⟨⟨_,rfl⟩,.inl ⟨_,Hl.out,hJ3⟩⟩
   ·gi_wp2
    go_end0
    exact⟨⟨_,rfl⟩,.inr ⟨_,Hl.out.p,hJx3⟩⟩
  ·have HI:=za (zgB y wr)
   rw [h3] at HI
   have hul:u.length<y.size:=by
    have:=congrArg List.length h1
    have e:y.data.toList.length=y.size:=rfl
    simp at this
    omega
   have hz:(y.extract 0 u.length).data.toList=u:=by rw [zbt,h1];simp
   have hr:(y.extract (u.length+1) y.size).data.toList=v:=by
    have e:y.data.toList.length=y.size:=rfl
    rw [zbt,h1,List.take_of_length_le]
    ·rw [show u++44 :: v=(u++[44])++v by simp,List.drop_left' (by simp)]
    ·rw [List.length_drop,← h1,e];omega
   obtain⟨hp,hc2⟩:=pc_hit hcut.out h1 h2 hz hr
   have hrs:=za (show (y.extract (u.length+1) y.size).size<y.size∧(y.extract (u.length+1) y.size).size≤2000000 by rw [ByteArray.size_extract];omega)
   have Hp:=za hp
   have Hc2:=za hc2
   generalize u.length=i at *
   obtain⟨fn,tmps,assign,body,hyy,hR⟩:=hY pre (y.extract 0 i) wr hJ hp
   have hi1:(i:Int)≤(y.size:Int):=by omega
   have hi2:(i:Int)+1≤(y.size:Int):=by omega
   have hi0:¬ ((i:Int)<0):=by omega
   clear h1 h2 h3 hz hr hp hc2 hcut
   gi_wp2_with (refine⟨trivial,?_⟩;gi_at_call 155;refine (callsIn_wide.2 HI.out).mono ?_;rintro e w' ⟨rfl,rfl⟩)
   refine hR.mono ?_
   rintro e W3 (⟨rfl,hJ3,hk3⟩|⟨rfl,hJx3⟩)
   ·have d0:=hk3.blk (by omega) (by omega) e0.out
    have d1:=hk3.blk (by omega) (by omega) e1.out
    have d2:=hk3.blk (by omega) (by omega) e2.out
    clear c0 f0 c1 c2
    have c0:=d0.cell
    have f0:=d0.frozen
    have c1:=d1.cell
    have hb0:=za (show Blk (W3.setCell ⟨b,0,none⟩ (.string (y.extract (i+1) y.size))) b 9 #[.string (y.extract (i+1) y.size)] by simpa using d0.set_ 0 (.string (y.extract (i+1) y.size)))
    have hb1:=za (d1.far (p:=⟨b,0,none⟩) (by simp) (.string (y.extract (i+1) y.size)))
    have hb2:=za (d2.far (p:=⟨b,0,none⟩) (by simp) (.string (y.extract (i+1) y.size)))
    have hJ4:=hJs _ _ (.string (y.extract (i+1) y.size)) hJ3
    gi_wp2
    go_roundw
    case rel=>exact⟨_,_,za hrs.out.2,hb0,hb1,hb2,Hc2,hJ4⟩
    case measure =>
     rw [hl0.out]
     unfold leftS
     rw [hb0.out.cell]
     exact hrs.out.1
   ·gi_wp2
    refine bodyPost_ret (results_none rfl _ _ _) rfl ?_
    exact⟨⟨_,rfl⟩,.inr ⟨_,Hp.out,hJx3⟩⟩
theorem seq_cell {n b:Nat} {s:ByteArray} {w:World}(hn:1≤n)(hs:s.size≤2000000) (b0:Blk w b 9 #[.string s]) (b1:Blk w (b+1) 9 #[.string ⟨#[44]⟩]) (b2:Blk w (b+2) 3 #[.int .i64 0]) :
  SeqCell Fence.wide n Tryz.prog 185 #[.pointer (some ⟨b+1,0,none⟩),.pointer (some ⟨b,0,none⟩),.pointer (some ⟨b+2,0,none⟩)] (fun x:ByteArray=>Value.string x) (KpS b) (PcS s) (PcP s) b w:=fun _ J Jx W hW _ _ hJs _ hY h0 =>
 seq_in hn hs J Jx hJs hY W (Below.blk hW b0.lt b0) (Below.blk hW b1.lt b1) (Below.blk hW b2.lt b2) h0
theorem lib_SplitSeq (s:ByteArray) (w:World):Calls Tryz.prog 115 #[.string s,.string ⟨#[44]⟩] w fun e w'=>e=.returned (.func (.func 185) #[] #[.pointer (some ⟨w.heap.size+1,0,none⟩),.pointer (some ⟨w.heap.size,0,none⟩),.pointer (some ⟨w.heap.size+2,0,none⟩)])∧w'=((w.alloc (.cells #[.string s] 9)).alloc (.cells #[.string ⟨#[44]⟩] 9)).alloc (.cells #[.int .i64 0] 3):=by
 have h1:∀ W,Calls Tryz.prog 156 #[.string s,.string ⟨#[44]⟩,.int .i64 0] W fun e w'=>e=.returned (.func (.func 185) #[] #[.pointer (some ⟨W.heap.size+1,0,none⟩),.pointer (some ⟨W.heap.size,0,none⟩),.pointer (some ⟨W.heap.size+2,0,none⟩)])∧w'=((W.alloc (.cells #[.string s] 9)).alloc (.cells #[.string ⟨#[44]⟩] 9)).alloc (.cells #[.int .i64 0] 3):=fun W=>by
  go_enter Tryz.func156,Tryz.ntmps156
  go_wp2
  go_ret
  exact⟨rfl,rfl⟩
 go_enter Tryz.func115,Tryz.ntmps115
 go_wp2_with (go_at_call 156;refine (h1 _).mono ?_;rintro e w' ⟨rfl,rfl⟩)
 go_ret
 exact⟨rfl,rfl⟩
attribute [local go_sem] Oper.semAt_some
def AtR (pre:List ByteArray) (ls:List Int):Prop:=ls.length=pre.length∧∀ (k:Nat) (y:ByteArray),pre[k]?=some y→∃ v,ls[k]?=some v∧Lib.atoiAll y.data.toList=.ok v
theorem AtR.nil:AtR [] []:=⟨rfl,fun k y h=>by simp at h⟩
theorem AtR.snoc {pre:List ByteArray} {ls:List Int} {x:ByteArray} {v:Int}(h:AtR pre ls)(hx:Lib.atoiAll x.data.toList=.ok v):AtR (pre++[x]) (ls++[v]):=by
 refine⟨by simp [h.1],fun k y hy=>?_⟩
 rcases Nat.lt_trichotomy k pre.length with h1|h1|h1
 ·rw [List.getElem?_append_left h1] at hy
  rw [List.getElem?_append_left (by rw [h.1];exact h1)]
  exact h.2 k y hy
 ·subst h1
  rw [List.getElem?_append_right (Nat.le_refl _),Nat.sub_self] at hy
  obtain rfl:=Option.some.inj hy
  exact⟨v,by rw [List.getElem?_append_right (by rw [h.1];exact Nat.le_refl _),h.1,Nat.sub_self];rfl,hx⟩
 ·rw [List.getElem?_eq_none (by simp;omega)] at hy
  cases hy
theorem at_done {s:ByteArray} {xs:List ByteArray} {ls:List Int}(h:AtR xs ls)(hS:PcS s xs)(hne:s.data.toList≠[]):JoinOf s true ls:=by
 intro r hr hj
 refine⟨rfl,?_⟩
 refine List.ext_getElem? fun k=>?_
 have hl:=join_size hS hne hr hj
 rcases Nat.lt_or_ge k xs.length with hk|hk
 ·obtain⟨x,hx,hx1,hx2⟩:=zgy hS hne hr hj (List.getElem?_eq_getElem hk)
  obtain⟨v,hv,ha⟩:=h.2 k _ (List.getElem?_eq_getElem hk)
  rw [hx2,zfq hx1] at ha
  rw [hv,List.getElem?_map,hx]
  injection ha with ha
  rw [← ha]
  rfl
 ·rw [List.getElem?_eq_none (by rw [h.1];exact hk),List.getElem?_eq_none (by rw [List.length_map,hl];exact hk)]
theorem at_stop {s:ByteArray} {pre:List ByteArray} {x:ByteArray}(hx:x∈pre)(hn:∀ v,Lib.atoiAll x.data.toList≠.ok v)(hp:PcP s pre)(hne:s.data.toList≠[]):JoinOf s false []:=by
 intro r hr hj
 exfalso
 obtain⟨y,r',rfl⟩:∃ y r',r=y :: r':=by
  cases r with
  |nil=>exact absurd hj.symm hne
  |cons y r'=>exact⟨y,r',rfl⟩
 have hm:x.data.toList∈zbh 44 s.data.toList:=hp.subset (List.mem_map_of_mem hx)
 rw [← hj,join_cut (hr y (by simp)) (fun z hz=>hr z (by simp [hz]))] at hm
 obtain⟨z,hz,he⟩:=List.mem_map.1 hm
 exact hn _ (by rw [← he];exact zfq (hr z hz))
theorem pc_size {s:ByteArray} {pre:List ByteArray}(h:PcP s pre):∀ x∈pre,x.size≤s.size:=by
 intro x hx
 have key:∀ (u:List UInt8),∀ x∈zbh 44 u,x.length≤u.length:=by
  intro u
  induction u with
  |nil=>intro x hx;simp [zbh] at hx;simp [hx]
  |cons b t ih =>
   intro x hx
   rw [zbh] at hx
   split at hx
   ·rcases List.mem_cons.1 hx with rfl|hx
    ·simp
    ·have:=ih x hx;simp;omega
   ·split at hx
    ·rw [List.mem_singleton.1 hx];simp
    ·rename_i h2 r2 hcut
     rw [hcut] at ih
     rcases List.mem_cons.1 hx with rfl|hx
     ·have:=ih h2 (by simp);simp;omega
     ·have:=ih x (by simp [hx]);simp;omega
 have:=key s.data.toList x.data.toList (h.subset (List.mem_map_of_mem hx))
 simpa using this
theorem cut_length (u:List UInt8):(zbh 44 u).length≤u.length+1:=by
 induction u with
 |nil=>simp [zbh]
 |cons b t ih =>
  rw [zbh]
  split
  ·simp;omega
  ·split
   ·simp
   ·rename_i h2 r2 hcut
    rw [hcut] at ih
    simp at ih ⊢
    omega
theorem pc_length {s:ByteArray} {pre:List ByteArray}(h:PcP s pre):pre.length≤s.size+1:=by
 have h1:=h.length_le
 rw [List.length_map] at h1
 have h2:=cut_length s.data.toList
 have:s.data.toList.length=s.size:=rfl
 omega
theorem own_kept {W W':World} {row:Option Nat} {base:Nat} {e:TypeId} {size:Nat} {v:Value} {n:Nat} {xs:List Value}(h:W.ownsRow base e size v n xs)(hg:W.grownBy W' row)(hr:∀ r,row=some r→∃ o:Obj,W.heap[r]?=some o∧o.isCells=false):W'.ownsRow base e size v n xs:=
 zd h (Frm.of_grown hg) (fun b hb e=>by
  obtain⟨o,ho,hc⟩:=hr b e
  rcases h.2 with ⟨rfl,_⟩|⟨g,cap,cur,rfl,hb2,hh,_⟩
  ·simp [Value.ownBlock] at hb
  ·have:g=b:=by simpa [Value.ownBlock] using hb
   subst this
   rw [hh] at ho
   obtain rfl:=Option.some.inj ho
   simp [Obj.isCells] at hc)
theorem zec {W W':World} {row:Option Nat} {k:Nat} {t:TypeId} {cs:Array Value}(h:Blk W k t cs)(hg:W.grownBy W' row)(hr:∀ r,row=some r→∃ o:Obj,W.heap[r]?=some o∧o.isCells=false):Blk W' k t cs:=
 (hg.block k h.lt (fun e=>by
  obtain⟨o,ho,hc⟩:=hr k e.symm
  have h':W.heap[k]?=some (.cells cs t (0,0)):=h
  rw [h'] at ho
  obtain rfl:=Option.some.inj ho
  simp [Obj.isCells] at hc)).trans h
structure RdI (w:World) (Z B:Nat) (pre:List ByteArray) (W:World) (v:Value) (ls:List Int):Prop where
 wb:B≤W.heap.size
 r1:Blk W Z 74 #[.slice none 0 0]
 r2:Blk W (Z+1) 4 #[.bool false]
 bo:Blk W (Z+2) 74 #[v]
 own:W.ownsRow B 3 1 v ls.length (ints ls)
 num:AtR pre ls
 ext:Ext w W
def RdJ (w:World) (Z B:Nat) (pre:List ByteArray) (W:World):Prop:=∃ v ls,Hid (RdI w Z B pre W v ls)
def RdX (w:World) (Z:Nat) (pre:List ByteArray) (W:World):Prop:=Hid (Blk W Z 74 #[.slice none 0 0])∧Hid (Blk W (Z+1) 4 #[.bool false])∧Hid (∃ x∈pre,∀ v,Lib.atoiAll x.data.toList≠.ok v)∧Ext w W
theorem RdJ.from {w:World} {Z B:Nat}(hZ:w.heap.size≤B):OwnFrom B (RdJ w Z B):=fun s W W' row hs hg hr=>by
 obtain⟨v,ls,h⟩:=hs
 have hr':=fun r e=>(hr r e).2
 exact⟨v,ls,za ⟨Nat.le_trans h.out.wb hg.size,zec h.out.r1 hg hr',zec h.out.r2 hg hr',zec h.out.bo hg hr',own_kept h.out.own hg hr',h.out.num,h.out.ext.grown hg (fun k hk=>by have:=(hr k hk).1;omega)⟩⟩
theorem RdX.from {w:World} {Z B:Nat}(hZ:w.heap.size≤B):OwnFrom B (RdX w Z):=fun s W W' row hs hg hr=>by
 obtain⟨h1,h2,h3,h4⟩:=hs
 have hr':=fun r e=>(hr r e).2
 exact⟨za (zec h1.out hg hr'),za (zec h2.out hg hr'),h3,h4.grown hg (fun k hk=>by have:=(hr k hk).1;omega)⟩
theorem RdJ.set {w:World} {Z B:Nat}(hw:w.heap.size≤Z)(hB:Z+3<B):zgP (Z+3) (RdJ w Z B):=fun s W u hs=>by
 obtain⟨v,ls,h⟩:=hs
 refine⟨v,ls,za ⟨by simpa [World.setCell] using h.out.wb,h.out.r1.far (p:=⟨Z+3,0,none⟩) (by simp) u,h.out.r2.far (p:=⟨Z+3,0,none⟩) (by simp) u,h.out.bo.far (p:=⟨Z+3,0,none⟩) (by simp) u,zd h.out.own (Frm.setCell W (Z+3) 0 u) (fun b hb e=>?_),h.out.num,h.out.ext.setCell (p:=⟨Z+3,0,none⟩) (by show _≤Z+3;omega) u⟩⟩
 have:=(h.out.own.lt b hb).1
 have e':b=Z+3:=e
 omega
theorem RdX.set {w:World} {Z:Nat}(hw:w.heap.size≤Z):zgP (Z+3) (RdX w Z):=fun s W u hs=>by
 obtain⟨h1,h2,h3,h4⟩:=hs
 exact⟨za (h1.out.far (p:=⟨Z+3,0,none⟩) (by simp) u),za (h2.out.far (p:=⟨Z+3,0,none⟩) (by simp) u),h3,h4.setCell (p:=⟨Z+3,0,none⟩) (by show _≤Z+3;omega) u⟩
theorem ext_blkR {w w':World} {cs ds es fs:Array Value} {t u v x:TypeId}(h:Ext ((((w.alloc (.cells cs t)).alloc (.cells ds u)).alloc (.cells es v)).alloc (.cells fs x)) w'):Blk w' w.heap.size t cs∧Blk w' (w.heap.size+1) u ds∧Blk w' (w.heap.size+1+1) v es∧Blk w' (w.heap.size+1+1+1) x fs:=by
 have h2:=zV (((Ext.refl _).alloc _).trans h)
 refine⟨h2.1,h2.2.1,h2.2.2,?_⟩
 have:=zav h
 simpa using this
theorem own_isCells {W:World} {base:Nat} {e:TypeId} {size:Nat} {v:Value} {n:Nat} {xs:List Value}(h:W.ownsRow base e size v n xs):∀ (j:Nat) (o:Obj),v.ownBlock=some j→W.heap[j]?=some o→o.isCells=true:=fun j o hj ho=>by
 rcases h.2 with ⟨rfl,_⟩|⟨g,cap,cur,rfl,hb2,hh,_⟩
 ·simp [Value.ownBlock] at hj
 ·have:g=j:=by simpa [Value.ownBlock] using hj
  subst this
  rw [hh] at ho
  obtain rfl:=Option.some.inj ho
  rfl
theorem ext_put {w W:World} {k:Nat} {o:Obj}(h:Ext w W)(hk:w.heap.size≤k):Ext w (W.putObj k o):=⟨h.os,h.tape,h.output,by simpa using h.size,fun j hj hn=>(World.putObj_heap_other (by omega)).trans (h.block j hj hn)⟩
theorem zgU {W:World} {k j:Nat} {o:Obj} {t:TypeId} {cs:Array Value}(h:Blk W j t cs)(hk:j≠k):Blk (W.putObj k o) j t cs:=(World.putObj_heap_other hk).trans h
theorem kps_ext {b:Nat} {W W':World}(h:Ext W W')(hb:b+3≤W.heap.size):KpS b W W':=fun k _ h2=>h.block k (by omega) id
theorem kps_frm {b:Nat} {W W':World} {S:Nat→Prop}(h:Frm S W W')(hb:b+3≤W.heap.size)(hS:∀ k,S k→k<b∨b+3≤k):KpS b W W':=fun k h1 h2=>h.block k (by omega) (fun e=>by have:=hS k e;omega)
theorem zex {W W':World}(h:Ext W W'):KeepsOthers W W':=⟨h.size,fun k _ hk _=>(h.block k (Array.getElem?_eq_some_iff.1 hk).1 id).trans hk⟩
theorem zey {s:ByteArray} {w:World}(hs:s.size≤2000000)(hE:Sent w) :
  Calls Tryz.prog 66 #[.string s] w (RetIntsX s w):=by
 have HE:=za (fun W (hW:Ext w W)=>hE.ext hW)
 clear hE
 cases he:s.toList.isEmpty
 ·have Hne:=za (zcR he)
  have Hs:=za hs
  have hs2:((w.alloc (.cells #[.slice none 0 0] 74)).alloc (.cells #[.bool false] 4)).heap.size=w.heap.size+2:=by simp
  refine (callsIn_wide (n:=20)).1 ?_
  refine callsIn_of_wp_marks Tryz.func66 rfl trivial ?_ rfl
  simp only [Tryz.ntmps66,List.size_toArray,List.length_cons,List.length_nil,Nat.reduceAdd,Nat.reduceSub,Array.replicate_succ,Array.replicate_zero,List.push_toArray,List.append_toArray,List.nil_append,List.cons_append]
  gi_wp2_with (refine⟨trivial,?_⟩;gi_at_call 115;refine (callsIn_wide.2 (lib_SplitSeq _ _)).mono ?_;rintro e w' ⟨rfl,rfl⟩)
  obtain⟨b1,b2⟩:=zR (w:=w) ((((((Ext.refl ((w.alloc (.cells #[.slice none 0 0] 74)).alloc (.cells #[.bool false] 4))).alloc _).alloc _).alloc _).alloc _):Ext ((w.alloc (.cells #[.slice none 0 0] 74)).alloc (.cells #[.bool false] 4)) ((((((w.alloc (.cells #[.slice none 0 0] 74)).alloc (.cells #[.bool false] 4)).alloc (.cells #[.slice none 0 0] 74)).alloc (.cells #[.string s] 9)).alloc (.cells #[.string ⟨#[44]⟩] 9)).alloc (.cells #[.int .i64 0] 3)))
  obtain⟨c1,c2,c3,c4⟩:=ext_blkR (Ext.refl ((((((w.alloc (.cells #[.slice none 0 0] 74)).alloc (.cells #[.bool false] 4)).alloc (.cells #[.slice none 0 0] 74)).alloc (.cells #[.string s] 9)).alloc (.cells #[.string ⟨#[44]⟩] 9)).alloc (.cells #[.int .i64 0] 3)))
  have hx0:Ext w ((((((w.alloc (.cells #[.slice none 0 0] 74)).alloc (.cells #[.bool false] 4)).alloc (.cells #[.slice none 0 0] 74)).alloc (.cells #[.string s] 9)).alloc (.cells #[.string ⟨#[44]⟩] 9)).alloc (.cells #[.int .i64 0] 3)):=((((((Ext.refl w).alloc _).alloc _).alloc _).alloc _).alloc _).alloc _
  have hz0:((((((w.alloc (.cells #[.slice none 0 0] 74)).alloc (.cells #[.bool false] 4)).alloc (.cells #[.slice none 0 0] 74)).alloc (.cells #[.string s] 9)).alloc (.cells #[.string ⟨#[44]⟩] 9)).alloc (.cells #[.int .i64 0] 3)).heap.size=w.heap.size+6:=by simp
  rw [hs2] at c1 c2 c3 c4
  clear hs2 he hs
  generalize (((((w.alloc (.cells #[.slice none 0 0] 74)).alloc (.cells #[.bool false] 4)).alloc (.cells #[.slice none 0 0] 74)).alloc (.cells #[.string s] 9)).alloc (.cells #[.string ⟨#[44]⟩] 9)).alloc (.cells #[.int .i64 0] 3)=W0 at *
  have Hz:=za hz0
  clear hz0
  have b3:Blk W0 (w.heap.size+3) 9 #[.string s]:=c2
  have b4:Blk W0 (w.heap.size+3+1) 9 #[.string ⟨#[44]⟩]:=c3
  have b5:Blk W0 (w.heap.size+3+2) 3 #[.int .i64 0]:=c4
  have h0:RdJ w w.heap.size W0.heap.size [] W0:=⟨_,[],za ⟨Nat.le_refl _,b1,b2,c1,World.ownsRow_nil _ _ _ _,AtR.nil,hx0⟩⟩
  have hZB:w.heap.size+3<W0.heap.size:=by have:=Hz.out;omega
  have hZ6:w.heap.size+3+3=W0.heap.size:=Hz.out.symm
  clear b1 b2 c1 c2 c3 c4
  refine zdY rfl (by omega) (gf:=185) (lb:=#[.pointer (some ⟨w.heap.size+3+1,0,none⟩),.pointer (some ⟨w.heap.size+3,0,none⟩),.pointer (some ⟨w.heap.size+3+2,0,none⟩)]) rfl trivial (enters_of Tryz.func185 (by kernel_rfl) rfl)
   (seq_cell (by omega) Hs.out b3 b4 b5) hZB (fun h g=>KpS.trans h g) (fun W o o' hl=>KpS.put (by omega)) (RdJ w w.heap.size W0.heap.size) (RdX w w.heap.size)
   (RdJ.from (by omega)) (RdX.from (by omega)) (RdJ.set (Nat.le_refl _) hZB) (RdX.set (Nat.le_refl _)) h0
   (fun x=>{ tmps:=#[.string s,undef,.pointer (some ⟨w.heap.size,0,none⟩),.pointer (some ⟨w.heap.size+1,0,none⟩),.pointer (some ⟨w.heap.size+2,0,none⟩),.string x,undef,undef,.string s,.bool false,.string s,.func (.func 185) #[] #[.pointer (some ⟨w.heap.size+3+1,0,none⟩),.pointer (some ⟨w.heap.size+3,0,none⟩),.pointer (some ⟨w.heap.size+3+2,0,none⟩)],.string x,undef,undef,undef,undef,undef,undef,undef,undef,undef,undef,undef,undef],defers:=[] }) ?assign ?body ?done ?stop
  case assign =>
   intro l x W K hK
   gi_wp2
   exact hK
  case body =>
   rintro l pre x W hsp ⟨v,ls,hI⟩
   have hxs:x.size≤2000000:=Nat.le_trans (pc_size hsp x (by simp)) Hs.out
   have hlen:=pc_length hsp
   have hs9:=Hs.out
   simp only [List.length_append,List.length_singleton] at hlen
   have hnum:=za hI.out.num
   have hll:=za hI.out.num.1
   have hHE:=HE.out _ hI.out.ext
   gi_wp2
   refine⟨trivial,?_⟩
   refine (CallsIn.inRound l (callsIn_wide.2 (lib_Atoi hxs hHE))).mono ?_
   rintro e W1 ⟨⟨u,rfl,hu⟩|⟨u,t,p,rfl,hu⟩,hx1⟩
   ·have r1:=hI.out.r1.ext hx1
    have r2:=hI.out.r2.ext hx1
    have bo:=hI.out.bo.ext hx1
    have own:=ze hI.out.own hx1
    have hnm:=za (hnum.out.snoc hu.out)
    have hww:=za (hI.out.ext.trans hx1)
    have hsz:=hx1.size
    have hWz:=za hI.out.ext.size
    have hWB:=za hI.out.wb
    have co:=bo.cell
    have fo:=bo.frozen
    have hll1:ls.length≤2000001:=by have:=hll.out;omega
    obtain⟨A5,c5,rfl⟩:=zf own
    obtain⟨i0,hi,hz0,hz1,hz2⟩:=info_parts zac
    have hbase:W0.heap.size≤W1.heap.size:=by
     have h2:=hWB.out
     omega
    have hoth:=za (zex hx1)
    have hkp:=za (kps_ext (b:=w.heap.size+3) hx1 (by have:=hWB.out;omega))
    clear hI hx1
    gi_wp2_with (gi_at_builtin;refine wpListIn_append_own _ rfl _ _ 74 rfl W0.heap.size 3 i0 (.int .i64 0) 1 8 Tryz.underlying74 hi hz0 hz1 hz2 rfl (by decide) (.slice A5 ls.length c5) ls.length (ints ls) rfl (ze own ((Ext.refl _).alloc _)) ⟨W1.heap.size,0,none⟩ 1 1 [.int .i64 u] rfl rfl (cell_one_new _ _ _) (by simp [Value.oneCell']) (by unfold maxLen;omega) (by omega) (by rw [World.size_alloc];omega) ?_;intro v' w2 hown' hgrow hv';obtain⟨g',cap',rfl⟩:=ownsRow_succ hown';have hxa:=(Ext.refl W1).alloc (.cells #[.int .i64 u] 3);have owa:=ze own hxa;have hfr:=Frm.of_grown hgrow;have hne:∀ k,k<W0.heap.size→¬ (Value.slice A5 ls.length c5).ownBlock=some k:=(fun k hk e=>by have:=(own.lt k e).1;omega);have ro:=(bo.ext hxa).frm hfr (fun e=>hne _ (by omega) e);have co:=ro.cell;have fo:=ro.frozen)
    have q1:=(r1.ext hxa).frm hfr (fun e=>hne _ (by omega) e)
    have q2:=(r2.ext hxa).frm hfr (fun e=>hne _ (by omega) e)
    have hso:=Frm.setCell w2 (w.heap.size+2) 0 (.slice (some ⟨g',0,none⟩) (ls.length+1) cap')
    have hsz2:=hfr.size
    have hszA:=hxa.size
    refine⟨((hoth.out.trans (zex hxa)).trans (KeepsOthers.of_grownBy hgrow (own_isCells owa))).trans (KeepsOthers.setCell _ _ _),
     ((hkp.out.trans (kps_ext hxa (by omega))).trans (kps_frm hfr (by omega) (fun k hk=>.inr (by have:=(own.lt k hk).1;omega)))).trans (kps_frm hso (by omega) (fun k hk=>.inl (by have hk':k=w.heap.size+2:=hk;omega))),.slice (some ⟨g',0,none⟩) (ls.length+1) cap',ls++[u],za ⟨?_,q1.frm hso (by omega),q2.frm hso (by omega),?_,?_,hnm.out,?_⟩⟩
    ·exact Nat.le_trans (by omega) hso.size
    ·simpa using ro.set_ 0 (.slice (some ⟨g',0,none⟩) (ls.length+1) cap')
    ·have h9:=zd hown' hso (fun b hb e=>by have:=(hown'.lt b hb).1;have e':b=w.heap.size+2:=e;omega)
     simpa [ints] using h9
    ·exact ((hww.out.trans hxa).frm hfr (fun k hk e=>hne k (by omega) e)).frm hso (fun k hk e=>by have e':k=w.heap.size+2:=e;omega)
   ·have r1:=hI.out.r1.ext hx1
    have r2:=hI.out.r2.ext hx1
    have hx:=hI.out.ext.trans hx1
    have hwz:=hI.out.ext.size
    have c1:=r1.cell
    have f1:=r1.frozen
    have c2:=r2.cell
    have f2:=r2.frozen
    gi_wp2
    exact⟨((zex hx1).trans (KeepsOthers.setCell _ _ _)).trans (KeepsOthers.setCell _ _ _),
     za (Blk.far (by simpa using r1.set_ 0 (.slice none 0 0)) (p:=⟨w.heap.size+1,0,none⟩) (by simp) _),za (by simpa using (r2.far (p:=⟨w.heap.size,0,none⟩) (by simp) (.slice none 0 0)).set_ 0 (.bool false)),
     za ⟨x,by simp,hu.out⟩,(hx.setCell (p:=⟨w.heap.size,0,none⟩) (Nat.le_refl _) _).setCell (p:=⟨w.heap.size+1,0,none⟩) (Nat.le_succ _) _⟩
  case done =>
   rintro xs W hS ⟨v,ls,hI⟩ hK
   obtain⟨A5,c5,rfl⟩:=zf hI.out.own
   have co:=hI.out.bo.cell
   have c1:=hI.out.r1.cell
   have f1:=hI.out.r1.frozen
   have c2:=hI.out.r2.cell
   have f2:=hI.out.r2.frozen
   have hB:w.heap.size+1<W0.heap.size:=by omega
   have hlz:=za (show ls.length≤s.size+1 by rw [hI.out.num.1];exact pc_length hS.p)
   have hdn:=za (at_done hI.out.num hS Hne.out)
   have own:=hI.out.own
   have r1:Blk ((W.setCell ⟨w.heap.size,0,none⟩ (.slice A5 ls.length c5)).setCell ⟨w.heap.size+1,0,none⟩ (.bool true)) w.heap.size 74 #[.slice A5 ls.length c5]:=Blk.far (by simpa using hI.out.r1.set_ 0 (.slice A5 ls.length c5)) (p:=⟨w.heap.size+1,0,none⟩) (by simp) _
   have r2:Blk ((W.setCell ⟨w.heap.size,0,none⟩ (.slice A5 ls.length c5)).setCell ⟨w.heap.size+1,0,none⟩ (.bool true)) (w.heap.size+1) 4 #[.bool true]:=by simpa using (hI.out.r2.far (p:=⟨w.heap.size,0,none⟩) (by simp) (.slice A5 ls.length c5)).set_ 0 (.bool true)
   have hx:=(hI.out.ext.setCell (p:=⟨w.heap.size,0,none⟩) (Nat.le_refl _) (.slice A5 ls.length c5)).setCell (p:=⟨w.heap.size+1,0,none⟩) (Nat.le_succ _) (.bool true)
   have ow:((W.setCell ⟨w.heap.size,0,none⟩ (.slice A5 ls.length c5)).setCell ⟨w.heap.size+1,0,none⟩ (.bool true)).ownsRow W0.heap.size 3 1 (.slice A5 ls.length c5) ls.length (ints ls):=
    zd (zd own (Frm.setCell W w.heap.size 0 _) (fun b hb e=>by have:=(own.lt b hb).1;have e':b=w.heap.size:=e;omega)) (Frm.setCell _ (w.heap.size+1) 0 _) (fun b hb e=>by have:=(own.lt b hb).1;have e':b=w.heap.size+1:=e;omega)
   have hK':=(KeepsOthers.setCell ((W.setCell ⟨w.heap.size,0,none⟩ (.slice A5 ls.length c5))) ⟨w.heap.size+1,0,none⟩ (.bool true)).same _ _ ((KeepsOthers.setCell W ⟨w.heap.size,0,none⟩ (.slice A5 ls.length c5)).same _ _ hK rfl) rfl
   gi_wp2
   refine⟨by simp,.inl ⟨_,_,rfl,run_takeDeferred hK',?_⟩⟩
   clear c1 c2 co f1 f2
   generalize (W.setCell ⟨w.heap.size,0,none⟩ (.slice A5 ls.length c5)).setCell ⟨w.heap.size+1,0,none⟩ (.bool true)=W' at *
   have q1:=zgU (k:=W0.heap.size) (o:=.deferred none) r1 (by omega)
   have q2:=zgU (k:=W0.heap.size) (o:=.deferred none) r2 (by omega)
   have c1:=q1.cell
   have c2:=q2.cell
   exact⟨.tuple #[.slice A5 ls.length c5,.bool true],by simp [results,Tryz.results66,go_sem,c1,c2],A5,ls.length,c5,ls,true,rfl,rfl,zl (ownsRow_putObj ow _ hK' rfl) (by omega),hlz.out,hdn,ext_put hx (by omega)⟩
  case stop =>
   rintro pre W hsp hX hK
   obtain⟨r1,r2,⟨y,hy1,hy2⟩,hx⟩:=hX
   have hB:w.heap.size+1<W0.heap.size:=by omega
   gi_wp2
   refine⟨by simp,.inl ⟨_,_,rfl,run_takeDeferred hK,?_⟩⟩
   have q1:=zgU (k:=W0.heap.size) (o:=.deferred none) r1.out (by omega)
   have q2:=zgU (k:=W0.heap.size) (o:=.deferred none) r2.out (by omega)
   have c1:=q1.cell
   have c2:=q2.cell
   exact⟨.tuple #[.slice none 0 0,.bool false],by simp [results,Tryz.results66,go_sem,c1,c2],none,0,0,[],false,rfl,rfl,World.ownsRow_nil _ _ _ _,by omega,za (at_stop hy1 hy2 hsp Hne.out),ext_put hx (by omega)⟩
 ·have He:=za (zeh he)
  obtain⟨b1,b2⟩:=zR (Ext.refl ((w.alloc (.cells #[.slice none 0 0] 74)).alloc (.cells #[.bool true] 4)))
  have hx1:Ext w ((w.alloc (.cells #[.slice none 0 0] 74)).alloc (.cells #[.bool true] 4)):=((Ext.refl _).alloc _).alloc _
  go_enter Tryz.func66,Tryz.ntmps66
  go_wp2_with fail
  have c1:=b1.cell
  have c2:=b2.cell
  exact bodyPost_ret (v:=.tuple #[.slice none 0 0,.bool true]) (by simp [results,Tryz.results66,go_sem,c1,c2]) rfl ⟨none,0,0,[],true,rfl,rfl,World.ownsRow_nil _ _ _ _,by omega,za (fun r hr h=>⟨rfl,by rw [join_nil hr (h.trans He.out)];rfl⟩),hx1⟩
end Go.Proofs.YtfcjhpodichpjaaGreatDoor
namespace Go.Proofs.YtfcjhpodichpjaaGreatDoor
open Go Go.RowKit
theorem yU12a3 {P:Prop}(h:P:=by
 go_wp2_with fail
 have hfb:=zL bz4 rfl (.int .i64 0) (.slice none 0 0) (.slice none 0 0)
 have cf:=hfb.cell
 exact bodyPost_ret (v:=.tuple #[.agg #[.int .i64 0,.slice none 0 0,.slice none 0 0],.bool false]) (by simp [results,Tryz.results31,go_sem,cf]) rfl hno4.out
 ):P:=h
theorem yU12b2 {P:Prop}(h:P:=by
 have cf:=hfb.cell
 exact bodyPost_ret (v:=.tuple #[.agg #[.int .i64 0,.slice none 0 0,.slice none 0 0],.bool false]) (by simp [results,Tryz.results31,go_sem,cf]) rfl hno.out
 ):P:=h
theorem yU12a4 {P:Prop}(h:P:=by
 go_wp2_with fail
 have hfb:=zL bz2 rfl (.int .i64 0) (.slice none 0 0) (.slice none 0 0)
 exact yU12b2
 ):P:=h
theorem zdn {x:ByteArray} {w:World}(hx:x.size≤2000000)(hE:Sent w) :
  Calls Tryz.prog 31 #[.string x] w (RetPX x w):=by
 have HE:=za (fun W (hW:Ext w W)=>hE.ext hW)
 clear hE
 go_enter Tryz.func31,Tryz.ntmps31
 have hx0:=(Ext.refl w).alloc (.cells #[.int .i64 0,.slice none 0 0,.slice none 0 0] 26)
 have bz:=Blk.new w 26 #[.int .i64 0,.slice none 0 0,.slice none 0 0]
 have hz0:=bz.lt
 go_wp2_with fail
 generalize w.alloc (.cells #[.int .i64 0,.slice none 0 0,.slice none 0 0] 26)=w0 at *
 refine (lib_Split (s:=x) (by omega)).mono ?_
 rintro e w1 ⟨B,m,d,l,rfl,hml,hm0,zhS,hm,hcut,hx1⟩
 have Hlx:=za (zez hcut.out)
 have Hml:=za hml
 have Hcount:=za (fun a ha he=>txt_count hcut.out (a:=a) ha he)
 have hmx:m≤2000001:=by omega
 clear hml
 obtain⟨gB,rfl,hgB,-⟩:=zP zhS hm0
 have hmd:=zhh zhS
 have hmd':(m:Int)≤(d:Int):=by omega
 obtain⟨ad,x0,hae,-,-,hx0',hc0⟩:=(Reads.of_own zhS).str (k:=0) hm0
 obtain rfl:=Option.some.inj hae
 rw [zH,Nat.add_zero] at hc0
 have hm0':(0:Int)<(m:Int):=by omega
 have Hfirst:=za (fun a ha he=>txt_first hcut.out hx0'.out (a:=a) ha he)
 have Hne0:=za (fun h=>first_ne hcut.out hx0'.out h)
 have Hrow:=za (fun (i:Nat) (hi:1≤i) (y:ByteArray) (h0:l[i]?=some y) a ha he=>txt_row hcut.out hi h0 (a:=a) ha he)
 clear hcut
 go_wp2_with fail
 refine (zdK (x:=x0) (by have:=Hlx.out x0 (List.mem_of_getElem? hx0'.out);omega)).mono ?_
 rintro e w2 ⟨al,ok1,rfl,ha,hal1,hx2⟩
 have hw2:=hx1.trans hx2
 have bz2:=bz.ext hw2
 have cz2:=bz2.cell
 have fz2:=bz2.frozen
 cases ok1
 ·have hno:=za (zcy (x:=x) (Z:=w.heap.size) (hx0.trans hw2) (Nat.le_refl _) (fun a ha he=>by
   rcases hal1.out with h|⟨-,-,h⟩
   ·exact absurd h.1 (by decide)
   ·exact h _ (zN ha).2.1 (Hfirst.out a ha he).symm))
  exact yU12a4
 ·by_cases h13:13<m
  ·have h13':(13:Int)<(m:Int):=by omega
   have hno:=za (zcy (x:=x) (Z:=w.heap.size) (hx0.trans hw2) (Nat.le_refl _) (fun a ha he=>by
    have h1:=Hcount.out a ha he
    have h2:=(zN ha).2.2.2.1
    have h3:=Hml.out
    omega))
   exact yU12a4
  have h13':(m:Int)≤13:=by omega
  have hal2:alX al=x0.data.toList:=by
   rcases hal1.out with h|h
   ·exact h.2
   ·exact absurd h.1 (by decide)
  have Hne:=za (Hne0.out (by rw [← hal2];exact al_ne ha))
  have Hal:=za (fun (a:Aut) (h:zh a=true) (he:zcd a=x.data.toList)=>show a.al=(al:Int) from by
   have h1:=al_inj ha (zN h).2.1 (hal2.trans (Hfirst.out a h he))
   have:=(zN h).1
   omega)
  clear hal1 hal2
  have bG:=Blk.new w2 26 #[.int .i64 al,.slice none 0 0,.slice none 0 0]
  have hx3:=(Ext.refl w2).alloc (.cells #[.int .i64 al,.slice none 0 0,.slice none 0 0] 26)
  have hs2:=hw2.size
  have zhT:=ze zhS hx2
  go_upto_region 6 with fail
  have zhU:=ze zhT hx3
  have zhK:Gro w0 (w2.alloc (.cells #[.int .i64 al,.slice none 0 0,.slice none 0 0] 26)) w2.heap.size al (.slice none 0 0) [] [] (.slice none 0 0) []:=⟨bG,World.ownsRow_nil _ _ _ _,zy.nil _ _,World.ownsRow_nil _ _ _ _,hw2.trans hx3,hs2⟩
  generalize w2.alloc (.cells #[.int .i64 al,.slice none 0 0,.slice none 0 0] 26)=w3 at *
  generalize w2.heap.size=G at *
  clear cz2 fz2 hc0 zhT
  go_cut [31,32,33,34] (fun _ s32 s33 s34 wx=>s33=.int .i64 ((m - 1:Nat):Int)∧s34=.int .i64 0∧(∃ oB dB,s32=.slice (some ⟨gB,oB,none⟩) (m - 1) dB∧(1<m→oB=1))∧wx=w3)
  case first =>
   by_cases hd1:d=1
   ·subst hd1
    obtain rfl:m=1:=by omega
    go_wp2_with fail
    go_meet
    exact⟨rfl,rfl,⟨0,_,rfl,fun h=>by omega⟩,rfl⟩
   ·go_wp2_with fail
    go_meet
    exact⟨rfl,rfl,⟨1,_,rfl,fun _=>rfl⟩,rfl⟩
  case rest =>
  obtain⟨rfl,rfl,⟨oB,dB,rfl,hoB⟩,rfl⟩:=hcut
  go_wp2_with fail
  go_loopw [9,10,11,34] (fun _ _ _ iv wr=>∃ (i:Nat) (v:Value) (rows:List Value) (ls:List (List Int)) (vA:Value) (acc:List Bool),i+1≤m∧iv=.int .i64 (i:Nat)∧Gro w0 wr G al v rows ls vA acc∧Hid (ls.length≤i)∧Hid (acc.length=ls.length)∧Hid (∀ a,zh a=true→zcd a=x.data.toList→ls=a.next.take i∧acc=a.acc.take i)∧wr.ownsRow w0.heap.size 9 1 (.slice (some ⟨gB,0,none⟩) m d) m (zF l)) (fun _ _ _ iv _=>m - (intOf iv).toNat)
  case atStart=>exact⟨0,_,_,[],_,[],hm0,rfl,zhK,za (Nat.zero_le _),za rfl,za (fun a _ _=>⟨rfl,rfl⟩),zhU⟩
  case round =>
   clear zhK zhU
   obtain⟨i,v,rows,ls,vA,acc,hi,rfl,zhK,hln,hal,htk,hstr⟩:=hrel
   have bz3:=bz.ext zhK.ext
   by_cases hlt:i+1<m
   ·obtain rfl:=hoB (by omega)
    have hlt1:(i:Int)<((m - 1:Nat):Int):=by omega
    obtain⟨ad,xk,hae,-,-,hxk,hck⟩:=(Reads.of_own hstr).str hlt
    obtain rfl:=Option.some.inj hae
    rw [zH,Nat.zero_add,Nat.add_comm] at hck
    have hbk:=Hlx.out xk (List.mem_of_getElem? hxk.out)
    have HR:=za (Hrow.out (i+1) (by omega) xk hxk.out)
    rw [Nat.add_sub_cancel] at HR
    cases he:xk.toList.isEmpty
    ·have Hxne:=za (zcR he)
     have h1k:1≤xk.size:=by
      rcases Nat.eq_zero_or_pos xk.size with h0|h0
      ·rw [ByteArray.toList_eq] at he
       have e2:xk.data.toList.length=xk.size:=rfl
       rw [List.eq_nil_of_length_eq_zero (e2.trans h0)] at he
       cases he
      ·exact h0
     have h1k':(1:Int)≤(xk.size:Int):=by omega
     have hex:(xk.extract 1 xk.size).size≤x.size:=by rw [ByteArray.size_extract];omega
     have HJ:=za (fun (a:Aut) (ha:zh a=true) (he:zcd a=x.data.toList)=>show ∃ r b,a.next[i]?=some r∧a.acc[i]?=some b∧RowS r∧zaQ (r.map Int.toNat)=(xk.extract 1 xk.size).data.toList∧xk.data.toList=zgG b r from by
      obtain⟨r,b,h1,h2,h3,h4⟩:=HR.out a ha he
      exact⟨r,b,h1,h2,h3,(rest_list h4).symm,h4⟩)
     go_wp2_with fail
     refine (zey (s:=xk.extract 1 xk.size) (by omega) (HE.out _ (hx0.trans zhK.ext))).mono ?_
     rintro e w4 ⟨Ar,nr,cr,lr,ok,rfl,hnr,hor,hnb,hjo,hx4⟩
     cases ok
     ·have hno4:=za (zcy (x:=x) (Z:=w.heap.size) ((hx0.trans zhK.ext).trans hx4) (Nat.le_refl _) (fun a ha he=>by
       obtain⟨r,b,h1,h2,h3,h4,-⟩:=HJ.out a ha he
       exact absurd (hjo.out _ h3.nat h4).1 (by decide)))
      have bz4:=bz3.ext hx4
      have cz:=bz4.cell
      have fz:=bz4.frozen
      exact yU12a3
     ·subst hnr
      have HL:=za (fun (a:Aut) (ha:zh a=true) (he:zcd a=x.data.toList)=>show ∃ b,a.next[i]?=some lr∧a.acc[i]?=some b∧xk.data.toList=zgG b lr from by
       obtain⟨r,b,h1,h2,h3,h4,h5⟩:=HJ.out a ha he
       have e:lr=r:=(hjo.out _ h3.nat h4).2.trans (cast_row h3)
       subst e
       exact⟨b,h1,h2,h5⟩)
      have hlow:=za zhK.low
      have hs1:=za zhK.ext.size
      have hacc4:=zhK.more hx4
      have hstr4:=ze hstr hx4
      have cG:=hacc4.blk.cell
      have hs4:=hacc4.ext.size
      have hlm:ls.length≤2000001:=by have:=hln.out;omega
      have Hxk:=za hxk.out
      clear zhK hstr hck hjo HJ
      go_upto_region 15 with (at_builtin;refine zab w0 w4 rfl _ _ _ rfl 74 _ 1 24 Tryz.underlying23 zbj rfl (by decide) v ls.length rows _ _ rfl rfl hs4 hacc4.nx rfl (zat _ _ _) (by unfold maxLen;omega) (by omega) ?_;intro g5 cap5 w6 hown6 hg6 hat6 hlt6;obtain⟨q1,q2,q3⟩:=hacc4.pushRow hlow.out hs1.out hor hown6 hg6 hat6;have q1':=q1.out;have hstr6:=(zd hstr4 (Frm.of_grown hg6) (fun b hb hS=>zaq hstr4 hacc4.nx (by decide) hb hS)))
      have hstr7:=zd hstr6 (Frm.setCell w6 G 1 (.slice (some ⟨g5,0,none⟩) (ls.length+1) cap5)) (fun b hb hS=>by
       have hB6:Blk w6 G 26 #[.int .i64 al,v,vA]:=(hg6.block G hacc4.blk.lt (fun e=>zk hacc4.nx hacc4.blk (by decide) e.symm rfl)).trans hacc4.blk
       exact zk hstr6 hB6 (by decide) hb hS)
      have hln7:=za (show (ls++[lr]).length≤i+1 by have:=hln.out;simp;omega)
      have hal7:=za (show acc.length+1=(ls++[lr]).length by have:=hal.out;simp;omega)
      have htk7:=za (fun (a:Aut) (ha:zh a=true) (he:zcd a=x.data.toList)=>show ls++[lr]=a.next.take (i+1)∧acc=a.acc.take i∧∃ b,a.acc[i]?=some b∧xk.data.toList=zgG b lr from by
       obtain⟨h1,h2⟩:=htk.out a ha he
       obtain⟨b,h3,h4,h5⟩:=HL.out a ha he
       refine⟨?_,h2,b,h4,h5⟩
       rw [List.take_add_one,← h1,h3]
       rfl)
      clear q1 q1' q2 hown6 hg6 hat6 hlt6 hstr6 hstr4 hacc4 cG hln hal htk hor HL
      generalize ls++[lr]=ls7 at *
      generalize rows++[.slice Ar lr.length cr]=rows7 at *
      generalize w6.setCell ⟨G,1,none⟩ (.slice (some ⟨g5,0,none⟩) (ls.length+1) cap5)=w7 at *
      generalize Value.slice (some ⟨g5,0,none⟩) (ls.length+1) cap5=v7 at *
      obtain⟨ad7,xk7,hae7,-,-,hxk7,hck7⟩:=(Reads.of_own hstr7).str hlt
      obtain rfl:=Option.some.inj hae7
      rw [zH,Nat.zero_add,Nat.add_comm] at hck7
      obtain rfl:xk7=xk:=Option.some.inj (hxk7.out.symm.trans Hxk.out)
      have cG:∀ W,Ext w7 W→∀ q,W.cell? ⟨G,q,none⟩=#[Value.int .i64 al,v7,vA][q]?:=fun W hW=>(q3.blk.ext hW).cell
      have cS:∀ W,Ext w7 W→W.cell? ⟨gB,1+i,none⟩=some (.string xk7):=fun W hW=>hW.cell_some hck7
      have h0k:0<xk7.size:=by omega
      have h0k':(0:Int)<(xk7.size:Int):=by omega
      have hb0:=zaP xk7 0 h0k
      have Hsig:=za (fun (b:Bool) (h:xk7.data.toList=zgG b lr)=>head_sign h h0k)
      obtain⟨bb,hbb⟩:∃ bb,((xk7[0].toNat:Int)==43)=bb:=⟨_,rfl⟩
      rw [hbb] at Hsig
      have hww:=Ext.refl w7
      clear hck7 hxk7 Hxk
      refine uR (fun X=>Ext w7 X) [6,8] (zK.of [0,1,2,3,4,5,6,7,8]) ?_
      refine uQ ?_
      have hxd:=hww.drew
      refine zb fun K hK=>?_;go_simp
      refine hK.out _ _ (hxd.alloc _) ?_
      refine pT ?_
      refine zg fun K hK=>?_
      have hs7:=q3.ext.size
      have q3d:=q3.more hxd
      have hal8:acc.length≤2000001:=by have:=hal7.out;have:=hln7.out;omega
      have hstr8:=ze hstr7 hxd
      refine zaC w0 w7.drew _ _ _ rfl 4 _ 1 1 Tryz.underlying24 zaG rfl (by decide) vA acc.length (zas acc) _ _ rfl rfl q3d.ext.size q3d.acc rfl (by simp [Value.oneCell']) (by unfold maxLen;omega) (by omega) ?_
      intro g8 cap8 w8 hown8 hg8 hat8 hlt8
      refine hK.out _ _ ?_
      refine pT ?_
      refine uQ ?_
      obtain⟨p1,p2,p3⟩:=q3d.pushAcc (x:=bb) (W':=w8) hown8 hg8 hat8
      have p1':=p1.out
      have hstr9:=zd hstr8 (Frm.of_grown hg8) (fun b hb hS=>zaq hstr8 q3d.acc (by decide) hb hS)
      have hstr10:=zd hstr9 (Frm.setCell w8 G 2 (.slice (some ⟨g8,0,none⟩) (acc.length+1) cap8)) (fun b hb hS=>by
       have hB8:Blk w8 G 26 #[.int .i64 al,v7,vA]:=(hg8.block G q3d.blk.lt (fun e=>zk q3d.acc q3d.blk (by decide) e.symm rfl)).trans q3d.blk
       exact zk hstr9 hB8 (by decide) hb hS)
      refine zg fun K hK=>?_
      go_simp
      refine hK.out _ _ ?_
      refine zj ?_
      go_wp2_with fail
      go_roundw
      case rel=>exact⟨i+1,_,_,ls7,_,acc++[bb],by omega,by go_num,p3,za (by have:=hln7.out;omega),za (by have:=hal7.out;simp;omega),za (fun a ha he=>by
       obtain⟨h1,h2,b,h3,h4⟩:=htk7.out a ha he
       refine⟨h1,?_⟩
       rw [List.take_add_one,← h2,h3,Hsig.out b h4]
       rfl),hstr10⟩
      case measure=>simp [intOf];omega
    ·have cz:=bz3.cell
     have fz:=bz3.frozen
     have hno:=za (zcy (x:=x) (Z:=w.heap.size) (hx0.trans zhK.ext) (Nat.le_refl _) (fun a ha h=>by
      obtain⟨r,b,-,-,-,h4⟩:=HR.out a ha h
      rw [zeh he] at h4
      cases h4))
     go_wp2_with fail
     have hfb:=zL bz3 rfl (.int .i64 0) (.slice none 0 0) (.slice none 0 0)
     exact yU12b2
   ·obtain⟨A5,c5,rfl⟩:=zf zhK.nx
    obtain⟨B5,d5,rfl⟩:=zf zhK.acc
    have hat:zM wr w0.heap.size wr.heap.size A5 ls.length B5 acc.length (⟨al,ls,acc⟩:Aut):=⟨zdm.reads ⟨rows,zhK.nx,zhK.rows⟩ rfl,rfl,Reads.of_own zhK.acc⟩
    have cG:=zhK.blk.cell
    have HE:=za (fun (a:Aut) (ha:zh a=true) (he:zcd a=x.data.toList)=>show (⟨al,ls,acc⟩:Aut)=a from by
     obtain⟨h1,h2⟩:=htk.out a ha he
     have h3:=Hcount.out a ha he
     have h4:=Hal.out a ha he
     have h5:=Hml.out
     have h6:=(zN ha).2.2.1
     rw [List.take_of_length_le (by omega)] at h1 h2
     cases a
     simp only [Aut.mk.injEq]
     exact⟨h4.symm,h1,h2⟩)
    go_wp2_with fail
    refine (zbx (a:=⟨al,ls,acc⟩) hat).mono ?_
    rintro e w4 ⟨tx,rfl,htx,hx4⟩
    have hacc4:=zhK.more hx4
    have bz4:=bz3.ext hx4
    have cz:=bz4.cell
    have fz:=bz4.frozen
    have cG4:=hacc4.blk.cell
    clear cG
    cases hne:tx.toList==x.toList
    ·have hno4:=za (zcy (x:=x) (Z:=w.heap.size) ((hx0.trans zhK.ext).trans hx4) (Nat.le_refl _) (fun a ha he=>by
      have e:=HE.out a ha he
      rw [ByteArray.toList_eq,ByteArray.toList_eq,htx.out,e,he] at hne
      simp at hne))
     exact yU12a3
    ·have hyes:=za (show ParsX x true ⟨al,ls,acc⟩ from by
      have h1:zcd ⟨al,ls,acc⟩=x.data.toList:=by
       rw [ByteArray.toList_eq,ByteArray.toList_eq,htx.out] at hne
       exact eq_of_beq hne
      refine .inl ⟨rfl,?_,h1⟩
      cases hv:zh (⟨al,ls,acc⟩:Aut) with
      |true=>rfl
      |false =>
       unfold zcd at h1
       rw [hv] at h1
       exact absurd h1.symm Hne.out)
     have hF:=zaj w4 w.heap.size (.int .i64 al) (.slice A5 ls.length c5) (.slice B5 acc.length d5)
     obtain⟨f1,-,-⟩:=hacc4.fin hx0 (hF.mono (fun k _ hk=>by have hk':k=w.heap.size:=hk;omega))
     have f2:=zL bz4 rfl (.int .i64 al) (.slice A5 ls.length c5) (.slice B5 acc.length d5)
     have f3:=(hx0.trans hacc4.ext).frm hF (fun k hk e=>by omega)
     go_wp2_with fail
     have cf:=f2.cell
     exact bodyPost_ret (v:=.tuple #[.agg #[.int .i64 al,.slice A5 ls.length c5,.slice B5 acc.length d5],.bool true]) (by simp [results,Tryz.results31,go_sem,cf]) rfl ⟨⟨al,ls,acc⟩,A5,_,c5,B5,_,d5,true,rfl,f1,hyes,f3⟩
theorem zam {lo hi:Nat} {A:Option Addr} {n c:Nat} {A':Option Addr} {n' c':Nat} {hd:Bool} {a:Aut} {s:ByteArray} {w:World}(h:zM w lo hi A n A' n' a)(hs:s.size≤2000000) :
  Calls Tryz.prog 7 #[.agg #[.bool hd,.int .i64 a.al,.slice A n c,.slice A' n' c',.string s]] w (zgO (zea hd a s) w):=by
 have HV:=za (fun W (hW:Ext w W)=>zcN _ _ _ _ c _ _ c' hd _ s W (h.ext hW) (by omega))
 have HF:=za (fun W (hW:Ext w W)=>zbx (c:=c) (c':=c') (h.ext hW))
 have Hl:=za (zhG a)
 cases hv:zw hd a s
 ·rw [hv] at HV
  have H0:=za (txtC_no hv)
  clear h hv
  go_enter Tryz.func7,Tryz.ntmps7
  go_wp2_with (go_at_call 8;refine (HV.out _ ((Ext.refl _).alloc _)).mono ?_;rintro e w1 ⟨rfl,hx⟩)
  go_ret
  exact⟨_,rfl,za H0.out.symm,((Ext.refl _).alloc _).trans hx⟩
 ·rw [hv] at HV
  cases hd
  ·have H0:=za (zeF hv)
   clear h hv
   go_enter Tryz.func7,Tryz.ntmps7
   go_wp2_with fail
   refine (HV.out _ ((Ext.refl _).alloc _)).mono ?_
   rintro e w1 ⟨rfl,hx⟩
   have b1:=zav hx
   have cb:=b1.cell
   have hw1:=((Ext.refl w).alloc _).trans hx
   go_wp2_with fail
   refine (zhb s _).mono ?_
   rintro e w2 ⟨⟨t,rfl,ht,hts⟩,rfl⟩
   have q0:¬ 9223372036854775807<6+t.size:=by omega
   go_wp2_with fail
   go_ret
   exact⟨_,rfl,za (by rw [H0.out];exact zcG rfl ht.out),hw1⟩
  ·have H0:=za (txtC_holds hv)
   clear h hv
   go_enter Tryz.func7,Tryz.ntmps7
   go_wp2_with fail
   refine (HV.out _ ((Ext.refl _).alloc _)).mono ?_
   rintro e w1 ⟨rfl,hx⟩
   have b1:=zav hx
   have cb:=b1.cell
   have hw1:=((Ext.refl w).alloc _).trans hx
   go_wp2_with fail
   refine (HF.out _ hw1).mono ?_
   rintro e w2 ⟨t2,rfl,ht2,hx2⟩
   have hts:t2.size≤300:=by rw [zcZ ht2.out];exact Hl.out
   have q0:¬ 9223372036854775807<6+t2.size:=by omega
   go_wp2_with fail
   go_ret
   exact⟨_,rfl,za (by rw [H0.out];exact zcG rfl ht2.out),hw1.trans hx2⟩
def zgb (s p:ByteArray):Bool:=decide (p.size≤s.size)&&((s.extract 0 p.size).toList==p.toList)
theorem zhe (s p:ByteArray) (w:World):Calls Tryz.prog 113 #[.string s,.string p] w fun e w'=>e=.returned (.bool (zgb s p))∧w=w':=by
 by_cases h:p.size≤s.size
 ·have h':(p.size:Int)≤(s.size:Int):=by omega
  have hP:=za (show zgb s p=((s.extract 0 p.size).toList==p.toList) by simp [zgb,h])
  go_enter Tryz.func113,Tryz.ntmps113
  go_wp2
  go_ret
  exact⟨zm (by rw [hP.out]),rfl⟩
 ·have h':¬ ((p.size:Int)≤(s.size:Int)):=by omega
  have hP:=za (show zgb s p=false by simp [zgb,h])
  go_enter Tryz.func113,Tryz.ntmps113
  go_wp2
  go_ret
  exact⟨zm (by rw [hP.out]),rfl⟩
theorem hasP_le {s p:ByteArray}(h:zgb s p=true):p.size≤s.size:=by
 unfold zgb at h
 rw [Bool.and_eq_true,decide_eq_true_eq] at h
 exact h.1
def RetCp (s p:ByteArray) (w:World) (e:Ending) (w':World):Prop:=e=.returned (.tuple #[.string (if zgb s p=true then s.extract p.size s.size else s),.bool (zgb s p)])∧w=w'
theorem zfM (s p:ByteArray) (w:World):Calls Tryz.prog 63 #[.string s,.string p] w (RetCp s p w):=by
 have hh:=za (zhe s p)
 cases h:zgb s p
 ·rw [h] at hh
  have hP:=za h
  go_enter Tryz.func63,Tryz.ntmps63
  go_wp2_with (go_at_call 113;refine (hh.out _).mono ?_;rintro e w' ⟨rfl,rfl⟩)
  exact bodyPost_ret (v:=.tuple #[.string s,.bool false]) (by simp [results,Tryz.results63,go_sem]) rfl ⟨by rw [hP.out];rfl,rfl⟩
 ·rw [h] at hh
  have hP:=za h
  have hl:=hasP_le h
  have hl':(p.size:Int)≤(s.size:Int):=by omega
  clear h
  go_enter Tryz.func63,Tryz.ntmps63
  go_wp2_with (go_at_call 113;refine (hh.out _).mono ?_;rintro e w' ⟨rfl,rfl⟩)
  exact bodyPost_ret (v:=.tuple #[.string (s.extract p.size s.size),.bool true]) (by simp [results,Tryz.results63,go_sem]) rfl ⟨by rw [hP.out];rfl,rfl⟩
theorem zek (s p:ByteArray) (w:World):Calls Tryz.prog 30 #[.string s,.string p] w (RetCp s p w):=by
 obtain⟨y,hy⟩:∃ y,Hid ((if zgb s p=true then s.extract p.size s.size else s)=y):=⟨_,za rfl⟩
 obtain⟨b,hb⟩:∃ b,Hid (zgb s p=b):=⟨_,za rfl⟩
 have hh:=za (fun W=>zfM s p W)
 unfold RetCp at hh ⊢
 rw [hy.out,hb.out] at hh ⊢
 go_enter Tryz.func30,Tryz.ntmps30
 go_wp2_with (go_at_call 63;refine (hh.out _).mono ?_;rintro e w' ⟨rfl,rfl⟩)
 exact bodyPost_ret (v:=.tuple #[.string y,.bool b]) (by simp [results,Tryz.results30,go_sem]) rfl ⟨rfl,rfl⟩
theorem pre_yes {x p:ByteArray} {P:List UInt8}(hp:p.data.toList=P)(h6:P.length=6)(h:zgb x p=true):x.data.toList=P++(x.extract 6 x.size).data.toList:=by
 have hs:p.size=6:=by rw [← h6,← hp];rfl
 unfold zgb at h
 rw [Bool.and_eq_true,hs,ByteArray.toList_eq,ByteArray.toList_eq,hp] at h
 exact six_join (eq_of_beq h.2)
theorem pre_no {x p:ByteArray} {P:List UInt8}(hp:p.data.toList=P)(h6:P.length=6)(h:zgb x p=false):∀ r,x.data.toList≠P++r:=by
 intro r e
 have hs:p.size=6:=by rw [← h6,← hp];rfl
 have e2:x.data.toList.length=x.size:=rfl
 have hl:6≤x.size:=by rw [← e2,e,List.length_append,h6];omega
 unfold zgb at h
 rw [hs,ByteArray.toList_eq,ByteArray.toList_eq,hp,six_head h6 e] at h
 simp [hl] at h
theorem yU12c1 {P:Prop}(h:P:=by
 go_wp2_with fail
 have c4:=r4.cell
 exact bodyPost_ret (v:=.tuple #[.agg #[.bool false,.int .i64 0,.slice none 0 0,.slice none 0 0,.string ⟨#[]⟩],.bool false]) (by simp [results,Tryz.results11,go_sem,c4]) rfl zhM.out
 ):P:=h
theorem yU12b1 {P:Prop}(h:P:=by
 have zhM:=zdo (Z:=w.heap.size) (K:=w.heap.size+1) (A:=none) (n:=0) (c:=0) (A':=none) (n':=0) (c':=0) hw1 (Nat.le_refl _) (Nat.lt_succ_self _) (zar _ _) (zdM hcand.out (zdW hne htx.out))
 have r4:=zA bz1 rfl (.bool false) (.int .i64 0) (.slice none 0 0) (.slice none 0 0) (.string ⟨#[]⟩)
 exact yU12c1
 ):P:=h
theorem yU12a1 {P:Prop}(h:P:=by
 have ho1:=zar w1 (w.heap.size+1)
 have cG:=bG.cell
 go_upto_region 99 with fail
 refine (zam (a:=⟨0,[],[]⟩) (ho1.reads) (show (⟨#[]⟩:ByteArray).size≤2000000 by decide)).mono ?_
 rintro e w9 ⟨tx,rfl,htx,hx9⟩
 clear cG
 replace bG:=bG.ext hx9
 replace bz1:=bz1.ext hx9
 replace ho1:=ho1.ext hx9
 replace hw1:=hw1.trans hx9
 have cG:=bG.cell
 have cz:=bz1.cell
 have fz:=bz1.frozen
 cases hne:tx.toList==x.toList
 ·exact yU12b1
 ·have zhM:=zdo (Z:=w.heap.size) (K:=w.heap.size+1) hw1 (Nat.le_refl _) (Nat.lt_succ_self _) ho1 (zcw hxne (zdV hne htx.out))
  have r4:=zA bz1 rfl (.bool false) (.int .i64 0) (.slice none 0 0) (.slice none 0 0) (.string ⟨#[]⟩)
  go_wp2_with fail
  have c4:=r4.cell
  exact bodyPost_ret (v:=.tuple #[.agg #[.bool false,.int .i64 0,.slice none 0 0,.slice none 0 0,.string ⟨#[]⟩],.bool true]) (by simp [results,Tryz.results11,go_sem,c4]) rfl zhM.out
 ):P:=h
theorem yU12a2 {P:Prop}(h:P:=by
 exact yU12b1
 ):P:=h
theorem impl_ParseCertificateX {x:ByteArray} {w:World}(hx:x.size≤2000000)(hE:Sent w) :
  Calls Tryz.prog 11 #[.string x] w (RetPC x w):=by
 have HE:=za (fun W (hW:Ext w W)=>hE.ext hW)
 clear hE
 have hw1:Ext w ((w.alloc (.cells #[.bool false,.int .i64 0,.slice none 0 0,.slice none 0 0,.string ⟨#[]⟩] 28)).alloc (.cells #[.bool false,.int .i64 0,.slice none 0 0,.slice none 0 0,.string ⟨#[]⟩] 28)):=((Ext.refl w).alloc _).alloc _
 obtain⟨bz1,bG⟩:=zR (Ext.refl ((w.alloc (.cells #[.bool false,.int .i64 0,.slice none 0 0,.slice none 0 0,.string ⟨#[]⟩] 28)).alloc (.cells #[.bool false,.int .i64 0,.slice none 0 0,.slice none 0 0,.string ⟨#[]⟩] 28)))
 have hs1:w.heap.size+1+1≤((w.alloc (.cells #[.bool false,.int .i64 0,.slice none 0 0,.slice none 0 0,.string ⟨#[]⟩] 28)).alloc (.cells #[.bool false,.int .i64 0,.slice none 0 0,.slice none 0 0,.string ⟨#[]⟩] 28)).heap.size:=by simp
 have HH:=za (fun W=>zek x ⟨#[104,111,108,100,115,32]⟩ W)
 have HF:=za (fun W=>zek x ⟨#[102,97,105,108,115,32]⟩ W)
 have hr:(x.extract 6 x.size).size≤2000000:=by rw [ByteArray.size_extract];omega
 go_enter Tryz.func11,Tryz.ntmps11
 go_upto_region 2 with fail
 generalize (w.alloc (.cells #[.bool false,.int .i64 0,.slice none 0 0,.slice none 0 0,.string ⟨#[]⟩] 28)).alloc (.cells #[.bool false,.int .i64 0,.slice none 0 0,.slice none 0 0,.string ⟨#[]⟩] 28)=w1 at *
 cases he:x.toList.isEmpty
 ·have hxne:=zcR he
  cases hh:zgb x ⟨#[104,111,108,100,115,32]⟩
  ·have hnh:=pre_no (x:=x) (P:=zbw) rfl rfl hh
   unfold RetCp at HH
   rw [hh] at HH
   cases hf:zgb x ⟨#[102,97,105,108,115,32]⟩
   ·have hnf:=pre_no (x:=x) (P:=zbV) rfl rfl hf
    unfold RetCp at HF
    rw [hf] at HF
    have hcand:=za (show ∀ hd' a' t',zw hd' a' t'=true→zea hd' a' t'=x.data.toList→false=hd'∧(⟨0,[],[]⟩:Aut)=a'∧(⟨#[]⟩:ByteArray)=t' from fun hd a t hv e=>by
     obtain⟨-,-,-,h4⟩:=zgv hnh hv e
     exact absurd h4 (hnf _))
    go_wp2_with fail
    refine (HH.out _).mono ?_
    rintro e w' ⟨rfl,rfl⟩
    go_wp2_with fail
    refine (HF.out _).mono ?_
    rintro e w' ⟨rfl,rfl⟩
    clear hnh hnf hh hf HH HF
    exact yU12a1
   ·unfold RetCp at HF
    rw [hf] at HF
    have hrr:∀ l,x.data.toList=zbV++l→(x.extract 6 x.size).data.toList=l:=fun l e=>six_rest rfl e
    have hsz6:(⟨#[102,97,105,108,115,32]⟩:ByteArray).size=6:=rfl
    cases hdd:(x.extract 6 x.size).toList==[45]
    ·have hcand:=za (zdh (t:=x.extract 6 x.size) hnh hrr (by
      rw [if_neg]
      intro e
      rw [ByteArray.toList_eq,e] at hdd
      simp at hdd))
     have fG:=bG.frozen
     have cG:=bG.cell
     go_wp2_with fail
     refine (HH.out _).mono ?_
     rintro e w' ⟨rfl,rfl⟩
     go_wp2_with fail
     refine (HF.out _).mono ?_
     rintro e w' ⟨rfl,rfl⟩
     go_upto_region 9 with fail
     have hb4:Blk (w1.setCell ⟨w.heap.size+1,4,none⟩ (.string (x.extract 6 x.size))) (w.heap.size+1) 28 #[.bool false,.int .i64 0,.slice none 0 0,.slice none 0 0,.string (x.extract 6 x.size)]:=by simpa using bG.set_ 4 (.string (x.extract 6 x.size))
     replace bz1:=bz1.far (p:=⟨w.heap.size+1,4,none⟩) (by simp) (.string (x.extract 6 x.size))
     replace hw1:=hw1.setCell (p:=⟨w.heap.size+1,4,none⟩) (show w.heap.size≤w.heap.size+1 by omega) (.string (x.extract 6 x.size))
     clear bG fG cG hnh hrr hdd hh hf HH HF hs1
     generalize w1.setCell ⟨w.heap.size+1,4,none⟩ (.string (x.extract 6 x.size))=w2 at *
     have bG:=hb4
     clear hb4
     generalize x.extract 6 x.size=t at *
     have ho1:=zar w2 (w.heap.size+1)
     have cG:=bG.cell
     go_upto_region 99 with fail
     refine (zam (a:=⟨0,[],[]⟩) (ho1.reads) hr).mono ?_
     rintro e w9 ⟨tx,rfl,htx,hx9⟩
     clear cG
     replace bG:=bG.ext hx9
     replace bz1:=bz1.ext hx9
     replace ho1:=ho1.ext hx9
     replace hw1:=hw1.trans hx9
     have cG:=bG.cell
     have cz:=bz1.cell
     have fz:=bz1.frozen
     cases hne:tx.toList==x.toList
     ·exact yU12a2
     ·have zhM:=zdo (Z:=w.heap.size) (K:=w.heap.size+1) hw1 (Nat.le_refl _) (Nat.lt_succ_self _) ho1 (zcw hxne (zdV hne htx.out))
      have r4:=zA bz1 rfl (.bool false) (.int .i64 0) (.slice none 0 0) (.slice none 0 0) (.string t)
      go_wp2_with fail
      have c4:=r4.cell
      exact bodyPost_ret (v:=.tuple #[.agg #[.bool false,.int .i64 0,.slice none 0 0,.slice none 0 0,.string t],.bool true]) (by simp [results,Tryz.results11,go_sem,c4]) rfl zhM.out
    ·have hcand:=za (zdh (t:=⟨#[]⟩) hnh hrr (by
      rw [if_pos]
      rw [ByteArray.toList_eq] at hdd
      exact eq_of_beq hdd))
     go_wp2_with fail
     refine (HH.out _).mono ?_
     rintro e w' ⟨rfl,rfl⟩
     go_wp2_with fail
     refine (HF.out _).mono ?_
     rintro e w' ⟨rfl,rfl⟩
     go_upto_region 9 with fail
     clear hnh hrr hdd hh hf HH HF
     exact yU12a1
  ·have hjoin:=pre_yes (x:=x) (P:=zbw) rfl rfl hh
   unfold RetCp at HH
   rw [hh] at HH
   have fG:=bG.frozen
   have cG:=bG.cell
   go_wp2_with fail
   refine (HH.out _).mono ?_
   rintro e w' ⟨rfl,rfl⟩
   go_upto_region 5 with fail
   have hb4:Blk (w1.setCell ⟨w.heap.size+1,0,none⟩ (.bool true)) (w.heap.size+1) 28 #[.bool true,.int .i64 0,.slice none 0 0,.slice none 0 0,.string ⟨#[]⟩]:=by simpa using bG.set_ 0 (.bool true)
   replace bz1:=bz1.far (p:=⟨w.heap.size+1,0,none⟩) (by simp) (.bool true)
   replace hw1:=hw1.setCell (p:=⟨w.heap.size+1,0,none⟩) (show w.heap.size≤w.heap.size+1 by omega) (.bool true)
   have hs2:w.heap.size+1+1≤(w1.setCell ⟨w.heap.size+1,0,none⟩ (.bool true)).heap.size:=by simpa [World.setCell] using hs1
   clear bG fG cG hh HH HF hs1
   generalize w1.setCell ⟨w.heap.size+1,0,none⟩ (.bool true)=w2 at *
   have bG:=hb4
   clear hb4
   have cG:=bG.cell
   go_upto_region 99 with fail
   refine (zdn (x:=x.extract 6 x.size) hr (HE.out _ hw1)).mono ?_
   rintro e w3 ⟨b,A,n,c,A',n',c',ok,rfl,ho,hp,hx3⟩
   have hcand:=za (zgx hjoin hp.out)
   clear cG hjoin hp
   replace bG:=bG.ext hx3
   replace bz1:=bz1.ext hx3
   replace hw1:=hw1.trans hx3
   replace ho:=ho.less hs2
   clear hx3 hs2
   have cG:=bG.cell
   have fG:=bG.frozen
   go_upto_region 9 with fail
   clear cG fG
   have hb4:Blk (((w3.setCell ⟨w.heap.size+1,1,none⟩ (.int .i64 b.al)).setCell ⟨w.heap.size+1,2,none⟩ (.slice A n c)).setCell ⟨w.heap.size+1,3,none⟩ (.slice A' n' c')) (w.heap.size+1) 28 #[.bool true,.int .i64 b.al,.slice A n c,.slice A' n' c',.string ⟨#[]⟩]:=by
    simpa using ((bG.set_ 1 (.int .i64 b.al)).set_ 2 (.slice A n c)).set_ 3 (.slice A' n' c')
   have hf:Frm (fun k=>k=w.heap.size+1) w3 (((w3.setCell ⟨w.heap.size+1,1,none⟩ (.int .i64 b.al)).setCell ⟨w.heap.size+1,2,none⟩ (.slice A n c)).setCell ⟨w.heap.size+1,3,none⟩ (.slice A' n' c')):=((Frm.setCell w3 (w.heap.size+1) 1 _).trans (Frm.setCell _ (w.heap.size+1) 2 _)).trans (Frm.setCell _ (w.heap.size+1) 3 _)
   replace bz1:=bz1.frm hf (by omega)
   have ho1:=(ho.keep hf (fun k h1 e=>by have e':k=w.heap.size+1:=e;omega)).less (show w.heap.size+1≤w.heap.size+1+1 by omega)
   replace hw1:=hw1.frm hf (fun k hk e=>by have e':k=w.heap.size+1:=e;omega)
   clear bG ho hf
   generalize ((w3.setCell ⟨w.heap.size+1,1,none⟩ (.int .i64 b.al)).setCell ⟨w.heap.size+1,2,none⟩ (.slice A n c)).setCell ⟨w.heap.size+1,3,none⟩ (.slice A' n' c')=w4 at *
   have bG:=hb4
   clear hb4
   have cG:=bG.cell
   go_upto_region 99 with fail
   refine (zam (a:=b) (ho1.reads) (show (⟨#[]⟩:ByteArray).size≤2000000 by decide)).mono ?_
   rintro e w9 ⟨tx,rfl,htx,hx9⟩
   clear cG
   replace bG:=bG.ext hx9
   replace bz1:=bz1.ext hx9
   replace ho1:=ho1.ext hx9
   replace hw1:=hw1.trans hx9
   have cG:=bG.cell
   have cz:=bz1.cell
   have fz:=bz1.frozen
   cases hne:tx.toList==x.toList
   ·exact yU12a2
   ·have zhM:=zdo (Z:=w.heap.size) (K:=w.heap.size+1) hw1 (Nat.le_refl _) (Nat.lt_succ_self _) ho1 (zcw hxne (zdV hne htx.out))
    have r4:=zA bz1 rfl (.bool true) (.int .i64 b.al) (.slice A n c) (.slice A' n' c') (.string ⟨#[]⟩)
    go_wp2_with fail
    have c4:=r4.cell
    exact bodyPost_ret (v:=.tuple #[.agg #[.bool true,.int .i64 b.al,.slice A n c,.slice A' n' c',.string ⟨#[]⟩],.bool true]) (by simp [results,Tryz.results11,go_sem,c4]) rfl zhM.out
 ·have hx0:=zeh he
  have hhf:zgb x ⟨#[104,111,108,100,115,32]⟩=false:=by
   cases h:zgb x ⟨#[104,111,108,100,115,32]⟩
   ·rfl
   ·have:=pre_yes (x:=x) (P:=zbw) rfl rfl h
    rw [hx0] at this
    cases this
  have hff:zgb x ⟨#[102,97,105,108,115,32]⟩=false:=by
   cases h:zgb x ⟨#[102,97,105,108,115,32]⟩
   ·rfl
   ·have:=pre_yes (x:=x) (P:=zbV) rfl rfl h
    rw [hx0] at this
    cases this
  unfold RetCp at HH HF
  rw [hhf] at HH
  rw [hff] at HF
  have zhM:=zdo (Z:=w.heap.size) (K:=w.heap.size+1) (A:=none) (n:=0) (c:=0) (A':=none) (n':=0) (c':=0) hw1 (Nat.le_refl _) (Nat.lt_succ_self _) (zar _ _) (pars_empty hx0)
  have cz:=bz1.cell
  have fz:=bz1.frozen
  have r4:=zA bz1 rfl (.bool false) (.int .i64 0) (.slice none 0 0) (.slice none 0 0) (.string ⟨#[]⟩)
  go_wp2_with fail
  refine (HH.out _).mono ?_
  rintro e w' ⟨rfl,rfl⟩
  go_wp2_with fail
  refine (HF.out _).mono ?_
  rintro e w' ⟨rfl,rfl⟩
  exact yU12c1
section
variable {lo hi lo' hi' n c m d n' c' m' d':Nat} {A B A' B':Option Addr} {w:World}
theorem yU12a5 {P:Prop}(h:P:=by
 obtain rfl:x=y:=Option.some.inj (hx.out.symm.trans hy.out)
 go_wp2
 go_quiet (fail)
 go_wp2
 go_roundw
 case rel=>exact⟨k+1,by omega,by go_num,zhL.drewN _⟩
 case measure=>simp [intOf];omega
 ):P:=h
theorem agIntsI_same {l:List Int}(h:Reads w lo hi 1 A n (ints l))(h':Reads w lo' hi' 1 B m (ints l)) :
  Calls Tryz.prog 68 #[.slice A n c,.slice B m d] w fun e w'=>e=.returned (.bool true)∧Ext w w':=by
 have hn:=h.len
 have e1:=h.length
 have e2:=h'.length
 rw [zfA] at e1 e2
 obtain rfl:n=m:=by omega
 clear e1 e2
 have HR:=za (fun W (hW:Ext w W)=>h.ext hW)
 have HR':=za (fun W (hW:Ext w W)=>h'.ext hW)
 go_enter Tryz.func68,Tryz.ntmps68
 go_wp2
 go_loopw [5] (fun v wr=>∃ k:Nat,k≤n∧v=.int .i64 k∧Ext w wr) (fun v _=>n - (intOf v).toNat)
 case atStart=>exact⟨0,Nat.zero_le _,rfl,Ext.refl _⟩
 case round =>
  obtain⟨k,hk,rfl,zhL⟩:=hrel
  by_cases hlt:k<n
  ·obtain⟨ad,x,rfl,_,_,hx,hc⟩:=(HR.out wr zhL).int hlt
   obtain⟨ad',y,rfl,_,_,hy,hc'⟩:=(HR'.out wr zhL).int hlt
   exact yU12a5
  ·obtain rfl:k=n:=by omega
   go_wp2
   go_ret
   exact⟨rfl,zhL⟩
theorem agBools_same {l:List Bool}(h:Reads w lo hi 1 A n (zas l))(h':Reads w lo' hi' 1 B m (zas l)) :
  Calls Tryz.prog 67 #[.slice A n c,.slice B m d] w fun e w'=>e=.returned (.bool true)∧Ext w w':=by
 have hn:=h.len
 have e1:=h.length
 have e2:=h'.length
 rw [bools_length] at e1 e2
 obtain rfl:n=m:=by omega
 clear e1 e2
 have HR:=za (fun W (hW:Ext w W)=>h.ext hW)
 have HR':=za (fun W (hW:Ext w W)=>h'.ext hW)
 go_enter Tryz.func67,Tryz.ntmps67
 go_wp2
 go_loopw [5] (fun v wr=>∃ k:Nat,k≤n∧v=.int .i64 k∧Ext w wr) (fun v _=>n - (intOf v).toNat)
 case atStart=>exact⟨0,Nat.zero_le _,rfl,Ext.refl _⟩
 case round =>
  obtain⟨k,hk,rfl,zhL⟩:=hrel
  by_cases hlt:k<n
  ·obtain⟨ad,x,rfl,_,_,hx,hc⟩:=(HR.out wr zhL).bool hlt
   obtain⟨ad',y,rfl,_,_,hy,hc'⟩:=(HR'.out wr zhL).bool hlt
   exact yU12a5
  ·obtain rfl:k=n:=by omega
   go_wp2
   go_ret
   exact⟨rfl,zhL⟩
theorem zfp {a:Aut}(h:zM w lo hi A n A' n' a)(h':zM w lo' hi' B m B' m' a) :
  Calls Tryz.prog 32 #[.agg #[.int .i64 a.al,.slice A n c,.slice A' n' c'],.agg #[.int .i64 a.al,.slice B m d,.slice B' m' d']] w fun e w'=>e=.returned (.bool true)∧Ext w w':=by
 have hn:=h.1.len
 obtain rfl:n=m:=h.1.1.trans h'.1.1.symm
 have HR:=za (fun W (hW:Ext w W)=>h.1.ext hW)
 have HR':=za (fun W (hW:Ext w W)=>h'.1.ext hW)
 have HB:=za (fun W (hW:Ext w W)=>agBools_same (c:=c') (d:=d') (h.2.2.ext hW) (h'.2.2.ext hW))
 clear h h'
 have hx0:Ext w ((w.alloc (.cells #[.int .i64 a.al,.slice A n c,.slice A' n' c'] 26)).alloc (.cells #[.int .i64 a.al,.slice B n d,.slice B' m' d'] 26)):=((Ext.refl _).alloc _).alloc _
 obtain⟨b1,b2⟩:=zR (Ext.refl ((w.alloc (.cells #[.int .i64 a.al,.slice A n c,.slice A' n' c'] 26)).alloc (.cells #[.int .i64 a.al,.slice B n d,.slice B' m' d'] 26)))
 go_enter Tryz.func32,Tryz.ntmps32
 go_upto_region 1 with fail
 generalize (w.alloc (.cells #[.int .i64 a.al,.slice A n c,.slice A' n' c'] 26)).alloc (.cells #[.int .i64 a.al,.slice B n d,.slice B' m' d'] 26)=w0 at *
 have cA:=b1.cells
 have cB:=b2.cells
 have hww:=Ext.refl w0
 go_wp2_with (first
  |(go_at_call 67;refine (HB.out _ hx0).mono ?_;rintro e w1 ⟨rfl,hx1⟩))
 go_loopw [5] (fun v wr=>∃ k:Nat,k≤n∧v=.int .i64 k∧Ext w0 wr) (fun v _=>n - (intOf v).toNat)
 case atStart=>exact⟨0,Nat.zero_le _,rfl,hx1⟩
 case round =>
  obtain⟨k,hk,rfl,zhL⟩:=hrel
  by_cases hlt:k<n
  ·obtain⟨ad,Ak,ck,l,rfl,_,_,hx,hc,hr⟩:=(HR.out wr (hx0.trans zhL)).row hlt
   obtain⟨ad',Bk,dk,l',rfl,_,_,hy,hc',hr'⟩:=(HR'.out wr (hx0.trans zhL)).row hlt
   obtain rfl:l=l':=Option.some.inj (hx.out.symm.trans hy.out)
   have HI:=za (fun W (hW:Ext wr W)=>agIntsI_same (c:=ck) (d:=dk) (hr.ext hW) (hr'.ext hW))
   clear hr hr'
   have hwr:=Ext.refl wr
   have cx:=fun W (hW:Ext wr W)=>hW.cell_some hc
   have cy:=fun W (hW:Ext wr W)=>hW.cell_some hc'
   have cAr:∀ W,Ext wr W→∀ j,W.cell? ⟨w.heap.size,j,none⟩=#[Value.int .i64 a.al,.slice (some ad) n c,.slice A' n' c'][j]?:=fun W hW=>cA W (zhL.trans hW)
   have cBr:∀ W,Ext wr W→∀ j,W.cell? ⟨w.heap.size+1,j,none⟩=#[Value.int .i64 a.al,.slice (some ad') n d,.slice B' m' d'][j]?:=fun W hW=>cB W (zhL.trans hW)
   go_upto_region 6 with fail
   refine uR (fun X=>Ext wr X) [10] (zK.of [0,1,2,3,4,5,6,7,8,9,10,11]) ?_
   refine uQ ?_
   refine zg fun K hK=>?_
   go_simp
   refine (HI.out _ hwr.drew).mono ?_
   rintro e w2 ⟨rfl,hx2⟩
   refine hK.out _ _ ?_
   refine pT ?_
   refine uQ ?_
   refine zj ?_
   go_wp2_with fail
   go_roundw
   case rel=>exact⟨k+1,by omega,by go_num,zhL.trans (hwr.drew.trans hx2)⟩
   case measure=>simp [intOf];omega
  ·obtain rfl:k=n:=by omega
   go_wp2_with fail
   go_ret
   exact⟨rfl,hx0.trans zhL⟩
end
section
variable {lo hi lo' hi' n c m d n' c' m' d':Nat} {A B A' B':Option Addr} {w:World}
theorem agCert_same {hd:Bool} {a:Aut} {x:ByteArray}(h:zM w lo hi A n A' n' a)(h':zM w lo' hi' B m B' m' a) :
  Calls Tryz.prog 12 #[.agg #[.bool hd,.int .i64 a.al,.slice A n c,.slice A' n' c',.string x],.agg #[.bool hd,.int .i64 a.al,.slice B m d,.slice B' m' d',.string x]] w fun e w'=>e=.returned (.bool true)∧Ext w w':=by
 have HA:=za (fun W (hW:Ext w W)=>zfp (c:=c) (c':=c') (d:=d) (d':=d') (h.ext hW) (h'.ext hW))
 clear h h'
 have hx0:Ext w ((w.alloc (.cells #[.bool hd,.int .i64 a.al,.slice A n c,.slice A' n' c',.string x] 28)).alloc (.cells #[.bool hd,.int .i64 a.al,.slice B m d,.slice B' m' d',.string x] 28)):=((Ext.refl _).alloc _).alloc _
 obtain⟨b1,b2⟩:=zR (Ext.refl ((w.alloc (.cells #[.bool hd,.int .i64 a.al,.slice A n c,.slice A' n' c',.string x] 28)).alloc (.cells #[.bool hd,.int .i64 a.al,.slice B m d,.slice B' m' d',.string x] 28)))
 have hbe:(hd==hd)=true:=by simp
 have hbn:(!hd==hd)=false:=by cases hd<;>rfl
 go_enter Tryz.func12,Tryz.ntmps12
 go_upto_region 1 with fail
 generalize (w.alloc (.cells #[.bool hd,.int .i64 a.al,.slice A n c,.slice A' n' c',.string x] 28)).alloc (.cells #[.bool hd,.int .i64 a.al,.slice B m d,.slice B' m' d',.string x] 28)=w0 at *
 have cA:=b1.cells
 have cB:=b2.cells
 have hww:=Ext.refl w0
 clear b1 b2
 go_wp2_with (first
  |(go_at_call 32;with_reducible refine (HA.out _ hx0).mono ?_;rintro e w1 ⟨rfl,hx1⟩))
 go_ret
 exact⟨rfl,hx0.trans hx1⟩
end
end Go.Proofs.YtfcjhpodichpjaaGreatDoor
namespace Go.Proofs.YtfcjhpodichpjaaGreatDoor
open Go Go.ChangeShapes Go.WideShapes Go.ChangeAt Go.RowKit Go.Deep
def BytesAt (w:World) (A:Option Addr) (n c:Nat):Prop:=Bytes w A n∧n≤9223372036854775807∧n≤c∧c≤9223372036854775807
theorem arg_bytes {H:Type} {enc:TypeId × Value→H} {w:World} {spare:Nat→Bool} {held:Bool} {r:Reach} {b0:Nat} {v:Value} {d:DataW H} {p:List MemPlace}(hv:Value.okWide Tryz.prog w r b0 22 v)(h:DataW.Trod enc Tryz.prog w 0 spare held 22 v d p) :
  ∃ (A:Option Addr) (n c:Nat),v=.slice A n c∧BytesAt w A n c:=by
 obtain⟨a,l,k,rfl⟩:=okWide_slice Tryz.underlying22 hv
 obtain⟨fuel,hf⟩:=h
 rcases open_slice1 Tryz.underlying22 (by kernel_rfl) hf with ⟨h0,_⟩|⟨ad,len,cap,m,n,V,D,Pl,h0,hb,hl,hm,hmm,_,hx⟩
 ·simp [Value.cells] at h0
  obtain⟨rfl,rfl,rfl⟩:=h0
  exact⟨_,_,_,rfl,fun h=>absurd h (by omega),by omega,Nat.le_refl _,by omega⟩
 ·simp [Value.cells] at h0
  obtain⟨rfl,rfl,rfl⟩:=h0
  unfold maxLen at hm
  have hlm:l≤m:=by rw [hmm];split<;>omega
  refine⟨_,_,_,rfl,fun hn=>?_,by omega,hl,by omega⟩
  have h1:=(hx 0 (by omega)).1
  have hs:=zcJ h1
  have hlt:=World.block_lt_of_cell? w _ h1
  rw [zgt] at hlt
  refine⟨ad.block,ad.off,by rw [← hs],hlt,fun j hj=>?_⟩
  obtain⟨h2,h3⟩:=hx j (by omega)
  obtain⟨b,hb1,_,hb3⟩:=DataW.trod_int Tryz.underlying5 h3
  have hV:V j=.int .u8 b:=by simpa using hb1
  rw [hV,hs,zH] at h2
  have hw:0≤b∧b<256:=by
   simp only [Lit.wf,Bool.and_eq_true,decide_eq_true_eq] at hb3
   have h4:IntKind.u8.min=0:=rfl
   have h5:IntKind.u8.max=255:=rfl
   omega
  refine⟨b.toNat,by omega,?_⟩
  rw [h2]
  have:((b.toNat:Nat):Int)=b:=by omega
  rw [this]
end Go.Proofs.YtfcjhpodichpjaaGreatDoor
