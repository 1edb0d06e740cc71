/- Drawn automata: a variable that holds an automaton which grows beside a source. | spec.l3Random, walked. | Drawn automata whose cells turn; spec.l3Safe, walked. | spec.l2Texts, spec.l2Draw, walked. | spec.l1Some, spec.l3Over and spec.l8Property, walked. | Drawn automata: further steps of a variable that holds one. | spec.l6Change, walked. | spec.l2Wrong, walked. | spec.l3Wrong, walked. | spec.l19Cut at commas, walked (printed from XCut). | spec.l3Parse, by its shape, walked. | spec.FormatAutomaton, by its shape alone, walked. | spec.l19Cut at blanks hands back one string at the least (printed -/
import Derived.Test.YtndhahednhnnbaaGreatDoorH07
import Derived.Test.YtndhahednhnnbaaGreatDoorH08
import Derived.Test.YtndhahednhnnbaaGreatDoorH12
import Derived.Deep.DeepCutAuto
import Derived.Laws.StructEq
import Derived.Deep.CutBlock
import Derived.Test.YtndhahednhnnbaaGreatDoorH01
namespace Go.Proofs.YtndhahednhnnbaaGreatDoor
open Go Go.RowKit
set_option maxHeartbeats 2000000
theorem zH.snoc2 {w:World} {base N:Nat} {rows:List Value} {ls:List (List Int)} {row:Value} {l:List Int}(h:zH w base rows ls)(hlow:∀ (i:Nat) (r:Value) (b:Nat),rows[i]?=some r→r.ownBlock=some b→b<N)(hN:base≤N)(hrow:w.ownsRow N 3 1 row l.length (ints l)) :
  zH w base (rows++[row]) (ls++[l]):=by
 have hlen:=h.1
 refine⟨by simp [hlen],fun i r m hr hm=>?_,fun i j ri rj b hri hrj hij hbi=>?_⟩
 ·rcases Nat.lt_trichotomy i rows.length with hi|hi|hi
  ·rw [List.getElem?_append_left hi] at hr
   rw [List.getElem?_append_left (by omega)] at hm
   exact h.2.1 i r m hr hm
  ·rw [List.getElem?_append_right (by omega),hi,Nat.sub_self] at hr
   rw [List.getElem?_append_right (by omega),hi,hlen,Nat.sub_self] at hm
   simp at hr hm
   subst hr;subst hm
   exact zn hrow hN
  ·rw [List.getElem?_eq_none (by simp;omega)] at hr;cases hr
 ·have new:∀ b,row.ownBlock=some b→N≤b:=fun b hb=>(hrow.lt b hb).1
  have hi:i≤rows.length:=by have:=(List.getElem?_eq_some_iff.1 hri).1;simp at this;omega
  have hj:j≤rows.length:=by have:=(List.getElem?_eq_some_iff.1 hrj).1;simp at this;omega
  rcases Nat.lt_or_eq_of_le hi with hi|hi<;>rcases Nat.lt_or_eq_of_le hj with hj|hj
  ·rw [List.getElem?_append_left hi] at hri
   rw [List.getElem?_append_left hj] at hrj
   exact h.2.2 i j ri rj b hri hrj hij hbi
  ·rw [List.getElem?_append_left hi] at hri
   subst hj
   simp at hrj
   subst hrj
   intro hc
   have h1:=hlow i ri b hri hbi
   have h2:=new b hc
   omega
  ·rw [List.getElem?_append_left hj] at hrj
   subst hi
   simp at hri
   subst hri
   intro hc
   have h1:=hlow j rj b hrj hc
   have h2:=new b hbi
   omega
  ·omega
def zeT (R M:Nat) (sh:Aut→Prop) (w:World) (e:Ending) (w':World):Prop:=
 ∃ (a:Aut) (A:Option Addr) (n c:Nat) (A':Option Addr) (n' c':Nat),e=.returned (.agg #[.int .i64 a.al,.slice A n c,.slice A' n' c'])∧zK w' w.heap.size A n c A' n' c' a∧Hid (sh a)∧Rd w' R M∧Dr R w w'
structure AccA (w0 W:World) (R G M:Nat) (al:Int) (v:Value) (rows:List Value) (ls:List (List Int)) (vA:Value) (acc:List Bool):Prop where
 blk:Blk W G 27 #[.int .i64 al,v,vA]
 nx:W.ownsRow w0.heap.size 71 1 v ls.length rows
 rows:zH W w0.heap.size rows ls
 acc:W.ownsRow w0.heap.size 4 1 vA acc.length (zaz acc)
 rd:Rd W R M
 dr:Dr R w0 W
 hR:R<w0.heap.size
 hG:w0.heap.size≤G
section
variable {w0 W W':World} {R G M N:Nat} {al:Int} {v vA:Value} {rows:List Value} {ls:List (List Int)} {acc:List Bool}
theorem AccA.drawn (h:AccA w0 W R G M al v rows ls vA acc)(hd:Dr R W W')(hr:Rd W' R N):AccA w0 W' R G N al v rows ls vA acc:=
 ⟨h.blk.dr hd (by have:=h.hR;have:=h.hG;omega),zay h.nx hd (fun b h1 e=>by have:=h.hR;omega),h.rows.keep hd (fun b h1 e=>by have:=h.hR;omega),zay h.acc hd (fun b h1 e=>by have:=h.hR;omega),hr,h.dr.trans hd,h.hR,h.hG⟩
theorem AccA.ext (h:AccA w0 W R G M al v rows ls vA acc)(hx:Ext W W'):AccA w0 W' R G M al v rows ls vA acc:=h.drawn (Ext.dr hx) (h.rd.ext hx)
theorem AccA.more (h:AccA w0 W R G M al v rows ls vA acc)(hM:M≤N):AccA w0 W R G N al v rows ls vA acc:={ h with rd:=h.rd.more hM }
theorem AccA.low (h:AccA w0 W R G M al v rows ls vA acc):∀ (i:Nat) (r:Value) (b:Nat),rows[i]?=some r→r.ownBlock=some b→b<W.heap.size:=fun i r b hr hb=>by
 obtain⟨l,_,ho⟩:=h.rows.row hr
 exact (ho.lt b hb).2
theorem AccA.grown (h:AccA w0 W R G M al v rows ls vA acc) {v0:Value} {e:TypeId} {size k:Nat} {xs:List Value}(ho:W.ownsRow w0.heap.size e size v0 k xs)(hg:W.grownBy W' v0.ownBlock):Dr R w0 W'∧Rd W' R M:=by
 have hRG:=h.hR
 refine⟨h.dr.grown hg (fun k hk=>(ho.lt k hk).1),h.rd.frm (Frm.of_grown hg) (fun k hk hS=>by have:=(ho.lt k hS).1;omega)⟩
theorem AccA.pushRow {row:Value} {l:List Int} {g cap K:Nat}(h:AccA w0 W R G M al v rows ls vA acc)(hlow:∀ (i:Nat) (r:Value) (b:Nat),rows[i]?=some r→r.ownBlock=some b→b<K)(hK:w0.heap.size≤K)(hrow:W.ownsRow K 3 1 row l.length (ints l))
  (hown:W'.ownsRow w0.heap.size 71 1 (.slice (some ⟨g,0,none⟩) (ls.length+1) cap) (ls.length+1) (rows++[row]))
  (hg:W.grownBy W' v.ownBlock) (hat:v.ownBlock=some g∨g=W.heap.size+1) :
  Hid (W'.cell? ⟨G,1,none⟩=some v)∧W'.frozen? ⟨G,1,none⟩=false∧AccA w0 (W'.setCell ⟨G,1,none⟩ (.slice (some ⟨g,0,none⟩) (ls.length+1) cap)) R G M al (.slice (some ⟨g,0,none⟩) (ls.length+1) cap) (rows++[row]) (ls++[l]) vA acc:=by
 have hRG:=h.hR;have hGG:=h.hG
 have hB:Blk W' G 27 #[.int .i64 al,v,vA]:=(hg.block G h.blk.lt (fun e=>zo h.nx h.blk (by decide) e.symm rfl)).trans h.blk
 have hgG:g≠G:=by
  rcases hat with h1|h1
  ·exact zo h.nx h.blk (by decide) h1
  ·have:=h.blk.lt;omega
 have hfr:Frm (fun k=>v.ownBlock=some k) W W':=Frm.of_grown hg
 obtain⟨hdr,hrd⟩:=h.grown h.nx hg
 have hr1:=h.rows.snoc2 hlow hK hrow
 have hr2:zH W' w0.heap.size (rows++[row]) (ls++[l]):=hr1.frm hfr (fun i r b hr hb hS=>by
  obtain⟨l',_,ho⟩:=hr1.row hr
  exact zaT ho h.nx (by decide) hb hS)
 have hacc:W'.ownsRow w0.heap.size 4 1 vA acc.length (zaz acc):=ze h.acc hfr (fun b hb hS=>zaT h.acc h.nx (by decide) hb hS)
 have hset:=Frm.setCell W' G 1 (.slice (some ⟨g,0,none⟩) (ls.length+1) cap)
 refine⟨hB.cell 1,hB.frozen 1,⟨by simpa using hB.set_ 1 _,?_,?_,?_,hrd.frm hset (fun k hk e=>by omega),hdr.setNew (p:=⟨G,1,none⟩) hGG _,hRG,hGG⟩⟩
 ·rw [List.length_append,List.length_singleton]
  exact ze hown hset (fun b hv hS=>by
   have:g=b:=by simpa [Value.ownBlock] using hv
   omega)
 ·refine hr2.frm hset (fun i r b hr hb hS=>?_)
  obtain⟨l',_,ho⟩:=hr2.row hr
  exact zo ho hB (by decide) hb hS
 ·exact ze hacc hset (fun b hb hS=>zo hacc hB (by decide) hb hS)
theorem AccA.pushAcc {x:Bool} {g cap:Nat}(h:AccA w0 W R G M al v rows ls vA acc)
  (hown:W'.ownsRow w0.heap.size 4 1 (.slice (some ⟨g,0,none⟩) (acc.length+1) cap) (acc.length+1) (zaz acc++[.bool x]))
  (hg:W.grownBy W' vA.ownBlock) (hat:vA.ownBlock=some g∨g=W.heap.size+1) :
  Hid (W'.cell? ⟨G,2,none⟩=some vA)∧W'.frozen? ⟨G,2,none⟩=false∧AccA w0 (W'.setCell ⟨G,2,none⟩ (.slice (some ⟨g,0,none⟩) (acc.length+1) cap)) R G M al v rows ls (.slice (some ⟨g,0,none⟩) (acc.length+1) cap) (acc++[x]):=by
 have hRG:=h.hR;have hGG:=h.hG
 have hB:Blk W' G 27 #[.int .i64 al,v,vA]:=(hg.block G h.blk.lt (fun e=>zo h.acc h.blk (by decide) e.symm rfl)).trans h.blk
 have hgG:g≠G:=by
  rcases hat with h1|h1
  ·exact zo h.acc h.blk (by decide) h1
  ·have:=h.blk.lt;omega
 have hfr:Frm (fun k=>vA.ownBlock=some k) W W':=Frm.of_grown hg
 obtain⟨hdr,hrd⟩:=h.grown h.acc hg
 have hn:W'.ownsRow w0.heap.size 71 1 v ls.length rows:=ze h.nx hfr (fun b hb hS=>zaT h.nx h.acc (by decide) hb hS)
 have hr2:zH W' w0.heap.size rows ls:=h.rows.frm hfr (fun i r b hr hb hS=>by
  obtain⟨l',_,ho⟩:=h.rows.row hr
  exact zaT ho h.acc (by decide) hb hS)
 have hset:=Frm.setCell W' G 2 (.slice (some ⟨g,0,none⟩) (acc.length+1) cap)
 refine⟨hB.cell 2,hB.frozen 2,⟨by simpa using hB.set_ 2 _,ze hn hset (fun b hb hS=>zo hn hB (by decide) hb hS),hr2.frm hset (fun i r b hr hb hS=>?_),?_,hrd.frm hset (fun k hk e=>by omega),hdr.setNew (p:=⟨G,2,none⟩) hGG _,hRG,hGG⟩⟩
 ·obtain⟨l',_,ho⟩:=hr2.row hr
  exact zo ho hB (by decide) hb hS
 ·rw [List.length_append,List.length_singleton,show zaz (acc++[x])=zaz acc++[.bool x] by simp [zaz]]
  exact ze hown hset (fun b hv hS=>by
   have:g=b:=by simpa [Value.ownBlock] using hv
   omega)
theorem AccA.side {v0:Value} {K k:Nat} {xs:List Value}(h:AccA w0 W R G M al v rows ls vA acc)(hlow:∀ (i:Nat) (r:Value) (b:Nat),rows[i]?=some r→r.ownBlock=some b→b<K)(hK:w0.heap.size≤K)(ho:W.ownsRow K 3 1 v0 k xs)(hg:W.grownBy W' v0.ownBlock):AccA w0 W' R G M al v rows ls vA acc:=by
 have ho':=zn ho hK
 obtain⟨hdr,hrd⟩:=h.grown ho' hg
 have hfr:Frm (fun k=>v0.ownBlock=some k) W W':=Frm.of_grown hg
 exact⟨h.blk.frm hfr (fun e=>zo ho h.blk (by decide) e rfl),ze h.nx hfr (fun b hb hS=>zaT ho h.nx (by decide) hS hb),h.rows.frm hfr (fun i r b hr hb hS=>by have:=hlow i r b hr hb;have:=(ho.lt b hS).1;omega),
  ze h.acc hfr (fun b hb hS=>zaT ho h.acc (by decide) hS hb),hrd,hdr,h.hR,h.hG⟩
theorem AccA.fin {w:World} {Z n n' c c':Nat} {A A':Option Addr} {cs:Array Value} {t:TypeId} {sh:Aut→Prop}(h:AccA w0 W R G M al (.slice A n c) rows ls (.slice A' n' c') acc)(hx:Ext w w0) (bz:Blk w0 Z t cs)(hc:cs.size=3)(hRw:R<w.heap.size)(hZ:w.heap.size≤Z)(hZ':Z<w0.heap.size)(hM:M≤N)(hsh:sh ⟨al,ls,acc⟩) :
  Hid (zeT R N sh w (.returned (.agg #[.int .i64 al,.slice A n c,.slice A' n' c'])) (((W.setCell ⟨Z,0,none⟩ (.int .i64 al)).setCell ⟨Z,1,none⟩ (.slice A n c)).setCell ⟨Z,2,none⟩ (.slice A' n' c'))) ∧
  Blk (((W.setCell ⟨Z,0,none⟩ (.int .i64 al)).setCell ⟨Z,1,none⟩ (.slice A n c)).setCell ⟨Z,2,none⟩ (.slice A' n' c')) Z t #[.int .i64 al,.slice A n c,.slice A' n' c']:=by
 have hb:=bz.dr h.dr (by omega)
 have hf:=zaa W Z (.int .i64 al) (.slice A n c) (.slice A' n' c')
 have hn:n=ls.length:=by
  rcases h.nx.2 with ⟨h1,h2⟩|⟨_,_,_,h1,_⟩
  ·simp at h1;omega
  ·simp at h1;exact h1.2.1
 have hn':n'=acc.length:=by
  rcases h.acc.2 with ⟨h1,h2⟩|⟨_,_,_,h1,_⟩
  ·simp at h1;omega
  ·simp at h1;exact h1.2.1
 refine⟨hide ⟨⟨al,ls,acc⟩,A,n,c,A',n',c',rfl,⟨⟨rows,?_,?_⟩,hn,?_,hn'⟩,hide hsh,?_,?_⟩,zah hb hc _ _ _⟩
 ·exact zn (zay h.nx hf (fun b h1 e=>by omega)) hx.size
 ·exact (h.rows.keep hf (fun b h1 e=>by omega)).less hx.size
 ·have ho:=zn (zay h.acc hf (fun b h1 e=>by omega)) hx.size
  rw [← hn'] at ho;exact ho
 ·exact (h.rd.more hM).frm hf (fun k hk e=>by omega)
 ·exact (((hx.dr.trans h.dr).setNew (p:=⟨Z,0,none⟩) hZ _).setNew (p:=⟨Z,1,none⟩) hZ _).setNew (p:=⟨Z,2,none⟩) hZ _
end
set_option maxHeartbeats 4000000
def shA (al p k:Nat) (a:Aut):Prop:=a.al=al∧a.next.length=p∧a.acc.length=p∧∀ l∈a.next,l.length=k
set_option maxRecDepth 100000 in
theorem zeq {R M a p:Nat} {w:World}(h:Rd w R M)(hM:M≤900000000)(ha:a<64)(hp:p≤16) :
  Calls Tryz.prog 89 #[.pointer (some ⟨R,0,none⟩),.int .i64 a,.int .i64 p] w (zeT R (M+400) (shA a p (letters a 6).length) w):=by
 have hsm:Sm a:=by unfold Sm;omega
 have hRl:=h.lt
 go_enter Tryz.func89,Tryz.ntmps89
 have hxz:=(Ext.refl w).alloc (.cells #[.int .i64 0,.slice none 0 0,.slice none 0 0] 27)
 have bz:=Blk.new w 27 #[.int .i64 0,.slice none 0 0,.slice none 0 0]
 have hxG:=(Ext.refl (w.alloc (.cells #[.int .i64 0,.slice none 0 0,.slice none 0 0] 27))).alloc (.cells #[.int .i64 a,.slice none 0 0,.slice none 0 0] 27)
 have bG:=Blk.new (w.alloc (.cells #[.int .i64 0,.slice none 0 0,.slice none 0 0] 27)) 27 #[.int .i64 a,.slice none 0 0,.slice none 0 0]
 have hz1:=bz.lt
 have hsz:(w.alloc (.cells #[.int .i64 0,.slice none 0 0,.slice none 0 0] 27)).heap.size=w.heap.size+1:=by simp
 rw [hsz] at bG
 go_upto_region 2 with fail
 generalize (w.alloc (.cells #[.int .i64 0,.slice none 0 0,.slice none 0 0] 27)).alloc (.cells #[.int .i64 a,.slice none 0 0,.slice none 0 0] 27)=w2 at *
 generalize w.alloc (.cells #[.int .i64 0,.slice none 0 0,.slice none 0 0] 27)=w1 at *
 go_wp2_with fail
 refine (zS a hsm _).mono ?_
 rintro e w3 ⟨B,d,rfl,-,hx3⟩
 have hacc:AccA w1 w3 R (w.heap.size+1) M a (.slice none 0 0) [] [] (.slice none 0 0) []:=⟨bG.ext hx3,World.ownsRow_nil _ _ _ _,zH.nil _ _,World.ownsRow_nil _ _ _ _,h.ext ((hxz.trans hxG).trans hx3),(hxG.trans hx3).dr,by omega,by omega⟩
 have hl6:=zy a 6
 clear bG hx3 hxG
 generalize (letters a 6).length=k at *
 go_wp2_with fail
 go_loopw [9] (fun iv wr=>∃ (i:Nat) (v:Value) (rows:List Value) (ls:List (List Int)) (vA:Value) (acc:List Bool),i≤p∧iv=.int .i64 (i:Nat)∧AccA w1 wr R (w.heap.size+1) (M+i*20) a v rows ls vA acc∧ls.length=i∧acc.length=i∧Hid (∀ l∈ls,l.length=k)) (fun iv _=>p - (intOf iv).toNat)
 case atStart=>exact⟨0,_,[],[],_,[],Nat.zero_le _,rfl,hacc,rfl,rfl,hide (fun l hl=>by simp at hl)⟩
 case round =>
  clear hacc
  obtain⟨i,v,rows,ls,vA,acc,hi,rfl,hacc,hll,hla,hlk⟩:=hrel
  by_cases hip:i<p
  ·have hlow:=hide hacc.low
   have hK:=hide (show w1.heap.size≤wr.heap.size from hacc.dr.size)
   have h0:=World.ownsRow_made (base:=wr.heap.size) (e:=3) (size:=1) wr #[] 0 (Nat.le_refl _) (Nat.zero_le _) rfl
   have hx0:=(Ext.refl wr).alloc (.cells #[] 3)
   have hacc0:=hacc.ext hx0
   go_upto_region 7 with fail
   clear hacc
   obtain⟨wK,hwK⟩:∃ wK,wK=wr:=⟨_,rfl⟩
   rw [← hwK] at h0 hlow hK hacc0 hx0 ⊢
   clear hwK
   generalize wK.alloc (.cells #[] 3)=w4 at *
   go_wp2_with fail
   go_loopw [10,11] (fun rv jv wr=>∃ (j:Nat) (l:List Int),j≤k∧jv=.int .i64 (j:Nat)∧AccA w1 wr R (w.heap.size+1) (M+i*20+j) a v rows ls vA acc∧l.length=j∧wr.ownsRow wK.heap.size 3 1 rv j (ints l)∧Hid (wK.heap.size≤wr.heap.size)) (fun _ jv _=>k - (intOf jv).toNat)
   case atStart=>exact⟨0,[],Nat.zero_le _,rfl,hacc0,rfl,h0,hide hx0.size⟩
   case round =>
    clear hacc0 h0
    obtain⟨j,l,hj,rfl,hacc,hlj,hrow,hsK⟩:=hrel
    by_cases hjk:j<k
    ·obtain⟨AR,cR,rfl⟩:=zh hrow
     go_wp2_with fail
     refine (zu hacc.rd (by omega)).mono ?_
     rintro e w5 ⟨y,rfl,-,-,hr5,hd5⟩
     have hacc5:=hacc.drawn hd5 hr5
     have hrow5:=zay hrow hd5 (fun b h1 e=>by have:=hacc.dr.size;have:=hacc.hR;have:=hK.out;omega)
     have hs5:wK.heap.size≤w5.heap.size:=Nat.le_trans hsK.out hd5.size
     have hl':=hide hlj
     clear hlj hacc hrow
     go_wp2_with (at_builtin;refine zam wK w5 rfl _ _ _ rfl 3 _ 1 8 Tryz.underlying71 zY rfl (by decide) (.slice AR j cR) j (ints l) _ _ rfl rfl hs5 hrow5 rfl (by simp [Value.oneCell']) (by unfold maxLen;omega) (by omega) ?_;intro g5 cap5 w6 hown6 hg6 hat6 hlt6)
     go_roundw
     case rel=>exact⟨j+1,l++[(y:Int)],by omega,by go_num,(hacc5.side hlow.out hK.out hrow5 hg6).more (by omega),by simp [hl'.out],by simpa [ints] using hown6,hide (Nat.le_trans hs5 hg6.size)⟩
     case measure=>simp [intOf];omega
    ·obtain rfl:j=k:=by omega
     obtain⟨AR,cR,rfl⟩:=zh hrow
     have cG:=hacc.blk.cell
     have hs1:=hacc.dr.size
     have hrow':wr.ownsRow wK.heap.size 3 1 (.slice AR j cR) l.length (ints l):=by rw [hlj];exact hrow
     go_upto_region 12 with (at_builtin;refine zam w1 wr rfl _ _ _ rfl 71 _ 1 24 Tryz.underlying24 zbV rfl (by decide) v ls.length rows _ _ rfl rfl hs1 hacc.nx rfl (zaP _ _ _) (by unfold maxLen;omega) (by omega) ?_;intro g5 cap5 w6 hown6 hg6 hat6 hlt6;obtain⟨q1,q2,q3⟩:=hacc.pushRow hlow.out hK.out hrow' hown6 hg6 hat6;have q1':=q1.out)
     rw [hll] at q3
     clear q1 q1' q2 hown6 hg6 hat6 hlt6 hrow hrow' cG hacc
     have hlk7:=hide (show ∀ l'∈ls++[l],l'.length=j from fun l' hl'=>by
      rcases List.mem_append.1 hl' with h1|h1
      ·exact hlk.out l' h1
      ·rw [List.mem_singleton.1 h1];exact hlj)
     have hll7:(ls++[l]).length=i+1:=by simp [hll]
     clear hlj hll
     generalize ls++[l]=ls7 at *
     generalize rows++[.slice AR j cR]=rows7 at *
     generalize w6.setCell ⟨w.heap.size+1,1,none⟩ (.slice (some ⟨g5,0,none⟩) (i+1) cap5)=w7 at *
     generalize Value.slice (some ⟨g5,0,none⟩) (i+1) cap5=v7 at *
     have cG:∀ W,Dr R w7 W→∀ q,W.cell? ⟨w.heap.size+1,q,none⟩=#[Value.int .i64 a,v7,vA][q]?:=fun W hW=>(q3.blk.dr hW (by omega)).cell
     refine tR (fun X=>Dr R w7 X) [6,8] (Ord.of [0,1,2,3,4,5,6,7,8]) ?_
     refine tQ ?_
     (refine zA rfl rfl rfl (fun K hK=>?_);go_simp)
     refine (zu (n:=3) (q3.rd.ext ((Ext.refl _).drew)) (by omega)).mono ?_
     rintro e w8 ⟨z,rfl,-,-,hr8,hd8⟩
     have hd78:Dr R w7 w8:=((Dr.refl R w7).drew).trans hd8
     have hacc8:=q3.drawn hd78 hr8
     refine hK.out _ _ hd78 ?_
     refine pT ?_
     refine tQ ?_
     (refine zA rfl rfl rfl (fun K hK=>?_);go_simp)
     refine hK.out _ _ (hd78.alloc _) ?_
     refine pT ?_
     (refine zN rfl rfl rfl rfl (fun K hK=>?_))
     trace_state
     refine zaG w1 w8 _ _ _ rfl 4 _ 1 1 Tryz.underlying25 zba rfl (by decide) vA acc.length (zaz acc) _ _ rfl rfl hacc8.dr.size hacc8.acc rfl (by simp [Value.oneCell']) (by unfold maxLen;omega) (by omega) ?_
     intro g9 cap9 w9 hown9 hg9 hat9 hlt9
     refine hK.out _ _ ?_
     refine pT ?_
     refine tQ ?_
     obtain⟨p1,p2,p3⟩:=hacc8.pushAcc (x:=decide (0<z)) (W':=w9) hown9 hg9 hat9
     have p1':=p1.out
     rw [hla] at p3
     (refine zN rfl rfl rfl rfl (fun K hK=>?_))
     go_simp
     refine hK.out _ _ ?_
     refine zag ?_
     go_wp2_with fail
     go_roundw
     case rel=>exact⟨i+1,_,_,_,_,_,by omega,by go_num,p3.more (by omega),hll7,by simp [hla],hlk7⟩
     case measure=>simp [intOf];omega
  ·obtain rfl:i=p:=by omega
   obtain⟨A5,c5,rfl⟩:=zh hacc.nx
   obtain⟨B5,d5,rfl⟩:=zh hacc.acc
   obtain⟨f1,f2⟩:=hacc.fin (N:=M+400) (sh:=shA a i k) hxz bz rfl hRl (Nat.le_refl _) hz1 (by omega) ⟨rfl,hll,hla,hlk.out⟩
   rw [hll,hla] at f1 f2
   have cG:=hacc.blk.cell
   have bz5:=bz.dr hacc.dr (by omega)
   have cZ:=bz5.cell
   have fZ:=bz5.frozen
   go_wp2_with fail
   have cf:=f2.cell
   exact bodyPost_ret (v:=.agg #[.int .i64 a,.slice A5 i c5,.slice B5 i d5]) (by simp [results,Tryz.results89,go_sem,cf]) rfl f1.out
set_option maxHeartbeats 4000000
section
variable {w0 W W':World} {R G M N:Nat} {al:Int} {v vA:Value} {rows:List Value} {ls:List (List Int)} {acc:List Bool}
theorem AccA.of {A A':Option Addr} {n c n' c':Nat} {a:Aut}(ho:zK W w0.heap.size A n c A' n' c' a)(hr:Rd W R M)(hd:Dr R w0 W)(hR:R<w0.heap.size) :
  ∃ rows,AccA w0 (W.alloc (.cells #[.int .i64 a.al,.slice A n c,.slice A' n' c'] 27)) R W.heap.size M a.al (.slice A n c) rows a.next (.slice A' n' c') a.acc:=by
 obtain⟨⟨rows,h1,h2⟩,h3,h4,h5⟩:=ho
 have hx:=(Ext.refl W).alloc (.cells #[.int .i64 a.al,.slice A n c,.slice A' n' c'] 27)
 refine⟨rows,Blk.new W _ _,zf h1 hx,h2.keep hx.toFrm (fun _ _=>id),?_,hr.ext hx,hd.ext hx,hR,hd.size⟩
 rw [← h5]
 exact zf h4 hx
theorem AccA.setAcc {g n c i:Nat} {x:Bool}(h:AccA w0 W R G M al v rows ls (.slice (some ⟨g,0,none⟩) n c) acc)(hn:n=acc.length) :
  AccA w0 (W.setCell ⟨g,i,none⟩ (.bool x)) R G M al v rows ls (.slice (some ⟨g,0,none⟩) n c) (acc.set i x):=by
 subst hn
 have hf:=Frm.setCell W g i (.bool x)
 have hg:=(h.acc.lt g rfl).1
 have hRG:=h.hR
 have hst:=(h.acc.stored i (.bool x)).1
 rw [show (zaz acc).set i (.bool x)=zaz (acc.set i x) by simp [zaz,List.map_set]] at hst
 refine⟨h.blk.frm hf (fun e=>zo h.acc h.blk (by decide) rfl e.symm),ze h.nx hf (fun b hb hS=>?_),h.rows.frm hf (fun i' r b hr hb hS=>?_),by simpa using hst,h.rd.frm hf (fun k hk e=>by omega),h.dr.setNew (p:=⟨g,i,none⟩) hg _,hRG,h.hG⟩
 ·subst hS;exact zaT h.nx h.acc (by decide) hb rfl
 ·subst hS
  obtain⟨l',_,ho⟩:=h.rows.row hr
  exact zaT ho h.acc (by decide) hb rfl
theorem AccA.setRow {g n c i k:Nat} {x:Int} {l:List Int}(h:AccA w0 W R G M al v rows ls vA acc)(hr:rows[i]?=some (.slice (some ⟨g,0,none⟩) n c))(hl:ls[i]?=some l)(hn:n=l.length) :
  AccA w0 (W.setCell ⟨g,k,none⟩ (.int .i64 x)) R G M al v rows (ls.set i (l.set k x)) vA acc:=by
 subst hn
 have hf:=Frm.setCell W g k (.int .i64 x)
 have ho:=h.rows.2.1 i _ l hr hl
 have hg:=(ho.lt g rfl).1
 have hRG:=h.hR
 have hst:=(ho.stored k (.int .i64 x)).1
 rw [show (ints l).set k (.int .i64 x)=ints (l.set k x) by simp [ints,List.map_set]] at hst
 have hf':Frm (Go.Proofs.YtndhahednhnnbaaGreatDoor.blk (some ⟨g,0,none⟩)) W (W.setCell ⟨g,k,none⟩ (.int .i64 x)):=hf.mono (fun b _ hb=>⟨_,rfl,hb.symm⟩)
 refine⟨h.blk.frm hf (fun e=>zo ho h.blk (by decide) rfl e.symm),?_,?_,ze h.acc hf (fun b hb hS=>?_),h.rd.frm hf (fun k hk e=>by omega),h.dr.setNew (p:=⟨g,k,none⟩) hg _,hRG,h.hG⟩
 ·rw [List.length_set]
  exact ze h.nx hf (fun b hb hS=>by subst hS;exact zaT h.nx ho (by decide) hb rfl)
 ·have:=h.rows.set_ (w':=W.setCell ⟨g,k,none⟩ (.int .i64 x)) (j:=i) (l:=l.set k x) (A:=some ⟨g,0,none⟩) (c:=c) (by simpa using hr) hf' (by simpa using hst)
  exact this
 ·subst hS;exact zaT h.acc ho (by decide) hb rfl
theorem AccA.row {g n c i:Nat} {l:List Int}(h:AccA w0 W R G M al (.slice (some ⟨g,0,none⟩) n c) rows ls vA acc)(hl:ls[i]?=some l)(hn:n=ls.length) :
  ∃ Ar cr,rows[i]?=some (.slice Ar l.length cr)∧W.cell? ⟨g,i,none⟩=some (.slice Ar l.length cr)∧W.ownsRow w0.heap.size 3 1 (.slice Ar l.length cr) l.length (ints l):=by
 subst hn
 have hi:i<ls.length:=(List.getElem?_eq_some_iff.1 hl).1
 have hi':i<rows.length:=by rw [h.rows.1];exact hi
 have hr:rows[i]?=some rows[i]:=List.getElem?_eq_getElem hi'
 have ho:=h.rows.2.1 i _ l hr hl
 obtain⟨Ar,cr,e⟩:=zh ho
 rw [e] at hr ho
 exact⟨Ar,cr,hr,by rw [h.nx.cellAt i (by omega),hr],ho⟩
end
set_option maxRecDepth 100000 in
theorem zfP {R M a p:Nat} {w:World}(h:Rd w R M)(hM:M≤900000000)(ha:a<64)(hp0:1≤p)(hp:p≤16) :
  Calls Tryz.prog 87 #[.pointer (some ⟨R,0,none⟩),.int .i64 a,.int .i64 p] w (zeT R (M+400) (shA a p (letters a 6).length) w):=by
 have hRl:=h.lt
 go_enter Tryz.func87,Tryz.ntmps87
 have hxz:=(Ext.refl w).alloc (.cells #[.int .i64 0,.slice none 0 0,.slice none 0 0] 27)
 have bz:=Blk.new w 27 #[.int .i64 0,.slice none 0 0,.slice none 0 0]
 have hz1:=bz.lt
 go_wp2_with fail
 generalize w.alloc (.cells #[.int .i64 0,.slice none 0 0,.slice none 0 0] 27)=w1 at *
 refine (zeq (h.ext hxz) hM ha hp).mono ?_
 rintro e w2 ⟨b,A,n,c,A',n',c',rfl,hown,hsh,hr2,hd2⟩
 obtain⟨rows,hacc⟩:=AccA.of hown hr2 hd2 (by omega)
 obtain⟨s1,s2,s3,s4⟩:=hsh.out
 have hn:n=b.next.length:=hown.2.1
 have hn':n'=b.acc.length:=hown.2.2.2
 obtain⟨bal,bnx,bac⟩:=b
 dsimp only at *
 subst s1
 rw [s2] at hn;rw [s3] at hn'
 replace hn:=hn.symm
 replace hn':=hn'.symm
 subst hn;subst hn'
 have hG:=hd2.size
 clear hown hr2 hd2 hsh
 have S4:=hide s4
 clear s4
 have hl6:=zy a 6
 generalize (letters a 6).length=k at *
 obtain⟨gA,rfl,hgA,-⟩:=zai (s3 ▸ hacc.acc) hp0
 obtain⟨gN,rfl,hgN,-⟩:=zai (s2 ▸ hacc.nx) hp0
 have S2:=hide s2
 have S3:=hide s3
 clear s2 s3
 go_upto_region 2 with fail
 generalize w2.alloc (.cells #[.int .i64 a,.slice (some ⟨gN,0,none⟩) p c,.slice (some ⟨gA,0,none⟩) p c'] 27)=w3 at *
 generalize w2.heap.size=G at *
 go_wp2_with fail
 go_loopw [8] (fun iv wr=>∃ (i:Nat) (acc:List Bool),i≤p∧iv=.int .i64 (i:Nat)∧AccA w1 wr R G (M+400) a (.slice (some ⟨gN,0,none⟩) p c) rows bnx (.slice (some ⟨gA,0,none⟩) p c') acc∧Hid (acc.length=p)) (fun iv _=>p - (intOf iv).toNat)
 case atStart=>exact⟨0,_,Nat.zero_le _,rfl,hacc,S3⟩
 case round =>
  clear hacc
  obtain⟨i,acc,hi,rfl,hacc,hal⟩:=hrel
  by_cases hip:i<p
  ·have cG:=hacc.blk.cell
   have ho:=hacc.acc
   rw [hal.out] at ho
   obtain⟨o0,c0⟩:=zaN ho i (by omega)
   have f0:=ho.frozenAt i
   have hset:=hacc.setAcc (i:=i) (x:=decide ((i:Int)<(p:Int) - 1)) hal.out.symm
   clear ho
   go_wp2_with fail
   go_roundw
   case rel=>exact⟨i+1,_,by omega,by go_num,hset,hide (by rw [List.length_set];exact hal.out)⟩
   case measure=>simp [intOf];omega
  ·clear hi
   have hp1:p - 1<bnx.length:=by have:=S2.out;omega
   obtain⟨l0,hl0⟩:∃ l,bnx[p - 1]?=some l:=⟨_,List.getElem?_eq_getElem hp1⟩
   have hll:=hide (S4.out l0 (List.mem_of_getElem? hl0))
   have Hl0:=hide hl0
   have hpc:((p:Int) - 1).toNat=p - 1:=by omega
   clear hl0 hp1
   go_wp2_with fail
   go_loopw [9] (fun iv wr=>∃ (j:Nat) (ls:List (List Int)) (l:List Int),j≤k∧iv=.int .i64 (j:Nat)∧AccA w1 wr R G (M+400) a (.slice (some ⟨gN,0,none⟩) p c) rows ls (.slice (some ⟨gA,0,none⟩) p c') acc∧Hid (ls.length=p)∧Hid (∀ l∈ls,l.length=k)∧Hid (ls[p - 1]?=some l)) (fun iv _=>k - (intOf iv).toNat)
   case atStart=>exact⟨0,_,_,Nat.zero_le _,rfl,hacc,S2,S4,Hl0⟩
   case round =>
    clear hacc hll
    obtain⟨j,ls,l,hj,rfl,hacc,hls,hlk,hl0⟩:=hrel
    have hll:=hlk.out l (List.mem_of_getElem? hl0.out)
    obtain⟨Ar,cr,hrr,hcell,hor⟩:=hacc.row hl0.out hls.out.symm
    have cG:=hacc.blk.cell
    rw [hll] at hrr hcell hor
    have HR:=hide hrr
    clear hrr
    by_cases hjk:j<k
    ·obtain⟨g,rfl,-,-⟩:=zai hor (by omega)
     obtain⟨o0,c0⟩:=zaN hor j (by omega)
     have f0:=hor.frozenAt j
     have hset:=hacc.setRow (k:=j) (x:=(p:Int) - 1) HR.out hl0.out hll.symm
     clear hor
     have HL:=hide hll
     clear hll
     go_wp2_with fail
     go_roundw
     case rel =>
      refine⟨j+1,_,l.set j ((p:Int) - 1),by omega,by go_num,hset,hide (by rw [List.length_set];exact hls.out),hide (fun l' hl'=>?_),hide ?_⟩
      ·rcases List.mem_or_eq_of_mem_set hl' with h1|h1
       ·exact hlk.out l' h1
       ·rw [h1,List.length_set];exact HL.out
      ·have:=hls.out
       rw [List.getElem?_set_self (by omega)]
     case measure=>simp [intOf];omega
    ·obtain⟨f1,f2⟩:=hacc.fin (N:=M+400) (sh:=shA a p k) hxz bz rfl hRl (Nat.le_refl _) hz1 (by omega) ⟨rfl,hls.out,hal.out,hlk.out⟩
     have bz5:=bz.dr hacc.dr (by omega)
     have cZ:=bz5.cell
     have fZ:=bz5.frozen
     clear hor hll
     go_wp2_with fail
     have cf:=f2.cell
     exact bodyPost_ret (v:=.agg #[.int .i64 a,.slice (some ⟨gN,0,none⟩) p c,.slice (some ⟨gA,0,none⟩) p c']) (by simp [results,Tryz.results87,go_sem,cf]) rfl f1.out
set_option maxHeartbeats 4000000
def zfb:Value→ByteArray
 |.string s=>s
 |_=>⟨#[]⟩
def RetTexts (L:Nat) (w:World) (e:Ending) (w':World):Prop:=∃ (A:Option Addr) (n c:Nat) (l:List ByteArray),e=.returned (.slice A n c)∧0<n∧w'.ownsRow w.heap.size 9 1 (.slice A n c) n (strs l)∧(∀ x∈l,x.size≤L)∧Ext w w'
theorem zcC (w:World) {us:Array Value} {n:Nat}(hu:strs (us.toList.map zfb)=us.toList)(hn:us.size=n)(h:n≤1000):(w.alloc (.cells us 9)).ownsRow w.heap.size 9 1 (.slice (some ⟨w.heap.size,0,none⟩) n n) n (strs (us.toList.map zfb)):=by
 rw [hu]
 exact World.ownsRow_lit w us n (Nat.le_refl _) (by unfold maxLen;omega) (by simpa using hn)
theorem reads_ints {w w':World} {us:Array Value} {n:Nat} {e:TypeId} (l:List Int)(hu:us.toList=ints l)(hn:us.size=n)(hx:Ext (w.alloc (.cells us e)) w')(h63:n≤1000):Reads w' w.heap.size (w.heap.size+1) 1 (some ⟨w.heap.size,0,none⟩) n (ints l):=
 ⟨by rw [← hu];simpa using hn,by omega,fun _=>⟨_,rfl,Nat.le_refl _,by simp,fun j u hj=>by
  have:=(zbu hx).cell j
  rw [zO,Nat.zero_add,this]
  rw [← hu] at hj
  simpa using hj⟩⟩
theorem zaS {R M:Nat} {w:World} (l:List Int) (n:Nat) (us:Array Value)(hu:us.toList=ints l)(hn:us.size=n)(h0:0<n)(h63:n≤1000)(h:Rd w R M)(hM:M≤1000000000) :
  Calls Tryz.prog 88 #[.pointer (some ⟨R,0,none⟩),.slice (some ⟨w.heap.size,0,none⟩) n n] (w.alloc (.cells us 3)) (RetNum R M l (w.alloc (.cells us 3))):=
 l19Rd_num (h.ext ((Ext.refl _).alloc _)) hM (reads_ints l hu hn (Ext.refl _) h63) h.lt h0
theorem ret_fill {R M L n c Z:Nat} {A:Option Addr} {s:Sys} {w W:World} {cs:Array Value}(hs:zbG W R A n s)(hg:Good s)(hn:n≤L∧n≤c)(hr:Rd W R M)(hd:Dr R w W)(hB:Blk W Z 39 cs)(hR:R<w.heap.size)(hZ:w.heap.size≤Z) :
  RetG R M L w (.returned (.agg #[.int .i64 s.al,.int .i64 s.st,.slice A n c])) (((W.setCell ⟨Z,0,none⟩ (.int .i64 s.al)).setCell ⟨Z,1,none⟩ (.int .i64 s.st)).setCell ⟨Z,2,none⟩ (.slice A n c)):=by
 have hf:=zbQ W Z (.int .i64 s.al) (.int .i64 s.st) (.slice A n c)
 exact⟨s,A,n,c,rfl,hs.far hB (by decide) hf,hg,hn,hr.frm hf (fun k h1 h2=>by omega),((hd.setNew (p:=⟨Z,0,none⟩) hZ _).setNew (p:=⟨Z,1,none⟩) hZ _).setNew (p:=⟨Z,2,none⟩) hZ _⟩
set_option maxHeartbeats 2000000
def zfq (b:Aut):Prop:=∃ a p:Nat,a<64∧1≤p∧p≤16∧shA a p (letters a 6).length b
theorem zeT.mono {R M N:Nat} {sh sh':Aut→Prop} {w w0 w':World} {e:Ending}(h:zeT R M sh w e w')(hd:Dr R w0 w)(hM:M≤N)(hs:∀ b,sh b→sh' b):zeT R N sh' w0 e w':=by
 obtain⟨b,A,n,c,A',n',c',he,ho,hsh,hr,hd'⟩:=h
 exact⟨b,A,n,c,A',n',c',he,ho.less hd.size,hide (hs b hsh.out),hr.more hM,hd.trans hd'⟩
theorem zdF {R M N Z n c n' c':Nat} {A A':Option Addr} {b:Aut} {sh:Aut→Prop} {w w0 W:World} {cs:Array Value} {t:TypeId}(hx:Ext w w0)(ho:zK W w0.heap.size A n c A' n' c' b)(hsh:sh b)(hr:Rd W R M)(hd:Dr R w0 W) (bz:Blk w0 Z t cs)(hc:cs.size=3)(hR:R<w.heap.size)(hZ:w.heap.size≤Z)(hM:M≤N) :
  Hid (zeT R N sh w (.returned (.agg #[.int .i64 b.al,.slice A n c,.slice A' n' c'])) (((W.setCell ⟨Z,0,none⟩ (.int .i64 b.al)).setCell ⟨Z,1,none⟩ (.slice A n c)).setCell ⟨Z,2,none⟩ (.slice A' n' c'))) ∧
  Blk (((W.setCell ⟨Z,0,none⟩ (.int .i64 b.al)).setCell ⟨Z,1,none⟩ (.slice A n c)).setCell ⟨Z,2,none⟩ (.slice A' n' c')) Z t #[.int .i64 b.al,.slice A n c,.slice A' n' c']:=by
 have hz:=bz.lt
 have hf:=zaa W Z (.int .i64 b.al) (.slice A n c) (.slice A' n' c')
 refine⟨hide ⟨b,A,n,c,A',n',c',rfl,(ho.keep hf (fun b h1 e=>by omega)).less hx.size,hide hsh,(hr.more hM).frm hf (fun k hk e=>by omega),?_⟩,zah (bz.dr hd (by omega)) hc _ _ _⟩
 exact (((hx.dr.trans hd).setNew (p:=⟨Z,0,none⟩) hZ _).setNew (p:=⟨Z,1,none⟩) hZ _).setNew (p:=⟨Z,2,none⟩) hZ _
theorem spec_l1Some {R M:Nat} {w:World}(h:Rd w R M)(hM:M≤900000000) :
  Calls Tryz.prog 183 #[.pointer (some ⟨R,0,none⟩)] w (fun e w'=>∃ x:Nat,x<64∧e=.returned (.int .i64 x)∧Rd w' R (M+1)∧Dr R w w'):=by
 go_enter Tryz.func183,Tryz.ntmps183
 go_wp2_with fail
 refine (zaS [3,7,1,5,0,6,63,2,21] 9 #[.int .i64 3,.int .i64 7,.int .i64 1,.int .i64 5,.int .i64 0,.int .i64 6,.int .i64 63,.int .i64 2,.int .i64 21] rfl rfl (by omega) (by omega) h (by omega)).mono ?_
 rintro e w1 ⟨x,hx,rfl,hr1,hd1⟩
 obtain⟨y,hy,rfl⟩:∃ y:Nat,y<64∧x=(y:Int):=⟨x.toNat,by simp at hx;omega,by simp at hx;omega⟩
 clear hx
 go_wp2_with fail
 go_ret
 exact⟨y,hy,rfl,hr1,((Dr.refl R w).alloc _).trans hd1⟩
theorem yH13a1 {P:Prop}(h:P:=by
 intro e w4 hret
 obtain⟨b,A,n,c,A',n',c',rfl,hown,hsh,hr4,hd4⟩:=hret.mono (N:=M+500) (sh':=zfq) hd13 (by omega) (fun b hb=>⟨a,p,ha,hp1,by omega,hb⟩)
 obtain⟨f1,f2⟩:=zdF (N:=M+500) (sh:=zfq) hxz hown hsh.out hr4 hd4 bz rfl hRl (Nat.le_refl _) (Nat.le_refl _)
 have bz5:=bz.dr hd4 (by omega)
 have cZ:=bz5.cell
 have fZ:=bz5.frozen
 go_wp2_with fail
 have cf:=f2.cell
 exact bodyPost_ret (v:=.agg #[.int .i64 b.al,.slice A n c,.slice A' n' c']) (by simp [results,Tryz.results41,go_sem,cf]) rfl f1.out
 ):P:=h
set_option maxRecDepth 100000 in
theorem zbZ {R M a:Nat} {w:World}(h:Rd w R M)(hM:M≤800000000)(ha:a<64) :
  Calls Tryz.prog 41 #[.pointer (some ⟨R,0,none⟩),.int .i64 a] w (zeT R (M+500) zfq w):=by
 have hRl:=h.lt
 go_enter Tryz.func41,Tryz.ntmps41
 have hxz:=(Ext.refl w).alloc (.cells #[.int .i64 0,.slice none 0 0,.slice none 0 0] 27)
 have bz:=Blk.new w 27 #[.int .i64 0,.slice none 0 0,.slice none 0 0]
 go_wp2_with fail
 generalize w.alloc (.cells #[.int .i64 0,.slice none 0 0,.slice none 0 0] 27)=w1 at *
 refine (zu (h.ext hxz) (by omega)).mono ?_
 rintro e w2 ⟨y,rfl,-,-,hr2,hd2⟩
 by_cases hy:y=0
 ·subst hy
  go_wp2_with fail
  refine (zaS [3,2,4,1] 4 #[.int .i64 3,.int .i64 2,.int .i64 4,.int .i64 1] rfl rfl (by omega) (by omega) hr2 (by omega)).mono ?_
  rintro e w3 ⟨x,hx,rfl,hr3,hd3⟩
  obtain⟨p,hp1,hp2,rfl⟩:∃ y:Nat,1≤y∧y≤4∧x=(y:Int):=⟨x.toNat,by simp at hx;omega,by simp at hx;omega,by simp at hx;omega⟩
  clear hx
  have hd13:=(hd2.alloc _).trans hd3
  go_wp2_with fail
  refine (zfP hr3 (by omega) ha hp1 (by omega)).mono ?_
  exact yH13a1
 ·have hy':((y:Int)==0)=false:=by simp;omega
  go_wp2_with fail
  refine (zaS [2,3,1,4,5] 5 #[.int .i64 2,.int .i64 3,.int .i64 1,.int .i64 4,.int .i64 5] rfl rfl (by omega) (by omega) hr2 (by omega)).mono ?_
  rintro e w3 ⟨x,hx,rfl,hr3,hd3⟩
  obtain⟨p,hp1,hp2,rfl⟩:∃ y:Nat,1≤y∧y≤5∧x=(y:Int):=⟨x.toNat,by simp at hx;omega,by simp at hx;omega,by simp at hx;omega⟩
  clear hx
  have hd13:=(hd2.alloc _).trans hd3
  go_wp2_with fail
  refine (zeq hr3 (by omega) ha (by omega)).mono ?_
  exact yH13a1
set_option maxHeartbeats 2000000
section
variable {w0 W W':World} {R G M N:Nat} {al:Int} {v vA:Value} {rows:List Value} {ls:List (List Int)} {acc:List Bool}
theorem AccA.setAl (h:AccA w0 W R G M al v rows ls vA acc) (x:Int):AccA w0 (W.setCell ⟨G,0,none⟩ (.int .i64 x)) R G M x v rows ls vA acc:=by
 have hRG:=h.hR;have hGG:=h.hG
 have hf:=Frm.setCell W G 0 (.int .i64 x)
 refine⟨by simpa using h.blk.set_ 0 _,ze h.nx hf (fun b hb hS=>zo h.nx h.blk (by decide) hb hS),h.rows.frm hf (fun i r b hr hb hS=>?_),ze h.acc hf (fun b hb hS=>zo h.acc h.blk (by decide) hb hS),h.rd.frm hf (fun k hk e=>by omega),h.dr.setNew (p:=⟨G,0,none⟩) hGG _,hRG,hGG⟩
 obtain⟨l',_,ho⟩:=h.rows.row hr
 exact zo ho h.blk (by decide) hb hS
theorem AccA.setNext (h:AccA w0 W R G M al v rows ls vA acc) {v':Value}(ho:W.ownsRow w0.heap.size 71 1 v' 0 []):AccA w0 (W.setCell ⟨G,1,none⟩ v') R G M al v' [] [] vA acc:=by
 have hRG:=h.hR;have hGG:=h.hG
 have hf:=Frm.setCell W G 1 v'
 exact⟨by simpa using h.blk.set_ 1 _,ze ho hf (fun b hb hS=>zo ho h.blk (by decide) hb hS),zH.nil _ _,ze h.acc hf (fun b hb hS=>zo h.acc h.blk (by decide) hb hS),h.rd.frm hf (fun k hk e=>by omega),h.dr.setNew (p:=⟨G,1,none⟩) hGG _,hRG,hGG⟩
theorem AccA.setMarks (h:AccA w0 W R G M al v rows ls vA acc) {v':Value}(ho:W.ownsRow w0.heap.size 4 1 v' 0 []):AccA w0 (W.setCell ⟨G,2,none⟩ v') R G M al v rows ls v' []:=by
 have hRG:=h.hR;have hGG:=h.hG
 have hf:=Frm.setCell W G 2 v'
 refine⟨by simpa using h.blk.set_ 2 _,ze h.nx hf (fun b hb hS=>zo h.nx h.blk (by decide) hb hS),h.rows.frm hf (fun i r b hr hb hS=>?_),ze ho hf (fun b hb hS=>zo ho h.blk (by decide) hb hS),h.rd.frm hf (fun k hk e=>by omega),h.dr.setNew (p:=⟨G,2,none⟩) hGG _,hRG,hGG⟩
 obtain⟨l',_,ho⟩:=h.rows.row hr
 exact zo ho h.blk (by decide) hb hS
theorem AccA.growRow {i:Nat} {row:Value} {l:List Int} {x:Int} {g cap gN cN nN:Nat}(h:AccA w0 W R G M al (.slice (some ⟨gN,0,none⟩) nN cN) rows ls vA acc)(hn:nN=ls.length)(hr:rows[i]?=some row)(hl:ls[i]?=some l)
  (hown:W'.ownsRow w0.heap.size 3 1 (.slice (some ⟨g,0,none⟩) (l.length+1) cap) (l.length+1) (ints l++[.int .i64 x])) (hg:W.grownBy W' row.ownBlock) (hat:row.ownBlock=some g∨g=W.heap.size+1) :
  (∀ u,W.cell? ⟨G,u,none⟩=W'.cell? ⟨G,u,none⟩)∧Hid (W'.cell? ⟨gN,i,none⟩=some row)∧W'.frozen? ⟨gN,i,none⟩=false ∧
  AccA w0 (W'.setCell ⟨gN,i,none⟩ (.slice (some ⟨g,0,none⟩) (l.length+1) cap)) R G M al (.slice (some ⟨gN,0,none⟩) nN cN) (rows.set i (.slice (some ⟨g,0,none⟩) (l.length+1) cap)) (ls.set i (l++[x])) vA acc:=by
 subst hn
 have hRG:=h.hR;have hGG:=h.hG
 have hi:i<ls.length:=(List.getElem?_eq_some_iff.1 hl).1
 have ho:=h.rows.2.1 i _ l hr hl
 have hfr:Frm (fun k=>row.ownBlock=some k) W W':=Frm.of_grown hg
 obtain⟨hdr,hrd⟩:=h.grown ho hg
 have hB:Blk W' G 27 #[.int .i64 al,.slice (some ⟨gN,0,none⟩) ls.length cN,vA]:=h.blk.frm hfr (fun e=>zo ho h.blk (by decide) e rfl)
 have hnx:W'.ownsRow w0.heap.size 71 1 (.slice (some ⟨gN,0,none⟩) ls.length cN) ls.length rows:=ze h.nx hfr (fun b hb hS=>zaT h.nx ho (by decide) hb hS)
 have hacc:W'.ownsRow w0.heap.size 4 1 vA acc.length (zaz acc):=ze h.acc hfr (fun b hb hS=>zaT h.acc ho (by decide) hb hS)
 have hgN:=(hnx.lt gN rfl).1
 have hlen:=h.rows.1
 have fresh:∀ (j:Nat) (r:Value) (b:Nat),j≠i→rows[j]?=some r→r.ownBlock=some b→b≠g:=fun j r b hji hj hb e=>by
  subst e
  rcases hat with h1|h1
  ·exact h.rows.2.2 j i r row b hj hr hji hb h1
  ·have:=h.low j r b hj hb
   omega
 have hrows:zH W' w0.heap.size (rows.set i (.slice (some ⟨g,0,none⟩) (l.length+1) cap)) (ls.set i (l++[x])):=by
  refine⟨by simp [hlen],fun j r m hj hm=>?_,fun j j' r r' b hj hj' hne hb=>?_⟩
  ·by_cases hji:i=j
   ·subst hji
    rw [List.getElem?_set_self (by omega)] at hj
    rw [List.getElem?_set_self hi] at hm
    obtain rfl:=Option.some.inj hj
    obtain rfl:=Option.some.inj hm
    simpa [ints] using hown
   ·rw [List.getElem?_set_ne hji] at hj hm
    exact ze (h.rows.2.1 j r m hj hm) hfr (fun b hb hS=>h.rows.2.2 j i r row b hj hr (fun e=>hji e.symm) hb hS)
  ·by_cases hji:i=j
   ·subst hji
    rw [List.getElem?_set_self (by omega)] at hj
    obtain rfl:=Option.some.inj hj
    rw [List.getElem?_set_ne hne] at hj'
    have hbg:g=b:=by simpa [Value.ownBlock] using hb
    subst hbg
    exact fun hc=>fresh j' r' _ (fun e=>hne e.symm) hj' hc rfl
   ·rw [List.getElem?_set_ne hji] at hj
    by_cases hji':i=j'
    ·subst hji'
     rw [List.getElem?_set_self (by omega)] at hj'
     obtain rfl:=Option.some.inj hj'
     intro hc
     have hbg:g=b:=by simpa [Value.ownBlock] using hc
     exact fresh j r b (fun e=>hji e.symm) hj hb hbg.symm
    ·rw [List.getElem?_set_ne hji'] at hj'
     exact h.rows.2.2 j j' r r' b hj hj' hne hb
 have hset:=Frm.setCell W' gN i (.slice (some ⟨g,0,none⟩) (l.length+1) cap)
 refine⟨fun u=>by rw [h.blk.cell,hB.cell],hide (by rw [hnx.cellAt i (by omega),hr]),hnx.frozenAt i,⟨hB.frm hset (fun e=>zo hnx hB (by decide) rfl e.symm),?_,?_,ze hacc hset (fun b hb hS=>?_),hrd.frm hset (fun k hk e=>by omega),hdr.setNew (p:=⟨gN,i,none⟩) hgN _,hRG,hGG⟩⟩
 ·rw [List.length_set]
  exact (hnx.stored i _).1
 ·refine hrows.frm hset (fun j r b hj hb hS=>?_)
  obtain⟨l',_,ho'⟩:=hrows.row hj
  subst hS
  exact zaT ho' hnx (by decide) hb rfl
 ·subst hS
  exact zaT hacc hnx (by decide) hb rfl
end
def BdL (L:Nat) (ls:List (List Int)) (acc:List Bool):Prop:=ls.length≤L∧acc.length≤L∧∀ l∈ls,l.length≤L
theorem BdL.more {L K:Nat} {ls:List (List Int)} {acc:List Bool}(h:BdL L ls acc)(hK:L≤K):BdL K ls acc:=⟨Nat.le_trans h.1 hK,Nat.le_trans h.2.1 hK,fun l hl=>Nat.le_trans (h.2.2 l hl) hK⟩
def BdA (L:Nat) (b:Aut):Prop:=BdL L b.next b.acc
theorem BdA.of {b:Aut}(h:zfq b):BdA 16 b:=by
 obtain⟨a,p,ha,hp1,hp,h1,h2,h3,h4⟩:=h
 exact⟨by omega,by omega,fun l hl=>by have:=h4 l hl;have:=zy a 6;omega⟩
theorem tot_le {L:Nat}:∀ ls:List (List Int),(∀ l∈ls,l.length≤L)→tot ls≤ls.length*L
 |[],_=>by simp [tot]
 |l :: r,h=>by
  have:=tot_le r (fun x hx=>h x (by simp [hx]))
  have:=h l (by simp)
  rw [tot_cons,List.length_cons,Nat.add_mul]
  omega
theorem BdA.size {L:Nat} {b:Aut}(h:BdA L b)(hL:L≤200):b.size≤1048576:=by
 have h1:=tot_le b.next h.2.2
 have h2:b.next.length*L≤200*200:=Nat.mul_le_mul (Nat.le_trans h.1 hL) hL
 have h3:=h.1;have h4:=h.2.1
 unfold Aut.size
 omega
set_option maxHeartbeats 4000000
theorem eq_edge (a b c d e f:Int) (w:World):(Op.equalIn 10000 126 (.agg #[.int .i64 a,.int .i64 b,.int .i64 c]) (.agg #[.int .i64 d,.int .i64 e,.int .i64 f])).run Tryz.prog w=.ok (a==d&&(b==e&&c==f)) w:=by
 have u3:=Tryz.underlying3
 have a3:=Tryz.isAgg3
 have z3:=Tryz.sizeOf3
 have hS:Tryz.prog.underlying 126=some (.struct (Tryz.prog.fieldsOf 126)):=by kernel_rfl
 have hp:Tryz.prog.stoodInHeld 126=false:=by kernel_rfl
 rw [show (10000:Nat)=9999+1 from rfl,run_equalIn_agg w 9999 126 _ _ hS hp]
 simp only [Program.fieldsOf,Tryz.underlying126]
 go_simp
 by_cases h1:a=d<;>by_cases h2:b=e<;>by_cases h3:c=f<;>simp [h1,h2,h3]
set_option maxHeartbeats 4000000
theorem wrong_acc {R M G:Nat} {al st:Int} {es:List Edg} {w w1 W:World} {v:Value}(hr:Rd w R M)(hx:Ext w w1)(hR:R<w.heap.size)(hxW:Ext w1 W)(hown:W.ownsRow w1.heap.size 126 3 v es.length (zp es))(hG:w1.heap.size≤G)(hB:Blk W G 39 #[.int .i64 al,.int .i64 st,v]) :
  Acc w w1 W R G M al st v es:=
 ⟨hB,hown,hr.ext (hx.trans hxW),(hx.trans hxW).dr,hxW.toFrm,hR,hx.size,Nat.le_trans hx.size hG⟩
theorem edge_lit (w:World):(w.alloc (.cells #[] 126)).drew.ownsRow w.heap.size 126 3 (.slice (some ⟨w.heap.size,0,none⟩) 0 0) 0 []:=
 World.ownsRow_lit w #[] 0 (Nat.le_refl _) (by unfold maxLen;omega) rfl
theorem zgD {W:World} {base n:Nat} {v:Value} {es:List Edg}(hn:n=es.length)(h:W.ownsRow base 126 3 v n (zp es)):W.ownsRow base 126 3 v es.length (zp es):=by
 subst hn
 exact h
theorem zeS {R M G:Nat} {al st:Int} {es:List Edg} {w w1 W:World} {v:Value}(hr:Rd w R M)(hx:Ext w w1)(hR:R<w.heap.size)(hxW:Ext w1 W)(hown:W.ownsRow w1.heap.size 126 3 v es.length (zp es))(hB:Blk W G 39 #[.int .i64 0,.int .i64 0,.slice none 0 0])(hG:w1.heap.size≤G) :
  ∃ (G':Nat) (v':Value),Value.pointer (some ⟨G,0,none⟩)=.pointer (some ⟨G',0,none⟩)∧w1.heap.size≤G'∧Acc w w1 (((W.setCell ⟨G,0,none⟩ (.int .i64 al)).setCell ⟨G,1,none⟩ (.int .i64 st)).setCell ⟨G,2,none⟩ v) R G' M al st v' es:=by
 have hf:=zbQ W G (.int .i64 al) (.int .i64 st) v
 have hne:∀ b,v.ownBlock=some b→b≠G:=by
  rintro b hv rfl
  rcases hown.2 with ⟨rfl,_⟩|⟨g,cap,cur,rfl,_,hh,_⟩
  ·simp [Value.ownBlock] at hv
  ·have hg:g=b:=by simpa [Value.ownBlock] using hv
   subst hg
   unfold Blk at hB
   rw [hh] at hB
   injection hB with hB
   injection hB with _ ht
   exact absurd ht (by decide)
 refine⟨G,v,rfl,hG,wrong_acc hr hx hR ?_ (ze hown hf (fun b hv hS=>hne b hv hS)) hG (by simpa using ((hB.set_ 0 (.int .i64 al)).set_ 1 (.int .i64 st)).set_ 2 v)⟩
 exact ((hxW.setCell (p:=⟨G,0,none⟩) hG _).setCell (p:=⟨G,1,none⟩) hG _).setCell (p:=⟨G,2,none⟩) hG _
theorem zfe {w0 wB W:World} {R G M:Nat} {al st:Int} {A:Option Addr} {n c:Nat} {es:List Edg}(h:Acc w0 wB W R G M al st (.slice A n c) es)(hn:0<n):∃ g,A=some ⟨g,0,none⟩:=by
 rcases h.own.2 with ⟨hv,h0⟩|⟨g,cap,cur,hv,_⟩
 ·injection hv with _ h2 _;omega
 ·injection hv with h1
  exact⟨g,h1⟩
theorem yH13a5 {P:Prop}(h:P:=by
 have h1':=h1.out
 (refine zN rfl rfl rfl rfl (fun K hK=>?_))
 go_simp
 refine hK.out _ _ ?_
 refine zag ?_
 go_wp2_with fail
 go_meet
 exact⟨_,_,_,_,h3.more (by omega),by have:=HnL.out;simp;omega⟩
 ):P:=h
theorem yH13a6 {P:Prop}(h:P:=by
 (refine zN rfl rfl rfl rfl (fun K hK=>?_))
 go_simp
 refine hK.out _ _ ?_
 refine zag ?_
 go_wp2_with fail
 go_meet
 exact⟨_,_,_,_,hst.more (by omega),by have:=HnL.out;simp;omega⟩
 ):P:=h
set_option maxRecDepth 100000 in
theorem zdi {R M n c L:Nat} {A:Option Addr} {s:Sys} {w:World}(h:Rd w R M)(hM:M≤900000000)(hs:zbG w R A n s)(hn:n≤L)(hL:L≤100000) :
  Calls Tryz.prog 77 #[.pointer (some ⟨R,0,none⟩),.agg #[.int .i64 s.al,.int .i64 s.st,.slice A n c]] w (RetA R (M+10) (L+1) w):=by
 have hRl:=h.lt
 have hr0:=hs.at_.2
 have hen:=hide hs.1
 obtain⟨al,st,es⟩:=s
 simp only at hr0 hen ⊢
 have hx1:Ext w ((w.alloc (.cells #[.int .i64 al,.int .i64 st,.slice A n c] 39)).alloc (.cells #[.int .i64 0,.int .i64 0,.slice none 0 0] 39)):=((Ext.refl _).alloc _).alloc _
 obtain⟨bS,bZ⟩:=zR (Ext.refl ((w.alloc (.cells #[.int .i64 al,.int .i64 st,.slice A n c] 39)).alloc (.cells #[.int .i64 0,.int .i64 0,.slice none 0 0] 39)))
 have hsz:((w.alloc (.cells #[.int .i64 al,.int .i64 st,.slice A n c] 39)).alloc (.cells #[.int .i64 0,.int .i64 0,.slice none 0 0] 39)).heap.size=w.heap.size+2:=by simp
 have HbS:=hide bS
 have HbZ:=hide bZ
 have Hx1:=hide hx1
 have Hsz:=hide hsz
 clear bS bZ hx1 hsz hs
 go_enter Tryz.func77,Tryz.ntmps77
 go_wp2_with fail
 generalize (w.alloc (.cells #[.int .i64 al,.int .i64 st,.slice A n c] 39)).alloc (.cells #[.int .i64 0,.int .i64 0,.slice none 0 0] 39)=w1 at *
 have hz1:w.heap.size+2≤w1.heap.size:=by rw [Hsz.out];exact Nat.le_refl _
 go_upto_region 1 with fail
 go_cut [5] (fun s5 wx=>∃ (G:Nat) (v:Value),s5=.pointer (some ⟨G,0,none⟩)∧w1.heap.size≤G∧Acc w w1 wx R G M al st v es)
 case first =>
  have cS:∀ W,Ext w1 W→∀ q,W.cell? ⟨w.heap.size,q,none⟩=#[Value.int .i64 al,.int .i64 st,.slice A n c][q]?:=fun W hW=>(HbS.out.ext hW).cell
  refine tR (fun X=>Ext w1 X) [10] (Ord.app [0,1,2,3,5,6] (Ord.two 4 (Ord.two 7 (Ord.of [8,9,10]) 9 (Ord.of [7,8,10])) 9 (Ord.of [4,7,8,10]))) ?_
  refine tQ ?_
  refine zet rfl rfl rfl rfl (fun K hK=>?_) (fun K hK=>?_)
  ·go_simp
   have hx2:Ext w1 (w1.alloc (.cells #[] 126)).drew:=((Ext.refl w1).alloc _).drew
   have hown:(w1.alloc (.cells #[] 126)).drew.ownsRow w1.heap.size 126 3 (.slice (some ⟨w1.heap.size,0,none⟩) 0 0) 0 []:=edge_lit w1
   have hz2:(w1.alloc (.cells #[] 126)).drew.heap.size=w1.heap.size+1:=by simp
   refine hK.out _ _ hx2 ?_
   refine pT ?_
   generalize (w1.alloc (.cells #[] 126)).drew=w2 at *
   refine zet rfl rfl rfl rfl (fun K hK=>?_) (fun K hK=>?_)
   ·refine zt _ _ _ _ rfl w1.heap.size 126 _ 3 24 Tryz.underlying37 zaQ rfl (by decide) (.slice (some ⟨w1.heap.size,0,none⟩) 0 0) 0 [] rfl hown (R+1) w.heap.size A n c (zp es) rfl (hr0.ext (Hx1.out.trans hx2)) (zcH es) (by unfold maxLen;omega) (by omega) hx2.size ?_
    intro v w3 hown3 hg3 hat3
    rw [Nat.zero_add,List.nil_append] at hown3
    obtain⟨A3,c3,rfl⟩:=zh hown3
    have hx3:Ext w1 w3:=hx2.grown hg3 (fun k hk=>by simp [Value.ownBlock] at hk;omega)
    refine hK.out _ _ hx3 ?_
    refine pT ?_
    refine tQ ?_
    (refine zA rfl rfl rfl (fun K hK=>?_);go_simp)
    refine hK.out _ _ (hx3.alloc _) ?_
    refine pT ?_
    refine tQ ?_
    (refine zN rfl rfl rfl rfl (fun K hK=>?_))
    go_simp
    refine hK.out _ _ ?_
    refine zag ?_
    go_wp2_with fail
    go_meet
    exact⟨w3.heap.size,.slice A3 n c3,rfl,hx3.size,wrong_acc h Hx1.out hRl (hx3.alloc _) (zf (zgD hen.out hown3) ((Ext.refl _).alloc _)) hx3.size (Blk.new _ _ _)⟩
   ·go_simp
    have hx3:=hx2.alloc (.cells #[.int .i64 0,.int .i64 0,.slice none 0 0] 39)
    have hx23:=(Ext.refl w2).alloc (.cells #[.int .i64 0,.int .i64 0,.slice none 0 0] 39)
    have hb3:=Blk.new w2 39 #[.int .i64 0,.int .i64 0,.slice none 0 0]
    replace hown:=zf hown hx23
    refine hK.out _ _ hx3 ?_
    generalize w2.alloc (.cells #[.int .i64 0,.int .i64 0,.slice none 0 0] 39)=w2' at *
    rw [hz2] at hb3
    have hx2:=hx3
    refine pT ?_
    refine zA rfl rfl rfl (fun K hK=>?_)
    refine zt _ _ _ _ rfl w1.heap.size 126 _ 3 24 Tryz.underlying37 zaQ rfl (by decide) (.slice (some ⟨w1.heap.size,0,none⟩) 0 0) 0 [] rfl hown (R+1) w.heap.size A n c (zp es) rfl (hr0.ext (Hx1.out.trans hx2)) (zcH es) (by unfold maxLen;omega) (by omega) hx2.size ?_
    intro v w3 hown3 hg3 hat3
    rw [Nat.zero_add,List.nil_append] at hown3
    obtain⟨A3,c3,rfl⟩:=zh hown3
    have hx3:Ext w1 w3:=hx2.grown hg3 (fun k hk=>by simp [Value.ownBlock] at hk;omega)
    have hb4:Blk w3 (w1.heap.size+1) 39 #[.int .i64 0,.int .i64 0,.slice none 0 0]:=hb3.frm (Frm.of_grown hg3) (by simp [Value.ownBlock])
    refine hK.out _ _ hx3 ?_
    refine pT ?_
    refine tQ ?_
    have cE:=hb4.cell
    have fE:=hb4.frozen
    (refine zN rfl rfl rfl rfl (fun K hK=>?_))
    go_simp
    refine hK.out _ _ ?_
    refine zag ?_
    go_wp2_with fail
    go_meet
    exact zeS h Hx1.out hRl hx3 (zgD hen.out hown3) hb4 (by omega)
  ·go_simp
   have hx2:Ext w1 (w1.alloc (.cells #[.int .i64 0,.int .i64 0,.slice none 0 0] 39)).drew:=((Ext.refl w1).alloc _).drew
   have hb2:Blk (w1.alloc (.cells #[.int .i64 0,.int .i64 0,.slice none 0 0] 39)).drew w1.heap.size 39 #[.int .i64 0,.int .i64 0,.slice none 0 0]:=Blk.new w1 _ _
   have hz2:(w1.alloc (.cells #[.int .i64 0,.int .i64 0,.slice none 0 0] 39)).drew.heap.size=w1.heap.size+1:=by simp
   refine hK.out _ _ hx2 ?_
   refine pT ?_
   generalize (w1.alloc (.cells #[.int .i64 0,.int .i64 0,.slice none 0 0] 39)).drew=w2 at *
   (refine zA rfl rfl rfl (fun K hK=>?_);go_simp)
   have hx3:=hx2.alloc (.cells #[] 126)
   have hown:(w2.alloc (.cells #[] 126)).ownsRow w1.heap.size 126 3 (.slice (some ⟨w1.heap.size+1,0,none⟩) 0 0) 0 []:=by
    rw [← hz2]
    exact World.ownsRow_lit w2 #[] 0 hx2.size (by unfold maxLen;omega) rfl
   have hb3:=hb2.ext ((Ext.refl w2).alloc (.cells #[] 126))
   refine hK.out _ _ hx3 ?_
   generalize w2.alloc (.cells #[] 126)=w3 at *
   refine pT ?_
   refine zA rfl rfl rfl (fun K hK=>?_)
   refine zt _ _ _ _ rfl w1.heap.size 126 _ 3 24 Tryz.underlying37 zaQ rfl (by decide) (.slice (some ⟨w1.heap.size+1,0,none⟩) 0 0) 0 [] rfl hown (R+1) w.heap.size A n c (zp es) rfl (hr0.ext (Hx1.out.trans hx3)) (zcH es) (by unfold maxLen;omega) (by omega) hx3.size ?_
   intro v w4 hown4 hg4 hat4
   rw [Nat.zero_add,List.nil_append] at hown4
   obtain⟨A4,c4,rfl⟩:=zh hown4
   have hx4:Ext w1 w4:=hx3.grown hg4 (fun k hk=>by simp [Value.ownBlock] at hk;omega)
   have hb4:Blk w4 w1.heap.size 39 #[.int .i64 0,.int .i64 0,.slice none 0 0]:=hb3.frm (Frm.of_grown hg4) (by simp [Value.ownBlock])
   refine hK.out _ _ hx4 ?_
   refine pT ?_
   refine tQ ?_
   have cE:=hb4.cell
   have fE:=hb4.frozen
   (refine zN rfl rfl rfl rfl (fun K hK=>?_))
   go_simp
   refine hK.out _ _ ?_
   refine zag ?_
   go_wp2_with fail
   go_meet
   exact zeS h Hx1.out hRl hx4 (zgD hen.out hown4) hb4 (Nat.le_refl _)
 case rest =>
  obtain⟨G,v,rfl,hGw,hacc⟩:=hcut
  obtain⟨A1,n1,c1,rfl⟩:=hacc.form
  obtain⟨rfl,hsa⟩:=hacc.reads
  have hGz:=hacc.hG
  have cG:=hacc.blk.cell
  have hln:=hsa.2.len
  clear hsa
  have hnL:es.length≤L:=by have:=hen.out;omega
  have HnL:=hide hnL
  go_wp2_with fail
  refine (zu (n:=es.length) hacc.rd (by omega)).mono ?_
  rintro e w3 ⟨k,rfl,hk1,hk0,hr3,hd3⟩
  replace hacc:=hacc.drawn hd3 hr3
  clear hd3 hr3 cG
  have Hk:=hide hk1
  clear hk1 hk0
  go_wp2_with fail
  refine (zu (n:=30) hacc.rd (by omega)).mono ?_
  rintro e w4 ⟨y,rfl,-,-,hr4,hd4⟩
  replace hacc:=hacc.drawn hd4 hr4
  clear hd4 hr4
  go_upto_block 0 with fail
  go_cut [] (fun wx=>∃ (al st:Int) (v:Value) (fs:List Edg),Acc w w1 wx R G (M+10) al st v fs∧fs.length≤L+1)
  case first =>
   have Hen:=hide hln
   clear hln
   have hcases:y=0∨y=1∨y=2∨y=3∨y=4∨y=5∨y=6∨7≤y:=by omega
   rcases hcases with hy|hy|hy|hy|hy|hy|hy|hy
   ·subst hy
    have hy0:True:=trivial
    go_wp2_with fail
    refine (zaS [64,(-1),1,63] 4 #[.int .i64 64,.int .i64 (-1),.int .i64 1,.int .i64 63] rfl rfl (by omega) (by omega) hacc.rd (by omega)).mono ?_
    rintro e w5 ⟨x,-,rfl,hr5,hd5⟩
    replace hacc:=(hacc.ext ((Ext.refl _).alloc _)).drawn hd5 hr5
    have cG:=hacc.blk.cell
    have fG:=hacc.blk.frozen
    go_wp2_with fail
    go_meet
    exact⟨_,_,_,es,(hacc.setAl x).more (by omega),by have:=HnL.out;omega⟩
   ·subst hy
    have hy0:True:=trivial
    go_wp2_with fail
    refine (zaS [0,17,(-1),16,1] 5 #[.int .i64 0,.int .i64 17,.int .i64 (-1),.int .i64 16,.int .i64 1] rfl rfl (by omega) (by omega) hacc.rd (by omega)).mono ?_
    rintro e w5 ⟨x,-,rfl,hr5,hd5⟩
    replace hacc:=(hacc.ext ((Ext.refl _).alloc _)).drawn hd5 hr5
    have cG:=hacc.blk.cell
    have fG:=hacc.blk.frozen
    go_wp2_with fail
    go_meet
    exact⟨_,_,_,es,(hacc.setSt x).more (by omega),by have:=HnL.out;omega⟩
   ·subst hy
    by_cases hn0:0<es.length
    ·have hk:=Hk.out (by omega)
     have hkl:k<es.length:=by omega
     obtain⟨g,rfl⟩:=zfe hacc hn0
     have hne0:es.length≠0:=by omega
     have hG1:R<w1.heap.size:=by have:=hacc.hR;have:=hacc.hB;omega
     have cG:∀ W,Dr R w4 W→∀ q,W.cell? ⟨G,q,none⟩=#[Value.int .i64 al,.int .i64 st,.slice (some ⟨g,0,none⟩) es.length c1][q]?:=fun W hW=>(hacc.blk.dr hW (by have:=hacc.hG;omega)).cell
     clear hk hne0
     go_wp2_with fail
     refine tR (fun X=>Dr R w4 X) [8] (Ord.of [0,1,2,3,4,5,6,7,8]) ?_
     refine tQ ?_
     (refine zA rfl rfl rfl (fun K hK=>?_);go_simp)
     refine hK.out _ _ ((Dr.refl R w4).drew.alloc _) ?_
     refine pT ?_
     refine tQ ?_
     (refine zA rfl rfl rfl (fun K hK=>?_);go_simp)
     refine (zaS (w:=w4.drew) [(-1),16,0,2] 4 #[.int .i64 (-1),.int .i64 16,.int .i64 0,.int .i64 2] rfl rfl (by omega) (by omega) (hacc.rd.ext (Ext.refl _).drew) (by omega)).mono ?_
     rintro e w5 ⟨x,-,rfl,hr5,hd5⟩
     have hd45:Dr R w4 w5:=((Dr.refl R w4).drew.alloc _).trans hd5
     have hacc5:=hacc.drawn hd45 hr5
     refine hK.out _ _ hd45 ?_
     refine pT ?_
     refine tQ ?_
     have hown:=hacc5.own
     obtain⟨o0,c0⟩:=zaN hown (k*3) (by omega)
     have f0:=hown.frozenAt (k*3)
     have hst:=hacc5.turn rfl (zcI (List.getElem?_eq_getElem hkl) x).1 (by simp)
     exact yH13a6
    ·have hn1:es.length=0:=by omega
     clear hn0
     go_wp2_with fail
     go_meet
     exact⟨_,_,_,es,hacc.more (by omega),by have:=HnL.out;omega⟩
   ·subst hy
    by_cases hn0:0<es.length
    ·have hk:=Hk.out (by omega)
     have hkl:k<es.length:=by omega
     obtain⟨g,rfl⟩:=zfe hacc hn0
     have hne0:es.length≠0:=by omega
     have hG1:R<w1.heap.size:=by have:=hacc.hR;have:=hacc.hB;omega
     have cG:∀ W,Dr R w4 W→∀ q,W.cell? ⟨G,q,none⟩=#[Value.int .i64 al,.int .i64 st,.slice (some ⟨g,0,none⟩) es.length c1][q]?:=fun W hW=>(hacc.blk.dr hW (by have:=hacc.hG;omega)).cell
     clear hk hne0
     go_wp2_with fail
     refine tR (fun X=>Dr R w4 X) [8] (Ord.of [0,1,2,3,4,5,6,7,8]) ?_
     refine tQ ?_
     (refine zA rfl rfl rfl (fun K hK=>?_);go_simp)
     refine hK.out _ _ ((Dr.refl R w4).drew.alloc _) ?_
     refine pT ?_
     refine tQ ?_
     (refine zA rfl rfl rfl (fun K hK=>?_);go_simp)
     refine (zaS (w:=w4.drew) [(-1),16,0,3] 4 #[.int .i64 (-1),.int .i64 16,.int .i64 0,.int .i64 3] rfl rfl (by omega) (by omega) (hacc.rd.ext (Ext.refl _).drew) (by omega)).mono ?_
     rintro e w5 ⟨x,-,rfl,hr5,hd5⟩
     have hd45:Dr R w4 w5:=((Dr.refl R w4).drew.alloc _).trans hd5
     have hacc5:=hacc.drawn hd45 hr5
     refine hK.out _ _ hd45 ?_
     refine pT ?_
     refine tQ ?_
     have hown:=hacc5.own
     obtain⟨o0,c0⟩:=zaN hown (k*3+2) (by omega)
     have f0:=hown.frozenAt (k*3+2)
     have hst:=hacc5.turn rfl (zcI (List.getElem?_eq_getElem hkl) x).2.2 (by simp)
     exact yH13a6
    ·have hn1:es.length=0:=by omega
     clear hn0
     go_wp2_with fail
     go_meet
     exact⟨_,_,_,es,hacc.more (by omega),by have:=HnL.out;omega⟩
   ·subst hy
    by_cases hn0:0<es.length
    ·have hk:=Hk.out (by omega)
     have hkl:k<es.length:=by omega
     obtain⟨g,rfl⟩:=zfe hacc hn0
     have hne0:es.length≠0:=by omega
     have hG1:R<w1.heap.size:=by have:=hacc.hR;have:=hacc.hB;omega
     have cG:∀ W,Dr R w4 W→∀ q,W.cell? ⟨G,q,none⟩=#[Value.int .i64 al,.int .i64 st,.slice (some ⟨g,0,none⟩) es.length c1][q]?:=fun W hW=>(hacc.blk.dr hW (by have:=hacc.hG;omega)).cell
     clear hk hne0
     go_wp2_with fail
     refine tR (fun X=>Dr R w4 X) [8] (Ord.of [0,1,2,3,4,5,6,7,8]) ?_
     refine tQ ?_
     (refine zA rfl rfl rfl (fun K hK=>?_);go_simp)
     refine hK.out _ _ ((Dr.refl R w4).drew.alloc _) ?_
     refine pT ?_
     refine tQ ?_
     (refine zA rfl rfl rfl (fun K hK=>?_);go_simp)
     refine (zaS (w:=w4.drew) [(-1),6,70,5,0] 5 #[.int .i64 (-1),.int .i64 6,.int .i64 70,.int .i64 5,.int .i64 0] rfl rfl (by omega) (by omega) (hacc.rd.ext (Ext.refl _).drew) (by omega)).mono ?_
     rintro e w5 ⟨x,-,rfl,hr5,hd5⟩
     have hd45:Dr R w4 w5:=((Dr.refl R w4).drew.alloc _).trans hd5
     have hacc5:=hacc.drawn hd45 hr5
     refine hK.out _ _ hd45 ?_
     refine pT ?_
     refine tQ ?_
     have hown:=hacc5.own
     obtain⟨o0,c0⟩:=zaN hown (k*3+1) (by omega)
     have f0:=hown.frozenAt (k*3+1)
     have hst:=hacc5.turn rfl (zcI (List.getElem?_eq_getElem hkl) x).2.1 (by simp)
     exact yH13a6
    ·have hn1:es.length=0:=by omega
     clear hn0
     go_wp2_with fail
     go_meet
     exact⟨_,_,_,es,hacc.more (by omega),by have:=HnL.out;omega⟩
   ·subst hy
    by_cases hn0:0<es.length
    ·have hk:=Hk.out (by omega)
     have hkl:k<es.length:=by omega
     obtain⟨g,rfl⟩:=zfe hacc hn0
     have hne0:es.length≠0:=by omega
     have hown:=hacc.own
     have hE:=hide (List.getElem?_eq_getElem hkl)
     obtain⟨ed,hed⟩:∃ ed,Hid (es[k]?=some ed):=⟨_,hE.out⟩
     obtain⟨d0,d1,d2⟩:=zbP hed.out
     have cG:∀ W,Ext w4 W→∀ q,W.cell? ⟨G,q,none⟩=#[Value.int .i64 al,.int .i64 st,.slice (some ⟨g,0,none⟩) es.length c1][q]?:=fun W hW=>(hacc.blk.ext hW).cell
     have C0:∀ W,Ext w4 W→W.cell? ⟨g,k*3,none⟩=some (.int .i64 ed.fr):=fun W hW=>hW.cell_some (by rw [hown.cellAt _ (by omega)];exact d0)
     have C1:∀ W,Ext w4 W→W.cell? ⟨g,k*3+1,none⟩=some (.int .i64 ed.le):=fun W hW=>hW.cell_some (by rw [hown.cellAt _ (by omega)];exact d1)
     have C2:∀ W,Ext w4 W→W.cell? ⟨g,k*3+2,none⟩=some (.int .i64 ed.ta):=fun W hW=>hW.cell_some (by rw [hown.cellAt _ (by omega)];exact d2)
     clear hk hne0 d0 d1 d2
     go_wp2_with fail
     refine tR (fun X=>Ext w4 X) [8,10] (Ord.of [0,1,2,3,4,5,6,7,8,9,10]) ?_
     refine tQ ?_
     (refine zA rfl rfl rfl (fun K hK=>?_);go_simp)
     refine hK.out _ _ ((Ext.refl _).drew.alloc _) ?_
     refine pT ?_
     (refine zN rfl rfl rfl rfl (fun K hK=>?_))
     refine zaG w1 w4.drew _ _ _ rfl 126 _ 3 24 Tryz.underlying37 zaQ rfl (by decide) (.slice (some ⟨g,0,none⟩) es.length c1) es.length (zp es) _ _ rfl rfl hacc.fr.size hown rfl (by simp [Value.oneCell']) (by unfold maxLen;omega) (by omega) ?_
     intro g5 cap5 w5 hown5 hg5 hat5 hlt5
     refine hK.out _ _ ?_
     refine pT ?_
     refine tQ ?_
     obtain⟨h1,h2,h3⟩:=(hacc.ext ((Ext.refl _).drew)).push (e:=ed) (W':=w5) hown5 hg5 hat5
     exact yH13a5
    ·have hn1:es.length=0:=by omega
     clear hn0
     go_wp2_with fail
     go_meet
     exact⟨_,_,_,es,hacc.more (by omega),by have:=HnL.out;omega⟩
   ·subst hy
    have hG1:R<w1.heap.size:=by have:=hacc.hR;have:=hacc.hB;omega
    have cG:∀ W,Dr R w4 W→∀ q,W.cell? ⟨G,q,none⟩=#[Value.int .i64 al,.int .i64 st,.slice A1 es.length c1][q]?:=fun W hW=>(hacc.blk.dr hW (by have:=hacc.hG;omega)).cell
    go_wp2_with fail
    refine tR (fun X=>Dr R w4 X) [10,12] (Ord.of [0,1,2,4,6,3,5,7,8,9,10,11,12]) ?_
    refine tQ ?_
    (refine zA rfl rfl rfl (fun K hK=>?_);go_simp)
    refine (zu (n:=4) (hacc.rd.ext (Ext.refl _).drew) (by omega)).mono ?_
    rintro e w5 ⟨x,rfl,-,-,hr5,hd5⟩
    replace hd5:=((Dr.refl R w4).drew).trans hd5
    refine hK.out _ _ hd5 ?_
    refine pT ?_
    refine tQ ?_
    (refine zA rfl rfl rfl (fun K hK=>?_);go_simp)
    refine (zu (n:=3) hr5 (by omega)).mono ?_
    rintro e w6 ⟨z,rfl,-,-,hr6,hd6⟩
    replace hd6:=hd5.trans hd6
    refine hK.out _ _ hd6 ?_
    refine pT ?_
    refine tQ ?_
    (refine zA rfl rfl rfl (fun K hK=>?_);go_simp)
    refine (zu (n:=4) hr6 (by omega)).mono ?_
    rintro e w7 ⟨u,rfl,-,-,hr7,hd7⟩
    replace hd7:=hd6.trans hd7
    refine hK.out _ _ hd7 ?_
    have hacc7:=hacc.drawn hd7 hr7
    refine pT ?_
    refine tQ ?_
    (refine zA rfl rfl rfl (fun K hK=>?_);go_simp)
    refine hK.out _ _ (hd7.alloc _) ?_
    refine pT ?_
    (refine zN rfl rfl rfl rfl (fun K hK=>?_))
    refine zaG w1 w7 _ _ _ rfl 126 _ 3 24 Tryz.underlying37 zaQ rfl (by decide) (.slice A1 es.length c1) es.length (zp es) _ _ rfl rfl hacc7.fr.size hacc7.own rfl (by simp [Value.oneCell']) (by unfold maxLen;have:=HnL.out;omega) (by have:=HnL.out;omega) ?_
    intro g8 cap8 w8 hown8 hg8 hat8 hlt8
    refine hK.out _ _ ?_
    refine pT ?_
    refine tQ ?_
    obtain⟨h1,h2,h3⟩:=hacc7.push (e:=⟨x,z,u⟩) (W':=w8) hown8 hg8 hat8
    exact yH13a5
   ·have h0:((y:Int)==0)=false:=by simp;omega
    have h1:((y:Int)==1)=false:=by simp;omega
    have h2:((y:Int)==2)=false:=by simp;omega
    have h3:((y:Int)==3)=false:=by simp;omega
    have h4:((y:Int)==4)=false:=by simp;omega
    have h5:((y:Int)==5)=false:=by simp;omega
    have h6:((y:Int)==6)=false:=by simp;omega
    clear hy
    go_wp2_with fail
    go_meet
    exact⟨_,_,_,es,hacc.more (by omega),by have:=HnL.out;omega⟩
  case rest =>
   clear hacc
   obtain⟨al',st',v',fs,hacc,hlen⟩:=hcut
   obtain⟨A',n',c',rfl⟩:=hacc.form
   obtain⟨rfl,_⟩:=hacc.reads
   have cG:=hacc.blk.cell
   have bz2:=HbZ.out.frm hacc.fr (by omega)
   have cz:=bz2.cell
   have hzz:=HbZ.out.lt
   have fz:=bz2.frozen
   obtain⟨f1,f2,f3⟩:=hacc.fin (Z:=w.heap.size+1) (by omega) (by omega) (.int .i64 al') (.int .i64 st') (.slice A' fs.length c')
   have Hfin:=hide (show RetA R (M+10) (L+1) w (.returned (.agg #[.int .i64 al',.int .i64 st',.slice A' fs.length c'])) _ from ⟨⟨al',st',fs⟩,A',fs.length,c',rfl,f1,⟨hlen,zgJ hacc.own⟩,f2,f3⟩)
   clear f1 f2 f3
   go_wp2_with fail
   exact bodyPost_ret (v:=.agg #[.int .i64 al',.int .i64 st',.slice A' fs.length c']) (by simp [results,Tryz.results77,go_sem,cz]) rfl Hfin.out
set_option maxHeartbeats 4000000
def lenAt (W:World) (G:Nat):Nat:=match W.cell? ⟨G,1,none⟩ with|some (.slice _ n _)=>n|_=>0
theorem AccA.lenAt {w0 W:World} {R G M n c:Nat} {A:Option Addr} {al:Int} {vA:Value} {rows:List Value} {ls:List (List Int)} {acc:List Bool}(h:AccA w0 W R G M al (.slice A n c) rows ls vA acc):Go.Proofs.YtndhahednhnnbaaGreatDoor.lenAt W G=n:=by
 unfold Go.Proofs.YtndhahednhnnbaaGreatDoor.lenAt
 rw [h.blk.cell 1]
 rfl
theorem yH13a8 {P:Prop}(h:P:=by
 have hn1:m=0:=by omega
 clear hn0
 have cG:=hacc.blk.cell
 go_wp2_with fail
 go_meet
 exact⟨_,_,_,_,_,_,hacc.more (by omega),hide (Hb.out.more (by omega))⟩
 ):P:=h
set_option maxRecDepth 100000 in
theorem zbp {R M L:Nat} {A:Option Addr} {n c:Nat} {A':Option Addr} {n' c':Nat} {b:Aut} {w:World}(h:Rd w R M)(hM:M≤900000000)(ho:zK w (R+1) A n c A' n' c' b)(hb:BdA L b)(hL:L≤100) :
  Calls Tryz.prog 44 #[.pointer (some ⟨R,0,none⟩),.agg #[.int .i64 b.al,.slice A n c,.slice A' n' c']] w (zeT R (M+10) (BdA (L+13)) w):=by
 have hRl:=h.lt
 have hsz:=hb.size (by omega)
 go_enter Tryz.func44,Tryz.ntmps44
 have hx0:=(Ext.refl w).alloc (.cells #[.int .i64 b.al,.slice A n c,.slice A' n' c'] 27)
 have b0:=Blk.new w 27 #[.int .i64 b.al,.slice A n c,.slice A' n' c']
 have hs0:(w.alloc (.cells #[.int .i64 b.al,.slice A n c,.slice A' n' c'] 27)).heap.size=w.heap.size+1:=by simp
 have hx1:=hx0.alloc (.cells #[.int .i64 0,.slice none 0 0,.slice none 0 0] 27)
 have bz:=Blk.new (w.alloc (.cells #[.int .i64 b.al,.slice A n c,.slice A' n' c'] 27)) 27 #[.int .i64 0,.slice none 0 0,.slice none 0 0]
 replace b0:=b0.ext ((Ext.refl _).alloc (.cells #[.int .i64 0,.slice none 0 0,.slice none 0 0] 27))
 rw [hs0] at bz
 have c0:=b0.cell
 go_upto_region 1 with fail
 generalize (w.alloc (.cells #[.int .i64 b.al,.slice A n c,.slice A' n' c'] 27)).alloc (.cells #[.int .i64 0,.slice none 0 0,.slice none 0 0] 27)=w1 at *
 have hz1:=bz.lt
 go_wp2_with fail
 refine (zcS (ho.ext hx1).reads hsz).mono ?_
 rintro e w2 ⟨B,m,d,B',m',d',rfl,hown,hx2⟩
 obtain⟨rows,hacc⟩:=AccA.of (R:=R) (M:=M) hown (h.ext (hx1.trans hx2)) hx2.dr (by omega)
 have hG:=hx2.size
 have hm:m=b.next.length:=hown.2.1
 have hmL:m≤100:=by have:=hb.1;omega
 have Hm:=hide hm
 have Hb:=hide hb
 clear hown ho hm hb hsz
 go_upto_region 2 with fail
 generalize w2.alloc (.cells #[.int .i64 b.al,.slice B m d,.slice B' m' d'] 27)=w3 at *
 generalize w2.heap.size=G at *
 have cG:=hacc.blk.cell
 go_wp2_with fail
 refine (zu hacc.rd (by omega)).mono ?_
 rintro e w4 ⟨k,rfl,hk1,-,hr4,hd4⟩
 replace hacc:=hacc.drawn hd4 hr4
 have Hk:=hide hk1
 clear hd4 hr4 cG hk1
 go_wp2_with fail
 refine (zu hacc.rd (by omega)).mono ?_
 rintro e w5 ⟨y,rfl,-,-,hr5,hd5⟩
 replace hacc:=hacc.drawn hd5 hr5
 clear hd5 hr5
 go_upto_block 0 with fail
 go_cut [] (fun wx=>∃ (al:Int) (v:Value) (rows:List Value) (ls:List (List Int)) (vA:Value) (acc:List Bool),AccA w1 wx R G (M+10) al v rows ls vA acc∧Hid (BdL (L+13) ls acc))
 case first =>
  have hcases:y=0∨y=1∨y=2∨y=3∨y=4∨y=5∨6≤y:=by omega
  rcases hcases with hy|hy|hy|hy|hy|hy|hy
  ·subst hy
   have hy0:True:=trivial
   go_wp2_with fail
   refine (zaS [64,(-1),1,63,0] 5 #[.int .i64 64,.int .i64 (-1),.int .i64 1,.int .i64 63,.int .i64 0] rfl rfl (by omega) (by omega) hacc.rd (by omega)).mono ?_
   rintro e w6 ⟨x,-,rfl,hr6,hd6⟩
   replace hacc:=(hacc.ext ((Ext.refl _).alloc _)).drawn hd6 hr6
   have cG:=hacc.blk.cell
   have fG:=hacc.blk.frozen
   go_wp2_with fail
   go_meet
   exact⟨_,_,_,_,_,_,(hacc.setAl x).more (by omega),hide (Hb.out.more (by omega))⟩
  ·subst hy
   have hy0:True:=trivial
   have cG:=hacc.blk.cell
   have hs1:=hacc.dr.size
   have hal:b.acc.length≤100:=by have:=Hb.out.2.1;omega
   go_wp2_with (at_builtin;refine zam w1 w5 rfl _ _ _ rfl 4 _ 1 1 Tryz.underlying25 zba rfl (by decide) (.slice B' m' d') b.acc.length (zaz b.acc) _ _ rfl rfl hs1 hacc.acc rfl (by simp [Value.oneCell']) (by unfold maxLen;omega) (by omega) ?_;intro g6 cap6 w6 hown6 hg6 hat6 hlt6;obtain⟨q1,q2,q3⟩:=hacc.pushAcc (x:=true) hown6 hg6 hat6;have q1':=q1.out)
   go_meet
   exact⟨_,_,_,_,_,_,q3.more (by omega),hide ⟨by have:=Hb.out.1;omega,by have:=Hb.out.2.1;simp;omega,fun l hl=>by have:=Hb.out.2.2 l hl;omega⟩⟩
  ·subst hy
   have hy0:True:=trivial
   by_cases hn0:0<m
   ·have hk:=Hk.out (by omega)
    have hkm:k<b.next.length:=by have:=Hm.out;omega
    obtain⟨l,hl⟩:∃ l,b.next[k]?=some l:=⟨_,List.getElem?_eq_getElem hkm⟩
    obtain⟨gN,rfl,hgN,-⟩:=zai (show w5.ownsRow w1.heap.size 71 1 (.slice B m d) m rows from by have:=hacc.nx;rw [← Hm.out] at this;exact this) hn0
    obtain⟨Ar,cr,hr,hcell,hor⟩:=hacc.row hl Hm.out
    have hll:l.length≤100:=by have:=Hb.out.2.2 l (List.mem_of_getElem? hl);omega
    have HL:=hide hl
    have HR:=hide hr
    have hs1:=hacc.dr.size
    have cG:∀ W,Frm (fun b=>(Value.slice Ar l.length cr).ownBlock=some b) w5 W→∀ q,W.cell? ⟨G,q,none⟩=#[Value.int .i64 b.al,.slice (some ⟨gN,0,none⟩) m d,.slice B' m' d'][q]?:=fun W hW=>(hacc.blk.frm hW (fun e=>zo hor hacc.blk (by decide) e rfl)).cell
    have cN:∀ W,Frm (fun b=>(Value.slice Ar l.length cr).ownBlock=some b) w5 W→W.cell? ⟨gN,k,none⟩=some (.slice Ar l.length cr):=fun W hW=>by
     have hx:W.ownsRow w1.heap.size 71 1 (.slice (some ⟨gN,0,none⟩) m d) b.next.length rows:=ze hacc.nx hW (fun b hb hS=>zaT hacc.nx hor (by decide) hb hS)
     rw [← Hm.out] at hx
     rw [hx.cellAt k (by omega),HR.out]
    have h00:Frm (fun b=>(Value.slice Ar l.length cr).ownBlock=some b) w5 w5.drew:=(Ext.refl w5).drew.toFrm
    clear hl hr hcell hkm
    go_wp2_with fail
    refine tR (fun X=>Frm (fun b=>(Value.slice Ar l.length cr).ownBlock=some b) w5 X) [11] (Ord.of [0,1,2,3,4,5,6,7,8,9,10,11]) ?_
    refine tQ ?_
    (refine zA rfl rfl rfl (fun K hK=>?_);go_simp)
    have hxd:=(Ext.refl w5).drew
    refine hK.out _ _ (hxd.alloc _).toFrm ?_
    refine pT ?_
    refine zA rfl rfl rfl (fun K hK=>?_)
    refine zaG w1 w5.drew _ _ _ rfl 3 _ 1 8 Tryz.underlying71 zY rfl (by decide) (.slice Ar l.length cr) l.length (ints l) _ _ rfl rfl hs1 (zf hor hxd) rfl (by simp [Value.oneCell']) (by unfold maxLen;omega) (by omega) ?_
    intro g6 cap6 w6 hown6 hg6 hat6 hlt6
    obtain⟨q1,q2,q3,q4⟩:=(hacc.ext hxd).growRow (x:=0) Hm.out HR.out HL.out hown6 hg6 hat6
    have q2':=q2.out
    refine hK.out _ _ (hxd.toFrm.trans (Frm.of_grown hg6)) ?_
    refine pT ?_
    refine tQ ?_
    (refine zN rfl rfl rfl rfl (fun K hK=>?_))
    go_simp
    refine hK.out _ _ ?_
    refine zag ?_
    go_wp2_with fail
    go_meet
    refine⟨_,_,_,_,_,_,q4.more (by omega),hide ⟨by have:=Hb.out.1;rw [List.length_set];omega,by have:=Hb.out.2.1;omega,fun l' hl'=>?_⟩⟩
    rcases List.mem_or_eq_of_mem_set hl' with h1|h1
    ·have:=Hb.out.2.2 l' h1;omega
    ·have:=Hb.out.2.2 l (List.mem_of_getElem? HL.out)
     rw [h1];simp;omega
   ·exact yH13a8
  ·subst hy
   have hy0:True:=trivial
   by_cases hn0:0<m
   ·have hk:=Hk.out (by omega)
    have hkm:k<b.next.length:=by have:=Hm.out;omega
    obtain⟨l,hl⟩:∃ l,b.next[k]?=some l:=⟨_,List.getElem?_eq_getElem hkm⟩
    obtain⟨gN,rfl,hgN,-⟩:=zai (show w5.ownsRow w1.heap.size 71 1 (.slice B m d) m rows from by have:=hacc.nx;rw [← Hm.out] at this;exact this) hn0
    obtain⟨Ar,cr,hr,hcell,hor⟩:=hacc.row hl Hm.out
    have hll:l.length≤100:=by have:=Hb.out.2.2 l (List.mem_of_getElem? hl);omega
    have HL:=hide hl
    have HR:=hide hr
    have Hbl:=hide (Hb.out.2.2 l (List.mem_of_getElem? hl))
    clear hl hr hkm
    have cG:=hacc.blk.cell
    by_cases hl0:0<l.length
    ·obtain⟨gr,rfl,-,-⟩:=zai hor hl0
     go_wp2_with fail
     refine (zu (n:=l.length) hacc.rd (by omega)).mono ?_
     rintro e w6 ⟨j,rfl,hj1,-,hr6,hd6⟩
     have hjl:=hj1 (by omega)
     replace hacc:=hacc.drawn hd6 hr6
     have hRG:=hacc.hR
     have cN:∀ W,Dr R w6 W→W.cell? ⟨gN,k,none⟩=some (.slice (some ⟨gr,0,none⟩) l.length cr):=fun W hW=>(hd6.trans hW).cell_some hcell (by simp;omega)
     have hwr:IntKind.i64.wrap ((m:Int) - 1)=(m:Int) - 1:=by rw [IntKind.wrap_i64];omega
     clear cG hj1 hr6 hd6 hcell hor
     have cG:∀ W,Dr R w6 W→∀ q,W.cell? ⟨G,q,none⟩=#[Value.int .i64 b.al,.slice (some ⟨gN,0,none⟩) m d,.slice B' m' d'][q]?:=fun W hW=>(hacc.blk.dr hW (by have:=hacc.hG;omega)).cell
     go_wp2_with fail
     refine tR (fun X=>Dr R w6 X) [13] (Ord.of [0,1,2,3,4,5,6,7,8,9,10,11,12,13]) ?_
     refine tQ ?_
     (refine zA rfl rfl rfl (fun K hK=>?_);go_simp)
     refine hK.out _ _ ((Dr.refl R w6).drew.alloc _) ?_
     refine pT ?_
     (refine zA rfl rfl rfl (fun K hK=>?_);go_simp)
     refine (zaS (w:=w6.drew) [(-1),m,(m:Int) - 1,0] 4 #[.int .i64 (-1),.int .i64 m,.int .i64 ((m:Int) - 1),.int .i64 0] rfl rfl (by omega) (by omega) (hacc.rd.ext (Ext.refl _).drew) (by omega)).mono ?_
     rintro e w7 ⟨x,-,rfl,hr7,hd7⟩
     have hd67:Dr R w6 w7:=((Dr.refl R w6).drew.alloc _).trans hd7
     have hacc7:=hacc.drawn hd67 hr7
     refine hK.out _ _ hd67 ?_
     refine pT ?_
     refine tQ ?_
     have hown:=hacc7.rows.2.1 k _ l HR.out HL.out
     obtain⟨o0,c0⟩:=zaN hown j (by omega)
     have f0:=hown.frozenAt j
     have hst:=hacc7.setRow (k:=j) (x:=x) HR.out HL.out rfl
     (refine zN rfl rfl rfl rfl (fun K hK=>?_))
     go_simp
     refine hK.out _ _ ?_
     refine zag ?_
     go_wp2_with fail
     go_meet
     refine⟨_,_,_,_,_,_,hst.more (by omega),hide ⟨by have:=Hb.out.1;rw [List.length_set];omega,by have:=Hb.out.2.1;omega,fun l' hl'=>?_⟩⟩
     rcases List.mem_or_eq_of_mem_set hl' with h1|h1
     ·have:=Hb.out.2.2 l' h1;omega
     ·rw [h1];simp;have:=Hbl.out;omega
    ·have hl1:l.length=0:=by omega
     have hl2:¬ ((l.length:Int)>0):=by omega
     go_wp2_with fail
     go_meet
     exact⟨_,_,_,_,_,_,hacc.more (by omega),hide (Hb.out.more (by omega))⟩
   ·exact yH13a8
  ·subst hy
   have hy0:True:=trivial
   have hs1:=hacc.dr.size
   have hacc1:=hacc.ext ((Ext.refl w5).alloc (.cells #[] 71))
   have hn1:=World.ownsRow_lit (base:=w1.heap.size) (e:=71) (size:=1) w5 #[] 0 hs1 (by unfold maxLen;omega) rfl
   have cG:=hacc1.blk.cell
   have fG:=hacc1.blk.frozen
   go_upto_region 18 with fail
   replace hacc1:=hacc1.setNext hn1
   clear hacc cG fG hn1
   generalize (w5.alloc (.cells #[] 71)).setCell ⟨G,1,none⟩ (.slice (some ⟨w5.heap.size,0,none⟩) 0 0)=w6 at *
   have hs6:=hacc1.dr.size
   have hacc2:=hacc1.ext ((Ext.refl w6).alloc (.cells #[] 4))
   have hn2:=World.ownsRow_lit (base:=w1.heap.size) (e:=4) (size:=1) w6 #[] 0 hs6 (by unfold maxLen;omega) rfl
   have cG:=hacc2.blk.cell
   have fG:=hacc2.blk.frozen
   go_wp2_with fail
   go_meet
   exact⟨_,_,_,_,_,_,(hacc2.setMarks hn2).more (by omega),hide ⟨by simp,by simp,fun l hl=>by simp at hl⟩⟩
  ·subst hy
   have hy0:True:=trivial
   by_cases hn0:0<m
   ·have hn0':((m:Int)>0):=by omega
    have hml:m=b.next.length:=Hm.out
    have hlm:m≤L:=by have:=Hb.out.1;omega
    have hst:∃ (i:Nat) (v:Value) (rows:List Value) (ls:List (List Int)) (vA:Value) (acc:List Bool),i≤13∧AccA w1 w5 R G (M+2) b.al v rows ls vA acc∧Hid (ls.length=m+i)∧Hid (i=0∨m+i≤13)∧Hid (acc.length≤L+i)∧Hid (∀ l∈ls,l.length≤L):=
     ⟨0,_,_,_,_,_,by omega,hacc,hide hml.symm,hide (.inl rfl),hide Hb.out.2.1,hide Hb.out.2.2⟩
    clear hml hacc
    go_wp2_with fail
    go_loopw [] (fun wr=>∃ (i:Nat) (v:Value) (rows:List Value) (ls:List (List Int)) (vA:Value) (acc:List Bool),i≤13∧AccA w1 wr R G (M+2) b.al v rows ls vA acc∧Hid (ls.length=m+i)∧Hid (i=0∨m+i≤13)∧Hid (acc.length≤L+i)∧Hid (∀ l∈ls,l.length≤L)) (fun wr=>200 - lenAt wr G)
    case atStart=>exact hst
    case round =>
     clear hst
     obtain⟨i,v,rows,ls,vA,acc,hi,hacc,hln,him,hal,hlL⟩:=hrel
     obtain⟨gN,cN,rfl,hgN⟩:∃ g c,v=.slice (some ⟨g,0,none⟩) (m+i) c∧w1.heap.size≤g:=by
      obtain⟨A9,c9,rfl⟩:=zh hacc.nx
      obtain⟨g,rfl,hg,-⟩:=zai hacc.nx (by have:=hln.out;omega)
      exact⟨g,c9,by rw [hln.out],hg⟩
     have hmes:=hide hacc.lenAt
     by_cases hlt:m+i≤12
     ·have hlt':((m+i:Nat):Int)≤12:=by omega
      have h0l:0<ls.length:=by have:=hln.out;omega
      obtain⟨l,hl⟩:∃ l,ls[0]?=some l:=⟨_,List.getElem?_eq_getElem h0l⟩
      obtain⟨Ar,cr,hr,hcell,hor⟩:=hacc.row hl hln.out.symm
      have hll:l.length≤L:=hlL.out l (List.mem_of_getElem? hl)
      have Hll:=hide hll
      have hlow:=hide hacc.low
      have hs1:=hacc.dr.size
      have hrdl:=Reads.of_own hor
      have Hrd:=hide (fun W (hW:Ext wr W)=>hrdl.ext hW)
      have cG:∀ W,Ext wr W→∀ q,W.cell? ⟨G,q,none⟩=#[Value.int .i64 b.al,.slice (some ⟨gN,0,none⟩) (m+i) cN,vA][q]?:=fun W hW=>(hacc.blk.ext hW).cell
      have cNx:∀ W,Ext wr W→W.cell? ⟨gN,0,none⟩=some (.slice Ar l.length cr):=fun W hW=>hW.cell_some hcell
      have hww:=Ext.refl wr
      have h0i:(0:Int)<((m+i:Nat):Int):=by omega
      have h0j:0<(m:Int)+(i:Int):=by omega
      clear hl hr hcell hor hrdl h0l
      go_upto_region 21 with fail
      refine uR (fun X=>Ext wr X) [9,11] (OrdU.of [0,1,3,4,5,6,2,7,8,9,10,11]) ?_
      refine uQ ?_
      have hx0:Ext wr wr.drew:=hww.drew
      generalize wr.drew=wd at *
      (refine zb rfl rfl rfl (fun K hK=>?_);go_simp)
      have hm:=World.ownsRow_made (base:=wr.heap.size) (e:=3) (size:=1) wd #[] 0 hx0.size (Nat.zero_le _) rfl
      have hx1:=(Ext.refl wd).alloc (.cells #[] 3)
      replace hx0:=hx0.trans hx1
      refine hK.out _ _ hx0 ?_
      generalize wd.alloc (.cells #[] 3)=wm at *
      generalize wd.heap.size=MM at *
      refine pT ?_
      refine uQ ?_
      refine zb rfl rfl rfl (fun K hK=>?_)
      refine zt wm _ _ 71 rfl wr.heap.size 3 _ 1 8 Tryz.underlying71 zY rfl (by decide) (.slice (some ⟨MM,0,none⟩) 0 0) 0 [] rfl hm _ _ Ar l.length cr (ints l) rfl (Hrd.out _ hx0) (zgG _) (by unfold maxLen;omega) (by omega) hx0.size ?_
      intro vR w6 hrow hgR hatR
      rw [Nat.zero_add,List.nil_append] at hrow
      obtain⟨BR,dR,rfl⟩:=zh hrow
      have hww3:Ext wr w6:=hx0.grown hgR (fun k hk=>(hm.lt k hk).1)
      refine hK.out _ _ hww3 ?_
      refine pT ?_
      refine uQ ?_
      (refine zb rfl rfl rfl (fun K hK=>?_);go_simp)
      refine hK.out _ _ (hww3.alloc _) ?_
      refine pT ?_
      (refine za rfl rfl rfl rfl (fun K hK=>?_))
      have hacc6:=hacc.ext hww3
      have hnx6:=hacc6.nx
      rw [hln.out] at hnx6
      refine zaG w1 w6 _ _ _ rfl 71 _ 1 24 Tryz.underlying24 zbV rfl (by decide) (.slice (some ⟨gN,0,none⟩) (m+i) cN) (m+i) rows _ _ rfl rfl hacc6.dr.size hnx6 rfl (zaP _ _ _) (by unfold maxLen;omega) (by omega) ?_
      intro g7 cap7 w7 hown7 hg7 hat7 hlt7
      refine hK.out _ _ ?_
      refine pT ?_
      refine uQ ?_
      obtain⟨p1,p2,p3⟩:=hacc6.pushRow (l:=l) (W':=w7) (g:=g7) (cap:=cap7) hlow.out hs1 hrow (by rw [hln.out];exact hown7) hg7 hat7
      have p1':=p1.out
      rw [hln.out] at p3
      (refine za rfl rfl rfl rfl (fun K hK=>?_))
      go_simp
      refine hK.out _ _ ?_
      refine zd ?_
      generalize w7.setCell ⟨G,1,none⟩ (.slice (some ⟨g7,0,none⟩) (m+i+1) cap7)=w8 at *
      have cG8:=p3.blk.cell
      have hs8:=p3.dr.size
      have hal':=hal.out
      clear p1 p1' p2 cG cNx hown7 hg7 hat7 hacc6 hacc hnx6
      go_wp2_with (at_builtin;refine zam w1 w8 rfl _ _ _ rfl 4 _ 1 1 Tryz.underlying25 zba rfl (by decide) vA acc.length (zaz acc) _ _ rfl rfl hs8 p3.acc rfl (by simp [Value.oneCell']) (by unfold maxLen;omega) (by omega) ?_;intro g9 cap9 w9 hown9 hg9 hat9 hlt9;obtain⟨q1,q2,q3⟩:=p3.pushAcc (x:=false) hown9 hg9 hat9;have q1':=q1.out)
      go_roundw
      case rel=>exact⟨i+1,by omega,_,_,ls++[l],_,acc++[false],q3,hide (by have:=hln.out;simp;omega),hide (by omega),hide (by simp;omega),hide (fun l' hl'=>by
       rcases List.mem_append.1 hl' with h1|h1
       ·exact hlL.out l' h1
       ·rw [List.mem_singleton.1 h1];exact Hll.out)⟩
      case measure=>have h1:=q3.lenAt;have h2:=hmes.out;omega
     ·have hlt':¬ (((m+i:Nat):Int)≤12):=by omega
      have cG:=hacc.blk.cell
      go_wp2_with fail
      go_meet
      exact⟨_,_,_,_,_,_,hacc.more (by omega),hide ⟨by have:=hln.out;have:=him.out;omega,by have:=hal.out;omega,fun l' hl'=>by have:=hlL.out l' hl';omega⟩⟩
   ·have hn1:m=0:=by omega
    clear hn0
    have cG:=hacc.blk.cell
    have hst:=hacc
    clear hacc
    go_wp2_with fail
    go_loopw [] (fun wr=>AccA w1 wr R G (M+1+1) b.al (.slice B m d) rows b.next (.slice B' m' d') b.acc) (fun wr=>0)
    case atStart=>exact hst
    case round =>
     clear hst cG
     have cG:=hrel.blk.cell
     go_wp2_with fail
     go_meet
     exact⟨_,_,_,_,_,_,hrel.more (by omega),hide (Hb.out.more (by omega))⟩
  ·have h0':((y:Int)==0)=false:=by simp;omega
   have h1':((y:Int)==1)=false:=by simp;omega
   have h2':((y:Int)==2)=false:=by simp;omega
   have h3':((y:Int)==3)=false:=by simp;omega
   have h4':((y:Int)==4)=false:=by simp;omega
   have h5':((y:Int)==5)=false:=by simp;omega
   go_wp2_with fail
   go_meet
   exact⟨_,_,_,_,_,_,hacc.more (by omega),hide (Hb.out.more (by omega))⟩
 case rest =>
  clear hacc
  obtain⟨al,v,rows,ls,vA,acc,hacc,hbd⟩:=hcut
  obtain⟨A5,c5,rfl⟩:=zh hacc.nx
  obtain⟨B5,d5,rfl⟩:=zh hacc.acc
  obtain⟨f1,f2⟩:=hacc.fin (N:=M+10) (sh:=BdA (L+13)) hx1 bz rfl hRl (by omega) hz1 (by omega) hbd.out
  have bz5:=bz.dr hacc.dr (by omega)
  have cG:=hacc.blk.cell
  have cZ:=bz5.cell
  have fZ:=bz5.frozen
  go_wp2_with fail
  have cf:=f2.cell
  exact bodyPost_ret (v:=.agg #[.int .i64 al,.slice A5 ls.length c5,.slice B5 acc.length d5]) (by simp [results,Tryz.results44,go_sem,cf]) rfl f1.out
set_option maxHeartbeats 2000000
theorem yH13a2 {P:Prop}(h:P:=by
 go_wp2_with (at_builtin;refine zP w wr rfl _ _ _ rfl 9 _ 1 16 Tryz.underlying101 zm rfl (by decide) u5 _ _ _ _ rfl rfl hext hown rfl (zbI _) (by unfold maxLen;omega) (by omega) ?_;intro v' w1 hext1 hown1 hg1 hat1)
 go_roundw
 case rel=>exact⟨k+1,k+1,l++[s.extract m k],by omega,by go_num,by omega,by go_num,by simp;omega,by simpa [strs] using hown1,hall.out,by assumption⟩
 case measure=>simp [intOf];omega
 ):P:=h
theorem spec_l19CutC {s:ByteArray} {w:World}(hs:s.size≤1000000) :
  Calls Tryz.prog 158 #[.string s,.int .u8 44] w (RetStrs s.size (s.size+1) w):=by
 go_enter Tryz.func158,Tryz.ntmps158
 go_wp2_with fail
 go_loopw [5,6,7] (fun v f i wr=>∃ (k m:Nat) (l:List ByteArray),k≤s.size+1∧i=.int .i64 k∧m≤k∧f=.int .i64 m∧l.length≤k∧wr.ownsRow w.heap.size 9 1 v l.length (strs l)∧Hid (∀ x∈l,x.size≤s.size)∧Ext w wr) (fun _ _ i _=>s.size+1 - (intOf i).toNat)
 case atStart=>exact⟨0,0,[],Nat.zero_le _,rfl,Nat.le_refl _,rfl,Nat.le_refl _,World.ownsRow_lit w #[] 0 (Nat.le_refl _) (by unfold maxLen;omega) rfl,(fun x hx=>by cases hx),(Ext.refl _).alloc _⟩
 case round =>
  obtain⟨k,m,l,hk,rfl,hm,rfl,hl,hown,hlx,hext⟩:=hrel
  by_cases hle:k≤s.size
  ·have hle':(k:Int)≤(s.size:Int):=by omega
   have hm':(m:Int)≤(k:Int):=by omega
   have hex:=hide (show (s.extract m k).size≤s.size by rw [ByteArray.size_extract];omega)
   have hall:=hide (show ∀ x∈l++[s.extract m k],x.size≤s.size from fun x hx=>by
    rcases List.mem_append.1 hx with h1|h1
    ·exact hlx.out x h1
    ·rw [List.mem_singleton.1 h1];exact hex.out)
   by_cases he:k=s.size
   ·have heq:((k:Int)==(s.size:Int))=true:=by simp [he]
    have He:=hide he
    clear he
    exact yH13a2
   ·have heq:((k:Int)==(s.size:Int))=false:=by rw [beq_eq_false_iff_ne];omega
    have hlt:k<s.size:=by omega
    have hb:=zbT s k hlt
    cases hc:((s[k].toNat:Int)==44)
    ·go_wp2_with fail
     go_roundw
     case rel=>exact⟨k+1,m,l,by omega,by go_num,by omega,rfl,by omega,hown,hlx,hext⟩
     case measure=>simp [intOf];omega
    ·exact yH13a2
  ·obtain rfl:k=s.size+1:=by omega
   obtain⟨A,c,rfl⟩:=zh hown
   go_wp2_with fail
   go_ret
   exact⟨A,_,c,l,rfl,rfl,hown,hlx.out,by omega,hext⟩
set_option maxHeartbeats 400000
def RetIntsS (N:Nat) (w:World) (e:Ending) (w':World):Prop:=∃ (A:Option Addr) (n c:Nat) (l:List Int) (ok:Bool),e=.returned (.tuple #[.slice A n c,.bool ok])∧n=l.length∧w'.ownsRow w.heap.size 3 1 (.slice A n c) n (ints l)∧n≤N∧Ext w w'
theorem spec_l3Parse {s:ByteArray} {w:World}(hs:s.size≤1000) :
  Calls Tryz.prog 160 #[.string s] w (RetIntsS (s.size+1) w):=by
 have h0:=World.ownsRow_lit (base:=w.heap.size) (e:=3) (size:=1) w #[] 0 (Nat.le_refl _) (by unfold maxLen;omega) rfl
 have hx1:=(Ext.refl w).alloc (.cells #[] 3)
 go_enter Tryz.func160,Tryz.ntmps160
 go_upto_region 2 with fail
 obtain⟨K,hK⟩:∃ K,Hid (K=w.heap.size):=⟨_,hide rfl⟩
 rw [← hK.out] at h0 ⊢
 generalize w.alloc (.cells #[] 3)=w1 at *
 cases he:s.toList.isEmpty
 ·go_wp2_with fail
  refine (spec_l19CutC (s:=s) (by omega)).mono ?_
  rintro e w2 ⟨B,m,d,l,rfl,hml,hown2,hlx,hm,hx2⟩
  have hw2:=hx1.trans hx2
  have h02:=zf h0 hx2
  have Hlx:=hide hlx
  have Hml:=hide hml
  have hm1:m≤s.size+1:=hm
  clear hlx hml h0 he hm
  go_wp2_with fail
  go_loopw [4,6] (fun v iv wr=>∃ (k:Nat) (ls:List Int),k≤m∧iv=.int .i64 (k:Nat)∧wr.ownsRow K 3 1 v k (ints ls)∧Hid (ls.length=k)∧wr.ownsRow w1.heap.size 9 1 (.slice B m d) m (strs l)∧Ext w wr) (fun _ iv _=>m - (intOf iv).toNat)
  case atStart=>exact⟨0,[],Nat.zero_le _,rfl,h02,hide rfl,hown2,hw2⟩
  case round =>
   clear h02 hown2 hw2 hx2
   obtain⟨k,ls,hk,rfl,hv,hll,hstr,hw⟩:=hrel
   obtain⟨A5,c5,rfl⟩:=zh hv
   by_cases hlt:k<m
   ·obtain⟨gB,rfl,-,-⟩:=zai hstr (by omega)
    obtain⟨ad,xk,hae,-,-,hxk,hck⟩:=(Reads.of_own hstr).str hlt
    obtain rfl:=Option.some.inj hae
    rw [zO,Nat.zero_add] at hck
    have hbk:=hide (Hlx.out xk (List.mem_of_getElem? hxk.out))
    go_wp2_with fail
    refine (zcP (s:=xk) (by have:=hbk.out;omega)).mono ?_
    rintro e w3 ⟨x,ok,rfl,rfl⟩
    cases ok
    ·go_wp2_with fail
     exact bodyPost_ret (v:=.tuple #[.slice none 0 0,.bool false]) (by simp [results,Tryz.results160,go_sem]) rfl ⟨none,0,0,[],false,rfl,rfl,World.ownsRow_nil _ _ _ _,by omega,hw⟩
    ·have hsz:=hw.size
     go_wp2_with (at_builtin;refine zam w wr rfl _ _ _ rfl 3 _ 1 8 Tryz.underlying71 zY rfl (by decide) (.slice A5 k c5) k (ints ls) _ _ rfl rfl hsz (by rw [← hK.out];exact hv) rfl (by simp [Value.oneCell']) (by unfold maxLen;omega) (by omega) ?_;intro g5 cap5 w5 hown5 hg5 hat5 hlt5)
     go_roundw
     case rel=>exact⟨k+1,ls++[x],by omega,by go_num,by rw [hK.out];simpa [ints] using hown5,hide (by have:=hll.out;simp;omega),ze hstr (Frm.of_grown hg5) (fun b hb hS=>zaT hstr hv (by decide) hb hS),hw.grown hg5 (fun j hj=>by have:=(hv.lt j hj).1;have:=hK.out;omega)⟩
     case measure=>simp [intOf];omega
   ·obtain rfl:k=m:=by omega
    go_wp2_with fail
    exact bodyPost_ret (v:=.tuple #[.slice A5 k c5,.bool true]) (by simp [results,Tryz.results160,go_sem]) rfl ⟨A5,k,c5,ls,true,rfl,hll.out.symm,by rw [← hK.out];exact hv,hm1,hw⟩
 ·go_wp2_with fail
  exact bodyPost_ret (v:=.tuple #[.slice (some ⟨K,0,none⟩) 0 0,.bool true]) (by simp [results,Tryz.results160,go_sem]) rfl ⟨some ⟨w.heap.size,0,none⟩,0,0,[],true,by rw [hK.out],rfl,by rw [hK.out] at h0;exact h0,by omega,hx1⟩
set_option maxHeartbeats 2000000
theorem autValid_few {a:Aut}(h:zg a=true):∃ al:Nat,a.al=al∧al<64∧1≤a.next.length∧a.next.length≤12∧a.acc.length=a.next.length∧∀ l∈a.next,l.length=(letters al 6).length∧∀ q∈l,0≤q∧q<a.next.length:=by
 simp only [zg,Bool.and_eq_true,decide_eq_true_eq,List.all_eq_true,rowB] at h
 obtain⟨h1,h2,h3,h4⟩:=h
 refine⟨a.al.toNat,by omega,by omega,h2.1,h2.2,h3,fun l hl=>⟨(h4 l hl).1,fun q hq=>(h4 l hl).2 q hq⟩⟩
def RetFmtA (a:Aut) (w:World) (e:Ending) (w':World):Prop:=∃ t:ByteArray,e=.returned (.string t)∧(zg a=false→t.size=0)∧Ext w w'
set_option maxRecDepth 100000 in
theorem zdv {lo hi:Nat} {A:Option Addr} {n c:Nat} {A':Option Addr} {n' c':Nat} {a:Aut} {w:World}(h:zF w lo hi A n A' n' a) :
  Calls Tryz.prog 161 #[.agg #[.int .i64 a.al,.slice A n c,.slice A' n' c']] w (RetFmtA a w):=by
 have HV:=hide (fun W (hW:Ext w W)=>zx lo hi A n c A' n' c' a W ⟨h.1.ext hW,h.2.1,h.2.2.ext hW⟩)
 cases h1:zg a
 ·have H1:=hide h1
  clear h1 h
  go_enter Tryz.func161,Tryz.ntmps161
  go_wp2_with (go_at_call 46;refine (HV.out _ ((Ext.refl _).alloc _)).mono ?_;rw [H1.out];rintro e w1 ⟨rfl,hx⟩)
  go_ret
  exact⟨_,rfl,fun _=>rfl,((Ext.refl _).alloc _).trans hx⟩
 ·obtain⟨al,ha,ha2,hn1,hn2,hac,hrows⟩:=autValid_few h1
  have H1:=hide h1
  have Hn:=hide h.n1
  have Hn':=hide h.n2
  have Ha:=hide ha
  have Hrows:=hide hrows
  have HS:=hide (fun W (hW:Ext w W)=>h.1.ext hW)
  have HB:=hide (fun W (hW:Ext w W)=>h.2.2.ext hW)
  have e1:n=n':=by have:=h.n1;have:=h.n2;omega
  subst e1
  have hnn:n≤12:=by have:=h.n1;omega
  clear h1 ha hn1 hn2 hac hrows h
  go_enter Tryz.func161,Tryz.ntmps161
  go_wp2_with fail
  refine (HV.out _ ((Ext.refl _).alloc _)).mono ?_
  rw [H1.out]
  rintro e w1 ⟨rfl,hx⟩
  have b1:=zbu hx
  rw [Ha.out] at b1
  have hw1:=((Ext.refl w).alloc _).trans hx
  have cb:=b1.cells
  have hr1:=Ext.refl w1
  clear hx
  go_wp2_with fail
  refine (zbj ha2).mono ?_
  rintro e w2 ⟨t2,rfl,ht2,hx2⟩
  go_wp2_with fail
  go_loopw [3,4] (fun v i wr=>∃ (k:Nat) (t:ByteArray),k≤n∧i=.int .i64 k∧v=.string t∧t.size≤20+100*k∧Ext w1 wr) (fun _ i _=>n - (intOf i).toNat)
  case atStart=>exact⟨0,t2,Nat.zero_le _,rfl,rfl,by omega,hx2⟩
  case round =>
   clear hx2 ht2 hr1
   obtain⟨k,t,hk,rfl,rfl,ht,hext⟩:=hrel
   have cb0:=cb wr hext
   by_cases hlt:k<n
   ·obtain⟨ad,Ak,ck,l,rfl,_,_,hl,hc0,hrk⟩:=(HS.out wr (hw1.trans hext)).row hlt
    obtain⟨ad',x,rfl,_,_,-,hb0⟩:=(HB.out wr (hw1.trans hext)).bool hlt
    have hq:=hide (Hrows.out l (List.mem_of_getElem? hl.out))
    have hl6:l.length≤6:=by have:=hq.out.1;have:=zy al 6;omega
    have Hrk:=hide (fun W (hW:Ext wr W)=>hrk.ext hW)
    have Hcr:=hide (fun W (hW:Ext wr W)=>hW.cell_some hc0)
    have Hcb:=hide (fun W (hW:Ext wr W)=>cb W (hext.trans hW))
    have hww:=Ext.refl wr
    clear hrk
    go_upto_if 24 with fail
    go_cut [5] (fun s5 wx=>∃ m:ByteArray,s5=.string m∧m.size=2∧Ext wr wx)
    case first =>
     cases x
     ·go_wp2_with fail
      go_meet
      exact⟨{ data:=#[32,45] },rfl,rfl,hww⟩
     ·go_wp2_with fail
      go_meet
      exact⟨{ data:=#[32,43] },rfl,rfl,hww⟩
    case rest =>
     clear hc0 hb0 cb0 hww
     obtain⟨m,rfl,hm2,hwc⟩:=hcut
     obtain⟨wK,hwK⟩:∃ wK,wK=wr:=⟨_,rfl⟩
     rw [← hwK] at Hrk Hcr Hcb hwc hext
     clear hwK
     have q0:¬ 9223372036854775807<t.size+m.size:=by omega
     have hsz:(t++m).size=t.size+2:=by rw [ByteArray.size_append,hm2]
     go_upto_region 11 with fail
     generalize t++m=t1 at *
     clear q0
     go_wp2_with fail
     go_loopw [3,6] (fun v jv wr=>∃ (j:Nat) (t:ByteArray),j≤l.length∧jv=.int .i64 j∧v=.string t∧t.size≤22+100*k+10*j∧Ext wK wr) (fun _ jv _=>l.length - (intOf jv).toNat)
     case atStart=>exact⟨0,t1,Nat.zero_le _,rfl,rfl,by omega,hwc⟩
     case round =>
      clear hwc
      obtain⟨j,t2,hj,rfl,rfl,ht2,hwx⟩:=hrel
      have cb0:=Hcb.out wr hwx
      have hc0:=Hcr.out wr hwx
      by_cases hjl:j<l.length
      ·obtain⟨ad2,q,rfl,-,-,hql,hcq⟩:=(Hrk.out wr hwx).int hjl
       obtain⟨hq0,hq1⟩:=hq.out.2 q (List.mem_of_getElem? hql.out)
       obtain⟨u,rfl⟩:∃ u:Nat,q=u:=⟨q.toNat,by omega⟩
       have hu:u<100:=by have:=Hn.out;omega
       clear hq0 hq1
       go_upto_if 39 with fail
       go_cut [3] (fun s3 wx=>∃ m:ByteArray,s3=.string m∧m.size≤t2.size+1∧wx=wr)
       case first =>
        by_cases hj0:0<j
        ·have hj0':((j:Int)>0):=by omega
         have q1:¬ 9223372036854775807<t2.size+1:=by omega
         go_wp2_with fail
         go_meet
         exact⟨_,rfl,by rw [ByteArray.size_append];exact Nat.le_refl _,rfl⟩
        ·have hj0':¬ ((j:Int)>0):=by omega
         go_wp2_with fail
         go_meet
         exact⟨t2,rfl,by omega,rfl⟩
       case rest =>
        obtain⟨m3,rfl,hm3,rfl⟩:=hcut
        go_wp2_with fail
        refine (zcO (n:=u) hu).mono ?_
        rintro e w4 ⟨t4,rfl,ht4,hx4⟩
        have q2:¬ 9223372036854775807<m3.size+t4.size:=by omega
        go_wp2_with fail
        go_roundw
        case rel=>exact⟨j+1,_,by omega,by go_num,rfl,by rw [ByteArray.size_append];omega,hwx.trans hx4⟩
        case measure=>simp [intOf];omega
      ·obtain rfl:j=l.length:=by omega
       go_wp2_with fail
       go_roundw
       case rel=>exact⟨k+1,t2,by omega,by go_num,rfl,by omega,hext.trans hwx⟩
       case measure=>simp [intOf];omega
   ·obtain rfl:n=k:=by omega
    go_wp2_with fail
    go_ret
    have hv:=H1.out
    exact⟨t,rfl,fun h=>absurd (hv.symm.trans h) (by decide),hw1.trans hext⟩
set_option maxHeartbeats 2000000
def RetStrs1 (L N:Nat) (w:World) (e:Ending) (w':World):Prop:=∃ (A:Option Addr) (n c:Nat) (l:List ByteArray),e=.returned (.slice A n c)∧n=l.length∧0<n∧w'.ownsRow w.heap.size 9 1 (.slice A n c) n (strs l)∧(∀ x∈l,x.size≤L)∧n≤N∧Ext w w'
theorem spec_l19Cut1 {s:ByteArray} {w:World}(hs:s.size≤1000000) :
  Calls Tryz.prog 158 #[.string s,.int .u8 32] w (RetStrs1 s.size (s.size+1) w):=by
 go_enter Tryz.func158,Tryz.ntmps158
 go_wp2_with fail
 go_loopw [5,6,7] (fun v f i wr=>∃ (k m:Nat) (l:List ByteArray),k≤s.size+1∧i=.int .i64 k∧m≤k∧f=.int .i64 m∧l.length≤k∧wr.ownsRow w.heap.size 9 1 v l.length (strs l)∧Hid (∀ x∈l,x.size≤s.size)∧Ext w wr∧Hid (s.size<k→0<l.length)) (fun _ _ i _=>s.size+1 - (intOf i).toNat)
 case atStart=>exact⟨0,0,[],Nat.zero_le _,rfl,Nat.le_refl _,rfl,Nat.le_refl _,World.ownsRow_lit w #[] 0 (Nat.le_refl _) (by unfold maxLen;omega) rfl,(fun x hx=>by cases hx),(Ext.refl _).alloc _,hide (fun hh=>absurd hh (by omega))⟩
 case round =>
  obtain⟨k,m,l,hk,rfl,hm,rfl,hl,hown,hlx,hext,hpos⟩:=hrel
  by_cases hle:k≤s.size
  ·have hle':(k:Int)≤(s.size:Int):=by omega
   have hm':(m:Int)≤(k:Int):=by omega
   have hex:=hide (show (s.extract m k).size≤s.size by rw [ByteArray.size_extract];omega)
   have hall:=hide (show ∀ x∈l++[s.extract m k],x.size≤s.size from fun x hx=>by
    rcases List.mem_append.1 hx with h1|h1
    ·exact hlx.out x h1
    ·rw [List.mem_singleton.1 h1];exact hex.out)
   by_cases he:k=s.size
   ·have heq:((k:Int)==(s.size:Int))=true:=by simp [he]
    have He:=hide he
    clear he
    go_wp2_with (at_builtin;refine zP w wr rfl _ _ _ rfl 9 _ 1 16 Tryz.underlying101 zm rfl (by decide) u5 _ _ _ _ rfl rfl hext hown rfl (zbI _) (by unfold maxLen;omega) (by omega) ?_;intro v' w1 hext1 hown1 hg1 hat1)
    go_roundw
    case rel=>exact⟨k+1,k+1,l++[s.extract m k],by omega,by go_num,by omega,by go_num,by simp;omega,by simpa [strs] using hown1,hall.out,by assumption,hide (fun _=>by simp)⟩
    case measure=>simp [intOf];omega
   ·have heq:((k:Int)==(s.size:Int))=false:=by rw [beq_eq_false_iff_ne];omega
    have hlt:k<s.size:=by omega
    have hb:=zbT s k hlt
    cases hc:((s[k].toNat:Int)==32)
    ·go_wp2_with fail
     go_roundw
     case rel=>exact⟨k+1,m,l,by omega,by go_num,by omega,rfl,by omega,hown,hlx,hext,hide (fun hh=>absurd hh (by omega))⟩
     case measure=>simp [intOf];omega
    ·go_wp2_with (at_builtin;refine zP w wr rfl _ _ _ rfl 9 _ 1 16 Tryz.underlying101 zm rfl (by decide) u5 _ _ _ _ rfl rfl hext hown rfl (zbI _) (by unfold maxLen;omega) (by omega) ?_;intro v' w1 hext1 hown1 hg1 hat1)
     go_roundw
     case rel=>exact⟨k+1,k+1,l++[s.extract m k],by omega,by go_num,by omega,by go_num,by simp;omega,by simpa [strs] using hown1,hall.out,by assumption,hide (fun _=>by simp)⟩
     case measure=>simp [intOf];omega
  ·obtain rfl:k=s.size+1:=by omega
   obtain⟨A,c,rfl⟩:=zh hown
   go_wp2_with fail
   go_ret
   exact⟨A,_,c,l,rfl,rfl,hpos.out (by omega),hown,hlx.out,by omega,hext⟩
set_option maxHeartbeats 4000000
def RetParA (R M L:Nat) (w:World) (e:Ending) (w':World):Prop:=
 ∃ (b:Aut) (A:Option Addr) (n c:Nat) (A':Option Addr) (n' c':Nat) (ok:Bool),e=.returned (.tuple #[.agg #[.int .i64 b.al,.slice A n c,.slice A' n' c'],.bool ok])∧zK w' w.heap.size A n c A' n' c' b∧Hid (BdA L b)∧Rd w' R M∧Dr R w w'
theorem zgL {R M L Z:Nat} {w W:World}(hR:R<w.heap.size)(h:Rd W R M)(hd:Dr R w W)(hZ:w.heap.size≤Z) :
  Hid (RetParA R M L w (.returned (.tuple #[.agg #[.int .i64 0,.slice none 0 0,.slice none 0 0],.bool false])) (((W.setCell ⟨Z,0,none⟩ (.int .i64 0)).setCell ⟨Z,1,none⟩ (.slice none 0 0)).setCell ⟨Z,2,none⟩ (.slice none 0 0))):=
 hide ⟨⟨0,[],[]⟩,none,0,0,none,0,0,false,rfl,⟨⟨[],World.ownsRow_nil _ _ _ _,zH.nil _ _⟩,rfl,World.ownsRow_nil _ _ _ _,rfl⟩,hide ⟨Nat.zero_le _,Nat.zero_le _,fun l hl=>by simp at hl⟩,h.frm (zaa W Z _ _ _) (fun k hk e=>by omega),((hd.setNew (p:=⟨Z,0,none⟩) hZ _).setNew (p:=⟨Z,1,none⟩) hZ _).setNew (p:=⟨Z,2,none⟩) hZ _⟩
theorem yH13a4 {P:Prop}(h:P:=by
 go_wp2_with fail
 have hfb:=zah bz4 rfl (.int .i64 0) (.slice none 0 0) (.slice none 0 0)
 have cf:=hfb.cell
 exact bodyPost_ret (v:=.tuple #[.agg #[.int .i64 0,.slice none 0 0,.slice none 0 0],.bool false]) (by simp [results,Tryz.results91,go_sem,cf]) rfl hno4.out
 ):P:=h
theorem yH13a7 {P:Prop}(h:P:=by
 have cf:=hfb.cell
 exact bodyPost_ret (v:=.tuple #[.agg #[.int .i64 0,.slice none 0 0,.slice none 0 0],.bool false]) (by simp [results,Tryz.results91,go_sem,cf]) rfl hno.out
 ):P:=h
set_option maxRecDepth 100000 in
theorem zbY {R M:Nat} {x:ByteArray} {w:World}(h:Rd w R M)(hx:x.size≤1000) :
  Calls Tryz.prog 91 #[.string x] w (RetParA R M (x.size+1) w):=by
 have hRl:=h.lt
 go_enter Tryz.func91,Tryz.ntmps91
 have hx0:=(Ext.refl w).alloc (.cells #[.int .i64 0,.slice none 0 0,.slice none 0 0] 27)
 have bz:=Blk.new w 27 #[.int .i64 0,.slice none 0 0,.slice none 0 0]
 have hz0:=bz.lt
 go_wp2_with fail
 generalize w.alloc (.cells #[.int .i64 0,.slice none 0 0,.slice none 0 0] 27)=w0 at *
 refine (spec_l19Cut1 (s:=x) (by omega)).mono ?_
 rintro e w1 ⟨B,m,d,l,rfl,hml,hm0,hown1,hlx,hm,hx1⟩
 have Hlx:=hide hlx
 have Hml:=hide hml
 have hmx:m≤1001:=by omega
 clear hlx hml
 obtain⟨gB,rfl,hgB,-⟩:=zai hown1 hm0
 obtain⟨ad,x0,hae,-,-,hx0',hc0⟩:=(Reads.of_own hown1).str (k:=0) hm0
 obtain rfl:=Option.some.inj hae
 rw [zO,Nat.add_zero] at hc0
 have hm0':(0:Int)<(m:Int):=by omega
 go_wp2_with fail
 refine (zck (x:=x0)).mono ?_
 rintro e w2 ⟨al,ok1,rfl,ha,hx2⟩
 have hw2:=hx1.trans hx2
 have bz2:=bz.ext hw2
 have cz2:=bz2.cell
 have fz2:=bz2.frozen
 have hno:=zgL (L:=x.size+1) (M:=M) (Z:=w.heap.size) hRl (h.ext (hx0.trans hw2)) (hx0.trans hw2).dr (Nat.le_refl _)
 cases ok1
 ·go_wp2_with fail
  have hfb:=zah bz2 rfl (.int .i64 0) (.slice none 0 0) (.slice none 0 0)
  exact yH13a7
 ·have bG:=Blk.new w2 27 #[.int .i64 al,.slice none 0 0,.slice none 0 0]
  have hx3:=(Ext.refl w2).alloc (.cells #[.int .i64 al,.slice none 0 0,.slice none 0 0] 27)
  have hs2:=hw2.size
  have hown2:=zf hown1 hx2
  have hcx:=hide (show ∀ W,Ext w2 W→Ext w W from fun W hW=>(hx0.trans hw2).trans hW)
  go_upto_region 6 with fail
  have hown3:=zf hown2 hx3
  have hacc:AccA w0 (w2.alloc (.cells #[.int .i64 al,.slice none 0 0,.slice none 0 0] 27)) R w2.heap.size M al (.slice none 0 0) [] [] (.slice none 0 0) []:=⟨bG,World.ownsRow_nil _ _ _ _,zH.nil _ _,World.ownsRow_nil _ _ _ _,(h.ext (hx0.trans hw2)).ext hx3,(hw2.trans hx3).dr,by omega,hs2⟩
  generalize w2.alloc (.cells #[.int .i64 al,.slice none 0 0,.slice none 0 0] 27)=w3 at *
  generalize w2.heap.size=G at *
  clear hno cz2 fz2 hc0 hown2
  go_wp2_with fail
  go_loopw [8] (fun iv wr=>∃ (i:Nat) (v:Value) (rows:List Value) (ls:List (List Int)) (vA:Value) (acc:List Bool),1≤i∧i≤m∧iv=.int .i64 (i:Nat)∧AccA w0 wr R G M al v rows ls vA acc∧Hid (ls.length≤i - 1)∧Hid (acc.length=ls.length)∧Hid (∀ l∈ls,l.length≤x.size+1)∧wr.ownsRow w0.heap.size 9 1 (.slice (some ⟨gB,0,none⟩) m d) m (strs l)) (fun iv _=>m - (intOf iv).toNat)
  case atStart=>exact⟨1,_,_,[],_,[],Nat.le_refl _,hm0,rfl,hacc,hide (Nat.zero_le _),hide rfl,hide (fun l hl=>by simp at hl),hown3⟩
  case round =>
   clear hacc hown3
   obtain⟨i,v,rows,ls,vA,acc,hi1,hi,rfl,hacc,hln,hal,hlx,hstr⟩:=hrel
   have hno:=zgL (L:=x.size+1) (M:=M) (Z:=w.heap.size) hRl hacc.rd (hx0.dr.trans hacc.dr) (Nat.le_refl _)
   have bz3:=bz.dr hacc.dr (by omega)
   by_cases hlt:i<m
   ·obtain⟨ad,xk,hae,-,-,hxk,hck⟩:=(Reads.of_own hstr).str hlt
    obtain rfl:=Option.some.inj hae
    rw [zO,Nat.zero_add] at hck
    have hbk:=Hlx.out xk (List.mem_of_getElem? hxk.out)
    cases he:xk.toList.isEmpty
    ·have h1k:1≤xk.size:=by
      rcases Nat.eq_zero_or_pos xk.size with h0|h0
      ·rw [ByteArray.toList_eq] at he
       have e2:xk.data.toList.length=xk.size:=rfl
       rw [List.eq_nil_of_length_eq_zero (e2.trans h0)] at he
       cases he
      ·exact h0
     have h1k':(1:Int)≤(xk.size:Int):=by omega
     have hex:(xk.extract 1 xk.size).size≤x.size:=by rw [ByteArray.size_extract];omega
     go_wp2_with fail
     refine (spec_l3Parse (s:=xk.extract 1 xk.size) (by omega)).mono ?_
     rintro e w4 ⟨Ar,nr,cr,lr,ok,rfl,hnr,hor,hnb,hx4⟩
     cases ok
     ·have hno4:=zgL (L:=x.size+1) (M:=M) (Z:=w.heap.size) hRl (hacc.rd.ext hx4) ((hx0.dr.trans hacc.dr).ext hx4) (Nat.le_refl _)
      have bz4:=bz3.ext hx4
      have cz:=bz4.cell
      have fz:=bz4.frozen
      exact yH13a4
     ·subst hnr
      have hlow:=hide hacc.low
      have hs1:=hide hacc.dr.size
      have hacc4:=hacc.ext hx4
      have hstr4:=zf hstr hx4
      have cG:=hacc4.blk.cell
      have hs4:=hacc4.dr.size
      have hlm:ls.length≤1001:=by have:=hln.out;omega
      have Hxk:=hide hxk.out
      have hno':=hno
      clear hacc hstr hck hno hno'
      go_upto_region 15 with (at_builtin;refine zam w0 w4 rfl _ _ _ rfl 71 _ 1 24 Tryz.underlying24 zbV rfl (by decide) v ls.length rows _ _ rfl rfl hs4 hacc4.nx rfl (zaP _ _ _) (by unfold maxLen;omega) (by omega) ?_;intro g5 cap5 w6 hown6 hg6 hat6 hlt6;obtain⟨q1,q2,q3⟩:=hacc4.pushRow hlow.out hs1.out hor hown6 hg6 hat6;have q1':=q1.out;have hstr6:=(ze hstr4 (Frm.of_grown hg6) (fun b hb hS=>zaT hstr4 hacc4.nx (by decide) hb hS)))
      have hstr7:=ze hstr6 (Frm.setCell w6 G 1 (.slice (some ⟨g5,0,none⟩) (ls.length+1) cap5)) (fun b hb hS=>by
       have hB6:Blk w6 G 27 #[.int .i64 al,v,vA]:=(hg6.block G hacc4.blk.lt (fun e=>zo hacc4.nx hacc4.blk (by decide) e.symm rfl)).trans hacc4.blk
       exact zo hstr6 hB6 (by decide) hb hS)
      have hln7:=hide (show (ls++[lr]).length≤i by have:=hln.out;simp;omega)
      have hal7:=hide (show acc.length+1=(ls++[lr]).length by have:=hal.out;simp;omega)
      have hlx7:=hide (show ∀ l'∈ls++[lr],l'.length≤x.size+1 from fun l' hl'=>by
       rcases List.mem_append.1 hl' with h1|h1
       ·exact hlx.out l' h1
       ·rw [List.mem_singleton.1 h1];omega)
      clear q1 q1' q2 hown6 hg6 hat6 hlt6 hstr6 hstr4 hacc4 cG hln hal hlx hor
      generalize ls++[lr]=ls7 at *
      generalize rows++[.slice Ar lr.length cr]=rows7 at *
      generalize w6.setCell ⟨G,1,none⟩ (.slice (some ⟨g5,0,none⟩) (ls.length+1) cap5)=w7 at *
      generalize Value.slice (some ⟨g5,0,none⟩) (ls.length+1) cap5=v7 at *
      obtain⟨ad7,xk7,hae7,-,-,hxk7,hck7⟩:=(Reads.of_own hstr7).str hlt
      obtain rfl:=Option.some.inj hae7
      rw [zO,Nat.zero_add] at hck7
      obtain rfl:xk7=xk:=Option.some.inj (hxk7.out.symm.trans Hxk.out)
      have cG:∀ W,Ext w7 W→∀ q,W.cell? ⟨G,q,none⟩=#[Value.int .i64 al,v7,vA][q]?:=fun W hW=>(q3.blk.ext hW).cell
      have cS:∀ W,Ext w7 W→W.cell? ⟨gB,i,none⟩=some (.string xk7):=fun W hW=>hW.cell_some hck7
      have h0k:0<xk7.size:=by omega
      have h0k':(0:Int)<(xk7.size:Int):=by omega
      have hb0:=zbT xk7 0 h0k
      obtain⟨bb,hbb⟩:∃ bb,((xk7[0].toNat:Int)==43)=bb:=⟨_,rfl⟩
      have hww:=Ext.refl w7
      clear hck7 hxk7 Hxk
      refine uR (fun X=>Ext w7 X) [9,11] (OrdU.of [0,1,2,3,4,5,6,7,8,9,10,11]) ?_
      refine uQ ?_
      have hxd:=hww.drew
      (refine zb rfl rfl rfl (fun K hK=>?_);go_simp)
      refine hK.out _ _ (hxd.alloc _) ?_
      refine pT ?_
      (refine za rfl rfl rfl rfl (fun K hK=>?_))
      have hs7:=q3.dr.size
      have q3d:=q3.ext hxd
      have hal8:acc.length≤1001:=by have:=hal7.out;have:=hln7.out;omega
      have hstr8:=zf hstr7 hxd
      refine zaG w0 w7.drew _ _ _ rfl 4 _ 1 1 Tryz.underlying25 zba rfl (by decide) vA acc.length (zaz acc) _ _ rfl rfl q3d.dr.size q3d.acc rfl (by simp [Value.oneCell']) (by unfold maxLen;omega) (by omega) ?_
      intro g8 cap8 w8 hown8 hg8 hat8 hlt8
      refine hK.out _ _ ?_
      refine pT ?_
      refine uQ ?_
      obtain⟨p1,p2,p3⟩:=q3d.pushAcc (x:=bb) (W':=w8) hown8 hg8 hat8
      have p1':=p1.out
      have hstr9:=ze hstr8 (Frm.of_grown hg8) (fun b hb hS=>zaT hstr8 q3d.acc (by decide) hb hS)
      have hstr10:=ze hstr9 (Frm.setCell w8 G 2 (.slice (some ⟨g8,0,none⟩) (acc.length+1) cap8)) (fun b hb hS=>by
       have hB8:Blk w8 G 27 #[.int .i64 al,v7,vA]:=(hg8.block G q3d.blk.lt (fun e=>zo q3d.acc q3d.blk (by decide) e.symm rfl)).trans q3d.blk
       exact zo hstr9 hB8 (by decide) hb hS)
      (refine za rfl rfl rfl rfl (fun K hK=>?_))
      go_simp
      refine hK.out _ _ ?_
      refine zd ?_
      go_wp2_with fail
      go_roundw
      case rel=>exact⟨i+1,_,_,ls7,_,acc++[bb],by omega,by omega,by go_num,p3,hide (by have:=hln7.out;omega),hide (by have:=hal7.out;simp;omega),hlx7,hstr10⟩
      case measure=>simp [intOf];omega
    ·have cz:=bz3.cell
     have fz:=bz3.frozen
     go_wp2_with fail
     have hfb:=zah bz3 rfl (.int .i64 0) (.slice none 0 0) (.slice none 0 0)
     exact yH13a7
   ·obtain⟨A5,c5,rfl⟩:=zh hacc.nx
    obtain⟨B5,d5,rfl⟩:=zh hacc.acc
    have hat:zF wr w0.heap.size wr.heap.size A5 ls.length B5 acc.length (⟨al,ls,acc⟩:Aut):=⟨zdV.reads ⟨rows,hacc.nx,hacc.rows⟩ rfl,rfl,Reads.of_own hacc.acc⟩
    have cG:=hacc.blk.cell
    clear hno
    go_wp2_with fail
    refine (zdv (a:=⟨al,ls,acc⟩) hat).mono ?_
    rintro e w4 ⟨tx,rfl,-,hx4⟩
    have hacc4:=hacc.ext hx4
    have hno4:=zgL (L:=x.size+1) (M:=M) (Z:=w.heap.size) hRl (hacc.rd.ext hx4) ((hx0.dr.trans hacc.dr).ext hx4) (Nat.le_refl _)
    have bz4:=bz3.ext hx4
    have cz:=bz4.cell
    have fz:=bz4.frozen
    have cG4:=hacc4.blk.cell
    clear cG
    cases hne:tx.toList==x.toList
    ·exact yH13a4
    ·obtain⟨f1,f2⟩:=hacc4.fin (N:=M) (sh:=BdA (x.size+1)) hx0 bz rfl hRl (Nat.le_refl _) hz0 (Nat.le_refl _) ⟨by have:=hln.out;show ls.length≤_;omega,by have:=hln.out;have:=hal.out;show acc.length≤_;omega,hlx.out⟩
     go_wp2_with fail
     have cf:=f2.cell
     obtain⟨b,A6,n6,c6,A7,n7,c7,he,ho6,hsh6,hr6,hd6⟩:=f1.out
     exact bodyPost_ret (v:=.tuple #[.agg #[.int .i64 al,.slice A5 ls.length c5,.slice B5 acc.length d5],.bool true]) (by simp [results,Tryz.results91,go_sem,cf]) rfl ⟨b,A6,n6,c6,A7,n7,c7,true,by injection he with he;rw [he],ho6,hsh6,hr6,hd6⟩
set_option maxHeartbeats 4000000
set_option maxRecDepth 100000 in
theorem zer {R M L:Nat} {A:Option Addr} {n c:Nat} {A':Option Addr} {n' c':Nat} {b:Aut} {w:World}(h:Rd w R M)(hM:M≤900000000)(ho:zK w (R+1) A n c A' n' c' b)(hb:BdA L b)(hL:L≤100) :
  Calls Tryz.prog 42 #[.pointer (some ⟨R,0,none⟩),.agg #[.int .i64 b.al,.slice A n c,.slice A' n' c']] w (zeT R (M+10) (BdA (L+1)) w):=by
 have hRl:=h.lt
 have hsz:=hb.size (by omega)
 go_enter Tryz.func42,Tryz.ntmps42
 have hx0:=(Ext.refl w).alloc (.cells #[.int .i64 b.al,.slice A n c,.slice A' n' c'] 27)
 have b0:=Blk.new w 27 #[.int .i64 b.al,.slice A n c,.slice A' n' c']
 have hs0:(w.alloc (.cells #[.int .i64 b.al,.slice A n c,.slice A' n' c'] 27)).heap.size=w.heap.size+1:=by simp
 have hx1:=hx0.alloc (.cells #[.int .i64 0,.slice none 0 0,.slice none 0 0] 27)
 have bz:=Blk.new (w.alloc (.cells #[.int .i64 b.al,.slice A n c,.slice A' n' c'] 27)) 27 #[.int .i64 0,.slice none 0 0,.slice none 0 0]
 replace b0:=b0.ext ((Ext.refl _).alloc (.cells #[.int .i64 0,.slice none 0 0,.slice none 0 0] 27))
 rw [hs0] at bz
 have c0:=b0.cell
 go_upto_region 1 with fail
 generalize (w.alloc (.cells #[.int .i64 b.al,.slice A n c,.slice A' n' c'] 27)).alloc (.cells #[.int .i64 0,.slice none 0 0,.slice none 0 0] 27)=w1 at *
 have hz1:=bz.lt
 go_wp2_with fail
 refine (zcS (ho.ext hx1).reads hsz).mono ?_
 rintro e w2 ⟨B,m,d,B',m',d',rfl,hown,hx2⟩
 obtain⟨rows,hacc⟩:=AccA.of (R:=R) (M:=M) hown (h.ext (hx1.trans hx2)) hx2.dr (by omega)
 have hG:=hx2.size
 have hm:m=b.next.length:=hown.2.1
 have hm':m'=b.acc.length:=hown.2.2.2
 have hmL:m≤100:=by have:=hb.1;omega
 have Hm:=hide hm
 have Hb:=hide hb
 subst hm'
 clear hown ho hm hb hsz
 go_upto_region 2 with fail
 generalize w2.alloc (.cells #[.int .i64 b.al,.slice B m d,.slice B' b.acc.length d'] 27)=w3 at *
 generalize w2.heap.size=G at *
 have cG:=hacc.blk.cell
 by_cases hm0:m=0
 ·subst hm0
  have hfin:=hacc
  rw [show (Value.slice B' b.acc.length d')=Value.slice B' b.acc.length d' from rfl] at hfin
  obtain⟨f1,f2⟩:=hfin.fin (N:=M+10) (sh:=BdA (L+1)) hx1 bz rfl hRl (by omega) hz1 (by omega) (Hb.out.more (by omega))
  have bz5:=bz.dr hacc.dr (by omega)
  have cZ:=bz5.cell
  have fZ:=bz5.frozen
  clear hfin
  go_wp2_with fail
  have cf:=f2.cell
  exact bodyPost_ret (v:=.agg #[.int .i64 b.al,.slice B 0 d,.slice B' b.acc.length d']) (by simp [results,Tryz.results42,go_sem,cf]) rfl f1.out
 have hm1:((m:Int)==0)=false:=by simp;omega
 go_wp2_with fail
 refine (zu hacc.rd (by omega)).mono ?_
 rintro e w4 ⟨k,rfl,hk1,-,hr4,hd4⟩
 replace hacc:=hacc.drawn hd4 hr4
 have hkm:k<m:=by have:=hk1 (by omega);omega
 clear hd4 hr4 cG hk1 hm1
 go_wp2_with fail
 refine (zu hacc.rd (by omega)).mono ?_
 rintro e w5 ⟨y,rfl,-,-,hr5,hd5⟩
 replace hacc:=hacc.drawn hd5 hr5
 clear hd5 hr5
 go_upto_block 0 with fail
 go_cut [] (fun wx=>∃ (v:Value) (rows:List Value) (ls:List (List Int)) (vA:Value) (acc:List Bool),AccA w1 wx R G (M+10) b.al v rows ls vA acc∧Hid (BdL (L+1) ls acc))
 case first =>
  have hkb:k<b.next.length:=by have:=Hm.out;omega
  obtain⟨l,hl⟩:∃ l,b.next[k]?=some l:=⟨_,List.getElem?_eq_getElem hkb⟩
  obtain⟨gN,rfl,hgN,-⟩:=zai (show w5.ownsRow w1.heap.size 71 1 (.slice B m d) m rows from by have:=hacc.nx;rw [← Hm.out] at this;exact this) (by omega)
  obtain⟨Ar,cr,hr,hcell,hor⟩:=hacc.row hl Hm.out
  have hll:l.length≤100:=by have:=Hb.out.2.2 l (List.mem_of_getElem? hl);omega
  have HL:=hide hl
  have HR:=hide hr
  have Hbl:=hide (Hb.out.2.2 l (List.mem_of_getElem? hl))
  have hs1:=hacc.dr.size
  clear hl hr hkb
  have hcases:y=0∨y=1∨y=2∨3≤y:=by omega
  rcases hcases with hy|hy|hy|hy
  ·subst hy
   have hy0:True:=trivial
   have cG:∀ W,Ext w5 W→∀ q,W.cell? ⟨G,q,none⟩=#[Value.int .i64 b.al,.slice (some ⟨gN,0,none⟩) m d,.slice B' b.acc.length d'][q]?:=fun W hW=>(hacc.blk.ext hW).cell
   by_cases hka:k<b.acc.length
   ·obtain⟨gA,rfl,hgA,-⟩:=zai hacc.acc (by omega)
    obtain⟨x,hx⟩:∃ x,b.acc[k]?=some x:=⟨_,List.getElem?_eq_getElem hka⟩
    have hca:w5.cell? ⟨gA,k,none⟩=some (.bool x):=by rw [hacc.acc.cellAt k (by omega)];simp [zaz,hx]
    have cA:∀ W,Ext w5 W→W.cell? ⟨gA,k,none⟩=some (.bool x):=fun W hW=>hW.cell_some hca
    have fA:∀ W,Ext w5 W→W.frozen? ⟨gA,k,none⟩=false:=fun W hW=>(zf hacc.acc hW).frozenAt k
    have hst:=(hacc.ext (Ext.refl w5).drew).setAcc (i:=k) (x:=!x) rfl
    have hka':(k:Int)<(b.acc.length:Int):=by omega
    have hww:=Ext.refl w5
    clear hca hx
    go_wp2_with fail
    refine tR (fun X=>Ext w5 X) [10] (Ord.of [0,1,2,3,4,5,6,7,8,9,10]) ?_
    refine tQ ?_
    (refine zN rfl rfl rfl rfl (fun K hK=>?_))
    go_simp
    refine hK.out _ _ ?_
    refine zag ?_
    go_wp2_with fail
    go_meet
    exact⟨_,_,_,_,_,hst.more (by omega),hide ⟨by have:=Hb.out.1;omega,by have:=Hb.out.2.1;rw [List.length_set];omega,fun l' hl'=>by have:=Hb.out.2.2 l' hl';omega⟩⟩
   ·have hka':¬ ((b.acc.length:Int)>(k:Int)):=by omega
    have hww:=Ext.refl w5
    go_wp2_with fail
    go_meet
    exact⟨_,_,_,_,_,hacc.more (by omega),hide (Hb.out.more (by omega))⟩
  ·subst hy
   have hy0:True:=trivial
   by_cases hl0:0<l.length
   ·obtain⟨gr,rfl,-,-⟩:=zai hor hl0
    have hRG:=hacc.hR
    have cN:∀ W,Dr R w5 W→W.cell? ⟨gN,k,none⟩=some (.slice (some ⟨gr,0,none⟩) l.length cr):=fun W hW=>hW.cell_some hcell (by simp;omega)
    have cG:∀ W,Dr R w5 W→∀ q,W.cell? ⟨G,q,none⟩=#[Value.int .i64 b.al,.slice (some ⟨gN,0,none⟩) m d,.slice B' b.acc.length d'][q]?:=fun W hW=>(hacc.blk.dr hW (by have:=hacc.hG;omega)).cell
    have hd0:=Dr.refl R w5
    clear hcell hor
    go_wp2_with fail
    refine tR (fun X=>Dr R w5 X) [17] (Ord.of [0,1,2,3,4,5,6,7,8,9,10,11,13,14,12,15,16,17]) ?_
    refine tQ ?_
    (refine zA rfl rfl rfl (fun K hK=>?_);go_simp)
    refine (zu (n:=l.length) (hacc.rd.ext (Ext.refl _).drew) (by omega)).mono ?_
    rintro e w6 ⟨j,rfl,hj1,-,hr6,hd6⟩
    have hjl:=hj1 (by omega)
    have hd56:Dr R w5 w6:=(Dr.refl R w5).drew.trans hd6
    refine hK.out _ _ hd56 ?_
    refine pT ?_
    refine tQ ?_
    (refine zA rfl rfl rfl (fun K hK=>?_);go_simp)
    refine (zu (n:=m) hr6 (by omega)).mono ?_
    rintro e w7 ⟨x,rfl,hx1',-,hr7,hd7⟩
    have hd57:Dr R w5 w7:=hd56.trans hd7
    have hacc7:=hacc.drawn hd57 hr7
    refine hK.out _ _ hd57 ?_
    refine pT ?_
    refine tQ ?_
    have hown:=hacc7.rows.2.1 k _ l HR.out HL.out
    obtain⟨o0,c0⟩:=zaN hown j (by omega)
    have f0:=hown.frozenAt j
    have hst:=hacc7.setRow (k:=j) (x:=x) HR.out HL.out rfl
    (refine zN rfl rfl rfl rfl (fun K hK=>?_))
    go_simp
    refine hK.out _ _ ?_
    refine zag ?_
    go_wp2_with fail
    go_meet
    refine⟨_,_,_,_,_,hst.more (by omega),hide ⟨by have:=Hb.out.1;rw [List.length_set];omega,by have:=Hb.out.2.1;omega,fun l' hl'=>?_⟩⟩
    rcases List.mem_or_eq_of_mem_set hl' with h1|h1
    ·have:=Hb.out.2.2 l' h1;omega
    ·rw [h1];simp;have:=Hbl.out;omega
   ·have hl1:l.length=0:=by omega
    have hl2:¬ ((l.length:Int)>0):=by omega
    have cG:=hacc.blk.cell
    go_wp2_with fail
    go_meet
    exact⟨_,_,_,_,_,hacc.more (by omega),hide (Hb.out.more (by omega))⟩
  ·subst hy
   have hy0:True:=trivial
   have cG:∀ W,Ext w5 W→∀ q,W.cell? ⟨G,q,none⟩=#[Value.int .i64 b.al,.slice (some ⟨gN,0,none⟩) m d,.slice B' b.acc.length d'][q]?:=fun W hW=>(hacc.blk.ext hW).cell
   have cNx:∀ W,Ext w5 W→W.cell? ⟨gN,k,none⟩=some (.slice Ar l.length cr):=fun W hW=>hW.cell_some hcell
   have hww:=Ext.refl w5
   by_cases h1:12≤m
   ·have h1':¬ ((m:Int)<12):=by omega
    go_wp2_with fail
    go_meet
    exact⟨_,_,_,_,_,hacc.more (by omega),hide (Hb.out.more (by omega))⟩
   have h1':(m:Int)<12:=by omega
   by_cases h2:b.acc.length≤k
   ·have h2':¬ ((b.acc.length:Int)>(k:Int)):=by omega
    go_wp2_with fail
    go_meet
    exact⟨_,_,_,_,_,hacc.more (by omega),hide (Hb.out.more (by omega))⟩
   have h2':(b.acc.length:Int)>(k:Int):=by omega
   by_cases h3:l.length≤0
   ·have h3':¬ ((l.length:Int)>0):=by omega
    have h3'':l.length=0:=by omega
    go_wp2_with fail
    go_meet
    exact⟨_,_,_,_,_,hacc.more (by omega),hide (Hb.out.more (by omega))⟩
   have hmes:=hide hacc.lenAt
   have hrdl:=Reads.of_own hor
   have Hrd:=hide (fun W (hW:Ext w5 W)=>hrdl.ext hW)
   have hlow:=hide hacc.low
   have hor':=hide hor
   clear hcell hor hrdl
   go_upto_region 15 with fail
   refine uR (fun X=>Ext w5 X) [10,12] (OrdU.of [0,1,3,4,5,6,7,2,8,9,10,11,12]) ?_
   refine uQ ?_
   have hx0:Ext w5 w5.drew:=hww.drew
   generalize w5.drew=wd at *
   (refine zb rfl rfl rfl (fun K hK=>?_);go_simp)
   have hm:=World.ownsRow_made (base:=w5.heap.size) (e:=3) (size:=1) wd #[] 0 hx0.size (Nat.zero_le _) rfl
   have hx1:=(Ext.refl wd).alloc (.cells #[] 3)
   replace hx0:=hx0.trans hx1
   refine hK.out _ _ hx0 ?_
   generalize wd.alloc (.cells #[] 3)=wm at *
   generalize wd.heap.size=MM at *
   refine pT ?_
   refine uQ ?_
   refine zb rfl rfl rfl (fun K hK=>?_)
   refine zt wm _ _ 71 rfl w5.heap.size 3 _ 1 8 Tryz.underlying71 zY rfl (by decide) (.slice (some ⟨MM,0,none⟩) 0 0) 0 [] rfl hm _ _ Ar l.length cr (ints l) rfl (Hrd.out _ hx0) (zgG _) (by unfold maxLen;omega) (by omega) hx0.size ?_
   intro vR w6 hrow hgR hatR
   rw [Nat.zero_add,List.nil_append] at hrow
   obtain⟨BR,dR,rfl⟩:=zh hrow
   have hww3:Ext w5 w6:=hx0.grown hgR (fun k hk=>(hm.lt k hk).1)
   refine hK.out _ _ hww3 ?_
   refine pT ?_
   refine uQ ?_
   (refine zb rfl rfl rfl (fun K hK=>?_);go_simp)
   refine hK.out _ _ (hww3.alloc _) ?_
   refine pT ?_
   (refine za rfl rfl rfl rfl (fun K hK=>?_))
   have hacc6:=hacc.ext hww3
   have hnx6:=hacc6.nx
   rw [← Hm.out] at hnx6
   refine zaG w1 w6 _ _ _ rfl 71 _ 1 24 Tryz.underlying24 zbV rfl (by decide) (.slice (some ⟨gN,0,none⟩) m d) m rows _ _ rfl rfl hacc6.dr.size hnx6 rfl (zaP _ _ _) (by unfold maxLen;omega) (by omega) ?_
   intro g7 cap7 w7 hown7 hg7 hat7 hlt7
   refine hK.out _ _ ?_
   refine pT ?_
   refine uQ ?_
   obtain⟨p1,p2,p3⟩:=hacc6.pushRow (l:=l) (W':=w7) (g:=g7) (cap:=cap7) hlow.out hs1 hrow (by rw [← Hm.out];exact hown7) hg7 hat7
   have p1':=p1.out
   rw [← Hm.out] at p3
   (refine za rfl rfl rfl rfl (fun K hK=>?_))
   go_simp
   refine hK.out _ _ ?_
   refine zd ?_
   generalize w7.setCell ⟨G,1,none⟩ (.slice (some ⟨g7,0,none⟩) (m+1) cap7)=w8 at *
   have hs8:=p3.dr.size
   clear p1 p1' p2 cG cNx hown7 hg7 hat7 hacc6 hacc hnx6 hww3 hx0 hx1
   obtain⟨gA,rfl,hgA,-⟩:=zai p3.acc (by omega)
   obtain⟨x,hx⟩:∃ x,b.acc[k]?=some x:=⟨_,List.getElem?_eq_getElem (by omega)⟩
   have hca:w8.cell? ⟨gA,k,none⟩=some (.bool x):=by rw [p3.acc.cellAt k (by omega)];simp [zaz,hx]
   have cA:∀ W,Ext w8 W→W.cell? ⟨gA,k,none⟩=some (.bool x):=fun W hW=>hW.cell_some hca
   have cG8:∀ W,Ext w8 W→∀ q,W.cell? ⟨G,q,none⟩=#[Value.int .i64 b.al,.slice (some ⟨g7,0,none⟩) (m+1) cap7,.slice (some ⟨gA,0,none⟩) b.acc.length d'][q]?:=fun W hW=>(p3.blk.ext hW).cell
   have hww:=Ext.refl w8
   clear hca hx
   go_upto_region 16 with fail
   refine uR (fun X=>Ext w8 X) [8,10] (OrdU.of [0,1,2,3,4,5,6,7,8,9,10]) ?_
   refine uQ ?_
   have hx8:Ext w8 w8.drew:=hww.drew
   generalize w8.drew=wd2 at *
   (refine zb rfl rfl rfl (fun K hK=>?_);go_simp)
   refine hK.out _ _ (hx8.alloc _) ?_
   refine pT ?_
   (refine za rfl rfl rfl rfl (fun K hK=>?_))
   have hacc8:=p3.ext hx8
   refine zaG w1 wd2 _ _ _ rfl 4 _ 1 1 Tryz.underlying25 zba rfl (by decide) (.slice (some ⟨gA,0,none⟩) b.acc.length d') b.acc.length (zaz b.acc) _ _ rfl rfl hacc8.dr.size hacc8.acc rfl (by simp [Value.oneCell']) (by unfold maxLen;have:=Hb.out.2.1;omega) (by have:=Hb.out.2.1;omega) ?_
   intro g9 cap9 w9 hown9 hg9 hat9 hlt9
   refine hK.out _ _ ?_
   refine pT ?_
   refine uQ ?_
   obtain⟨q1,q2,q3⟩:=hacc8.pushAcc (x:=x) hown9 hg9 hat9
   have q1':=q1.out
   (refine za rfl rfl rfl rfl (fun K hK=>?_))
   go_simp
   refine hK.out _ _ ?_
   refine zd ?_
   generalize w9.setCell ⟨G,2,none⟩ (.slice (some ⟨g9,0,none⟩) (b.acc.length+1) cap9)=w10 at *
   clear q1 q1' q2 cG8 cA hacc8 p3 hown9 hg9 hat9 hx8
   have hkl:k<rows.length:=by have:=q3.rows.1;simp at this;have:=Hm.out;omega
   have hR2:(rows++[Value.slice BR l.length dR])[k]?=some (.slice Ar l.length cr):=by rw [List.getElem?_append_left hkl];exact HR.out
   have hL2:(b.next++[l])[k]?=some l:=by rw [List.getElem?_append_left (by have:=Hm.out;omega)];exact HL.out
   have hown:=q3.rows.2.1 k _ l hR2 hL2
   obtain⟨gr,rfl,-,-⟩:=zai hown (by omega)
   obtain⟨o0,c0⟩:=zaN hown 0 (by omega)
   have f0:=hown.frozenAt 0
   have hst:=q3.setRow (k:=0) (x:=m) hR2 hL2 rfl
   have cG:=q3.blk.cell
   have cN:w10.cell? ⟨g7,k,none⟩=some (.slice (some ⟨gr,0,none⟩) l.length cr):=by
    have:=q3.nx
    rw [List.length_append,List.length_singleton,← Hm.out] at this
    rw [this.cellAt k (by omega)];exact hR2
   clear hown hR2 hL2
   go_wp2_with fail
   go_meet
   refine⟨_,_,_,_,_,hst.more (by omega),hide ⟨by have:=Hb.out.1;rw [List.length_set];simp;omega,by have:=Hb.out.2.1;simp;omega,fun l' hl'=>?_⟩⟩
   rcases List.mem_or_eq_of_mem_set hl' with h1|h1
   ·rcases List.mem_append.1 h1 with h1|h1
    ·have:=Hb.out.2.2 l' h1;omega
    ·rw [List.mem_singleton.1 h1];have:=Hbl.out;omega
   ·rw [h1];simp;have:=Hbl.out;omega
  ·have h0':((y:Int)==0)=false:=by simp;omega
   have h1':((y:Int)==1)=false:=by simp;omega
   have h2':((y:Int)==2)=false:=by simp;omega
   go_wp2_with fail
   go_meet
   exact⟨_,_,_,_,_,hacc.more (by omega),hide (Hb.out.more (by omega))⟩
 case rest =>
  clear hacc
  obtain⟨v,rows,ls,vA,acc,hacc,hbd⟩:=hcut
  obtain⟨A5,c5,rfl⟩:=zh hacc.nx
  obtain⟨B5,d5,rfl⟩:=zh hacc.acc
  obtain⟨f1,f2⟩:=hacc.fin (N:=M+10) (sh:=BdA (L+1)) hx1 bz rfl hRl (by omega) hz1 (by omega) hbd.out
  have bz5:=bz.dr hacc.dr (by omega)
  have cG:=hacc.blk.cell
  have cZ:=bz5.cell
  have fZ:=bz5.frozen
  go_wp2_with fail
  have cf:=f2.cell
  exact bodyPost_ret (v:=.agg #[.int .i64 b.al,.slice A5 ls.length c5,.slice B5 acc.length d5]) (by simp [results,Tryz.results42,go_sem,cf]) rfl f1.out
set_option maxHeartbeats 2000000
theorem Dr.far {R Z:Nat} {a b c:World}(h:Dr R a b)(hf:Frm (fun k=>k=Z) b c)(hZ:a.heap.size≤Z):Dr R a c:=
 ⟨hf.os.trans h.os,hf.tape.trans h.tape,hf.output.trans h.output,Nat.le_trans h.size hf.size,fun k hk hn=>(hf.block k (Nat.lt_of_lt_of_le hk h.size) (fun e=>by omega)).trans (h.block k hk hn)⟩
set_option maxHeartbeats 400000
theorem bits_all (y:Nat)(hy:y<64):bits .and .i64 (-1) (y:Int)=(y:Int):=
 (show ∀ y:Fin 64,bits .and .i64 (-1) ((y.val:Nat):Int)=((y.val:Nat):Int) by decide +kernel) ⟨y,hy⟩
theorem yH13a3 {P:Prop}(h:P:=by
 obtain⟨f1,f2⟩:=zdF (N:=M+600) (sh:=zfq) hxz hown hsh.out hr6 hd6 bz rfl hRl (Nat.le_refl _) (Nat.le_refl _)
 have bz5:=bz.dr hd6 (by omega)
 have cZ:=bz5.cell
 have fZ:=bz5.frozen
 go_wp2_with fail
 have cf:=f2.cell
 exact bodyPost_ret (v:=.agg #[.int .i64 b.al,.slice A n c,.slice A' n' c']) (by simp [results,Tryz.results138,go_sem,cf]) rfl f1.out
 ):P:=h
set_option maxRecDepth 100000 in
theorem zfa {R M:Nat} {zz:Int} {w:World}(h:Rd w R M)(hM:M≤700000000)(ha:(∃ a:Nat,zz=(a:Int)∧a<64)∨zz = -1) :
  Calls Tryz.prog 138 #[.pointer (some ⟨R,0,none⟩),.int .i64 zz] w (zeT R (M+600) zfq w):=by
 have hRl:=h.lt
 go_enter Tryz.func138,Tryz.ntmps138
 have hxz:=(Ext.refl w).alloc (.cells #[.int .i64 0,.slice none 0 0,.slice none 0 0] 27)
 have bz:=Blk.new w 27 #[.int .i64 0,.slice none 0 0,.slice none 0 0]
 have hsz:(w.alloc (.cells #[.int .i64 0,.slice none 0 0,.slice none 0 0] 27)).heap.size=w.heap.size+1:=by simp
 go_wp2_with fail
 rw [← hsz]
 generalize w.alloc (.cells #[.int .i64 0,.slice none 0 0,.slice none 0 0] 27)=w1 at *
 refine (zaS [63,63,5,3,6] 5 #[.int .i64 63,.int .i64 63,.int .i64 5,.int .i64 3,.int .i64 6] rfl rfl (by omega) (by omega) (h.ext hxz) (by omega)).mono ?_
 rintro e w2 ⟨x,hx,rfl,hr2,hd2⟩
 obtain⟨y,hy,rfl⟩:∃ y:Nat,y<64∧x=(y:Int):=⟨x.toNat,by simp at hx;omega,by simp at hx;omega⟩
 clear hx
 replace hd2:=((Dr.refl R w1).alloc _).trans hd2
 obtain⟨d,hand,hsm⟩:∃ d:Nat,bits .and .i64 zz (y:Int)=(d:Int)∧d<64:=by
  rcases ha with ⟨a,rfl,ha⟩|rfl
  ·exact⟨a&&&y,zbt (by unfold Sm;omega) (by unfold Sm;omega),Nat.lt_of_le_of_lt Nat.and_le_left ha⟩
  ·exact⟨y,bits_all y hy,hy⟩
 go_upto_region 2 with fail
 clear hand
 go_wp2_with fail
 refine (zu hr2 (by omega)).mono ?_
 rintro e w3 ⟨z,rfl,-,-,hr3,hd3⟩
 replace hd3:=hd2.trans hd3
 clear hd2 hr2
 go_upto_if 13 with fail
 go_cut [5] (fun s5 wx=>∃ d:Nat,d<64∧s5=.int .i64 (d:Nat)∧Rd wx R (M+10)∧Dr R w1 wx)
 case first =>
  by_cases hz:z=0
  ·subst hz
   go_wp2_with fail
   refine (spec_l1Some hr3 (by omega)).mono ?_
   rintro e w4 ⟨x,hx,rfl,hr4,hd4⟩
   go_wp2_with fail
   go_meet
   exact⟨x,hx,rfl,hr4.more (by omega),hd3.trans hd4⟩
  ·have hz':((z:Int)==0)=false:=by simp;omega
   go_wp2_with fail
   go_meet
   exact⟨d,hsm,rfl,hr3.more (by omega),hd3⟩
 case rest =>
  clear hr3 hd3 hsm
  obtain⟨d,hd,rfl,hr3,hd3⟩:=hcut
  go_wp2_with fail
  refine (zu hr3 (by omega)).mono ?_
  rintro e w4 ⟨y,rfl,-,-,hr4,hd4⟩
  replace hd4:=hd3.trans hd4
  by_cases hy:0<y
  ·have hy':((y:Int)>0):=by omega
   go_wp2_with fail
   refine (zaS [3,2,4,1] 4 #[.int .i64 3,.int .i64 2,.int .i64 4,.int .i64 1] rfl rfl (by omega) (by omega) hr4 (by omega)).mono ?_
   rintro e w5 ⟨x,hx,rfl,hr5,hd5⟩
   obtain⟨p,hp1,hp2,rfl⟩:∃ y:Nat,1≤y∧y≤4∧x=(y:Int):=⟨x.toNat,by simp at hx;omega,by simp at hx;omega,by simp at hx;omega⟩
   clear hx
   have hd15:=(hd4.alloc _).trans hd5
   go_wp2_with fail
   refine (zfP hr5 (by omega) hd hp1 (by omega)).mono ?_
   intro e w6 hret
   obtain⟨b,A,n,c,A',n',c',rfl,hown,hsh,hr6,hd6⟩:=hret.mono (N:=M+600) (sh':=zfq) hd15 (by omega) (fun b hb=>⟨d,p,hd,hp1,by omega,hb⟩)
   exact yH13a3
  ·have hy':¬ ((y:Int)>0):=by omega
   go_wp2_with fail
   refine (zbZ hr4 (by omega) hd).mono ?_
   intro e w6 hret
   obtain⟨b,A,n,c,A',n',c',rfl,hown,hsh,hr6,hd6⟩:=hret.mono (N:=M+600) (sh':=zfq) hd4 (by omega) (fun b hb=>hb)
   exact yH13a3
set_option maxHeartbeats 4000000
section
variable {w0 W W':World} {R G H M N:Nat} {s t:Sys} {A B:Option Addr} {n c m d:Nat}
theorem blk_fill {w:World} {Z:Nat} {cs:Array Value} {t:TypeId}(h:Blk w Z t cs)(hc:cs.size=3) (u0 u1 u2:Value):Blk (((w.setCell ⟨Z,0,none⟩ u0).setCell ⟨Z,1,none⟩ u1).setCell ⟨Z,2,none⟩ u2) Z t #[u0,u1,u2]:=by
 obtain⟨l⟩:=cs
 match l,hc with
 |[a,b,c],_=>simpa using ((h.set_ 0 u0).set_ 1 u1).set_ 2 u2
end
set_option maxHeartbeats 4000000
theorem Dr.new {R:Nat} {w w1 w2:World}(h:Ext w w1)(hR:w.heap.size≤R)(hd:Dr R w1 w2):Ext w w2:=
 h.frm hd (fun k hk he=>by omega)
set_option maxHeartbeats 4000000
set_option maxRecDepth 100000 in
theorem zcm {R M:Nat} {w:World}(h:Rd w R M)(hM:M≤800000000) :
  Calls Tryz.prog 76 #[.pointer (some ⟨R,0,none⟩)] w (RetG R (M+30000) 20000 w):=by
 have hRl:=h.lt
 have hx0:=(Ext.refl w).alloc (.cells #[.int .i64 0,.int .i64 0,.slice none 0 0] 39)
 have bz5:=Blk.new w 39 #[.int .i64 0,.int .i64 0,.slice none 0 0]
 have hr5:=h.ext hx0
 have hw5:=hx0.dr (R:=R)
 have hz1:=bz5.lt
 go_enter Tryz.func76,Tryz.ntmps76
 go_wp2_with fail
 have C6:=(zaS [3,6,7,5,2] 5 #[.int .i64 3,.int .i64 6,.int .i64 7,.int .i64 5,.int .i64 2] rfl rfl (by omega) (by omega) hr5 (by omega))
 simp only [World.size_alloc] at C6
 refine C6.mono ?_
 rintro e w6 ⟨al,hal,rfl,hr6,hd6⟩
 have hw6:=(hw5.ext ((Ext.refl _).alloc _)).trans hd6
 have bz6:=(bz5.ext ((Ext.refl _).alloc _)).dr hd6 (by omega)
 go_wp2_with fail
 refine (zaS [2,3,1,3] 4 #[.int .i64 2,.int .i64 3,.int .i64 1,.int .i64 3] rfl rfl (by omega) (by omega) hr6 (by omega)).mono ?_
 rintro e w7 ⟨st,hst,rfl,hr7,hd7⟩
 have hw7:=(hw6.ext ((Ext.refl _).alloc _)).trans hd7
 have bz7:=(bz6.ext ((Ext.refl _).alloc _)).dr hd7 (by omega)
 go_wp2_with fail
 refine (zaS [2,3,4] 3 #[.int .i64 2,.int .i64 3,.int .i64 4] rfl rfl (by omega) (by omega) hr7 (by omega)).mono ?_
 rintro e w8 ⟨fw,_,rfl,hr8,hd8⟩
 have hw8:=(hw7.ext ((Ext.refl _).alloc _)).trans hd8
 have bz8:=(bz7.ext ((Ext.refl _).alloc _)).dr hd8 (by omega)
 obtain⟨a,rfl,ha⟩:∃ a:Nat,al=a∧a<64:=⟨al.toNat,by simp at hal;omega,by simp at hal;omega⟩
 obtain⟨p,rfl,hp1,hp⟩:∃ p:Nat,st=p∧1≤p∧p≤16:=⟨st.toNat,by simp at hst;omega,by simp at hst;omega,by simp at hst;omega⟩
 clear hal hst
 go_wp2_with fail
 refine (zgT hr8 (by omega) ha hp1 hp).mono ?_
 rintro e w9 ⟨s9,A9,n9,c9,rfl,hs9,hg9,hn9,hr9,hd9⟩
 have bz9:=bz8.dr hd9 (by omega)
 have hfin9:=hide (ret_fill (R:=R) (M:=M+30000) (L:=20000) (c:=c9) hs9 hg9 hn9 (hr9.more (by omega)) (hw8.trans hd9) bz9 hRl (Nat.le_refl _))
 have cz9:=bz9.cell
 have fz9:=bz9.frozen
 go_wp2_with fail
 exact bodyPost_ret (v:=.agg #[.int .i64 s9.al,.int .i64 s9.st,.slice A9 n9 c9]) (by simp [results,Tryz.results76,go_sem,cz9]) rfl hfin9.out
end Go.Proofs.YtndhahednhnnbaaGreatDoor
