/- Systems that -/
import Derived.Test.YtfcjhpodichpjaaGreatJ01
import Derived.Laws.BytesArg
import Derived.Deep.RegionHeld3
import Derived.StillTailTactics
import Derived.BigQuiet
import Derived.Laws.Strings
import Derived.Deep.DeepCutAuto
import Derived.Laws.StructEq
import Derived.Deep.AppendLies
set_option maxHeartbeats 4000000
set_option maxRecDepth 100000
namespace Go.Proofs.YtfcjhpodichpjaaGreat
open Go Go.RowKit
def Good (s:Sys):Prop:=∃ a p:Nat,s.al=a∧a<64∧s.st=p∧1≤p∧p≤16∧Few p s.edges
def zaT (w:World) (R:Nat) (A:Option Addr) (n:Nat) (s:Sys):Prop:=
 n=s.edges.length∧n≤9223372036854775807∧(0<n→∃ (g o:Nat) (cs:Array Value),A=some ⟨g,o,none⟩∧R<g∧w.heap[g]?=some (.cells cs 92 (0,0))∧∀ j u,(zo s.edges)[j]?=some u→w.cell? ⟨g,o+j,none⟩=some u)
theorem zaT.at_ {w:World} {R n:Nat} {A:Option Addr} {s:Sys}(h:zaT w R A n s):zaj w (R+1) w.heap.size A n s:=by
 refine⟨h.1,by rw [zaO,← h.1],h.2.1,fun h0=>?_⟩
 obtain⟨g,o,cs,e,hR,hh,hc⟩:=h.2.2 h0
 exact⟨⟨g,o,none⟩,e,hR,(Array.getElem?_eq_some_iff.1 hh).1,fun j u hu=>by rw [zP];exact hc j u hu⟩
theorem zaT.frm {S:Nat→Prop} {w w':World} {R n:Nat} {A:Option Addr} {s:Sys}(h:zaT w R A n s)(hb:Frm S w w')(hS:∀ k,S k→R<k→∀ cs,w.heap[k]?≠some (.cells cs 92 (0,0))):zaT w' R A n s:=by
 refine⟨h.1,h.2.1,fun h0=>?_⟩
 obtain⟨g,o,cs,e,hR,hh,hc⟩:=h.2.2 h0
 have hlt:=(Array.getElem?_eq_some_iff.1 hh).1
 have hn:¬ S g:=fun hs=>hS g hs hR cs hh
 exact⟨g,o,cs,e,hR,(hb.block g hlt hn).trans hh,fun j u hu=>(World.cell?_of_block (w:=w) (hb.block g hlt hn)).trans (hc j u hu)⟩
theorem zaT.ext {w w':World} {R n:Nat} {A:Option Addr} {s:Sys}(h:zaT w R A n s)(hb:Ext w w'):zaT w' R A n s:=h.frm (S:=fun _=>False) hb (fun _ hk=>hk.elim)
theorem zaT.dr {w w':World} {R n:Nat} {A:Option Addr} {s:Sys}(h:zaT w R A n s)(hb:Dr R w w'):zaT w' R A n s:=h.frm hb (fun k hk hR=>by omega)
theorem zaT.far {w w':World} {R n Z:Nat} {A:Option Addr} {s:Sys} {cs:Array Value} {t:TypeId}(h:zaT w R A n s)(hB:Blk w Z t cs)(ht:t≠92)(hb:Frm (fun k=>k=Z) w w'):zaT w' R A n s:=h.frm hb (fun k hk _ cs' hh=>by
 subst hk
 unfold Blk at hB
 rw [hB] at hh
 injection hh with hh
 injection hh with _ h2
 exact ht h2)
theorem zaT.own {w:World} {R base n c:Nat} {A:Option Addr} {s:Sys}(h:w.ownsRow base 92 3 (.slice A n c) n (zo s.edges))(hR:R<base):zaT w R A n s:=by
 have hl:n=s.edges.length:=by have:=h.1;rw [zaO] at this;omega
 refine⟨hl,(Reads.of_own h).len,fun h0=>?_⟩
 rcases h.2 with ⟨_,h1⟩|⟨g,cap,cur,hv,hb,hh,_⟩
 ·omega
 ·have hA:A=some ⟨g,0,none⟩:=by injection hv
  subst hA
  exact⟨g,0,cur,rfl,by omega,hh,fun j u hu=>by
   have:=h.cells (g:=g) rfl j u hu
   rwa [zP] at this⟩
theorem zgh {w:World} {base:Nat} {e:TypeId} {size n c:Nat} {A:Option Addr} {xs:List Value}(h:w.ownsRow base e size (.slice A n c) n xs):n≤c:=by
 rcases h.2 with ⟨hv,h0⟩|⟨g,cap,cur,hv,_,_,hnc,_⟩
 ·omega
 ·injection hv with _ _ h3
  omega
def RetG (R M L:Nat) (w:World) (e:Ending) (w':World):Prop:=
 ∃ (s:Sys) (A:Option Addr) (n c:Nat),e=.returned (.agg #[.int .i64 s.al,.int .i64 s.st,.slice A n c])∧zaT w' R A n s∧Good s∧(n≤L∧n≤c)∧Rd w' R M∧Dr R w w'
def RetA (R M L:Nat) (w:World) (e:Ending) (w':World):Prop:=
 ∃ (s:Sys) (A:Option Addr) (n c:Nat),e=.returned (.agg #[.int .i64 s.al,.int .i64 s.st,.slice A n c])∧zaT w' R A n s∧(n≤L∧n≤c)∧Rd w' R M∧Dr R w w'
structure Acc (w0 wB W:World) (R G M:Nat) (al st:Int) (v:Value) (es:List Edg):Prop where
 blk:Blk W G 43 #[.int .i64 al,.int .i64 st,v]
 own:W.ownsRow wB.heap.size 92 3 v es.length (zo es)
 rd:Rd W R M
 dr:Dr R w0 W
 fr:Frm (fun k=>k=R∨k=G) wB W
 hR:R<w0.heap.size
 hB:w0.heap.size≤wB.heap.size
 hG:w0.heap.size≤G
section
variable {w0 wB W W':World} {R G M N:Nat} {al st:Int} {v:Value} {es:List Edg}
theorem Acc.more (h:Acc w0 wB W R G M al st v es)(hM:M≤N):Acc w0 wB W R G N al st v es:={ h with rd:=h.rd.more hM }
theorem Acc.ext (h:Acc w0 wB W R G M al st v es)(hb:Ext W W'):Acc w0 wB W' R G M al st v es:=⟨h.blk.ext hb,zf h.own hb,h.rd.ext hb,h.dr.ext hb,h.fr.ext hb,h.hR,h.hB,h.hG⟩
theorem Acc.drawn (h:Acc w0 wB W R G M al st v es)(hb:Dr R W W')(hr:Rd W' R N):Acc w0 wB W' R G N al st v es:=
 ⟨h.blk.dr hb (by have:=h.hR;have:=h.hG;omega),zd h.own hb (fun b hv hS=>by have:=(h.own.lt b hv).1;have:=h.hR;have:=h.hB;omega),hr,h.dr.trans hb,h.fr.trans (hb.mono fun k _ hk=>Or.inl hk),h.hR,h.hB,h.hG⟩
theorem Acc.far (h:Acc w0 wB W R G M al st v es) {b:Nat}(hv:v.ownBlock=some b):b≠G:=by
 rintro rfl
 have hB:=h.blk
 rcases h.own.2 with ⟨rfl,_⟩|⟨g,cap,cur,rfl,_,hh,_⟩
 ·simp [Value.ownBlock] at hv
 ·have hg:g=b:=by simpa [Value.ownBlock] using hv
  subst hg
  unfold Blk at hB
  rw [hh] at hB
  injection hB with hB
  injection hB with _ ht
  exact absurd ht (by decide)
theorem Acc.setAl (h:Acc w0 wB W R G M al st v es) (x:Int):Acc w0 wB (W.setCell ⟨G,0,none⟩ (.int .i64 x)) R G M x st v es:=
 ⟨by simpa using h.blk.set_ 0 _,zd h.own (Frm.setCell W G 0 _) (fun b hv hS=>h.far hv hS),h.rd.frm (Frm.setCell W G 0 _) (fun k hk hS=>by have:=h.hR;have:=h.hG;omega),h.dr.setNew h.hG _,h.fr.cell (Or.inr rfl) _,h.hR,h.hB,h.hG⟩
theorem Acc.setSt (h:Acc w0 wB W R G M al st v es) (x:Int):Acc w0 wB (W.setCell ⟨G,1,none⟩ (.int .i64 x)) R G M al x v es:=
 ⟨by simpa using h.blk.set_ 1 _,zd h.own (Frm.setCell W G 1 _) (fun b hv hS=>h.far hv hS),h.rd.frm (Frm.setCell W G 1 _) (fun k hk hS=>by have:=h.hR;have:=h.hG;omega),h.dr.setNew h.hG _,h.fr.cell (Or.inr rfl) _,h.hR,h.hB,h.hG⟩
theorem Acc.push {g cap:Nat} {e:Edg}(h:Acc w0 wB W R G M al st v es) (zgC:W'.ownsRow wB.heap.size 92 3 (.slice (some ⟨g,0,none⟩) (es.length+1) cap) (es.length+1) (zo es++[.int .i64 e.fr,.int .i64 e.le,.int .i64 e.ta]))
  (hg:W.grownBy W' v.ownBlock) (hat:v.ownBlock=some g∨g=W.heap.size+1) :
  Hid (W'.cell? ⟨G,2,none⟩=some v)∧W'.frozen? ⟨G,2,none⟩=false∧Acc w0 wB (W'.setCell ⟨G,2,none⟩ (.slice (some ⟨g,0,none⟩) (es.length+1) cap)) R G M al st (.slice (some ⟨g,0,none⟩) (es.length+1) cap) (es++[e]):=by
 have hB:Blk W' G 43 #[.int .i64 al,.int .i64 st,v]:=(hg.block G h.blk.lt (fun e=>h.far e.symm rfl)).trans h.blk
 have hgG:g≠G:=by
  rcases hat with h1|h1
  ·exact h.far h1
  ·have:=h.blk.lt;omega
 have hd:Dr R w0 W':=h.dr.grown hg (fun k hk=>Nat.le_trans h.hB (h.own.lt k hk).1)
 have hr:Rd W' R M:=h.rd.frm (Frm.of_grown hg) (fun k hk hS=>by have:=(h.own.lt k hS).1;have:=h.hR;have:=h.hB;omega)
 have hf:Frm (fun k=>k=R∨k=G) wB W':=
  ⟨hg.os.trans h.fr.os,hg.tape.trans h.fr.tape,hg.output.trans h.fr.output,Nat.le_trans h.fr.size hg.size,
   fun k hk hn=>(hg.block k (Nat.lt_of_lt_of_le hk h.fr.size) (fun e=>by have:=(h.own.lt k e.symm).1;omega)).trans (h.fr.block k hk hn)⟩
 refine⟨hB.cell 2,hB.frozen 2,⟨by simpa using hB.set_ 2 _,?_,hr.frm (Frm.setCell W' G 2 _) (fun k hk hS=>by have:=h.hR;have:=h.hG;omega),hd.setNew h.hG _,hf.cell (Or.inr rfl) _,h.hR,h.hB,h.hG⟩⟩
 have:=zd zgC (Frm.setCell W' G 2 (.slice (some ⟨g,0,none⟩) (es.length+1) cap)) (fun b hv hS=>by
  have:g=b:=by simpa [Value.ownBlock] using hv
  omega)
 rw [zbv]
 simpa [zo] using this
theorem Acc.reads {A:Option Addr} {n c:Nat}(h:Acc w0 wB W R G M al st (.slice A n c) es):n=es.length∧zaj W wB.heap.size W.heap.size A n ⟨al,st,es⟩:=by
 have hn:n=es.length:=by
  rcases h.own.2 with ⟨hv,h0⟩|⟨g,cap,cur,hv,_⟩
  ·injection hv with _ h2 _;omega
  ·injection hv
 have ho:=h.own
 rw [← hn] at ho
 exact⟨hn,hn,Reads.of_own ho⟩
theorem Acc.form (h:Acc w0 wB W R G M al st v es):∃ A n c,v=.slice A n c:=by
 obtain⟨A,c,e⟩:=ze h.own
 exact⟨A,_,c,e⟩
theorem Acc.old (h:Acc w0 wB W R G M al st v es) {lo hi size n:Nat} {A:Option Addr} {xs:List Value}(hx:Reads wB lo hi size A n xs)(h1:∀ k,lo≤k→k<hi→k≠R∧k≠G):Reads W lo hi size A n xs:=
 hx.frm h.fr (fun k a b hS=>by have:=h1 k a b;omega)
end
theorem zcM (W:World) (Z:Nat) (u0 u1 u2:Value):Frm (fun k=>k=Z) W (((W.setCell ⟨Z,0,none⟩ u0).setCell ⟨Z,1,none⟩ u1).setCell ⟨Z,2,none⟩ u2):=
 ((Frm.setCell W Z 0 u0).trans (Frm.setCell _ Z 1 u1)).trans (Frm.setCell _ Z 2 u2)
theorem Acc.fin {w0 wB W:World} {R G M Z:Nat} {al st:Int} {A:Option Addr} {n c:Nat} {es:List Edg}(h:Acc w0 wB W R G M al st (.slice A n c) es)(hZ:w0.heap.size≤Z)(hZ2:Z<wB.heap.size) (u0 u1 u2:Value) :
  zaT (((W.setCell ⟨Z,0,none⟩ u0).setCell ⟨Z,1,none⟩ u1).setCell ⟨Z,2,none⟩ u2) R A n ⟨al,st,es⟩ ∧
  Rd (((W.setCell ⟨Z,0,none⟩ u0).setCell ⟨Z,1,none⟩ u1).setCell ⟨Z,2,none⟩ u2) R M∧Dr R w0 (((W.setCell ⟨Z,0,none⟩ u0).setCell ⟨Z,1,none⟩ u1).setCell ⟨Z,2,none⟩ u2):=by
 have hf:=zcM W Z u0 u1 u2
 obtain⟨hn,_⟩:=h.reads
 have hR:=h.hR
 have hB:=h.hB
 have ho:=h.own
 rw [← hn] at ho
 refine⟨zaT.own (s:=⟨al,st,es⟩) (zd ho hf (fun b hv hS=>by have:=(h.own.lt b hv).1;omega)) (by omega),h.rd.frm hf (fun k h1 h2=>by omega),?_⟩
 exact ((h.dr.setNew (p:=⟨Z,0,none⟩) hZ u0).setNew (p:=⟨Z,1,none⟩) hZ u1).setNew (p:=⟨Z,2,none⟩) hZ u2
theorem zB.snoc2 {w:World} {base N:Nat} {rows:List Value} {ls:List (List Int)} {row:Value} {l:List Int}(h:zB w base rows ls)(hlow:∀ (i:Nat) (r:Value) (b:Nat),rows[i]?=some r→r.ownBlock=some b→b<N)(hN:base≤N)(hrow:w.ownsRow N 3 1 row l.length (ints l)) :
  zB w base (rows++[row]) (ls++[l]):=by
 have hlen:=h.1
 refine⟨by simp [hlen],fun i r m hr hm=>?_,fun i j ri rj b hri hrj hij hbi=>?_⟩
 ·rcases Nat.lt_trichotomy i rows.length with hi|hi|hi
  ·rw [List.getElem?_append_left hi] at hr
   rw [List.getElem?_append_left (by omega)] at hm
   exact h.2.1 i r m hr hm
  ·rw [List.getElem?_append_right (by omega),hi,Nat.sub_self] at hr
   rw [List.getElem?_append_right (by omega),hi,hlen,Nat.sub_self] at hm
   simp at hr hm
   subst hr;subst hm
   exact zi hrow hN
  ·rw [List.getElem?_eq_none (by simp;omega)] at hr;cases hr
 ·have new:∀ b,row.ownBlock=some b→N≤b:=fun b hb=>(hrow.lt b hb).1
  have hi:i≤rows.length:=by have:=(List.getElem?_eq_some_iff.1 hri).1;simp at this;omega
  have hj:j≤rows.length:=by have:=(List.getElem?_eq_some_iff.1 hrj).1;simp at this;omega
  rcases Nat.lt_or_eq_of_le hi with hi|hi<;>rcases Nat.lt_or_eq_of_le hj with hj|hj
  ·rw [List.getElem?_append_left hi] at hri
   rw [List.getElem?_append_left hj] at hrj
   exact h.2.2 i j ri rj b hri hrj hij hbi
  ·rw [List.getElem?_append_left hi] at hri
   subst hj
   simp at hrj
   subst hrj
   intro hc
   have h1:=hlow i ri b hri hbi
   have h2:=new b hc
   omega
  ·rw [List.getElem?_append_left hj] at hrj
   subst hi
   simp at hri
   subst hri
   intro hc
   have h1:=hlow j rj b hrj hc
   have h2:=new b hbi
   omega
  ·omega
def zes (R M:Nat) (sh:Aut→Prop) (w:World) (e:Ending) (w':World):Prop:=
 ∃ (a:Aut) (A:Option Addr) (n c:Nat) (A':Option Addr) (n' c':Nat),e=.returned (.agg #[.int .i64 a.al,.slice A n c,.slice A' n' c'])∧zO w' w.heap.size A n c A' n' c' a∧Hid (sh a)∧Rd w' R M∧Dr R w w'
structure zaQ (w0 W:World) (R G M:Nat) (al:Int) (v:Value) (rows:List Value) (ls:List (List Int)) (vA:Value) (acc:List Bool):Prop where
 blk:Blk W G 26 #[.int .i64 al,v,vA]
 nx:W.ownsRow w0.heap.size 53 1 v ls.length rows
 rows:zB W w0.heap.size rows ls
 acc:W.ownsRow w0.heap.size 4 1 vA acc.length (zax acc)
 rd:Rd W R M
 dr:Dr R w0 W
 hR:R<w0.heap.size
 hG:w0.heap.size≤G
section
variable {w0 W W':World} {R G M N:Nat} {al:Int} {v vA:Value} {rows:List Value} {ls:List (List Int)} {acc:List Bool}
theorem zaQ.drawn (h:zaQ w0 W R G M al v rows ls vA acc)(hd:Dr R W W')(hr:Rd W' R N):zaQ w0 W' R G N al v rows ls vA acc:=
 ⟨h.blk.dr hd (by have:=h.hR;have:=h.hG;omega),zaP h.nx hd (fun b h1 e=>by have:=h.hR;omega),h.rows.keep hd (fun b h1 e=>by have:=h.hR;omega),zaP h.acc hd (fun b h1 e=>by have:=h.hR;omega),hr,h.dr.trans hd,h.hR,h.hG⟩
theorem zaQ.ext (h:zaQ w0 W R G M al v rows ls vA acc)(hx:Ext W W'):zaQ w0 W' R G M al v rows ls vA acc:=h.drawn (Ext.dr hx) (h.rd.ext hx)
theorem zaQ.more (h:zaQ w0 W R G M al v rows ls vA acc)(hM:M≤N):zaQ w0 W R G N al v rows ls vA acc:={ h with rd:=h.rd.more hM }
theorem zaQ.low (h:zaQ w0 W R G M al v rows ls vA acc):∀ (i:Nat) (r:Value) (b:Nat),rows[i]?=some r→r.ownBlock=some b→b<W.heap.size:=fun i r b hr hb=>by
 obtain⟨l,_,ho⟩:=h.rows.row hr
 exact (ho.lt b hb).2
theorem zaQ.grown (h:zaQ w0 W R G M al v rows ls vA acc) {v0:Value} {e:TypeId} {size k:Nat} {xs:List Value}(ho:W.ownsRow w0.heap.size e size v0 k xs)(hg:W.grownBy W' v0.ownBlock):Dr R w0 W'∧Rd W' R M:=by
 have hRG:=h.hR
 refine⟨h.dr.grown hg (fun k hk=>(ho.lt k hk).1),h.rd.frm (Frm.of_grown hg) (fun k hk hS=>by have:=(ho.lt k hS).1;omega)⟩
theorem zaQ.pushRow {row:Value} {l:List Int} {g cap K:Nat}(h:zaQ w0 W R G M al v rows ls vA acc)(hlow:∀ (i:Nat) (r:Value) (b:Nat),rows[i]?=some r→r.ownBlock=some b→b<K)(hK:w0.heap.size≤K)(hrow:W.ownsRow K 3 1 row l.length (ints l))
  (zgC:W'.ownsRow w0.heap.size 53 1 (.slice (some ⟨g,0,none⟩) (ls.length+1) cap) (ls.length+1) (rows++[row]))
  (hg:W.grownBy W' v.ownBlock) (hat:v.ownBlock=some g∨g=W.heap.size+1) :
  Hid (W'.cell? ⟨G,1,none⟩=some v)∧W'.frozen? ⟨G,1,none⟩=false∧zaQ w0 (W'.setCell ⟨G,1,none⟩ (.slice (some ⟨g,0,none⟩) (ls.length+1) cap)) R G M al (.slice (some ⟨g,0,none⟩) (ls.length+1) cap) (rows++[row]) (ls++[l]) vA acc:=by
 have hRG:=h.hR;have hGG:=h.hG
 have hB:Blk W' G 26 #[.int .i64 al,v,vA]:=(hg.block G h.blk.lt (fun e=>zm h.nx h.blk (by decide) e.symm rfl)).trans h.blk
 have hgG:g≠G:=by
  rcases hat with h1|h1
  ·exact zm h.nx h.blk (by decide) h1
  ·have:=h.blk.lt;omega
 have hfr:Frm (fun k=>v.ownBlock=some k) W W':=Frm.of_grown hg
 obtain⟨hdr,hrd⟩:=h.grown h.nx hg
 have hr1:=h.rows.snoc2 hlow hK hrow
 have hr2:zB W' w0.heap.size (rows++[row]) (ls++[l]):=hr1.frm hfr (fun i r b hr hb hS=>by
  obtain⟨l',_,ho⟩:=hr1.row hr
  exact zaK ho h.nx (by decide) hb hS)
 have zgD:W'.ownsRow w0.heap.size 4 1 vA acc.length (zax acc):=zd h.acc hfr (fun b hb hS=>zaK h.acc h.nx (by decide) hb hS)
 have hset:=Frm.setCell W' G 1 (.slice (some ⟨g,0,none⟩) (ls.length+1) cap)
 refine⟨hB.cell 1,hB.frozen 1,⟨by simpa using hB.set_ 1 _,?_,?_,?_,hrd.frm hset (fun k hk e=>by omega),hdr.setNew (p:=⟨G,1,none⟩) hGG _,hRG,hGG⟩⟩
 ·rw [List.length_append,List.length_singleton]
  exact zd zgC hset (fun b hv hS=>by
   have:g=b:=by simpa [Value.ownBlock] using hv
   omega)
 ·refine hr2.frm hset (fun i r b hr hb hS=>?_)
  obtain⟨l',_,ho⟩:=hr2.row hr
  exact zm ho hB (by decide) hb hS
 ·exact zd zgD hset (fun b hb hS=>zm zgD hB (by decide) hb hS)
theorem zaQ.pushAcc {x:Bool} {g cap:Nat}(h:zaQ w0 W R G M al v rows ls vA acc)
  (zgC:W'.ownsRow w0.heap.size 4 1 (.slice (some ⟨g,0,none⟩) (acc.length+1) cap) (acc.length+1) (zax acc++[.bool x]))
  (hg:W.grownBy W' vA.ownBlock) (hat:vA.ownBlock=some g∨g=W.heap.size+1) :
  Hid (W'.cell? ⟨G,2,none⟩=some vA)∧W'.frozen? ⟨G,2,none⟩=false∧zaQ w0 (W'.setCell ⟨G,2,none⟩ (.slice (some ⟨g,0,none⟩) (acc.length+1) cap)) R G M al v rows ls (.slice (some ⟨g,0,none⟩) (acc.length+1) cap) (acc++[x]):=by
 have hRG:=h.hR;have hGG:=h.hG
 have hB:Blk W' G 26 #[.int .i64 al,v,vA]:=(hg.block G h.blk.lt (fun e=>zm h.acc h.blk (by decide) e.symm rfl)).trans h.blk
 have hgG:g≠G:=by
  rcases hat with h1|h1
  ·exact zm h.acc h.blk (by decide) h1
  ·have:=h.blk.lt;omega
 have hfr:Frm (fun k=>vA.ownBlock=some k) W W':=Frm.of_grown hg
 obtain⟨hdr,hrd⟩:=h.grown h.acc hg
 have hn:W'.ownsRow w0.heap.size 53 1 v ls.length rows:=zd h.nx hfr (fun b hb hS=>zaK h.nx h.acc (by decide) hb hS)
 have hr2:zB W' w0.heap.size rows ls:=h.rows.frm hfr (fun i r b hr hb hS=>by
  obtain⟨l',_,ho⟩:=h.rows.row hr
  exact zaK ho h.acc (by decide) hb hS)
 have hset:=Frm.setCell W' G 2 (.slice (some ⟨g,0,none⟩) (acc.length+1) cap)
 refine⟨hB.cell 2,hB.frozen 2,⟨by simpa using hB.set_ 2 _,zd hn hset (fun b hb hS=>zm hn hB (by decide) hb hS),hr2.frm hset (fun i r b hr hb hS=>?_),?_,hrd.frm hset (fun k hk e=>by omega),hdr.setNew (p:=⟨G,2,none⟩) hGG _,hRG,hGG⟩⟩
 ·obtain⟨l',_,ho⟩:=hr2.row hr
  exact zm ho hB (by decide) hb hS
 ·rw [List.length_append,List.length_singleton,show zax (acc++[x])=zax acc++[.bool x] by simp [zax]]
  exact zd zgC hset (fun b hv hS=>by
   have:g=b:=by simpa [Value.ownBlock] using hv
   omega)
theorem zaQ.side {v0:Value} {K k:Nat} {xs:List Value}(h:zaQ w0 W R G M al v rows ls vA acc)(hlow:∀ (i:Nat) (r:Value) (b:Nat),rows[i]?=some r→r.ownBlock=some b→b<K)(hK:w0.heap.size≤K)(ho:W.ownsRow K 3 1 v0 k xs)(hg:W.grownBy W' v0.ownBlock):zaQ w0 W' R G M al v rows ls vA acc:=by
 have ho':=zi ho hK
 obtain⟨hdr,hrd⟩:=h.grown ho' hg
 have hfr:Frm (fun k=>v0.ownBlock=some k) W W':=Frm.of_grown hg
 exact⟨h.blk.frm hfr (fun e=>zm ho h.blk (by decide) e rfl),zd h.nx hfr (fun b hb hS=>zaK ho h.nx (by decide) hS hb),h.rows.frm hfr (fun i r b hr hb hS=>by have:=hlow i r b hr hb;have:=(ho.lt b hS).1;omega),
  zd h.acc hfr (fun b hb hS=>zaK ho h.acc (by decide) hS hb),hrd,hdr,h.hR,h.hG⟩
theorem zaQ.fin {w:World} {Z n n' c c':Nat} {A A':Option Addr} {cs:Array Value} {t:TypeId} {sh:Aut→Prop}(h:zaQ w0 W R G M al (.slice A n c) rows ls (.slice A' n' c') acc)(hx:Ext w w0) (bz:Blk w0 Z t cs)(hc:cs.size=3)(hRw:R<w.heap.size)(hZ:w.heap.size≤Z)(hZ':Z<w0.heap.size)(hM:M≤N)(hsh:sh ⟨al,ls,acc⟩) :
  Hid (zes R N sh w (.returned (.agg #[.int .i64 al,.slice A n c,.slice A' n' c'])) (((W.setCell ⟨Z,0,none⟩ (.int .i64 al)).setCell ⟨Z,1,none⟩ (.slice A n c)).setCell ⟨Z,2,none⟩ (.slice A' n' c'))) ∧
  Blk (((W.setCell ⟨Z,0,none⟩ (.int .i64 al)).setCell ⟨Z,1,none⟩ (.slice A n c)).setCell ⟨Z,2,none⟩ (.slice A' n' c')) Z t #[.int .i64 al,.slice A n c,.slice A' n' c']:=by
 have hb:=bz.dr h.dr (by omega)
 have hf:=zY W Z (.int .i64 al) (.slice A n c) (.slice A' n' c')
 have hn:n=ls.length:=by
  rcases h.nx.2 with ⟨h1,h2⟩|⟨_,_,_,h1,_⟩
  ·simp at h1;omega
  ·simp at h1;exact h1.2.1
 have hn':n'=acc.length:=by
  rcases h.acc.2 with ⟨h1,h2⟩|⟨_,_,_,h1,_⟩
  ·simp at h1;omega
  ·simp at h1;exact h1.2.1
 refine⟨za ⟨⟨al,ls,acc⟩,A,n,c,A',n',c',rfl,⟨⟨rows,?_,?_⟩,hn,?_,hn'⟩,za hsh,?_,?_⟩,zai hb hc _ _ _⟩
 ·exact zi (zaP h.nx hf (fun b h1 e=>by omega)) hx.size
 ·exact (h.rows.keep hf (fun b h1 e=>by omega)).less hx.size
 ·have ho:=zi (zaP h.acc hf (fun b h1 e=>by omega)) hx.size
  rw [← hn'] at ho;exact ho
 ·exact (h.rd.more hM).frm hf (fun k hk e=>by omega)
 ·exact (((hx.dr.trans h.dr).setNew (p:=⟨Z,0,none⟩) hZ _).setNew (p:=⟨Z,1,none⟩) hZ _).setNew (p:=⟨Z,2,none⟩) hZ _
end
theorem Reads.nat {w:World} {lo hi n k:Nat} {A:Option Addr} {l:List Nat}(h:Reads w lo hi 1 A n (zaH l))(hk:k<n):∃ ad x,A=some ad∧lo≤ad.block∧ad.block<hi∧Hid (l[k]?=some x)∧w.cell? (ad.add k)=some (.int .i64 (x:Nat)):=by
 have e:zaH l=ints (l.map fun n:Nat=>(n:Int)):=by simp [zaH,ints]
 rw [e] at h
 obtain⟨ad,x,ha,hl,hh,hx,hc⟩:=h.int hk
 have hx':=hx.out
 rw [List.getElem?_map] at hx'
 cases hq:l[k]? with
 |none=>rw [hq] at hx';simp at hx'
 |some q =>
  rw [hq] at hx'
  simp at hx'
  exact⟨ad,q,ha,hl,hh,rfl,by rw [hc,hx']⟩
theorem zeC {p:Nat} {es:List Edg} {e:Edg}(h:Few p es)(he:(0≤e.fr∧e.fr<p)∧(0≤e.le∧e.le<6)∧(0≤e.ta∧e.ta<p)):Few p (es++[e]):=fun x hx=>by
 rcases List.mem_append.1 hx with h1|h1
 ·exact h x h1
 ·rw [List.mem_singleton.1 h1];exact he
theorem few_nil (p:Nat):Few p []:=fun x hx=>by cases hx
theorem zcn {R M a p:Nat} {few:Int} {w:World}(h:Rd w R M)(hM:M≤900000000)(ha:a<64)(hp1:1≤p)(hp:p≤16) :
  Calls Tryz.prog 81 #[.pointer (some ⟨R,0,none⟩),.int .i64 a,.int .i64 p,.int .i64 few] w (RetG R (M+20000) 20000 w):=by
 have hsm:Sm a:=by unfold Sm;omega
 have hRl:=h.lt
 go_enter Tryz.func81,Tryz.ntmps81
 go_wp2_with fail
 refine (zK a hsm _).mono ?_
 rintro e w1 ⟨B,d,rfl,zgL,hx1⟩
 obtain⟨bz,bG⟩:=zM hx1
 have hw1:=(((Ext.refl w).alloc _).alloc _).trans hx1
 have hl6:=zy a 6
 have hlm:=za (fun k (hk:k∈letters a 6)=>(zbD.1 hk).1)
 have hrd1:=(Reads.of_own zgL).more (lo':=w.heap.size+2) (hi':=w1.heap.size) (by simp) (Nat.le_refl _)
 have zgD:Acc w w1 w1 R (w.heap.size+1) M a p (.slice none 0 0) []:=⟨bG,World.ownsRow_nil _ _ _ _,h.ext hw1,hw1.dr,Frm.refl _ _,hRl,hw1.size,by omega⟩
 have bz1:Blk w1 w.heap.size 43 #[.int .i64 0,.int .i64 0,.slice none 0 0]:=bz
 clear zgL bG hx1 bz
 generalize letters a 6=ls at *
 have hz1:=hw1.size
 go_wp2_with fail
 go_loopw [11] (fun i wr=>∃ k:Nat,k≤p∧i=.int .i64 k∧∃ (v:Value) (es:List Edg),Acc w w1 wr R (w.heap.size+1) (M+k*1000) a p v es∧es.length≤k*1000∧Hid (Few p es)) (fun i _=>p - (intOf i).toNat)
 case atStart=>exact⟨0,Nat.zero_le _,rfl,_,[],zgD.more (Nat.le_add_right _ _),Nat.zero_le _,few_nil p⟩
 case round =>
  clear zgD
  obtain⟨k,hk,rfl,v,es,zgD,hel,hfew⟩:=hrel
  by_cases hlt:k<p
  ·go_wp2_with fail
   go_loopw [12] (fun i wr=>∃ j:Nat,j≤ls.length∧i=.int .i64 j∧∃ (v:Value) (es:List Edg),Acc w w1 wr R (w.heap.size+1) (M+k*1000+j*100) a p v es∧es.length≤k*1000+j*100∧Hid (Few p es)) (fun i _=>ls.length - (intOf i).toNat)
   case atStart=>exact⟨0,Nat.zero_le _,rfl,v,es,zgD.more (Nat.le_add_right _ _),Nat.le_trans hel (Nat.le_add_right _ _),hfew⟩
   case round =>
    clear zgD hel hfew
    obtain⟨j,hj,rfl,v,es,zgD,hel,hfew⟩:=hrel
    by_cases hlj:j<ls.length
    ·go_wp2_with fail
     go_loopw [13] (fun i wr=>∃ x:Nat,x≤p∧i=.int .i64 x∧∃ (v:Value) (es:List Edg),Acc w w1 wr R (w.heap.size+1) (M+k*1000+j*100+x) a p v es∧es.length≤k*1000+j*100+x∧Hid (Few p es)) (fun i _=>p - (intOf i).toNat)
     case atStart=>exact⟨0,Nat.zero_le _,rfl,v,es,zgD.more (Nat.le_add_right _ _),Nat.le_trans hel (Nat.le_add_right _ _),hfew⟩
     case round =>
      clear zgD hel hfew
      obtain⟨x,hx,rfl,v,es,zgD,hel,hfew⟩:=hrel
      by_cases hlx:x<p
      ·go_wp2_with fail
       refine (zr zgD.rd (by omega)).mono ?_
       rintro e w2 ⟨y,rfl,_,_,hr2,hd2⟩
       have hacc2:=zgD.drawn hd2 hr2
       obtain⟨ad,l,rfl,_,hadhi,hl,hlc⟩:=(hacc2.old hrd1 (by omega)).nat hlj
       have hl6':=hlm.out l (List.mem_of_getElem? hl.out)
       by_cases hy:y=0
       ·subst hy
        have cG:∀ W,Ext w2 W→∀ q,W.cell? ⟨w.heap.size+1,q,none⟩=#[Value.int .i64 a,.int .i64 p,v][q]?:=fun W hW=>(hacc2.blk.ext hW).cell
        have cL:∀ W,Ext w2 W→W.cell? (ad.add j)=some (.int .i64 (l:Nat)):=fun W hW=>hW.cell_some hlc
        have hj0:(0:Int)≤(j:Int):=by omega
        have hj1:(j:Int)<(ls.length:Int):=by omega
        go_wp2_with fail
        refine tR (fun X=>Ext w2 X) [10,12] (Ord.of [0,1,2,3,4,5,6,7,8,9,10,11,12]) ?_
        refine tQ ?_
        refine zu fun K hK=>?_;go_simp
        refine hK.out _ _ ((Ext.refl _).drew.alloc _) ?_
        refine pT ?_
        refine zF fun K hK=>?_
        refine zaw w1 w2.drew _ _ _ rfl 92 _ 3 24 Tryz.underlying41 zaE rfl (by decide) v es.length (zo es) _ _ rfl rfl hacc2.fr.size hacc2.own rfl (by simp [Value.oneCell']) (by unfold maxLen;omega) (by omega) ?_
        intro g cap w3 zgN hg3 hat3 hlt3
        refine hK.out _ _ ?_
        refine pT ?_
        refine tQ ?_
        obtain⟨h1,h2,h3⟩:=(hacc2.ext ((Ext.refl _).drew)).push (e:=⟨k,l,x⟩) (W':=w3) zgN hg3 hat3
        have h1':=h1.out
        refine zF fun K hK=>?_
        go_simp
        refine hK.out _ _ ?_
        refine zR ?_
        go_wp2_with fail
        go_roundw
        case rel=>exact⟨x+1,by omega,by go_num,_,_,h3.more (by omega),by simp;omega,zeC hfew.out (by simp;omega)⟩
        case measure=>simp [intOf];omega
       ·have hy':((y:Int)==0)=false:=by simp;omega
        go_wp2_with fail
        go_roundw
        case rel=>exact⟨x+1,by omega,by go_num,v,es,hacc2.more (by omega),by omega,hfew⟩
        case measure=>simp [intOf];omega
      ·obtain rfl:p=x:=by omega
       have e1:es.length≤k*1000+(j+1)*100:=by omega
       have e2:M+k*1000+j*100+p≤M+k*1000+(j+1)*100:=by omega
       go_wp2_with fail
       go_roundw
       case rel=>exact⟨j+1,by omega,by go_num,v,es,zgD.more e2,e1,hfew⟩
       case measure=>simp [intOf];omega
    ·obtain rfl:j=ls.length:=by omega
     have e1:es.length≤(k+1)*1000:=by omega
     have e2:M+k*1000+ls.length*100≤M+(k+1)*1000:=by omega
     go_wp2_with fail
     go_roundw
     case rel=>exact⟨k+1,by omega,by go_num,v,es,zgD.more e2,e1,hfew⟩
     case measure=>simp [intOf];omega
  ·obtain rfl:p=k:=by omega
   obtain⟨A,n,c,rfl⟩:=zgD.form
   obtain⟨rfl,_⟩:=zgD.reads
   have hcap:=zgh zgD.own
   have cG:=zgD.blk.cell
   have bz2:=bz1.frm zgD.fr (by omega)
   have cz:=bz2.cell
   have hzz:=bz1.lt
   have fz:=bz2.frozen
   obtain⟨f1,f2,f3⟩:=zgD.fin (Z:=w.heap.size) (Nat.le_refl _) (by omega) (.int .i64 a) (.int .i64 p) (.slice A es.length c)
   have Hfin:=za (show RetG R (M+20000) 20000 w (.returned (.agg #[.int .i64 a,.int .i64 p,.slice A es.length c])) _ from ⟨⟨a,p,es⟩,A,es.length,c,rfl,f1,⟨a,p,rfl,ha,rfl,hp1,hp,hfew.out⟩,by omega,f2.more (by omega),f3⟩)
   clear bz1 hrd1 hlm f1 f2 f3
   go_wp2_with fail
   exact bodyPost_ret (v:=.agg #[.int .i64 a,.int .i64 p,.slice A es.length c]) (by simp [results,Tryz.results81,go_sem,cz]) rfl Hfin.out
def shA (al p k:Nat) (a:Aut):Prop:=a.al=al∧a.next.length=p∧a.acc.length=p∧∀ l∈a.next,l.length=k
theorem zdM {R M a p:Nat} {w:World}(h:Rd w R M)(hM:M≤900000000)(ha:a<64)(hp:p≤16) :
  Calls Tryz.prog 66 #[.pointer (some ⟨R,0,none⟩),.int .i64 a,.int .i64 p] w (zes R (M+400) (shA a p (letters a 6).length) w):=by
 have hsm:Sm a:=by unfold Sm;omega
 have hRl:=h.lt
 go_enter Tryz.func66,Tryz.ntmps66
 have hxz:=(Ext.refl w).alloc (.cells #[.int .i64 0,.slice none 0 0,.slice none 0 0] 26)
 have bz:=Blk.new w 26 #[.int .i64 0,.slice none 0 0,.slice none 0 0]
 have hxG:=(Ext.refl (w.alloc (.cells #[.int .i64 0,.slice none 0 0,.slice none 0 0] 26))).alloc (.cells #[.int .i64 a,.slice none 0 0,.slice none 0 0] 26)
 have bG:=Blk.new (w.alloc (.cells #[.int .i64 0,.slice none 0 0,.slice none 0 0] 26)) 26 #[.int .i64 a,.slice none 0 0,.slice none 0 0]
 have hz1:=bz.lt
 have hsz:(w.alloc (.cells #[.int .i64 0,.slice none 0 0,.slice none 0 0] 26)).heap.size=w.heap.size+1:=by simp
 rw [hsz] at bG
 go_upto_region 2 with fail
 generalize (w.alloc (.cells #[.int .i64 0,.slice none 0 0,.slice none 0 0] 26)).alloc (.cells #[.int .i64 a,.slice none 0 0,.slice none 0 0] 26)=w2 at *
 generalize w.alloc (.cells #[.int .i64 0,.slice none 0 0,.slice none 0 0] 26)=w1 at *
 go_wp2_with fail
 refine (zK a hsm _).mono ?_
 rintro e w3 ⟨B,d,rfl,-,hx3⟩
 have zgD:zaQ w1 w3 R (w.heap.size+1) M a (.slice none 0 0) [] [] (.slice none 0 0) []:=⟨bG.ext hx3,World.ownsRow_nil _ _ _ _,zB.nil _ _,World.ownsRow_nil _ _ _ _,h.ext ((hxz.trans hxG).trans hx3),(hxG.trans hx3).dr,by omega,by omega⟩
 have hl6:=zy a 6
 clear bG hx3 hxG
 generalize (letters a 6).length=k at *
 go_wp2_with fail
 go_loopw [9] (fun iv wr=>∃ (i:Nat) (v:Value) (rows:List Value) (ls:List (List Int)) (vA:Value) (acc:List Bool),i≤p∧iv=.int .i64 (i:Nat)∧zaQ w1 wr R (w.heap.size+1) (M+i*20) a v rows ls vA acc∧ls.length=i∧acc.length=i∧Hid (∀ l∈ls,l.length=k)) (fun iv _=>p - (intOf iv).toNat)
 case atStart=>exact⟨0,_,[],[],_,[],Nat.zero_le _,rfl,zgD,rfl,rfl,za (fun l hl=>by simp at hl)⟩
 case round =>
  clear zgD
  obtain⟨i,v,rows,ls,vA,acc,hi,rfl,zgD,hll,hla,hlk⟩:=hrel
  by_cases hip:i<p
  ·have hlow:=za zgD.low
   have hK:=za (show w1.heap.size≤wr.heap.size from zgD.dr.size)
   have h0:=World.ownsRow_made (base:=wr.heap.size) (e:=3) (size:=1) wr #[] 0 (Nat.le_refl _) (Nat.zero_le _) rfl
   have hx0:=(Ext.refl wr).alloc (.cells #[] 3)
   have hacc0:=zgD.ext hx0
   go_upto_region 7 with fail
   clear zgD
   obtain⟨wK,hwK⟩:∃ wK,wK=wr:=⟨_,rfl⟩
   rw [← hwK] at h0 hlow hK hacc0 hx0 ⊢
   clear hwK
   generalize wK.alloc (.cells #[] 3)=w4 at *
   go_wp2_with fail
   go_loopw [10,11] (fun rv jv wr=>∃ (j:Nat) (l:List Int),j≤k∧jv=.int .i64 (j:Nat)∧zaQ w1 wr R (w.heap.size+1) (M+i*20+j) a v rows ls vA acc∧l.length=j∧wr.ownsRow wK.heap.size 3 1 rv j (ints l)∧Hid (wK.heap.size≤wr.heap.size)) (fun _ jv _=>k - (intOf jv).toNat)
   case atStart=>exact⟨0,[],Nat.zero_le _,rfl,hacc0,rfl,h0,za hx0.size⟩
   case round =>
    clear hacc0 h0
    obtain⟨j,l,hj,rfl,zgD,hlj,hrow,hsK⟩:=hrel
    by_cases hjk:j<k
    ·obtain⟨AR,cR,rfl⟩:=ze hrow
     go_wp2_with fail
     refine (zr zgD.rd (by omega)).mono ?_
     rintro e w5 ⟨y,rfl,-,-,hr5,hd5⟩
     have hacc5:=zgD.drawn hd5 hr5
     have hrow5:=zaP hrow hd5 (fun b h1 e=>by have:=zgD.dr.size;have:=zgD.hR;have:=hK.out;omega)
     have hs5:wK.heap.size≤w5.heap.size:=Nat.le_trans hsK.out hd5.size
     have hl':=za hlj
     clear hlj zgD hrow
     go_wp2_with (at_builtin;refine zar wK w5 rfl _ _ _ rfl 3 _ 1 8 Tryz.underlying53 zag rfl (by decide) (.slice AR j cR) j (ints l) _ _ rfl rfl hs5 hrow5 rfl (by simp [Value.oneCell']) (by unfold maxLen;omega) (by omega) ?_;intro g5 cap5 w6 hown6 hg6 hat6 hlt6)
     go_roundw
     case rel=>exact⟨j+1,l++[(y:Int)],by omega,by go_num,(hacc5.side hlow.out hK.out hrow5 hg6).more (by omega),by simp [hl'.out],by simpa [ints] using hown6,za (Nat.le_trans hs5 hg6.size)⟩
     case measure=>simp [intOf];omega
    ·obtain rfl:j=k:=by omega
     obtain⟨AR,cR,rfl⟩:=ze hrow
     have cG:=zgD.blk.cell
     have hs1:=zgD.dr.size
     have hrow':wr.ownsRow wK.heap.size 3 1 (.slice AR j cR) l.length (ints l):=by rw [hlj];exact hrow
     go_upto_region 12 with (at_builtin;refine zar w1 wr rfl _ _ _ rfl 53 _ 1 24 Tryz.underlying23 zbr rfl (by decide) v ls.length rows _ _ rfl rfl hs1 zgD.nx rfl (zaA _ _ _) (by unfold maxLen;omega) (by omega) ?_;intro g5 cap5 w6 hown6 hg6 hat6 hlt6;obtain⟨q1,q2,q3⟩:=zgD.pushRow hlow.out hK.out hrow' hown6 hg6 hat6;have q1':=q1.out)
     rw [hll] at q3
     clear q1 q1' q2 hown6 hg6 hat6 hlt6 hrow hrow' cG zgD
     have hlk7:=za (show ∀ l'∈ls++[l],l'.length=j from fun l' hl'=>by
      rcases List.mem_append.1 hl' with h1|h1
      ·exact hlk.out l' h1
      ·rw [List.mem_singleton.1 h1];exact hlj)
     have hll7:(ls++[l]).length=i+1:=by simp [hll]
     clear hlj hll
     generalize ls++[l]=ls7 at *
     generalize rows++[.slice AR j cR]=rows7 at *
     generalize w6.setCell ⟨w.heap.size+1,1,none⟩ (.slice (some ⟨g5,0,none⟩) (i+1) cap5)=w7 at *
     generalize Value.slice (some ⟨g5,0,none⟩) (i+1) cap5=v7 at *
     have cG:∀ W,Dr R w7 W→∀ q,W.cell? ⟨w.heap.size+1,q,none⟩=#[Value.int .i64 a,v7,vA][q]?:=fun W hW=>(q3.blk.dr hW (by omega)).cell
     refine tR (fun X=>Dr R w7 X) [6,8] (Ord.of [0,1,2,3,4,5,6,7,8]) ?_
     refine tQ ?_
     refine zu fun K hK=>?_;go_simp
     refine (zr (n:=3) (q3.rd.ext ((Ext.refl _).drew)) (by omega)).mono ?_
     rintro e w8 ⟨z,rfl,-,-,hr8,hd8⟩
     have hd78:Dr R w7 w8:=((Dr.refl R w7).drew).trans hd8
     have hacc8:=q3.drawn hd78 hr8
     refine hK.out _ _ hd78 ?_
     refine pT ?_
     refine tQ ?_
     refine zu fun K hK=>?_;go_simp
     refine hK.out _ _ (hd78.alloc _) ?_
     refine pT ?_
     refine zF fun K hK=>?_
     trace_state
     refine zaw w1 w8 _ _ _ rfl 4 _ 1 1 Tryz.underlying24 zaL rfl (by decide) vA acc.length (zax acc) _ _ rfl rfl hacc8.dr.size hacc8.acc rfl (by simp [Value.oneCell']) (by unfold maxLen;omega) (by omega) ?_
     intro g9 cap9 w9 hown9 hg9 hat9 hlt9
     refine hK.out _ _ ?_
     refine pT ?_
     refine tQ ?_
     obtain⟨p1,p2,p3⟩:=hacc8.pushAcc (x:=decide (0<z)) (W':=w9) hown9 hg9 hat9
     have p1':=p1.out
     rw [hla] at p3
     refine zF fun K hK=>?_
     go_simp
     refine hK.out _ _ ?_
     refine zR ?_
     go_wp2_with fail
     go_roundw
     case rel=>exact⟨i+1,_,_,_,_,_,by omega,by go_num,p3.more (by omega),hll7,by simp [hla],hlk7⟩
     case measure=>simp [intOf];omega
  ·obtain rfl:i=p:=by omega
   obtain⟨A5,c5,rfl⟩:=ze zgD.nx
   obtain⟨B5,d5,rfl⟩:=ze zgD.acc
   obtain⟨f1,f2⟩:=zgD.fin (N:=M+400) (sh:=shA a i k) hxz bz rfl hRl (Nat.le_refl _) hz1 (by omega) ⟨rfl,hll,hla,hlk.out⟩
   rw [hll,hla] at f1 f2
   have cG:=zgD.blk.cell
   have bz5:=bz.dr zgD.dr (by omega)
   have cZ:=bz5.cell
   have fZ:=bz5.frozen
   go_wp2_with fail
   have cf:=f2.cell
   exact bodyPost_ret (v:=.agg #[.int .i64 a,.slice A5 i c5,.slice B5 i d5]) (by simp [results,Tryz.results66,go_sem,cf]) rfl f1.out
theorem zad {w:World} {base:Nat} {e:TypeId} {size n c:Nat} {A:Option Addr} {xs:List Value}(h:w.ownsRow base e size (.slice A n c) n xs)(hn:0<n):∃ g,A=some ⟨g,0,none⟩∧base≤g∧g<w.heap.size:=by
 rcases h.2 with ⟨_,h0⟩|⟨g,cap,cur,hv,hg,hh,_⟩
 ·omega
 ·injection hv with h1 h2 h3
  exact⟨g,h1,hg,(Array.getElem?_eq_some_iff.1 hh).1⟩
def blk (A:Option Addr) (b:Nat):Prop:=∃ a,A=some a∧a.block=b
theorem tot_cons (l:List Int) (r:List (List Int)):tot (l :: r)=l.length+tot r:=by simp [tot]
theorem zB.set_ {w w':World} {base j:Nat} {rows:List Value} {ls:List (List Int)} {A:Option Addr} {c:Nat} {l:List Int}(h:zB w base rows ls)(hr:rows[j]?=some (.slice A l.length c))
  (hf:Frm (blk A) w w') (zgC:w'.ownsRow base 3 1 (.slice A l.length c) l.length (ints l)):zB w' base rows (ls.set j l):=by
 have hj:j<rows.length:=(List.getElem?_eq_some_iff.1 hr).1
 refine⟨by simp [h.1],fun i row m hi hm=>?_,h.2.2⟩
 by_cases hij:i=j
 ·subst hij
  rw [hr] at hi
  obtain rfl:=Option.some.inj hi
  rw [List.getElem?_set_self (by rw [← h.1];exact hj)] at hm
  obtain rfl:=Option.some.inj hm
  exact zgC
 ·rw [List.getElem?_set_ne (fun e=>hij e.symm)] at hm
  refine zd (h.2.1 i row m hi hm) hf (fun b hb hS=>?_)
  obtain⟨ad,rfl,rfl⟩:=hS
  exact h.2.2 i j row _ ad.block hi hr hij hb rfl
section
variable {w0 W W':World} {R G M N:Nat} {al:Int} {v vA:Value} {rows:List Value} {ls:List (List Int)} {acc:List Bool}
theorem zaQ.of {A A':Option Addr} {n c n' c':Nat} {a:Aut}(ho:zO W w0.heap.size A n c A' n' c' a)(hr:Rd W R M)(hd:Dr R w0 W)(hR:R<w0.heap.size) :
  ∃ rows,zaQ w0 (W.alloc (.cells #[.int .i64 a.al,.slice A n c,.slice A' n' c'] 26)) R W.heap.size M a.al (.slice A n c) rows a.next (.slice A' n' c') a.acc:=by
 obtain⟨⟨rows,h1,h2⟩,h3,h4,h5⟩:=ho
 have hx:=(Ext.refl W).alloc (.cells #[.int .i64 a.al,.slice A n c,.slice A' n' c'] 26)
 refine⟨rows,Blk.new W _ _,zf h1 hx,h2.keep hx.toFrm (fun _ _=>id),?_,hr.ext hx,hd.ext hx,hR,hd.size⟩
 rw [← h5]
 exact zf h4 hx
theorem zaQ.setAcc {g n c i:Nat} {x:Bool}(h:zaQ w0 W R G M al v rows ls (.slice (some ⟨g,0,none⟩) n c) acc)(hn:n=acc.length) :
  zaQ w0 (W.setCell ⟨g,i,none⟩ (.bool x)) R G M al v rows ls (.slice (some ⟨g,0,none⟩) n c) (acc.set i x):=by
 subst hn
 have hf:=Frm.setCell W g i (.bool x)
 have hg:=(h.acc.lt g rfl).1
 have hRG:=h.hR
 have hst:=(h.acc.stored i (.bool x)).1
 rw [show (zax acc).set i (.bool x)=zax (acc.set i x) by simp [zax,List.map_set]] at hst
 refine⟨h.blk.frm hf (fun e=>zm h.acc h.blk (by decide) rfl e.symm),zd h.nx hf (fun b hb hS=>?_),h.rows.frm hf (fun i' r b hr hb hS=>?_),by simpa using hst,h.rd.frm hf (fun k hk e=>by omega),h.dr.setNew (p:=⟨g,i,none⟩) hg _,hRG,h.hG⟩
 ·subst hS;exact zaK h.nx h.acc (by decide) hb rfl
 ·subst hS
  obtain⟨l',_,ho⟩:=h.rows.row hr
  exact zaK ho h.acc (by decide) hb rfl
theorem zaQ.setRow {g n c i k:Nat} {x:Int} {l:List Int}(h:zaQ w0 W R G M al v rows ls vA acc)(hr:rows[i]?=some (.slice (some ⟨g,0,none⟩) n c))(hl:ls[i]?=some l)(hn:n=l.length) :
  zaQ w0 (W.setCell ⟨g,k,none⟩ (.int .i64 x)) R G M al v rows (ls.set i (l.set k x)) vA acc:=by
 subst hn
 have hf:=Frm.setCell W g k (.int .i64 x)
 have ho:=h.rows.2.1 i _ l hr hl
 have hg:=(ho.lt g rfl).1
 have hRG:=h.hR
 have hst:=(ho.stored k (.int .i64 x)).1
 rw [show (ints l).set k (.int .i64 x)=ints (l.set k x) by simp [ints,List.map_set]] at hst
 have hf':Frm (Go.Proofs.YtfcjhpodichpjaaGreat.blk (some ⟨g,0,none⟩)) W (W.setCell ⟨g,k,none⟩ (.int .i64 x)):=hf.mono (fun b _ hb=>⟨_,rfl,hb.symm⟩)
 refine⟨h.blk.frm hf (fun e=>zm ho h.blk (by decide) rfl e.symm),?_,?_,zd h.acc hf (fun b hb hS=>?_),h.rd.frm hf (fun k hk e=>by omega),h.dr.setNew (p:=⟨g,k,none⟩) hg _,hRG,h.hG⟩
 ·rw [List.length_set]
  exact zd h.nx hf (fun b hb hS=>by subst hS;exact zaK h.nx ho (by decide) hb rfl)
 ·have:=h.rows.set_ (w':=W.setCell ⟨g,k,none⟩ (.int .i64 x)) (j:=i) (l:=l.set k x) (A:=some ⟨g,0,none⟩) (c:=c) (by simpa using hr) hf' (by simpa using hst)
  exact this
 ·subst hS;exact zaK h.acc ho (by decide) hb rfl
theorem zaQ.row {g n c i:Nat} {l:List Int}(h:zaQ w0 W R G M al (.slice (some ⟨g,0,none⟩) n c) rows ls vA acc)(hl:ls[i]?=some l)(hn:n=ls.length) :
  ∃ Ar cr,rows[i]?=some (.slice Ar l.length cr)∧W.cell? ⟨g,i,none⟩=some (.slice Ar l.length cr)∧W.ownsRow w0.heap.size 3 1 (.slice Ar l.length cr) l.length (ints l):=by
 subst hn
 have hi:i<ls.length:=(List.getElem?_eq_some_iff.1 hl).1
 have hi':i<rows.length:=by rw [h.rows.1];exact hi
 have hr:rows[i]?=some rows[i]:=List.getElem?_eq_getElem hi'
 have ho:=h.rows.2.1 i _ l hr hl
 obtain⟨Ar,cr,e⟩:=ze ho
 rw [e] at hr ho
 exact⟨Ar,cr,hr,by rw [h.nx.cellAt i (by omega),hr],ho⟩
end
theorem zff {R M a p:Nat} {w:World}(h:Rd w R M)(hM:M≤900000000)(ha:a<64)(hp0:1≤p)(hp:p≤16) :
  Calls Tryz.prog 65 #[.pointer (some ⟨R,0,none⟩),.int .i64 a,.int .i64 p] w (zes R (M+400) (shA a p (letters a 6).length) w):=by
 have hRl:=h.lt
 go_enter Tryz.func65,Tryz.ntmps65
 have hxz:=(Ext.refl w).alloc (.cells #[.int .i64 0,.slice none 0 0,.slice none 0 0] 26)
 have bz:=Blk.new w 26 #[.int .i64 0,.slice none 0 0,.slice none 0 0]
 have hz1:=bz.lt
 go_wp2_with fail
 generalize w.alloc (.cells #[.int .i64 0,.slice none 0 0,.slice none 0 0] 26)=w1 at *
 refine (zdM (h.ext hxz) hM ha hp).mono ?_
 rintro e w2 ⟨b,A,n,c,A',n',c',rfl,zgC,hsh,hr2,hd2⟩
 obtain⟨rows,zgD⟩:=zaQ.of zgC hr2 hd2 (by omega)
 obtain⟨s1,s2,s3,s4⟩:=hsh.out
 have hn:n=b.next.length:=zgC.2.1
 have hn':n'=b.acc.length:=zgC.2.2.2
 obtain⟨bal,bnx,bac⟩:=b
 dsimp only at *
 subst s1
 rw [s2] at hn;rw [s3] at hn'
 replace hn:=hn.symm
 replace hn':=hn'.symm
 subst hn;subst hn'
 have hG:=hd2.size
 clear zgC hr2 hd2 hsh
 have S4:=za s4
 clear s4
 have hl6:=zy a 6
 generalize (letters a 6).length=k at *
 obtain⟨gA,rfl,hgA,-⟩:=zad (s3 ▸ zgD.acc) hp0
 obtain⟨gN,rfl,hgN,-⟩:=zad (s2 ▸ zgD.nx) hp0
 have S2:=za s2
 have S3:=za s3
 clear s2 s3
 go_upto_region 2 with fail
 generalize w2.alloc (.cells #[.int .i64 a,.slice (some ⟨gN,0,none⟩) p c,.slice (some ⟨gA,0,none⟩) p c'] 26)=w3 at *
 generalize w2.heap.size=G at *
 go_wp2_with fail
 go_loopw [8] (fun iv wr=>∃ (i:Nat) (acc:List Bool),i≤p∧iv=.int .i64 (i:Nat)∧zaQ w1 wr R G (M+400) a (.slice (some ⟨gN,0,none⟩) p c) rows bnx (.slice (some ⟨gA,0,none⟩) p c') acc∧Hid (acc.length=p)) (fun iv _=>p - (intOf iv).toNat)
 case atStart=>exact⟨0,_,Nat.zero_le _,rfl,zgD,S3⟩
 case round =>
  clear zgD
  obtain⟨i,acc,hi,rfl,zgD,hal⟩:=hrel
  by_cases hip:i<p
  ·have cG:=zgD.blk.cell
   have ho:=zgD.acc
   rw [hal.out] at ho
   obtain⟨o0,c0⟩:=zbe ho i (by omega)
   have f0:=ho.frozenAt i
   have hset:=zgD.setAcc (i:=i) (x:=decide ((i:Int)<(p:Int) - 1)) hal.out.symm
   clear ho
   go_wp2_with fail
   go_roundw
   case rel=>exact⟨i+1,_,by omega,by go_num,hset,za (by rw [List.length_set];exact hal.out)⟩
   case measure=>simp [intOf];omega
  ·clear hi
   have hp1:p - 1<bnx.length:=by have:=S2.out;omega
   obtain⟨l0,hl0⟩:∃ l,bnx[p - 1]?=some l:=⟨_,List.getElem?_eq_getElem hp1⟩
   have hll:=za (S4.out l0 (List.mem_of_getElem? hl0))
   have Hl0:=za hl0
   have hpc:((p:Int) - 1).toNat=p - 1:=by omega
   clear hl0 hp1
   go_wp2_with fail
   go_loopw [9] (fun iv wr=>∃ (j:Nat) (ls:List (List Int)) (l:List Int),j≤k∧iv=.int .i64 (j:Nat)∧zaQ w1 wr R G (M+400) a (.slice (some ⟨gN,0,none⟩) p c) rows ls (.slice (some ⟨gA,0,none⟩) p c') acc∧Hid (ls.length=p)∧Hid (∀ l∈ls,l.length=k)∧Hid (ls[p - 1]?=some l)) (fun iv _=>k - (intOf iv).toNat)
   case atStart=>exact⟨0,_,_,Nat.zero_le _,rfl,zgD,S2,S4,Hl0⟩
   case round =>
    clear zgD hll
    obtain⟨j,ls,l,hj,rfl,zgD,hls,hlk,hl0⟩:=hrel
    have hll:=hlk.out l (List.mem_of_getElem? hl0.out)
    obtain⟨Ar,cr,hrr,hcell,hor⟩:=zgD.row hl0.out hls.out.symm
    have cG:=zgD.blk.cell
    rw [hll] at hrr hcell hor
    have HR:=za hrr
    clear hrr
    by_cases hjk:j<k
    ·obtain⟨g,rfl,-,-⟩:=zad hor (by omega)
     obtain⟨o0,c0⟩:=zbe hor j (by omega)
     have f0:=hor.frozenAt j
     have hset:=zgD.setRow (k:=j) (x:=(p:Int) - 1) HR.out hl0.out hll.symm
     clear hor
     have HL:=za hll
     clear hll
     go_wp2_with fail
     go_roundw
     case rel =>
      refine⟨j+1,_,l.set j ((p:Int) - 1),by omega,by go_num,hset,za (by rw [List.length_set];exact hls.out),za (fun l' hl'=>?_),za ?_⟩
      ·rcases List.mem_or_eq_of_mem_set hl' with h1|h1
       ·exact hlk.out l' h1
       ·rw [h1,List.length_set];exact HL.out
      ·have:=hls.out
       rw [List.getElem?_set_self (by omega)]
     case measure=>simp [intOf];omega
    ·obtain⟨f1,f2⟩:=zgD.fin (N:=M+400) (sh:=shA a p k) hxz bz rfl hRl (Nat.le_refl _) hz1 (by omega) ⟨rfl,hls.out,hal.out,hlk.out⟩
     have bz5:=bz.dr zgD.dr (by omega)
     have cZ:=bz5.cell
     have fZ:=bz5.frozen
     clear hor hll
     go_wp2_with fail
     have cf:=f2.cell
     exact bodyPost_ret (v:=.agg #[.int .i64 a,.slice (some ⟨gN,0,none⟩) p c,.slice (some ⟨gA,0,none⟩) p c']) (by simp [results,Tryz.results65,go_sem,cf]) rfl f1.out
def RetStr (L:Nat) (w:World) (e:Ending) (w':World):Prop:=∃ s:ByteArray,e=.returned (.string s)∧s.size≤L∧Ext w w'
theorem zfX (w:World) (x:Int):(convert 22 9 (.slice (some ⟨w.heap.size,0,none⟩) 1 1)).run Tryz.prog (w.alloc (.cells #[.int .u8 x] 5))=.ok (.string (strOfNums [x])) (w.alloc (.cells #[.int .u8 x] 5)):=
 run_convert_bytes_arg _ _ 5 Tryz.underlying22 Tryz.underlying5 w.heap.size 0 1 1 [x] rfl (fun i hi=>by
  obtain rfl:i=0:=by omega
  rw [(Blk.new w 5 #[.int .u8 x]).cell];rfl) _ Tryz.underlying9
theorem zcQ (x:Int):(strOfNums [x]).size=1:=by simp [strOfNums];rfl
theorem zck {l:Int} {w:World}(h0:0≤l)(h1:l<6) :
  Calls Tryz.prog 69 #[.int .i64 l] w (RetStr 1 w):=by
 have hc:=zfX w
 go_enter Tryz.func69,Tryz.ntmps69
 go_wp2
 go_ret
 exact⟨_,rfl,Nat.le_of_eq (zcQ _),(Ext.refl _).alloc _⟩
theorem zaU {a:Nat} {w:World}(ha:a<64) :
  Calls Tryz.prog 84 #[.int .i64 a] w (RetStr 6 w):=by
 have hsm:Sm a:=by unfold Sm;omega
 have hd:=za (show decide (0≤(a:Int)∧(a:Int)≤63)=true by simp;omega)
 by_cases h0:a=0
 ·subst h0
  rw [show ((0:Nat):Int)=0 from rfl]
  have hd0:=za (show decide ((0:Int)≤0∧(0:Int)≤63)=true by decide)
  go_enter Tryz.func84,Tryz.ntmps84
  go_wp2_with (go_at_call 46;refine (zJ _ _).mono ?_;rw [hd0.out];rintro e w' ⟨rfl,rfl⟩)
  go_ret
  exact⟨_,rfl,by decide,Ext.refl _⟩
 ·have h0':((a:Int)==0)=false:=by simp;omega
  go_enter Tryz.func84,Tryz.ntmps84
  go_wp2_with fail
  refine (zJ _ _).mono ?_
  rw [hd.out]
  rintro e w' ⟨rfl,rfl⟩
  go_wp2_with fail
  refine (zK a hsm _).mono ?_
  rintro e w1 ⟨B,d,rfl,zgL,hx1⟩
  have hl6:=zy a 6
  have hlm:=za (fun k (hk:k∈letters a 6)=>(zbD.1 hk).1)
  have hrd:=Reads.of_own zgL
  clear zgL
  generalize letters a 6=ls at *
  go_wp2_with fail
  go_loopw [3,5] (fun v i wr=>∃ k:Nat,k≤ls.length∧i=.int .i64 k∧∃ s:ByteArray,v=.string s∧s.size≤k∧Ext w1 wr) (fun _ i _=>ls.length - (intOf i).toNat)
  case atStart=>exact⟨0,Nat.zero_le _,rfl,_,rfl,Nat.le_refl _,Ext.refl _⟩
  case round =>
   obtain⟨k,hk,rfl,s,rfl,hs,zgE⟩:=hrel
   by_cases hlt:k<ls.length
   ·obtain⟨ad,l,rfl,_,_,hl,hlc⟩:=(hrd.ext zgE).nat hlt
    have hl6':=hlm.out l (List.mem_of_getElem? hl.out)
    go_wp2_with fail
    refine (zck (l:=(l:Int)) (by omega) (by omega)).mono ?_
    rintro e w2 ⟨t,rfl,ht,hx2⟩
    have hst:s.size+t.size≤7:=by omega
    go_wp2_with fail
    go_roundw
    case rel=>exact⟨k+1,by omega,by go_num,_,rfl,by rw [ByteArray.size_append];omega,zgE.trans hx2⟩
    case measure=>simp [intOf];omega
   ·obtain rfl:k=ls.length:=by omega
    go_wp2_with fail
    go_ret
    exact⟨s,rfl,by omega,hx1.trans zgE⟩
def RetAl (w:World) (e:Ending) (w':World):Prop:=∃ (a:Nat) (ok:Bool),e=.returned (.tuple #[.int .i64 a,.bool ok])∧a<64∧Ext w w'
theorem zbO {x:ByteArray} {w:World} :
  Calls Tryz.prog 58 #[.string x] w (RetAl w):=by
 go_enter Tryz.func58,Tryz.ntmps58
 go_wp2_with fail
 go_loopw [4] (fun i wr=>∃ k:Nat,k≤64∧i=.int .i64 k∧Ext w wr) (fun i _=>64 - (intOf i).toNat)
 case atStart=>exact⟨0,Nat.zero_le _,rfl,Ext.refl _⟩
 case round =>
  obtain⟨k,hk,rfl,zgE⟩:=hrel
  by_cases hlt:k<64
  ·go_wp2_with fail
   refine (zaU hlt).mono ?_
   rintro e w2 ⟨t,rfl,ht,hx2⟩
   cases hxt:t.toList==x.toList
   ·go_wp2_with fail
    go_roundw
    case rel=>exact⟨k+1,by omega,by go_num,zgE.trans hx2⟩
    case measure=>simp [intOf];omega
   ·go_wp2_with fail
    go_ret2
    exact⟨k,true,rfl,hlt,zgE.trans hx2⟩
  ·obtain rfl:k=64:=by omega
   go_wp2_with fail
   go_ret2
   exact⟨0,false,rfl,by omega,zgE⟩
theorem zci {n:Nat} {w:World}(hn:n<100) :
  Calls Tryz.prog 85 #[.int .i64 n] w (RetStr 2 w):=by
 have hn1:(n:Int)<100:=by omega
 go_enter Tryz.func85,Tryz.ntmps85
 go_wp2_with fail
 go_loopw [0,3] (fun n' v wr=>∃ (m:Nat) (s:ByteArray),n'=.int .i64 m∧v=.string s∧(m<100∧s.size=0∨m<10∧s.size≤1)∧Ext w wr) (fun n' _ _=>(intOf n').toNat)
 case atStart=>exact⟨n,_,rfl,rfl,Or.inl ⟨hn,rfl⟩,Ext.refl _⟩
 case round =>
  obtain⟨m,s,rfl,rfl,hms,zgE⟩:=hrel
  have hm100:m<100:=by omega
  have hc:=zfX wr
  have hso:=zcQ
  by_cases hlt:9<m
  ·have hs0:s.size=0:=by omega
   have hdiv:=za (Int.natCast_ediv m 10)
   have hm9:(9:Int)<(m:Int):=by omega
   have hs1:s.size≤1:=by omega
   have Hs0:=za hs0
   clear hms hs0
   go_wp2_with fail
   go_roundw
   case rel=>exact⟨m / 10,_,by rw [hdiv.out];rfl,rfl,Or.inr ⟨by omega,by rw [ByteArray.size_append,zcQ,Hs0.out];omega⟩,zgE.alloc _⟩
   case measure=>simp [intOf];omega
  ·have hm9:(m:Int)≤9:=by omega
   have hs1:s.size≤1:=by omega
   clear hms
   go_wp2_with fail
   go_ret
   exact⟨_,rfl,by rw [ByteArray.size_append,zcQ];omega,zgE.alloc _⟩
def RetNumS (w:World) (e:Ending) (w':World):Prop:=∃ (n:Int) (ok:Bool),e=.returned (.tuple #[.int .i64 n,.bool ok])∧w=w'
theorem zcj {s:ByteArray} {w:World}(hs:s.size≤1000000) :
  Calls Tryz.prog 59 #[.string s] w (RetNumS w):=by
 by_cases h0:s.size=0
 ·have h0':¬ 0<s.size:=by omega
  go_enter Tryz.func59,Tryz.ntmps59
  go_wp2
  go_ret2
  exact⟨0,false,rfl,rfl⟩
 have h0':0<s.size:=by omega
 cases hm:((s[0].toNat:Int)==45)
 ·have hq0:0<s.size:=h0'
  by_cases z0:s.size=0
  ·go_enter Tryz.func59,Tryz.ntmps59
   go_wp2
   go_ret2
   exact⟨0,false,rfl,rfl⟩
  have z1:0<s.size:=by omega
  have z1':((s.size:Int)==0)=false:=by rw [beq_eq_false_iff_ne];omega
  by_cases z2:17<s.size
  ·have z2':(17:Int)<(s.size:Int):=by omega
   go_enter Tryz.func59,Tryz.ntmps59
   go_wp2
   go_ret2
   exact⟨0,false,rfl,rfl⟩
  have z2':(s.size:Int)≤17:=by omega
  cases z3:((s[0].toNat:Int)==48)
  ·go_enter Tryz.func59,Tryz.ntmps59
   go_wp2_with fail
   go_loop [5,6] (fun v i=>∃ (k:Nat) (n:Int),k≤s.size∧i=.int .i64 k∧v=.int .i64 n) (fun _ i=>s.size - (intOf i).toNat)
   case atStart=>exact⟨0,0,Nat.zero_le _,rfl,rfl⟩
   case round =>
    obtain⟨k,n,hk,rfl,rfl⟩:=hrel
    by_cases hlt:k<s.size
    ·have hb:=zbu s k hlt
     by_cases c0:(s[k].toNat:Int)<48
     ·go_wp2_with fail
      go_ret2
      exact⟨0,false,rfl,rfl⟩
     ·by_cases c1:57<(s[k].toNat:Int)
      ·go_wp2_with fail
       go_ret2
       exact⟨0,false,rfl,rfl⟩
      ·go_wp2_with fail
       go_round
       case rel=>exact⟨k+1,_,by omega,by go_num,rfl⟩
       case measure=>simp [intOf];omega
    ·obtain rfl:k=s.size:=by omega
     go_wp2_with fail
     go_ret2
     exact⟨_,true,rfl,rfl⟩
  ·by_cases z4:1<s.size
   ·have z4':(1:Int)<(s.size:Int):=by omega
    go_enter Tryz.func59,Tryz.ntmps59
    go_wp2
    go_ret2
    exact⟨0,false,rfl,rfl⟩
   ·have z4':(s.size:Int)≤1:=by omega
    go_enter Tryz.func59,Tryz.ntmps59
    go_wp2_with fail
    go_loop [5,6] (fun v i=>∃ (k:Nat) (n:Int),k≤s.size∧i=.int .i64 k∧v=.int .i64 n) (fun _ i=>s.size - (intOf i).toNat)
    case atStart=>exact⟨0,0,Nat.zero_le _,rfl,rfl⟩
    case round =>
     obtain⟨k,n,hk,rfl,rfl⟩:=hrel
     by_cases hlt:k<s.size
     ·have hb:=zbu s k hlt
      by_cases c0:(s[k].toNat:Int)<48
      ·go_wp2_with fail
       go_ret2
       exact⟨0,false,rfl,rfl⟩
      ·by_cases c1:57<(s[k].toNat:Int)
       ·go_wp2_with fail
        go_ret2
        exact⟨0,false,rfl,rfl⟩
       ·go_wp2_with fail
        go_round
        case rel=>exact⟨k+1,_,by omega,by go_num,rfl⟩
        case measure=>simp [intOf];omega
     ·obtain rfl:k=s.size:=by omega
      go_wp2_with fail
      go_ret2
      exact⟨_,true,rfl,rfl⟩
 ·obtain⟨y,hy⟩:∃ y,s.extract 1 s.size=y:=⟨_,rfl⟩
  have hyl:y.size=s.size - 1:=by rw [← hy,ByteArray.size_extract];omega
  have hyb:y.size≤1000000:=by omega
  have Hyl:=za hyl
  clear hyl
  have h01:(1:Int)≤(s.size:Int):=by omega
  by_cases z0:y.size=0
  ·go_enter Tryz.func59,Tryz.ntmps59
   go_wp2
   go_ret2
   exact⟨0,false,rfl,rfl⟩
  have z1:0<y.size:=by omega
  have z1':((y.size:Int)==0)=false:=by rw [beq_eq_false_iff_ne];omega
  by_cases z2:17<y.size
  ·have z2':(17:Int)<(y.size:Int):=by omega
   go_enter Tryz.func59,Tryz.ntmps59
   go_wp2
   go_ret2
   exact⟨0,false,rfl,rfl⟩
  have z2':(y.size:Int)≤17:=by omega
  cases z3:((y[0].toNat:Int)==48)
  ·go_enter Tryz.func59,Tryz.ntmps59
   go_wp2_with fail
   go_loop [5,6] (fun v i=>∃ (k:Nat) (n:Int),k≤y.size∧i=.int .i64 k∧v=.int .i64 n) (fun _ i=>y.size - (intOf i).toNat)
   case atStart=>exact⟨0,0,Nat.zero_le _,rfl,rfl⟩
   case round =>
    obtain⟨k,n,hk,rfl,rfl⟩:=hrel
    by_cases hlt:k<y.size
    ·have hb:=zbu y k hlt
     by_cases c0:(y[k].toNat:Int)<48
     ·go_wp2_with fail
      go_ret2
      exact⟨0,false,rfl,rfl⟩
     ·by_cases c1:57<(y[k].toNat:Int)
      ·go_wp2_with fail
       go_ret2
       exact⟨0,false,rfl,rfl⟩
      ·go_wp2_with fail
       go_round
       case rel=>exact⟨k+1,_,by omega,by go_num,rfl⟩
       case measure=>simp [intOf];omega
    ·obtain rfl:k=y.size:=by omega
     go_wp2_with fail
     go_ret2
     exact⟨_,true,rfl,rfl⟩
  ·by_cases z4:1<y.size
   ·have z4':(1:Int)<(y.size:Int):=by omega
    go_enter Tryz.func59,Tryz.ntmps59
    go_wp2
    go_ret2
    exact⟨0,false,rfl,rfl⟩
   ·have z4':(y.size:Int)≤1:=by omega
    go_enter Tryz.func59,Tryz.ntmps59
    go_wp2
    go_ret2
    exact⟨0,false,rfl,rfl⟩
theorem zj:(Tryz.prog.info? 9).map (fun i=>(i.zero,i.size,i.bytes))=some (some (.string ⟨#[]⟩),1,16):=by kernel_rfl
def RetStrs (L N:Nat) (w:World) (e:Ending) (w':World):Prop:=∃ (A:Option Addr) (n c:Nat) (l:List ByteArray),e=.returned (.slice A n c)∧n=l.length∧w'.ownsRow w.heap.size 9 1 (.slice A n c) n (zL l)∧(∀ x∈l,x.size≤L)∧n≤N∧Ext w w'
theorem zbq (x:ByteArray):∀ u∈(#[Value.string x]:Array Value).toList,u.oneCell'=true:=by simp [Value.oneCell']
theorem spec_l19Cut {s:ByteArray} {w:World}(hs:s.size≤1000000) :
  Calls Tryz.prog 57 #[.string s,.int .u8 32] w (RetStrs s.size (s.size+1) w):=by
 go_enter Tryz.func57,Tryz.ntmps57
 go_wp2_with fail
 go_loopw [5,6,7] (fun v f i wr=>∃ (k m:Nat) (l:List ByteArray),k≤s.size+1∧i=.int .i64 k∧m≤k∧f=.int .i64 m∧l.length≤k∧wr.ownsRow w.heap.size 9 1 v l.length (zL l)∧Hid (∀ x∈l,x.size≤s.size)∧Ext w wr) (fun _ _ i _=>s.size+1 - (intOf i).toNat)
 case atStart=>exact⟨0,0,[],Nat.zero_le _,rfl,Nat.le_refl _,rfl,Nat.le_refl _,World.ownsRow_lit w #[] 0 (Nat.le_refl _) (by unfold maxLen;omega) rfl,(fun x hx=>by cases hx),(Ext.refl _).alloc _⟩
 case round =>
  obtain⟨k,m,l,hk,rfl,hm,rfl,hl,zgC,hlx,zgE⟩:=hrel
  by_cases hle:k≤s.size
  ·have hle':(k:Int)≤(s.size:Int):=by omega
   have hm':(m:Int)≤(k:Int):=by omega
   have hex:=za (show (s.extract m k).size≤s.size by rw [ByteArray.size_extract];omega)
   have hall:=za (show ∀ x∈l++[s.extract m k],x.size≤s.size from fun x hx=>by
    rcases List.mem_append.1 hx with h1|h1
    ·exact hlx.out x h1
    ·rw [List.mem_singleton.1 h1];exact hex.out)
   by_cases he:k=s.size
   ·have heq:((k:Int)==(s.size:Int))=true:=by simp [he]
    have He:=za he
    clear he
    go_wp2_with (at_builtin;refine zW w wr rfl _ _ _ rfl 9 _ 1 16 Tryz.underlying55 zj rfl (by decide) u5 _ _ _ _ rfl rfl zgE zgC rfl (zbq _) (by unfold maxLen;omega) (by omega) ?_;intro v' w1 hext1 zgL hg1 hat1)
    go_roundw
    case rel=>exact⟨k+1,k+1,l++[s.extract m k],by omega,by go_num,by omega,by go_num,by simp;omega,by simpa [zL] using zgL,hall.out,by assumption⟩
    case measure=>simp [intOf];omega
   ·have heq:((k:Int)==(s.size:Int))=false:=by rw [beq_eq_false_iff_ne];omega
    have hlt:k<s.size:=by omega
    have hb:=zbu s k hlt
    cases hc:((s[k].toNat:Int)==32)
    ·go_wp2_with fail
     go_roundw
     case rel=>exact⟨k+1,m,l,by omega,by go_num,by omega,rfl,by omega,zgC,hlx,zgE⟩
     case measure=>simp [intOf];omega
    ·go_wp2_with (at_builtin;refine zW w wr rfl _ _ _ rfl 9 _ 1 16 Tryz.underlying55 zj rfl (by decide) u5 _ _ _ _ rfl rfl zgE zgC rfl (zbq _) (by unfold maxLen;omega) (by omega) ?_;intro v' w1 hext1 zgL hg1 hat1)
     go_roundw
     case rel=>exact⟨k+1,k+1,l++[s.extract m k],by omega,by go_num,by omega,by go_num,by simp;omega,by simpa [zL] using zgL,hall.out,by assumption⟩
     case measure=>simp [intOf];omega
  ·obtain rfl:k=s.size+1:=by omega
   obtain⟨A,c,rfl⟩:=ze zgC
   go_wp2_with fail
   go_ret
   exact⟨A,_,c,l,rfl,rfl,zgC,hlx.out,by omega,zgE⟩
def RetEdgeS (w:World) (e:Ending) (w':World):Prop:=∃ (x:Edg) (ok:Bool),e=.returned (.tuple #[.agg #[.int .i64 x.fr,.int .i64 x.le,.int .i64 x.ta],.bool ok])∧Ext w w'
theorem spec_l2Parse {s:ByteArray} {w:World}(hs:s.size≤1000000) :
  Calls Tryz.prog 60 #[.string s] w (RetEdgeS w):=by
 have hx1:=(Ext.refl w).alloc (.cells #[.int .i64 0,.int .i64 0,.int .i64 0] 92)
 have hbz:=Blk.new w 92 #[.int .i64 0,.int .i64 0,.int .i64 0]
 go_enter Tryz.func60,Tryz.ntmps60
 go_wp2_with fail
 generalize w.alloc (.cells #[.int .i64 0,.int .i64 0,.int .i64 0] 92)=w1 at *
 go_loop [4] (fun i=>∃ k:Nat,k≤s.size∧i=.int .i64 k) (fun i=>s.size - (intOf i).toNat)
 case atStart=>exact⟨0,Nat.zero_le _,rfl⟩
 case round =>
  obtain⟨k,hk,rfl⟩:=hrel
  have cz:=hbz.cell
  have fz:=hbz.frozen
  by_cases hlt:k<s.size
  ·have hb:=zbu s k hlt
   by_cases c0:(97:Int)≤(s[k].toNat:Int)
   ·by_cases c1:(s[k].toNat:Int)≤102
    ·have he1:=za (show (s.extract 0 k).size≤1000000 by rw [ByteArray.size_extract];omega)
     have he2:=za (show (s.extract (k+1) s.size).size≤1000000 by rw [ByteArray.size_extract];omega)
     have hk1:(k:Int)+1≤(s.size:Int):=by omega
     go_wp2_with fail
     refine (zcj he1.out).mono ?_
     rintro e w2 ⟨n1,ok1,rfl,rfl⟩
     go_wp2_with fail
     refine (zcj he2.out).mono ?_
     rintro e w2 ⟨n2,ok2,rfl,rfl⟩
     go_wp2_with fail
     refine (zaF s k hlt _).mono ?_
     rintro e w2 ⟨rfl,rfl⟩
     have zgF:∀ u0 u1 u2,Ext w (((w1.setCell ⟨w.heap.size,0,none⟩ u0).setCell ⟨w.heap.size,1,none⟩ u1).setCell ⟨w.heap.size,2,none⟩ u2):=fun u0 u1 u2=>((hx1.setCell (Nat.le_refl _) u0).setCell (Nat.le_refl _) u1).setCell (Nat.le_refl _) u2
     have Hfin:=za zgF
     clear zgF
     cases ok1
     ·go_wp2_with fail
      exact bodyPost_ret (v:=.tuple #[.agg #[.int .i64 n1,.int .i64 ((s[k].toNat:Int) - 97),.int .i64 n2],.bool false]) (by simp [results,Tryz.results60,go_sem,cz]) rfl ⟨⟨n1,(s[k].toNat:Int) - 97,n2⟩,false,rfl,Hfin.out _ _ _⟩
     ·go_wp2_with fail
      exact bodyPost_ret (v:=.tuple #[.agg #[.int .i64 n1,.int .i64 ((s[k].toNat:Int) - 97),.int .i64 n2],.bool ok2]) (by simp [results,Tryz.results60,go_sem,cz]) rfl ⟨⟨n1,(s[k].toNat:Int) - 97,n2⟩,ok2,rfl,Hfin.out _ _ _⟩
    ·go_wp2_with fail
     go_round
     case rel=>exact⟨k+1,by omega,by go_num⟩
     case measure=>simp [intOf];omega
   ·go_wp2_with fail
    go_round
    case rel=>exact⟨k+1,by omega,by go_num⟩
    case measure=>simp [intOf];omega
  ·obtain rfl:k=s.size:=by omega
   go_wp2_with fail
   refine bodyPost_ret (v:=.tuple #[.agg #[.int .i64 0,.int .i64 0,.int .i64 0],.bool false]) (by simp [results,Tryz.results60,go_sem,cz]) rfl ⟨⟨0,0,0⟩,false,rfl,?_⟩
   exact ((hx1.setCell (p:=⟨w.heap.size,0,none⟩) (Nat.le_refl _) _).setCell (p:=⟨w.heap.size,1,none⟩) (Nat.le_refl _) _).setCell (p:=⟨w.heap.size,2,none⟩) (Nat.le_refl _) _
theorem wrap_pow2 {t:Nat}(ht:t<32):wrap64 ((2:Int) ^ t)=((2 ^ t:Nat):Int):=by
 have hp:=(Sm.bit ht).lt
 have e:(2:Int) ^ t=((2 ^ t:Nat):Int):=by simp
 rw [e]
 generalize (2:Nat) ^ t=p at *
 unfold wrap64
 omega
theorem zeb (n:Nat)(hn:n<32) (w:World) :
  Calls Tryz.prog 91 #[.int .i64 n] w fun e w'=>e=.returned (.int .i64 (2 ^ n:Nat))∧w=w':=by
 have hu:IntKind.u64.wrap (n:Int)=n:=by rw [IntKind.wrap_u64];omega
 have h64:(n:Int)≤64:=by omega
 have hw:=za (wrap_pow2 hn)
 go_enter Tryz.func91,Tryz.ntmps91
 go_wp2
 go_ret
 exact⟨zam (by rw [← hw.out]),rfl⟩
def zbI (es:List Edg) (set:Nat) (l:Int):Nat:=es.foldl (fun m e=>if e.le=l∧set.testBit e.fr.toNat=true then m|||2 ^ e.ta.toNat else m) 0
theorem stepB_snoc (es:List Edg) (e:Edg) (set:Nat) (l:Int):zbI (es++[e]) set l=if e.le=l∧set.testBit e.fr.toNat=true then zbI es set l|||2 ^ e.ta.toNat else zbI es set l:=by simp [zbI]
theorem zfi (es:List Edg) (set:Nat) (l:Int) (k:Nat):(zbI es set l).testBit k=true↔∃ e∈es,(e.le=l∧set.testBit e.fr.toNat=true)∧e.ta.toNat=k:=by
 have:=foldl_bit es (fun e=>e.le=l∧set.testBit e.fr.toNat=true) 0 k
 simpa [zbI] using this
theorem zgx {n:Nat} {es:List Edg}(h:Few n es) (set:Nat) (l:Int):zbI es set l<2 ^ n:=by
 apply Nat.lt_pow_two_of_testBit
 intro k hk
 rw [Bool.eq_false_iff]
 intro hb
 obtain⟨e,he,_,h3⟩:=(zfi es set l k).1 hb
 have:=h e he
 omega
theorem zdy {lo hi:Nat} {A:Option Addr} {n c:Nat} {s:Sys} {set:Nat} {l:Int} {k0:Nat} {w:World}(h:zaj w lo hi A n s)(hf:Few k0 s.edges)(hk0:k0≤16)(hset:Sm set) :
  Calls Tryz.prog 130 #[.agg #[.int .i64 s.al,.int .i64 s.st,.slice A n c],.int .i64 set,.int .i64 l] w fun e w'=>e=.returned (.int .i64 (zbI s.edges set l:Nat))∧Ext w w':=by
 have hn:=h.2.len
 have hL:=za h.1
 have HR:=za (fun W (hW:Ext w W)=>h.2.ext hW)
 have Hf:=za hf
 clear hf
 go_enter Tryz.func130,Tryz.ntmps130
 go_wp2
 go_loopw [7,8] (fun v i wr=>∃ k:Nat,k≤n∧i=.int .i64 k∧∃ y:Nat,v=.int .i64 y∧Sm y∧Hid (y=zbI (s.edges.take k) set l)∧Ext w wr∧Ext (w.alloc (.cells #[.int .i64 s.al,.int .i64 s.st,.slice A n c] 43)) wr) (fun _ i _=>n - (intOf i).toNat)
 case atStart=>exact⟨0,Nat.zero_le _,rfl,0,rfl,by unfold Sm;omega,rfl,(Ext.refl _).alloc _,Ext.refl _⟩
 case round =>
  obtain⟨k,hk,rfl,y,rfl,hy,hyo,zgE,hexb⟩:=hrel
  have cb:=fun j=>zcd (j:=j) hexb
  by_cases hlt:k<n
  ·obtain⟨b,o,x,rfl,_,_,hx,c0,c1,c2⟩:=(HR.out wr zgE).edge hlt
   obtain⟨⟨f0,f1⟩,⟨g0,g1⟩,⟨t0,t1⟩⟩:=Hf.out x (List.mem_of_getElem? hx.out)
   have Htk:=za (show s.edges.take (k+1)=s.edges.take k++[x] by rw [List.take_add_one,hx.out];rfl)
   obtain⟨f,hfe⟩:∃ f:Nat,x.fr=f:=⟨x.fr.toNat,by omega⟩
   obtain⟨t,hte⟩:∃ t:Nat,x.ta=t:=⟨x.ta.toNat,by omega⟩
   rw [hfe] at c0 f0 f1
   rw [hte] at c2 t0 t1
   have hs1:=za (stepB_snoc (s.edges.take k) x set l)
   by_cases hle:x.le=l
   ·have hle':(x.le==l)=true:=by simp [hle]
    have Hle:=za hle
    clear hle
    cases hb:set.testBit f
    ·have Hb:=za hb
     clear hb
     go_wp2_with (go_at_call 73;refine (zac set f hset _ (by omega)).mono ?_;rw [Hb.out];rintro e w' ⟨rfl,rfl⟩)
     go_roundw
     case rel=>exact⟨k+1,by omega,by go_num,y,rfl,hy,by unfold Hid;rw [Htk.out,hs1.out,if_neg (by rintro ⟨_,h2⟩;rw [hfe] at h2;simp [Hb.out] at h2)];exact hyo.out,zgE,hexb⟩
     case measure=>simp [intOf];omega
    ·have Hb:=za hb
     clear hb
     have hor:=za (show bits .or .i64 (y:Nat) ((2:Int) ^ t)=((y|||2 ^ t:Nat):Int) by have:=zcw hy (Sm.bit (n:=t) (by omega));rw [show (((2:Nat) ^ t:Nat):Int)=(2:Int) ^ t by simp] at this;exact this)
     go_wp2_with (first
      |(go_at_call 73;refine (zac set f hset _ (by omega)).mono ?_;rw [Hb.out];rintro e w' ⟨rfl,rfl⟩)
      |(go_at_call 91;refine (zeb t (by omega) _).mono ?_;rintro e w' ⟨rfl,rfl⟩))
     go_roundw
     case rel=>exact⟨k+1,by omega,by go_num,y|||2 ^ t,by rw [hor.out],hy.or (Sm.bit (by omega)),by unfold Hid;rw [Htk.out,hs1.out,if_pos ⟨Hle.out,by rw [hfe];simpa using Hb.out⟩,← hyo.out,hte];rfl,zgE,hexb⟩
     case measure=>simp [intOf];omega
   ·have hle':(x.le==l)=false:=by simp [hle]
    have Hle:=za hle
    clear hle
    go_wp2
    go_roundw
    case rel=>exact⟨k+1,by omega,by go_num,y,rfl,hy,by unfold Hid;rw [Htk.out,hs1.out,if_neg (by rintro ⟨h2,_⟩;exact Hle.out h2)];exact hyo.out,zgE,hexb⟩
    case measure=>simp [intOf];omega
  ·obtain rfl:n=k:=by omega
   go_wp2
   go_ret
   exact⟨zam (by rw [hyo.out,hL.out,List.take_length]),zgE⟩
theorem zeF (R:List Nat) (i v:Nat):zaH (R.set i v)=(zaH R).set i (.int .i64 (v:Nat)):=by simp [zaH,List.map_set]
def ltE (a b:Edg):Bool:=if a.fr=b.fr then if a.le=b.le then decide (a.ta<b.ta) else decide (a.le<b.le) else decide (a.fr<b.fr)
def edgB (al:Nat) (st:Int) (e:Edg):Bool:=(decide (0≤e.fr)&&decide (e.fr<st))&&((decide (0≤e.ta)&&decide (e.ta<st))&&(decide (e.le<6)&&hasB al e.le))
def zcx (al:Nat) (st:Int) (l:List Edg) (k:Nat):Bool:=
 match l[k]? with
 |some e=>edgB al st e&&(decide (k=0) || match l[k - 1]? with
  |some p=>ltE p e
  |none=>false)
 |none=>false
def zv (s:Sys):Bool:=
 decide (0≤s.al∧s.al≤63)&&(decide (1≤s.st∧s.st≤16)&&(List.range s.edges.length).all (zcx s.al.toNat s.st s.edges))
theorem zcm {al:Nat} {st:Int} {e:Edg} {w:World}(hsm:Sm al) :
  Calls Tryz.prog 86 #[.int .i64 al,.int .i64 st,.agg #[.int .i64 e.fr,.int .i64 e.le,.int .i64 e.ta]] w fun r w'=>r=.returned (.bool (edgB al st e))∧Ext w w':=by
 have Hv:=za (show edgB al st e=((decide (0≤e.fr)&&decide (e.fr<st))&&((decide (0≤e.ta)&&decide (e.ta<st))&&(decide (e.le<6)&&hasB al e.le))) from rfl)
 by_cases h0:e.fr<0
 ·go_enter Tryz.func86,Tryz.ntmps86
  go_wp2
  go_ret
  exact⟨zl (by rw [Hv.out];simp;omega),(Ext.refl _).alloc _⟩
 ·by_cases h1:st≤e.fr
  ·go_enter Tryz.func86,Tryz.ntmps86
   go_wp2
   go_ret
   exact⟨zl (by rw [Hv.out];simp;omega),(Ext.refl _).alloc _⟩
  ·by_cases h2:e.ta<0
   ·go_enter Tryz.func86,Tryz.ntmps86
    go_wp2
    go_ret
    exact⟨zl (by rw [Hv.out];simp;omega),(Ext.refl _).alloc _⟩
   ·by_cases h3:st≤e.ta
    ·go_enter Tryz.func86,Tryz.ntmps86
     go_wp2
     go_ret
     exact⟨zl (by rw [Hv.out];simp;omega),(Ext.refl _).alloc _⟩
    ·by_cases h4:0≤e.le
     ·by_cases h5:e.le<6
      ·obtain⟨le,hle⟩:∃ le:Nat,Hid (e.le=le):=⟨e.le.toNat,by unfold Hid;omega⟩
       have hl6:(le:Int)<6:=by have:=hle.out;omega
       clear h4 h5
       rw [hle.out]
       go_enter Tryz.func86,Tryz.ntmps86
       go_wp2_with (go_at_call 73;refine (zac al le hsm _ (by omega)).mono ?_;rintro r w' ⟨rfl,rfl⟩)
       go_ret
       exact⟨zl (by rw [Hv.out,hle.out,decide_eq_true (show 0≤e.fr by omega),decide_eq_true (show e.fr<st by omega),decide_eq_true (show 0≤e.ta by omega),decide_eq_true (show e.ta<st by omega),decide_eq_true hl6];simp [hasB]),(Ext.refl _).alloc _⟩
      ·go_enter Tryz.func86,Tryz.ntmps86
       go_wp2_with fail
       go_ret
       exact⟨zl (by rw [Hv.out];simp;omega),(Ext.refl _).alloc _⟩
     ·go_enter Tryz.func86,Tryz.ntmps86
      go_wp2_with fail
      go_ret
      exact⟨zl (by rw [Hv.out];simp [hasB];omega),(Ext.refl _).alloc _⟩
theorem zcl {a b:Edg} {w:World} :
  Calls Tryz.prog 64 #[.agg #[.int .i64 a.fr,.int .i64 a.le,.int .i64 a.ta],.agg #[.int .i64 b.fr,.int .i64 b.le,.int .i64 b.ta]] w fun e w'=>e=.returned (.bool (ltE a b))∧Ext w w':=by
 have Hv:=za (show ltE a b=if a.fr=b.fr then if a.le=b.le then decide (a.ta<b.ta) else decide (a.le<b.le) else decide (a.fr<b.fr) from rfl)
 have hx:Ext w ((w.alloc (.cells #[Value.int .i64 a.fr,.int .i64 a.le,.int .i64 a.ta] 92)).alloc (.cells #[Value.int .i64 b.fr,.int .i64 b.le,.int .i64 b.ta] 92)):=((Ext.refl _).alloc _).alloc _
 have Hx:=za hx
 clear hx
 by_cases h0:a.fr=b.fr
 ·have n0:(a.fr != b.fr)=false:=by simp [h0]
  have H0:=za h0
  clear h0
  by_cases h1:a.le=b.le
  ·have n1:(a.le != b.le)=false:=by simp [h1]
   have H1:=za h1
   clear h1
   go_enter Tryz.func64,Tryz.ntmps64
   go_wp2
   go_ret
   exact⟨zl (by rw [Hv.out,if_pos H0.out,if_pos H1.out]),Hx.out⟩
  ·have n1:(a.le != b.le)=true:=by simp [h1]
   go_enter Tryz.func64,Tryz.ntmps64
   go_wp2
   go_ret
   exact⟨zl (by rw [Hv.out,if_pos H0.out,if_neg h1]),Hx.out⟩
 ·have n0:(a.fr != b.fr)=true:=by simp [h0]
  go_enter Tryz.func64,Tryz.ntmps64
  go_wp2
  go_ret
  exact⟨zl (by rw [Hv.out,if_neg h0]),Hx.out⟩
theorem zU {lo hi:Nat} {A:Option Addr} {n c:Nat} {s:Sys} {w:World}(h:zaj w lo hi A n s) :
  Calls Tryz.prog 67 #[.agg #[.int .i64 s.al,.int .i64 s.st,.slice A n c]] w fun e w'=>e=.returned (.bool (zv s))∧Ext w w':=by
 have Hv:=za (show zv s=(decide (0≤s.al∧s.al≤63)&&(decide (1≤s.st∧s.st≤16)&&(List.range n).all (zcx s.al.toNat s.st s.edges))) by unfold zv;rw [← h.1])
 have hn:=h.2.len
 by_cases hal:0≤s.al∧s.al≤63
 ·by_cases hst:1≤s.st∧s.st≤16
  ·obtain⟨al,hal'⟩:∃ al:Nat,Hid (s.al=al):=⟨s.al.toNat,by unfold Hid;omega⟩
   have hsm:Sm al:=by have:=hal'.out;unfold Sm;omega
   have hd:=za (show decide (0≤(al:Int)∧(al:Int)≤63)=true by have:=hal'.out;simp;omega)
   rw [hal'.out]
   rw [hal'.out,Int.toNat_natCast] at Hv
   clear hal
   have hd1:decide (s.st<1)=false:=by simp;omega
   have hd2:decide (16<s.st)=false:=by simp;omega
   obtain⟨st,hst',hs1,hs2⟩:∃ st:Int,Hid (s.st=st)∧1≤st∧st≤16:=⟨s.st,za rfl,hst.1,hst.2⟩
   rw [hst'.out] at hd1 hd2 Hv ⊢
   clear hst
   have hR:=fun W (hW:Ext w W)=>h.2.ext hW
   have HR:=za hR
   clear hR
   go_enter Tryz.func67,Tryz.ntmps67
   go_wp2_with (go_at_call 46;refine (zJ _ _).mono ?_;rw [hd.out];rintro e w' ⟨rfl,rfl⟩)
   go_loopw [3] (fun i wr=>∃ k:Nat,k≤n∧i=.int .i64 k∧Hid (((List.range n).take k).all (zcx al st s.edges)=true)∧Ext (w.alloc (.cells #[Value.int .i64 al,.int .i64 st,Value.slice A n c] 43)) wr)
    (fun i _=>n - (intOf i).toNat)
   case atStart=>exact⟨0,Nat.zero_le _,rfl,rfl,Ext.refl _⟩
   case round =>
    obtain⟨k,hk,rfl,hall,zgE⟩:=hrel
    have hbx:=zcd zgE
    by_cases hlt:k<n
    ·obtain⟨b,o,e,rfl,hlo,hhi,he,c0,c1,c2⟩:=(HR.out wr (((Ext.refl _).alloc _).trans zgE)).edge hlt
     go_wp2_with fail
     clear hbx
     have e0:∀ X,Ext wr X→∀ j,X.cell? ⟨w.heap.size,j,none⟩=#[Value.int .i64 al,.int .i64 st,Value.slice (some ⟨b,o,none⟩) n c][j]?:=fun X hX=>zcd (zgE.trans hX)
     have q0:∀ X,Ext wr X→X.cell? ⟨b,o+k*3,none⟩=some (.int .i64 e.fr):=fun X hX=>hX.cell_some c0
     have q1:∀ X,Ext wr X→X.cell? ⟨b,o+k*3+1,none⟩=some (.int .i64 e.le):=fun X hX=>hX.cell_some c1
     have q2:∀ X,Ext wr X→X.cell? ⟨b,o+k*3+2,none⟩=some (.int .i64 e.ta):=fun X hX=>hX.cell_some c2
     have hr:=Ext.refl wr
     clear c0 c1 c2
     have zgF:∀ X,Ext wr X→Ext w X:=fun X hX=>(((Ext.refl _).alloc _).trans zgE).trans hX
     have Hfin:=za zgF
     clear zgF
     have hk0':(0:Int)≤(k:Int):=by omega
     have hk1':(k:Int)<(n:Int):=by omega
     have hge:(List.range n)[k]?=some k:=by rw [List.getElem?_range hlt]
     have Hge:=za hge
     clear hge
     cases hA':edgB al st e
     ·have hA:=za hA'
      clear hA'
      refine zbj (fun X=>Ext wr X) [0,1,2,3,4,5,6,7,8,9,10,11,12,13,14,15,16,17,18,19,20,21,22,23,24,25,26,27,28,29] (by kernel_rfl) rfl (by kernel_rfl) (by kernel_rfl) (fun _ _ _ _ _ h=>h) ((Ext.refl _).drew) (fun hS=>?_)
      refine sQ ?_
      refine zcP (fun K hK=>?_)
      go_simp
      refine (zcm (e:=e) hsm).mono ?_
      rw [hA.out];rintro r w2 ⟨rfl,hx2⟩
      refine hK.out _ _ (Ext.trans (by assumption) hx2) (fun hS=>?_)
      refine pT ?_
      refine sQ ?_
      refine zeY ?_
      go_wp2_with fail
      go_ret
      exact⟨zl (by rw [Hv.out,zaI Hge.out (by rw [zcx,he.out];dsimp only;rw [hA.out];simp)];simp),Hfin.out _ (by assumption)⟩
     ·have hA:=za hA'
      clear hA'
      by_cases hk0:k=0
      ·subst hk0
       simp only [Nat.zero_mul,Nat.add_zero] at q0 q1 q2
       refine zbj (fun X=>Ext wr X) [0,1,2,3,4,5,6,7,8,9,10,11,12,13,14,15,16,17,18,19,20,21,22,23,24,25,26,27,28,29] (by kernel_rfl) rfl (by kernel_rfl) (by kernel_rfl) (fun _ _ _ _ _ h=>h) ((Ext.refl _).drew) (fun hS=>?_)
       refine sQ ?_
       refine zcP (fun K hK=>?_)
       go_simp
       refine (zcm (e:=e) hsm).mono ?_
       rw [hA.out];rintro r w2 ⟨rfl,hx2⟩
       refine hK.out _ _ (Ext.trans (by assumption) hx2) (fun hS=>?_)
       refine pT ?_
       refine sQ ?_
       refine zeY ?_
       go_wp2_with fail
       go_roundw
       case rel=>exact⟨0+1,by omega,by go_num,zbJ Hge.out hall.out (by rw [zcx,he.out];dsimp only;rw [hA.out];simp),zgE.trans (by assumption)⟩
       case measure=>simp [intOf];omega
      ·obtain⟨j,rfl⟩:∃ j,k=j+1:=⟨k - 1,by omega⟩
       have hp:s.edges[j]?=some (s.edges[j]'(by have:=h.1;omega)):=List.getElem?_eq_getElem _
       generalize s.edges[j]'(by have:=h.1;omega)=p at hp
       have Hp:=za hp
       clear hp
       have hpc:=(HR.out wr (((Ext.refl _).alloc _).trans zgE)).edge2 Hp.out
       have p0:∀ X,Ext wr X→X.cell? ⟨b,o+j*3,none⟩=some (.int .i64 p.fr):=fun X hX=>hX.cell_some hpc.1
       have p1:∀ X,Ext wr X→X.cell? ⟨b,o+j*3+1,none⟩=some (.int .i64 p.le):=fun X hX=>hX.cell_some hpc.2.1
       have p2:∀ X,Ext wr X→X.cell? ⟨b,o+j*3+2,none⟩=some (.int .i64 p.ta):=fun X hX=>hX.cell_some hpc.2.2
       clear hpc
       have hk1:decide ((0:Int)<(j:Int)+1)=true:=decide_eq_true (by omega)
       have hw1:IntKind.i64.wrap ((j:Int)+1 - 1)=(j:Int):=by rw [IntKind.wrap_i64];omega
       have hw2:IntKind.i64.wrap (j:Int)=(j:Int):=by rw [IntKind.wrap_i64];omega
       have hj0:(0:Int)≤(j:Int):=by omega
       have hj1:(j:Int)<(n:Int):=by omega
       have hj2:(0:Int)≤(j:Int)+1:=by omega
       have hj3:(j:Int)+1<(n:Int):=by omega
       have hj4:((j:Int)+1).toNat=j+1:=by omega
       cases hnl':ltE p e
       ·have hnl:=za hnl'
        clear hnl'
        refine zbj (fun X=>Ext wr X) [0,1,2,3,4,5,6,7,8,9,10,11,12,13,14,15,16,17,18,19,20,21,22,23,24,25,26,27,28,29] (by kernel_rfl) rfl (by kernel_rfl) (by kernel_rfl) (fun _ _ _ _ _ h=>h) ((Ext.refl _).drew) (fun hS=>?_)
        refine sQ ?_
        refine zcP (fun K hK=>?_)
        go_simp
        refine (zcm (e:=e) hsm).mono ?_
        rw [hA.out];rintro r w2 ⟨rfl,hx2⟩
        refine hK.out _ _ (Ext.trans (by assumption) hx2) (fun hS=>?_)
        refine pT ?_
        refine sQ ?_
        refine zcP (fun K hK=>?_)
        go_simp
        refine (zcl (a:=p) (b:=e)).mono ?_
        rw [hnl.out];rintro r w3 ⟨rfl,hx3⟩
        refine hK.out _ _ (Ext.trans (by assumption) hx3) (fun hS=>?_)
        refine pT ?_
        refine sQ ?_
        refine zeY ?_
        go_wp2_with fail
        go_ret
        exact⟨zl (by rw [Hv.out,zaI Hge.out (by rw [zcx,he.out];dsimp only;rw [Nat.add_sub_cancel,Hp.out];simp [hnl.out])];simp),Hfin.out _ (by assumption)⟩
       ·have hnl:=za hnl'
        clear hnl'
        refine zbj (fun X=>Ext wr X) [0,1,2,3,4,5,6,7,8,9,10,11,12,13,14,15,16,17,18,19,20,21,22,23,24,25,26,27,28,29] (by kernel_rfl) rfl (by kernel_rfl) (by kernel_rfl) (fun _ _ _ _ _ h=>h) ((Ext.refl _).drew) (fun hS=>?_)
        refine sQ ?_
        refine zcP (fun K hK=>?_)
        go_simp
        refine (zcm (e:=e) hsm).mono ?_
        rw [hA.out];rintro r w2 ⟨rfl,hx2⟩
        refine hK.out _ _ (Ext.trans (by assumption) hx2) (fun hS=>?_)
        refine pT ?_
        refine sQ ?_
        refine zcP (fun K hK=>?_)
        go_simp
        refine (zcl (a:=p) (b:=e)).mono ?_
        rw [hnl.out];rintro r w3 ⟨rfl,hx3⟩
        refine hK.out _ _ (Ext.trans (by assumption) hx3) (fun hS=>?_)
        refine pT ?_
        refine sQ ?_
        refine zeY ?_
        go_wp2_with fail
        go_roundw
        case rel=>exact⟨j+1+1,by omega,by go_num,zbJ Hge.out hall.out (by rw [zcx,he.out];dsimp only;rw [Nat.add_sub_cancel,Hp.out,hA.out];simp [hnl.out]),zgE.trans (by assumption)⟩
        case measure=>simp [intOf];omega
    ·obtain rfl:k=n:=by omega
     go_wp2
     go_ret
     exact⟨zl (by rw [Hv.out,zdl (by simp) hall.out,hd.out];simp;omega),((Ext.refl _).alloc _).trans zgE⟩
  ·go_enter Tryz.func67,Tryz.ntmps67
   have hd:=za (show decide (0≤s.al∧s.al≤63)=true by simp;omega)
   go_wp2_with (go_at_call 46;refine (zJ _ _).mono ?_;rw [hd.out];rintro e w' ⟨rfl,rfl⟩)
   all_goals go_ret
   all_goals exact⟨zl (by rw [Hv.out];simp [hst]),(Ext.refl _).alloc _⟩
 ·go_enter Tryz.func67,Tryz.ntmps67
  have hd:=za (show decide (0≤s.al∧s.al≤63)=false by simp;omega)
  go_wp2_with (go_at_call 46;refine (zJ _ _).mono ?_;rw [hd.out];rintro e w' ⟨rfl,rfl⟩)
  go_ret
  exact⟨zl (by rw [Hv.out];simp;omega),(Ext.refl _).alloc _⟩
theorem zcH {s:Sys}(h:zv s=true):∃ p:Nat,s.st=p∧1≤p∧p≤16∧Few p s.edges:=by
 simp only [zv,Bool.and_eq_true,decide_eq_true_eq,List.all_eq_true,List.mem_range] at h
 obtain⟨_,⟨h1,h2⟩,h3⟩:=h
 refine⟨s.st.toNat,by omega,by omega,by omega,fun e he=>?_⟩
 obtain⟨k,hk⟩:=List.getElem?_of_mem he
 have:=h3 k (List.getElem?_eq_some_iff.1 hk).1
 rw [zcx,hk] at this
 simp only [Bool.and_eq_true,edgB,decide_eq_true_eq,hasB] at this
 omega
def RetFmt (s:Sys) (w:World) (e:Ending) (w':World):Prop:=∃ t:ByteArray,e=.returned (.string t)∧(zv s=false→t.size=0)∧Ext w w'
theorem valid_al {s:Sys}(h:zv s=true):∃ a:Nat,s.al=a∧a<64:=by
 simp only [zv,Bool.and_eq_true,decide_eq_true_eq] at h
 exact⟨s.al.toNat,by omega,by omega⟩
theorem zdZ {lo hi:Nat} {A:Option Addr} {n c:Nat} {s:Sys} {w:World}(h:zaj w lo hi A n s)(hn:n≤1000000) :
  Calls Tryz.prog 61 #[.agg #[.int .i64 s.al,.int .i64 s.st,.slice A n c]] w (RetFmt s w):=by
 have HS:=za (fun W (hW:Ext w W)=>h.ext hW)
 clear h
 cases h1:zv s
 ·have H1:=za h1
  clear h1
  go_enter Tryz.func61,Tryz.ntmps61
  go_wp2_with (go_at_call 67;refine (zU (HS.out _ ((Ext.refl _).alloc _))).mono ?_;rw [H1.out];rintro e w1 ⟨rfl,hx⟩)
  go_ret
  exact⟨_,rfl,fun _=>rfl,((Ext.refl _).alloc _).trans hx⟩
 ·obtain⟨p,hp,hp1,hp2,hf⟩:=zcH h1
  obtain⟨a,ha,ha2⟩:=valid_al h1
  have H1:=za h1
  have Hf:=za hf
  have Hp:=za hp
  have Ha:=za ha
  clear h1 hf hp ha
  go_enter Tryz.func61,Tryz.ntmps61
  go_wp2_with fail
  refine (zU (HS.out _ ((Ext.refl _).alloc _))).mono ?_
  rw [H1.out]
  rintro e w1 ⟨rfl,hx⟩
  have b1:=zbK hx
  rw [Ha.out,Hp.out] at b1
  have hw1:=((Ext.refl w).alloc _).trans hx
  have cb:=b1.cells
  go_wp2_with fail
  refine tR (fun X=>Ext w1 X) [] (Ord.of [0,1,4,5,2,3,6,7,8]) ?_
  refine tQ ?_
  refine zu fun K hK=>?_;go_simp
  refine (zaU ha2).mono ?_
  rintro e w2 ⟨t2,rfl,ht2,hx2⟩
  have hx12:=((Ext.refl w1).drew).trans hx2
  have q1:¬ 9223372036854775807<t2.size+1:=by omega
  refine hK.out _ _ hx12 ?_
  refine pT ?_
  refine tQ ?_
  refine zu fun K hK=>?_;go_simp
  refine (zci (n:=p) (by omega)).mono ?_
  rintro e w3 ⟨t3,rfl,ht3,hx3⟩
  have hx13:=hx12.trans hx3
  have q2:¬ 9223372036854775807<t2.size+1+t3.size:=by omega
  refine hK.out _ _ hx13 ?_
  refine pT ?_
  refine tQ ?_
  refine zR ?_
  obtain⟨t4,ht4⟩:∃ t4:ByteArray,t4=t2++{ data:=#[32] }++t3:=⟨_,rfl⟩
  have hs4:t4.size≤20:=by rw [ht4,ByteArray.size_append,ByteArray.size_append];show t2.size+1+t3.size≤20;omega
  rw [← ht4]
  clear ht4 q1 q2 ht2 ht3 hx2 hx3 hx12
  have hext0:=hx13
  go_wp2_with fail
  go_loopw [3,4] (fun v i wr=>∃ (k:Nat) (t:ByteArray),k≤n∧i=.int .i64 k∧v=.string t∧t.size≤20+20*k∧Ext w1 wr) (fun _ i _=>n - (intOf i).toNat)
  case atStart=>exact⟨0,t4,Nat.zero_le _,rfl,rfl,hs4,hext0⟩
  case round =>
   clear hext0 hx13 hs4
   obtain⟨k,t,hk,rfl,rfl,ht,zgE⟩:=hrel
   have cb0:=cb wr zgE
   by_cases hlt:k<n
   ·obtain⟨b,o,x,rfl,_,_,hx0,c0,c1,c2⟩:=(HS.out wr (hw1.trans zgE)).2.edge hlt
    obtain⟨⟨f0,f1⟩,⟨g0,g1⟩,⟨t0,t1⟩⟩:=Hf.out x (List.mem_of_getElem? hx0.out)
    obtain⟨u,hue⟩:∃ u:Nat,x.fr=u:=⟨x.fr.toNat,by omega⟩
    obtain⟨v,hve⟩:∃ v:Nat,x.ta=v:=⟨x.ta.toNat,by omega⟩
    rw [hue] at c0 f0 f1
    rw [hve] at c2 t0 t1
    clear hue hve
    go_wp2_with fail
    have hxq:=(Ext.refl wr).alloc (.cells #[.int .i64 u,.int .i64 x.le,.int .i64 v] 92)
    have hbq:=Blk.new wr 92 #[.int .i64 u,.int .i64 x.le,.int .i64 v]
    generalize wr.alloc (.cells #[.int .i64 u,.int .i64 x.le,.int .i64 v] 92)=wq at *
    have cq:=hbq.cells
    have q0:¬ 9223372036854775807<t.size+1:=by omega
    refine tR (fun X=>Ext wq X) [] (Ord.of [0,1,2,3,6,7,10,11,4,5,8,9,12,13,14]) ?_
    refine tQ ?_
    refine zu fun K hK=>?_;go_simp
    refine (zci (n:=u) (by omega)).mono ?_
    rintro e w2 ⟨t2,rfl,ht2,hx2⟩
    have hy2:=((Ext.refl wq).drew).trans hx2
    have q1:¬ 9223372036854775807<t.size+1+t2.size:=by omega
    refine hK.out _ _ hy2 ?_
    refine pT ?_
    refine tQ ?_
    refine zu fun K hK=>?_;go_simp
    refine (zck (l:=x.le) g0 g1).mono ?_
    rintro e w3 ⟨t3,rfl,ht3,hx3⟩
    have hy3:=hy2.trans hx3
    have q2:¬ 9223372036854775807<t.size+1+t2.size+t3.size:=by omega
    refine hK.out _ _ hy3 ?_
    refine pT ?_
    refine tQ ?_
    refine zu fun K hK=>?_;go_simp
    refine (zci (n:=v) (by omega)).mono ?_
    rintro e w5 ⟨t5,rfl,ht5,hx5⟩
    have hy5:=hy3.trans hx5
    have q3:¬ 9223372036854775807<t.size+1+t2.size+t3.size+t5.size:=by omega
    refine hK.out _ _ hy5 ?_
    refine pT ?_
    refine tQ ?_
    refine zR ?_
    have hs6:(t++{ data:=#[32] }++t2++t3++t5).size≤20+20*(k+1):=by
     simp only [ByteArray.size_append]
     show t.size+1+t2.size+t3.size+t5.size≤_
     omega
    clear q0 q1 q2 q3
    go_wp2_with fail
    go_roundw
    case rel=>exact⟨k+1,_,by omega,by go_num,rfl,hs6,(zgE.trans hxq).trans hy5⟩
    case measure=>simp [intOf];omega
   ·obtain rfl:n=k:=by omega
    go_wp2_with fail
    go_ret
    have hv:=H1.out
    exact⟨t,rfl,fun h=>absurd (hv.symm.trans h) (by decide),hw1.trans zgE⟩
theorem wpList_push2 {P:Program} (wb w:World) {ops:Array Oper} {rest:List Oper} {o:Oper} {a:Act} {Q:Exit→Act→World→Prop}(hgd:o.guard=none) (s x:Operand) (t:TypeId)
  (ho:o.op=.call { callee:=.builtin .append,args:=#[s,x],argTypes:=#[t,t] })
  (e:TypeId) (z:Value) (size bytes:Nat) (ht:P.underlying t=some (.slice e)) (hi:(P.info? e).map (fun i=>(i.zero,i.size,i.bytes))=some (some z,size,bytes)) (hzs:z.cells.size=size) (hsz:0<size)
  (v:Value) (n:Nat) (xs:List Value) (us:Array Value) (e':TypeId) (hs:a.eval s=v) (hx:a.eval x=.slice (some ⟨w.heap.size,0,none⟩) 1 1)
  (zgE:wb.heap.size≤w.heap.size) (zgC:w.ownsRow wb.heap.size e size v n xs) (hus:us.size=size) (h1:∀ u∈us.toList,u.oneCell'=true)
  (h63:n+1≤maxLen) (hbytes:(n+1)*bytes≤140737488355328)
  (h:∀ g cap w',w'.ownsRow wb.heap.size e size (.slice (some ⟨g,0,none⟩) (n+1) cap) (n+1) (xs++us.toList)→w.grownBy w' v.ownBlock→(v.ownBlock=some g∨g=w.heap.size+1)→g<w'.heap.size→wpList P ops Q rest (a.put o.dst (.slice (some ⟨g,0,none⟩) (n+1) cap)) w') :
  wpList P ops Q (o :: rest) a (w.alloc (.cells us e')):=
 wpList_plain hgd fun _ hK=>zaw wb w s x t ho e z size bytes ht hi hzs hsz v n xs us e' hs hx zgE zgC hus h1 h63 hbytes fun g cap w' h2 h3 h4 h5=>hK _ _ (h g cap w' h2 h3 h4 h5)
theorem Reads.str {w:World} {lo hi n k:Nat} {A:Option Addr} {l:List ByteArray}(h:Reads w lo hi 1 A n (zL l))(hk:k<n):∃ ad x,A=some ad∧lo≤ad.block∧ad.block<hi∧Hid (l[k]?=some x)∧w.cell? (ad.add k)=some (.string x):=by
 obtain⟨ad,u,e,h1,h2,hu,hc⟩:=h.one hk
 have:=hu.out
 simp only [zL,List.getElem?_map,Option.map_eq_some_iff] at this
 obtain⟨x,hx,rfl⟩:=this
 exact⟨ad,x,e,h1,h2,hx,hc⟩
theorem valid_good {s:Sys}(h:zv s=true):Good s:=by
 obtain⟨p,hp,hp1,hp2,hf⟩:=zcH h
 obtain⟨a,ha,ha2⟩:=valid_al h
 exact⟨a,p,ha,ha2,hp,hp1,hp2,hf⟩
theorem Acc.fillRD {w0 wB W:World} {R G M Z:Nat} {al st:Int} {v:Value} {es:List Edg}(h:Acc w0 wB W R G M al st v es)(hZ:w0.heap.size≤Z) (u0 u1 u2:Value) :
  Rd (((W.setCell ⟨Z,0,none⟩ u0).setCell ⟨Z,1,none⟩ u1).setCell ⟨Z,2,none⟩ u2) R M∧Dr R w0 (((W.setCell ⟨Z,0,none⟩ u0).setCell ⟨Z,1,none⟩ u1).setCell ⟨Z,2,none⟩ u2):=
 ⟨h.rd.frm (zcM W Z u0 u1 u2) (fun k h1 h2=>by have:=h.hR;omega),((h.dr.setNew (p:=⟨Z,0,none⟩) hZ u0).setNew (p:=⟨Z,1,none⟩) hZ u1).setNew (p:=⟨Z,2,none⟩) hZ u2⟩
theorem str_empty {t x:ByteArray}(h:t.toList=x.toList)(h0:t.size=0):x.size=0:=by
 have h1:=congrArg List.length h
 rw [ByteArray.toList_eq,ByteArray.toList_eq] at h1
 have e1:t.data.toList.length=t.size:=rfl
 have e2:x.data.toList.length=x.size:=rfl
 omega
def Fair (s:Sys):Prop:=∃ a p:Nat,s.al=a∧a<64∧s.st=p∧p≤16∧Few (p+1) s.edges
theorem Good.fair {s:Sys}(h:Good s):Fair s:=by
 obtain⟨a,p,h1,h2,h3,_,h5,h6⟩:=h
 exact⟨a,p,h1,h2,h3,h5,fun e he=>by have:=h6 e he;omega⟩
theorem fair_zero:Fair ⟨0,0,[]⟩:=⟨0,0,rfl,by omega,rfl,by omega,fun e he=>by cases he⟩
def zfQ (R M L:Nat) (w:World) (e:Ending) (w':World):Prop:=
 ∃ (s:Sys) (A:Option Addr) (n c:Nat) (ok:Bool),e=.returned (.tuple #[.agg #[.int .i64 s.al,.int .i64 s.st,.slice A n c],.bool ok])∧zaT w' R A n s∧((ok=true→Good s)∧Fair s)∧(n≤L∧n≤c)∧Rd w' R M∧Dr R w w'
theorem zeI {R M L:Nat} {w w':World}(h:Rd w' R M)(hd:Dr R w w'):zfQ R M L w (.returned (.tuple #[.agg #[.int .i64 0,.int .i64 0,.slice none 0 0],.bool false])) w':=
 ⟨⟨0,0,[]⟩,none,0,0,false,rfl,⟨rfl,by omega,fun h0=>by omega⟩,⟨(fun h=>by cases h),fair_zero⟩,⟨Nat.zero_le _,Nat.le_refl _⟩,h,hd⟩
theorem yJ02a4 {P:Prop}(h:P:=by
 obtain⟨g1,g2⟩:=hacc4.fillRD (Z:=w.heap.size) (Nat.le_refl _) (.int .i64 0) (.int .i64 0) (.slice none 0 0)
 exact bodyPost_ret (v:=.tuple #[.agg #[.int .i64 0,.int .i64 0,.slice none 0 0],.bool false]) (by simp [results,Tryz.results34,go_sem,hz4]) rfl (zeI g1 g2)
 ):P:=h
theorem yJ02a5 {P:Prop}(h:P:=by
 go_wp2_with fail
 exact bodyPost_ret (v:=.tuple #[.agg #[.int .i64 0,.int .i64 0,.slice none 0 0],.bool false]) (by simp [results,Tryz.results34,go_sem,cz2]) rfl Hnone.out
 ):P:=h
theorem zbx {R M:Nat} {x:ByteArray} {w:World}(h:Rd w R M)(hx:x.size≤1000) :
  Calls Tryz.prog 34 #[.string x] w (zfQ R M 1001 w):=by
 have hRl:=h.lt
 go_enter Tryz.func34,Tryz.ntmps34
 go_wp2_with fail
 refine (spec_l19Cut (s:=x) (by omega)).mono ?_
 rintro e w1 ⟨B,m,d,l,rfl,hml,zgL,hlx,hm,hx1⟩
 have bz1:=zbK hx1
 have hzz:=bz1.lt
 have hw1:=((Ext.refl w).alloc _).trans hx1
 have hrd:=(Reads.of_own zgL).more (lo':=w.heap.size+1) (hi':=w1.heap.size) (by simp) (Nat.le_refl _)
 have Hlx:=za hlx
 have Hml:=za hml
 clear zgL hlx hml hx1
 have cz:=bz1.cell
 have fz:=bz1.frozen
 have hfill:=za (fun (W:World) (hW:Ext w1 W) (u0 u1 u2:Value)=>(⟨(h.ext (hw1.trans hW)).frm (zcM W w.heap.size u0 u1 u2) (fun k hk hS=>by omega),(((hw1.trans hW).dr.setNew (R:=R) (p:=⟨w.heap.size,0,none⟩) (Nat.le_refl _) u0).setNew (p:=⟨w.heap.size,1,none⟩) (Nat.le_refl _) u1).setNew (p:=⟨w.heap.size,2,none⟩) (Nat.le_refl _) u2⟩:Rd (((W.setCell ⟨w.heap.size,0,none⟩ u0).setCell ⟨w.heap.size,1,none⟩ u1).setCell ⟨w.heap.size,2,none⟩ u2) R M∧Dr R w (((W.setCell ⟨w.heap.size,0,none⟩ u0).setCell ⟨w.heap.size,1,none⟩ u1).setCell ⟨w.heap.size,2,none⟩ u2)))
 by_cases hm2:m<2
 ·go_wp2_with fail
  obtain⟨g1,g2⟩:=hfill.out w1 (Ext.refl _) (.int .i64 0) (.int .i64 0) (.slice none 0 0)
  exact bodyPost_ret (v:=.tuple #[.agg #[.int .i64 0,.int .i64 0,.slice none 0 0],.bool false]) (by simp [results,Tryz.results34,go_sem,cz]) rfl (zeI g1 g2)
 ·obtain⟨ad,x0,rfl,hlo,hhi,hx0,hc0⟩:=hrd.str (k:=0) (by omega)
  obtain⟨b,o,rfl⟩:∃ b o,ad=⟨b,o,none⟩:=⟨_,_,zcv hc0⟩
  rw [zP,Nat.add_zero] at hc0
  obtain⟨ad',x1,hae,_,_,hx1,hc1⟩:=hrd.str (k:=1) (by omega)
  obtain rfl:=Option.some.inj hae
  rw [zP] at hc1
  have hm2':(2:Int)≤(m:Int):=by omega
  have hb1:=za (Hlx.out x1 (List.mem_of_getElem? hx1.out))
  go_wp2_with fail
  refine (zbO (x:=x0)).mono ?_
  rintro e w2 ⟨a,ok1,rfl,ha,hx2⟩
  have hc12:=hx2.cell_some hc1
  have bz2:=bz1.ext hx2
  have cz2:=bz2.cell
  have fz2:=bz2.frozen
  go_wp2_with fail
  refine (zcj (s:=x1) (by have:=hb1.out;omega)).mono ?_
  rintro e w2' ⟨st,ok2,rfl,rfl⟩
  obtain⟨g1,g2⟩:=hfill.out w2 hx2 (.int .i64 0) (.int .i64 0) (.slice none 0 0)
  have Hnone:=za (zeI (L:=1001) g1 g2)
  clear g1 g2
  cases ok1
  ·exact yJ02a5
  ·cases ok2
   ·exact yJ02a5
   ·have bG:=Blk.new w2 43 #[.int .i64 a,.int .i64 st,.slice none 0 0]
    have hx3:=(Ext.refl w2).alloc (.cells #[.int .i64 a,.int .i64 st,.slice none 0 0] 43)
    have hz3:w2.heap.size<(w2.alloc (.cells #[.int .i64 a,.int .i64 st,.slice none 0 0] 43)).heap.size:=by simp
    have hz12:=hx2.size
    have hz01:=hw1.size
    have hw2:=hw1.trans hx2
    clear hc0 hc1 hc12 cz fz cz2 fz2
    go_wp2_with fail
    generalize w2.alloc (.cells #[.int .i64 a,.int .i64 st,.slice none 0 0] 43)=w3 at *
    have hw3:=hw2.trans hx3
    have hrd3:=(hrd.ext hx2).ext hx3
    have bz3:=bz2.ext hx3
    have zgD:Acc w w3 w3 R w2.heap.size M a st (.slice none 0 0) []:=⟨bG,World.ownsRow_nil _ _ _ _,h.ext hw3,hw3.dr,Frm.refl _ _,hRl,hw3.size,by omega⟩
    go_loopw [10] (fun i wr=>∃ (k:Nat) (v:Value) (es:List Edg),2≤k∧k≤m∧i=.int .i64 k∧Acc w w3 wr R w2.heap.size M a st v es∧es.length≤k) (fun i _=>m - (intOf i).toNat)
    case atStart=>exact⟨2,_,[],Nat.le_refl _,by omega,rfl,zgD,Nat.zero_le _⟩
    case round =>
     clear zgD
     obtain⟨k,v,es,hk2,hk,rfl,zgD,hel⟩:=hrel
     have hG:=zgD.blk.cell
     have hbz:=bz3.frm zgD.fr (by omega)
     have hbzc:=hbz.cell
     have hbzf:=hbz.frozen
     have hrdk:=zgD.old hrd3 (by omega)
     by_cases hlt:k<m
     ·obtain⟨ad,xk,hae,_,_,hxk,hck⟩:=hrdk.str hlt
      obtain rfl:=Option.some.inj hae
      rw [zP] at hck
      have hbk:=za (Hlx.out xk (List.mem_of_getElem? hxk.out))
      clear hbzc hbzf
      go_wp2_with fail
      refine (spec_l2Parse (s:=xk) (by have:=hbk.out;omega)).mono ?_
      rintro e w4 ⟨ed,ok3,rfl,hx4⟩
      have hacc4:=zgD.ext (hx4.alloc (.cells #[.int .i64 ed.fr,.int .i64 ed.le,.int .i64 ed.ta] 92))
      have bed:=Blk.new w4 92 #[.int .i64 ed.fr,.int .i64 ed.le,.int .i64 ed.ta]
      have hbz4:=hbz.ext (hx4.alloc (.cells #[.int .i64 ed.fr,.int .i64 ed.le,.int .i64 ed.ta] 92))
      clear hG
      cases ok3
      ·have hz4:=hbz4.cell
       have hzf:=hbz4.frozen
       go_wp2_with fail
       generalize w4.alloc (.cells #[.int .i64 ed.fr,.int .i64 ed.le,.int .i64 ed.ta] 92)=wq at *
       exact yJ02a4
      ·have hG4:=hacc4.blk.cell
       go_wp2_with (at_builtin;refine wpList_push2 w3 (w4.alloc (.cells #[.int .i64 ed.fr,.int .i64 ed.le,.int .i64 ed.ta] 92)) rfl _ _ _ rfl 92 _ 3 24 Tryz.underlying41 zaE rfl (by decide) v es.length (zo es) _ _ rfl (by first|rfl|simp [go_sem]) hacc4.fr.size hacc4.own rfl (by simp [Value.oneCell']) (by unfold maxLen;omega) (by omega) ?_;intro g cap w5 zgO hg5 hat5 hlt5;obtain⟨h1,h2,h3⟩:=hacc4.push (e:=ed) (W':=w5) zgO hg5 hat5;have h1':=h1.out)
       go_roundw
       case rel=>exact⟨k+1,_,_,by omega,by omega,by go_num,h3,by simp;omega⟩
       case measure=>simp [intOf];omega
     ·obtain rfl:m=k:=by omega
      obtain⟨A,n,c,rfl⟩:=zgD.form
      obtain⟨rfl,hsys⟩:=zgD.reads
      clear hbzc hbzf
      go_wp2_with fail
      refine (zdZ (s:=⟨a,st,es⟩) hsys (by omega)).mono ?_
      rintro e w4 ⟨tx,rfl,htx,hx4⟩
      have hacc4:=zgD.ext hx4
      have hbz4:=hbz.ext hx4
      have hz4:=hbz4.cell
      have hzf:=hbz4.frozen
      have hG4:=hacc4.blk.cell
      cases hne:tx.toList==x.toList
      ·go_wp2_with fail
       exact yJ02a4
      ·have hval:zv (⟨a,st,es⟩:Sys)=true:=by
        cases hv:zv (⟨a,st,es⟩:Sys)
        ·exfalso
         have h0:=htx hv
         have hxe:x.size=0:=str_empty (by simpa using hne) h0
         omega
        ·rfl
       have hgood:=valid_good hval
       have hcap:=zgh hacc4.own
       obtain⟨g1,g2,g3⟩:=hacc4.fin (Z:=w.heap.size) (Nat.le_refl _) (by omega) (.int .i64 a) (.int .i64 st) (.slice A es.length c)
       have Hfin:=za (show zfQ R M 1001 w (.returned (.tuple #[.agg #[.int .i64 a,.int .i64 st,.slice A es.length c],.bool true])) _ from ⟨⟨a,st,es⟩,A,es.length,c,true,rfl,g1,⟨fun _=>hgood,hgood.fair⟩,by omega,g2,g3⟩)
       clear g1 g2 g3 hgood hval
       go_wp2_with fail
       exact bodyPost_ret (v:=.tuple #[.agg #[.int .i64 a,.int .i64 st,.slice A es.length c],.bool true]) (by simp [results,Tryz.results34,go_sem,hz4]) rfl Hfin.out
def zfB:Value→ByteArray
 |.string s=>s
 |_=>⟨#[]⟩
def RetTexts (L:Nat) (w:World) (e:Ending) (w':World):Prop:=∃ (A:Option Addr) (n c:Nat) (l:List ByteArray),e=.returned (.slice A n c)∧0<n∧w'.ownsRow w.heap.size 9 1 (.slice A n c) n (zL l)∧(∀ x∈l,x.size≤L)∧Ext w w'
theorem zaC (w:World) {us:Array Value} {n:Nat}(hu:zL (us.toList.map zfB)=us.toList)(hn:us.size=n)(h:n≤1000):(w.alloc (.cells us 9)).ownsRow w.heap.size 9 1 (.slice (some ⟨w.heap.size,0,none⟩) n n) n (zL (us.toList.map zfB)):=by
 rw [hu]
 exact World.ownsRow_lit w us n (Nat.le_refl _) (by unfold maxLen;omega) (by simpa using hn)
theorem spec_l2Texts {w:World}:Calls Tryz.prog 82 #[] w (RetTexts 100 w):=by
 go_enter Tryz.func82,Tryz.ntmps82
 go_wp2
 go_ret
 exact⟨_,_,_,_,rfl,by decide,zaC w rfl rfl (by omega),by decide +kernel,(Ext.refl _).alloc _⟩
theorem reads_ints {w w':World} {us:Array Value} {n:Nat} {e:TypeId} (l:List Int)(hu:us.toList=ints l)(hn:us.size=n)(hx:Ext (w.alloc (.cells us e)) w')(h63:n≤1000):Reads w' w.heap.size (w.heap.size+1) 1 (some ⟨w.heap.size,0,none⟩) n (ints l):=
 ⟨by rw [← hu];simpa using hn,by omega,fun _=>⟨_,rfl,Nat.le_refl _,by simp,fun j u hj=>by
  have:=(zbK hx).cell j
  rw [zP,Nat.zero_add,this]
  rw [← hu] at hj
  simpa using hj⟩⟩
theorem zao {R M:Nat} {w:World} (l:List Int) (n:Nat) (us:Array Value)(hu:us.toList=ints l)(hn:us.size=n)(h0:0<n)(h63:n≤1000)(h:Rd w R M)(hM:M≤1000000000) :
  Calls Tryz.prog 25 #[.pointer (some ⟨R,0,none⟩),.slice (some ⟨w.heap.size,0,none⟩) n n] (w.alloc (.cells us 3)) (RetNum R M l (w.alloc (.cells us 3))):=
 l19Rd_num (h.ext ((Ext.refl _).alloc _)) hM (reads_ints l hu hn (Ext.refl _) h63) h.lt h0
theorem zeH {R M L n c Z:Nat} {A:Option Addr} {s:Sys} {w W:World} {cs:Array Value}(hs:zaT W R A n s)(hg:Good s)(hn:n≤L∧n≤c)(hr:Rd W R M)(hd:Dr R w W)(hB:Blk W Z 43 cs)(hR:R<w.heap.size)(hZ:w.heap.size≤Z) :
  RetG R M L w (.returned (.agg #[.int .i64 s.al,.int .i64 s.st,.slice A n c])) (((W.setCell ⟨Z,0,none⟩ (.int .i64 s.al)).setCell ⟨Z,1,none⟩ (.int .i64 s.st)).setCell ⟨Z,2,none⟩ (.slice A n c)):=by
 have hf:=zcM W Z (.int .i64 s.al) (.int .i64 s.st) (.slice A n c)
 exact⟨s,A,n,c,rfl,hs.far hB (by decide) hf,hg,hn,hr.frm hf (fun k h1 h2=>by omega),((hd.setNew (p:=⟨Z,0,none⟩) hZ _).setNew (p:=⟨Z,1,none⟩) hZ _).setNew (p:=⟨Z,2,none⟩) hZ _⟩
theorem yJ02a1 {P:Prop}(h:P:=by
 go_wp2_with fail
 refine (zao [3,2,4,1,5] 5 #[.int .i64 3,.int .i64 2,.int .i64 4,.int .i64 1,.int .i64 5] rfl rfl (by omega) (by omega) hr6 (by omega)).mono ?_
 rintro e w7 ⟨st,hst,rfl,hr7,hd7⟩
 have hw7:=(hw6.ext ((Ext.refl _).alloc _)).trans hd7
 have bz7:=(bz6.ext ((Ext.refl _).alloc _)).dr hd7 (by omega)
 go_wp2_with fail
 refine (zao [3,2,4,6] 4 #[.int .i64 3,.int .i64 2,.int .i64 4,.int .i64 6] rfl rfl (by omega) (by omega) hr7 (by omega)).mono ?_
 rintro e w8 ⟨fw,_,rfl,hr8,hd8⟩
 have hw8:=(hw7.ext ((Ext.refl _).alloc _)).trans hd8
 have bz8:=(bz7.ext ((Ext.refl _).alloc _)).dr hd8 (by omega)
 obtain⟨a,rfl,ha⟩:∃ a:Nat,al=a∧a<64:=⟨al.toNat,by simp at hal;omega,by simp at hal;omega⟩
 obtain⟨p,rfl,hp1,hp⟩:∃ p:Nat,st=p∧1≤p∧p≤16:=⟨st.toNat,by simp at hst;omega,by simp at hst;omega,by simp at hst;omega⟩
 clear hal hst
 go_wp2_with fail
 refine (zcn hr8 (by omega) ha hp1 hp).mono ?_
 rintro e w9 ⟨s9,A9,n9,c9,rfl,hs9,hg9,hn9,hr9,hd9⟩
 have bz9:=bz8.dr hd9 (by omega)
 have hfin9:=za (zeH (R:=R) (M:=M+30000) (L:=20000) (c:=c9) hs9 hg9 hn9 (hr9.more (by omega)) (hw8.trans hd9) bz9 hRl (Nat.le_refl _))
 have cz9:=bz9.cell
 have fz9:=bz9.frozen
 go_wp2_with fail
 exact bodyPost_ret (v:=.agg #[.int .i64 s9.al,.int .i64 s9.st,.slice A9 n9 c9]) (by simp [results,Tryz.results55,go_sem,cz9]) rfl hfin9.out
 ):P:=h
theorem zfd {R M:Nat} {w:World}(h:Rd w R M)(hM:M≤800000000) :
  Calls Tryz.prog 55 #[.pointer (some ⟨R,0,none⟩)] w (RetG R (M+30000) 20000 w):=by
 have hRl:=h.lt
 have hx0:=(Ext.refl w).alloc (.cells #[.int .i64 0,.int .i64 0,.slice none 0 0] 43)
 have bz:=Blk.new w 43 #[.int .i64 0,.int .i64 0,.slice none 0 0]
 go_enter Tryz.func55,Tryz.ntmps55
 go_wp2_with fail
 refine (zr (h.ext hx0) (by omega)).mono ?_
 rintro e w1 ⟨y,rfl,_,_,hr1,hd1⟩
 have hw1:=hx0.dr.trans hd1
 have bz1:=bz.dr hd1 (by omega)
 have hz1:=bz1.lt
 clear bz
 by_cases hy:y=0
 ·subst hy
  go_wp2_with fail
  refine (spec_l2Texts).mono ?_
  rintro e w2 ⟨A,n,c,l,rfl,hn,zgC,hl,hx2⟩
  go_wp2_with fail
  refine (zge (hr1.ext hx2) (by omega) (Reads.of_own zgC) (by omega) hn).mono ?_
  rintro e w3 ⟨x,hx,rfl,hr3,hd3⟩
  have hxs:=hl x hx
  go_wp2_with fail
  refine (zbx hr3 (by omega)).mono ?_
  rintro e w4 ⟨s,B,m,d,ok,rfl,hs,⟨hg,-⟩,hm,hr4,hd4⟩
  have hw4:Dr R w w4:=((hw1.ext hx2).trans hd3).trans hd4
  have bz4:=((bz1.ext hx2).dr hd3 (by omega)).dr hd4 (by omega)
  have hx5:=(Ext.refl w4).alloc (.cells #[.int .i64 s.al,.int .i64 s.st,.slice B m d] 43)
  have b5:=Blk.new w4 43 #[.int .i64 s.al,.int .i64 s.st,.slice B m d]
  cases ok
  ·have hr5:=hr4.ext hx5
   have hw5:=hw4.ext hx5
   have bz5:=bz4.ext hx5
   clear b5 hx5 hs hg
   go_wp2_with fail
   have C6:=(zao [3,6,7,5,1,0,12] 7 #[.int .i64 3,.int .i64 6,.int .i64 7,.int .i64 5,.int .i64 1,.int .i64 0,.int .i64 12] rfl rfl (by omega) (by omega) hr5 (by omega))
   simp only [World.size_alloc] at C6
   refine C6.mono ?_
   rintro e w6 ⟨al,hal,rfl,hr6,hd6⟩
   have hw6:=(hw5.ext ((Ext.refl _).alloc _)).trans hd6
   have bz6:=(bz5.ext ((Ext.refl _).alloc _)).dr hd6 (by omega)
   exact yJ02a1
  ·have hgood:=hg rfl
   have c5:=b5.cell
   have b45:=bz4.ext hx5
   have c45:=b45.cell
   have f45:=b45.frozen
   go_wp2_with fail
   generalize w4.alloc (.cells #[.int .i64 s.al,.int .i64 s.st,.slice B m d] 43)=w5 at *
   have zgF:=zeH (R:=R) (M:=M+30000) (L:=20000) (c:=d) (hs.ext hx5) hgood (by omega) ((hr4.more (by omega)).ext hx5) (hw4.ext hx5) b45 hRl (Nat.le_refl _)
   exact bodyPost_ret (v:=.agg #[.int .i64 s.al,.int .i64 s.st,.slice B m d]) (by simp [results,Tryz.results55,go_sem,c45]) rfl zgF
 ·have hy':((y:Int)==0)=false:=(by rw [beq_eq_false_iff_ne];omega)
  go_wp2_with fail
  refine (zao [3,6,7,5,1,0,12] 7 #[.int .i64 3,.int .i64 6,.int .i64 7,.int .i64 5,.int .i64 1,.int .i64 0,.int .i64 12] rfl rfl (by omega) (by omega) hr1 (by omega)).mono ?_
  rintro e w6 ⟨al,hal,rfl,hr6,hd6⟩
  have hw6:=(hw1.ext ((Ext.refl _).alloc _)).trans hd6
  have bz6:=(bz1.ext ((Ext.refl _).alloc _)).dr hd6 (by omega)
  exact yJ02a1
def zer (b:Aut):Prop:=∃ a p:Nat,a<64∧1≤p∧p≤16∧shA a p (letters a 6).length b
theorem zes.mono {R M N:Nat} {sh sh':Aut→Prop} {w w0 w':World} {e:Ending}(h:zes R M sh w e w')(hd:Dr R w0 w)(hM:M≤N)(hs:∀ b,sh b→sh' b):zes R N sh' w0 e w':=by
 obtain⟨b,A,n,c,A',n',c',he,ho,hsh,hr,hd'⟩:=h
 exact⟨b,A,n,c,A',n',c',he,ho.less hd.size,za (hs b hsh.out),hr.more hM,hd.trans hd'⟩
theorem zfR {R M N Z n c n' c':Nat} {A A':Option Addr} {b:Aut} {sh:Aut→Prop} {w w0 W:World} {cs:Array Value} {t:TypeId}(hx:Ext w w0)(ho:zO W w0.heap.size A n c A' n' c' b)(hsh:sh b)(hr:Rd W R M)(hd:Dr R w0 W) (bz:Blk w0 Z t cs)(hc:cs.size=3)(hR:R<w.heap.size)(hZ:w.heap.size≤Z)(hM:M≤N) :
  Hid (zes R N sh w (.returned (.agg #[.int .i64 b.al,.slice A n c,.slice A' n' c'])) (((W.setCell ⟨Z,0,none⟩ (.int .i64 b.al)).setCell ⟨Z,1,none⟩ (.slice A n c)).setCell ⟨Z,2,none⟩ (.slice A' n' c'))) ∧
  Blk (((W.setCell ⟨Z,0,none⟩ (.int .i64 b.al)).setCell ⟨Z,1,none⟩ (.slice A n c)).setCell ⟨Z,2,none⟩ (.slice A' n' c')) Z t #[.int .i64 b.al,.slice A n c,.slice A' n' c']:=by
 have hz:=bz.lt
 have hf:=zY W Z (.int .i64 b.al) (.slice A n c) (.slice A' n' c')
 refine⟨za ⟨b,A,n,c,A',n',c',rfl,(ho.keep hf (fun b h1 e=>by omega)).less hx.size,za hsh,(hr.more hM).frm hf (fun k hk e=>by omega),?_⟩,zai (bz.dr hd (by omega)) hc _ _ _⟩
 exact (((hx.dr.trans hd).setNew (p:=⟨Z,0,none⟩) hZ _).setNew (p:=⟨Z,1,none⟩) hZ _).setNew (p:=⟨Z,2,none⟩) hZ _
theorem spec_l1Some {R M:Nat} {w:World}(h:Rd w R M)(hM:M≤900000000) :
  Calls Tryz.prog 83 #[.pointer (some ⟨R,0,none⟩)] w (fun e w'=>∃ x:Nat,x<64∧e=.returned (.int .i64 x)∧Rd w' R (M+1)∧Dr R w w'):=by
 go_enter Tryz.func83,Tryz.ntmps83
 go_wp2_with fail
 refine (zao [3,7,1,5,0,6,63,2,21] 9 #[.int .i64 3,.int .i64 7,.int .i64 1,.int .i64 5,.int .i64 0,.int .i64 6,.int .i64 63,.int .i64 2,.int .i64 21] rfl rfl (by omega) (by omega) h (by omega)).mono ?_
 rintro e w1 ⟨x,hx,rfl,hr1,hd1⟩
 obtain⟨y,hy,rfl⟩:∃ y:Nat,y<64∧x=(y:Int):=⟨x.toNat,by simp at hx;omega,by simp at hx;omega⟩
 clear hx
 go_wp2_with fail
 go_ret
 exact⟨y,hy,rfl,hr1,((Dr.refl R w).alloc _).trans hd1⟩
theorem yJ02a3 {P:Prop}(h:P:=by
 intro e w4 hret
 obtain⟨b,A,n,c,A',n',c',rfl,zgC,hsh,hr4,hd4⟩:=hret.mono (N:=M+500) (sh':=zer) hd13 (by omega) (fun b hb=>⟨a,p,ha,hp1,by omega,hb⟩)
 obtain⟨f1,f2⟩:=zfR (N:=M+500) (sh:=zer) hxz zgC hsh.out hr4 hd4 bz rfl hRl (Nat.le_refl _) (Nat.le_refl _)
 have bz5:=bz.dr hd4 (by omega)
 have cZ:=bz5.cell
 have fZ:=bz5.frozen
 go_wp2_with fail
 have cf:=f2.cell
 exact bodyPost_ret (v:=.agg #[.int .i64 b.al,.slice A n c,.slice A' n' c']) (by simp [results,Tryz.results39,go_sem,cf]) rfl f1.out
 ):P:=h
theorem zfe {R M a:Nat} {w:World}(h:Rd w R M)(hM:M≤800000000)(ha:a<64) :
  Calls Tryz.prog 39 #[.pointer (some ⟨R,0,none⟩),.int .i64 a] w (zes R (M+500) zer w):=by
 have hRl:=h.lt
 go_enter Tryz.func39,Tryz.ntmps39
 have hxz:=(Ext.refl w).alloc (.cells #[.int .i64 0,.slice none 0 0,.slice none 0 0] 26)
 have bz:=Blk.new w 26 #[.int .i64 0,.slice none 0 0,.slice none 0 0]
 go_wp2_with fail
 generalize w.alloc (.cells #[.int .i64 0,.slice none 0 0,.slice none 0 0] 26)=w1 at *
 refine (zr (h.ext hxz) (by omega)).mono ?_
 rintro e w2 ⟨y,rfl,-,-,hr2,hd2⟩
 by_cases hy:y=0
 ·subst hy
  go_wp2_with fail
  refine (zao [3,2,4,1] 4 #[.int .i64 3,.int .i64 2,.int .i64 4,.int .i64 1] rfl rfl (by omega) (by omega) hr2 (by omega)).mono ?_
  rintro e w3 ⟨x,hx,rfl,hr3,hd3⟩
  obtain⟨p,hp1,hp2,rfl⟩:∃ y:Nat,1≤y∧y≤4∧x=(y:Int):=⟨x.toNat,by simp at hx;omega,by simp at hx;omega,by simp at hx;omega⟩
  clear hx
  have hd13:=(hd2.alloc _).trans hd3
  go_wp2_with fail
  refine (zff hr3 (by omega) ha hp1 (by omega)).mono ?_
  exact yJ02a3
 ·have hy':((y:Int)==0)=false:=by simp;omega
  go_wp2_with fail
  refine (zao [2,3,1,4,5] 5 #[.int .i64 2,.int .i64 3,.int .i64 1,.int .i64 4,.int .i64 5] rfl rfl (by omega) (by omega) hr2 (by omega)).mono ?_
  rintro e w3 ⟨x,hx,rfl,hr3,hd3⟩
  obtain⟨p,hp1,hp2,rfl⟩:∃ y:Nat,1≤y∧y≤5∧x=(y:Int):=⟨x.toNat,by simp at hx;omega,by simp at hx;omega,by simp at hx;omega⟩
  clear hx
  have hd13:=(hd2.alloc _).trans hd3
  go_wp2_with fail
  refine (zdM hr3 (by omega) ha (by omega)).mono ?_
  exact yJ02a3
section
variable {w0 W W':World} {R G M N:Nat} {al:Int} {v vA:Value} {rows:List Value} {ls:List (List Int)} {acc:List Bool}
theorem zaQ.setAl (h:zaQ w0 W R G M al v rows ls vA acc) (x:Int):zaQ w0 (W.setCell ⟨G,0,none⟩ (.int .i64 x)) R G M x v rows ls vA acc:=by
 have hRG:=h.hR;have hGG:=h.hG
 have hf:=Frm.setCell W G 0 (.int .i64 x)
 refine⟨by simpa using h.blk.set_ 0 _,zd h.nx hf (fun b hb hS=>zm h.nx h.blk (by decide) hb hS),h.rows.frm hf (fun i r b hr hb hS=>?_),zd h.acc hf (fun b hb hS=>zm h.acc h.blk (by decide) hb hS),h.rd.frm hf (fun k hk e=>by omega),h.dr.setNew (p:=⟨G,0,none⟩) hGG _,hRG,hGG⟩
 obtain⟨l',_,ho⟩:=h.rows.row hr
 exact zm ho h.blk (by decide) hb hS
theorem zaQ.setNext (h:zaQ w0 W R G M al v rows ls vA acc) {v':Value}(ho:W.ownsRow w0.heap.size 53 1 v' 0 []):zaQ w0 (W.setCell ⟨G,1,none⟩ v') R G M al v' [] [] vA acc:=by
 have hRG:=h.hR;have hGG:=h.hG
 have hf:=Frm.setCell W G 1 v'
 exact⟨by simpa using h.blk.set_ 1 _,zd ho hf (fun b hb hS=>zm ho h.blk (by decide) hb hS),zB.nil _ _,zd h.acc hf (fun b hb hS=>zm h.acc h.blk (by decide) hb hS),h.rd.frm hf (fun k hk e=>by omega),h.dr.setNew (p:=⟨G,1,none⟩) hGG _,hRG,hGG⟩
theorem zaQ.setMarks (h:zaQ w0 W R G M al v rows ls vA acc) {v':Value}(ho:W.ownsRow w0.heap.size 4 1 v' 0 []):zaQ w0 (W.setCell ⟨G,2,none⟩ v') R G M al v rows ls v' []:=by
 have hRG:=h.hR;have hGG:=h.hG
 have hf:=Frm.setCell W G 2 v'
 refine⟨by simpa using h.blk.set_ 2 _,zd h.nx hf (fun b hb hS=>zm h.nx h.blk (by decide) hb hS),h.rows.frm hf (fun i r b hr hb hS=>?_),zd ho hf (fun b hb hS=>zm ho h.blk (by decide) hb hS),h.rd.frm hf (fun k hk e=>by omega),h.dr.setNew (p:=⟨G,2,none⟩) hGG _,hRG,hGG⟩
 obtain⟨l',_,ho⟩:=h.rows.row hr
 exact zm ho h.blk (by decide) hb hS
theorem zaQ.growRow {i:Nat} {row:Value} {l:List Int} {x:Int} {g cap gN cN nN:Nat}(h:zaQ w0 W R G M al (.slice (some ⟨gN,0,none⟩) nN cN) rows ls vA acc)(hn:nN=ls.length)(hr:rows[i]?=some row)(hl:ls[i]?=some l)
  (zgC:W'.ownsRow w0.heap.size 3 1 (.slice (some ⟨g,0,none⟩) (l.length+1) cap) (l.length+1) (ints l++[.int .i64 x])) (hg:W.grownBy W' row.ownBlock) (hat:row.ownBlock=some g∨g=W.heap.size+1) :
  (∀ u,W.cell? ⟨G,u,none⟩=W'.cell? ⟨G,u,none⟩)∧Hid (W'.cell? ⟨gN,i,none⟩=some row)∧W'.frozen? ⟨gN,i,none⟩=false ∧
  zaQ w0 (W'.setCell ⟨gN,i,none⟩ (.slice (some ⟨g,0,none⟩) (l.length+1) cap)) R G M al (.slice (some ⟨gN,0,none⟩) nN cN) (rows.set i (.slice (some ⟨g,0,none⟩) (l.length+1) cap)) (ls.set i (l++[x])) vA acc:=by
 subst hn
 have hRG:=h.hR;have hGG:=h.hG
 have hi:i<ls.length:=(List.getElem?_eq_some_iff.1 hl).1
 have ho:=h.rows.2.1 i _ l hr hl
 have hfr:Frm (fun k=>row.ownBlock=some k) W W':=Frm.of_grown hg
 obtain⟨hdr,hrd⟩:=h.grown ho hg
 have hB:Blk W' G 26 #[.int .i64 al,.slice (some ⟨gN,0,none⟩) ls.length cN,vA]:=h.blk.frm hfr (fun e=>zm ho h.blk (by decide) e rfl)
 have hnx:W'.ownsRow w0.heap.size 53 1 (.slice (some ⟨gN,0,none⟩) ls.length cN) ls.length rows:=zd h.nx hfr (fun b hb hS=>zaK h.nx ho (by decide) hb hS)
 have zgD:W'.ownsRow w0.heap.size 4 1 vA acc.length (zax acc):=zd h.acc hfr (fun b hb hS=>zaK h.acc ho (by decide) hb hS)
 have hgN:=(hnx.lt gN rfl).1
 have hlen:=h.rows.1
 have fresh:∀ (j:Nat) (r:Value) (b:Nat),j≠i→rows[j]?=some r→r.ownBlock=some b→b≠g:=fun j r b hji hj hb e=>by
  subst e
  rcases hat with h1|h1
  ·exact h.rows.2.2 j i r row b hj hr hji hb h1
  ·have:=h.low j r b hj hb
   omega
 have hrows:zB W' w0.heap.size (rows.set i (.slice (some ⟨g,0,none⟩) (l.length+1) cap)) (ls.set i (l++[x])):=by
  refine⟨by simp [hlen],fun j r m hj hm=>?_,fun j j' r r' b hj hj' hne hb=>?_⟩
  ·by_cases hji:i=j
   ·subst hji
    rw [List.getElem?_set_self (by omega)] at hj
    rw [List.getElem?_set_self hi] at hm
    obtain rfl:=Option.some.inj hj
    obtain rfl:=Option.some.inj hm
    simpa [ints] using zgC
   ·rw [List.getElem?_set_ne hji] at hj hm
    exact zd (h.rows.2.1 j r m hj hm) hfr (fun b hb hS=>h.rows.2.2 j i r row b hj hr (fun e=>hji e.symm) hb hS)
  ·by_cases hji:i=j
   ·subst hji
    rw [List.getElem?_set_self (by omega)] at hj
    obtain rfl:=Option.some.inj hj
    rw [List.getElem?_set_ne hne] at hj'
    have hbg:g=b:=by simpa [Value.ownBlock] using hb
    subst hbg
    exact fun hc=>fresh j' r' _ (fun e=>hne e.symm) hj' hc rfl
   ·rw [List.getElem?_set_ne hji] at hj
    by_cases hji':i=j'
    ·subst hji'
     rw [List.getElem?_set_self (by omega)] at hj'
     obtain rfl:=Option.some.inj hj'
     intro hc
     have hbg:g=b:=by simpa [Value.ownBlock] using hc
     exact fresh j r b (fun e=>hji e.symm) hj hb hbg.symm
    ·rw [List.getElem?_set_ne hji'] at hj'
     exact h.rows.2.2 j j' r r' b hj hj' hne hb
 have hset:=Frm.setCell W' gN i (.slice (some ⟨g,0,none⟩) (l.length+1) cap)
 refine⟨fun u=>by rw [h.blk.cell,hB.cell],za (by rw [hnx.cellAt i (by omega),hr]),hnx.frozenAt i,⟨hB.frm hset (fun e=>zm hnx hB (by decide) rfl e.symm),?_,?_,zd zgD hset (fun b hb hS=>?_),hrd.frm hset (fun k hk e=>by omega),hdr.setNew (p:=⟨gN,i,none⟩) hgN _,hRG,hGG⟩⟩
 ·rw [List.length_set]
  exact (hnx.stored i _).1
 ·refine hrows.frm hset (fun j r b hj hb hS=>?_)
  obtain⟨l',_,ho'⟩:=hrows.row hj
  subst hS
  exact zaK ho' hnx (by decide) hb rfl
 ·subst hS
  exact zaK zgD hnx (by decide) hb rfl
end
def BdL (L:Nat) (ls:List (List Int)) (acc:List Bool):Prop:=ls.length≤L∧acc.length≤L∧∀ l∈ls,l.length≤L
theorem BdL.more {L K:Nat} {ls:List (List Int)} {acc:List Bool}(h:BdL L ls acc)(hK:L≤K):BdL K ls acc:=⟨Nat.le_trans h.1 hK,Nat.le_trans h.2.1 hK,fun l hl=>Nat.le_trans (h.2.2 l hl) hK⟩
def BdA (L:Nat) (b:Aut):Prop:=BdL L b.next b.acc
theorem BdA.of {b:Aut}(h:zer b):BdA 16 b:=by
 obtain⟨a,p,ha,hp1,hp,h1,h2,h3,h4⟩:=h
 exact⟨by omega,by omega,fun l hl=>by have:=h4 l hl;have:=zy a 6;omega⟩
theorem tot_le {L:Nat}:∀ ls:List (List Int),(∀ l∈ls,l.length≤L)→tot ls≤ls.length*L
 |[],_=>by simp [tot]
 |l :: r,h=>by
  have:=tot_le r (fun x hx=>h x (by simp [hx]))
  have:=h l (by simp)
  rw [tot_cons,List.length_cons,Nat.add_mul]
  omega
theorem BdA.size {L:Nat} {b:Aut}(h:BdA L b)(hL:L≤200):b.size≤1048576:=by
 have h1:=tot_le b.next h.2.2
 have h2:b.next.length*L≤200*200:=Nat.mul_le_mul (Nat.le_trans h.1 hL) hL
 have h3:=h.1;have h4:=h.2.1
 unfold Aut.size
 omega
theorem yJ02a2 {P:Prop}(h:P:=by
 intro vA w4 hownA hgA hatA
 rw [Nat.zero_add,List.nil_append] at hownA
 obtain⟨BA,dA,rfl⟩:=ze hownA
 have hxA:Ext w2 w4:=hx0.grown hgA (fun k hk=>(hm.lt k hk).1)
 have hb:Blk w4 G 26 #[.int .i64 0,.slice none 0 0,.slice none 0 0]:=(hgA.block G hb.lt (fun e=>zm hm hb (by decide) e.symm rfl)).trans hb
 replace hx0:=hxA
 refine hK.out _ _ hx0 ?_
 refine pT ?_
 refine uQ ?_
 have cG:=hb.cell
 have fG:=hb.frozen
 refine zg fun K hK=>?_
 go_simp
 refine hK.out _ _ ?_
 refine zh ?_
 have zgF:Gra w2 (((w4.setCell ⟨G,0,none⟩ (.int .i64 a.al)).setCell ⟨G,1,none⟩ (.slice none 0 0)).setCell ⟨G,2,none⟩ (.slice BA n' dA)) G a.al (.slice none 0 0) [] (.slice BA n' dA) a.acc:=⟨zai hb rfl _ _ _,⟨[],World.ownsRow_nil _ _ _ _,zB.nil _ _⟩,by
  rw [← hL'.out]
  exact zd hownA (zY w4 G _ _ _) (fun b hv hS=>zm hownA hb (by decide) hv hS),hx0.frm (zY w4 G _ _ _) (fun k hk e=>by omega),hG⟩
 go_wp2_with fail
 go_meet
 exact⟨G,_,rfl,zgF⟩
 ):P:=h
theorem zab {lo hi:Nat} {A:Option Addr} {n c:Nat} {A':Option Addr} {n' c':Nat} {a:Aut} {w:World}(h:zI w lo hi A n A' n' a)(hs:a.size≤1048576) :
  Calls Tryz.prog 29 #[.agg #[.int .i64 a.al,.slice A n c,.slice A' n' c']] w (RetAut w a):=by
 have h1:n≤1048576:=by have:=h.n1;unfold Aut.size at hs;omega
 have h2:n'≤1048576:=by have:=h.n2;unfold Aut.size at hs;omega
 have hrow:∀ (k:Nat) (l:List Int),a.next[k]?=some l→l.length≤1048576:=fun k l hl=>by
  have h1:=zdP hl
  have h2:=zfk a.next (k+1)
  unfold Aut.size at hs
  omega
 have Hrow:=za hrow
 have hL:=za h.n1
 have hL':=za h.n2
 have HS:=za (fun W (hW:Ext w W)=>h.1.ext hW)
 have HA:=za (fun W (hW:Ext w W)=>h.2.2.ext hW)
 have hlen:=h.1.len
 clear hrow h hs
 go_enter Tryz.func29,Tryz.ntmps29
 obtain⟨b1,bz⟩:=zM (Ext.refl ((w.alloc (.cells #[.int .i64 a.al,.slice A n c,.slice A' n' c'] 26)).alloc (.cells #[.int .i64 0,.slice none 0 0,.slice none 0 0] 26)))
 have hw2:Ext w ((w.alloc (.cells #[.int .i64 a.al,.slice A n c,.slice A' n' c'] 26)).alloc (.cells #[.int .i64 0,.slice none 0 0,.slice none 0 0] 26)):=((Ext.refl w).alloc _).alloc _
 have hsz2:w.heap.size+2=((w.alloc (.cells #[.int .i64 a.al,.slice A n c,.slice A' n' c'] 26)).alloc (.cells #[.int .i64 0,.slice none 0 0,.slice none 0 0] 26)).heap.size:=by simp
 go_upto_region 1 with fail
 generalize (w.alloc (.cells #[.int .i64 a.al,.slice A n c,.slice A' n' c'] 26)).alloc (.cells #[.int .i64 0,.slice none 0 0,.slice none 0 0] 26)=w2 at *
 go_cut [3] (fun v wx=>∃ (G:Nat) (vA:Value),v=.pointer (some ⟨G,0,none⟩)∧Gra w2 wx G a.al (.slice none 0 0) [] vA a.acc)
 case first =>
  have c1:=fun W (hW:Ext w2 W)=>(b1.ext hW).cell
  have hww:=Ext.refl w2
  refine uR (fun X=>Ext w2 X) [8] (zG.app [0,1,3,4] (zG.two 2 (zG.two 5 (zG.of [6,7,8]) 7 (zG.of [5,6,8])) 7 (zG.of [2,5,6,8]))) ?_
  refine uQ ?_
  have hx0:Ext w2 w2.drew:=hww.drew
  generalize w2.drew=wd at *
  refine zA (fun K hK=>?_) (fun K hK=>?_)
  ·go_simp
   have hm:=World.ownsRow_made (base:=w2.heap.size) (e:=4) (size:=1) wd #[] 0 hx0.size (Nat.zero_le _) rfl
   have hx1:=(Ext.refl wd).alloc (.cells #[] 4)
   replace hx0:=hx0.trans hx1
   refine hK.out _ _ hx0 ?_
   generalize wd.alloc (.cells #[] 4)=wm at *
   generalize wd.heap.size=M at *
   refine pT ?_
   refine uQ ?_
   clear hK
   refine zA (fun K hK=>?_) (fun K hK=>?_)
   ·skip
    refine zq wm _ _ 24 rfl w2.heap.size 4 _ 1 1 Tryz.underlying24 zaL rfl (by decide) (.slice (some ⟨M,0,none⟩) 0 0) 0 [] rfl hm _ _ A' n' c' (zax a.acc) rfl (HA.out _ (hw2.trans hx0)) (zdD _) (by unfold maxLen;omega) (by omega) hx0.size ?_
    intro vA w4 hownA hgA hatA
    rw [Nat.zero_add,List.nil_append] at hownA
    obtain⟨BA,dA,rfl⟩:=ze hownA
    have hxA:Ext w2 w4:=hx0.grown hgA (fun k hk=>(hm.lt k hk).1)
    replace hx0:=hxA
    refine hK.out _ _ hx0 ?_
    refine pT ?_
    refine uQ ?_
    refine zb fun K hK=>?_;go_simp
    have hx1:=(Ext.refl w4).alloc (.cells #[.int .i64 0,.slice none 0 0,.slice none 0 0] 26)
    have hb:=Blk.new w4 26 #[.int .i64 0,.slice none 0 0,.slice none 0 0]
    have hG:=hx0.size
    replace hownA:=zf hownA hx1
    replace hx0:=hx0.trans hx1
    refine hK.out _ _ hx0 ?_
    generalize w4.alloc (.cells #[.int .i64 0,.slice none 0 0,.slice none 0 0] 26)=wg at *
    generalize w4.heap.size=G at *
    refine pT ?_
    refine uQ ?_
    have cG:=hb.cell
    have fG:=hb.frozen
    refine zg fun K hK=>?_
    go_simp
    refine hK.out _ _ ?_
    refine zh ?_
    have zgF:Gra w2 (((wg.setCell ⟨G,0,none⟩ (.int .i64 a.al)).setCell ⟨G,1,none⟩ (.slice none 0 0)).setCell ⟨G,2,none⟩ (.slice BA n' dA)) G a.al (.slice none 0 0) [] (.slice BA n' dA) a.acc:=⟨zai hb rfl _ _ _,⟨[],World.ownsRow_nil _ _ _ _,zB.nil _ _⟩,by
     rw [← hL'.out]
     exact zd hownA (zY wg G _ _ _) (fun b hv hS=>zm hownA hb (by decide) hv hS),hx0.frm (zY wg G _ _ _) (fun k hk e=>by omega),hG⟩
    go_wp2_with fail
    go_meet
    exact⟨G,_,rfl,zgF⟩
   ·go_simp
    have hx1:=(Ext.refl wm).alloc (.cells #[.int .i64 0,.slice none 0 0,.slice none 0 0] 26)
    have hb:=Blk.new wm 26 #[.int .i64 0,.slice none 0 0,.slice none 0 0]
    have hG:=hx0.size
    replace hm:=zf hm hx1
    replace hx0:=hx0.trans hx1
    refine hK.out _ _ hx0 ?_
    generalize wm.alloc (.cells #[.int .i64 0,.slice none 0 0,.slice none 0 0] 26)=wg at *
    generalize wm.heap.size=G at *
    refine pT ?_
    refine uQ ?_
    refine zb (fun K hK=>?_)
    refine zq wg _ _ 24 rfl w2.heap.size 4 _ 1 1 Tryz.underlying24 zaL rfl (by decide) (.slice (some ⟨M,0,none⟩) 0 0) 0 [] rfl hm _ _ A' n' c' (zax a.acc) rfl (HA.out _ (hw2.trans hx0)) (zdD _) (by unfold maxLen;omega) (by omega) hx0.size ?_
    exact yJ02a2
  ·go_simp
   have hx1:=(Ext.refl wd).alloc (.cells #[.int .i64 0,.slice none 0 0,.slice none 0 0] 26)
   have hb:=Blk.new wd 26 #[.int .i64 0,.slice none 0 0,.slice none 0 0]
   have hG:=hx0.size
   replace hx0:=hx0.trans hx1
   refine hK.out _ _ hx0 ?_
   generalize wd.alloc (.cells #[.int .i64 0,.slice none 0 0,.slice none 0 0] 26)=wg at *
   generalize wd.heap.size=G at *
   refine pT ?_
   refine uQ ?_
   refine zb fun K hK=>?_;go_simp
   have hm:=World.ownsRow_made (base:=w2.heap.size) (e:=4) (size:=1) wg #[] 0 hx0.size (Nat.zero_le _) rfl
   have hx1:=(Ext.refl wg).alloc (.cells #[] 4)
   replace hb:=hb.ext hx1
   replace hx0:=hx0.trans hx1
   refine hK.out _ _ hx0 ?_
   generalize wg.alloc (.cells #[] 4)=wm at *
   generalize wg.heap.size=M at *
   refine pT ?_
   refine uQ ?_
   refine zb (fun K hK=>?_)
   refine zq wm _ _ 24 rfl w2.heap.size 4 _ 1 1 Tryz.underlying24 zaL rfl (by decide) (.slice (some ⟨M,0,none⟩) 0 0) 0 [] rfl hm _ _ A' n' c' (zax a.acc) rfl (HA.out _ (hw2.trans hx0)) (zdD _) (by unfold maxLen;omega) (by omega) hx0.size ?_
   exact yJ02a2
 case rest =>
  obtain⟨G,vA,rfl,hgr⟩:=hcut
  have k1:=(b1.ext hgr.ext).cell
  go_wp2_with fail
  go_loopw [4] (fun i wr=>∃ (k:Nat) (v:Value),k≤n∧i=.int .i64 k∧Gra w2 wr G a.al v (a.next.take k) vA a.acc) (fun i _=>n - (intOf i).toNat)
  case atStart=>exact⟨0,_,Nat.zero_le _,rfl,by simpa using hgr⟩
  case round =>
   clear hgr k1
   obtain⟨k,v,hk,rfl,hgr⟩:=hrel
   by_cases hlt:k<n
   ·obtain⟨ad,Ak,ck,l,rfl,_,_,hl,hc0,hrk⟩:=(HS.out wr (hw2.trans hgr.ext)).row hlt
    have hll:=Hrow.out k l hl.out
    have Htk:=za (show a.next.take (k+1)=a.next.take k++[l] by rw [List.take_add_one,hl.out];rfl)
    have htl:=za (show (a.next.take k).length=k by rw [List.length_take];have:=hL.out;omega)
    obtain⟨rows,hv,hrows⟩:=hgr.own
    have k1:=(b1.ext hgr.ext).cell
    go_upto_region 5 with fail
    clear k1
    have cG:∀ W,Ext wr W→∀ q,W.cell? ⟨G,q,none⟩=#[Value.int .i64 a.al,v,vA][q]?:=fun W hW=>(hgr.blk.ext hW).cell
    have hww:=Ext.refl wr
    have Hrk:=za (fun W (hW:Ext wr W)=>hrk.ext hW)
    have C1:∀ W,Ext wr W→∀ q,W.cell? ⟨w.heap.size,q,none⟩=#[Value.int .i64 a.al,.slice (some ad) n c,.slice A' n' c'][q]?:=fun W hW=>((b1.ext hgr.ext).ext hW).cell
    have Cr:∀ W,Ext wr W→W.cell? (ad.add k)=some (.slice Ak l.length ck):=fun W hW=>hW.cell_some hc0
    have hkn:(k:Int)<(n:Int):=by omega
    clear hc0 hrk
    refine uR (fun X=>Ext wr X) [10,12] (zG.of [0,1,3,4,5,6,7,2,8,9,10,11,12]) ?_
    refine uQ ?_
    have hx0:Ext wr wr.drew:=hww.drew
    generalize wr.drew=wd at *
    refine zb fun K hK=>?_;go_simp
    have hm:=World.ownsRow_made (base:=wr.heap.size) (e:=3) (size:=1) wd #[] 0 hx0.size (Nat.zero_le _) rfl
    have hx1:=(Ext.refl wd).alloc (.cells #[] 3)
    replace hx0:=hx0.trans hx1
    refine hK.out _ _ hx0 ?_
    generalize wd.alloc (.cells #[] 3)=wm at *
    generalize wd.heap.size=M at *
    refine pT ?_
    refine uQ ?_
    refine zb (fun K hK=>?_)
    refine zq wm _ _ 53 rfl wr.heap.size 3 _ 1 8 Tryz.underlying53 zag rfl (by decide) (.slice (some ⟨M,0,none⟩) 0 0) 0 [] rfl hm _ _ Ak l.length ck (ints l) rfl (Hrk.out _ hx0) (zeD _) (by unfold maxLen;omega) (by omega) hx0.size ?_
    intro vR w3 hrow hgR hatR
    rw [Nat.zero_add,List.nil_append] at hrow
    obtain⟨BR,dR,rfl⟩:=ze hrow
    have hww3:Ext wr w3:=hx0.grown hgR (fun k hk=>(hm.lt k hk).1)
    refine hK.out _ _ hww3 ?_
    refine pT ?_
    refine uQ ?_
    refine zb fun K hK=>?_;go_simp
    refine hK.out _ _ (hww3.alloc _) ?_
    refine pT ?_
    refine zg fun K hK=>?_
    refine zaw w2 w3 _ _ _ rfl 53 _ 1 24 Tryz.underlying23 zbr rfl (by decide) v (a.next.take k).length rows _ _ rfl rfl (hgr.ext.trans hww3).size (zf hv hww3) rfl (zaA _ _ _) (by unfold maxLen;have:=htl.out;omega) (by have:=htl.out;omega) ?_
    intro g5 cap5 w5 zgO hg5 hat5 hlt5
    refine hK.out _ _ ?_
    refine pT ?_
    refine uQ ?_
    obtain⟨p1,p2,p3⟩:=hgr.push hrows hv hww3 hrow (W':=w5) zgO hg5 hat5
    have p1':=p1.out
    refine zg fun K hK=>?_
    go_simp
    refine hK.out _ _ ?_
    refine zh ?_
    go_wp2_with fail
    go_roundw
    case rel=>exact⟨k+1,_,by omega,by go_num,by rw [Htk.out];first|exact p3|simpa using p3⟩
    case measure=>simp [intOf];omega
   ·obtain rfl:n=k:=by omega
    obtain⟨A5,c5,rfl⟩:∃ A5 c5,v=.slice A5 n c5:=by
     obtain⟨rows,hv,_⟩:=hgr.own
     rw [List.take_of_length_le (by have:=hL.out;omega),← hL.out] at hv
     exact ze hv
    obtain⟨B5,d5,rfl⟩:=ze hgr.acc
    have k1:=(b1.ext hgr.ext).cell
    have cG:=hgr.blk.cell
    have hbz:=bz.ext hgr.ext
    have cZ:=hbz.cell
    have fZ:=hbz.frozen
    have hfl:=zY wr (w.heap.size+1) (.int .i64 a.al) (.slice A5 n c5) (.slice B5 a.acc.length d5)
    have hbf:=zai hbz rfl (.int .i64 a.al) (.slice A5 n c5) (.slice B5 a.acc.length d5)
    have hxf:=(hw2.trans hgr.ext).frm hfl (fun k hk e=>by omega)
    have zgF:=za (show RetAut w a (.returned (.agg #[.int .i64 a.al,.slice A5 n c5,.slice B5 a.acc.length d5])) (((wr.setCell ⟨w.heap.size+1,0,none⟩ (.int .i64 a.al)).setCell ⟨w.heap.size+1,1,none⟩ (.slice A5 n c5)).setCell ⟨w.heap.size+1,2,none⟩ (.slice B5 a.acc.length d5)) from by
     refine⟨A5,n,c5,B5,a.acc.length,d5,rfl,⟨?_,hL.out,?_,rfl⟩,hxf⟩
     ·have ho:=hgr.own
      rw [List.take_of_length_le (by have:=hL.out;omega)] at ho
      exact (ho.keep hfl (fun b h1 e=>by omega)).less (by omega)
     ·exact zi (zaP hgr.acc hfl (fun b h1 e=>by omega)) (by omega))
    go_wp2_with fail
    generalize ((wr.setCell ⟨w.heap.size+1,0,none⟩ (.int .i64 a.al)).setCell ⟨w.heap.size+1,1,none⟩ (.slice A5 n c5)).setCell ⟨w.heap.size+1,2,none⟩ (.slice B5 a.acc.length d5)=wf at *
    have cf:=hbf.cell
    exact bodyPost_ret (v:=.agg #[.int .i64 a.al,.slice A5 n c5,.slice B5 a.acc.length d5]) (by simp [results,Tryz.results29,go_sem,cf]) rfl zgF.out
theorem eq_edge (a b c d e f:Int) (w:World):(Op.equalIn 10000 92 (.agg #[.int .i64 a,.int .i64 b,.int .i64 c]) (.agg #[.int .i64 d,.int .i64 e,.int .i64 f])).run Tryz.prog w=.ok (a==d&&(b==e&&c==f)) w:=by
 have u3:=Tryz.underlying3
 have a3:=Tryz.isAgg3
 have z3:=Tryz.sizeOf3
 have hS:Tryz.prog.underlying 92=some (.struct (Tryz.prog.fieldsOf 92)):=by kernel_rfl
 have hp:Tryz.prog.stoodInHeld 92=false:=by kernel_rfl
 rw [show (10000:Nat)=9999+1 from rfl,run_equalIn_agg w 9999 92 _ _ hS hp]
 simp only [Program.fieldsOf,Tryz.underlying92]
 go_simp
 by_cases h1:a=d<;>by_cases h2:b=e<;>by_cases h3:c=f<;>simp [h1,h2,h3]
theorem zcb (es:List Edg):∀ u∈zo es,u.oneCell'=true:=by
 induction es with
 |nil=>intro u h;cases h
 |cons e r ih =>
  intro u h
  simp only [zo,List.mem_cons] at h
  rcases h with rfl|rfl|rfl|h
  ·rfl
  ·rfl
  ·rfl
  ·exact ih u h
theorem zcc {es:List Edg} {k:Nat} {e:Edg}(h:es[k]?=some e) (x:Int) :
  (zo es).set (k*3) (.int .i64 x)=zo (es.set k ⟨x,e.le,e.ta⟩)∧(zo es).set (k*3+1) (.int .i64 x)=zo (es.set k ⟨e.fr,x,e.ta⟩)∧(zo es).set (k*3+2) (.int .i64 x)=zo (es.set k ⟨e.fr,e.le,x⟩):=by
 induction es generalizing k with
 |nil=>simp at h
 |cons a r ih =>
  cases k with
  |zero=>simp at h;subst h;exact⟨rfl,rfl,rfl⟩
  |succ k =>
   have:=ih (k:=k) (by simpa using h)
   have e1:(k+1)*3=k*3+1+1+1:=by omega
   refine⟨?_,?_,?_⟩<;>rw [e1]<;>simp only [zo,List.set_cons_succ]
   ·rw [this.1]
   ·rw [this.2.1]
   ·rw [this.2.2]
section
variable {w0 wB W:World} {R G M:Nat} {al st:Int} {es:List Edg}
theorem Acc.turn {g m c j:Nat} {x:Int} {fs:List Edg}(h:Acc w0 wB W R G M al st (.slice (some ⟨g,0,none⟩) m c) es)(hm:m=es.length)(hs:(zo es).set j (.int .i64 x)=zo fs)(hl:fs.length=es.length) :
  Acc w0 wB (W.setCell ⟨g,j,none⟩ (.int .i64 x)) R G M al st (.slice (some ⟨g,0,none⟩) m c) fs:=by
 have hgG:g≠G:=h.far rfl
 have hg:=(h.own.lt g rfl).1
 have hR:=h.hR
 have hB:=h.hB
 have hf:=Frm.setCell W g j (.int .i64 x)
 refine⟨h.blk.frm hf (by omega),?_,h.rd.frm hf (fun k h1 h2=>by omega),h.dr.setNew (by dsimp only;omega) _,?_,h.hR,h.hB,h.hG⟩
 ·have ho:=h.own
  rw [← hm] at ho
  have:=(ho.stored j (.int .i64 x)).1
  rw [hs] at this
  rw [hl,← hm]
  exact this
 ·exact⟨h.fr.os,h.fr.tape,h.fr.output,by simpa [World.setCell] using h.fr.size,fun k hk hn=>(Below.heap_setCell _ _ _ _ (by dsimp only;omega)).trans (h.fr.block k hk hn)⟩
end
end Go.Proofs.YtfcjhpodichpjaaGreat
