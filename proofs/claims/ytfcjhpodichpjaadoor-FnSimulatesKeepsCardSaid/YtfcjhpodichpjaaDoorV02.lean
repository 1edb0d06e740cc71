/- Systems that -/
import Derived.Test.YtfcjhpodichpjaaDoorV01
import Derived.Laws.BytesArg
import Derived.BigQuiet
import Derived.Deep.RegionHeld3
import Derived.StillTailTactics
set_option maxHeartbeats 4000000
set_option maxRecDepth 100000
namespace Go.Proofs.YtfcjhpodichpjaaDoor
open Go Go.RowKit
def Good (s:Sys):Prop:=∃ a p:Nat,s.al=a∧a<64∧s.st=p∧1≤p∧p≤16∧Few p s.edges
def zK (w:World) (R:Nat) (A:Option Addr) (n:Nat) (s:Sys):Prop:=
 n=s.edges.length∧n≤9223372036854775807∧(0<n→∃ (g o:Nat) (cs:Array Value),A=some ⟨g,o,none⟩∧R<g∧w.heap[g]?=some (.cells cs 116 (0,0))∧∀ j u,(zd s.edges)[j]?=some u→w.cell? ⟨g,o+j,none⟩=some u)
theorem zK.at_ {w:World} {R n:Nat} {A:Option Addr} {s:Sys}(h:zK w R A n s):zQ w (R+1) w.heap.size A n s:=by
 refine⟨h.1,by rw [zau,← h.1],h.2.1,fun h0=>?_⟩
 obtain⟨g,o,cs,e,hR,hh,hc⟩:=h.2.2 h0
 exact⟨⟨g,o,none⟩,e,hR,(Array.getElem?_eq_some_iff.1 hh).1,fun j u hu=>by rw [zP];exact hc j u hu⟩
theorem zK.frm {S:Nat→Prop} {w w':World} {R n:Nat} {A:Option Addr} {s:Sys}(h:zK w R A n s)(hb:Frm S w w')(hS:∀ k,S k→R<k→∀ cs,w.heap[k]?≠some (.cells cs 116 (0,0))):zK w' R A n s:=by
 refine⟨h.1,h.2.1,fun h0=>?_⟩
 obtain⟨g,o,cs,e,hR,hh,hc⟩:=h.2.2 h0
 have hlt:=(Array.getElem?_eq_some_iff.1 hh).1
 have hn:¬ S g:=fun hs=>hS g hs hR cs hh
 exact⟨g,o,cs,e,hR,(hb.block g hlt hn).trans hh,fun j u hu=>(World.cell?_of_block (w:=w) (hb.block g hlt hn)).trans (hc j u hu)⟩
theorem zK.ext {w w':World} {R n:Nat} {A:Option Addr} {s:Sys}(h:zK w R A n s)(hb:Ext w w'):zK w' R A n s:=h.frm (S:=fun _=>False) hb (fun _ hk=>hk.elim)
theorem zK.dr {w w':World} {R n:Nat} {A:Option Addr} {s:Sys}(h:zK w R A n s)(hb:Dr R w w'):zK w' R A n s:=h.frm hb (fun k hk hR=>by omega)
theorem zK.far {w w':World} {R n Z:Nat} {A:Option Addr} {s:Sys} {cs:Array Value} {t:TypeId}(h:zK w R A n s)(hB:Blk w Z t cs)(ht:t≠116)(hb:Frm (fun k=>k=Z) w w'):zK w' R A n s:=h.frm hb (fun k hk _ cs' hh=>by
 subst hk
 unfold Blk at hB
 rw [hB] at hh
 injection hh with hh
 injection hh with _ h2
 exact ht h2)
theorem zK.own {w:World} {R base n c:Nat} {A:Option Addr} {s:Sys}(h:w.ownsRow base 116 3 (.slice A n c) n (zd s.edges))(hR:R<base):zK w R A n s:=by
 have hl:n=s.edges.length:=by have:=h.1;rw [zau] at this;omega
 refine⟨hl,(Reads.of_own h).len,fun h0=>?_⟩
 rcases h.2 with ⟨_,h1⟩|⟨g,cap,cur,hv,hb,hh,_⟩
 ·omega
 ·have hA:A=some ⟨g,0,none⟩:=by injection hv
  subst hA
  exact⟨g,0,cur,rfl,by omega,hh,fun j u hu=>by
   have:=h.cells (g:=g) rfl j u hu
   rwa [zP] at this⟩
theorem zbR {w:World} {base:Nat} {e:TypeId} {size n c:Nat} {A:Option Addr} {xs:List Value}(h:w.ownsRow base e size (.slice A n c) n xs):n≤c:=by
 rcases h.2 with ⟨hv,h0⟩|⟨g,cap,cur,hv,_,_,hnc,_⟩
 ·omega
 ·injection hv with _ _ h3
  omega
def RetG (R M L:Nat) (w:World) (e:Ending) (w':World):Prop:=
 ∃ (s:Sys) (A:Option Addr) (n c:Nat),e=.returned (.agg #[.int .i64 s.al,.int .i64 s.st,.slice A n c])∧zK w' R A n s∧Good s∧(n≤L∧n≤c)∧Rd w' R M∧Dr R w w'
def RetA (R M L:Nat) (w:World) (e:Ending) (w':World):Prop:=
 ∃ (s:Sys) (A:Option Addr) (n c:Nat),e=.returned (.agg #[.int .i64 s.al,.int .i64 s.st,.slice A n c])∧zK w' R A n s∧(n≤L∧n≤c)∧Rd w' R M∧Dr R w w'
structure Acc (w0 wB W:World) (R G M:Nat) (al st:Int) (v:Value) (es:List Edg):Prop where
 blk:Blk W G 39 #[.int .i64 al,.int .i64 st,v]
 own:W.ownsRow wB.heap.size 116 3 v es.length (zd es)
 rd:Rd W R M
 dr:Dr R w0 W
 fr:Frm (fun k=>k=R∨k=G) wB W
 hR:R<w0.heap.size
 hB:w0.heap.size≤wB.heap.size
 hG:w0.heap.size≤G
section
variable {w0 wB W W':World} {R G M N:Nat} {al st:Int} {v:Value} {es:List Edg}
theorem Acc.more (h:Acc w0 wB W R G M al st v es)(hM:M≤N):Acc w0 wB W R G N al st v es:={ h with rd:=h.rd.more hM }
theorem Acc.ext (h:Acc w0 wB W R G M al st v es)(hb:Ext W W'):Acc w0 wB W' R G M al st v es:=⟨h.blk.ext hb,zm h.own hb,h.rd.ext hb,h.dr.ext hb,h.fr.ext hb,h.hR,h.hB,h.hG⟩
theorem Acc.drawn (h:Acc w0 wB W R G M al st v es)(hb:Dr R W W')(hr:Rd W' R N):Acc w0 wB W' R G N al st v es:=
 ⟨h.blk.dr hb (by have:=h.hR;have:=h.hG;omega),zj h.own hb (fun b hv hS=>by have:=(h.own.lt b hv).1;have:=h.hR;have:=h.hB;omega),hr,h.dr.trans hb,h.fr.trans (hb.mono fun k _ hk=>Or.inl hk),h.hR,h.hB,h.hG⟩
theorem Acc.far (h:Acc w0 wB W R G M al st v es) {b:Nat}(hv:v.ownBlock=some b):b≠G:=by
 rintro rfl
 have hB:=h.blk
 rcases h.own.2 with ⟨rfl,_⟩|⟨g,cap,cur,rfl,_,hh,_⟩
 ·simp [Value.ownBlock] at hv
 ·have hg:g=b:=by simpa [Value.ownBlock] using hv
  subst hg
  unfold Blk at hB
  rw [hh] at hB
  injection hB with hB
  injection hB with _ ht
  exact absurd ht (by decide)
theorem Acc.setAl (h:Acc w0 wB W R G M al st v es) (x:Int):Acc w0 wB (W.setCell ⟨G,0,none⟩ (.int .i64 x)) R G M x st v es:=
 ⟨by simpa using h.blk.set_ 0 _,zj h.own (Frm.setCell W G 0 _) (fun b hv hS=>h.far hv hS),h.rd.frm (Frm.setCell W G 0 _) (fun k hk hS=>by have:=h.hR;have:=h.hG;omega),h.dr.setNew h.hG _,h.fr.cell (Or.inr rfl) _,h.hR,h.hB,h.hG⟩
theorem Acc.setSt (h:Acc w0 wB W R G M al st v es) (x:Int):Acc w0 wB (W.setCell ⟨G,1,none⟩ (.int .i64 x)) R G M al x v es:=
 ⟨by simpa using h.blk.set_ 1 _,zj h.own (Frm.setCell W G 1 _) (fun b hv hS=>h.far hv hS),h.rd.frm (Frm.setCell W G 1 _) (fun k hk hS=>by have:=h.hR;have:=h.hG;omega),h.dr.setNew h.hG _,h.fr.cell (Or.inr rfl) _,h.hR,h.hB,h.hG⟩
theorem Acc.push {g cap:Nat} {e:Edg}(h:Acc w0 wB W R G M al st v es) (zep:W'.ownsRow wB.heap.size 116 3 (.slice (some ⟨g,0,none⟩) (es.length+1) cap) (es.length+1) (zd es++[.int .i64 e.fr,.int .i64 e.le,.int .i64 e.ta]))
  (hg:W.grownBy W' v.ownBlock) (hat:v.ownBlock=some g∨g=W.heap.size+1) :
  Hid (W'.cell? ⟨G,2,none⟩=some v)∧W'.frozen? ⟨G,2,none⟩=false∧Acc w0 wB (W'.setCell ⟨G,2,none⟩ (.slice (some ⟨g,0,none⟩) (es.length+1) cap)) R G M al st (.slice (some ⟨g,0,none⟩) (es.length+1) cap) (es++[e]):=by
 have hB:Blk W' G 39 #[.int .i64 al,.int .i64 st,v]:=(hg.block G h.blk.lt (fun e=>h.far e.symm rfl)).trans h.blk
 have hgG:g≠G:=by
  rcases hat with h1|h1
  ·exact h.far h1
  ·have:=h.blk.lt;omega
 have hd:Dr R w0 W':=h.dr.grown hg (fun k hk=>Nat.le_trans h.hB (h.own.lt k hk).1)
 have hr:Rd W' R M:=h.rd.frm (Frm.of_grown hg) (fun k hk hS=>by have:=(h.own.lt k hS).1;have:=h.hR;have:=h.hB;omega)
 have hf:Frm (fun k=>k=R∨k=G) wB W':=
  ⟨hg.os.trans h.fr.os,hg.tape.trans h.fr.tape,hg.output.trans h.fr.output,Nat.le_trans h.fr.size hg.size,
   fun k hk hn=>(hg.block k (Nat.lt_of_lt_of_le hk h.fr.size) (fun e=>by have:=(h.own.lt k e.symm).1;omega)).trans (h.fr.block k hk hn)⟩
 refine⟨hB.cell 2,hB.frozen 2,⟨by simpa using hB.set_ 2 _,?_,hr.frm (Frm.setCell W' G 2 _) (fun k hk hS=>by have:=h.hR;have:=h.hG;omega),hd.setNew h.hG _,hf.cell (Or.inr rfl) _,h.hR,h.hB,h.hG⟩⟩
 have:=zj zep (Frm.setCell W' G 2 (.slice (some ⟨g,0,none⟩) (es.length+1) cap)) (fun b hv hS=>by
  have:g=b:=by simpa [Value.ownBlock] using hv
  omega)
 rw [zcM]
 simpa [zd] using this
theorem Acc.reads {A:Option Addr} {n c:Nat}(h:Acc w0 wB W R G M al st (.slice A n c) es):n=es.length∧zQ W wB.heap.size W.heap.size A n ⟨al,st,es⟩:=by
 have hn:n=es.length:=by
  rcases h.own.2 with ⟨hv,h0⟩|⟨g,cap,cur,hv,_⟩
  ·injection hv with _ h2 _;omega
  ·injection hv
 have ho:=h.own
 rw [← hn] at ho
 exact⟨hn,hn,Reads.of_own ho⟩
theorem Acc.form (h:Acc w0 wB W R G M al st v es):∃ A n c,v=.slice A n c:=by
 obtain⟨A,c,e⟩:=zl h.own
 exact⟨A,_,c,e⟩
theorem Acc.old (h:Acc w0 wB W R G M al st v es) {lo hi size n:Nat} {A:Option Addr} {xs:List Value}(hx:Reads wB lo hi size A n xs)(h1:∀ k,lo≤k→k<hi→k≠R∧k≠G):Reads W lo hi size A n xs:=
 hx.frm h.fr (fun k a b hS=>by have:=h1 k a b;omega)
end
theorem zaj (W:World) (Z:Nat) (u0 u1 u2:Value):Frm (fun k=>k=Z) W (((W.setCell ⟨Z,0,none⟩ u0).setCell ⟨Z,1,none⟩ u1).setCell ⟨Z,2,none⟩ u2):=
 ((Frm.setCell W Z 0 u0).trans (Frm.setCell _ Z 1 u1)).trans (Frm.setCell _ Z 2 u2)
theorem Acc.fin {w0 wB W:World} {R G M Z:Nat} {al st:Int} {A:Option Addr} {n c:Nat} {es:List Edg}(h:Acc w0 wB W R G M al st (.slice A n c) es)(hZ:w0.heap.size≤Z)(hZ2:Z<wB.heap.size) (u0 u1 u2:Value) :
  zK (((W.setCell ⟨Z,0,none⟩ u0).setCell ⟨Z,1,none⟩ u1).setCell ⟨Z,2,none⟩ u2) R A n ⟨al,st,es⟩ ∧
  Rd (((W.setCell ⟨Z,0,none⟩ u0).setCell ⟨Z,1,none⟩ u1).setCell ⟨Z,2,none⟩ u2) R M∧Dr R w0 (((W.setCell ⟨Z,0,none⟩ u0).setCell ⟨Z,1,none⟩ u1).setCell ⟨Z,2,none⟩ u2):=by
 have hf:=zaj W Z u0 u1 u2
 obtain⟨hn,_⟩:=h.reads
 have hR:=h.hR
 have hB:=h.hB
 have ho:=h.own
 rw [← hn] at ho
 refine⟨zK.own (s:=⟨al,st,es⟩) (zj ho hf (fun b hv hS=>by have:=(h.own.lt b hv).1;omega)) (by omega),h.rd.frm hf (fun k h1 h2=>by omega),?_⟩
 exact ((h.dr.setNew (p:=⟨Z,0,none⟩) hZ u0).setNew (p:=⟨Z,1,none⟩) hZ u1).setNew (p:=⟨Z,2,none⟩) hZ u2
theorem zq.snoc2 {w:World} {base N:Nat} {rows:List Value} {ls:List (List Int)} {row:Value} {l:List Int}(h:zq w base rows ls)(hlow:∀ (i:Nat) (r:Value) (b:Nat),rows[i]?=some r→r.ownBlock=some b→b<N)(hN:base≤N)(hrow:w.ownsRow N 3 1 row l.length (ints l)) :
  zq w base (rows++[row]) (ls++[l]):=by
 have hlen:=h.1
 refine⟨by simp [hlen],fun i r m hr hm=>?_,fun i j ri rj b hri hrj hij hbi=>?_⟩
 ·rcases Nat.lt_trichotomy i rows.length with hi|hi|hi
  ·rw [List.getElem?_append_left hi] at hr
   rw [List.getElem?_append_left (by omega)] at hm
   exact h.2.1 i r m hr hm
  ·rw [List.getElem?_append_right (by omega),hi,Nat.sub_self] at hr
   rw [List.getElem?_append_right (by omega),hi,hlen,Nat.sub_self] at hm
   simp at hr hm
   subst hr;subst hm
   exact zT hrow hN
  ·rw [List.getElem?_eq_none (by simp;omega)] at hr;cases hr
 ·have new:∀ b,row.ownBlock=some b→N≤b:=fun b hb=>(hrow.lt b hb).1
  have hi:i≤rows.length:=by have:=(List.getElem?_eq_some_iff.1 hri).1;simp at this;omega
  have hj:j≤rows.length:=by have:=(List.getElem?_eq_some_iff.1 hrj).1;simp at this;omega
  rcases Nat.lt_or_eq_of_le hi with hi|hi<;>rcases Nat.lt_or_eq_of_le hj with hj|hj
  ·rw [List.getElem?_append_left hi] at hri
   rw [List.getElem?_append_left hj] at hrj
   exact h.2.2 i j ri rj b hri hrj hij hbi
  ·rw [List.getElem?_append_left hi] at hri
   subst hj
   simp at hrj
   subst hrj
   intro hc
   have h1:=hlow i ri b hri hbi
   have h2:=new b hc
   omega
  ·rw [List.getElem?_append_left hj] at hrj
   subst hi
   simp at hri
   subst hri
   intro hc
   have h1:=hlow j rj b hrj hc
   have h2:=new b hbi
   omega
  ·omega
def zcb (R M:Nat) (sh:Aut→Prop) (w:World) (e:Ending) (w':World):Prop:=
 ∃ (a:Aut) (A:Option Addr) (n c:Nat) (A':Option Addr) (n' c':Nat),e=.returned (.agg #[.int .i64 a.al,.slice A n c,.slice A' n' c'])∧zX w' w.heap.size A n c A' n' c' a∧Hid (sh a)∧Rd w' R M∧Dr R w w'
structure zax (w0 W:World) (R G M:Nat) (al:Int) (v:Value) (rows:List Value) (ls:List (List Int)) (vA:Value) (acc:List Bool):Prop where
 blk:Blk W G 30 #[.int .i64 al,v,vA]
 nx:W.ownsRow w0.heap.size 62 1 v ls.length rows
 rows:zq W w0.heap.size rows ls
 acc:W.ownsRow w0.heap.size 4 1 vA acc.length (zL acc)
 rd:Rd W R M
 dr:Dr R w0 W
 hR:R<w0.heap.size
 hG:w0.heap.size≤G
section
variable {w0 W W':World} {R G M N:Nat} {al:Int} {v vA:Value} {rows:List Value} {ls:List (List Int)} {acc:List Bool}
theorem zax.drawn (h:zax w0 W R G M al v rows ls vA acc)(hd:Dr R W W')(hr:Rd W' R N):zax w0 W' R G N al v rows ls vA acc:=
 ⟨h.blk.dr hd (by have:=h.hR;have:=h.hG;omega),zaw h.nx hd (fun b h1 e=>by have:=h.hR;omega),h.rows.keep hd (fun b h1 e=>by have:=h.hR;omega),zaw h.acc hd (fun b h1 e=>by have:=h.hR;omega),hr,h.dr.trans hd,h.hR,h.hG⟩
theorem zax.ext (h:zax w0 W R G M al v rows ls vA acc)(hx:Ext W W'):zax w0 W' R G M al v rows ls vA acc:=h.drawn (Ext.dr hx) (h.rd.ext hx)
theorem zax.more (h:zax w0 W R G M al v rows ls vA acc)(hM:M≤N):zax w0 W R G N al v rows ls vA acc:={ h with rd:=h.rd.more hM }
theorem zax.low (h:zax w0 W R G M al v rows ls vA acc):∀ (i:Nat) (r:Value) (b:Nat),rows[i]?=some r→r.ownBlock=some b→b<W.heap.size:=fun i r b hr hb=>by
 obtain⟨l,_,ho⟩:=h.rows.row hr
 exact (ho.lt b hb).2
theorem zax.grown (h:zax w0 W R G M al v rows ls vA acc) {v0:Value} {e:TypeId} {size k:Nat} {xs:List Value}(ho:W.ownsRow w0.heap.size e size v0 k xs)(hg:W.grownBy W' v0.ownBlock):Dr R w0 W'∧Rd W' R M:=by
 have hRG:=h.hR
 refine⟨h.dr.grown hg (fun k hk=>(ho.lt k hk).1),h.rd.frm (Frm.of_grown hg) (fun k hk hS=>by have:=(ho.lt k hS).1;omega)⟩
theorem zax.pushRow {row:Value} {l:List Int} {g cap K:Nat}(h:zax w0 W R G M al v rows ls vA acc)(hlow:∀ (i:Nat) (r:Value) (b:Nat),rows[i]?=some r→r.ownBlock=some b→b<K)(hK:w0.heap.size≤K)(hrow:W.ownsRow K 3 1 row l.length (ints l))
  (zep:W'.ownsRow w0.heap.size 62 1 (.slice (some ⟨g,0,none⟩) (ls.length+1) cap) (ls.length+1) (rows++[row]))
  (hg:W.grownBy W' v.ownBlock) (hat:v.ownBlock=some g∨g=W.heap.size+1) :
  Hid (W'.cell? ⟨G,1,none⟩=some v)∧W'.frozen? ⟨G,1,none⟩=false∧zax w0 (W'.setCell ⟨G,1,none⟩ (.slice (some ⟨g,0,none⟩) (ls.length+1) cap)) R G M al (.slice (some ⟨g,0,none⟩) (ls.length+1) cap) (rows++[row]) (ls++[l]) vA acc:=by
 have hRG:=h.hR;have hGG:=h.hG
 have hB:Blk W' G 30 #[.int .i64 al,v,vA]:=(hg.block G h.blk.lt (fun e=>zo h.nx h.blk (by decide) e.symm rfl)).trans h.blk
 have hgG:g≠G:=by
  rcases hat with h1|h1
  ·exact zo h.nx h.blk (by decide) h1
  ·have:=h.blk.lt;omega
 have hfr:Frm (fun k=>v.ownBlock=some k) W W':=Frm.of_grown hg
 obtain⟨hdr,hrd⟩:=h.grown h.nx hg
 have hr1:=h.rows.snoc2 hlow hK hrow
 have hr2:zq W' w0.heap.size (rows++[row]) (ls++[l]):=hr1.frm hfr (fun i r b hr hb hS=>by
  obtain⟨l',_,ho⟩:=hr1.row hr
  exact zZ ho h.nx (by decide) hb hS)
 have zeq:W'.ownsRow w0.heap.size 4 1 vA acc.length (zL acc):=zj h.acc hfr (fun b hb hS=>zZ h.acc h.nx (by decide) hb hS)
 have hset:=Frm.setCell W' G 1 (.slice (some ⟨g,0,none⟩) (ls.length+1) cap)
 refine⟨hB.cell 1,hB.frozen 1,⟨by simpa using hB.set_ 1 _,?_,?_,?_,hrd.frm hset (fun k hk e=>by omega),hdr.setNew (p:=⟨G,1,none⟩) hGG _,hRG,hGG⟩⟩
 ·rw [List.length_append,List.length_singleton]
  exact zj zep hset (fun b hv hS=>by
   have:g=b:=by simpa [Value.ownBlock] using hv
   omega)
 ·refine hr2.frm hset (fun i r b hr hb hS=>?_)
  obtain⟨l',_,ho⟩:=hr2.row hr
  exact zo ho hB (by decide) hb hS
 ·exact zj zeq hset (fun b hb hS=>zo zeq hB (by decide) hb hS)
theorem yV02a3 {P:Prop}(h:P:=by
 rw [List.length_append,List.length_singleton,show zL (acc++[x])=zL acc++[.bool x] by simp [zL]]
 exact zj zep hset (fun b hv hS=>by
  have:g=b:=by simpa [Value.ownBlock] using hv
  omega)
 ):P:=h
theorem zax.pushAcc {x:Bool} {g cap:Nat}(h:zax w0 W R G M al v rows ls vA acc)
  (zep:W'.ownsRow w0.heap.size 4 1 (.slice (some ⟨g,0,none⟩) (acc.length+1) cap) (acc.length+1) (zL acc++[.bool x]))
  (hg:W.grownBy W' vA.ownBlock) (hat:vA.ownBlock=some g∨g=W.heap.size+1) :
  Hid (W'.cell? ⟨G,2,none⟩=some vA)∧W'.frozen? ⟨G,2,none⟩=false∧zax w0 (W'.setCell ⟨G,2,none⟩ (.slice (some ⟨g,0,none⟩) (acc.length+1) cap)) R G M al v rows ls (.slice (some ⟨g,0,none⟩) (acc.length+1) cap) (acc++[x]):=by
 have hRG:=h.hR;have hGG:=h.hG
 have hB:Blk W' G 30 #[.int .i64 al,v,vA]:=(hg.block G h.blk.lt (fun e=>zo h.acc h.blk (by decide) e.symm rfl)).trans h.blk
 have hgG:g≠G:=by
  rcases hat with h1|h1
  ·exact zo h.acc h.blk (by decide) h1
  ·have:=h.blk.lt;omega
 have hfr:Frm (fun k=>vA.ownBlock=some k) W W':=Frm.of_grown hg
 obtain⟨hdr,hrd⟩:=h.grown h.acc hg
 have hn:W'.ownsRow w0.heap.size 62 1 v ls.length rows:=zj h.nx hfr (fun b hb hS=>zZ h.nx h.acc (by decide) hb hS)
 have hr2:zq W' w0.heap.size rows ls:=h.rows.frm hfr (fun i r b hr hb hS=>by
  obtain⟨l',_,ho⟩:=h.rows.row hr
  exact zZ ho h.acc (by decide) hb hS)
 have hset:=Frm.setCell W' G 2 (.slice (some ⟨g,0,none⟩) (acc.length+1) cap)
 refine⟨hB.cell 2,hB.frozen 2,⟨by simpa using hB.set_ 2 _,zj hn hset (fun b hb hS=>zo hn hB (by decide) hb hS),hr2.frm hset (fun i r b hr hb hS=>?_),?_,hrd.frm hset (fun k hk e=>by omega),hdr.setNew (p:=⟨G,2,none⟩) hGG _,hRG,hGG⟩⟩
 ·obtain⟨l',_,ho⟩:=hr2.row hr
  exact zo ho hB (by decide) hb hS
 ·exact yV02a3
theorem zax.side {v0:Value} {K k:Nat} {xs:List Value}(h:zax w0 W R G M al v rows ls vA acc)(hlow:∀ (i:Nat) (r:Value) (b:Nat),rows[i]?=some r→r.ownBlock=some b→b<K)(hK:w0.heap.size≤K)(ho:W.ownsRow K 3 1 v0 k xs)(hg:W.grownBy W' v0.ownBlock):zax w0 W' R G M al v rows ls vA acc:=by
 have ho':=zT ho hK
 obtain⟨hdr,hrd⟩:=h.grown ho' hg
 have hfr:Frm (fun k=>v0.ownBlock=some k) W W':=Frm.of_grown hg
 exact⟨h.blk.frm hfr (fun e=>zo ho h.blk (by decide) e rfl),zj h.nx hfr (fun b hb hS=>zZ ho h.nx (by decide) hS hb),h.rows.frm hfr (fun i r b hr hb hS=>by have:=hlow i r b hr hb;have:=(ho.lt b hS).1;omega),
  zj h.acc hfr (fun b hb hS=>zZ ho h.acc (by decide) hS hb),hrd,hdr,h.hR,h.hG⟩
theorem zax.fin {w:World} {Z n n' c c':Nat} {A A':Option Addr} {cs:Array Value} {t:TypeId} {sh:Aut→Prop}(h:zax w0 W R G M al (.slice A n c) rows ls (.slice A' n' c') acc)(hx:Ext w w0) (bz:Blk w0 Z t cs)(hc:cs.size=3)(hRw:R<w.heap.size)(hZ:w.heap.size≤Z)(hZ':Z<w0.heap.size)(hM:M≤N)(hsh:sh ⟨al,ls,acc⟩) :
  Hid (zcb R N sh w (.returned (.agg #[.int .i64 al,.slice A n c,.slice A' n' c'])) (((W.setCell ⟨Z,0,none⟩ (.int .i64 al)).setCell ⟨Z,1,none⟩ (.slice A n c)).setCell ⟨Z,2,none⟩ (.slice A' n' c'))) ∧
  Blk (((W.setCell ⟨Z,0,none⟩ (.int .i64 al)).setCell ⟨Z,1,none⟩ (.slice A n c)).setCell ⟨Z,2,none⟩ (.slice A' n' c')) Z t #[.int .i64 al,.slice A n c,.slice A' n' c']:=by
 have hb:=bz.dr h.dr (by omega)
 have hf:=zak W Z (.int .i64 al) (.slice A n c) (.slice A' n' c')
 have hn:n=ls.length:=by
  rcases h.nx.2 with ⟨h1,h2⟩|⟨_,_,_,h1,_⟩
  ·simp at h1;omega
  ·simp at h1;exact h1.2.1
 have hn':n'=acc.length:=by
  rcases h.acc.2 with ⟨h1,h2⟩|⟨_,_,_,h1,_⟩
  ·simp at h1;omega
  ·simp at h1;exact h1.2.1
 refine⟨za ⟨⟨al,ls,acc⟩,A,n,c,A',n',c',rfl,⟨⟨rows,?_,?_⟩,hn,?_,hn'⟩,za hsh,?_,?_⟩,zas hb hc _ _ _⟩
 ·exact zT (zaw h.nx hf (fun b h1 e=>by omega)) hx.size
 ·exact (h.rows.keep hf (fun b h1 e=>by omega)).less hx.size
 ·have ho:=zT (zaw h.acc hf (fun b h1 e=>by omega)) hx.size
  rw [← hn'] at ho;exact ho
 ·exact (h.rd.more hM).frm hf (fun k hk e=>by omega)
 ·exact (((hx.dr.trans h.dr).setNew (p:=⟨Z,0,none⟩) hZ _).setNew (p:=⟨Z,1,none⟩) hZ _).setNew (p:=⟨Z,2,none⟩) hZ _
end
structure Gro (w0 W:World) (G:Nat) (al:Int) (v:Value) (rows:List Value) (ls:List (List Int)) (vA:Value) (acc:List Bool):Prop where
 blk:Blk W G 30 #[.int .i64 al,v,vA]
 nx:W.ownsRow w0.heap.size 62 1 v ls.length rows
 rows:zq W w0.heap.size rows ls
 acc:W.ownsRow w0.heap.size 4 1 vA acc.length (zL acc)
 ext:Ext w0 W
 hG:w0.heap.size≤G
section
variable {w0 W W':World} {G N:Nat} {al:Int} {v vA:Value} {rows:List Value} {ls:List (List Int)} {acc:List Bool}
theorem Gro.more (h:Gro w0 W G al v rows ls vA acc)(hx:Ext W W'):Gro w0 W' G al v rows ls vA acc:=⟨h.blk.ext hx,zm h.nx hx,h.rows.ext hx,zm h.acc hx,h.ext.trans hx,h.hG⟩
theorem Gro.low (h:Gro w0 W G al v rows ls vA acc):∀ (i:Nat) (r:Value) (b:Nat),rows[i]?=some r→r.ownBlock=some b→b<W.heap.size:=fun i r b hr hb=>by
 obtain⟨l,_,ho⟩:=h.rows.row hr
 exact (ho.lt b hb).2
theorem Gro.pushRow {row:Value} {l:List Int} {g cap K:Nat}(h:Gro w0 W G al v rows ls vA acc)(hlow:∀ (i:Nat) (r:Value) (b:Nat),rows[i]?=some r→r.ownBlock=some b→b<K)(hK:w0.heap.size≤K)(hrow:W.ownsRow K 3 1 row l.length (ints l))
  (zep:W'.ownsRow w0.heap.size 62 1 (.slice (some ⟨g,0,none⟩) (ls.length+1) cap) (ls.length+1) (rows++[row]))
  (hg:W.grownBy W' v.ownBlock) (hat:v.ownBlock=some g∨g=W.heap.size+1) :
  Hid (W'.cell? ⟨G,1,none⟩=some v)∧W'.frozen? ⟨G,1,none⟩=false∧Gro w0 (W'.setCell ⟨G,1,none⟩ (.slice (some ⟨g,0,none⟩) (ls.length+1) cap)) G al (.slice (some ⟨g,0,none⟩) (ls.length+1) cap) (rows++[row]) (ls++[l]) vA acc:=by
 have hGG:=h.hG
 have hB:Blk W' G 30 #[.int .i64 al,v,vA]:=(hg.block G h.blk.lt (fun e=>zo h.nx h.blk (by decide) e.symm rfl)).trans h.blk
 have hgG:g≠G:=by
  rcases hat with h1|h1
  ·exact zo h.nx h.blk (by decide) h1
  ·have:=h.blk.lt;omega
 have hfr:Frm (fun k=>v.ownBlock=some k) W W':=Frm.of_grown hg
 have hdr:=h.ext.grown hg (fun k hk=>(h.nx.lt k hk).1)
 have hr1:=h.rows.snoc2 hlow hK hrow
 have hr2:zq W' w0.heap.size (rows++[row]) (ls++[l]):=hr1.frm hfr (fun i r b hr hb hS=>by
  obtain⟨l',_,ho⟩:=hr1.row hr
  exact zZ ho h.nx (by decide) hb hS)
 have zeq:W'.ownsRow w0.heap.size 4 1 vA acc.length (zL acc):=zj h.acc hfr (fun b hb hS=>zZ h.acc h.nx (by decide) hb hS)
 have hset:=Frm.setCell W' G 1 (.slice (some ⟨g,0,none⟩) (ls.length+1) cap)
 refine⟨hB.cell 1,hB.frozen 1,⟨by simpa using hB.set_ 1 _,?_,?_,?_,hdr.setCell (p:=⟨G,1,none⟩) hGG _,hGG⟩⟩
 ·rw [List.length_append,List.length_singleton]
  exact zj zep hset (fun b hv hS=>by
   have:g=b:=by simpa [Value.ownBlock] using hv
   omega)
 ·refine hr2.frm hset (fun i r b hr hb hS=>?_)
  obtain⟨l',_,ho⟩:=hr2.row hr
  exact zo ho hB (by decide) hb hS
 ·exact zj zeq hset (fun b hb hS=>zo zeq hB (by decide) hb hS)
theorem Gro.pushAcc {x:Bool} {g cap:Nat}(h:Gro w0 W G al v rows ls vA acc)
  (zep:W'.ownsRow w0.heap.size 4 1 (.slice (some ⟨g,0,none⟩) (acc.length+1) cap) (acc.length+1) (zL acc++[.bool x]))
  (hg:W.grownBy W' vA.ownBlock) (hat:vA.ownBlock=some g∨g=W.heap.size+1) :
  Hid (W'.cell? ⟨G,2,none⟩=some vA)∧W'.frozen? ⟨G,2,none⟩=false∧Gro w0 (W'.setCell ⟨G,2,none⟩ (.slice (some ⟨g,0,none⟩) (acc.length+1) cap)) G al v rows ls (.slice (some ⟨g,0,none⟩) (acc.length+1) cap) (acc++[x]):=by
 have hGG:=h.hG
 have hB:Blk W' G 30 #[.int .i64 al,v,vA]:=(hg.block G h.blk.lt (fun e=>zo h.acc h.blk (by decide) e.symm rfl)).trans h.blk
 have hgG:g≠G:=by
  rcases hat with h1|h1
  ·exact zo h.acc h.blk (by decide) h1
  ·have:=h.blk.lt;omega
 have hfr:Frm (fun k=>vA.ownBlock=some k) W W':=Frm.of_grown hg
 have hdr:=h.ext.grown hg (fun k hk=>(h.acc.lt k hk).1)
 have hn:W'.ownsRow w0.heap.size 62 1 v ls.length rows:=zj h.nx hfr (fun b hb hS=>zZ h.nx h.acc (by decide) hb hS)
 have hr2:zq W' w0.heap.size rows ls:=h.rows.frm hfr (fun i r b hr hb hS=>by
  obtain⟨l',_,ho⟩:=h.rows.row hr
  exact zZ ho h.acc (by decide) hb hS)
 have hset:=Frm.setCell W' G 2 (.slice (some ⟨g,0,none⟩) (acc.length+1) cap)
 refine⟨hB.cell 2,hB.frozen 2,⟨by simpa using hB.set_ 2 _,zj hn hset (fun b hb hS=>zo hn hB (by decide) hb hS),hr2.frm hset (fun i r b hr hb hS=>?_),?_,hdr.setCell (p:=⟨G,2,none⟩) hGG _,hGG⟩⟩
 ·obtain⟨l',_,ho⟩:=hr2.row hr
  exact zo ho hB (by decide) hb hS
 ·exact yV02a3
theorem Gro.fin {w W2:World} {n n' c c':Nat} {A A':Option Addr}(h:Gro w0 W G al (.slice A n c) rows ls (.slice A' n' c') acc)(hx:Ext w w0)(hF:Frm (fun k=>w.heap.size≤k∧k<w0.heap.size) W W2) :
  zX W2 w.heap.size A n c A' n' c' ⟨al,ls,acc⟩∧n=ls.length∧n'=acc.length:=by
 have hn:n=ls.length:=by
  rcases h.nx.2 with ⟨h1,h2⟩|⟨_,_,_,h1,_⟩
  ·simp at h1;omega
  ·simp at h1;exact h1.2.1
 have hn':n'=acc.length:=by
  rcases h.acc.2 with ⟨h1,h2⟩|⟨_,_,_,h1,_⟩
  ·simp at h1;omega
  ·simp at h1;exact h1.2.1
 refine⟨⟨⟨rows,?_,?_⟩,hn,?_,hn'⟩,hn,hn'⟩
 ·exact zT (zaw h.nx hF (fun b h1 e=>by omega)) hx.size
 ·exact (h.rows.keep hF (fun b h1 e=>by omega)).less hx.size
 ·have ho:=zT (zaw h.acc hF (fun b h1 e=>by omega)) hx.size
  rw [← hn'] at ho;exact ho
end
theorem Reads.nat {w:World} {lo hi n k:Nat} {A:Option Addr} {l:List Nat}(h:Reads w lo hi 1 A n (zF l))(hk:k<n):∃ ad x,A=some ad∧lo≤ad.block∧ad.block<hi∧Hid (l[k]?=some x)∧w.cell? (ad.add k)=some (.int .i64 (x:Nat)):=by
 have e:zF l=ints (l.map fun n:Nat=>(n:Int)):=by simp [zF,ints]
 rw [e] at h
 obtain⟨ad,x,ha,hl,hh,hx,hc⟩:=h.int hk
 have hx':=hx.out
 rw [List.getElem?_map] at hx'
 cases hq:l[k]? with
 |none=>rw [hq] at hx';simp at hx'
 |some q =>
  rw [hq] at hx'
  simp at hx'
  exact⟨ad,q,ha,hl,hh,rfl,by rw [hc,hx']⟩
def zdy (w:World) (b:Nat) (es:List Edg):Prop:=∀ i l:Nat,i<16→l<6→w.cell? ⟨b,i*6+l,none⟩=some (.int .i64 (succ es i l:Nat))
theorem zdy.ext {w w':World} {b:Nat} {es:List Edg}(h:zdy w b es)(hb:Ext w w'):zdy w' b es:=fun i l hi hl=>hb.cell_some (h i l hi hl)
theorem zbM {a b:Nat}(ha:Sm a)(hb:Sm b):bits .andNot .i64 (a:Int) (b:Int)=(diff a b:Nat):=by
 have h1:=ha.lt;have h2:=hb.lt
 have hd:=diff_le a b
 show IntKind.i64.wrap ((BitVec.ofInt 64 (a:Int)&&&~~~ BitVec.ofInt 64 (b:Int)).toNat:Int)=_
 have e:(BitVec.ofInt 64 (a:Int)&&&~~~ BitVec.ofInt 64 (b:Int)).toNat=diff a b:=by
  apply Nat.eq_of_testBit_eq
  intro k
  rw [zce,BitVec.toNat_and,Nat.testBit_and,zaI a (by omega),BitVec.testBit_toNat,BitVec.getLsbD_not,← BitVec.testBit_toNat,zaI b (by omega)]
  by_cases hk:k<64
  ·simp [hk]
  ·simp only [hk,decide_false,Bool.false_and,Bool.and_false]
   rw [zcr ha (by omega)];rfl
 rw [e,IntKind.wrap_i64]
 omega
theorem yV02a1 {P:Prop}(h:P:=by
 have hz':(bits .and .i64 (r:Int) (succ es' j l:Nat)==0)=false:=by rw [ba.out];simp;omega
 have Hz:=za hz
 clear hz
 go_wp2
 go_quiet (fail)
 have e1:=(Ext.refl wr).drewN 1
 go_wp2
 go_roundw
 case rel=>exact⟨x+1,by omega,by go_num,y|||r,by rw [bo.out],hy.or hrs,by unfold Hid;rw [htk.out,zdO,← hyo.out,Hrd.out],by
  have hf:(R.getD k 0&&&succ es' j l==0)=false:=by rw [Hrd.out];simpa using Hz.out
  unfold Hid
  rw [htk.out,List.all_append,hya.out]
  simp only [List.all_cons,List.all_nil,hf];rfl,hext2.drewN _⟩
 case measure=>simp [intOf];omega
 ):P:=h
theorem yV02a2 {P:Prop}(h:P:=by
 rw [hL.out,show ks.all (fun k=>!(R.getD k 0&&&succ es' j l==0))=false from ?_]
 ·rfl
 ·rw [Bool.eq_false_iff]
  intro hc
  have:=List.all_eq_true.1 hc k (List.mem_of_getElem? hk.out)
  rw [Hrd.out,Hz.out] at this
  simp at this
 ):P:=h
theorem zdB {es es':List Edg} {bm bn lo hi n c i j k1 k2:Nat} {A:Option Addr} {R:List Nat} {w:World}(hm:zdy w bm es)(hn:zdy w bn es')(hR:Reads w lo hi 1 A n (zF R))(hs:∀ r∈R,Sm r)(hT:Tab w)
  (hi:i<16) (hj:j<16) (h:Few k1 es) (h':Few k2 es') (hk1:k1≤16) (hk2:k2≤16) (hl:k1≤R.length) :
  Calls Tryd.prog 67 #[.pointer (some ⟨bm,0,none⟩),.pointer (some ⟨bn,0,none⟩),.slice A n c,.int .i64 i,.int .i64 j,.bool false] w fun e w'=>e=.returned (.bool (ansB false es es' R i j))∧Ext w w':=by
 have hlen:=za (show R.length=n by have:=hR.length;rw [zad] at this;omega)
 have hA:=za (show ansB false es es' R i j=(List.range 6).all (ansL false es es' R i j) from rfl)
 have Hs:=za hs
 clear hs
 have hn':=hR.len
 go_enter Tryd.func67,Tryd.ntmps67
 go_wp2
 go_loopw [17] (fun v wr=>∃ l:Nat,l≤6∧v=.int .i64 l∧Hid ((List.range l).all (ansL false es es' R i j)=true)∧Ext w wr) (fun v _=>6 - (intOf v).toNat)
 case atStart=>exact⟨0,Nat.zero_le _,rfl,rfl,Ext.refl _⟩
 case round =>
  obtain⟨l,hl6,rfl,hall,zer⟩:=hrel
  by_cases hlt:l<6
  ·have c1:=(hm.ext zer) i l hi hlt
   have c2:=(hn.ext zer) j l hj hlt
   have s1:=zcD h hk1 i l
   have s2:=zcD h' hk2 j l
   have hT':=hT.ext zer
   go_wp2_with (go_at_call 66;refine (zaU _ s1 _ hT').mono ?_;rintro e w1 ⟨B,d,rfl,zep,hx1⟩)
   have hkL:=zn (succ es i l) 32
   have hkm:∀ k,k∈letters (succ es i l) 32→k<R.length:=fun k hk=>by
    obtain⟨e,he,_,h3⟩:=(zbF es i l k).1 (zO.1 hk).2
    have:=h e he
    omega
   have Hkm:=za hkm
   clear hkm
   have hL:=za (show ansL false es es' R i j l=((letters (succ es i l) 32).all (fun k=>!(R.getD k 0&&&succ es' j l==0))&&!(false&&diff (succ es' j l) (zcA R (letters (succ es i l) 32)) != 0)) from rfl)
   have hext1:=zer.trans hx1
   have hrd:=zep
   replace hrd:=Reads.of_own hrd
   clear zep
   generalize letters (succ es i l) 32=ks at *
   go_loopw [14,29] (fun v q wr=>∃ x:Nat,x≤ks.length∧q=.int .i64 x∧∃ y:Nat,v=.int .i64 y∧Sm y∧Hid (y=zcA R (ks.take x))∧Hid ((ks.take x).all (fun k=>!(R.getD k 0&&&succ es' j l==0))=true)∧Ext w1 wr) (fun _ q _=>ks.length - (intOf q).toNat)
   case atStart=>exact⟨0,Nat.zero_le _,rfl,0,rfl,by unfold Sm;omega,rfl,rfl,Ext.refl _⟩
   case round =>
    obtain⟨x,hxl,rfl,y,rfl,hy,hyo,hya,hext2⟩:=hrel
    have hw2:=hext1.trans hext2
    have d2:=hext2.cell_some (hx1.cell_some c2)
    by_cases hlx:x<ks.length
    ·obtain⟨ad,k,rfl,_,_,hk,hkc⟩:=(hrd.ext hext2).nat hlx
     have hkn:k<n:=by have:=Hkm.out k (List.mem_of_getElem? hk.out);have:=hlen.out;omega
     obtain⟨ad',r,rfl,_,_,hr,hrc⟩:=(hR.ext hw2).nat hkn
     have hrs:=Hs.out r (List.mem_of_getElem? hr.out)
     have ba:=za (zbj hrs s2)
     have bo:=za (zcw hy hrs)
     have hrd':R.getD k 0=r:=by rw [List.getD_eq_getElem?_getD,hr.out];rfl
     have Hrd:=za hrd'
     clear hrd'
     have htk:=za (show ks.take (x+1)=ks.take x++[k] by rw [List.take_add_one,hk.out];rfl)
     by_cases hz:r&&&succ es' j l=0
     ·have hz':(bits .and .i64 (r:Int) (succ es' j l:Nat)==0)=true:=by rw [ba.out,hz];rfl
      have Hz:=za hz
      clear hz
      go_wp2
      go_quiet (fail)
      go_wp2
      go_ret
      refine⟨zf ?_,hw2.drewN _⟩
      have hno:ansL false es es' R i j l=false:=by
       exact yV02a2
      rw [hA.out]
      refine (Bool.eq_false_iff.2 fun hc=>?_).symm
      have:=List.all_eq_true.1 hc l (List.mem_range.2 hlt)
      rw [hno] at this
      simp at this
     ·exact yV02a1
    ·obtain rfl:x=ks.length:=by omega
     rw [List.take_length] at hyo hya
     have bd:=za (zbM s2 hy)
     have hLL:=za (show ansL false es es' R i j l=!(false&&diff (succ es' j l) y != 0) by rw [hL.out,hya.out,Bool.true_and,← hyo.out])
     have hz:(false&&diff (succ es' j l) y != 0)=false:=rfl
     have hrel:Hid ((List.range (l+1)).all (ansL false es es' R i j)=true):=by
      unfold Hid
      rw [List.range_succ,List.all_append,hall.out]
      simp only [List.all_cons,List.all_nil,Bool.and_true,Bool.true_and]
      rw [hLL.out,hz];rfl
     clear hz
     go_wp2
     go_roundw
     case rel=>exact⟨l+1,by omega,by go_num,hrel,hw2⟩
     case measure=>simp [intOf];omega
  ·obtain rfl:l=6:=by omega
   go_wp2
   go_ret
   exact⟨zf (by rw [hA.out,hall.out]),zer⟩
theorem zdC {es es':List Edg} {bm bn lo hi n c i j k1 k2:Nat} {A:Option Addr} {R:List Nat} {w:World}(hm:zdy w bm es)(hn:zdy w bn es')(hR:Reads w lo hi 1 A n (zF R))(hs:∀ r∈R,Sm r)(hT:Tab w)
  (hi:i<16) (hj:j<16) (h:Few k1 es) (h':Few k2 es') (hk1:k1≤16) (hk2:k2≤16) (hl:k1≤R.length) :
  Calls Tryd.prog 67 #[.pointer (some ⟨bm,0,none⟩),.pointer (some ⟨bn,0,none⟩),.slice A n c,.int .i64 i,.int .i64 j,.bool true] w fun e w'=>e=.returned (.bool (ansB true es es' R i j))∧Ext w w':=by
 have hlen:=za (show R.length=n by have:=hR.length;rw [zad] at this;omega)
 have hA:=za (show ansB true es es' R i j=(List.range 6).all (ansL true es es' R i j) from rfl)
 have Hs:=za hs
 clear hs
 have hn':=hR.len
 go_enter Tryd.func67,Tryd.ntmps67
 go_wp2
 go_loopw [17] (fun v wr=>∃ l:Nat,l≤6∧v=.int .i64 l∧Hid ((List.range l).all (ansL true es es' R i j)=true)∧Ext w wr) (fun v _=>6 - (intOf v).toNat)
 case atStart=>exact⟨0,Nat.zero_le _,rfl,rfl,Ext.refl _⟩
 case round =>
  obtain⟨l,hl6,rfl,hall,zer⟩:=hrel
  by_cases hlt:l<6
  ·have c1:=(hm.ext zer) i l hi hlt
   have c2:=(hn.ext zer) j l hj hlt
   have s1:=zcD h hk1 i l
   have s2:=zcD h' hk2 j l
   have hT':=hT.ext zer
   go_wp2_with (go_at_call 66;refine (zaU _ s1 _ hT').mono ?_;rintro e w1 ⟨B,d,rfl,zep,hx1⟩)
   have hkL:=zn (succ es i l) 32
   have hkm:∀ k,k∈letters (succ es i l) 32→k<R.length:=fun k hk=>by
    obtain⟨e,he,_,h3⟩:=(zbF es i l k).1 (zO.1 hk).2
    have:=h e he
    omega
   have Hkm:=za hkm
   clear hkm
   have hL:=za (show ansL true es es' R i j l=((letters (succ es i l) 32).all (fun k=>!(R.getD k 0&&&succ es' j l==0))&&!(true&&diff (succ es' j l) (zcA R (letters (succ es i l) 32)) != 0)) from rfl)
   have hext1:=zer.trans hx1
   have hrd:=zep
   replace hrd:=Reads.of_own hrd
   clear zep
   generalize letters (succ es i l) 32=ks at *
   go_loopw [14,29] (fun v q wr=>∃ x:Nat,x≤ks.length∧q=.int .i64 x∧∃ y:Nat,v=.int .i64 y∧Sm y∧Hid (y=zcA R (ks.take x))∧Hid ((ks.take x).all (fun k=>!(R.getD k 0&&&succ es' j l==0))=true)∧Ext w1 wr) (fun _ q _=>ks.length - (intOf q).toNat)
   case atStart=>exact⟨0,Nat.zero_le _,rfl,0,rfl,by unfold Sm;omega,rfl,rfl,Ext.refl _⟩
   case round =>
    obtain⟨x,hxl,rfl,y,rfl,hy,hyo,hya,hext2⟩:=hrel
    have hw2:=hext1.trans hext2
    have d2:=hext2.cell_some (hx1.cell_some c2)
    by_cases hlx:x<ks.length
    ·obtain⟨ad,k,rfl,_,_,hk,hkc⟩:=(hrd.ext hext2).nat hlx
     have hkn:k<n:=by have:=Hkm.out k (List.mem_of_getElem? hk.out);have:=hlen.out;omega
     obtain⟨ad',r,rfl,_,_,hr,hrc⟩:=(hR.ext hw2).nat hkn
     have hrs:=Hs.out r (List.mem_of_getElem? hr.out)
     have ba:=za (zbj hrs s2)
     have bo:=za (zcw hy hrs)
     have hrd':R.getD k 0=r:=by rw [List.getD_eq_getElem?_getD,hr.out];rfl
     have Hrd:=za hrd'
     clear hrd'
     have htk:=za (show ks.take (x+1)=ks.take x++[k] by rw [List.take_add_one,hk.out];rfl)
     by_cases hz:r&&&succ es' j l=0
     ·have hz':(bits .and .i64 (r:Int) (succ es' j l:Nat)==0)=true:=by rw [ba.out,hz];rfl
      have Hz:=za hz
      clear hz
      go_wp2
      go_quiet (fail)
      go_wp2
      go_ret
      refine⟨zf ?_,hw2.drewN _⟩
      have hno:ansL true es es' R i j l=false:=by
       exact yV02a2
      rw [hA.out]
      refine (Bool.eq_false_iff.2 fun hc=>?_).symm
      have:=List.all_eq_true.1 hc l (List.mem_range.2 hlt)
      rw [hno] at this
      simp at this
     ·exact yV02a1
    ·obtain rfl:x=ks.length:=by omega
     rw [List.take_length] at hyo hya
     have bd:=za (zbM s2 hy)
     have hLL:=za (show ansL true es es' R i j l=!(true&&diff (succ es' j l) y != 0) by rw [hL.out,hya.out,Bool.true_and,← hyo.out])
     by_cases hd:diff (succ es' j l) y=0
     ·have hz:(true&&diff (succ es' j l) y != 0)=false:=by rw [hd];rfl
      have hz2:(bits .andNot .i64 (succ es' j l:Nat) (y:Nat) != 0)=false:=by rw [bd.out,hd];rfl
      have hrel:Hid ((List.range (l+1)).all (ansL true es es' R i j)=true):=by
       unfold Hid
       rw [List.range_succ,List.all_append,hall.out]
       simp only [List.all_cons,List.all_nil,Bool.and_true,Bool.true_and]
       rw [hLL.out,hz];rfl
      clear hz hd
      go_wp2
      go_roundw
      case rel=>exact⟨l+1,by omega,by go_num,hrel,hw2⟩
      case measure=>simp [intOf];omega
     ·have hz2:(bits .andNot .i64 (succ es' j l:Nat) (y:Nat) != 0)=true:=by rw [bd.out];simp;omega
      have hno:=hLL.out
      rw [show (true&&diff (succ es' j l) y != 0)=true by simp [hd]] at hno
      have Hno:=za hno
      clear hno hd
      go_wp2
      go_ret
      refine⟨zf ?_,hw2⟩
      rw [hA.out]
      refine (Bool.eq_false_iff.2 fun hc=>?_).symm
      have:=List.all_eq_true.1 hc l (List.mem_range.2 hlt)
      rw [Hno.out] at this
      simp at this
  ·obtain rfl:l=6:=by omega
   go_wp2
   go_ret
   exact⟨zf (by rw [hA.out,hall.out]),zer⟩
theorem impl_answers {both:Bool} {es es':List Edg} {bm bn lo hi n c i j k1 k2:Nat} {A:Option Addr} {R:List Nat} {w:World}(hm:zdy w bm es)(hn:zdy w bn es')(hR:Reads w lo hi 1 A n (zF R))(hs:∀ r∈R,Sm r)(hT:Tab w)
  (hi:i<16) (hj:j<16) (h:Few k1 es) (h':Few k2 es') (hk1:k1≤16) (hk2:k2≤16) (hl:k1≤R.length) :
  Calls Tryd.prog 67 #[.pointer (some ⟨bm,0,none⟩),.pointer (some ⟨bn,0,none⟩),.slice A n c,.int .i64 i,.int .i64 j,.bool both] w fun e w'=>e=.returned (.bool (ansB both es es' R i j))∧Ext w w':=by
 cases both
 ·exact zdB hm hn hR hs hT hi hj h h' hk1 hk2 hl
 ·exact zdC hm hn hR hs hT hi hj h h' hk1 hk2 hl
theorem zaT {p:Nat} {es:List Edg} {e:Edg}(h:Few p es)(he:(0≤e.fr∧e.fr<p)∧(0≤e.le∧e.le<6)∧(0≤e.ta∧e.ta<p)):Few p (es++[e]):=fun x hx=>by
 rcases List.mem_append.1 hx with h1|h1
 ·exact h x h1
 ·rw [List.mem_singleton.1 h1];exact he
theorem zdb (p:Nat):Few p []:=fun x hx=>by cases hx
theorem zbq {R M a p:Nat} {few:Int} {w:World}(h:Rd w R M)(hM:M≤900000000)(ha:a<64)(hp1:1≤p)(hp:p≤16) :
  Calls Tryd.prog 89 #[.pointer (some ⟨R,0,none⟩),.int .i64 a,.int .i64 p,.int .i64 few] w (RetG R (M+20000) 20000 w):=by
 have hsm:Sm a:=by unfold Sm;omega
 have hRl:=h.lt
 go_enter Tryd.func89,Tryd.ntmps89
 go_wp2_with fail
 refine (zai a hsm _).mono ?_
 rintro e w1 ⟨B,d,rfl,zet,hx1⟩
 obtain⟨bz,bG⟩:=zv hx1
 have hw1:=(((Ext.refl w).alloc _).alloc _).trans hx1
 have hl6:=zn a 6
 have hlm:=za (fun k (hk:k∈letters a 6)=>(zO.1 hk).1)
 have hrd1:=(Reads.of_own zet).more (lo':=w.heap.size+2) (hi':=w1.heap.size) (by simp) (Nat.le_refl _)
 have zeq:Acc w w1 w1 R (w.heap.size+1) M a p (.slice none 0 0) []:=⟨bG,World.ownsRow_nil _ _ _ _,h.ext hw1,hw1.dr,Frm.refl _ _,hRl,hw1.size,by omega⟩
 have bz1:Blk w1 w.heap.size 39 #[.int .i64 0,.int .i64 0,.slice none 0 0]:=bz
 clear zet bG hx1 bz
 generalize letters a 6=ls at *
 have hz1:=hw1.size
 go_wp2_with fail
 go_loopw [11] (fun i wr=>∃ k:Nat,k≤p∧i=.int .i64 k∧∃ (v:Value) (es:List Edg),Acc w w1 wr R (w.heap.size+1) (M+k*1000) a p v es∧es.length≤k*1000∧Hid (Few p es)) (fun i _=>p - (intOf i).toNat)
 case atStart=>exact⟨0,Nat.zero_le _,rfl,_,[],zeq.more (Nat.le_add_right _ _),Nat.zero_le _,zdb p⟩
 case round =>
  clear zeq
  obtain⟨k,hk,rfl,v,es,zeq,hel,hfew⟩:=hrel
  by_cases hlt:k<p
  ·go_wp2_with fail
   go_loopw [12] (fun i wr=>∃ j:Nat,j≤ls.length∧i=.int .i64 j∧∃ (v:Value) (es:List Edg),Acc w w1 wr R (w.heap.size+1) (M+k*1000+j*100) a p v es∧es.length≤k*1000+j*100∧Hid (Few p es)) (fun i _=>ls.length - (intOf i).toNat)
   case atStart=>exact⟨0,Nat.zero_le _,rfl,v,es,zeq.more (Nat.le_add_right _ _),Nat.le_trans hel (Nat.le_add_right _ _),hfew⟩
   case round =>
    clear zeq hel hfew
    obtain⟨j,hj,rfl,v,es,zeq,hel,hfew⟩:=hrel
    by_cases hlj:j<ls.length
    ·go_wp2_with fail
     go_loopw [13] (fun i wr=>∃ x:Nat,x≤p∧i=.int .i64 x∧∃ (v:Value) (es:List Edg),Acc w w1 wr R (w.heap.size+1) (M+k*1000+j*100+x) a p v es∧es.length≤k*1000+j*100+x∧Hid (Few p es)) (fun i _=>p - (intOf i).toNat)
     case atStart=>exact⟨0,Nat.zero_le _,rfl,v,es,zeq.more (Nat.le_add_right _ _),Nat.le_trans hel (Nat.le_add_right _ _),hfew⟩
     case round =>
      clear zeq hel hfew
      obtain⟨x,hx,rfl,v,es,zeq,hel,hfew⟩:=hrel
      by_cases hlx:x<p
      ·go_wp2_with fail
       refine (zg zeq.rd (by omega)).mono ?_
       rintro e w2 ⟨y,rfl,_,_,hr2,hd2⟩
       have hacc2:=zeq.drawn hd2 hr2
       obtain⟨ad,l,rfl,_,hadhi,hl,hlc⟩:=(hacc2.old hrd1 (by omega)).nat hlj
       have hl6':=hlm.out l (List.mem_of_getElem? hl.out)
       by_cases hy:y=0
       ·subst hy
        have cG:∀ W,Ext w2 W→∀ q,W.cell? ⟨w.heap.size+1,q,none⟩=#[Value.int .i64 a,.int .i64 p,v][q]?:=fun W hW=>(hacc2.blk.ext hW).cell
        have cL:∀ W,Ext w2 W→W.cell? (ad.add j)=some (.int .i64 (l:Nat)):=fun W hW=>hW.cell_some hlc
        have hj0:(0:Int)≤(j:Int):=by omega
        have hj1:(j:Int)<(ls.length:Int):=by omega
        go_wp2_with fail
        refine tR (fun X=>Ext w2 X) [10,12] (Ord.of [0,1,2,3,4,5,6,7,8,9,10,11,12]) ?_
        refine tQ ?_
        refine zc fun K hK=>?_;go_simp
        refine hK.out _ _ ((Ext.refl _).drew.alloc _) ?_
        refine pT ?_
        refine zi fun K hK=>?_
        refine zab w1 w2.drew _ _ _ rfl 116 _ 3 24 Tryd.underlying37 zN rfl (by decide) v es.length (zd es) _ _ rfl rfl hacc2.fr.size hacc2.own rfl (by simp [Value.oneCell']) (by unfold maxLen;omega) (by omega) ?_
        intro g cap w3 zev hg3 hat3 hlt3
        refine hK.out _ _ ?_
        refine pT ?_
        refine tQ ?_
        obtain⟨h1,h2,h3⟩:=(hacc2.ext ((Ext.refl _).drew)).push (e:=⟨k,l,x⟩) (W':=w3) zev hg3 hat3
        have h1':=h1.out
        refine zi fun K hK=>?_
        go_simp
        refine hK.out _ _ ?_
        refine zr ?_
        go_wp2_with fail
        go_roundw
        case rel=>exact⟨x+1,by omega,by go_num,_,_,h3.more (by omega),by simp;omega,zaT hfew.out (by simp;omega)⟩
        case measure=>simp [intOf];omega
       ·have hy':((y:Int)==0)=false:=by simp;omega
        go_wp2_with fail
        go_roundw
        case rel=>exact⟨x+1,by omega,by go_num,v,es,hacc2.more (by omega),by omega,hfew⟩
        case measure=>simp [intOf];omega
      ·obtain rfl:p=x:=by omega
       have e1:es.length≤k*1000+(j+1)*100:=by omega
       have e2:M+k*1000+j*100+p≤M+k*1000+(j+1)*100:=by omega
       go_wp2_with fail
       go_roundw
       case rel=>exact⟨j+1,by omega,by go_num,v,es,zeq.more e2,e1,hfew⟩
       case measure=>simp [intOf];omega
    ·obtain rfl:j=ls.length:=by omega
     have e1:es.length≤(k+1)*1000:=by omega
     have e2:M+k*1000+ls.length*100≤M+(k+1)*1000:=by omega
     go_wp2_with fail
     go_roundw
     case rel=>exact⟨k+1,by omega,by go_num,v,es,zeq.more e2,e1,hfew⟩
     case measure=>simp [intOf];omega
  ·obtain rfl:p=k:=by omega
   obtain⟨A,n,c,rfl⟩:=zeq.form
   obtain⟨rfl,_⟩:=zeq.reads
   have hcap:=zbR zeq.own
   have cG:=zeq.blk.cell
   have bz2:=bz1.frm zeq.fr (by omega)
   have cz:=bz2.cell
   have hzz:=bz1.lt
   have fz:=bz2.frozen
   obtain⟨f1,f2,f3⟩:=zeq.fin (Z:=w.heap.size) (Nat.le_refl _) (by omega) (.int .i64 a) (.int .i64 p) (.slice A es.length c)
   have Hfin:=za (show RetG R (M+20000) 20000 w (.returned (.agg #[.int .i64 a,.int .i64 p,.slice A es.length c])) _ from ⟨⟨a,p,es⟩,A,es.length,c,rfl,f1,⟨a,p,rfl,ha,rfl,hp1,hp,hfew.out⟩,by omega,f2.more (by omega),f3⟩)
   clear bz1 hrd1 hlm f1 f2 f3
   go_wp2_with fail
   exact bodyPost_ret (v:=.agg #[.int .i64 a,.int .i64 p,.slice A es.length c]) (by simp [results,Tryd.results89,go_sem,cz]) rfl Hfin.out
def shA (al p k:Nat) (a:Aut):Prop:=a.al=al∧a.next.length=p∧a.acc.length=p∧∀ l∈a.next,l.length=k
theorem zcp {R M a p:Nat} {w:World}(h:Rd w R M)(hM:M≤900000000)(ha:a<64)(hp:p≤16) :
  Calls Tryd.prog 118 #[.pointer (some ⟨R,0,none⟩),.int .i64 a,.int .i64 p] w (zcb R (M+400) (shA a p (letters a 6).length) w):=by
 have hsm:Sm a:=by unfold Sm;omega
 have hRl:=h.lt
 go_enter Tryd.func118,Tryd.ntmps118
 have hxz:=(Ext.refl w).alloc (.cells #[.int .i64 0,.slice none 0 0,.slice none 0 0] 30)
 have bz:=Blk.new w 30 #[.int .i64 0,.slice none 0 0,.slice none 0 0]
 have hxG:=(Ext.refl (w.alloc (.cells #[.int .i64 0,.slice none 0 0,.slice none 0 0] 30))).alloc (.cells #[.int .i64 a,.slice none 0 0,.slice none 0 0] 30)
 have bG:=Blk.new (w.alloc (.cells #[.int .i64 0,.slice none 0 0,.slice none 0 0] 30)) 30 #[.int .i64 a,.slice none 0 0,.slice none 0 0]
 have hz1:=bz.lt
 have hsz:(w.alloc (.cells #[.int .i64 0,.slice none 0 0,.slice none 0 0] 30)).heap.size=w.heap.size+1:=by simp
 rw [hsz] at bG
 go_upto_region 2 with fail
 generalize (w.alloc (.cells #[.int .i64 0,.slice none 0 0,.slice none 0 0] 30)).alloc (.cells #[.int .i64 a,.slice none 0 0,.slice none 0 0] 30)=w2 at *
 generalize w.alloc (.cells #[.int .i64 0,.slice none 0 0,.slice none 0 0] 30)=w1 at *
 go_wp2_with fail
 refine (zai a hsm _).mono ?_
 rintro e w3 ⟨B,d,rfl,-,hx3⟩
 have zeq:zax w1 w3 R (w.heap.size+1) M a (.slice none 0 0) [] [] (.slice none 0 0) []:=⟨bG.ext hx3,World.ownsRow_nil _ _ _ _,zq.nil _ _,World.ownsRow_nil _ _ _ _,h.ext ((hxz.trans hxG).trans hx3),(hxG.trans hx3).dr,by omega,by omega⟩
 have hl6:=zn a 6
 clear bG hx3 hxG
 generalize (letters a 6).length=k at *
 go_wp2_with fail
 go_loopw [9] (fun iv wr=>∃ (i:Nat) (v:Value) (rows:List Value) (ls:List (List Int)) (vA:Value) (acc:List Bool),i≤p∧iv=.int .i64 (i:Nat)∧zax w1 wr R (w.heap.size+1) (M+i*20) a v rows ls vA acc∧ls.length=i∧acc.length=i∧Hid (∀ l∈ls,l.length=k)) (fun iv _=>p - (intOf iv).toNat)
 case atStart=>exact⟨0,_,[],[],_,[],Nat.zero_le _,rfl,zeq,rfl,rfl,za (fun l hl=>by simp at hl)⟩
 case round =>
  clear zeq
  obtain⟨i,v,rows,ls,vA,acc,hi,rfl,zeq,hll,hla,hlk⟩:=hrel
  by_cases hip:i<p
  ·have hlow:=za zeq.low
   have hK:=za (show w1.heap.size≤wr.heap.size from zeq.dr.size)
   have h0:=World.ownsRow_made (base:=wr.heap.size) (e:=3) (size:=1) wr #[] 0 (Nat.le_refl _) (Nat.zero_le _) rfl
   have hx0:=(Ext.refl wr).alloc (.cells #[] 3)
   have hacc0:=zeq.ext hx0
   go_upto_region 7 with fail
   clear zeq
   obtain⟨wK,hwK⟩:∃ wK,wK=wr:=⟨_,rfl⟩
   rw [← hwK] at h0 hlow hK hacc0 hx0 ⊢
   clear hwK
   generalize wK.alloc (.cells #[] 3)=w4 at *
   go_wp2_with fail
   go_loopw [10,11] (fun rv jv wr=>∃ (j:Nat) (l:List Int),j≤k∧jv=.int .i64 (j:Nat)∧zax w1 wr R (w.heap.size+1) (M+i*20+j) a v rows ls vA acc∧l.length=j∧wr.ownsRow wK.heap.size 3 1 rv j (ints l)∧Hid (wK.heap.size≤wr.heap.size)) (fun _ jv _=>k - (intOf jv).toNat)
   case atStart=>exact⟨0,[],Nat.zero_le _,rfl,hacc0,rfl,h0,za hx0.size⟩
   case round =>
    clear hacc0 h0
    obtain⟨j,l,hj,rfl,zeq,hlj,hrow,hsK⟩:=hrel
    by_cases hjk:j<k
    ·obtain⟨AR,cR,rfl⟩:=zl hrow
     go_wp2_with fail
     refine (zg zeq.rd (by omega)).mono ?_
     rintro e w5 ⟨y,rfl,-,-,hr5,hd5⟩
     have hacc5:=zeq.drawn hd5 hr5
     have hrow5:=zaw hrow hd5 (fun b h1 e=>by have:=zeq.dr.size;have:=zeq.hR;have:=hK.out;omega)
     have hs5:wK.heap.size≤w5.heap.size:=Nat.le_trans hsK.out hd5.size
     have hl':=za hlj
     clear hlj zeq hrow
     go_wp2_with (at_builtin;refine zJ wK w5 rfl _ _ _ rfl 3 _ 1 8 Tryd.underlying62 zS rfl (by decide) (.slice AR j cR) j (ints l) _ _ rfl rfl hs5 hrow5 rfl (by simp [Value.oneCell']) (by unfold maxLen;omega) (by omega) ?_;intro g5 cap5 w6 hown6 hg6 hat6 hlt6)
     go_roundw
     case rel=>exact⟨j+1,l++[(y:Int)],by omega,by go_num,(hacc5.side hlow.out hK.out hrow5 hg6).more (by omega),by simp [hl'.out],by simpa [ints] using hown6,za (Nat.le_trans hs5 hg6.size)⟩
     case measure=>simp [intOf];omega
    ·obtain rfl:j=k:=by omega
     obtain⟨AR,cR,rfl⟩:=zl hrow
     have cG:=zeq.blk.cell
     have hs1:=zeq.dr.size
     have hrow':wr.ownsRow wK.heap.size 3 1 (.slice AR j cR) l.length (ints l):=by rw [hlj];exact hrow
     go_upto_region 12 with (at_builtin;refine zJ w1 wr rfl _ _ _ rfl 62 _ 1 24 Tryd.underlying22 zbb rfl (by decide) v ls.length rows _ _ rfl rfl hs1 zeq.nx rfl (zaF _ _ _) (by unfold maxLen;omega) (by omega) ?_;intro g5 cap5 w6 hown6 hg6 hat6 hlt6;obtain⟨q1,q2,q3⟩:=zeq.pushRow hlow.out hK.out hrow' hown6 hg6 hat6;have q1':=q1.out)
     rw [hll] at q3
     clear q1 q1' q2 hown6 hg6 hat6 hlt6 hrow hrow' cG zeq
     have hlk7:=za (show ∀ l'∈ls++[l],l'.length=j from fun l' hl'=>by
      rcases List.mem_append.1 hl' with h1|h1
      ·exact hlk.out l' h1
      ·rw [List.mem_singleton.1 h1];exact hlj)
     have hll7:(ls++[l]).length=i+1:=by simp [hll]
     clear hlj hll
     generalize ls++[l]=ls7 at *
     generalize rows++[.slice AR j cR]=rows7 at *
     generalize w6.setCell ⟨w.heap.size+1,1,none⟩ (.slice (some ⟨g5,0,none⟩) (i+1) cap5)=w7 at *
     generalize Value.slice (some ⟨g5,0,none⟩) (i+1) cap5=v7 at *
     have cG:∀ W,Dr R w7 W→∀ q,W.cell? ⟨w.heap.size+1,q,none⟩=#[Value.int .i64 a,v7,vA][q]?:=fun W hW=>(q3.blk.dr hW (by omega)).cell
     refine tR (fun X=>Dr R w7 X) [6,8] (Ord.of [0,1,2,3,4,5,6,7,8]) ?_
     refine tQ ?_
     refine zc fun K hK=>?_;go_simp
     refine (zg (n:=3) (q3.rd.ext ((Ext.refl _).drew)) (by omega)).mono ?_
     rintro e w8 ⟨z,rfl,-,-,hr8,hd8⟩
     have hd78:Dr R w7 w8:=((Dr.refl R w7).drew).trans hd8
     have hacc8:=q3.drawn hd78 hr8
     refine hK.out _ _ hd78 ?_
     refine pT ?_
     refine tQ ?_
     refine zc fun K hK=>?_;go_simp
     refine hK.out _ _ (hd78.alloc _) ?_
     refine pT ?_
     refine zi fun K hK=>?_
     trace_state
     refine zab w1 w8 _ _ _ rfl 4 _ 1 1 Tryd.underlying23 zal rfl (by decide) vA acc.length (zL acc) _ _ rfl rfl hacc8.dr.size hacc8.acc rfl (by simp [Value.oneCell']) (by unfold maxLen;omega) (by omega) ?_
     intro g9 cap9 w9 hown9 hg9 hat9 hlt9
     refine hK.out _ _ ?_
     refine pT ?_
     refine tQ ?_
     obtain⟨p1,p2,p3⟩:=hacc8.pushAcc (x:=decide (0<z)) (W':=w9) hown9 hg9 hat9
     have p1':=p1.out
     rw [hla] at p3
     refine zi fun K hK=>?_
     go_simp
     refine hK.out _ _ ?_
     refine zr ?_
     go_wp2_with fail
     go_roundw
     case rel=>exact⟨i+1,_,_,_,_,_,by omega,by go_num,p3.more (by omega),hll7,by simp [hla],hlk7⟩
     case measure=>simp [intOf];omega
  ·obtain rfl:i=p:=by omega
   obtain⟨A5,c5,rfl⟩:=zl zeq.nx
   obtain⟨B5,d5,rfl⟩:=zl zeq.acc
   obtain⟨f1,f2⟩:=zeq.fin (N:=M+400) (sh:=shA a i k) hxz bz rfl hRl (Nat.le_refl _) hz1 (by omega) ⟨rfl,hll,hla,hlk.out⟩
   rw [hll,hla] at f1 f2
   have cG:=zeq.blk.cell
   have bz5:=bz.dr zeq.dr (by omega)
   have cZ:=bz5.cell
   have fZ:=bz5.frozen
   go_wp2_with fail
   have cf:=f2.cell
   exact bodyPost_ret (v:=.agg #[.int .i64 a,.slice A5 i c5,.slice B5 i d5]) (by simp [results,Tryd.results118,go_sem,cf]) rfl f1.out
theorem zaf {w:World} {base:Nat} {e:TypeId} {size n c:Nat} {A:Option Addr} {xs:List Value}(h:w.ownsRow base e size (.slice A n c) n xs)(hn:0<n):∃ g,A=some ⟨g,0,none⟩∧base≤g∧g<w.heap.size:=by
 rcases h.2 with ⟨_,h0⟩|⟨g,cap,cur,hv,hg,hh,_⟩
 ·omega
 ·injection hv with h1 h2 h3
  exact⟨g,h1,hg,(Array.getElem?_eq_some_iff.1 hh).1⟩
def blk (A:Option Addr) (b:Nat):Prop:=∃ a,A=some a∧a.block=b
theorem tot_cons (l:List Int) (r:List (List Int)):tot (l :: r)=l.length+tot r:=by simp [tot]
theorem zq.set_ {w w':World} {base j:Nat} {rows:List Value} {ls:List (List Int)} {A:Option Addr} {c:Nat} {l:List Int}(h:zq w base rows ls)(hr:rows[j]?=some (.slice A l.length c))
  (hf:Frm (blk A) w w') (zep:w'.ownsRow base 3 1 (.slice A l.length c) l.length (ints l)):zq w' base rows (ls.set j l):=by
 have hj:j<rows.length:=(List.getElem?_eq_some_iff.1 hr).1
 refine⟨by simp [h.1],fun i row m hi hm=>?_,h.2.2⟩
 by_cases hij:i=j
 ·subst hij
  rw [hr] at hi
  obtain rfl:=Option.some.inj hi
  rw [List.getElem?_set_self (by rw [← h.1];exact hj)] at hm
  obtain rfl:=Option.some.inj hm
  exact zep
 ·rw [List.getElem?_set_ne (fun e=>hij e.symm)] at hm
  refine zj (h.2.1 i row m hi hm) hf (fun b hb hS=>?_)
  obtain⟨ad,rfl,rfl⟩:=hS
  exact h.2.2 i j row _ ad.block hi hr hij hb rfl
section
variable {w0 W W':World} {R G M N:Nat} {al:Int} {v vA:Value} {rows:List Value} {ls:List (List Int)} {acc:List Bool}
theorem zax.of {A A':Option Addr} {n c n' c':Nat} {a:Aut}(ho:zX W w0.heap.size A n c A' n' c' a)(hr:Rd W R M)(hd:Dr R w0 W)(hR:R<w0.heap.size) :
  ∃ rows,zax w0 (W.alloc (.cells #[.int .i64 a.al,.slice A n c,.slice A' n' c'] 30)) R W.heap.size M a.al (.slice A n c) rows a.next (.slice A' n' c') a.acc:=by
 obtain⟨⟨rows,h1,h2⟩,h3,h4,h5⟩:=ho
 have hx:=(Ext.refl W).alloc (.cells #[.int .i64 a.al,.slice A n c,.slice A' n' c'] 30)
 refine⟨rows,Blk.new W _ _,zm h1 hx,h2.keep hx.toFrm (fun _ _=>id),?_,hr.ext hx,hd.ext hx,hR,hd.size⟩
 rw [← h5]
 exact zm h4 hx
theorem zax.setAcc {g n c i:Nat} {x:Bool}(h:zax w0 W R G M al v rows ls (.slice (some ⟨g,0,none⟩) n c) acc)(hn:n=acc.length) :
  zax w0 (W.setCell ⟨g,i,none⟩ (.bool x)) R G M al v rows ls (.slice (some ⟨g,0,none⟩) n c) (acc.set i x):=by
 subst hn
 have hf:=Frm.setCell W g i (.bool x)
 have hg:=(h.acc.lt g rfl).1
 have hRG:=h.hR
 have hst:=(h.acc.stored i (.bool x)).1
 rw [show (zL acc).set i (.bool x)=zL (acc.set i x) by simp [zL,List.map_set]] at hst
 refine⟨h.blk.frm hf (fun e=>zo h.acc h.blk (by decide) rfl e.symm),zj h.nx hf (fun b hb hS=>?_),h.rows.frm hf (fun i' r b hr hb hS=>?_),by simpa using hst,h.rd.frm hf (fun k hk e=>by omega),h.dr.setNew (p:=⟨g,i,none⟩) hg _,hRG,h.hG⟩
 ·subst hS;exact zZ h.nx h.acc (by decide) hb rfl
 ·subst hS
  obtain⟨l',_,ho⟩:=h.rows.row hr
  exact zZ ho h.acc (by decide) hb rfl
theorem zax.setRow {g n c i k:Nat} {x:Int} {l:List Int}(h:zax w0 W R G M al v rows ls vA acc)(hr:rows[i]?=some (.slice (some ⟨g,0,none⟩) n c))(hl:ls[i]?=some l)(hn:n=l.length) :
  zax w0 (W.setCell ⟨g,k,none⟩ (.int .i64 x)) R G M al v rows (ls.set i (l.set k x)) vA acc:=by
 subst hn
 have hf:=Frm.setCell W g k (.int .i64 x)
 have ho:=h.rows.2.1 i _ l hr hl
 have hg:=(ho.lt g rfl).1
 have hRG:=h.hR
 have hst:=(ho.stored k (.int .i64 x)).1
 rw [show (ints l).set k (.int .i64 x)=ints (l.set k x) by simp [ints,List.map_set]] at hst
 have hf':Frm (Go.Proofs.YtfcjhpodichpjaaDoor.blk (some ⟨g,0,none⟩)) W (W.setCell ⟨g,k,none⟩ (.int .i64 x)):=hf.mono (fun b _ hb=>⟨_,rfl,hb.symm⟩)
 refine⟨h.blk.frm hf (fun e=>zo ho h.blk (by decide) rfl e.symm),?_,?_,zj h.acc hf (fun b hb hS=>?_),h.rd.frm hf (fun k hk e=>by omega),h.dr.setNew (p:=⟨g,k,none⟩) hg _,hRG,h.hG⟩
 ·rw [List.length_set]
  exact zj h.nx hf (fun b hb hS=>by subst hS;exact zZ h.nx ho (by decide) hb rfl)
 ·have:=h.rows.set_ (w':=W.setCell ⟨g,k,none⟩ (.int .i64 x)) (j:=i) (l:=l.set k x) (A:=some ⟨g,0,none⟩) (c:=c) (by simpa using hr) hf' (by simpa using hst)
  exact this
 ·subst hS;exact zZ h.acc ho (by decide) hb rfl
theorem zax.row {g n c i:Nat} {l:List Int}(h:zax w0 W R G M al (.slice (some ⟨g,0,none⟩) n c) rows ls vA acc)(hl:ls[i]?=some l)(hn:n=ls.length) :
  ∃ Ar cr,rows[i]?=some (.slice Ar l.length cr)∧W.cell? ⟨g,i,none⟩=some (.slice Ar l.length cr)∧W.ownsRow w0.heap.size 3 1 (.slice Ar l.length cr) l.length (ints l):=by
 subst hn
 have hi:i<ls.length:=(List.getElem?_eq_some_iff.1 hl).1
 have hi':i<rows.length:=by rw [h.rows.1];exact hi
 have hr:rows[i]?=some rows[i]:=List.getElem?_eq_getElem hi'
 have ho:=h.rows.2.1 i _ l hr hl
 obtain⟨Ar,cr,e⟩:=zl ho
 rw [e] at hr ho
 exact⟨Ar,cr,hr,by rw [h.nx.cellAt i (by omega),hr],ho⟩
end
theorem zdq {R M a p:Nat} {w:World}(h:Rd w R M)(hM:M≤900000000)(ha:a<64)(hp0:1≤p)(hp:p≤16) :
  Calls Tryd.prog 98 #[.pointer (some ⟨R,0,none⟩),.int .i64 a,.int .i64 p] w (zcb R (M+400) (shA a p (letters a 6).length) w):=by
 have hRl:=h.lt
 go_enter Tryd.func98,Tryd.ntmps98
 have hxz:=(Ext.refl w).alloc (.cells #[.int .i64 0,.slice none 0 0,.slice none 0 0] 30)
 have bz:=Blk.new w 30 #[.int .i64 0,.slice none 0 0,.slice none 0 0]
 have hz1:=bz.lt
 go_wp2_with fail
 generalize w.alloc (.cells #[.int .i64 0,.slice none 0 0,.slice none 0 0] 30)=w1 at *
 refine (zcp (h.ext hxz) hM ha hp).mono ?_
 rintro e w2 ⟨b,A,n,c,A',n',c',rfl,zep,hsh,hr2,hd2⟩
 obtain⟨rows,zeq⟩:=zax.of zep hr2 hd2 (by omega)
 obtain⟨s1,s2,s3,s4⟩:=hsh.out
 have hn:n=b.next.length:=zep.2.1
 have hn':n'=b.acc.length:=zep.2.2.2
 obtain⟨bal,bnx,bac⟩:=b
 dsimp only at *
 subst s1
 rw [s2] at hn;rw [s3] at hn'
 replace hn:=hn.symm
 replace hn':=hn'.symm
 subst hn;subst hn'
 have hG:=hd2.size
 clear zep hr2 hd2 hsh
 have S4:=za s4
 clear s4
 have hl6:=zn a 6
 generalize (letters a 6).length=k at *
 obtain⟨gA,rfl,hgA,-⟩:=zaf (s3 ▸ zeq.acc) hp0
 obtain⟨gN,rfl,hgN,-⟩:=zaf (s2 ▸ zeq.nx) hp0
 have S2:=za s2
 have S3:=za s3
 clear s2 s3
 go_upto_region 2 with fail
 generalize w2.alloc (.cells #[.int .i64 a,.slice (some ⟨gN,0,none⟩) p c,.slice (some ⟨gA,0,none⟩) p c'] 30)=w3 at *
 generalize w2.heap.size=G at *
 go_wp2_with fail
 go_loopw [8] (fun iv wr=>∃ (i:Nat) (acc:List Bool),i≤p∧iv=.int .i64 (i:Nat)∧zax w1 wr R G (M+400) a (.slice (some ⟨gN,0,none⟩) p c) rows bnx (.slice (some ⟨gA,0,none⟩) p c') acc∧Hid (acc.length=p)) (fun iv _=>p - (intOf iv).toNat)
 case atStart=>exact⟨0,_,Nat.zero_le _,rfl,zeq,S3⟩
 case round =>
  clear zeq
  obtain⟨i,acc,hi,rfl,zeq,hal⟩:=hrel
  by_cases hip:i<p
  ·have cG:=zeq.blk.cell
   have ho:=zeq.acc
   rw [hal.out] at ho
   obtain⟨o0,c0⟩:=zav ho i (by omega)
   have f0:=ho.frozenAt i
   have hset:=zeq.setAcc (i:=i) (x:=decide ((i:Int)<(p:Int) - 1)) hal.out.symm
   clear ho
   go_wp2_with fail
   go_roundw
   case rel=>exact⟨i+1,_,by omega,by go_num,hset,za (by rw [List.length_set];exact hal.out)⟩
   case measure=>simp [intOf];omega
  ·clear hi
   have hp1:p - 1<bnx.length:=by have:=S2.out;omega
   obtain⟨l0,hl0⟩:∃ l,bnx[p - 1]?=some l:=⟨_,List.getElem?_eq_getElem hp1⟩
   have hll:=za (S4.out l0 (List.mem_of_getElem? hl0))
   have Hl0:=za hl0
   have hpc:((p:Int) - 1).toNat=p - 1:=by omega
   clear hl0 hp1
   go_wp2_with fail
   go_loopw [9] (fun iv wr=>∃ (j:Nat) (ls:List (List Int)) (l:List Int),j≤k∧iv=.int .i64 (j:Nat)∧zax w1 wr R G (M+400) a (.slice (some ⟨gN,0,none⟩) p c) rows ls (.slice (some ⟨gA,0,none⟩) p c') acc∧Hid (ls.length=p)∧Hid (∀ l∈ls,l.length=k)∧Hid (ls[p - 1]?=some l)) (fun iv _=>k - (intOf iv).toNat)
   case atStart=>exact⟨0,_,_,Nat.zero_le _,rfl,zeq,S2,S4,Hl0⟩
   case round =>
    clear zeq hll
    obtain⟨j,ls,l,hj,rfl,zeq,hls,hlk,hl0⟩:=hrel
    have hll:=hlk.out l (List.mem_of_getElem? hl0.out)
    obtain⟨Ar,cr,hrr,hcell,hor⟩:=zeq.row hl0.out hls.out.symm
    have cG:=zeq.blk.cell
    rw [hll] at hrr hcell hor
    have HR:=za hrr
    clear hrr
    by_cases hjk:j<k
    ·obtain⟨g,rfl,-,-⟩:=zaf hor (by omega)
     obtain⟨o0,c0⟩:=zav hor j (by omega)
     have f0:=hor.frozenAt j
     have hset:=zeq.setRow (k:=j) (x:=(p:Int) - 1) HR.out hl0.out hll.symm
     clear hor
     have HL:=za hll
     clear hll
     go_wp2_with fail
     go_roundw
     case rel =>
      refine⟨j+1,_,l.set j ((p:Int) - 1),by omega,by go_num,hset,za (by rw [List.length_set];exact hls.out),za (fun l' hl'=>?_),za ?_⟩
      ·rcases List.mem_or_eq_of_mem_set hl' with h1|h1
       ·exact hlk.out l' h1
       ·rw [h1,List.length_set];exact HL.out
      ·have:=hls.out
       rw [List.getElem?_set_self (by omega)]
     case measure=>simp [intOf];omega
    ·obtain⟨f1,f2⟩:=zeq.fin (N:=M+400) (sh:=shA a p k) hxz bz rfl hRl (Nat.le_refl _) hz1 (by omega) ⟨rfl,hls.out,hal.out,hlk.out⟩
     have bz5:=bz.dr zeq.dr (by omega)
     have cZ:=bz5.cell
     have fZ:=bz5.frozen
     clear hor hll
     go_wp2_with fail
     have cf:=f2.cell
     exact bodyPost_ret (v:=.agg #[.int .i64 a,.slice (some ⟨gN,0,none⟩) p c,.slice (some ⟨gA,0,none⟩) p c']) (by simp [results,Tryd.results98,go_sem,cf]) rfl f1.out
def RetStr (L:Nat) (w:World) (e:Ending) (w':World):Prop:=∃ s:ByteArray,e=.returned (.string s)∧s.size≤L∧Ext w w'
theorem conv_one (w:World) (x:Int):(convert 36 9 (.slice (some ⟨w.heap.size,0,none⟩) 1 1)).run Tryd.prog (w.alloc (.cells #[.int .u8 x] 5))=.ok (.string (strOfNums [x])) (w.alloc (.cells #[.int .u8 x] 5)):=
 run_convert_bytes_arg _ _ 5 Tryd.underlying36 Tryd.underlying5 w.heap.size 0 1 1 [x] rfl (fun i hi=>by
  obtain rfl:i=0:=by omega
  rw [(Blk.new w 5 #[.int .u8 x]).cell];rfl) _ Tryd.underlying9
theorem zcW (x:Int):(strOfNums [x]).size=1:=by simp [strOfNums];rfl
theorem zdo {l:Int} {w:World}(h0:0≤l)(h1:l<6) :
  Calls Tryd.prog 78 #[.int .i64 l] w (RetStr 1 w):=by
 have hc:=conv_one w
 go_enter Tryd.func78,Tryd.ntmps78
 go_wp2
 go_ret
 exact⟨_,rfl,Nat.le_of_eq (zcW _),(Ext.refl _).alloc _⟩
theorem zaP {a:Nat} {w:World}(ha:a<64) :
  Calls Tryd.prog 41 #[.int .i64 a] w (RetStr 6 w):=by
 have hsm:Sm a:=by unfold Sm;omega
 have hd:=za (show decide (0≤(a:Int)∧(a:Int)≤63)=true by simp;omega)
 by_cases h0:a=0
 ·subst h0
  rw [show ((0:Nat):Int)=0 from rfl]
  have hd0:=za (show decide ((0:Int)≤0∧(0:Int)≤63)=true by decide)
  go_enter Tryd.func41,Tryd.ntmps41
  go_wp2_with (go_at_call 74;refine (zam _ _).mono ?_;rw [hd0.out];rintro e w' ⟨rfl,rfl⟩)
  go_ret
  exact⟨_,rfl,by decide,Ext.refl _⟩
 ·have h0':((a:Int)==0)=false:=by simp;omega
  go_enter Tryd.func41,Tryd.ntmps41
  go_wp2_with fail
  refine (zam _ _).mono ?_
  rw [hd.out]
  rintro e w' ⟨rfl,rfl⟩
  go_wp2_with fail
  refine (zai a hsm _).mono ?_
  rintro e w1 ⟨B,d,rfl,zet,hx1⟩
  have hl6:=zn a 6
  have hlm:=za (fun k (hk:k∈letters a 6)=>(zO.1 hk).1)
  have hrd:=Reads.of_own zet
  clear zet
  generalize letters a 6=ls at *
  go_wp2_with fail
  go_loopw [3,5] (fun v i wr=>∃ k:Nat,k≤ls.length∧i=.int .i64 k∧∃ s:ByteArray,v=.string s∧s.size≤k∧Ext w1 wr) (fun _ i _=>ls.length - (intOf i).toNat)
  case atStart=>exact⟨0,Nat.zero_le _,rfl,_,rfl,Nat.le_refl _,Ext.refl _⟩
  case round =>
   obtain⟨k,hk,rfl,s,rfl,hs,zer⟩:=hrel
   by_cases hlt:k<ls.length
   ·obtain⟨ad,l,rfl,_,_,hl,hlc⟩:=(hrd.ext zer).nat hlt
    have hl6':=hlm.out l (List.mem_of_getElem? hl.out)
    go_wp2_with fail
    refine (zdo (l:=(l:Int)) (by omega) (by omega)).mono ?_
    rintro e w2 ⟨t,rfl,ht,hx2⟩
    have hst:s.size+t.size≤7:=by omega
    go_wp2_with fail
    go_roundw
    case rel=>exact⟨k+1,by omega,by go_num,_,rfl,by rw [ByteArray.size_append];omega,zer.trans hx2⟩
    case measure=>simp [intOf];omega
   ·obtain rfl:k=ls.length:=by omega
    go_wp2_with fail
    go_ret
    exact⟨s,rfl,by omega,hx1.trans zer⟩
def RetAl (w:World) (e:Ending) (w':World):Prop:=∃ (a:Nat) (ok:Bool),e=.returned (.tuple #[.int .i64 a,.bool ok])∧a<64∧Ext w w'
theorem zcn {x:ByteArray} {w:World} :
  Calls Tryd.prog 114 #[.string x] w (RetAl w):=by
 go_enter Tryd.func114,Tryd.ntmps114
 go_wp2_with fail
 go_loopw [4] (fun i wr=>∃ k:Nat,k≤64∧i=.int .i64 k∧Ext w wr) (fun i _=>64 - (intOf i).toNat)
 case atStart=>exact⟨0,Nat.zero_le _,rfl,Ext.refl _⟩
 case round =>
  obtain⟨k,hk,rfl,zer⟩:=hrel
  by_cases hlt:k<64
  ·go_wp2_with fail
   refine (zaP hlt).mono ?_
   rintro e w2 ⟨t,rfl,ht,hx2⟩
   cases hxt:t.toList==x.toList
   ·go_wp2_with fail
    go_roundw
    case rel=>exact⟨k+1,by omega,by go_num,zer.trans hx2⟩
    case measure=>simp [intOf];omega
   ·go_wp2_with fail
    go_ret2
    exact⟨k,true,rfl,hlt,zer.trans hx2⟩
  ·obtain rfl:k=64:=by omega
   go_wp2_with fail
   go_ret2
   exact⟨0,false,rfl,by omega,zer⟩
theorem zbT {n:Nat} {w:World}(hn:n<100) :
  Calls Tryd.prog 42 #[.int .i64 n] w (RetStr 2 w):=by
 have hn1:(n:Int)<100:=by omega
 go_enter Tryd.func42,Tryd.ntmps42
 go_wp2_with fail
 go_loopw [0,3] (fun n' v wr=>∃ (m:Nat) (s:ByteArray),n'=.int .i64 m∧v=.string s∧(m<100∧s.size=0∨m<10∧s.size≤1)∧Ext w wr) (fun n' _ _=>(intOf n').toNat)
 case atStart=>exact⟨n,_,rfl,rfl,Or.inl ⟨hn,rfl⟩,Ext.refl _⟩
 case round =>
  obtain⟨m,s,rfl,rfl,hms,zer⟩:=hrel
  have hm100:m<100:=by omega
  have hc:=conv_one wr
  have hso:=zcW
  by_cases hlt:9<m
  ·have hs0:s.size=0:=by omega
   have hdiv:=za (Int.natCast_ediv m 10)
   have hm9:(9:Int)<(m:Int):=by omega
   have hs1:s.size≤1:=by omega
   have Hs0:=za hs0
   clear hms hs0
   go_wp2_with fail
   go_roundw
   case rel=>exact⟨m / 10,_,by rw [hdiv.out];rfl,rfl,Or.inr ⟨by omega,by rw [ByteArray.size_append,zcW,Hs0.out];omega⟩,zer.alloc _⟩
   case measure=>simp [intOf];omega
  ·have hm9:(m:Int)≤9:=by omega
   have hs1:s.size≤1:=by omega
   clear hms
   go_wp2_with fail
   go_ret
   exact⟨_,rfl,by rw [ByteArray.size_append,zcW];omega,zer.alloc _⟩
def RetNumS (w:World) (e:Ending) (w':World):Prop:=∃ (n:Int) (ok:Bool),e=.returned (.tuple #[.int .i64 n,.bool ok])∧w=w'
theorem zbU {s:ByteArray} {w:World}(hs:s.size≤1000000) :
  Calls Tryd.prog 115 #[.string s] w (RetNumS w):=by
 by_cases h0:s.size=0
 ·have h0':¬ 0<s.size:=by omega
  go_enter Tryd.func115,Tryd.ntmps115
  go_wp2
  go_ret2
  exact⟨0,false,rfl,rfl⟩
 have h0':0<s.size:=by omega
 cases hm:((s[0].toNat:Int)==45)
 ·have hq0:0<s.size:=h0'
  by_cases z0:s.size=0
  ·go_enter Tryd.func115,Tryd.ntmps115
   go_wp2
   go_ret2
   exact⟨0,false,rfl,rfl⟩
  have z1:0<s.size:=by omega
  have z1':((s.size:Int)==0)=false:=by rw [beq_eq_false_iff_ne];omega
  by_cases z2:17<s.size
  ·have z2':(17:Int)<(s.size:Int):=by omega
   go_enter Tryd.func115,Tryd.ntmps115
   go_wp2
   go_ret2
   exact⟨0,false,rfl,rfl⟩
  have z2':(s.size:Int)≤17:=by omega
  cases z3:((s[0].toNat:Int)==48)
  ·go_enter Tryd.func115,Tryd.ntmps115
   go_wp2_with fail
   go_loop [5,6] (fun v i=>∃ (k:Nat) (n:Int),k≤s.size∧i=.int .i64 k∧v=.int .i64 n) (fun _ i=>s.size - (intOf i).toNat)
   case atStart=>exact⟨0,0,Nat.zero_le _,rfl,rfl⟩
   case round =>
    obtain⟨k,n,hk,rfl,rfl⟩:=hrel
    by_cases hlt:k<s.size
    ·have hb:=zcx s k hlt
     by_cases c0:(s[k].toNat:Int)<48
     ·go_wp2_with fail
      go_ret2
      exact⟨0,false,rfl,rfl⟩
     ·by_cases c1:57<(s[k].toNat:Int)
      ·go_wp2_with fail
       go_ret2
       exact⟨0,false,rfl,rfl⟩
      ·go_wp2_with fail
       go_round
       case rel=>exact⟨k+1,_,by omega,by go_num,rfl⟩
       case measure=>simp [intOf];omega
    ·obtain rfl:k=s.size:=by omega
     go_wp2_with fail
     go_ret2
     exact⟨_,true,rfl,rfl⟩
  ·by_cases z4:1<s.size
   ·have z4':(1:Int)<(s.size:Int):=by omega
    go_enter Tryd.func115,Tryd.ntmps115
    go_wp2
    go_ret2
    exact⟨0,false,rfl,rfl⟩
   ·have z4':(s.size:Int)≤1:=by omega
    go_enter Tryd.func115,Tryd.ntmps115
    go_wp2_with fail
    go_loop [5,6] (fun v i=>∃ (k:Nat) (n:Int),k≤s.size∧i=.int .i64 k∧v=.int .i64 n) (fun _ i=>s.size - (intOf i).toNat)
    case atStart=>exact⟨0,0,Nat.zero_le _,rfl,rfl⟩
    case round =>
     obtain⟨k,n,hk,rfl,rfl⟩:=hrel
     by_cases hlt:k<s.size
     ·have hb:=zcx s k hlt
      by_cases c0:(s[k].toNat:Int)<48
      ·go_wp2_with fail
       go_ret2
       exact⟨0,false,rfl,rfl⟩
      ·by_cases c1:57<(s[k].toNat:Int)
       ·go_wp2_with fail
        go_ret2
        exact⟨0,false,rfl,rfl⟩
       ·go_wp2_with fail
        go_round
        case rel=>exact⟨k+1,_,by omega,by go_num,rfl⟩
        case measure=>simp [intOf];omega
     ·obtain rfl:k=s.size:=by omega
      go_wp2_with fail
      go_ret2
      exact⟨_,true,rfl,rfl⟩
 ·obtain⟨y,hy⟩:∃ y,s.extract 1 s.size=y:=⟨_,rfl⟩
  have hyl:y.size=s.size - 1:=by rw [← hy,ByteArray.size_extract];omega
  have hyb:y.size≤1000000:=by omega
  have Hyl:=za hyl
  clear hyl
  have h01:(1:Int)≤(s.size:Int):=by omega
  by_cases z0:y.size=0
  ·go_enter Tryd.func115,Tryd.ntmps115
   go_wp2
   go_ret2
   exact⟨0,false,rfl,rfl⟩
  have z1:0<y.size:=by omega
  have z1':((y.size:Int)==0)=false:=by rw [beq_eq_false_iff_ne];omega
  by_cases z2:17<y.size
  ·have z2':(17:Int)<(y.size:Int):=by omega
   go_enter Tryd.func115,Tryd.ntmps115
   go_wp2
   go_ret2
   exact⟨0,false,rfl,rfl⟩
  have z2':(y.size:Int)≤17:=by omega
  cases z3:((y[0].toNat:Int)==48)
  ·go_enter Tryd.func115,Tryd.ntmps115
   go_wp2_with fail
   go_loop [5,6] (fun v i=>∃ (k:Nat) (n:Int),k≤y.size∧i=.int .i64 k∧v=.int .i64 n) (fun _ i=>y.size - (intOf i).toNat)
   case atStart=>exact⟨0,0,Nat.zero_le _,rfl,rfl⟩
   case round =>
    obtain⟨k,n,hk,rfl,rfl⟩:=hrel
    by_cases hlt:k<y.size
    ·have hb:=zcx y k hlt
     by_cases c0:(y[k].toNat:Int)<48
     ·go_wp2_with fail
      go_ret2
      exact⟨0,false,rfl,rfl⟩
     ·by_cases c1:57<(y[k].toNat:Int)
      ·go_wp2_with fail
       go_ret2
       exact⟨0,false,rfl,rfl⟩
      ·go_wp2_with fail
       go_round
       case rel=>exact⟨k+1,_,by omega,by go_num,rfl⟩
       case measure=>simp [intOf];omega
    ·obtain rfl:k=y.size:=by omega
     go_wp2_with fail
     go_ret2
     exact⟨_,true,rfl,rfl⟩
  ·by_cases z4:1<y.size
   ·have z4':(1:Int)<(y.size:Int):=by omega
    go_enter Tryd.func115,Tryd.ntmps115
    go_wp2
    go_ret2
    exact⟨0,false,rfl,rfl⟩
   ·have z4':(y.size:Int)≤1:=by omega
    go_enter Tryd.func115,Tryd.ntmps115
    go_wp2
    go_ret2
    exact⟨0,false,rfl,rfl⟩
theorem info_str:(Tryd.prog.info? 9).map (fun i=>(i.zero,i.size,i.bytes))=some (some (.string ⟨#[]⟩),1,16):=by kernel_rfl
def RetStrs (L N:Nat) (w:World) (e:Ending) (w':World):Prop:=∃ (A:Option Addr) (n c:Nat) (l:List ByteArray),e=.returned (.slice A n c)∧n=l.length∧w'.ownsRow w.heap.size 9 1 (.slice A n c) n (strs l)∧(∀ x∈l,x.size≤L)∧n≤N∧Ext w w'
theorem cells_str (x:ByteArray):∀ u∈(#[Value.string x]:Array Value).toList,u.oneCell'=true:=by simp [Value.oneCell']
theorem spec_l19Cut {s:ByteArray} {w:World}(hs:s.size≤1000000) :
  Calls Tryd.prog 113 #[.string s,.int .u8 32] w (RetStrs s.size (s.size+1) w):=by
 go_enter Tryd.func113,Tryd.ntmps113
 go_wp2_with fail
 go_loopw [5,6,7] (fun v f i wr=>∃ (k m:Nat) (l:List ByteArray),k≤s.size+1∧i=.int .i64 k∧m≤k∧f=.int .i64 m∧l.length≤k∧wr.ownsRow w.heap.size 9 1 v l.length (strs l)∧Hid (∀ x∈l,x.size≤s.size)∧Ext w wr) (fun _ _ i _=>s.size+1 - (intOf i).toNat)
 case atStart=>exact⟨0,0,[],Nat.zero_le _,rfl,Nat.le_refl _,rfl,Nat.le_refl _,World.ownsRow_lit w #[] 0 (Nat.le_refl _) (by unfold maxLen;omega) rfl,(fun x hx=>by cases hx),(Ext.refl _).alloc _⟩
 case round =>
  obtain⟨k,m,l,hk,rfl,hm,rfl,hl,zep,hlx,zer⟩:=hrel
  by_cases hle:k≤s.size
  ·have hle':(k:Int)≤(s.size:Int):=by omega
   have hm':(m:Int)≤(k:Int):=by omega
   have hex:=za (show (s.extract m k).size≤s.size by rw [ByteArray.size_extract];omega)
   have hall:=za (show ∀ x∈l++[s.extract m k],x.size≤s.size from fun x hx=>by
    rcases List.mem_append.1 hx with h1|h1
    ·exact hlx.out x h1
    ·rw [List.mem_singleton.1 h1];exact hex.out)
   by_cases he:k=s.size
   ·have heq:((k:Int)==(s.size:Int))=true:=by simp [he]
    have He:=za he
    clear he
    go_wp2_with (at_builtin;refine zI w wr rfl _ _ _ rfl 9 _ 1 16 Tryd.underlying73 info_str rfl (by decide) u5 _ _ _ _ rfl rfl zer zep rfl (cells_str _) (by unfold maxLen;omega) (by omega) ?_;intro v' w1 hext1 zet hg1 hat1)
    go_roundw
    case rel=>exact⟨k+1,k+1,l++[s.extract m k],by omega,by go_num,by omega,by go_num,by simp;omega,by simpa [strs] using zet,hall.out,by assumption⟩
    case measure=>simp [intOf];omega
   ·have heq:((k:Int)==(s.size:Int))=false:=by rw [beq_eq_false_iff_ne];omega
    have hlt:k<s.size:=by omega
    have hb:=zcx s k hlt
    cases hc:((s[k].toNat:Int)==32)
    ·go_wp2_with fail
     go_roundw
     case rel=>exact⟨k+1,m,l,by omega,by go_num,by omega,rfl,by omega,zep,hlx,zer⟩
     case measure=>simp [intOf];omega
    ·go_wp2_with (at_builtin;refine zI w wr rfl _ _ _ rfl 9 _ 1 16 Tryd.underlying73 info_str rfl (by decide) u5 _ _ _ _ rfl rfl zer zep rfl (cells_str _) (by unfold maxLen;omega) (by omega) ?_;intro v' w1 hext1 zet hg1 hat1)
     go_roundw
     case rel=>exact⟨k+1,k+1,l++[s.extract m k],by omega,by go_num,by omega,by go_num,by simp;omega,by simpa [strs] using zet,hall.out,by assumption⟩
     case measure=>simp [intOf];omega
  ·obtain rfl:k=s.size+1:=by omega
   obtain⟨A,c,rfl⟩:=zl zep
   go_wp2_with fail
   go_ret
   exact⟨A,_,c,l,rfl,rfl,zep,hlx.out,by omega,zer⟩
def RetEdgeS (w:World) (e:Ending) (w':World):Prop:=∃ (x:Edg) (ok:Bool),e=.returned (.tuple #[.agg #[.int .i64 x.fr,.int .i64 x.le,.int .i64 x.ta],.bool ok])∧Ext w w'
theorem spec_l2Parse {s:ByteArray} {w:World}(hs:s.size≤1000000) :
  Calls Tryd.prog 116 #[.string s] w (RetEdgeS w):=by
 have hx1:=(Ext.refl w).alloc (.cells #[.int .i64 0,.int .i64 0,.int .i64 0] 116)
 have hbz:=Blk.new w 116 #[.int .i64 0,.int .i64 0,.int .i64 0]
 go_enter Tryd.func116,Tryd.ntmps116
 go_wp2_with fail
 generalize w.alloc (.cells #[.int .i64 0,.int .i64 0,.int .i64 0] 116)=w1 at *
 go_loop [4] (fun i=>∃ k:Nat,k≤s.size∧i=.int .i64 k) (fun i=>s.size - (intOf i).toNat)
 case atStart=>exact⟨0,Nat.zero_le _,rfl⟩
 case round =>
  obtain⟨k,hk,rfl⟩:=hrel
  have cz:=hbz.cell
  have fz:=hbz.frozen
  by_cases hlt:k<s.size
  ·have hb:=zcx s k hlt
   by_cases c0:(97:Int)≤(s[k].toNat:Int)
   ·by_cases c1:(s[k].toNat:Int)≤102
    ·have he1:=za (show (s.extract 0 k).size≤1000000 by rw [ByteArray.size_extract];omega)
     have he2:=za (show (s.extract (k+1) s.size).size≤1000000 by rw [ByteArray.size_extract];omega)
     have hk1:(k:Int)+1≤(s.size:Int):=by omega
     go_wp2_with fail
     refine (zbU he1.out).mono ?_
     rintro e w2 ⟨n1,ok1,rfl,rfl⟩
     go_wp2_with fail
     refine (zbU he2.out).mono ?_
     rintro e w2 ⟨n2,ok2,rfl,rfl⟩
     go_wp2_with fail
     refine (spec_l1At s k hlt _).mono ?_
     rintro e w2 ⟨rfl,rfl⟩
     have zes:∀ u0 u1 u2,Ext w (((w1.setCell ⟨w.heap.size,0,none⟩ u0).setCell ⟨w.heap.size,1,none⟩ u1).setCell ⟨w.heap.size,2,none⟩ u2):=fun u0 u1 u2=>((hx1.setCell (Nat.le_refl _) u0).setCell (Nat.le_refl _) u1).setCell (Nat.le_refl _) u2
     have Hfin:=za zes
     clear zes
     cases ok1
     ·go_wp2_with fail
      exact bodyPost_ret (v:=.tuple #[.agg #[.int .i64 n1,.int .i64 ((s[k].toNat:Int) - 97),.int .i64 n2],.bool false]) (by simp [results,Tryd.results116,go_sem,cz]) rfl ⟨⟨n1,(s[k].toNat:Int) - 97,n2⟩,false,rfl,Hfin.out _ _ _⟩
     ·go_wp2_with fail
      exact bodyPost_ret (v:=.tuple #[.agg #[.int .i64 n1,.int .i64 ((s[k].toNat:Int) - 97),.int .i64 n2],.bool ok2]) (by simp [results,Tryd.results116,go_sem,cz]) rfl ⟨⟨n1,(s[k].toNat:Int) - 97,n2⟩,ok2,rfl,Hfin.out _ _ _⟩
    ·go_wp2_with fail
     go_round
     case rel=>exact⟨k+1,by omega,by go_num⟩
     case measure=>simp [intOf];omega
   ·go_wp2_with fail
    go_round
    case rel=>exact⟨k+1,by omega,by go_num⟩
    case measure=>simp [intOf];omega
  ·obtain rfl:k=s.size:=by omega
   go_wp2_with fail
   refine bodyPost_ret (v:=.tuple #[.agg #[.int .i64 0,.int .i64 0,.int .i64 0],.bool false]) (by simp [results,Tryd.results116,go_sem,cz]) rfl ⟨⟨0,0,0⟩,false,rfl,?_⟩
   exact ((hx1.setCell (p:=⟨w.heap.size,0,none⟩) (Nat.le_refl _) _).setCell (p:=⟨w.heap.size,1,none⟩) (Nat.le_refl _) _).setCell (p:=⟨w.heap.size,2,none⟩) (Nat.le_refl _) _
def folE (es':List Edg) (R:List Nat) (i j:Nat) (e:Edg):Bool:=!(e.fr==(i:Int)&&(zaE es' (2 ^ j) e.le&&&R.getD e.ta.toNat 0==0))
theorem zbx {lo hi lo' hi' lo2 hi2:Nat} {A:Option Addr} {n c:Nat} {B:Option Addr} {m d:Nat} {C:Option Addr} {r f:Nat} {s t:Sys} {R:List Nat} {p q i j:Nat} {w:World}(h:zQ w lo hi A n s)(h':zQ w lo' hi' B m t)(hR:Reads w lo2 hi2 1 C r (zF R))(hs:∀ r∈R,Sm r)
  (hf:Few p s.edges) (hg:Few q t.edges) (_hp:p≤16) (hq:q≤16) (hj:j<32) (hl:p≤R.length) :
  Calls Tryd.prog 69 #[.agg #[.int .i64 s.al,.int .i64 s.st,.slice A n c],.agg #[.int .i64 t.al,.int .i64 t.st,.slice B m d],.slice C r f,.int .i64 i,.int .i64 j] w fun e w'=>e=.returned (.bool (s.edges.all (folE t.edges R i j)))∧Ext w w':=by
 have hn:=h.2.len
 have hL:=za h.1
 have HR:=za (fun W (hW:Ext w W)=>h.2.ext hW)
 have HT:=za (fun W (hW:Ext w W)=>h'.ext hW)
 have HC:=za (fun W (hW:Ext w W)=>hR.ext hW)
 have hrl:=za (show R.length=r by have:=hR.length;rw [zad] at this;omega)
 have Hf:=za hf
 have Hg:=za hg
 have Hs:=za hs
 have hr':=hR.len
 clear hf hg hs
 go_enter Tryd.func69,Tryd.ntmps69
 go_wp2
 go_loopw [11] (fun i' wr=>∃ k:Nat,k≤n∧i'=.int .i64 k∧Hid ((s.edges.take k).all (folE t.edges R i j)=true)∧Ext ((w.alloc (.cells #[.int .i64 s.al,.int .i64 s.st,.slice A n c] 39)).alloc (.cells #[.int .i64 t.al,.int .i64 t.st,.slice B m d] 39)) wr) (fun i' _=>n - (intOf i').toNat)
 case atStart=>exact⟨0,Nat.zero_le _,rfl,rfl,Ext.refl _⟩
 case round =>
  obtain⟨k,hk,rfl,hall,hexb⟩:=hrel
  have zer:=(((Ext.refl w).alloc _).alloc _).trans hexb
  obtain⟨bk1,bk2⟩:=zv hexb
  have cb1:=bk1.cell
  by_cases hlt:k<n
  ·obtain⟨b,o,x,rfl,_,_,hx,c0,c1,c2⟩:=(HR.out wr zer).edge hlt
   obtain⟨⟨f0,f1⟩,⟨g0,g1⟩,⟨t0,t1⟩⟩:=Hf.out x (List.mem_of_getElem? hx.out)
   have Htk:=za (show s.edges.take (k+1)=s.edges.take k++[x] by rw [List.take_add_one,hx.out];rfl)
   obtain⟨g,hge⟩:∃ g:Nat,x.fr=g:=⟨x.fr.toNat,by omega⟩
   obtain⟨u,hue⟩:∃ u:Nat,x.ta=u:=⟨x.ta.toNat,by omega⟩
   rw [hge] at c0 f0 f1
   rw [hue] at c2 t0 t1
   obtain⟨ad,v,hCe,_,_,hv,hvc⟩:=(HC.out wr zer).nat (k:=u) (by have:=hrl.out;omega)
   have hvs:=Hs.out v (List.mem_of_getElem? hv.out)
   have hE:=za (show folE t.edges R i j x=!((g:Int)==(i:Int)&&(zaE t.edges (2 ^ j) x.le&&&v==0)) by unfold folE;rw [hge,hue,List.getD_eq_getElem?_getD,Int.toNat_natCast,hv.out];rfl)
   have hur:u<r:=by have:=hrl.out;omega
   have hsm:=za (show Sm (zaE t.edges (2 ^ j) x.le) from Nat.lt_of_lt_of_le (zcX Hg.out _ _) (by rw [show (4294967296:Nat)=2 ^ 32 from rfl];exact Nat.pow_le_pow_right (by omega) (by omega)))
   have hand:=za (zbj hsm.out hvs)
   by_cases hgi:g=i
   ·have hgi':((g:Int)==(i:Int))=true:=by simp [hgi]
    subst hCe
    have hvc2:∀ W,Ext wr W→W.cell? (ad.add u)=some (.int .i64 (v:Nat)):=fun W hW=>hW.cell_some hvc
    have bk2':=bk2.cells
    have Hgi:=za hgi
    clear hgi
    by_cases hz:zaE t.edges (2 ^ j) x.le&&&v=0
    all_goals
     have hz':=za hz
     clear hz
    ·have hzz:(bits .and .i64 (zaE t.edges (2 ^ j) x.le:Nat) (v:Nat)==0)=true:=by rw [hand.out,hz'.out];rfl
     go_wp2_with fail
     have hxq:=(Ext.refl wr).alloc (.cells #[.int .i64 g,.int .i64 x.le,.int .i64 u] 116)
     have hbq:=Blk.new wr 116 #[.int .i64 g,.int .i64 x.le,.int .i64 u]
     generalize wr.alloc (.cells #[.int .i64 g,.int .i64 x.le,.int .i64 u] 116)=wq at *
     have hbq':=hbq.cells
     have hvc3:∀ W,Ext wq W→W.cell? (ad.add u)=some (.int .i64 (v:Nat)):=fun W hW=>hvc2 W (hxq.trans hW)
     have bk3:∀ W,Ext wq W→∀ a,W.cell? ⟨w.heap.size+1,a,none⟩=#[Value.int .i64 t.al,.int .i64 t.st,.slice B m d][a]?:=fun W hW=>bk2' W (hxq.trans hW)
     have HT2:=za (fun W (hW:Ext wq W)=>HT.out W ((zer.trans hxq).trans hW))
     have hqq:=Ext.refl wq
     clear hvc2 bk2' bk2 bk1 cb1 c0 c1 c2
     go_region_held3 (fun W=>Ext wq W) (first|assumption|(refine Ext.drew ?_;assumption)|(refine Ext.trans ?_ (by assumption);assumption)|(refine Ext.trans ?_ (by assumption);refine Ext.drew ?_;assumption)) (first
      |(go_at_call 68;with_reducible refine (zah j hj _).mono ?_;rintro e w5 ⟨rfl,rfl⟩)
      |(go_at_call 93;refine (zaQ (HT2.out _ ?_) Hg.out hq (Sm.bit hj)).mono ?_;(first|assumption|(refine Ext.drew ?_;assumption));rintro e w6 ⟨rfl,hx6⟩))
     go_wp2_with fail
     go_ret
     refine⟨zf ?_,(zer.trans hxq).trans (by assumption)⟩
     have hF:folE t.edges R i j x=false:=by rw [hE.out,hgi',hz'.out];rfl
     refine (Bool.eq_false_iff.2 fun hc=>?_).symm
     have:=List.all_eq_true.1 hc x (List.mem_of_getElem? hx.out)
     rw [hF] at this
     cases this
    ·have hzz:(bits .and .i64 (zaE t.edges (2 ^ j) x.le:Nat) (v:Nat)==0)=false:=by rw [hand.out];have:=hz'.out;simp;omega
     go_wp2_with fail
     have hxq:=(Ext.refl wr).alloc (.cells #[.int .i64 g,.int .i64 x.le,.int .i64 u] 116)
     have hbq:=Blk.new wr 116 #[.int .i64 g,.int .i64 x.le,.int .i64 u]
     generalize wr.alloc (.cells #[.int .i64 g,.int .i64 x.le,.int .i64 u] 116)=wq at *
     have hbq':=hbq.cells
     have hvc3:∀ W,Ext wq W→W.cell? (ad.add u)=some (.int .i64 (v:Nat)):=fun W hW=>hvc2 W (hxq.trans hW)
     have bk3:∀ W,Ext wq W→∀ a,W.cell? ⟨w.heap.size+1,a,none⟩=#[Value.int .i64 t.al,.int .i64 t.st,.slice B m d][a]?:=fun W hW=>bk2' W (hxq.trans hW)
     have HT2:=za (fun W (hW:Ext wq W)=>HT.out W ((zer.trans hxq).trans hW))
     have hqq:=Ext.refl wq
     clear hvc2 bk2' bk2 bk1 cb1 c0 c1 c2
     go_region_held3 (fun W=>Ext wq W) (first|assumption|(refine Ext.drew ?_;assumption)|(refine Ext.trans ?_ (by assumption);assumption)|(refine Ext.trans ?_ (by assumption);refine Ext.drew ?_;assumption)) (first
      |(go_at_call 68;with_reducible refine (zah j hj _).mono ?_;rintro e w5 ⟨rfl,rfl⟩)
      |(go_at_call 93;refine (zaQ (HT2.out _ ?_) Hg.out hq (Sm.bit hj)).mono ?_;(first|assumption|(refine Ext.drew ?_;assumption));rintro e w6 ⟨rfl,hx6⟩))
     go_wp2_with fail
     go_roundw
     case rel=>exact⟨k+1,by omega,by go_num,by
      have hF:folE t.edges R i j x=true:=by
       have hz3:(zaE t.edges (2 ^ j) x.le&&&v==0)=false:=by have:=hz'.out;simpa using this
       rw [hE.out,hgi',hz3];rfl
      unfold Hid;rw [Htk.out,List.all_append,hall.out];simp [hF],(hexb.trans hxq).trans (by assumption)⟩
     case measure=>simp [intOf];omega
   ·have hgi':((g:Int)==(i:Int))=false:=by simp;omega
    have hE2:=za (show folE t.edges R i j x=true by rw [hE.out,hgi'];rfl)
    subst hCe
    go_wp2_with fail
    have hxq:=(Ext.refl wr).alloc (.cells #[.int .i64 g,.int .i64 x.le,.int .i64 u] 116)
    have hbq:=(Blk.new wr 116 #[.int .i64 g,.int .i64 x.le,.int .i64 u]).cell
    generalize wr.alloc (.cells #[.int .i64 g,.int .i64 x.le,.int .i64 u] 116)=wq at *
    go_quiet (fail)
    go_wp2_with fail
    go_roundw
    case rel=>exact⟨k+1,by omega,by go_num,by unfold Hid;rw [Htk.out,List.all_append,hall.out];simp [hE2.out],(hexb.trans hxq).drewN _⟩
    case measure=>simp [intOf];omega
  ·obtain rfl:n=k:=by omega
   go_wp2
   go_ret
   have:=hall.out
   rw [hL.out,List.take_length] at this
   exact⟨zf this.symm,zer⟩
theorem fol_iff {p q:Nat} {es es':List Edg} {R:List Nat} {i j:Nat}(h:Few p es)(h':Few q es'):es.all (folE es' R i j)=true↔∀ l k,E es i l k→∃ k',E es' j l k'∧rel R k k':=by
 rw [List.all_eq_true]
 constructor
 ·rintro hA l k ⟨e,he,h1,h2,h3⟩
  have:=hA e he
  unfold folE at this
  rw [zcq h',h1,h2,show e.ta.toNat=k by omega] at this
  simp only [beq_self_eq_true,Bool.true_and,Bool.not_eq_true',beq_eq_false_iff_ne,ne_eq] at this
  obtain⟨k',hk'⟩:=zaN.1 this
  rw [Nat.testBit_and,Bool.and_eq_true] at hk'
  exact⟨k',(zbZ h' j l k').2 hk'.1,zbn hk'.2⟩
 ·intro hA e he
  unfold folE
  by_cases hi:e.fr=i
  ·have hb:=h e he
   obtain⟨k',h1,h2⟩:=hA e.le.toNat e.ta.toNat ⟨e,he,hi,by omega,by omega⟩
   have h3:=(zbZ h' j e.le.toNat k').1 h1
   rw [show ((e.le.toNat:Nat):Int)=e.le by omega] at h3
   have:succ es' j e.le&&&R.getD e.ta.toNat 0≠0:=zaN.2 ⟨k',by rw [Nat.testBit_and,h3,h2.2];rfl⟩
   rw [zcq h']
   simp only [Bool.not_eq_true',Bool.and_eq_false_iff,beq_eq_false_iff_ne,ne_eq]
   exact Or.inr this
  ·have:(e.fr==(i:Int))=false:=by simpa using hi
   rw [this];rfl
def bakE (p:Nat) (es:List Edg) (R:List Nat) (i j:Nat) (e:Edg):Bool:=!(e.fr==(j:Int)) || (List.range p).any fun n=>(zaE es (2 ^ i) e.le).testBit n&&(R.getD n 0).testBit e.ta.toNat
theorem bak_iff {p q:Nat} {es es':List Edg} {R:List Nat} {i j:Nat}(h:Few p es)(h':Few q es'):es'.all (bakE p es R i j)=true↔∀ l k',E es' j l k'→∃ k,E es i l k∧rel R k k':=by
 rw [List.all_eq_true]
 constructor
 ·rintro hA l k' ⟨e,he,h1,h2,h3⟩
  have:=hA e he
  unfold bakE at this
  rw [zcq h,h1,h2,show e.ta.toNat=k' by omega] at this
  simp only [beq_self_eq_true,Bool.not_true,Bool.false_or,List.any_eq_true,List.mem_range,Bool.and_eq_true] at this
  obtain⟨k,_,hk1,hk2⟩:=this
  exact⟨k,(zbZ h i l k).2 hk1,zbn hk2⟩
 ·intro hA e he
  unfold bakE
  by_cases hj:e.fr=j
  ·have hb:=h' e he
   obtain⟨k,h1,h2⟩:=hA e.le.toNat e.ta.toNat ⟨e,he,hj,by omega,by omega⟩
   have h3:=(zbZ h i e.le.toNat k).1 h1
   rw [show ((e.le.toNat:Nat):Int)=e.le by omega] at h3
   obtain⟨e',he',_,_,h4⟩:=h1
   have:=h e' he'
   rw [zcq h]
   simp only [Bool.or_eq_true,List.any_eq_true,List.mem_range,Bool.and_eq_true]
   exact Or.inr ⟨k,by omega,h3,h2.2⟩
  ·have:(e.fr==(j:Int))=false:=by simpa using hj
   rw [this];rfl
theorem zco {lo hi lo' hi' lo2 hi2:Nat} {A:Option Addr} {n c:Nat} {B:Option Addr} {m d:Nat} {C:Option Addr} {r f:Nat} {s t:Sys} {R:List Nat} {p q i j:Nat} {w:World}(h:zQ w lo hi A n s)(h':zQ w lo' hi' B m t)(hR:Reads w lo2 hi2 1 C r (zF R))(hs:∀ r∈R,Sm r)
  (hsp:s.st=p) (hf:Few p s.edges) (hg:Few q t.edges) (hp:p≤16) (hq:q≤16) (hi:i<32) (hl:R.length=p) :
  Calls Tryd.prog 70 #[.agg #[.int .i64 s.al,.int .i64 s.st,.slice A n c],.agg #[.int .i64 t.al,.int .i64 t.st,.slice B m d],.slice C r f,.int .i64 i,.int .i64 j] w fun e w'=>e=.returned (.bool (t.edges.all (bakE p s.edges R i j)))∧Ext w w':=by
 have hm:=h'.2.len
 have hL:=za h'.1
 have HR:=za (fun W (hW:Ext w W)=>h'.2.ext hW)
 have HS:=za (fun W (hW:Ext w W)=>h.ext hW)
 have HC:=za (fun W (hW:Ext w W)=>hR.ext hW)
 have hrl:=za (show R.length=r by have:=hR.length;rw [zad] at this;omega)
 have Hf:=za hf
 have Hg:=za hg
 have Hs:=za hs
 clear hf hg hs h h'
 rw [hsp]
 go_enter Tryd.func70,Tryd.ntmps70
 go_wp2
 go_loopw [11] (fun i' wr=>∃ k:Nat,k≤m∧i'=.int .i64 k∧Hid ((t.edges.take k).all (bakE p s.edges R i j)=true)∧Ext ((w.alloc (.cells #[.int .i64 s.al,.int .i64 p,.slice A n c] 39)).alloc (.cells #[.int .i64 t.al,.int .i64 t.st,.slice B m d] 39)) wr) (fun i' _=>m - (intOf i').toNat)
 case atStart=>exact⟨0,Nat.zero_le _,rfl,rfl,Ext.refl _⟩
 case round =>
  obtain⟨k,hk,rfl,hall,hexb⟩:=hrel
  have zer:=(((Ext.refl w).alloc _).alloc _).trans hexb
  obtain⟨bk1,bk2⟩:=zv hexb
  have cb2:=bk2.cell
  by_cases hlt:k<m
  ·obtain⟨b,o,x,rfl,_,_,hx,c0,c1,c2⟩:=(HR.out wr zer).edge hlt
   obtain⟨⟨f0,f1⟩,⟨g0,g1⟩,⟨t0,t1⟩⟩:=Hg.out x (List.mem_of_getElem? hx.out)
   have Htk:=za (show t.edges.take (k+1)=t.edges.take k++[x] by rw [List.take_add_one,hx.out];rfl)
   obtain⟨g,hge⟩:∃ g:Nat,x.fr=g:=⟨x.fr.toNat,by omega⟩
   obtain⟨u,hue⟩:∃ u:Nat,x.ta=u:=⟨x.ta.toNat,by omega⟩
   rw [hge] at c0 f0 f1
   rw [hue] at c2 t0 t1
   have hE:=za (show bakE p s.edges R i j x=(!((g:Int)==(j:Int)) || (List.range p).any fun n=>(zaE s.edges (2 ^ i) x.le).testBit n&&(R.getD n 0).testBit u) by unfold bakE;rw [hge,hue];rfl)
   have hsm:=za (show Sm (zaE s.edges (2 ^ i) x.le) from Nat.lt_of_lt_of_le (zcX Hf.out _ _) (by rw [show (4294967296:Nat)=2 ^ 32 from rfl];exact Nat.pow_le_pow_right (by omega) (by omega)))
   by_cases hgi:g=j
   ·subst hgi
    have hgi':((g:Int) != (g:Int))=false:=by simp
    go_wp2_with fail
    have hxq:=(Ext.refl wr).alloc (.cells #[.int .i64 g,.int .i64 x.le,.int .i64 u] 116)
    have hbq:=Blk.new wr 116 #[.int .i64 g,.int .i64 x.le,.int .i64 u]
    generalize wr.alloc (.cells #[.int .i64 g,.int .i64 x.le,.int .i64 u] 116)=wq at *
    have hbq':=hbq.cells
    have bk3:∀ W,Ext wq W→∀ a,W.cell? ⟨w.heap.size,a,none⟩=#[Value.int .i64 s.al,.int .i64 p,.slice A n c][a]?:=fun W hW=>(bk1.ext (hxq.trans hW)).cell
    have cS:∀ W,Ext wq W→Calls Tryd.prog 93 #[.agg #[.int .i64 s.al,.int .i64 p,.slice A n c],.int .i64 (2 ^ i:Nat),.int .i64 x.le] W fun e w'=>e=.returned (.int .i64 (zaE s.edges (2 ^ i) x.le:Nat))∧Ext W w':=fun W hW=>by
     rw [← hsp]
     exact zaQ (HS.out W ((zer.trans hxq).trans hW)) Hf.out hp (Sm.bit hi)
    have CS:=za cS
    have hqq:=Ext.refl wq
    clear cS bk1 bk2 cb2 c0 c1 c2
    go_region_held3 (fun W=>Ext wq W) (first|assumption|(refine Ext.drew ?_;assumption)|(refine Ext.trans ?_ (by assumption);assumption)|(refine Ext.trans ?_ (by assumption);refine Ext.drew ?_;assumption)) (first
     |(go_at_call 68;with_reducible refine (zah i hi _).mono ?_;rintro e w5 ⟨rfl,rfl⟩)
     |(go_at_call 93;refine (CS.out _ ?_).mono ?_;(first|assumption|(refine Ext.drew ?_;assumption));rintro e w6 ⟨rfl,hx6⟩))
    go_wp2_with fail
    obtain⟨wo,rfl⟩:∃ wo:World,wo=wr:=⟨_,rfl⟩
    have hw6:Ext wq w6:=by assumption
    go_loopw [13,15] (fun v i' wr=>∃ y:Nat,y≤p∧i'=.int .i64 y∧∃ fd:Bool,v=.bool fd∧Hid (fd=(List.range y).any fun n=>(zaE s.edges (2 ^ i) x.le).testBit n&&(R.getD n 0).testBit u)∧Ext w6 wr) (fun _ i' _=>p - (intOf i').toNat)
    case atStart=>exact⟨0,Nat.zero_le _,rfl,false,rfl,rfl,Ext.refl _⟩
    case round =>
     obtain⟨y,hy,rfl,fd,rfl,hfd,hx7⟩:=hrel
     have bk4:=bk3 _ (hw6.trans hx7)
     have hb4:=hbq' _ (hw6.trans hx7)
     by_cases hyp:y<p
     ·obtain⟨ad,v,rfl,_,_,hv,hvc⟩:=(HC.out wr (((zer.trans hxq).trans hw6).trans hx7)).nat (k:=y) (by have:=hrl.out;omega)
      have hvs:=Hs.out v (List.mem_of_getElem? hv.out)
      have hyr:y<r:=by have:=hrl.out;omega
      have hvD:=za (show R.getD y 0=v by rw [List.getD_eq_getElem?_getD,hv.out];rfl)
      have hstep:=za (show ((List.range (y+1)).any fun n=>(zaE s.edges (2 ^ i) x.le).testBit n&&(R.getD n 0).testBit u)=(fd || ((zaE s.edges (2 ^ i) x.le).testBit y&&v.testBit u)) by rw [List.range_succ,List.any_append,← hfd.out];simp only [List.any_cons,List.any_nil,Bool.or_false,hvD.out])
      have hx8:∀ W,Ext wr W→Ext w6 W:=fun W hW=>hx7.trans hW
      have Hx8:=za hx8
      clear hx8
      have c1:∀ W,Ext wr W→W.cell? (ad.add y)=some (.int .i64 (v:Nat)):=fun W hW=>hW.cell_some hvc
      have c2:∀ W,Ext wr W→∀ a,W.cell? ⟨wo.heap.size,a,none⟩=#[Value.int .i64 g,.int .i64 x.le,.int .i64 u][a]?:=fun W hW=>hbq' _ (hw6.trans (hx7.trans hW))
      clear hb4 hbq' bk3 hvc
      have hyr0:(0:Int)≤(y:Int):=by omega
      have hyr1:(y:Int)<(r:Int):=by omega
      have hrr:=Ext.refl wr
      cases fd
      ·cases hb1:(zaE s.edges (2 ^ i) x.le).testBit y
       ·have Hb1:=za hb1
        clear hb1
        go_wp2_with fail
        refine sR (fun X=>Ext wr X) [0,1,2,3,4,5,6,7,8,9,10,11,12,13,14,15] (fun hS=>?_)
        refine sQ ?_
        refine zt fun K hK=>?_;go_simp
        refine (zA _ y hsm.out _ (by omega)).mono ?_
        rw [Hb1.out];rintro e w9 ⟨rfl,rfl⟩
        refine hK.out _ _ (by assumption) (fun hS=>?_)
        refine pT ?_
        refine sQ ?_
        refine zar ?_
        go_wp2_with fail
        go_roundw
        case rel=>exact⟨y+1,by omega,by go_num,false,rfl,by unfold Hid;rw [hstep.out,Hb1.out];simp,Hx8.out _ (by assumption)⟩
        case measure=>simp [intOf];omega
       ·have Hb1:=za hb1
        clear hb1
        go_wp2_with fail
        refine sR (fun X=>Ext wr X) [0,1,2,3,4,5,6,7,8,9,10,11,12,13,14,15] (fun hS=>?_)
        refine sQ ?_
        refine zt fun K hK=>?_;go_simp
        refine (zA _ y hsm.out _ (by omega)).mono ?_
        rw [Hb1.out];rintro e w9 ⟨rfl,rfl⟩
        refine hK.out _ _ (by assumption) (fun hS=>?_)
        refine pT ?_
        refine sQ ?_
        refine zt fun K hK=>?_;go_simp
        refine (zA v u hvs _ (by omega)).mono ?_
        rintro e w9 ⟨rfl,rfl⟩
        refine hK.out _ _ (by assumption) (fun hS=>?_)
        refine pT ?_
        refine sQ ?_
        refine zar ?_
        go_wp2_with fail
        go_roundw
        case rel=>exact⟨y+1,by omega,by go_num,v.testBit u,rfl,by unfold Hid;rw [hstep.out,Hb1.out];simp,Hx8.out _ (by assumption)⟩
        case measure=>simp [intOf];omega
      ·go_wp2_with fail
       refine sR (fun X=>Ext wr X) [0,1,2,3,4,5,6,7,8,9,10,11,12,13,14,15] (fun hS=>?_)
       refine sQ ?_
       refine zar ?_
       go_wp2_with fail
       go_roundw
       case rel=>exact⟨y+1,by omega,by go_num,true,rfl,by unfold Hid;rw [hstep.out];simp,Hx8.out _ (by assumption)⟩
       case measure=>simp [intOf];omega
     ·obtain rfl:p=y:=by omega
      cases fd
      ·go_wp2_with fail
       go_ret
       refine⟨zf ?_,((zer.trans hxq).trans hw6).trans hx7⟩
       have hF:bakE p s.edges R i g x=false:=by rw [hE.out,← hfd.out];simp
       refine (Bool.eq_false_iff.2 fun hc=>?_).symm
       have:=List.all_eq_true.1 hc x (List.mem_of_getElem? hx.out)
       rw [hF] at this
       cases this
      ·go_wp2_with fail
       go_roundw
       case rel=>exact⟨k+1,by omega,by go_num,by
        have hF:bakE p s.edges R i g x=true:=by rw [hE.out,← hfd.out];simp
        unfold Hid;rw [Htk.out,List.all_append,hall.out];simp [hF],((hexb.trans hxq).trans hw6).trans hx7⟩
       case measure=>simp [intOf];omega
   ·have hgi':((g:Int) != (j:Int))=true:=by simp;omega
    have hE2:=za (show bakE p s.edges R i j x=true by rw [hE.out,show ((g:Int)==(j:Int))=false by simp;omega];rfl)
    go_wp2_with fail
    go_roundw
    case rel=>exact⟨k+1,by omega,by go_num,by unfold Hid;rw [Htk.out,List.all_append,hall.out];simp [hE2.out],hexb.alloc _⟩
    case measure=>simp [intOf];omega
  ·obtain rfl:m=k:=by omega
   go_wp2
   go_ret
   have:=hall.out
   rw [hL.out,List.take_length] at this
   exact⟨zf this.symm,zer⟩
def MovB (w:World) (b:Nat) (es:List Edg):Prop:=∃ cs,Blk w b 130 cs∧∀ i l:Nat,i<16→l<6→cs[i*6+l]?=some (.int .i64 (succ es i l:Nat))
theorem MovB.at_ {w:World} {b:Nat} {es:List Edg}(h:MovB w b es):zdy w b es:=by
 obtain⟨cs,hb,hc⟩:=h
 exact fun i l hi hl=>by rw [hb.cell,hc i l hi hl]
theorem MovB.ext {w w':World} {b:Nat} {es:List Edg}(h:MovB w b es)(hx:Ext w w'):MovB w' b es:=by
 obtain⟨cs,hb,hc⟩:=h
 exact⟨cs,hb.ext hx,hc⟩
theorem zero_mov (w:World):(zeroValue 130).run Tryd.prog w=.ok (.agg (Array.replicate 96 (.int .i64 0))) w:=by kernel_rfl
theorem zeo {t:Nat}(ht:t<32):wrap64 ((2:Int) ^ t)=((2 ^ t:Nat):Int):=by
 have hp:=(Sm.bit ht).lt
 have e:(2:Int) ^ t=((2 ^ t:Nat):Int):=by simp
 rw [e]
 generalize (2:Nat) ^ t=p at *
 unfold wrap64
 omega
theorem mov_store {cs:Array Value} {es:List Edg} {f g t i l:Nat}(hcs:∀ i l:Nat,i<16→l<6→cs[i*6+l]?=some (.int .i64 (succ es i l:Nat)))(hs:Sm (succ es f g))(ht:t<16)(hf:f<16)(hg:g<6)(hi:i<16)(hl:l<6) :
  (cs.setIfInBounds (f*6+g) (.int .i64 (bits .or .i64 (succ es f g:Nat) (wrap64 (2 ^ t)))))[i*6+l]?=some (.int .i64 ((if (f:Int)=i∧(g:Int)=l then succ es i l|||2 ^ (t:Int).toNat else succ es i l:Nat))):=by
 rw [zeo (by omega),zcw hs (Sm.bit (by omega)),Array.getElem?_setIfInBounds]
 by_cases he:f*6+g=i*6+l
 ·have e1:f=i:=by omega
  have e2:g=l:=by omega
  subst e1;subst e2
  have hsz:f*6+g<cs.size:=by
   rcases Nat.lt_or_ge (f*6+g) cs.size with h1|h1
   ·exact h1
   ·have:=hcs f g hf hg
    rw [Array.getElem?_eq_none h1] at this
    cases this
  rw [if_pos rfl,if_pos hsz,if_pos ⟨rfl,rfl⟩]
  rfl
 ·rw [if_neg he,hcs i l hi hl,if_neg]
  rintro ⟨h1,h2⟩
  exact he (by omega)
theorem zbv {lo hi:Nat} {A:Option Addr} {n c:Nat} {s:Sys} {w:World}(h:zQ w lo hi A n s)(hf:Few 16 s.edges) :
  Calls Tryd.prog 65 #[.agg #[.int .i64 s.al,.int .i64 s.st,.slice A n c]] w fun e w'=>∃ b,e=.returned (.pointer (some ⟨b,0,none⟩))∧w.heap.size≤b∧MovB w' b s.edges∧Ext w w':=by
 have hn:=h.2.len
 have hL:=za h.1
 have hR:=fun W (hW:Ext w W)=>h.2.ext hW
 have HR:=za hR
 clear hR
 have Hf:=za hf
 clear hf
 go_enter Tryd.func65,Tryd.ntmps65
 have hz:=zero_mov
 generalize hzz:Array.replicate 96 (Value.int .i64 0)=zs at hz
 have Hz:=za hzz
 clear hzz
 go_wp2_with (simp only [hz])
 go_loopw [10] (fun i wr=>∃ k:Nat,k≤n∧i=.int .i64 k∧MovB wr (w.heap.size+1) (s.edges.take k)∧Ext w wr) (fun i _=>n - (intOf i).toNat)
 case atStart=>exact⟨0,Nat.zero_le _,rfl,⟨zs,by have:=Blk.new (w.alloc (.cells #[.int .i64 s.al,.int .i64 s.st,.slice A n c] 39)) 130 zs;simpa using this,fun i l hi hl=>by rw [← Hz.out,Array.getElem?_replicate,if_pos (by omega)];rfl⟩,((Ext.refl _).alloc _).alloc _⟩
 case round =>
  obtain⟨k,hk,rfl,hmov,zer⟩:=hrel
  by_cases hlt:k<n
  ·obtain⟨b,o,x,rfl,hlo,hhi,hx,c0,c1,c2⟩:=(HR.out wr zer).edge hlt
   obtain⟨⟨f0,f1⟩,⟨g0,g1⟩,⟨t0,t1⟩⟩:=Hf.out x (List.mem_of_getElem? hx.out)
   obtain⟨f,hf⟩:∃ f:Nat,x.fr=f:=⟨x.fr.toNat,by omega⟩
   obtain⟨g,hg⟩:∃ g:Nat,x.le=g:=⟨x.le.toNat,by omega⟩
   obtain⟨t,ht⟩:∃ t:Nat,x.ta=t:=⟨x.ta.toNat,by omega⟩
   rw [hf] at c0 f0 f1
   rw [hg] at c1 g0 g1
   rw [ht] at c2 t0 t1
   have hf':f<16:=by omega
   have hg':g<6:=by omega
   have ht':t<16:=by omega
   clear f0 f1 g0 g1 t0 t1
   obtain⟨cs,hblk,hcs⟩:=hmov
   have hs1:Sm (succ (s.edges.take k) f g):=zcD (n:=16) (fun e he=>Hf.out e (List.mem_of_mem_take he)) (by omega) f g
   go_wp2
   have hxq:=(Ext.refl wr).alloc (.cells #[.int .i64 f,.int .i64 g,.int .i64 t] 116)
   have hbq:=Blk.new wr 116 #[.int .i64 f,.int .i64 g,.int .i64 t]
   generalize hq:wr.alloc (.cells #[.int .i64 f,.int .i64 g,.int .i64 t] 116)=wq at *
   clear hq
   have hblq:=hblk.ext hxq
   have hd:wq.cell? ⟨w.heap.size+1,f*6+g,none⟩=some (.int .i64 (succ (s.edges.take k) f g:Nat)):=by rw [hblq.cell,hcs f g hf' hg']
   have hfz:=hblq.frozen (f*6+g)
   have q0:=hbq.cell 0
   have q1:=hbq.cell 1
   have q2:=hbq.cell 2
   go_still_tail 16,(by kernel_rfl)
   have f1:(f:Int)<16:=by omega
   have g1:(g:Int)<6:=by omega
   have t1:(t:Int)≤64:=by omega
   repeat (refine wpStill_step (fun K hK=>?_);go_simp;(try simp only [f1,g1,t1,if_true]);refine hK _ ?_;clear hK K)
   refine wpStill_nil ?_
   change wpList _ _ _ _ _ wq.drew
   have hd2:wq.drew.cell? ⟨w.heap.size+1,f*6+g,none⟩=some (.int .i64 (succ (s.edges.take k) f g:Nat)):=hd
   have hfz2:wq.drew.frozen? ⟨w.heap.size+1,f*6+g,none⟩=false:=hfz
   have hblq2:Blk wq.drew (w.heap.size+1) 130 cs:=hblq
   have hxq2:Ext wr wq.drew:=hxq.drew
   generalize wq.drew=w2 at *
   have Hu:=za (succ_snoc (s.edges.take k) x)
   have Htk:=za (show s.edges.take (k+1)=s.edges.take k++[x] by rw [List.take_add_one,hx.out];rfl)
   go_wp2
   go_roundw
   case rel=>exact⟨k+1,by omega,by go_num,⟨_,hblq2.set_ (f*6+g) _,fun i l hi hl=>by
    rw [Htk.out,Hu.out,hf,hg,ht]
    exact mov_store hcs hs1 ht' hf' hg' hi hl⟩,(zer.trans hxq2).setCell (by dsimp only;omega) _⟩
   case measure=>simp [intOf];omega
  ·obtain rfl:k=n:=by omega
   go_wp2
   go_ret
   rw [hL.out,List.take_length] at hmov
   exact⟨_,rfl,by omega,hmov,zer⟩
def sumAt (w:World) (g p:Nat):Nat:=((List.range p).map fun i=>(intOf ((w.cell? ⟨g,i,none⟩).getD undef)).toNat).sum
theorem zaX {w:World} {base g p c:Nat} {R:List Nat}(h:w.ownsRow base 3 1 (.slice (some ⟨g,0,none⟩) p c) p (zF R)):sumAt w g p=R.sum:=by
 have hl:R.length=p:=by have:=h.1;rw [zad] at this;omega
 have hm:((List.range p).map fun i=>(intOf ((w.cell? ⟨g,i,none⟩).getD undef)).toNat)=R:=by
  apply List.ext_getElem (by simp [hl])
  intro i h1 h2
  rw [List.getElem_map,List.getElem_range,h.cellAt i (by omega)]
  simp [zF,h2,intOf]
 unfold sumAt
 rw [hm]
theorem diff_pow {r j:Nat}(h:r.testBit j=true):diff r (2 ^ j)=r - 2 ^ j:=by
 apply Nat.eq_of_testBit_eq
 intro k
 rw [zce,zbz h,Nat.testBit_two_pow]
 by_cases hk:k=j
 ·simp [hk]
 ·simp [hk,Ne.symm hk]
theorem zcT (R:List Nat) (i v:Nat):zF (R.set i v)=(zF R).set i (.int .i64 (v:Nat)):=by simp [zF,List.map_set]
theorem nodup_ne {l:List Nat}(h:l.Nodup) {x y j:Nat}(hxy:x<y)(hx:l[x]?=some j)(hy:l[y]?=some j):False:=by
 obtain⟨h1,e1⟩:=List.getElem?_eq_some_iff.1 hx
 obtain⟨h2,e2⟩:=List.getElem?_eq_some_iff.1 hy
 exact (List.pairwise_iff_getElem.1 h) x y h1 h2 hxy (by rw [e1,e2])
theorem nats_fill {k p v:Nat} {rest:List Value}(hr:rest.length=p - k)(hk:k<p):(zF (List.replicate k v)++rest).set k (.int .i64 (v:Nat))=zF (List.replicate (k+1) v)++rest.drop 1:=by
 match rest,hr with
 |[],hr=>simp at hr;omega
 |x :: r,_ =>
  have hl:(zF (List.replicate k v)).length=k:=by rw [zad,List.length_replicate]
  rw [List.set_append_right _ _ (by omega),hl,Nat.sub_self,List.replicate_succ',zdh]
  simp [zF]
theorem wrap_full {q:Nat}(hq:q≤16):wrap64 (wrap64 ((2:Int) ^ q) - 1)=((2 ^ q - 1:Nat):Int):=by
 rw [zeo (by omega)]
 have hp:=(Sm.bit (n:=q) (by omega)).lt
 have h1:=Nat.two_pow_pos q
 generalize (2:Nat) ^ q=x at *
 unfold wrap64
 omega
theorem zbu {both:Bool} {lo hi lo' hi':Nat} {A:Option Addr} {n c:Nat} {B:Option Addr} {m d:Nat} {s t:Sys} {p q:Nat} {w:World}(h:zQ w lo hi A n s)(h':zQ w lo' hi' B m t)(hT:Tab w)
  (hsp:s.st=p) (htq:t.st=q) (hp1:1≤p) (hp:p≤16) (hq:q≤16) (hf:Few p s.edges) (hg:Few q t.edges) :
  Calls Tryd.prog 31 #[.agg #[.int .i64 s.al,.int .i64 s.st,.slice A n c],.agg #[.int .i64 t.al,.int .i64 t.st,.slice B m d],.bool both] w fun e w'=>∃ g R,e=.returned (.slice (some ⟨g,0,none⟩) p p)∧w'.ownsRow w.heap.size 3 1 (.slice (some ⟨g,0,none⟩) p p) p (zF R)∧Gfp both s.edges t.edges p q R∧Ext w w':=by
 have HS:=za (fun W (hW:Ext w W)=>h.ext hW)
 have HS':=za (fun W (hW:Ext w W)=>h'.ext hW)
 have Hf:=za hf
 have Hg:=za hg
 have hf16:=za (show Few 16 s.edges from fun e he=>by have:=hf e he;omega)
 have hg16:=za (show Few 16 t.edges from fun e he=>by have:=hg e he;omega)
 clear h h' hf hg
 rw [hsp,htq]
 go_enter Tryd.func31,Tryd.ntmps31
 go_wp2_with fail
 have hext0:=((Ext.refl w).alloc (.cells #[.int .i64 s.al,.int .i64 p,.slice A n c] 39)).alloc (.cells #[.int .i64 t.al,.int .i64 q,.slice B m d] 39)
 have hb1:=Blk.new w 39 #[.int .i64 s.al,.int .i64 p,.slice A n c]
 have hb2:=Blk.new (w.alloc (.cells #[.int .i64 s.al,.int .i64 p,.slice A n c] 39)) 39 #[.int .i64 t.al,.int .i64 q,.slice B m d]
 replace hb1:=hb1.ext ((Ext.refl _).alloc (.cells #[.int .i64 t.al,.int .i64 q,.slice B m d] 39))
 have hsz:w.heap.size+2=((w.alloc (.cells #[.int .i64 s.al,.int .i64 p,.slice A n c] 39)).alloc (.cells #[.int .i64 t.al,.int .i64 q,.slice B m d] 39)).heap.size:=by simp
 rw [show (w.alloc (.cells #[.int .i64 s.al,.int .i64 p,.slice A n c] 39)).heap.size=w.heap.size+1 by simp] at hb2
 generalize (w.alloc (.cells #[.int .i64 s.al,.int .i64 p,.slice A n c] 39)).alloc (.cells #[.int .i64 t.al,.int .i64 q,.slice B m d] 39)=w0 at *
 have e1:=hb1.cells
 have e2:=hb2.cells
 have hr:=Ext.refl w0
 have cS:∀ W,Ext w0 W→Calls Tryd.prog 65 #[.agg #[.int .i64 s.al,.int .i64 p,.slice A n c]] W fun e w'=>∃ b,e=.returned (.pointer (some ⟨b,0,none⟩))∧W.heap.size≤b∧MovB w' b s.edges∧Ext W w':=fun W hW=>by
  rw [← hsp]
  exact zbv (HS.out _ (hext0.trans hW)) hf16.out
 have cT:∀ W,Ext w0 W→Calls Tryd.prog 65 #[.agg #[.int .i64 t.al,.int .i64 q,.slice B m d]] W fun e w'=>∃ b,e=.returned (.pointer (some ⟨b,0,none⟩))∧W.heap.size≤b∧MovB w' b t.edges∧Ext W w':=fun W hW=>by
  rw [← htq]
  exact zbv (HS'.out _ (hext0.trans hW)) hg16.out
 have CS:=za cS
 have CT:=za cT
 clear cS cT
 go_region_held3 (fun W=>Ext w0 W) (first|assumption|(refine Ext.drew ?_;assumption)|(refine Ext.trans ?_ (by assumption);assumption)|(refine Ext.trans ?_ (by assumption);refine Ext.drew ?_;assumption)) (first
  |(go_at_call 65;with_reducible refine (CS.out _ ?_).mono ?_;(first|assumption|(refine Ext.drew ?_;assumption));rintro e w1 ⟨b1,rfl,hlb1,hm1,hx1⟩)
  |(go_at_call 65;with_reducible refine (CT.out _ ?_).mono ?_;(first|assumption|(refine Ext.drew ?_;assumption));rintro e w2 ⟨b2,rfl,hlb2,hm2,hx2⟩))
 have m2:=hm2
 have m1:MovB w2 b1 s.edges:=by first|exact hm1.ext hx2|exact hm1.ext (((Ext.refl _).drew).trans hx2)
 have hw02:Ext w0 w2:=by assumption
 have hw2:=hext0.trans hw02
 clear hm1 hm2 hx1 hx2 hlb1 hlb2 hb1 hb2
 have e1':=e1 w2 hw02
 go_wp2_with (at_make;refine zbW w w2 rfl _ _ 62 rfl 3 _ 1 8 Tryd.underlying62 zS _ _ p rfl rfl hw2 (by omega) (by unfold maxLen;omega) ?_;intro w3 hw3 zev hx23 hsz3)
 clear e1 e1'
 have hgw:w.heap.size≤w2.heap.size:=hw2.size
 have hgw1:w.heap.size+1<w2.heap.size:=by have:=hw02.size;omega
 obtain⟨g,hgE⟩:∃ g,g=w2.heap.size:=⟨_,rfl⟩
 rw [← hgE] at zev hsz3 hgw hgw1 ⊢
 have hgg:w2.heap.size≤g:=by omega
 clear hgE
 go_loopw [25] (fun i wr=>∃ k:Nat,k≤p∧i=.int .i64 k∧∃ rest:List Value,Hid (rest.length=p - k)∧wr.ownsRow w.heap.size 3 1 (.slice (some ⟨g,0,none⟩) p p) p (zF (List.replicate k (2 ^ q - 1))++rest)∧Ext w2 wr) (fun i _=>p - (intOf i).toNat)
 case atStart=>exact⟨0,Nat.zero_le _,rfl,_,by have:=zev.1;unfold Hid;rw [this];omega,by simpa [zF] using zev,hx23⟩
 case round =>
  obtain⟨k,hk,rfl,rest,hrest,zep,zer⟩:=hrel
  have e2':=e2 wr (hw02.trans zer)
  by_cases hlt:k<p
  ·obtain⟨o0,g0⟩:=zav zep k (by omega)
   have f0:=zep.frozenAt k
   have q1:(q:Int)≤64:=by omega
   have hst:=zep.stored k (.int .i64 ((2 ^ q - 1:Nat):Nat))
   rw [nats_fill hrest.out hlt] at hst
   have hwf:=za (wrap_full hq)
   go_wp2
   go_roundw
   case rel=>exact⟨k+1,by omega,by go_num,rest.drop 1,by have:=hrest.out;unfold Hid;rw [List.length_drop];omega,by rw [hwf.out];exact hst.1,zer.setCell (by dsimp only;omega) _⟩
   case measure=>simp [intOf];omega
  ·obtain rfl:p=k:=by omega
   obtain rfl:rest=[]:=List.eq_nil_of_length_eq_zero (by have:=hrest.out;omega)
   rw [List.append_nil] at zep
   have hI:=Inv.start both s.edges t.edges p q
   generalize List.replicate p (2 ^ q - 1)=R at zep hI
   clear zev hx23 hw3 hrest hlt e2 e2'
   go_wp2
   go_loopw [11] (fun _ wr=>∃ R:List Nat,wr.ownsRow w.heap.size 3 1 (.slice (some ⟨g,0,none⟩) p p) p (zF R)∧Inv both s.edges t.edges p q R∧Ext w2 wr) (fun _ wr=>sumAt wr g p)
   case atStart=>exact⟨R,zep,hI,zer⟩
   case round =>
    clear zep hI zer hk
    obtain⟨R,zep,hI,zer⟩:=hrel
    have hsum:=za (zaX zep)
    go_wp2
    go_loopw [11,38] (fun v i wr=>∃ k:Nat,k≤p∧i=.int .i64 k∧∃ (ch:Bool) (S:List Nat),v=.bool ch∧wr.ownsRow w.heap.size 3 1 (.slice (some ⟨g,0,none⟩) p p) p (zF S)∧Inv both s.edges t.edges p q S∧Ext w2 wr
     ∧ Hid (ch=false→S=R∧∀ i j,i<k→rel R i j→Ok both s.edges t.edges (rel R) i j)∧Hid (ch=true→S.sum<R.sum)) (fun _ i _=>p - (intOf i).toNat)
    case atStart=>exact⟨0,Nat.zero_le _,rfl,false,R,rfl,zep,hI,zer,fun _=>⟨rfl,fun i j hi=>by omega⟩,fun h=>by cases h⟩
    case round =>
     clear zep hI zer
     obtain⟨k,hk,rfl,ch,S,rfl,zep,hI,zer,hno,hyes⟩:=hrel
     by_cases hlt:k<p
     ·have hSl:S.length=p:=hI.len
      obtain⟨r,hr⟩:∃ r,S[k]?=some r:=⟨_,List.getElem?_eq_getElem (by omega)⟩
      have hr':S.getD k 0=r:=by rw [List.getD_eq_getElem?_getD,hr];rfl
      have hrs:Sm r:=Nat.lt_of_lt_of_le (hI.small r (List.mem_of_getElem? hr)) (by rw [show (4294967296:Nat)=2 ^ 32 from rfl];exact Nat.pow_le_pow_right (by omega) (by omega))
      have hc0:wr.cell? ⟨g,k,none⟩=some (.int .i64 (r:Nat)):=by rw [zep.cellAt k (by omega)];simp [zF,hr]
      have Hr:=za hr
      have Hr':=za hr'
      clear hr hr'
      have hT':=(hT.ext hw2).ext zer
      go_wp2_with (go_at_call 66;refine (zaU r hrs _ hT').mono ?_;rintro e w4 ⟨C,f,rfl,hown4,hx4⟩)
      have hks:=zn r 32
      have hkm:=za (fun k=>@zO r 32 k)
      have hrd:=Reads.of_own (zT hown4 (Nat.le_refl _))
      have hgr:g<wr.heap.size:=by
       have:=World.block_lt_of_cell? wr _ hc0
       exact this
      have zew:=zm zep hx4
      have hext5:=zer.trans hx4
      have hks0:∀ y,0≤y→∀ j,(letters r 32)[y]?=some j→rel S k j:=fun y _ j hy=>by
       have:=(hkm.out j).1 (List.mem_of_getElem? hy)
       exact zbn (by rw [Hr'.out];exact this.2)
      have hnd:(letters r 32).Nodup:=List.Pairwise.filter _ List.nodup_range
      have hj32:∀ j,j∈letters r 32→j<16:=fun j hj=>by
       have h1:=(hkm.out j).1 hj
       have h2:=zcI hI (zbn (by rw [Hr'.out];exact h1.2):rel S k j)
       omega
      have hcov0:ch=false→∀ j,rel R k j→∃ y:Nat,(letters r 32)[y]?=some j:=fun hch j hj=>by
       obtain⟨rfl,_⟩:=hno hch
       have h2:=zcI hI hj
       have h3:=hj.2
       rw [Hr'.out] at h3
       exact List.getElem?_of_mem ((hkm.out j).2 ⟨by omega,h3⟩)
      have Hcov0:=za hcov0
      clear hcov0
      have Hks0:=za hks0
      have Hnd:=za hnd
      have Hj32:=za hj32
      clear hks0 hnd hj32 hkm zep zer hown4
      generalize letters r 32=ks at *
      go_loopw [11,46] (fun v i wr=>∃ x:Nat,x≤ks.length∧i=.int .i64 x∧∃ (ch:Bool) (S:List Nat),v=.bool ch∧wr.ownsRow w.heap.size 3 1 (.slice (some ⟨g,0,none⟩) p p) p (zF S)∧Inv both s.edges t.edges p q S∧Ext w2 wr∧Frm (fun b=>b=g) w4 wr
       ∧ Hid (ch=false→S=R∧(∀ i j,i<k→rel R i j→Ok both s.edges t.edges (rel R) i j)∧∀ y,y<x→∀ j,ks[y]?=some j→Ok both s.edges t.edges (rel R) k j)∧Hid (ch=true→S.sum<R.sum)∧Hid (∀ y,x≤y→∀ j,ks[y]?=some j→rel S k j)
       ∧ Hid (ch=false→∀ j,rel R k j→∃ y:Nat,ks[y]?=some j)) (fun _ i _=>ks.length - (intOf i).toNat)
      case atStart=>exact⟨0,Nat.zero_le _,rfl,ch,S,rfl,zew,hI,hext5,Frm.refl _ _,fun h=>⟨(hno h).1,(hno h).2,fun y hy=>by omega⟩,hyes,Hks0.out,Hcov0.out⟩
      case round =>
       clear zew hI hext5 hno hyes
       obtain⟨x,hx,rfl,ch,S,rfl,zep,hI,zer,hfrm,hno,hyes,hleft,hcov⟩:=hrel
       by_cases hlx:x<ks.length
       ·obtain⟨ad,j,rfl,_,_,hj,hjc⟩:=(hrd.frm hfrm (fun b hb _ hbg=>by omega)).nat hlx
        have hj16:=Hj32.out j (List.mem_of_getElem? hj.out)
        have hrel1:=za (hleft x (Nat.le_refl _) j hj.out)
        have hSl:S.length=p:=hI.len
        have hSm:∀ r∈S,Sm r:=fun r hr=>Nat.lt_of_lt_of_le (hI.small r hr) (by rw [show (4294967296:Nat)=2 ^ 32 from rfl];exact Nat.pow_le_pow_right (by omega) (by omega))
        have hTw:=(hT.ext hw2).ext zer
        have hans:=impl_answers (both:=both) (c:=p) (m1.ext zer).at_ (m2.ext zer).at_ (Reads.of_own zep) hSm hTw (show k<16 by omega) hj16 Hf.out Hg.out hp hq (show p≤S.length by omega)
        have Hans:=za hans
        clear hans
        have hiff:=za (ansB_iff (both:=both) (R:=S) (i:=k) (j:=j) Hf.out Hg.out hp)
        cases hb:ansB both s.edges t.edges S k j
        ·have Hb:=za hb
         have Hnok:=za (show ¬ Ok both s.edges t.edges (rel S) k j from fun h=>by rw [hiff.out.2 h] at hb;cases hb)
         clear hb
         go_wp2_with (go_at_call 67;refine (Hans.out).mono ?_;rw [Hb.out];rintro e w5 ⟨rfl,hx5⟩)
         obtain⟨v,hv⟩:∃ v,S[k]?=some v:=⟨_,List.getElem?_eq_getElem (by omega)⟩
         have hvD:S.getD k 0=v:=by rw [List.getD_eq_getElem?_getD,hv];rfl
         have hvs:=hSm v (List.mem_of_getElem? hv)
         have hown6:=zm zep hx5
         have hvb:v.testBit j=true:=by have:=hrel1.out.2;rw [hvD] at this;exact this
         have hval:=za (show bits .andNot .i64 (v:Nat) (wrap64 (2 ^ j))=((v - 2 ^ j:Nat):Int) by rw [zeo (by omega),zbM hvs (Sm.bit (by omega)),diff_pow hvb])
         have hext6:=(zer.trans hx5).drew
         have hown7:=zm hown6 ((Ext.refl _).drew)
         have hfrm7:=(hfrm.ext hx5).ext ((Ext.refl _).drew)
         have hc7:w5.drew.cell? ⟨g,k,none⟩=some (.int .i64 (v:Nat)):=by rw [hown7.cellAt k (by omega)];simp [zF,hv]
         have hf7:=hown7.frozenAt k
         have hkp:(k:Int)<p:=by omega
         have hj64:(j:Int)≤64:=by omega
         have hd:=za (hI.drop hrel1.out Hnok.out)
         have hsd:=za (zbs hrel1.out)
         have hrs2:=za (fun a b=>rel_set hrel1.out a b)
         rw [hvD] at hd hsd hrs2
         have hc6:w5.cell? ⟨g,k,none⟩=some (.int .i64 (v:Nat)):=hc7
         have hst:=hown7.stored k (.int .i64 ((v - 2 ^ j:Nat):Nat))
         rw [← zcT] at hst
         have Hvs:=za hv
         clear hv hvD hvb
         go_still_tail 8,(by kernel_rfl)
         repeat (refine wpStill_step (fun K hK=>?_);go_simp;(try simp only [hkp,hj64,if_true]);refine hK _ ?_;clear hK K)
         try refine wpStill_nil ?_
         change wpList _ _ _ _ _ w5.drew
         generalize w5.drew=w6 at *
         go_wp2
         go_roundw
         case rel=>exact⟨x+1,by omega,by go_num,true,S.set k (v - 2 ^ j),rfl,by rw [hval.out];exact hst.1,hd.out,hext6.setCell (by dsimp only;omega) _,hfrm7.cell rfl _,(fun h=>by cases h),fun _=>Nat.lt_of_lt_of_le hsd.out (by
          cases ch
          ·rw [(hno rfl).1];exact Nat.le_refl _
          ·exact Nat.le_of_lt (hyes rfl)),fun y hy i hi=>(hrs2.out k i).2 ⟨hleft y (by omega) i hi,fun he=>by
           exact nodup_ne Hnd.out (show x<y by omega) hj.out (by rw [hi,he.2])⟩,fun h=>by cases h⟩
         case measure=>simp [intOf];omega
        ·have Hb:=za hb
         have Hok:=za (hiff.out.1 hb)
         clear hb
         go_wp2_with (go_at_call 67;refine (Hans.out).mono ?_;rw [Hb.out];rintro e w5 ⟨rfl,hx5⟩)
         go_roundw
         case rel=>exact⟨x+1,by omega,by go_num,ch,S,rfl,zm zep hx5,hI,zer.trans hx5,hfrm.ext hx5,fun hch=>⟨(hno hch).1,(hno hch).2.1,fun y hy i hi=>by
          rcases Nat.lt_or_ge y x with h1|h1
          ·exact (hno hch).2.2 y h1 i hi
          ·obtain rfl:y=x:=by omega
           have hji:=hj.out
           rw [hi] at hji
           obtain rfl:=Option.some.inj hji
           have:=Hok.out
           rw [(hno hch).1] at this
           exact this⟩,hyes,fun y hy i hi=>hleft y (by omega) i hi,hcov⟩
         case measure=>simp [intOf];omega
       ·obtain rfl:x=ks.length:=by omega
        go_wp2
        go_roundw
        case rel=>exact⟨k+1,by omega,by go_num,ch,S,rfl,zep,hI,zer,fun hch=>⟨(hno hch).1,fun i j hi hr=>by
         rcases Nat.lt_or_ge i k with h1|h1
         ·exact (hno hch).2.1 i j h1 hr
         ·obtain rfl:i=k:=by omega
          obtain⟨y,hy⟩:=hcov hch j hr
          exact (hno hch).2.2 y (List.getElem?_eq_some_iff.1 hy).1 j hy⟩,hyes⟩
        case measure=>simp [intOf];omega
     ·obtain rfl:p=k:=by omega
      cases ch
      ·obtain⟨rfl,hpost⟩:=hno rfl
       have Hpost:=za hpost
       clear hpost hno hyes
       go_wp2
       go_ret
       have hpost:=Hpost.out
       exact⟨g,S,rfl,zep,⟨hI,fun i j hr=>hpost i j (by have:=hr.1;have:=hI.len;omega) hr⟩,hw2.trans zer⟩
      ·have h1:=za (hyes rfl)
       clear hno hyes
       go_wp2
       go_roundw
       case rel=>exact⟨S,zep,hI,zer⟩
       case measure =>
        rw [zaX zep,hsum.out]
        exact h1.out
end Go.Proofs.YtfcjhpodichpjaaDoor
