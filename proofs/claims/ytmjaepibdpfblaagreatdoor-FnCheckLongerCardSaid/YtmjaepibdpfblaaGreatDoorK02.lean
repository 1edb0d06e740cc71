/- Plain: the s -/
import Derived.Test.YtmjaepibdpfblaaGreatDoorK01
import Derived.Laws.BytesArg
import Derived.StillTailTactics
import Derived.Deep.RegionHeld3
import Derived.BigQuiet
import Derived.Laws.Strings
namespace Go.Proofs.YtmjaepibdpfblaaGreatDoor
open Go Go.RowKit
set_option maxHeartbeats 4000000
set_option maxRecDepth 100000
theorem foldl_bit (es:List Edg) (p:Edg→Prop) [DecidablePred p] (m k:Nat):(es.foldl (fun m e=>if p e then m|||2 ^ e.ta.toNat else m) m).testBit k=true↔m.testBit k=true∨∃ e∈es,p e∧e.ta.toNat=k:=by
 induction es generalizing m with
 |nil=>simp
 |cons e r ih =>
  rw [List.foldl_cons,ih]
  by_cases hp:p e
  ·rw [if_pos hp,Nat.testBit_or,Nat.testBit_two_pow]
   simp only [Bool.or_eq_true,decide_eq_true_eq,List.mem_cons]
   constructor
   ·rintro ((h|h)|⟨e',h1,h2⟩)
    ·exact Or.inl h
    ·exact Or.inr ⟨e,Or.inl rfl,hp,h⟩
    ·exact Or.inr ⟨e',Or.inr h1,h2⟩
   ·rintro (h|⟨e',h1|h1,h2⟩)
    ·exact Or.inl (Or.inl h)
    ·subst h1;exact Or.inl (Or.inr h2.2)
    ·exact Or.inr ⟨e',h1,h2⟩
  ·rw [if_neg hp]
   constructor
   ·rintro (h|⟨e',h1,h2⟩)
    ·exact Or.inl h
    ·exact Or.inr ⟨e',List.mem_cons_of_mem _ h1,h2⟩
   ·rintro (h|⟨e',h1,h2⟩)
    ·exact Or.inl h
    ·rcases List.mem_cons.1 h1 with h1|h1
     ·subst h1;exact absurd h2.1 hp
     ·exact Or.inr ⟨e',h1,h2⟩
theorem zdu (es:List Edg) (i l:Int) (k:Nat):(succ es i l).testBit k=true↔∃ e∈es,(e.fr=i∧e.le=l)∧e.ta.toNat=k:=by
 have:=foldl_bit es (fun e=>e.fr=i∧e.le=l) 0 k
 simpa [succ] using this
def Few (n:Nat) (es:List Edg):Prop:=∀ e∈es,(0≤e.fr∧e.fr<n)∧(0≤e.le∧e.le<6)∧(0≤e.ta∧e.ta<n)
theorem succ_lt {n:Nat} {es:List Edg}(h:Few n es) (i l:Int):succ es i l<2 ^ n:=by
 apply Nat.lt_pow_two_of_testBit
 intro k hk
 rw [Bool.eq_false_iff]
 intro hb
 obtain⟨e,he,_,h3⟩:=(zdu es i l k).1 hb
 have:=h e he
 omega
theorem succ_sm {n:Nat} {es:List Edg}(h:Few n es)(hn:n≤16) (i l:Int):Sm (succ es i l):=
 Nat.lt_of_lt_of_le (succ_lt h i l) (by rw [show (4294967296:Nat)=2 ^ 32 from rfl];exact Nat.pow_le_pow_right (by omega) (by omega))
theorem zbT {a n k:Nat}:k∈letters a n↔k<n∧a.testBit k=true:=by simp [letters]
def Good (s:Sys):Prop:=∃ a p:Nat,s.al=a∧a<64∧s.st=p∧1≤p∧p≤16∧Few p s.edges
def zbq (w:World) (R:Nat) (A:Option Addr) (n:Nat) (s:Sys):Prop:=
 n=s.edges.length∧n≤9223372036854775807∧(0<n→∃ (g o:Nat) (cs:Array Value),A=some ⟨g,o,none⟩∧R<g∧w.heap[g]?=some (.cells cs 153 (0,0))∧∀ j u,(zu s.edges)[j]?=some u→w.cell? ⟨g,o+j,none⟩=some u)
theorem zbq.at_ {w:World} {R n:Nat} {A:Option Addr} {s:Sys}(h:zbq w R A n s):zN w (R+1) w.heap.size A n s:=by
 refine⟨h.1,by rw [zbs,← h.1],h.2.1,fun h0=>?_⟩
 obtain⟨g,o,cs,e,hR,hh,hc⟩:=h.2.2 h0
 exact⟨⟨g,o,none⟩,e,hR,(Array.getElem?_eq_some_iff.1 hh).1,fun j u hu=>by rw [zT];exact hc j u hu⟩
theorem zbq.frm {S:Nat→Prop} {w w':World} {R n:Nat} {A:Option Addr} {s:Sys}(h:zbq w R A n s)(hb:Frm S w w')(hS:∀ k,S k→R<k→∀ cs,w.heap[k]?≠some (.cells cs 153 (0,0))):zbq w' R A n s:=by
 refine⟨h.1,h.2.1,fun h0=>?_⟩
 obtain⟨g,o,cs,e,hR,hh,hc⟩:=h.2.2 h0
 have hlt:=(Array.getElem?_eq_some_iff.1 hh).1
 have hn:¬ S g:=fun hs=>hS g hs hR cs hh
 exact⟨g,o,cs,e,hR,(hb.block g hlt hn).trans hh,fun j u hu=>(World.cell?_of_block (w:=w) (hb.block g hlt hn)).trans (hc j u hu)⟩
theorem zbq.ext {w w':World} {R n:Nat} {A:Option Addr} {s:Sys}(h:zbq w R A n s)(hb:Ext w w'):zbq w' R A n s:=h.frm (S:=fun _=>False) hb (fun _ hk=>hk.elim)
theorem zbq.dr {w w':World} {R n:Nat} {A:Option Addr} {s:Sys}(h:zbq w R A n s)(hb:Dr R w w'):zbq w' R A n s:=h.frm hb (fun k hk hR=>by omega)
theorem zbq.far {w w':World} {R n Z:Nat} {A:Option Addr} {s:Sys} {cs:Array Value} {t:TypeId}(h:zbq w R A n s)(hB:Blk w Z t cs)(ht:t≠153)(hb:Frm (fun k=>k=Z) w w'):zbq w' R A n s:=h.frm hb (fun k hk _ cs' hh=>by
 subst hk
 unfold Blk at hB
 rw [hB] at hh
 injection hh with hh
 injection hh with _ h2
 exact ht h2)
theorem zbq.own {w:World} {R base n c:Nat} {A:Option Addr} {s:Sys}(h:w.ownsRow base 153 3 (.slice A n c) n (zu s.edges))(hR:R<base):zbq w R A n s:=by
 have hl:n=s.edges.length:=by have:=h.1;rw [zbs] at this;omega
 refine⟨hl,(Reads.of_own h).len,fun h0=>?_⟩
 rcases h.2 with ⟨_,h1⟩|⟨g,cap,cur,hv,hb,hh,_⟩
 ·omega
 ·have hA:A=some ⟨g,0,none⟩:=by injection hv
  subst hA
  exact⟨g,0,cur,rfl,by omega,hh,fun j u hu=>by
   have:=h.cells (g:=g) rfl j u hu
   rwa [zT] at this⟩
theorem zhM {w:World} {base:Nat} {e:TypeId} {size n c:Nat} {A:Option Addr} {xs:List Value}(h:w.ownsRow base e size (.slice A n c) n xs):n≤c:=by
 rcases h.2 with ⟨hv,h0⟩|⟨g,cap,cur,hv,_,_,hnc,_⟩
 ·omega
 ·injection hv with _ _ h3
  omega
def RetG (R M L:Nat) (w:World) (e:Ending) (w':World):Prop:=
 ∃ (s:Sys) (A:Option Addr) (n c:Nat),e=.returned (.agg #[.int .i64 s.al,.int .i64 s.st,.slice A n c])∧zbq w' R A n s∧Good s∧(n≤L∧n≤c)∧Rd w' R M∧Dr R w w'
def RetA (R M L:Nat) (w:World) (e:Ending) (w':World):Prop:=
 ∃ (s:Sys) (A:Option Addr) (n c:Nat),e=.returned (.agg #[.int .i64 s.al,.int .i64 s.st,.slice A n c])∧zbq w' R A n s∧(n≤L∧n≤c)∧Rd w' R M∧Dr R w w'
structure Acc (w0 wB W:World) (R G M:Nat) (al st:Int) (v:Value) (es:List Edg):Prop where
 blk:Blk W G 38 #[.int .i64 al,.int .i64 st,v]
 own:W.ownsRow wB.heap.size 153 3 v es.length (zu es)
 rd:Rd W R M
 dr:Dr R w0 W
 fr:Frm (fun k=>k=R∨k=G) wB W
 hR:R<w0.heap.size
 hB:w0.heap.size≤wB.heap.size
 hG:w0.heap.size≤G
section
variable {w0 wB W W':World} {R G M N:Nat} {al st:Int} {v:Value} {es:List Edg}
theorem Acc.more (h:Acc w0 wB W R G M al st v es)(hM:M≤N):Acc w0 wB W R G N al st v es:={ h with rd:=h.rd.more hM }
theorem Acc.ext (h:Acc w0 wB W R G M al st v es)(hb:Ext W W'):Acc w0 wB W' R G M al st v es:=⟨h.blk.ext hb,zh h.own hb,h.rd.ext hb,h.dr.ext hb,h.fr.ext hb,h.hR,h.hB,h.hG⟩
theorem Acc.drawn (h:Acc w0 wB W R G M al st v es)(hb:Dr R W W')(hr:Rd W' R N):Acc w0 wB W' R G N al st v es:=
 ⟨h.blk.dr hb (by have:=h.hR;have:=h.hG;omega),zf h.own hb (fun b hv hS=>by have:=(h.own.lt b hv).1;have:=h.hR;have:=h.hB;omega),hr,h.dr.trans hb,h.fr.trans (hb.mono fun k _ hk=>Or.inl hk),h.hR,h.hB,h.hG⟩
theorem Acc.far (h:Acc w0 wB W R G M al st v es) {b:Nat}(hv:v.ownBlock=some b):b≠G:=by
 rintro rfl
 have hB:=h.blk
 rcases h.own.2 with ⟨rfl,_⟩|⟨g,cap,cur,rfl,_,hh,_⟩
 ·simp [Value.ownBlock] at hv
 ·have hg:g=b:=by simpa [Value.ownBlock] using hv
  subst hg
  unfold Blk at hB
  rw [hh] at hB
  injection hB with hB
  injection hB with _ ht
  exact absurd ht (by decide)
theorem Acc.setAl (h:Acc w0 wB W R G M al st v es) (x:Int):Acc w0 wB (W.setCell ⟨G,0,none⟩ (.int .i64 x)) R G M x st v es:=
 ⟨by simpa using h.blk.set_ 0 _,zf h.own (Frm.setCell W G 0 _) (fun b hv hS=>h.far hv hS),h.rd.frm (Frm.setCell W G 0 _) (fun k hk hS=>by have:=h.hR;have:=h.hG;omega),h.dr.setNew h.hG _,h.fr.cell (Or.inr rfl) _,h.hR,h.hB,h.hG⟩
theorem Acc.setSt (h:Acc w0 wB W R G M al st v es) (x:Int):Acc w0 wB (W.setCell ⟨G,1,none⟩ (.int .i64 x)) R G M al x v es:=
 ⟨by simpa using h.blk.set_ 1 _,zf h.own (Frm.setCell W G 1 _) (fun b hv hS=>h.far hv hS),h.rd.frm (Frm.setCell W G 1 _) (fun k hk hS=>by have:=h.hR;have:=h.hG;omega),h.dr.setNew h.hG _,h.fr.cell (Or.inr rfl) _,h.hR,h.hB,h.hG⟩
theorem Acc.push {g cap:Nat} {e:Edg}(h:Acc w0 wB W R G M al st v es) (zil:W'.ownsRow wB.heap.size 153 3 (.slice (some ⟨g,0,none⟩) (es.length+1) cap) (es.length+1) (zu es++[.int .i64 e.fr,.int .i64 e.le,.int .i64 e.ta]))
  (hg:W.grownBy W' v.ownBlock) (hat:v.ownBlock=some g∨g=W.heap.size+1) :
  Hid (W'.cell? ⟨G,2,none⟩=some v)∧W'.frozen? ⟨G,2,none⟩=false∧Acc w0 wB (W'.setCell ⟨G,2,none⟩ (.slice (some ⟨g,0,none⟩) (es.length+1) cap)) R G M al st (.slice (some ⟨g,0,none⟩) (es.length+1) cap) (es++[e]):=by
 have hB:Blk W' G 38 #[.int .i64 al,.int .i64 st,v]:=(hg.block G h.blk.lt (fun e=>h.far e.symm rfl)).trans h.blk
 have hgG:g≠G:=by
  rcases hat with h1|h1
  ·exact h.far h1
  ·have:=h.blk.lt;omega
 have hd:Dr R w0 W':=h.dr.grown hg (fun k hk=>Nat.le_trans h.hB (h.own.lt k hk).1)
 have hr:Rd W' R M:=h.rd.frm (Frm.of_grown hg) (fun k hk hS=>by have:=(h.own.lt k hS).1;have:=h.hR;have:=h.hB;omega)
 have hf:Frm (fun k=>k=R∨k=G) wB W':=
  ⟨hg.os.trans h.fr.os,hg.tape.trans h.fr.tape,hg.output.trans h.fr.output,Nat.le_trans h.fr.size hg.size,
   fun k hk hn=>(hg.block k (Nat.lt_of_lt_of_le hk h.fr.size) (fun e=>by have:=(h.own.lt k e.symm).1;omega)).trans (h.fr.block k hk hn)⟩
 refine⟨hB.cell 2,hB.frozen 2,⟨by simpa using hB.set_ 2 _,?_,hr.frm (Frm.setCell W' G 2 _) (fun k hk hS=>by have:=h.hR;have:=h.hG;omega),hd.setNew h.hG _,hf.cell (Or.inr rfl) _,h.hR,h.hB,h.hG⟩⟩
 have:=zf zil (Frm.setCell W' G 2 (.slice (some ⟨g,0,none⟩) (es.length+1) cap)) (fun b hv hS=>by
  have:g=b:=by simpa [Value.ownBlock] using hv
  omega)
 rw [zcg]
 simpa [zu] using this
theorem Acc.reads {A:Option Addr} {n c:Nat}(h:Acc w0 wB W R G M al st (.slice A n c) es):n=es.length∧zN W wB.heap.size W.heap.size A n ⟨al,st,es⟩:=by
 have hn:n=es.length:=by
  rcases h.own.2 with ⟨hv,h0⟩|⟨g,cap,cur,hv,_⟩
  ·injection hv with _ h2 _;omega
  ·injection hv
 have ho:=h.own
 rw [← hn] at ho
 exact⟨hn,hn,Reads.of_own ho⟩
theorem Acc.form (h:Acc w0 wB W R G M al st v es):∃ A n c,v=.slice A n c:=by
 obtain⟨A,c,e⟩:=zg h.own
 exact⟨A,_,c,e⟩
theorem Acc.old (h:Acc w0 wB W R G M al st v es) {lo hi size n:Nat} {A:Option Addr} {xs:List Value}(hx:Reads wB lo hi size A n xs)(h1:∀ k,lo≤k→k<hi→k≠R∧k≠G):Reads W lo hi size A n xs:=
 hx.frm h.fr (fun k a b hS=>by have:=h1 k a b;omega)
end
theorem zdV (W:World) (Z:Nat) (u0 u1 u2:Value):Frm (fun k=>k=Z) W (((W.setCell ⟨Z,0,none⟩ u0).setCell ⟨Z,1,none⟩ u1).setCell ⟨Z,2,none⟩ u2):=
 ((Frm.setCell W Z 0 u0).trans (Frm.setCell _ Z 1 u1)).trans (Frm.setCell _ Z 2 u2)
theorem Acc.fin {w0 wB W:World} {R G M Z:Nat} {al st:Int} {A:Option Addr} {n c:Nat} {es:List Edg}(h:Acc w0 wB W R G M al st (.slice A n c) es)(hZ:w0.heap.size≤Z)(hZ2:Z<wB.heap.size) (u0 u1 u2:Value) :
  zbq (((W.setCell ⟨Z,0,none⟩ u0).setCell ⟨Z,1,none⟩ u1).setCell ⟨Z,2,none⟩ u2) R A n ⟨al,st,es⟩ ∧
  Rd (((W.setCell ⟨Z,0,none⟩ u0).setCell ⟨Z,1,none⟩ u1).setCell ⟨Z,2,none⟩ u2) R M∧Dr R w0 (((W.setCell ⟨Z,0,none⟩ u0).setCell ⟨Z,1,none⟩ u1).setCell ⟨Z,2,none⟩ u2):=by
 have hf:=zdV W Z u0 u1 u2
 obtain⟨hn,_⟩:=h.reads
 have hR:=h.hR
 have hB:=h.hB
 have ho:=h.own
 rw [← hn] at ho
 refine⟨zbq.own (s:=⟨al,st,es⟩) (zf ho hf (fun b hv hS=>by have:=(h.own.lt b hv).1;omega)) (by omega),h.rd.frm hf (fun k h1 h2=>by omega),?_⟩
 exact ((h.dr.setNew (p:=⟨Z,0,none⟩) hZ u0).setNew (p:=⟨Z,1,none⟩) hZ u1).setNew (p:=⟨Z,2,none⟩) hZ u2
theorem zI.snoc2 {w:World} {base N:Nat} {rows:List Value} {ls:List (List Int)} {row:Value} {l:List Int}(h:zI w base rows ls)(hlow:∀ (i:Nat) (r:Value) (b:Nat),rows[i]?=some r→r.ownBlock=some b→b<N)(hN:base≤N)(hrow:w.ownsRow N 3 1 row l.length (ints l)) :
  zI w base (rows++[row]) (ls++[l]):=by
 have hlen:=h.1
 refine⟨by simp [hlen],fun i r m hr hm=>?_,fun i j ri rj b hri hrj hij hbi=>?_⟩
 ·rcases Nat.lt_trichotomy i rows.length with hi|hi|hi
  ·rw [List.getElem?_append_left hi] at hr
   rw [List.getElem?_append_left (by omega)] at hm
   exact h.2.1 i r m hr hm
  ·rw [List.getElem?_append_right (by omega),hi,Nat.sub_self] at hr
   rw [List.getElem?_append_right (by omega),hi,hlen,Nat.sub_self] at hm
   simp at hr hm
   subst hr;subst hm
   exact zn hrow hN
  ·rw [List.getElem?_eq_none (by simp;omega)] at hr;cases hr
 ·have new:∀ b,row.ownBlock=some b→N≤b:=fun b hb=>(hrow.lt b hb).1
  have hi:i≤rows.length:=by have:=(List.getElem?_eq_some_iff.1 hri).1;simp at this;omega
  have hj:j≤rows.length:=by have:=(List.getElem?_eq_some_iff.1 hrj).1;simp at this;omega
  rcases Nat.lt_or_eq_of_le hi with hi|hi<;>rcases Nat.lt_or_eq_of_le hj with hj|hj
  ·rw [List.getElem?_append_left hi] at hri
   rw [List.getElem?_append_left hj] at hrj
   exact h.2.2 i j ri rj b hri hrj hij hbi
  ·rw [List.getElem?_append_left hi] at hri
   subst hj
   simp at hrj
   subst hrj
   intro hc
   have h1:=hlow i ri b hri hbi
   have h2:=new b hc
   omega
  ·rw [List.getElem?_append_left hj] at hrj
   subst hi
   simp at hri
   subst hri
   intro hc
   have h1:=hlow j rj b hrj hc
   have h2:=new b hbi
   omega
  ·omega
def zfK (R M:Nat) (sh:Aut→Prop) (w:World) (e:Ending) (w':World):Prop:=
 ∃ (a:Aut) (A:Option Addr) (n c:Nat) (A':Option Addr) (n' c':Nat),e=.returned (.agg #[.int .i64 a.al,.slice A n c,.slice A' n' c'])∧zZ w' w.heap.size A n c A' n' c' a∧Hid (sh a)∧Rd w' R M∧Dr R w w'
structure zbt (w0 W:World) (R G M:Nat) (al:Int) (v:Value) (rows:List Value) (ls:List (List Int)) (vA:Value) (acc:List Bool):Prop where
 blk:Blk W G 31 #[.int .i64 al,v,vA]
 nx:W.ownsRow w0.heap.size 137 1 v ls.length rows
 rows:zI W w0.heap.size rows ls
 acc:W.ownsRow w0.heap.size 4 1 vA acc.length (zaB acc)
 rd:Rd W R M
 dr:Dr R w0 W
 hR:R<w0.heap.size
 hG:w0.heap.size≤G
section
variable {w0 W W':World} {R G M N:Nat} {al:Int} {v vA:Value} {rows:List Value} {ls:List (List Int)} {acc:List Bool}
theorem zbt.drawn (h:zbt w0 W R G M al v rows ls vA acc)(hd:Dr R W W')(hr:Rd W' R N):zbt w0 W' R G N al v rows ls vA acc:=
 ⟨h.blk.dr hd (by have:=h.hR;have:=h.hG;omega),zbo h.nx hd (fun b h1 e=>by have:=h.hR;omega),h.rows.keep hd (fun b h1 e=>by have:=h.hR;omega),zbo h.acc hd (fun b h1 e=>by have:=h.hR;omega),hr,h.dr.trans hd,h.hR,h.hG⟩
theorem zbt.ext (h:zbt w0 W R G M al v rows ls vA acc)(hx:Ext W W'):zbt w0 W' R G M al v rows ls vA acc:=h.drawn (Ext.dr hx) (h.rd.ext hx)
theorem zbt.more (h:zbt w0 W R G M al v rows ls vA acc)(hM:M≤N):zbt w0 W R G N al v rows ls vA acc:={ h with rd:=h.rd.more hM }
theorem zbt.low (h:zbt w0 W R G M al v rows ls vA acc):∀ (i:Nat) (r:Value) (b:Nat),rows[i]?=some r→r.ownBlock=some b→b<W.heap.size:=fun i r b hr hb=>by
 obtain⟨l,_,ho⟩:=h.rows.row hr
 exact (ho.lt b hb).2
theorem zbt.grown (h:zbt w0 W R G M al v rows ls vA acc) {v0:Value} {e:TypeId} {size k:Nat} {xs:List Value}(ho:W.ownsRow w0.heap.size e size v0 k xs)(hg:W.grownBy W' v0.ownBlock):Dr R w0 W'∧Rd W' R M:=by
 have hRG:=h.hR
 refine⟨h.dr.grown hg (fun k hk=>(ho.lt k hk).1),h.rd.frm (Frm.of_grown hg) (fun k hk hS=>by have:=(ho.lt k hS).1;omega)⟩
theorem zbt.pushRow {row:Value} {l:List Int} {g cap K:Nat}(h:zbt w0 W R G M al v rows ls vA acc)(hlow:∀ (i:Nat) (r:Value) (b:Nat),rows[i]?=some r→r.ownBlock=some b→b<K)(hK:w0.heap.size≤K)(hrow:W.ownsRow K 3 1 row l.length (ints l))
  (zil:W'.ownsRow w0.heap.size 137 1 (.slice (some ⟨g,0,none⟩) (ls.length+1) cap) (ls.length+1) (rows++[row]))
  (hg:W.grownBy W' v.ownBlock) (hat:v.ownBlock=some g∨g=W.heap.size+1) :
  Hid (W'.cell? ⟨G,1,none⟩=some v)∧W'.frozen? ⟨G,1,none⟩=false∧zbt w0 (W'.setCell ⟨G,1,none⟩ (.slice (some ⟨g,0,none⟩) (ls.length+1) cap)) R G M al (.slice (some ⟨g,0,none⟩) (ls.length+1) cap) (rows++[row]) (ls++[l]) vA acc:=by
 have hRG:=h.hR;have hGG:=h.hG
 have hB:Blk W' G 31 #[.int .i64 al,v,vA]:=(hg.block G h.blk.lt (fun e=>zq h.nx h.blk (by decide) e.symm rfl)).trans h.blk
 have hgG:g≠G:=by
  rcases hat with h1|h1
  ·exact zq h.nx h.blk (by decide) h1
  ·have:=h.blk.lt;omega
 have hfr:Frm (fun k=>v.ownBlock=some k) W W':=Frm.of_grown hg
 obtain⟨hdr,hrd⟩:=h.grown h.nx hg
 have hr1:=h.rows.snoc2 hlow hK hrow
 have hr2:zI W' w0.heap.size (rows++[row]) (ls++[l]):=hr1.frm hfr (fun i r b hr hb hS=>by
  obtain⟨l',_,ho⟩:=hr1.row hr
  exact zaS ho h.nx (by decide) hb hS)
 have zim:W'.ownsRow w0.heap.size 4 1 vA acc.length (zaB acc):=zf h.acc hfr (fun b hb hS=>zaS h.acc h.nx (by decide) hb hS)
 have hset:=Frm.setCell W' G 1 (.slice (some ⟨g,0,none⟩) (ls.length+1) cap)
 refine⟨hB.cell 1,hB.frozen 1,⟨by simpa using hB.set_ 1 _,?_,?_,?_,hrd.frm hset (fun k hk e=>by omega),hdr.setNew (p:=⟨G,1,none⟩) hGG _,hRG,hGG⟩⟩
 ·rw [List.length_append,List.length_singleton]
  exact zf zil hset (fun b hv hS=>by
   have:g=b:=by simpa [Value.ownBlock] using hv
   omega)
 ·refine hr2.frm hset (fun i r b hr hb hS=>?_)
  obtain⟨l',_,ho⟩:=hr2.row hr
  exact zq ho hB (by decide) hb hS
 ·exact zf zim hset (fun b hb hS=>zq zim hB (by decide) hb hS)
theorem zbt.pushAcc {x:Bool} {g cap:Nat}(h:zbt w0 W R G M al v rows ls vA acc)
  (zil:W'.ownsRow w0.heap.size 4 1 (.slice (some ⟨g,0,none⟩) (acc.length+1) cap) (acc.length+1) (zaB acc++[.bool x]))
  (hg:W.grownBy W' vA.ownBlock) (hat:vA.ownBlock=some g∨g=W.heap.size+1) :
  Hid (W'.cell? ⟨G,2,none⟩=some vA)∧W'.frozen? ⟨G,2,none⟩=false∧zbt w0 (W'.setCell ⟨G,2,none⟩ (.slice (some ⟨g,0,none⟩) (acc.length+1) cap)) R G M al v rows ls (.slice (some ⟨g,0,none⟩) (acc.length+1) cap) (acc++[x]):=by
 have hRG:=h.hR;have hGG:=h.hG
 have hB:Blk W' G 31 #[.int .i64 al,v,vA]:=(hg.block G h.blk.lt (fun e=>zq h.acc h.blk (by decide) e.symm rfl)).trans h.blk
 have hgG:g≠G:=by
  rcases hat with h1|h1
  ·exact zq h.acc h.blk (by decide) h1
  ·have:=h.blk.lt;omega
 have hfr:Frm (fun k=>vA.ownBlock=some k) W W':=Frm.of_grown hg
 obtain⟨hdr,hrd⟩:=h.grown h.acc hg
 have hn:W'.ownsRow w0.heap.size 137 1 v ls.length rows:=zf h.nx hfr (fun b hb hS=>zaS h.nx h.acc (by decide) hb hS)
 have hr2:zI W' w0.heap.size rows ls:=h.rows.frm hfr (fun i r b hr hb hS=>by
  obtain⟨l',_,ho⟩:=h.rows.row hr
  exact zaS ho h.acc (by decide) hb hS)
 have hset:=Frm.setCell W' G 2 (.slice (some ⟨g,0,none⟩) (acc.length+1) cap)
 refine⟨hB.cell 2,hB.frozen 2,⟨by simpa using hB.set_ 2 _,zf hn hset (fun b hb hS=>zq hn hB (by decide) hb hS),hr2.frm hset (fun i r b hr hb hS=>?_),?_,hrd.frm hset (fun k hk e=>by omega),hdr.setNew (p:=⟨G,2,none⟩) hGG _,hRG,hGG⟩⟩
 ·obtain⟨l',_,ho⟩:=hr2.row hr
  exact zq ho hB (by decide) hb hS
 ·rw [List.length_append,List.length_singleton,show zaB (acc++[x])=zaB acc++[.bool x] by simp [zaB]]
  exact zf zil hset (fun b hv hS=>by
   have:g=b:=by simpa [Value.ownBlock] using hv
   omega)
theorem zbt.side {v0:Value} {K k:Nat} {xs:List Value}(h:zbt w0 W R G M al v rows ls vA acc)(hlow:∀ (i:Nat) (r:Value) (b:Nat),rows[i]?=some r→r.ownBlock=some b→b<K)(hK:w0.heap.size≤K)(ho:W.ownsRow K 3 1 v0 k xs)(hg:W.grownBy W' v0.ownBlock):zbt w0 W' R G M al v rows ls vA acc:=by
 have ho':=zn ho hK
 obtain⟨hdr,hrd⟩:=h.grown ho' hg
 have hfr:Frm (fun k=>v0.ownBlock=some k) W W':=Frm.of_grown hg
 exact⟨h.blk.frm hfr (fun e=>zq ho h.blk (by decide) e rfl),zf h.nx hfr (fun b hb hS=>zaS ho h.nx (by decide) hS hb),h.rows.frm hfr (fun i r b hr hb hS=>by have:=hlow i r b hr hb;have:=(ho.lt b hS).1;omega),
  zf h.acc hfr (fun b hb hS=>zaS ho h.acc (by decide) hS hb),hrd,hdr,h.hR,h.hG⟩
theorem zbt.fin {w:World} {Z n n' c c':Nat} {A A':Option Addr} {cs:Array Value} {t:TypeId} {sh:Aut→Prop}(h:zbt w0 W R G M al (.slice A n c) rows ls (.slice A' n' c') acc)(hx:Ext w w0) (bz:Blk w0 Z t cs)(hc:cs.size=3)(hRw:R<w.heap.size)(hZ:w.heap.size≤Z)(hZ':Z<w0.heap.size)(hM:M≤N)(hsh:sh ⟨al,ls,acc⟩) :
  Hid (zfK R N sh w (.returned (.agg #[.int .i64 al,.slice A n c,.slice A' n' c'])) (((W.setCell ⟨Z,0,none⟩ (.int .i64 al)).setCell ⟨Z,1,none⟩ (.slice A n c)).setCell ⟨Z,2,none⟩ (.slice A' n' c'))) ∧
  Blk (((W.setCell ⟨Z,0,none⟩ (.int .i64 al)).setCell ⟨Z,1,none⟩ (.slice A n c)).setCell ⟨Z,2,none⟩ (.slice A' n' c')) Z t #[.int .i64 al,.slice A n c,.slice A' n' c']:=by
 have hb:=bz.dr h.dr (by omega)
 have hf:=zad W Z (.int .i64 al) (.slice A n c) (.slice A' n' c')
 have hn:n=ls.length:=by
  rcases h.nx.2 with ⟨h1,h2⟩|⟨_,_,_,h1,_⟩
  ·simp at h1;omega
  ·simp at h1;exact h1.2.1
 have hn':n'=acc.length:=by
  rcases h.acc.2 with ⟨h1,h2⟩|⟨_,_,_,h1,_⟩
  ·simp at h1;omega
  ·simp at h1;exact h1.2.1
 refine⟨za ⟨⟨al,ls,acc⟩,A,n,c,A',n',c',rfl,⟨⟨rows,?_,?_⟩,hn,?_,hn'⟩,za hsh,?_,?_⟩,zau hb hc _ _ _⟩
 ·exact zn (zbo h.nx hf (fun b h1 e=>by omega)) hx.size
 ·exact (h.rows.keep hf (fun b h1 e=>by omega)).less hx.size
 ·have ho:=zn (zbo h.acc hf (fun b h1 e=>by omega)) hx.size
  rw [← hn'] at ho;exact ho
 ·exact (h.rd.more hM).frm hf (fun k hk e=>by omega)
 ·exact (((hx.dr.trans h.dr).setNew (p:=⟨Z,0,none⟩) hZ _).setNew (p:=⟨Z,1,none⟩) hZ _).setNew (p:=⟨Z,2,none⟩) hZ _
end
theorem Reads.nat {w:World} {lo hi n k:Nat} {A:Option Addr} {l:List Nat}(h:Reads w lo hi 1 A n (zaq l))(hk:k<n):∃ ad x,A=some ad∧lo≤ad.block∧ad.block<hi∧Hid (l[k]?=some x)∧w.cell? (ad.add k)=some (.int .i64 (x:Nat)):=by
 have e:zaq l=ints (l.map fun n:Nat=>(n:Int)):=by simp [zaq,ints]
 rw [e] at h
 obtain⟨ad,x,ha,hl,hh,hx,hc⟩:=h.int hk
 have hx':=hx.out
 rw [List.getElem?_map] at hx'
 cases hq:l[k]? with
 |none=>rw [hq] at hx';simp at hx'
 |some q =>
  rw [hq] at hx'
  simp at hx'
  exact⟨ad,q,ha,hl,hh,rfl,by rw [hc,hx']⟩
def MovAt (w:World) (b:Nat) (es:List Edg):Prop:=∀ i l:Nat,i<16→l<6→w.cell? ⟨b,i*6+l,none⟩=some (.int .i64 (succ es i l:Nat))
theorem zfY {p:Nat} {es:List Edg} {e:Edg}(h:Few p es)(he:(0≤e.fr∧e.fr<p)∧(0≤e.le∧e.le<6)∧(0≤e.ta∧e.ta<p)):Few p (es++[e]):=fun x hx=>by
 rcases List.mem_append.1 hx with h1|h1
 ·exact h x h1
 ·rw [List.mem_singleton.1 h1];exact he
theorem few_nil (p:Nat):Few p []:=fun x hx=>by cases hx
theorem zdt {R M a p:Nat} {few:Int} {w:World}(h:Rd w R M)(hM:M≤900000000)(ha:a<64)(hp1:1≤p)(hp:p≤16) :
  Calls Tryz.prog 267 #[.pointer (some ⟨R,0,none⟩),.int .i64 a,.int .i64 p,.int .i64 few] w (RetG R (M+20000) 20000 w):=by
 have hsm:Sm a:=by unfold Sm;omega
 have hRl:=h.lt
 go_enter Tryz.func267,Tryz.ntmps267
 go_wp2_with fail
 refine (zV a hsm _).mono ?_
 rintro e w1 ⟨B,d,rfl,ziv,hx1⟩
 obtain⟨bz,bG⟩:=zU hx1
 have hw1:=(((Ext.refl w).alloc _).alloc _).trans hx1
 have hl6:=zC a 6
 have hlm:=za (fun k (hk:k∈letters a 6)=>(zbT.1 hk).1)
 have hrd1:=(Reads.of_own ziv).more (lo':=w.heap.size+2) (hi':=w1.heap.size) (by simp) (Nat.le_refl _)
 have zim:Acc w w1 w1 R (w.heap.size+1) M a p (.slice none 0 0) []:=⟨bG,World.ownsRow_nil _ _ _ _,h.ext hw1,hw1.dr,Frm.refl _ _,hRl,hw1.size,by omega⟩
 have bz1:Blk w1 w.heap.size 38 #[.int .i64 0,.int .i64 0,.slice none 0 0]:=bz
 clear ziv bG hx1 bz
 generalize letters a 6=ls at *
 have hz1:=hw1.size
 go_wp2_with fail
 go_loopw [11] (fun i wr=>∃ k:Nat,k≤p∧i=.int .i64 k∧∃ (v:Value) (es:List Edg),Acc w w1 wr R (w.heap.size+1) (M+k*1000) a p v es∧es.length≤k*1000∧Hid (Few p es)) (fun i _=>p - (intOf i).toNat)
 case atStart=>exact⟨0,Nat.zero_le _,rfl,_,[],zim.more (Nat.le_add_right _ _),Nat.zero_le _,few_nil p⟩
 case round =>
  clear zim
  obtain⟨k,hk,rfl,v,es,zim,hel,hfew⟩:=hrel
  by_cases hlt:k<p
  ·go_wp2_with fail
   go_loopw [12] (fun i wr=>∃ j:Nat,j≤ls.length∧i=.int .i64 j∧∃ (v:Value) (es:List Edg),Acc w w1 wr R (w.heap.size+1) (M+k*1000+j*100) a p v es∧es.length≤k*1000+j*100∧Hid (Few p es)) (fun i _=>ls.length - (intOf i).toNat)
   case atStart=>exact⟨0,Nat.zero_le _,rfl,v,es,zim.more (Nat.le_add_right _ _),Nat.le_trans hel (Nat.le_add_right _ _),hfew⟩
   case round =>
    clear zim hel hfew
    obtain⟨j,hj,rfl,v,es,zim,hel,hfew⟩:=hrel
    by_cases hlj:j<ls.length
    ·go_wp2_with fail
     go_loopw [13] (fun i wr=>∃ x:Nat,x≤p∧i=.int .i64 x∧∃ (v:Value) (es:List Edg),Acc w w1 wr R (w.heap.size+1) (M+k*1000+j*100+x) a p v es∧es.length≤k*1000+j*100+x∧Hid (Few p es)) (fun i _=>p - (intOf i).toNat)
     case atStart=>exact⟨0,Nat.zero_le _,rfl,v,es,zim.more (Nat.le_add_right _ _),Nat.le_trans hel (Nat.le_add_right _ _),hfew⟩
     case round =>
      clear zim hel hfew
      obtain⟨x,hx,rfl,v,es,zim,hel,hfew⟩:=hrel
      by_cases hlx:x<p
      ·go_wp2_with fail
       refine (zx zim.rd (by omega)).mono ?_
       rintro e w2 ⟨y,rfl,_,_,hr2,hd2⟩
       have hacc2:=zim.drawn hd2 hr2
       obtain⟨ad,l,rfl,_,hadhi,hl,hlc⟩:=(hacc2.old hrd1 (by omega)).nat hlj
       have hl6':=hlm.out l (List.mem_of_getElem? hl.out)
       by_cases hy:y=0
       ·subst hy
        have cG:∀ W,Ext w2 W→∀ q,W.cell? ⟨w.heap.size+1,q,none⟩=#[Value.int .i64 a,.int .i64 p,v][q]?:=fun W hW=>(hacc2.blk.ext hW).cell
        have cL:∀ W,Ext w2 W→W.cell? (ad.add j)=some (.int .i64 (l:Nat)):=fun W hW=>hW.cell_some hlc
        have hj0:(0:Int)≤(j:Int):=by omega
        have hj1:(j:Int)<(ls.length:Int):=by omega
        go_wp2_with fail
        refine tR (fun X=>Ext w2 X) [10,12] (Ord.of [0,1,2,3,4,5,6,7,8,9,10,11,12]) ?_
        refine tQ ?_
        (refine zA rfl rfl rfl (fun K hK=>?_);go_simp)
        refine hK.out _ _ ((Ext.refl _).drew.alloc _) ?_
        refine pT ?_
        (refine zL rfl rfl rfl rfl (fun K hK=>?_))
        refine zaG w1 w2.drew _ _ _ rfl 153 _ 3 24 Tryz.underlying36 zbg rfl (by decide) v es.length (zu es) _ _ rfl rfl hacc2.fr.size hacc2.own rfl (by simp [Value.oneCell']) (by unfold maxLen;omega) (by omega) ?_
        intro g cap w3 zix hg3 hat3 hlt3
        refine hK.out _ _ ?_
        refine pT ?_
        refine tQ ?_
        obtain⟨h1,h2,h3⟩:=(hacc2.ext ((Ext.refl _).drew)).push (e:=⟨k,l,x⟩) (W':=w3) zix hg3 hat3
        have h1':=h1.out
        (refine zL rfl rfl rfl rfl (fun K hK=>?_))
        go_simp
        refine hK.out _ _ ?_
        refine zaj ?_
        go_wp2_with fail
        go_roundw
        case rel=>exact⟨x+1,by omega,by go_num,_,_,h3.more (by omega),by simp;omega,zfY hfew.out (by simp;omega)⟩
        case measure=>simp [intOf];omega
       ·have hy':((y:Int)==0)=false:=by simp;omega
        go_wp2_with fail
        go_roundw
        case rel=>exact⟨x+1,by omega,by go_num,v,es,hacc2.more (by omega),by omega,hfew⟩
        case measure=>simp [intOf];omega
      ·obtain rfl:p=x:=by omega
       have e1:es.length≤k*1000+(j+1)*100:=by omega
       have e2:M+k*1000+j*100+p≤M+k*1000+(j+1)*100:=by omega
       go_wp2_with fail
       go_roundw
       case rel=>exact⟨j+1,by omega,by go_num,v,es,zim.more e2,e1,hfew⟩
       case measure=>simp [intOf];omega
    ·obtain rfl:j=ls.length:=by omega
     have e1:es.length≤(k+1)*1000:=by omega
     have e2:M+k*1000+ls.length*100≤M+(k+1)*1000:=by omega
     go_wp2_with fail
     go_roundw
     case rel=>exact⟨k+1,by omega,by go_num,v,es,zim.more e2,e1,hfew⟩
     case measure=>simp [intOf];omega
  ·obtain rfl:p=k:=by omega
   obtain⟨A,n,c,rfl⟩:=zim.form
   obtain⟨rfl,_⟩:=zim.reads
   have hcap:=zhM zim.own
   have cG:=zim.blk.cell
   have bz2:=bz1.frm zim.fr (by omega)
   have cz:=bz2.cell
   have hzz:=bz1.lt
   have fz:=bz2.frozen
   obtain⟨f1,f2,f3⟩:=zim.fin (Z:=w.heap.size) (Nat.le_refl _) (by omega) (.int .i64 a) (.int .i64 p) (.slice A es.length c)
   have Hfin:=za (show RetG R (M+20000) 20000 w (.returned (.agg #[.int .i64 a,.int .i64 p,.slice A es.length c])) _ from ⟨⟨a,p,es⟩,A,es.length,c,rfl,f1,⟨a,p,rfl,ha,rfl,hp1,hp,hfew.out⟩,by omega,f2.more (by omega),f3⟩)
   clear bz1 hrd1 hlm f1 f2 f3
   go_wp2_with fail
   exact bodyPost_ret (v:=.agg #[.int .i64 a,.int .i64 p,.slice A es.length c]) (by simp [results,Tryz.results267,go_sem,cz]) rfl Hfin.out
def shA (al p k:Nat) (a:Aut):Prop:=a.al=al∧a.next.length=p∧a.acc.length=p∧∀ l∈a.next,l.length=k
theorem zfi {R M a p:Nat} {w:World}(h:Rd w R M)(hM:M≤900000000)(ha:a<64)(hp:p≤16) :
  Calls Tryz.prog 254 #[.pointer (some ⟨R,0,none⟩),.int .i64 a,.int .i64 p] w (zfK R (M+400) (shA a p (letters a 6).length) w):=by
 have hsm:Sm a:=by unfold Sm;omega
 have hRl:=h.lt
 go_enter Tryz.func254,Tryz.ntmps254
 have hxz:=(Ext.refl w).alloc (.cells #[.int .i64 0,.slice none 0 0,.slice none 0 0] 31)
 have bz:=Blk.new w 31 #[.int .i64 0,.slice none 0 0,.slice none 0 0]
 have hxG:=(Ext.refl (w.alloc (.cells #[.int .i64 0,.slice none 0 0,.slice none 0 0] 31))).alloc (.cells #[.int .i64 a,.slice none 0 0,.slice none 0 0] 31)
 have bG:=Blk.new (w.alloc (.cells #[.int .i64 0,.slice none 0 0,.slice none 0 0] 31)) 31 #[.int .i64 a,.slice none 0 0,.slice none 0 0]
 have hz1:=bz.lt
 have hsz:(w.alloc (.cells #[.int .i64 0,.slice none 0 0,.slice none 0 0] 31)).heap.size=w.heap.size+1:=by simp
 rw [hsz] at bG
 go_upto_region 2 with fail
 generalize (w.alloc (.cells #[.int .i64 0,.slice none 0 0,.slice none 0 0] 31)).alloc (.cells #[.int .i64 a,.slice none 0 0,.slice none 0 0] 31)=w2 at *
 generalize w.alloc (.cells #[.int .i64 0,.slice none 0 0,.slice none 0 0] 31)=w1 at *
 go_wp2_with fail
 refine (zV a hsm _).mono ?_
 rintro e w3 ⟨B,d,rfl,-,hx3⟩
 have zim:zbt w1 w3 R (w.heap.size+1) M a (.slice none 0 0) [] [] (.slice none 0 0) []:=⟨bG.ext hx3,World.ownsRow_nil _ _ _ _,zI.nil _ _,World.ownsRow_nil _ _ _ _,h.ext ((hxz.trans hxG).trans hx3),(hxG.trans hx3).dr,by omega,by omega⟩
 have hl6:=zC a 6
 clear bG hx3 hxG
 generalize (letters a 6).length=k at *
 go_wp2_with fail
 go_loopw [9] (fun iv wr=>∃ (i:Nat) (v:Value) (rows:List Value) (ls:List (List Int)) (vA:Value) (acc:List Bool),i≤p∧iv=.int .i64 (i:Nat)∧zbt w1 wr R (w.heap.size+1) (M+i*20) a v rows ls vA acc∧ls.length=i∧acc.length=i∧Hid (∀ l∈ls,l.length=k)) (fun iv _=>p - (intOf iv).toNat)
 case atStart=>exact⟨0,_,[],[],_,[],Nat.zero_le _,rfl,zim,rfl,rfl,za (fun l hl=>by simp at hl)⟩
 case round =>
  clear zim
  obtain⟨i,v,rows,ls,vA,acc,hi,rfl,zim,hll,hla,hlk⟩:=hrel
  by_cases hip:i<p
  ·have hlow:=za zim.low
   have hK:=za (show w1.heap.size≤wr.heap.size from zim.dr.size)
   have h0:=World.ownsRow_made (base:=wr.heap.size) (e:=3) (size:=1) wr #[] 0 (Nat.le_refl _) (Nat.zero_le _) rfl
   have hx0:=(Ext.refl wr).alloc (.cells #[] 3)
   have hacc0:=zim.ext hx0
   go_upto_region 7 with fail
   clear zim
   obtain⟨wK,hwK⟩:∃ wK,wK=wr:=⟨_,rfl⟩
   rw [← hwK] at h0 hlow hK hacc0 hx0 ⊢
   clear hwK
   generalize wK.alloc (.cells #[] 3)=w4 at *
   go_wp2_with fail
   go_loopw [10,11] (fun rv jv wr=>∃ (j:Nat) (l:List Int),j≤k∧jv=.int .i64 (j:Nat)∧zbt w1 wr R (w.heap.size+1) (M+i*20+j) a v rows ls vA acc∧l.length=j∧wr.ownsRow wK.heap.size 3 1 rv j (ints l)∧Hid (wK.heap.size≤wr.heap.size)) (fun _ jv _=>k - (intOf jv).toNat)
   case atStart=>exact⟨0,[],Nat.zero_le _,rfl,hacc0,rfl,h0,za hx0.size⟩
   case round =>
    clear hacc0 h0
    obtain⟨j,l,hj,rfl,zim,hlj,hrow,hsK⟩:=hrel
    by_cases hjk:j<k
    ·obtain⟨AR,cR,rfl⟩:=zg hrow
     go_wp2_with fail
     refine (zx zim.rd (by omega)).mono ?_
     rintro e w5 ⟨y,rfl,-,-,hr5,hd5⟩
     have hacc5:=zim.drawn hd5 hr5
     have hrow5:=zbo hrow hd5 (fun b h1 e=>by have:=zim.dr.size;have:=zim.hR;have:=hK.out;omega)
     have hs5:wK.heap.size≤w5.heap.size:=Nat.le_trans hsK.out hd5.size
     have hl':=za hlj
     clear hlj zim hrow
     go_wp2_with (at_builtin;refine zX wK w5 rfl _ _ _ rfl 3 _ 1 8 Tryz.underlying137 zY rfl (by decide) (.slice AR j cR) j (ints l) _ _ rfl rfl hs5 hrow5 rfl (by simp [Value.oneCell']) (by unfold maxLen;omega) (by omega) ?_;intro g5 cap5 w6 hown6 hg6 hat6 hlt6)
     go_roundw
     case rel=>exact⟨j+1,l++[(y:Int)],by omega,by go_num,(hacc5.side hlow.out hK.out hrow5 hg6).more (by omega),by simp [hl'.out],by simpa [ints] using hown6,za (Nat.le_trans hs5 hg6.size)⟩
     case measure=>simp [intOf];omega
    ·obtain rfl:j=k:=by omega
     obtain⟨AR,cR,rfl⟩:=zg hrow
     have cG:=zim.blk.cell
     have hs1:=zim.dr.size
     have hrow':wr.ownsRow wK.heap.size 3 1 (.slice AR j cR) l.length (ints l):=by rw [hlj];exact hrow
     go_upto_region 12 with (at_builtin;refine zX w1 wr rfl _ _ _ rfl 137 _ 1 24 Tryz.underlying25 zbJ rfl (by decide) v ls.length rows _ _ rfl rfl hs1 zim.nx rfl (zaJ _ _ _) (by unfold maxLen;omega) (by omega) ?_;intro g5 cap5 w6 hown6 hg6 hat6 hlt6;obtain⟨q1,q2,q3⟩:=zim.pushRow hlow.out hK.out hrow' hown6 hg6 hat6;have q1':=q1.out)
     rw [hll] at q3
     clear q1 q1' q2 hown6 hg6 hat6 hlt6 hrow hrow' cG zim
     have hlk7:=za (show ∀ l'∈ls++[l],l'.length=j from fun l' hl'=>by
      rcases List.mem_append.1 hl' with h1|h1
      ·exact hlk.out l' h1
      ·rw [List.mem_singleton.1 h1];exact hlj)
     have hll7:(ls++[l]).length=i+1:=by simp [hll]
     clear hlj hll
     generalize ls++[l]=ls7 at *
     generalize rows++[.slice AR j cR]=rows7 at *
     generalize w6.setCell ⟨w.heap.size+1,1,none⟩ (.slice (some ⟨g5,0,none⟩) (i+1) cap5)=w7 at *
     generalize Value.slice (some ⟨g5,0,none⟩) (i+1) cap5=v7 at *
     have cG:∀ W,Dr R w7 W→∀ q,W.cell? ⟨w.heap.size+1,q,none⟩=#[Value.int .i64 a,v7,vA][q]?:=fun W hW=>(q3.blk.dr hW (by omega)).cell
     refine tR (fun X=>Dr R w7 X) [6,8] (Ord.of [0,1,2,3,4,5,6,7,8]) ?_
     refine tQ ?_
     (refine zA rfl rfl rfl (fun K hK=>?_);go_simp)
     refine (zx (n:=3) (q3.rd.ext ((Ext.refl _).drew)) (by omega)).mono ?_
     rintro e w8 ⟨z,rfl,-,-,hr8,hd8⟩
     have hd78:Dr R w7 w8:=((Dr.refl R w7).drew).trans hd8
     have hacc8:=q3.drawn hd78 hr8
     refine hK.out _ _ hd78 ?_
     refine pT ?_
     refine tQ ?_
     (refine zA rfl rfl rfl (fun K hK=>?_);go_simp)
     refine hK.out _ _ (hd78.alloc _) ?_
     refine pT ?_
     (refine zL rfl rfl rfl rfl (fun K hK=>?_))
     trace_state
     refine zaG w1 w8 _ _ _ rfl 4 _ 1 1 Tryz.underlying26 zaX rfl (by decide) vA acc.length (zaB acc) _ _ rfl rfl hacc8.dr.size hacc8.acc rfl (by simp [Value.oneCell']) (by unfold maxLen;omega) (by omega) ?_
     intro g9 cap9 w9 hown9 hg9 hat9 hlt9
     refine hK.out _ _ ?_
     refine pT ?_
     refine tQ ?_
     obtain⟨p1,p2,p3⟩:=hacc8.pushAcc (x:=decide (0<z)) (W':=w9) hown9 hg9 hat9
     have p1':=p1.out
     rw [hla] at p3
     (refine zL rfl rfl rfl rfl (fun K hK=>?_))
     go_simp
     refine hK.out _ _ ?_
     refine zaj ?_
     go_wp2_with fail
     go_roundw
     case rel=>exact⟨i+1,_,_,_,_,_,by omega,by go_num,p3.more (by omega),hll7,by simp [hla],hlk7⟩
     case measure=>simp [intOf];omega
  ·obtain rfl:i=p:=by omega
   obtain⟨A5,c5,rfl⟩:=zg zim.nx
   obtain⟨B5,d5,rfl⟩:=zg zim.acc
   obtain⟨f1,f2⟩:=zim.fin (N:=M+400) (sh:=shA a i k) hxz bz rfl hRl (Nat.le_refl _) hz1 (by omega) ⟨rfl,hll,hla,hlk.out⟩
   rw [hll,hla] at f1 f2
   have cG:=zim.blk.cell
   have bz5:=bz.dr zim.dr (by omega)
   have cZ:=bz5.cell
   have fZ:=bz5.frozen
   go_wp2_with fail
   have cf:=f2.cell
   exact bodyPost_ret (v:=.agg #[.int .i64 a,.slice A5 i c5,.slice B5 i d5]) (by simp [results,Tryz.results254,go_sem,cf]) rfl f1.out
theorem zae {w:World} {base:Nat} {e:TypeId} {size n c:Nat} {A:Option Addr} {xs:List Value}(h:w.ownsRow base e size (.slice A n c) n xs)(hn:0<n):∃ g,A=some ⟨g,0,none⟩∧base≤g∧g<w.heap.size:=by
 rcases h.2 with ⟨_,h0⟩|⟨g,cap,cur,hv,hg,hh,_⟩
 ·omega
 ·injection hv with h1 h2 h3
  exact⟨g,h1,hg,(Array.getElem?_eq_some_iff.1 hh).1⟩
def blk (A:Option Addr) (b:Nat):Prop:=∃ a,A=some a∧a.block=b
theorem tot_cons (l:List Int) (r:List (List Int)):tot (l :: r)=l.length+tot r:=by simp [tot]
theorem zI.set_ {w w':World} {base j:Nat} {rows:List Value} {ls:List (List Int)} {A:Option Addr} {c:Nat} {l:List Int}(h:zI w base rows ls)(hr:rows[j]?=some (.slice A l.length c))
  (hf:Frm (blk A) w w') (zil:w'.ownsRow base 3 1 (.slice A l.length c) l.length (ints l)):zI w' base rows (ls.set j l):=by
 have hj:j<rows.length:=(List.getElem?_eq_some_iff.1 hr).1
 refine⟨by simp [h.1],fun i row m hi hm=>?_,h.2.2⟩
 by_cases hij:i=j
 ·subst hij
  rw [hr] at hi
  obtain rfl:=Option.some.inj hi
  rw [List.getElem?_set_self (by rw [← h.1];exact hj)] at hm
  obtain rfl:=Option.some.inj hm
  exact zil
 ·rw [List.getElem?_set_ne (fun e=>hij e.symm)] at hm
  refine zf (h.2.1 i row m hi hm) hf (fun b hb hS=>?_)
  obtain⟨ad,rfl,rfl⟩:=hS
  exact h.2.2 i j row _ ad.block hi hr hij hb rfl
section
variable {w0 W W':World} {R G M N:Nat} {al:Int} {v vA:Value} {rows:List Value} {ls:List (List Int)} {acc:List Bool}
theorem zbt.of {A A':Option Addr} {n c n' c':Nat} {a:Aut}(ho:zZ W w0.heap.size A n c A' n' c' a)(hr:Rd W R M)(hd:Dr R w0 W)(hR:R<w0.heap.size) :
  ∃ rows,zbt w0 (W.alloc (.cells #[.int .i64 a.al,.slice A n c,.slice A' n' c'] 31)) R W.heap.size M a.al (.slice A n c) rows a.next (.slice A' n' c') a.acc:=by
 obtain⟨⟨rows,h1,h2⟩,h3,h4,h5⟩:=ho
 have hx:=(Ext.refl W).alloc (.cells #[.int .i64 a.al,.slice A n c,.slice A' n' c'] 31)
 refine⟨rows,Blk.new W _ _,zh h1 hx,h2.keep hx.toFrm (fun _ _=>id),?_,hr.ext hx,hd.ext hx,hR,hd.size⟩
 rw [← h5]
 exact zh h4 hx
theorem zbt.setAcc {g n c i:Nat} {x:Bool}(h:zbt w0 W R G M al v rows ls (.slice (some ⟨g,0,none⟩) n c) acc)(hn:n=acc.length) :
  zbt w0 (W.setCell ⟨g,i,none⟩ (.bool x)) R G M al v rows ls (.slice (some ⟨g,0,none⟩) n c) (acc.set i x):=by
 subst hn
 have hf:=Frm.setCell W g i (.bool x)
 have hg:=(h.acc.lt g rfl).1
 have hRG:=h.hR
 have hst:=(h.acc.stored i (.bool x)).1
 rw [show (zaB acc).set i (.bool x)=zaB (acc.set i x) by simp [zaB,List.map_set]] at hst
 refine⟨h.blk.frm hf (fun e=>zq h.acc h.blk (by decide) rfl e.symm),zf h.nx hf (fun b hb hS=>?_),h.rows.frm hf (fun i' r b hr hb hS=>?_),by simpa using hst,h.rd.frm hf (fun k hk e=>by omega),h.dr.setNew (p:=⟨g,i,none⟩) hg _,hRG,h.hG⟩
 ·subst hS;exact zaS h.nx h.acc (by decide) hb rfl
 ·subst hS
  obtain⟨l',_,ho⟩:=h.rows.row hr
  exact zaS ho h.acc (by decide) hb rfl
theorem zbt.setRow {g n c i k:Nat} {x:Int} {l:List Int}(h:zbt w0 W R G M al v rows ls vA acc)(hr:rows[i]?=some (.slice (some ⟨g,0,none⟩) n c))(hl:ls[i]?=some l)(hn:n=l.length) :
  zbt w0 (W.setCell ⟨g,k,none⟩ (.int .i64 x)) R G M al v rows (ls.set i (l.set k x)) vA acc:=by
 subst hn
 have hf:=Frm.setCell W g k (.int .i64 x)
 have ho:=h.rows.2.1 i _ l hr hl
 have hg:=(ho.lt g rfl).1
 have hRG:=h.hR
 have hst:=(ho.stored k (.int .i64 x)).1
 rw [show (ints l).set k (.int .i64 x)=ints (l.set k x) by simp [ints,List.map_set]] at hst
 have hf':Frm (Go.Proofs.YtmjaepibdpfblaaGreatDoor.blk (some ⟨g,0,none⟩)) W (W.setCell ⟨g,k,none⟩ (.int .i64 x)):=hf.mono (fun b _ hb=>⟨_,rfl,hb.symm⟩)
 refine⟨h.blk.frm hf (fun e=>zq ho h.blk (by decide) rfl e.symm),?_,?_,zf h.acc hf (fun b hb hS=>?_),h.rd.frm hf (fun k hk e=>by omega),h.dr.setNew (p:=⟨g,k,none⟩) hg _,hRG,h.hG⟩
 ·rw [List.length_set]
  exact zf h.nx hf (fun b hb hS=>by subst hS;exact zaS h.nx ho (by decide) hb rfl)
 ·have:=h.rows.set_ (w':=W.setCell ⟨g,k,none⟩ (.int .i64 x)) (j:=i) (l:=l.set k x) (A:=some ⟨g,0,none⟩) (c:=c) (by simpa using hr) hf' (by simpa using hst)
  exact this
 ·subst hS;exact zaS h.acc ho (by decide) hb rfl
theorem zbt.row {g n c i:Nat} {l:List Int}(h:zbt w0 W R G M al (.slice (some ⟨g,0,none⟩) n c) rows ls vA acc)(hl:ls[i]?=some l)(hn:n=ls.length) :
  ∃ Ar cr,rows[i]?=some (.slice Ar l.length cr)∧W.cell? ⟨g,i,none⟩=some (.slice Ar l.length cr)∧W.ownsRow w0.heap.size 3 1 (.slice Ar l.length cr) l.length (ints l):=by
 subst hn
 have hi:i<ls.length:=(List.getElem?_eq_some_iff.1 hl).1
 have hi':i<rows.length:=by rw [h.rows.1];exact hi
 have hr:rows[i]?=some rows[i]:=List.getElem?_eq_getElem hi'
 have ho:=h.rows.2.1 i _ l hr hl
 obtain⟨Ar,cr,e⟩:=zg ho
 rw [e] at hr ho
 exact⟨Ar,cr,hr,by rw [h.nx.cellAt i (by omega),hr],ho⟩
end
theorem zgE {R M a p:Nat} {w:World}(h:Rd w R M)(hM:M≤900000000)(ha:a<64)(hp0:1≤p)(hp:p≤16) :
  Calls Tryz.prog 253 #[.pointer (some ⟨R,0,none⟩),.int .i64 a,.int .i64 p] w (zfK R (M+400) (shA a p (letters a 6).length) w):=by
 have hRl:=h.lt
 go_enter Tryz.func253,Tryz.ntmps253
 have hxz:=(Ext.refl w).alloc (.cells #[.int .i64 0,.slice none 0 0,.slice none 0 0] 31)
 have bz:=Blk.new w 31 #[.int .i64 0,.slice none 0 0,.slice none 0 0]
 have hz1:=bz.lt
 go_wp2_with fail
 generalize w.alloc (.cells #[.int .i64 0,.slice none 0 0,.slice none 0 0] 31)=w1 at *
 refine (zfi (h.ext hxz) hM ha hp).mono ?_
 rintro e w2 ⟨b,A,n,c,A',n',c',rfl,zil,hsh,hr2,hd2⟩
 obtain⟨rows,zim⟩:=zbt.of zil hr2 hd2 (by omega)
 obtain⟨s1,s2,s3,s4⟩:=hsh.out
 have hn:n=b.next.length:=zil.2.1
 have hn':n'=b.acc.length:=zil.2.2.2
 obtain⟨bal,bnx,bac⟩:=b
 dsimp only at *
 subst s1
 rw [s2] at hn;rw [s3] at hn'
 replace hn:=hn.symm
 replace hn':=hn'.symm
 subst hn;subst hn'
 have hG:=hd2.size
 clear zil hr2 hd2 hsh
 have S4:=za s4
 clear s4
 have hl6:=zC a 6
 generalize (letters a 6).length=k at *
 obtain⟨gA,rfl,hgA,-⟩:=zae (s3 ▸ zim.acc) hp0
 obtain⟨gN,rfl,hgN,-⟩:=zae (s2 ▸ zim.nx) hp0
 have S2:=za s2
 have S3:=za s3
 clear s2 s3
 go_upto_region 2 with fail
 generalize w2.alloc (.cells #[.int .i64 a,.slice (some ⟨gN,0,none⟩) p c,.slice (some ⟨gA,0,none⟩) p c'] 31)=w3 at *
 generalize w2.heap.size=G at *
 go_wp2_with fail
 go_loopw [8] (fun iv wr=>∃ (i:Nat) (acc:List Bool),i≤p∧iv=.int .i64 (i:Nat)∧zbt w1 wr R G (M+400) a (.slice (some ⟨gN,0,none⟩) p c) rows bnx (.slice (some ⟨gA,0,none⟩) p c') acc∧Hid (acc.length=p)) (fun iv _=>p - (intOf iv).toNat)
 case atStart=>exact⟨0,_,Nat.zero_le _,rfl,zim,S3⟩
 case round =>
  clear zim
  obtain⟨i,acc,hi,rfl,zim,hal⟩:=hrel
  by_cases hip:i<p
  ·have cG:=zim.blk.cell
   have ho:=zim.acc
   rw [hal.out] at ho
   obtain⟨o0,c0⟩:=zbb ho i (by omega)
   have f0:=ho.frozenAt i
   have hset:=zim.setAcc (i:=i) (x:=decide ((i:Int)<(p:Int) - 1)) hal.out.symm
   clear ho
   go_wp2_with fail
   go_roundw
   case rel=>exact⟨i+1,_,by omega,by go_num,hset,za (by rw [List.length_set];exact hal.out)⟩
   case measure=>simp [intOf];omega
  ·clear hi
   have hp1:p - 1<bnx.length:=by have:=S2.out;omega
   obtain⟨l0,hl0⟩:∃ l,bnx[p - 1]?=some l:=⟨_,List.getElem?_eq_getElem hp1⟩
   have hll:=za (S4.out l0 (List.mem_of_getElem? hl0))
   have Hl0:=za hl0
   have hpc:((p:Int) - 1).toNat=p - 1:=by omega
   clear hl0 hp1
   go_wp2_with fail
   go_loopw [9] (fun iv wr=>∃ (j:Nat) (ls:List (List Int)) (l:List Int),j≤k∧iv=.int .i64 (j:Nat)∧zbt w1 wr R G (M+400) a (.slice (some ⟨gN,0,none⟩) p c) rows ls (.slice (some ⟨gA,0,none⟩) p c') acc∧Hid (ls.length=p)∧Hid (∀ l∈ls,l.length=k)∧Hid (ls[p - 1]?=some l)) (fun iv _=>k - (intOf iv).toNat)
   case atStart=>exact⟨0,_,_,Nat.zero_le _,rfl,zim,S2,S4,Hl0⟩
   case round =>
    clear zim hll
    obtain⟨j,ls,l,hj,rfl,zim,hls,hlk,hl0⟩:=hrel
    have hll:=hlk.out l (List.mem_of_getElem? hl0.out)
    obtain⟨Ar,cr,hrr,hcell,hor⟩:=zim.row hl0.out hls.out.symm
    have cG:=zim.blk.cell
    rw [hll] at hrr hcell hor
    have HR:=za hrr
    clear hrr
    by_cases hjk:j<k
    ·obtain⟨g,rfl,-,-⟩:=zae hor (by omega)
     obtain⟨o0,c0⟩:=zbb hor j (by omega)
     have f0:=hor.frozenAt j
     have hset:=zim.setRow (k:=j) (x:=(p:Int) - 1) HR.out hl0.out hll.symm
     clear hor
     have HL:=za hll
     clear hll
     go_wp2_with fail
     go_roundw
     case rel =>
      refine⟨j+1,_,l.set j ((p:Int) - 1),by omega,by go_num,hset,za (by rw [List.length_set];exact hls.out),za (fun l' hl'=>?_),za ?_⟩
      ·rcases List.mem_or_eq_of_mem_set hl' with h1|h1
       ·exact hlk.out l' h1
       ·rw [h1,List.length_set];exact HL.out
      ·have:=hls.out
       rw [List.getElem?_set_self (by omega)]
     case measure=>simp [intOf];omega
    ·obtain⟨f1,f2⟩:=zim.fin (N:=M+400) (sh:=shA a p k) hxz bz rfl hRl (Nat.le_refl _) hz1 (by omega) ⟨rfl,hls.out,hal.out,hlk.out⟩
     have bz5:=bz.dr zim.dr (by omega)
     have cZ:=bz5.cell
     have fZ:=bz5.frozen
     clear hor hll
     go_wp2_with fail
     have cf:=f2.cell
     exact bodyPost_ret (v:=.agg #[.int .i64 a,.slice (some ⟨gN,0,none⟩) p c,.slice (some ⟨gA,0,none⟩) p c']) (by simp [results,Tryz.results253,go_sem,cf]) rfl f1.out
def RetStr (L:Nat) (w:World) (e:Ending) (w':World):Prop:=∃ s:ByteArray,e=.returned (.string s)∧s.size≤L∧Ext w w'
theorem zhB (w:World) (x:Int):(convert 62 9 (.slice (some ⟨w.heap.size,0,none⟩) 1 1)).run Tryz.prog (w.alloc (.cells #[.int .u8 x] 5))=.ok (.string (strOfNums [x])) (w.alloc (.cells #[.int .u8 x] 5)):=
 run_convert_bytes_arg _ _ 5 Tryz.underlying62 Tryz.underlying5 w.heap.size 0 1 1 [x] rfl (fun i hi=>by
  obtain rfl:i=0:=by omega
  rw [(Blk.new w 5 #[.int .u8 x]).cell];rfl) _ Tryz.underlying9
theorem zdZ (x:Int):(strOfNums [x]).size=1:=by simp [strOfNums];rfl
theorem zdq {l:Int} {w:World}(h0:0≤l)(h1:l<6) :
  Calls Tryz.prog 139 #[.int .i64 l] w (RetStr 1 w):=by
 have hc:=zhB w
 go_enter Tryz.func139,Tryz.ntmps139
 go_wp2
 go_ret
 exact⟨_,rfl,Nat.le_of_eq (zdZ _),(Ext.refl _).alloc _⟩
theorem zbx {a:Nat} {w:World}(ha:a<64) :
  Calls Tryz.prog 284 #[.int .i64 a] w (RetStr 6 w):=by
 have hsm:Sm a:=by unfold Sm;omega
 have hd:=za (show decide (0≤(a:Int)∧(a:Int)≤63)=true by simp;omega)
 by_cases h0:a=0
 ·subst h0
  rw [show ((0:Nat):Int)=0 from rfl]
  have hd0:=za (show decide ((0:Int)≤0∧(0:Int)≤63)=true by decide)
  go_enter Tryz.func284,Tryz.ntmps284
  go_wp2_with (go_at_call 143;refine (zR _ _).mono ?_;rw [hd0.out];rintro e w' ⟨rfl,rfl⟩)
  go_ret
  exact⟨_,rfl,by decide,Ext.refl _⟩
 ·have h0':((a:Int)==0)=false:=by simp;omega
  go_enter Tryz.func284,Tryz.ntmps284
  go_wp2_with fail
  refine (zR _ _).mono ?_
  rw [hd.out]
  rintro e w' ⟨rfl,rfl⟩
  go_wp2_with fail
  refine (zV a hsm _).mono ?_
  rintro e w1 ⟨B,d,rfl,ziv,hx1⟩
  have hl6:=zC a 6
  have hlm:=za (fun k (hk:k∈letters a 6)=>(zbT.1 hk).1)
  have hrd:=Reads.of_own ziv
  clear ziv
  generalize letters a 6=ls at *
  go_wp2_with fail
  go_loopw [3,5] (fun v i wr=>∃ k:Nat,k≤ls.length∧i=.int .i64 k∧∃ s:ByteArray,v=.string s∧s.size≤k∧Ext w1 wr) (fun _ i _=>ls.length - (intOf i).toNat)
  case atStart=>exact⟨0,Nat.zero_le _,rfl,_,rfl,Nat.le_refl _,Ext.refl _⟩
  case round =>
   obtain⟨k,hk,rfl,s,rfl,hs,zin⟩:=hrel
   by_cases hlt:k<ls.length
   ·obtain⟨ad,l,rfl,_,_,hl,hlc⟩:=(hrd.ext zin).nat hlt
    have hl6':=hlm.out l (List.mem_of_getElem? hl.out)
    go_wp2_with fail
    refine (zdq (l:=(l:Int)) (by omega) (by omega)).mono ?_
    rintro e w2 ⟨t,rfl,ht,hx2⟩
    have hst:s.size+t.size≤7:=by omega
    go_wp2_with fail
    go_roundw
    case rel=>exact⟨k+1,by omega,by go_num,_,rfl,by rw [ByteArray.size_append];omega,zin.trans hx2⟩
    case measure=>simp [intOf];omega
   ·obtain rfl:k=ls.length:=by omega
    go_wp2_with fail
    go_ret
    exact⟨s,rfl,by omega,hx1.trans zin⟩
def RetAl (w:World) (e:Ending) (w':World):Prop:=∃ (a:Nat) (ok:Bool),e=.returned (.tuple #[.int .i64 a,.bool ok])∧a<64∧Ext w w'
theorem zcG {x:ByteArray} {w:World} :
  Calls Tryz.prog 245 #[.string x] w (RetAl w):=by
 go_enter Tryz.func245,Tryz.ntmps245
 go_wp2_with fail
 go_loopw [4] (fun i wr=>∃ k:Nat,k≤64∧i=.int .i64 k∧Ext w wr) (fun i _=>64 - (intOf i).toNat)
 case atStart=>exact⟨0,Nat.zero_le _,rfl,Ext.refl _⟩
 case round =>
  obtain⟨k,hk,rfl,zin⟩:=hrel
  by_cases hlt:k<64
  ·go_wp2_with fail
   refine (zbx hlt).mono ?_
   rintro e w2 ⟨t,rfl,ht,hx2⟩
   cases hxt:t.toList==x.toList
   ·go_wp2_with fail
    go_roundw
    case rel=>exact⟨k+1,by omega,by go_num,zin.trans hx2⟩
    case measure=>simp [intOf];omega
   ·go_wp2_with fail
    go_ret2
    exact⟨k,true,rfl,hlt,zin.trans hx2⟩
  ·obtain rfl:k=64:=by omega
   go_wp2_with fail
   go_ret2
   exact⟨0,false,rfl,by omega,zin⟩
theorem zdo {n:Nat} {w:World}(hn:n<100) :
  Calls Tryz.prog 285 #[.int .i64 n] w (RetStr 2 w):=by
 have hn1:(n:Int)<100:=by omega
 go_enter Tryz.func285,Tryz.ntmps285
 go_wp2_with fail
 go_loopw [0,3] (fun n' v wr=>∃ (m:Nat) (s:ByteArray),n'=.int .i64 m∧v=.string s∧(m<100∧s.size=0∨m<10∧s.size≤1)∧Ext w wr) (fun n' _ _=>(intOf n').toNat)
 case atStart=>exact⟨n,_,rfl,rfl,Or.inl ⟨hn,rfl⟩,Ext.refl _⟩
 case round =>
  obtain⟨m,s,rfl,rfl,hms,zin⟩:=hrel
  have hm100:m<100:=by omega
  have hc:=zhB wr
  have hso:=zdZ
  by_cases hlt:9<m
  ·have hs0:s.size=0:=by omega
   have hdiv:=za (Int.natCast_ediv m 10)
   have hm9:(9:Int)<(m:Int):=by omega
   have hs1:s.size≤1:=by omega
   have Hs0:=za hs0
   clear hms hs0
   go_wp2_with fail
   go_roundw
   case rel=>exact⟨m / 10,_,by rw [hdiv.out];rfl,rfl,Or.inr ⟨by omega,by rw [ByteArray.size_append,zdZ,Hs0.out];omega⟩,zin.alloc _⟩
   case measure=>simp [intOf];omega
  ·have hm9:(m:Int)≤9:=by omega
   have hs1:s.size≤1:=by omega
   clear hms
   go_wp2_with fail
   go_ret
   exact⟨_,rfl,by rw [ByteArray.size_append,zdZ];omega,zin.alloc _⟩
def RetNumS (w:World) (e:Ending) (w':World):Prop:=∃ (n:Int) (ok:Bool),e=.returned (.tuple #[.int .i64 n,.bool ok])∧w=w'
theorem zdp {s:ByteArray} {w:World}(hs:s.size≤1000000) :
  Calls Tryz.prog 246 #[.string s] w (RetNumS w):=by
 by_cases h0:s.size=0
 ·have h0':¬ 0<s.size:=by omega
  go_enter Tryz.func246,Tryz.ntmps246
  go_wp2
  go_ret2
  exact⟨0,false,rfl,rfl⟩
 have h0':0<s.size:=by omega
 cases hm:((s[0].toNat:Int)==45)
 ·have hq0:0<s.size:=h0'
  by_cases z0:s.size=0
  ·go_enter Tryz.func246,Tryz.ntmps246
   go_wp2
   go_ret2
   exact⟨0,false,rfl,rfl⟩
  have z1:0<s.size:=by omega
  have z1':((s.size:Int)==0)=false:=by rw [beq_eq_false_iff_ne];omega
  by_cases z2:17<s.size
  ·have z2':(17:Int)<(s.size:Int):=by omega
   go_enter Tryz.func246,Tryz.ntmps246
   go_wp2
   go_ret2
   exact⟨0,false,rfl,rfl⟩
  have z2':(s.size:Int)≤17:=by omega
  cases z3:((s[0].toNat:Int)==48)
  ·go_enter Tryz.func246,Tryz.ntmps246
   go_wp2_with fail
   go_loop [5,6] (fun v i=>∃ (k:Nat) (n:Int),k≤s.size∧i=.int .i64 k∧v=.int .i64 n) (fun _ i=>s.size - (intOf i).toNat)
   case atStart=>exact⟨0,0,Nat.zero_le _,rfl,rfl⟩
   case round =>
    obtain⟨k,n,hk,rfl,rfl⟩:=hrel
    by_cases hlt:k<s.size
    ·have hb:=zcf s k hlt
     by_cases c0:(s[k].toNat:Int)<48
     ·go_wp2_with fail
      go_ret2
      exact⟨0,false,rfl,rfl⟩
     ·by_cases c1:57<(s[k].toNat:Int)
      ·go_wp2_with fail
       go_ret2
       exact⟨0,false,rfl,rfl⟩
      ·go_wp2_with fail
       go_round
       case rel=>exact⟨k+1,_,by omega,by go_num,rfl⟩
       case measure=>simp [intOf];omega
    ·obtain rfl:k=s.size:=by omega
     go_wp2_with fail
     go_ret2
     exact⟨_,true,rfl,rfl⟩
  ·by_cases z4:1<s.size
   ·have z4':(1:Int)<(s.size:Int):=by omega
    go_enter Tryz.func246,Tryz.ntmps246
    go_wp2
    go_ret2
    exact⟨0,false,rfl,rfl⟩
   ·have z4':(s.size:Int)≤1:=by omega
    go_enter Tryz.func246,Tryz.ntmps246
    go_wp2_with fail
    go_loop [5,6] (fun v i=>∃ (k:Nat) (n:Int),k≤s.size∧i=.int .i64 k∧v=.int .i64 n) (fun _ i=>s.size - (intOf i).toNat)
    case atStart=>exact⟨0,0,Nat.zero_le _,rfl,rfl⟩
    case round =>
     obtain⟨k,n,hk,rfl,rfl⟩:=hrel
     by_cases hlt:k<s.size
     ·have hb:=zcf s k hlt
      by_cases c0:(s[k].toNat:Int)<48
      ·go_wp2_with fail
       go_ret2
       exact⟨0,false,rfl,rfl⟩
      ·by_cases c1:57<(s[k].toNat:Int)
       ·go_wp2_with fail
        go_ret2
        exact⟨0,false,rfl,rfl⟩
       ·go_wp2_with fail
        go_round
        case rel=>exact⟨k+1,_,by omega,by go_num,rfl⟩
        case measure=>simp [intOf];omega
     ·obtain rfl:k=s.size:=by omega
      go_wp2_with fail
      go_ret2
      exact⟨_,true,rfl,rfl⟩
 ·obtain⟨y,hy⟩:∃ y,s.extract 1 s.size=y:=⟨_,rfl⟩
  have hyl:y.size=s.size - 1:=by rw [← hy,ByteArray.size_extract];omega
  have hyb:y.size≤1000000:=by omega
  have Hyl:=za hyl
  clear hyl
  have h01:(1:Int)≤(s.size:Int):=by omega
  by_cases z0:y.size=0
  ·go_enter Tryz.func246,Tryz.ntmps246
   go_wp2
   go_ret2
   exact⟨0,false,rfl,rfl⟩
  have z1:0<y.size:=by omega
  have z1':((y.size:Int)==0)=false:=by rw [beq_eq_false_iff_ne];omega
  by_cases z2:17<y.size
  ·have z2':(17:Int)<(y.size:Int):=by omega
   go_enter Tryz.func246,Tryz.ntmps246
   go_wp2
   go_ret2
   exact⟨0,false,rfl,rfl⟩
  have z2':(y.size:Int)≤17:=by omega
  cases z3:((y[0].toNat:Int)==48)
  ·go_enter Tryz.func246,Tryz.ntmps246
   go_wp2_with fail
   go_loop [5,6] (fun v i=>∃ (k:Nat) (n:Int),k≤y.size∧i=.int .i64 k∧v=.int .i64 n) (fun _ i=>y.size - (intOf i).toNat)
   case atStart=>exact⟨0,0,Nat.zero_le _,rfl,rfl⟩
   case round =>
    obtain⟨k,n,hk,rfl,rfl⟩:=hrel
    by_cases hlt:k<y.size
    ·have hb:=zcf y k hlt
     by_cases c0:(y[k].toNat:Int)<48
     ·go_wp2_with fail
      go_ret2
      exact⟨0,false,rfl,rfl⟩
     ·by_cases c1:57<(y[k].toNat:Int)
      ·go_wp2_with fail
       go_ret2
       exact⟨0,false,rfl,rfl⟩
      ·go_wp2_with fail
       go_round
       case rel=>exact⟨k+1,_,by omega,by go_num,rfl⟩
       case measure=>simp [intOf];omega
    ·obtain rfl:k=y.size:=by omega
     go_wp2_with fail
     go_ret2
     exact⟨_,true,rfl,rfl⟩
  ·by_cases z4:1<y.size
   ·have z4':(1:Int)<(y.size:Int):=by omega
    go_enter Tryz.func246,Tryz.ntmps246
    go_wp2
    go_ret2
    exact⟨0,false,rfl,rfl⟩
   ·have z4':(y.size:Int)≤1:=by omega
    go_enter Tryz.func246,Tryz.ntmps246
    go_wp2
    go_ret2
    exact⟨0,false,rfl,rfl⟩
theorem zo:(Tryz.prog.info? 9).map (fun i=>(i.zero,i.size,i.bytes))=some (some (.string ⟨#[]⟩),1,16):=by kernel_rfl
def RetStrs (L N:Nat) (w:World) (e:Ending) (w':World):Prop:=∃ (A:Option Addr) (n c:Nat) (l:List ByteArray),e=.returned (.slice A n c)∧n=l.length∧w'.ownsRow w.heap.size 9 1 (.slice A n c) n (zW l)∧(∀ x∈l,x.size≤L)∧n≤N∧Ext w w'
theorem zcb (x:ByteArray):∀ u∈(#[Value.string x]:Array Value).toList,u.oneCell'=true:=by simp [Value.oneCell']
theorem spec_l19Cut {s:ByteArray} {w:World}(hs:s.size≤1000000) :
  Calls Tryz.prog 244 #[.string s,.int .u8 32] w (RetStrs s.size (s.size+1) w):=by
 go_enter Tryz.func244,Tryz.ntmps244
 go_wp2_with fail
 go_loopw [5,6,7] (fun v f i wr=>∃ (k m:Nat) (l:List ByteArray),k≤s.size+1∧i=.int .i64 k∧m≤k∧f=.int .i64 m∧l.length≤k∧wr.ownsRow w.heap.size 9 1 v l.length (zW l)∧Hid (∀ x∈l,x.size≤s.size)∧Ext w wr) (fun _ _ i _=>s.size+1 - (intOf i).toNat)
 case atStart=>exact⟨0,0,[],Nat.zero_le _,rfl,Nat.le_refl _,rfl,Nat.le_refl _,World.ownsRow_lit w #[] 0 (Nat.le_refl _) (by unfold maxLen;omega) rfl,(fun x hx=>by cases hx),(Ext.refl _).alloc _⟩
 case round =>
  obtain⟨k,m,l,hk,rfl,hm,rfl,hl,zil,hlx,zin⟩:=hrel
  by_cases hle:k≤s.size
  ·have hle':(k:Int)≤(s.size:Int):=by omega
   have hm':(m:Int)≤(k:Int):=by omega
   have hex:=za (show (s.extract m k).size≤s.size by rw [ByteArray.size_extract];omega)
   have hall:=za (show ∀ x∈l++[s.extract m k],x.size≤s.size from fun x hx=>by
    rcases List.mem_append.1 hx with h1|h1
    ·exact hlx.out x h1
    ·rw [List.mem_singleton.1 h1];exact hex.out)
   by_cases he:k=s.size
   ·have heq:((k:Int)==(s.size:Int))=true:=by simp [he]
    have He:=za he
    clear he
    go_wp2_with (at_builtin;refine zQ w wr rfl _ _ _ rfl 9 _ 1 16 Tryz.underlying100 zo rfl (by decide) u5 _ _ _ _ rfl rfl zin zil rfl (zcb _) (by unfold maxLen;omega) (by omega) ?_;intro v' w1 hext1 ziv hg1 hat1)
    go_roundw
    case rel=>exact⟨k+1,k+1,l++[s.extract m k],by omega,by go_num,by omega,by go_num,by simp;omega,by simpa [zW] using ziv,hall.out,by assumption⟩
    case measure=>simp [intOf];omega
   ·have heq:((k:Int)==(s.size:Int))=false:=by rw [beq_eq_false_iff_ne];omega
    have hlt:k<s.size:=by omega
    have hb:=zcf s k hlt
    cases hc:((s[k].toNat:Int)==32)
    ·go_wp2_with fail
     go_roundw
     case rel=>exact⟨k+1,m,l,by omega,by go_num,by omega,rfl,by omega,zil,hlx,zin⟩
     case measure=>simp [intOf];omega
    ·go_wp2_with (at_builtin;refine zQ w wr rfl _ _ _ rfl 9 _ 1 16 Tryz.underlying100 zo rfl (by decide) u5 _ _ _ _ rfl rfl zin zil rfl (zcb _) (by unfold maxLen;omega) (by omega) ?_;intro v' w1 hext1 ziv hg1 hat1)
     go_roundw
     case rel=>exact⟨k+1,k+1,l++[s.extract m k],by omega,by go_num,by omega,by go_num,by simp;omega,by simpa [zW] using ziv,hall.out,by assumption⟩
     case measure=>simp [intOf];omega
  ·obtain rfl:k=s.size+1:=by omega
   obtain⟨A,c,rfl⟩:=zg zil
   go_wp2_with fail
   go_ret
   exact⟨A,_,c,l,rfl,rfl,zil,hlx.out,by omega,zin⟩
def RetEdgeS (w:World) (e:Ending) (w':World):Prop:=∃ (x:Edg) (ok:Bool),e=.returned (.tuple #[.agg #[.int .i64 x.fr,.int .i64 x.le,.int .i64 x.ta],.bool ok])∧Ext w w'
theorem spec_l2Parse {s:ByteArray} {w:World}(hs:s.size≤1000000) :
  Calls Tryz.prog 247 #[.string s] w (RetEdgeS w):=by
 have hx1:=(Ext.refl w).alloc (.cells #[.int .i64 0,.int .i64 0,.int .i64 0] 153)
 have hbz:=Blk.new w 153 #[.int .i64 0,.int .i64 0,.int .i64 0]
 go_enter Tryz.func247,Tryz.ntmps247
 go_wp2_with fail
 generalize w.alloc (.cells #[.int .i64 0,.int .i64 0,.int .i64 0] 153)=w1 at *
 go_loop [4] (fun i=>∃ k:Nat,k≤s.size∧i=.int .i64 k) (fun i=>s.size - (intOf i).toNat)
 case atStart=>exact⟨0,Nat.zero_le _,rfl⟩
 case round =>
  obtain⟨k,hk,rfl⟩:=hrel
  have cz:=hbz.cell
  have fz:=hbz.frozen
  by_cases hlt:k<s.size
  ·have hb:=zcf s k hlt
   by_cases c0:(97:Int)≤(s[k].toNat:Int)
   ·by_cases c1:(s[k].toNat:Int)≤102
    ·have he1:=za (show (s.extract 0 k).size≤1000000 by rw [ByteArray.size_extract];omega)
     have he2:=za (show (s.extract (k+1) s.size).size≤1000000 by rw [ByteArray.size_extract];omega)
     have hk1:(k:Int)+1≤(s.size:Int):=by omega
     go_wp2_with fail
     refine (zdp he1.out).mono ?_
     rintro e w2 ⟨n1,ok1,rfl,rfl⟩
     go_wp2_with fail
     refine (zdp he2.out).mono ?_
     rintro e w2 ⟨n2,ok2,rfl,rfl⟩
     go_wp2_with fail
     refine (zbj s k hlt _).mono ?_
     rintro e w2 ⟨rfl,rfl⟩
     have zio:∀ u0 u1 u2,Ext w (((w1.setCell ⟨w.heap.size,0,none⟩ u0).setCell ⟨w.heap.size,1,none⟩ u1).setCell ⟨w.heap.size,2,none⟩ u2):=fun u0 u1 u2=>((hx1.setCell (Nat.le_refl _) u0).setCell (Nat.le_refl _) u1).setCell (Nat.le_refl _) u2
     have Hfin:=za zio
     clear zio
     cases ok1
     ·go_wp2_with fail
      exact bodyPost_ret (v:=.tuple #[.agg #[.int .i64 n1,.int .i64 ((s[k].toNat:Int) - 97),.int .i64 n2],.bool false]) (by simp [results,Tryz.results247,go_sem,cz]) rfl ⟨⟨n1,(s[k].toNat:Int) - 97,n2⟩,false,rfl,Hfin.out _ _ _⟩
     ·go_wp2_with fail
      exact bodyPost_ret (v:=.tuple #[.agg #[.int .i64 n1,.int .i64 ((s[k].toNat:Int) - 97),.int .i64 n2],.bool ok2]) (by simp [results,Tryz.results247,go_sem,cz]) rfl ⟨⟨n1,(s[k].toNat:Int) - 97,n2⟩,ok2,rfl,Hfin.out _ _ _⟩
    ·go_wp2_with fail
     go_round
     case rel=>exact⟨k+1,by omega,by go_num⟩
     case measure=>simp [intOf];omega
   ·go_wp2_with fail
    go_round
    case rel=>exact⟨k+1,by omega,by go_num⟩
    case measure=>simp [intOf];omega
  ·obtain rfl:k=s.size:=by omega
   go_wp2_with fail
   refine bodyPost_ret (v:=.tuple #[.agg #[.int .i64 0,.int .i64 0,.int .i64 0],.bool false]) (by simp [results,Tryz.results247,go_sem,cz]) rfl ⟨⟨0,0,0⟩,false,rfl,?_⟩
   exact ((hx1.setCell (p:=⟨w.heap.size,0,none⟩) (Nat.le_refl _) _).setCell (p:=⟨w.heap.size,1,none⟩) (Nat.le_refl _) _).setCell (p:=⟨w.heap.size,2,none⟩) (Nat.le_refl _) _
theorem wrap_pow2 {t:Nat}(ht:t<32):wrap64 ((2:Int) ^ t)=((2 ^ t:Nat):Int):=by
 have hp:=(Sm.bit ht).lt
 have e:(2:Int) ^ t=((2 ^ t:Nat):Int):=by simp
 rw [e]
 generalize (2:Nat) ^ t=p at *
 unfold wrap64
 omega
theorem zfy (n:Nat)(hn:n<32) (w:World) :
  Calls Tryz.prog 270 #[.int .i64 n] w fun e w'=>e=.returned (.int .i64 (2 ^ n:Nat))∧w=w':=by
 have hu:IntKind.u64.wrap (n:Int)=n:=by rw [IntKind.wrap_u64];omega
 have h64:(n:Int)≤64:=by omega
 have hw:=za (wrap_pow2 hn)
 go_enter Tryz.func270,Tryz.ntmps270
 go_wp2
 go_ret
 exact⟨zB (by rw [← hw.out]),rfl⟩
def zbE (es:List Edg) (set:Nat) (l:Int):Nat:=es.foldl (fun m e=>if e.le=l∧set.testBit e.fr.toNat=true then m|||2 ^ e.ta.toNat else m) 0
theorem stepB_snoc (es:List Edg) (e:Edg) (set:Nat) (l:Int):zbE (es++[e]) set l=if e.le=l∧set.testBit e.fr.toNat=true then zbE es set l|||2 ^ e.ta.toNat else zbE es set l:=by simp [zbE]
theorem zdb (es:List Edg) (set:Nat) (l:Int) (k:Nat):(zbE es set l).testBit k=true↔∃ e∈es,(e.le=l∧set.testBit e.fr.toNat=true)∧e.ta.toNat=k:=by
 have:=foldl_bit es (fun e=>e.le=l∧set.testBit e.fr.toNat=true) 0 k
 simpa [zbE] using this
theorem zid {n:Nat} {es:List Edg}(h:Few n es) (set:Nat) (l:Int):zbE es set l<2 ^ n:=by
 apply Nat.lt_pow_two_of_testBit
 intro k hk
 rw [Bool.eq_false_iff]
 intro hb
 obtain⟨e,he,_,h3⟩:=(zdb es set l k).1 hb
 have:=h e he
 omega
theorem zeP {lo hi:Nat} {A:Option Addr} {n c:Nat} {s:Sys} {set:Nat} {l:Int} {k0:Nat} {w:World}(h:zN w lo hi A n s)(hf:Few k0 s.edges)(hk0:k0≤16)(hset:Sm set) :
  Calls Tryz.prog 229 #[.agg #[.int .i64 s.al,.int .i64 s.st,.slice A n c],.int .i64 set,.int .i64 l] w fun e w'=>e=.returned (.int .i64 (zbE s.edges set l:Nat))∧Ext w w':=by
 have hn:=h.2.len
 have hL:=za h.1
 have HR:=za (fun W (hW:Ext w W)=>h.2.ext hW)
 have Hf:=za hf
 clear hf
 go_enter Tryz.func229,Tryz.ntmps229
 go_wp2
 go_loopw [7,8] (fun v i wr=>∃ k:Nat,k≤n∧i=.int .i64 k∧∃ y:Nat,v=.int .i64 y∧Sm y∧Hid (y=zbE (s.edges.take k) set l)∧Ext w wr∧Ext (w.alloc (.cells #[.int .i64 s.al,.int .i64 s.st,.slice A n c] 38)) wr) (fun _ i _=>n - (intOf i).toNat)
 case atStart=>exact⟨0,Nat.zero_le _,rfl,0,rfl,by unfold Sm;omega,rfl,(Ext.refl _).alloc _,Ext.refl _⟩
 case round =>
  obtain⟨k,hk,rfl,y,rfl,hy,hyo,zin,hexb⟩:=hrel
  have cb:=fun j=>zcr (j:=j) hexb
  by_cases hlt:k<n
  ·obtain⟨b,o,x,rfl,_,_,hx,c0,c1,c2⟩:=(HR.out wr zin).edge hlt
   obtain⟨⟨f0,f1⟩,⟨g0,g1⟩,⟨t0,t1⟩⟩:=Hf.out x (List.mem_of_getElem? hx.out)
   have Htk:=za (show s.edges.take (k+1)=s.edges.take k++[x] by rw [List.take_add_one,hx.out];rfl)
   obtain⟨f,hfe⟩:∃ f:Nat,x.fr=f:=⟨x.fr.toNat,by omega⟩
   obtain⟨t,hte⟩:∃ t:Nat,x.ta=t:=⟨x.ta.toNat,by omega⟩
   rw [hfe] at c0 f0 f1
   rw [hte] at c2 t0 t1
   have hs1:=za (stepB_snoc (s.edges.take k) x set l)
   by_cases hle:x.le=l
   ·have hle':(x.le==l)=true:=by simp [hle]
    have Hle:=za hle
    clear hle
    cases hb:set.testBit f
    ·have Hb:=za hb
     clear hb
     go_wp2_with (go_at_call 144;refine (zat set f hset _ (by omega)).mono ?_;rw [Hb.out];rintro e w' ⟨rfl,rfl⟩)
     go_roundw
     case rel=>exact⟨k+1,by omega,by go_num,y,rfl,hy,by unfold Hid;rw [Htk.out,hs1.out,if_neg (by rintro ⟨_,h2⟩;rw [hfe] at h2;simp [Hb.out] at h2)];exact hyo.out,zin,hexb⟩
     case measure=>simp [intOf];omega
    ·have Hb:=za hb
     clear hb
     have hor:=za (show bits .or .i64 (y:Nat) ((2:Int) ^ t)=((y|||2 ^ t:Nat):Int) by have:=zbG hy (Sm.bit (n:=t) (by omega));rw [show (((2:Nat) ^ t:Nat):Int)=(2:Int) ^ t by simp] at this;exact this)
     go_wp2_with (first
      |(go_at_call 144;refine (zat set f hset _ (by omega)).mono ?_;rw [Hb.out];rintro e w' ⟨rfl,rfl⟩)
      |(go_at_call 270;refine (zfy t (by omega) _).mono ?_;rintro e w' ⟨rfl,rfl⟩))
     go_roundw
     case rel=>exact⟨k+1,by omega,by go_num,y|||2 ^ t,by rw [hor.out],hy.or (Sm.bit (by omega)),by unfold Hid;rw [Htk.out,hs1.out,if_pos ⟨Hle.out,by rw [hfe];simpa using Hb.out⟩,← hyo.out,hte];rfl,zin,hexb⟩
     case measure=>simp [intOf];omega
   ·have hle':(x.le==l)=false:=by simp [hle]
    have Hle:=za hle
    clear hle
    go_wp2
    go_roundw
    case rel=>exact⟨k+1,by omega,by go_num,y,rfl,hy,by unfold Hid;rw [Htk.out,hs1.out,if_neg (by rintro ⟨h2,_⟩;exact Hle.out h2)];exact hyo.out,zin,hexb⟩
    case measure=>simp [intOf];omega
  ·obtain rfl:n=k:=by omega
   go_wp2
   go_ret
   exact⟨zB (by rw [hyo.out,hL.out,List.take_length]),zin⟩
def MovB (w:World) (b:Nat) (es:List Edg):Prop:=∃ cs,Blk w b 285 cs∧∀ i l:Nat,i<16→l<6→cs[i*6+l]?=some (.int .i64 (succ es i l:Nat))
theorem MovB.at_ {w:World} {b:Nat} {es:List Edg}(h:MovB w b es):MovAt w b es:=by
 obtain⟨cs,hb,hc⟩:=h
 exact fun i l hi hl=>by rw [hb.cell,hc i l hi hl]
theorem MovB.ext {w w':World} {b:Nat} {es:List Edg}(h:MovB w b es)(hx:Ext w w'):MovB w' b es:=by
 obtain⟨cs,hb,hc⟩:=h
 exact⟨cs,hb.ext hx,hc⟩
theorem zero_mov (w:World):(zeroValue 285).run Tryz.prog w=.ok (.agg (Array.replicate 96 (.int .i64 0))) w:=by kernel_rfl
theorem wrap_pow {t:Nat}(ht:t<32):wrap64 ((2:Int) ^ t)=((2 ^ t:Nat):Int):=by
 have hp:=(Sm.bit ht).lt
 have e:(2:Int) ^ t=((2 ^ t:Nat):Int):=by simp
 rw [e]
 generalize (2:Nat) ^ t=p at *
 unfold wrap64
 omega
theorem mov_store {cs:Array Value} {es:List Edg} {f g t i l:Nat}(hcs:∀ i l:Nat,i<16→l<6→cs[i*6+l]?=some (.int .i64 (succ es i l:Nat)))(hs:Sm (succ es f g))(ht:t<16)(hf:f<16)(hg:g<6)(hi:i<16)(hl:l<6) :
  (cs.setIfInBounds (f*6+g) (.int .i64 (bits .or .i64 (succ es f g:Nat) (wrap64 (2 ^ t)))))[i*6+l]?=some (.int .i64 ((if (f:Int)=i∧(g:Int)=l then succ es i l|||2 ^ (t:Int).toNat else succ es i l:Nat))):=by
 rw [wrap_pow (by omega),zbG hs (Sm.bit (by omega)),Array.getElem?_setIfInBounds]
 by_cases he:f*6+g=i*6+l
 ·have e1:f=i:=by omega
  have e2:g=l:=by omega
  subst e1;subst e2
  have hsz:f*6+g<cs.size:=by
   rcases Nat.lt_or_ge (f*6+g) cs.size with h1|h1
   ·exact h1
   ·have:=hcs f g hf hg
    rw [Array.getElem?_eq_none h1] at this
    cases this
  rw [if_pos rfl,if_pos hsz,if_pos ⟨rfl,rfl⟩]
  rfl
 ·rw [if_neg he,hcs i l hi hl,if_neg]
  rintro ⟨h1,h2⟩
  exact he (by omega)
theorem zfB {lo hi:Nat} {A:Option Addr} {n c:Nat} {s:Sys} {w:World}(h:zN w lo hi A n s)(hf:Few 16 s.edges) :
  Calls Tryz.prog 235 #[.agg #[.int .i64 s.al,.int .i64 s.st,.slice A n c]] w fun e w'=>∃ b,e=.returned (.pointer (some ⟨b,0,none⟩))∧w.heap.size≤b∧MovB w' b s.edges∧Ext w w':=by
 have hn:=h.2.len
 have hL:=za h.1
 have hR:=fun W (hW:Ext w W)=>h.2.ext hW
 have HR:=za hR
 clear hR
 have Hf:=za hf
 clear hf
 go_enter Tryz.func235,Tryz.ntmps235
 have hz:=zero_mov
 generalize hzz:Array.replicate 96 (Value.int .i64 0)=zs at hz
 have Hz:=za hzz
 clear hzz
 go_wp2_with (simp only [hz])
 go_loopw [10] (fun i wr=>∃ k:Nat,k≤n∧i=.int .i64 k∧MovB wr (w.heap.size+1) (s.edges.take k)∧Ext w wr) (fun i _=>n - (intOf i).toNat)
 case atStart=>exact⟨0,Nat.zero_le _,rfl,⟨zs,by have:=Blk.new (w.alloc (.cells #[.int .i64 s.al,.int .i64 s.st,.slice A n c] 38)) 285 zs;simpa using this,fun i l hi hl=>by rw [← Hz.out,Array.getElem?_replicate,if_pos (by omega)];rfl⟩,((Ext.refl _).alloc _).alloc _⟩
 case round =>
  obtain⟨k,hk,rfl,hmov,zin⟩:=hrel
  by_cases hlt:k<n
  ·obtain⟨b,o,x,rfl,hlo,hhi,hx,c0,c1,c2⟩:=(HR.out wr zin).edge hlt
   obtain⟨⟨f0,f1⟩,⟨g0,g1⟩,⟨t0,t1⟩⟩:=Hf.out x (List.mem_of_getElem? hx.out)
   obtain⟨f,hf⟩:∃ f:Nat,x.fr=f:=⟨x.fr.toNat,by omega⟩
   obtain⟨g,hg⟩:∃ g:Nat,x.le=g:=⟨x.le.toNat,by omega⟩
   obtain⟨t,ht⟩:∃ t:Nat,x.ta=t:=⟨x.ta.toNat,by omega⟩
   rw [hf] at c0 f0 f1
   rw [hg] at c1 g0 g1
   rw [ht] at c2 t0 t1
   have hf':f<16:=by omega
   have hg':g<6:=by omega
   have ht':t<16:=by omega
   clear f0 f1 g0 g1 t0 t1
   obtain⟨cs,hblk,hcs⟩:=hmov
   have hs1:Sm (succ (s.edges.take k) f g):=succ_sm (n:=16) (fun e he=>Hf.out e (List.mem_of_mem_take he)) (by omega) f g
   go_wp2
   have hxq:=(Ext.refl wr).alloc (.cells #[.int .i64 f,.int .i64 g,.int .i64 t] 153)
   have hbq:=Blk.new wr 153 #[.int .i64 f,.int .i64 g,.int .i64 t]
   generalize hq:wr.alloc (.cells #[.int .i64 f,.int .i64 g,.int .i64 t] 153)=wq at *
   clear hq
   have hblq:=hblk.ext hxq
   have hd:wq.cell? ⟨w.heap.size+1,f*6+g,none⟩=some (.int .i64 (succ (s.edges.take k) f g:Nat)):=by rw [hblq.cell,hcs f g hf' hg']
   have hfz:=hblq.frozen (f*6+g)
   have q0:=hbq.cell 0
   have q1:=hbq.cell 1
   have q2:=hbq.cell 2
   go_still_tail 16,(by kernel_rfl)
   have f1:(f:Int)<16:=by omega
   have g1:(g:Int)<6:=by omega
   have t1:(t:Int)≤64:=by omega
   repeat (refine wpStill_step (fun K hK=>?_);go_simp;(try simp only [f1,g1,t1,if_true]);refine hK _ ?_;clear hK K)
   refine wpStill_nil ?_
   change wpList _ _ _ _ _ wq.drew
   have hd2:wq.drew.cell? ⟨w.heap.size+1,f*6+g,none⟩=some (.int .i64 (succ (s.edges.take k) f g:Nat)):=hd
   have hfz2:wq.drew.frozen? ⟨w.heap.size+1,f*6+g,none⟩=false:=hfz
   have hblq2:Blk wq.drew (w.heap.size+1) 285 cs:=hblq
   have hxq2:Ext wr wq.drew:=hxq.drew
   generalize wq.drew=w2 at *
   have Hu:=za (succ_snoc (s.edges.take k) x)
   have Htk:=za (show s.edges.take (k+1)=s.edges.take k++[x] by rw [List.take_add_one,hx.out];rfl)
   go_wp2
   go_roundw
   case rel=>exact⟨k+1,by omega,by go_num,⟨_,hblq2.set_ (f*6+g) _,fun i l hi hl=>by
    rw [Htk.out,Hu.out,hf,hg,ht]
    exact mov_store hcs hs1 ht' hf' hg' hi hl⟩,(zin.trans hxq2).setCell (by dsimp only;omega) _⟩
   case measure=>simp [intOf];omega
  ·obtain rfl:k=n:=by omega
   go_wp2
   go_ret
   rw [hL.out,List.take_length] at hmov
   exact⟨_,rfl,by omega,hmov,zin⟩
theorem zgb (R:List Nat) (i v:Nat):zaq (R.set i v)=(zaq R).set i (.int .i64 (v:Nat)):=by simp [zaq,List.map_set]
def zhA (x y:Int):Int:=if x<y then -1 else if y<x then 1 else 0
theorem cmp_isNaN (x:Int) (w:World):Calls Tryz.prog 286 #[.int .i64 x] w fun e w'=>e=.returned (.bool false)∧w=w':=by
 have h:(x != x)=false:=by simp
 go_enter Tryz.func286,Tryz.ntmps286
 go_wp2
 go_ret
 exact⟨zk (by simp),rfl⟩
theorem cmp_Compare (x y:Int) (w:World):Calls Tryz.prog 256 #[.int .i64 x,.int .i64 y] w fun e w'=>e=.returned (.int .i64 (zhA x y))∧w=w':=by
 by_cases h:x<y
 ·go_enter Tryz.func256,Tryz.ntmps256
  go_wp2_with (go_at_call 286;refine (cmp_isNaN _ _).mono ?_;rintro e w' ⟨rfl,rfl⟩)
  go_ret
  exact⟨zB (by unfold zhA;split<;>omega),rfl⟩
 ·by_cases h':y<x
  all_goals
   go_enter Tryz.func256,Tryz.ntmps256
   go_wp2_with (go_at_call 286;refine (cmp_isNaN _ _).mono ?_;rintro e w' ⟨rfl,rfl⟩)
   go_ret
   exact⟨zB (by unfold zhA;(repeat' split)<;>omega),rfl⟩
def orI:List Int→Int
 |[]=>0
 |x :: r=>if x=0 then orI r else x
theorem orI_stop {l:List Int} {k:Nat} {x:Int}(h:l[k]?=some x)(hk:∀ y∈l.take k,y=0)(hx:x≠0):orI l=x:=by
 induction l generalizing k with
 |nil=>simp at h
 |cons a r ih =>
  cases k with
  |zero=>simp at h;subst h;rw [orI,if_neg hx]
  |succ k =>
   have ha:a=0:=hk a (by simp)
   rw [orI,if_pos ha]
   exact ih (by simpa using h) (fun y hy=>hk y (by simp [hy]))
theorem orI_end {l:List Int}(hk:∀ y∈l,y=0):orI l=0:=by
 induction l with
 |nil=>rfl
 |cons a r ih=>rw [orI,if_pos (hk a (by simp)),ih fun y hy=>hk y (by simp [hy])]
theorem cmp_Or {lo hi:Nat} {A:Option Addr} {n c:Nat} {l:List Int} {w:World}(h:Reads w lo hi 1 A n (ints l)) :
  Calls Tryz.prog 255 #[.slice A n c] w fun e w'=>e=.returned (.int .i64 (orI l))∧w=w':=by
 have hn:=h.len
 have Hl:=za (show l.length=n by have:=h.length;rw [zdk] at this;omega)
 go_enter Tryz.func255,Tryz.ntmps255
 go_wp2
 go_loop [8] (fun i=>∃ k:Nat,k≤n∧i=.int .i64 k∧Hid (∀ y∈l.take k,y=0)) (fun i=>n - (intOf i).toNat)
 case atStart=>exact⟨0,Nat.zero_le _,rfl,za (by simp)⟩
 case round =>
  obtain⟨k,hk,rfl,hz⟩:=hrel
  by_cases hlt:k<n
  ·obtain⟨ad,x,rfl,_,_,hx,hc⟩:=h.int hlt
   by_cases h0:x=0
   ·have hb:((x:Int) != 0)=false:=by simp [h0]
    have H0:=za h0
    clear h0
    go_wp2
    go_round
    case rel=>exact⟨k+1,by omega,by go_num,za (by rw [List.take_add_one,hx.out];intro y hy;simp at hy;rcases hy with hy|hy;exact hz.out y hy;rw [hy,H0.out])⟩
    case measure=>simp [intOf];omega
   ·have hb:((x:Int) != 0)=true:=by simp [h0]
    go_wp2
    go_ret
    exact⟨zB (orI_stop hx.out hz.out h0).symm,rfl⟩
  ·obtain rfl:k=n:=by omega
   go_wp2
   go_ret
   have:=hz.out
   rw [List.take_of_length_le (by have:=Hl.out;omega)] at this
   exact⟨zB (orI_end this).symm,rfl⟩
def cmpE (a b:Edg):Int:=orI [zhA a.fr b.fr,zhA a.le b.le,zhA a.ta b.ta]
def ltE (a b:Edg):Bool:=if a.fr=b.fr then if a.le=b.le then decide (a.ta<b.ta) else decide (a.le<b.le) else decide (a.fr<b.fr)
theorem cmpE_lt (a b:Edg):cmpE a b<0↔ltE a b=true:=by
 have hc:∀ x y:Int,(zhA x y=0↔x=y)∧(zhA x y<0↔x<y):=fun x y=>by unfold zhA;constructor<;>(repeat' split)<;>omega
 have h1:=hc a.fr b.fr
 have h2:=hc a.le b.le
 have h3:=hc a.ta b.ta
 have hv:cmpE a b=if zhA a.fr b.fr=0 then if zhA a.le b.le=0 then if zhA a.ta b.ta=0 then 0 else zhA a.ta b.ta else zhA a.le b.le else zhA a.fr b.fr:=rfl
 rw [hv,ltE]
 by_cases e1:a.fr=b.fr
 ·rw [if_pos (h1.1.2 e1),if_pos e1]
  by_cases e2:a.le=b.le
  ·rw [if_pos (h2.1.2 e2),if_pos e2]
   by_cases e3:zhA a.ta b.ta=0
   ·rw [if_pos e3];have:=h3.1.1 e3;simp;omega
   ·rw [if_neg e3,h3.2];simp
  ·rw [if_neg (fun h=>e2 (h2.1.1 h)),if_neg e2,h2.2];simp
 ·rw [if_neg (fun h=>e1 (h1.1.1 h)),if_neg e1,h1.2];simp
theorem reads_lit {w w':World} {cs:Array Value} {t:TypeId} (n:Nat) (l:List Int)(hc:cs.toList=ints l)(hl:l.length=n)(hn:n≤1000)(h:Ext (w.alloc (.cells cs t)) w'):Reads w' 0 w'.heap.size 1 (some ⟨w.heap.size,0,none⟩) n (ints l):=by
 have hb:=zbH h
 refine⟨by rw [zdk];omega,by omega,fun _=>⟨_,rfl,Nat.zero_le _,hb.lt,fun j u hu=>?_⟩⟩
 rw [zT,Nat.zero_add,hb.cell,← Array.getElem?_toList,hc]
 exact hu
theorem zcS {a b:Edg} {w:World} :
  Calls Tryz.prog 183 #[.agg #[.int .i64 a.fr,.int .i64 a.le,.int .i64 a.ta],.agg #[.int .i64 b.fr,.int .i64 b.le,.int .i64 b.ta]] w fun e w'=>e=.returned (.int .i64 (cmpE a b))∧Ext w w':=by
 go_enter Tryz.func183,Tryz.ntmps183
 go_wp2_with fail
 obtain⟨W,hW⟩:∃ W:World,W=(w.alloc (.cells #[Value.int .i64 a.fr,.int .i64 a.le,.int .i64 a.ta] 153)).alloc (.cells #[Value.int .i64 b.fr,.int .i64 b.le,.int .i64 b.ta] 153):=⟨_,rfl⟩
 have hx:Ext w W:=by rw [hW];exact ((Ext.refl _).alloc _).alloc _
 have h2:=zU (show Ext ((w.alloc (.cells #[Value.int .i64 a.fr,.int .i64 a.le,.int .i64 a.ta] 153)).alloc (.cells #[Value.int .i64 b.fr,.int .i64 b.le,.int .i64 b.ta] 153)) W by rw [hW];exact Ext.refl _)
 have e0:∀ X,Ext W X→∀ j,X.cell? ⟨w.heap.size,j,none⟩=#[Value.int .i64 a.fr,.int .i64 a.le,.int .i64 a.ta][j]?:=fun X hX=>(h2.1.ext hX).cell
 have e1:∀ X,Ext W X→∀ j,X.cell? ⟨w.heap.size+1,j,none⟩=#[Value.int .i64 b.fr,.int .i64 b.le,.int .i64 b.ta][j]?:=fun X hX=>(h2.2.ext hX).cell
 rw [← hW]
 have hr:=Ext.refl W
 clear hW h2
 go_region_held3 (fun X=>Ext W X) (first|assumption|(refine Ext.drew ?_;assumption)|(refine Ext.alloc ?_ _;assumption)|(refine Ext.drew ?_;refine Ext.alloc ?_ _;assumption)|(refine Ext.trans ?_ (by assumption);assumption)) (first|(go_at_call 256;refine (cmp_Compare _ _ _).mono ?_;rintro e w' ⟨rfl,rfl⟩)|(go_at_call 255;refine (cmp_Or (reads_lit 3 [zhA a.fr b.fr,zhA a.le b.le,zhA a.ta b.ta] rfl rfl (by omega) ((Ext.refl _).drew))).mono ?_;rintro e w' ⟨rfl,rfl⟩))
 all_goals (go_wp2_with fail;go_ret;exact⟨rfl,hx.trans (by first|assumption|(refine Ext.drew ?_;assumption)|(refine Ext.alloc ?_ _;assumption)|(refine Ext.drew ?_;refine Ext.alloc ?_ _;assumption))⟩)
theorem zap {al st:Int} {A:Option Addr} {n c:Nat} {q:Int} {w:World} :
  Calls Tryz.prog 182 #[.agg #[.int .i64 al,.int .i64 st,.slice A n c],.int .i64 q] w fun e w'=>e=.returned (.bool (decide (0≤q)&&decide (q<st)))∧Ext w w':=by
 by_cases h0:0≤q
 all_goals
  go_enter Tryz.func182,Tryz.ntmps182
  go_wp2
  go_ret
  exact⟨zk (by simp;try omega),(Ext.refl _).alloc _⟩
def edgB (al:Nat) (st:Int) (e:Edg):Bool:=(decide (0≤e.fr)&&decide (e.fr<st))&&((decide (0≤e.ta)&&decide (e.ta<st))&&(decide (e.le<6)&&hasB al e.le))
def zbA (al:Nat) (st:Int) (l:List Edg) (k:Nat):Bool:=
 match l[k]? with
 |some e=>edgB al st e&&(decide (k=0) || match l[k - 1]? with
  |some p=>ltE p e
  |none=>false)
 |none=>false
def zl (s:Sys):Bool:=
 decide (0≤s.al∧s.al≤63)&&(decide (1≤s.st∧s.st≤16)&&(List.range s.edges.length).all (zbA s.al.toNat s.st s.edges))
theorem zaa {lo hi:Nat} {A:Option Addr} {n c:Nat} {s:Sys} {w:World}(h:zN w lo hi A n s) :
  Calls Tryz.prog 95 #[.agg #[.int .i64 s.al,.int .i64 s.st,.slice A n c]] w fun e w'=>e=.returned (.bool (zl s))∧Ext w w':=by
 have Hv:=za (show zl s=(decide (0≤s.al∧s.al≤63)&&(decide (1≤s.st∧s.st≤16)&&(List.range n).all (zbA s.al.toNat s.st s.edges))) by unfold zl;rw [← h.1])
 have hn:=h.2.len
 by_cases hal:0≤s.al∧s.al≤63
 ·by_cases hst:1≤s.st∧s.st≤16
  ·obtain⟨al,hal'⟩:∃ al:Nat,Hid (s.al=al):=⟨s.al.toNat,by unfold Hid;omega⟩
   have hsm:Sm al:=by have:=hal'.out;unfold Sm;omega
   have hd:=za (show decide (0≤(al:Int)∧(al:Int)≤63)=true by have:=hal'.out;simp;omega)
   rw [hal'.out]
   rw [hal'.out,Int.toNat_natCast] at Hv
   clear hal
   have hd1:decide (s.st<1)=false:=by simp;omega
   have hd2:decide (16<s.st)=false:=by simp;omega
   obtain⟨st,hst',hs1,hs2⟩:∃ st:Int,Hid (s.st=st)∧1≤st∧st≤16:=⟨s.st,za rfl,hst.1,hst.2⟩
   rw [hst'.out] at hd1 hd2 Hv ⊢
   clear hst
   have hR:=fun W (hW:Ext w W)=>h.2.ext hW
   have HR:=za hR
   clear hR
   go_enter Tryz.func95,Tryz.ntmps95
   go_wp2_with (go_at_call 181;refine (zar _ _).mono ?_;rw [hd.out];rintro e w' ⟨rfl,rfl⟩)
   go_loopw [22] (fun i wr=>∃ k:Nat,k≤n∧i=.int .i64 k∧Hid (((List.range n).take k).all (zbA al st s.edges)=true)∧Ext (w.alloc (.cells #[Value.int .i64 al,.int .i64 st,Value.slice A n c] 38)) wr)
    (fun i _=>n - (intOf i).toNat)
   case atStart=>exact⟨0,Nat.zero_le _,rfl,rfl,Ext.refl _⟩
   case round =>
    obtain⟨k,hk,rfl,hall,zin⟩:=hrel
    by_cases hlt:k<n
    ·obtain⟨b,o,e,rfl,hlo,hhi,he,c0,c1,c2⟩:=(HR.out wr (((Ext.refl _).alloc _).trans zin)).edge hlt
     have hbx:=zcr zin
     go_wp2_with fail
     obtain⟨W,hW⟩:∃ W:World,W=wr.alloc (.cells #[Value.int .i64 e.fr,.int .i64 e.le,.int .i64 e.ta] 153):=⟨_,rfl⟩
     have hx:Ext wr W:=by rw [hW];exact (Ext.refl _).alloc _
     have h1:=zbH (show Ext (wr.alloc (.cells #[Value.int .i64 e.fr,.int .i64 e.le,.int .i64 e.ta] 153)) W by rw [hW];exact Ext.refl _)
     have e0:∀ X,Ext W X→∀ j,X.cell? ⟨w.heap.size,j,none⟩=#[Value.int .i64 al,.int .i64 st,Value.slice (some ⟨b,o,none⟩) n c][j]?:=fun X hX=>zcr ((zin.trans hx).trans hX)
     have e1:∀ X,Ext W X→∀ j,X.cell? ⟨wr.heap.size,j,none⟩=#[Value.int .i64 e.fr,.int .i64 e.le,.int .i64 e.ta][j]?:=fun X hX=>(h1.ext hX).cell
     rw [← hW]
     have hr:=Ext.refl W
     clear hW h1 hbx c0 c1 c2
     have zio:∀ X,Ext W X→Ext w X:=fun X hX=>((((Ext.refl _).alloc _).trans zin).trans hx).trans hX
     have Hfin:=za zio
     clear zio
     have hge:(List.range n)[k]?=some k:=by rw [List.getElem?_range hlt]
     have Hge:=za hge
     clear hge
     cases hA:(decide (0≤e.fr)&&decide (e.fr<st))
     ·have HA:=za hA
      clear hA
      have hA:=HA;clear HA
      refine zak (fun X=>Ext W X) [0,1,2,3,4,5,6,7,8,9,10,11,12,13,14,15,16,17,18,19,20,21,22,23,24,25,26,27,28,29,30,31,32,33,34,35,36,37,38,39] (by kernel_rfl) rfl (by kernel_rfl) (by kernel_rfl) (fun _ _ _ _ _ h=>h) ((Ext.refl _).drew) (fun hS=>?_)
      refine sQ ?_
      refine zag rfl rfl rfl (fun K hK=>?_)
      go_simp
      refine (zap).mono ?_
      rw [hA.out];rintro r w2 ⟨rfl,hx2⟩
      refine hK.out _ _ (Ext.trans (by assumption) hx2) (fun hS=>?_)
      refine pT ?_
      refine sQ ?_
      refine zch ?_
      go_wp2_with fail
      go_ret
      exact⟨zk (by rw [Hv.out,zaE Hge.out (by rw [zbA,he.out];dsimp only;rw [edgB,hA.out];simp)];simp),Hfin.out _ (by assumption)⟩
     ·have HA:=za hA
      clear hA
      have hA:=HA;clear HA
      cases hB:(decide (0≤e.ta)&&decide (e.ta<st))
      ·have HB:=za hB
       clear hB
       have hB:=HB;clear HB
       refine zak (fun X=>Ext W X) [0,1,2,3,4,5,6,7,8,9,10,11,12,13,14,15,16,17,18,19,20,21,22,23,24,25,26,27,28,29,30,31,32,33,34,35,36,37,38,39] (by kernel_rfl) rfl (by kernel_rfl) (by kernel_rfl) (fun _ _ _ _ _ h=>h) ((Ext.refl _).drew) (fun hS=>?_)
       refine sQ ?_
       refine zag rfl rfl rfl (fun K hK=>?_)
       go_simp
       refine (zap).mono ?_
       rw [hA.out];rintro r w2 ⟨rfl,hx2⟩
       refine hK.out _ _ (Ext.trans (by assumption) hx2) (fun hS=>?_)
       refine pT ?_
       refine sQ ?_
       refine zag rfl rfl rfl (fun K hK=>?_)
       go_simp
       refine (zap).mono ?_
       rw [hB.out];rintro r w3 ⟨rfl,hx3⟩
       refine hK.out _ _ (Ext.trans (by assumption) hx3) (fun hS=>?_)
       refine pT ?_
       refine sQ ?_
       refine zch ?_
       go_wp2_with fail
       go_ret
       exact⟨zk (by rw [Hv.out,zaE Hge.out (by rw [zbA,he.out];dsimp only;rw [edgB,hA.out,hB.out];simp)];simp),Hfin.out _ (by assumption)⟩
      ·have HB:=za hB
       clear hB
       have hB:=HB;clear HB
       by_cases hle:6≤e.le
       ·have hL:decide (6≤e.le)=true:=by simp;omega
        refine zak (fun X=>Ext W X) [0,1,2,3,4,5,6,7,8,9,10,11,12,13,14,15,16,17,18,19,20,21,22,23,24,25,26,27,28,29,30,31,32,33,34,35,36,37,38,39] (by kernel_rfl) rfl (by kernel_rfl) (by kernel_rfl) (fun _ _ _ _ _ h=>h) ((Ext.refl _).drew) (fun hS=>?_)
        refine sQ ?_
        refine zag rfl rfl rfl (fun K hK=>?_)
        go_simp
        refine (zap).mono ?_
        rw [hA.out];rintro r w2 ⟨rfl,hx2⟩
        refine hK.out _ _ (Ext.trans (by assumption) hx2) (fun hS=>?_)
        refine pT ?_
        refine sQ ?_
        refine zag rfl rfl rfl (fun K hK=>?_)
        go_simp
        refine (zap).mono ?_
        rw [hB.out];rintro r w3 ⟨rfl,hx3⟩
        refine hK.out _ _ (Ext.trans (by assumption) hx3) (fun hS=>?_)
        refine pT ?_
        refine sQ ?_
        refine zch ?_
        go_wp2_with fail
        go_ret
        exact⟨zk (by rw [Hv.out,zaE Hge.out (by rw [zbA,he.out];dsimp only;rw [edgB,hA.out,hB.out];simp;omega)];simp),Hfin.out _ (by assumption)⟩
       ·have hL:decide (6≤e.le)=false:=by simp;omega
        have hlt6:=za (show decide (e.le<6)=true by simp;omega)
        cases hC:hasB al e.le
        ·have HC:=za hC
         clear hC
         have hC:=HC;clear HC
         refine zak (fun X=>Ext W X) [0,1,2,3,4,5,6,7,8,9,10,11,12,13,14,15,16,17,18,19,20,21,22,23,24,25,26,27,28,29,30,31,32,33,34,35,36,37,38,39] (by kernel_rfl) rfl (by kernel_rfl) (by kernel_rfl) (fun _ _ _ _ _ h=>h) ((Ext.refl _).drew) (fun hS=>?_)
         refine sQ ?_
         refine zag rfl rfl rfl (fun K hK=>?_)
         go_simp
         refine (zap).mono ?_
         rw [hA.out];rintro r w2 ⟨rfl,hx2⟩
         refine hK.out _ _ (Ext.trans (by assumption) hx2) (fun hS=>?_)
         refine pT ?_
         refine sQ ?_
         refine zag rfl rfl rfl (fun K hK=>?_)
         go_simp
         refine (zap).mono ?_
         rw [hB.out];rintro r w3 ⟨rfl,hx3⟩
         refine hK.out _ _ (Ext.trans (by assumption) hx3) (fun hS=>?_)
         refine pT ?_
         refine sQ ?_
         refine zag rfl rfl rfl (fun K hK=>?_)
         go_simp
         refine (zca _ _ hsm _).mono ?_
         rw [hC.out];rintro r w4 ⟨rfl,rfl⟩
         refine hK.out _ _ (by assumption) (fun hS=>?_)
         refine pT ?_
         refine sQ ?_
         refine zch ?_
         go_wp2_with fail
         go_ret
         exact⟨zk (by rw [Hv.out,zaE Hge.out (by rw [zbA,he.out];dsimp only;rw [edgB,hA.out,hB.out,hC.out];simp)];simp),Hfin.out _ (by assumption)⟩
        ·have HC:=za hC
         clear hC
         have hC:=HC;clear HC
         have hedg:=za (show edgB al st e=true by rw [edgB,hA.out,hB.out,hC.out,hlt6.out];rfl)
         by_cases hk0:k=0
         ·subst hk0
          refine zak (fun X=>Ext W X) [0,1,2,3,4,5,6,7,8,9,10,11,12,13,14,15,16,17,18,19,20,21,22,23,24,25,26,27,28,29,30,31,32,33,34,35,36,37,38,39] (by kernel_rfl) rfl (by kernel_rfl) (by kernel_rfl) (fun _ _ _ _ _ h=>h) ((Ext.refl _).drew) (fun hS=>?_)
          refine sQ ?_
          refine zag rfl rfl rfl (fun K hK=>?_)
          go_simp
          refine (zap).mono ?_
          rw [hA.out];rintro r w2 ⟨rfl,hx2⟩
          refine hK.out _ _ (Ext.trans (by assumption) hx2) (fun hS=>?_)
          refine pT ?_
          refine sQ ?_
          refine zag rfl rfl rfl (fun K hK=>?_)
          go_simp
          refine (zap).mono ?_
          rw [hB.out];rintro r w3 ⟨rfl,hx3⟩
          refine hK.out _ _ (Ext.trans (by assumption) hx3) (fun hS=>?_)
          refine pT ?_
          refine sQ ?_
          refine zag rfl rfl rfl (fun K hK=>?_)
          go_simp
          refine (zca _ _ hsm _).mono ?_
          rw [hC.out];rintro r w4 ⟨rfl,rfl⟩
          refine hK.out _ _ (by assumption) (fun hS=>?_)
          refine pT ?_
          refine sQ ?_
          refine zch ?_
          go_wp2_with fail
          go_roundw
          case rel=>exact⟨0+1,by omega,by go_num,zbY Hge.out hall.out (by rw [zbA,he.out];dsimp only;rw [hedg.out];simp),(zin.trans hx).trans (by assumption)⟩
          case measure=>simp [intOf];omega
         ·obtain⟨j,rfl⟩:∃ j,k=j+1:=⟨k - 1,by omega⟩
          have hp:s.edges[j]?=some (s.edges[j]'(by have:=h.1;omega)):=List.getElem?_eq_getElem _
          generalize s.edges[j]'(by have:=h.1;omega)=p at hp
          have Hp:=za hp
          clear hp
          have hpc:=(HR.out wr (((Ext.refl _).alloc _).trans zin)).edge2 Hp.out
          have p0:∀ X,Ext W X→X.cell? ⟨b,o+j*3,none⟩=some (.int .i64 p.fr):=fun X hX=>(hx.trans hX).cell_some hpc.1
          have p1:∀ X,Ext W X→X.cell? ⟨b,o+j*3+1,none⟩=some (.int .i64 p.le):=fun X hX=>(hx.trans hX).cell_some hpc.2.1
          have p2:∀ X,Ext W X→X.cell? ⟨b,o+j*3+2,none⟩=some (.int .i64 p.ta):=fun X hX=>(hx.trans hX).cell_some hpc.2.2
          clear hpc
          have hk1:decide ((0:Int)<(j:Int)+1)=true:=decide_eq_true (by omega)
          have hw1:IntKind.i64.wrap ((j:Int)+1 - 1)=(j:Int):=by rw [IntKind.wrap_i64];omega
          have hw2:IntKind.i64.wrap (j:Int)=(j:Int):=by rw [IntKind.wrap_i64];omega
          have hj0:(0:Int)≤(j:Int):=by omega
          have hj1:(j:Int)<(n:Int):=by omega
          have hpl:=cmpE_lt p e
          have Hpl:=za hpl
          clear hpl
          by_cases hc:0≤cmpE p e
          ·have hcd:decide (0≤cmpE p e)=true:=by simpa using hc
           have hnl:=za (show ltE p e=false by rw [Bool.eq_false_iff];intro hh;have:=Hpl.out.2 hh;omega)
           refine zak (fun X=>Ext W X) [0,1,2,3,4,5,6,7,8,9,10,11,12,13,14,15,16,17,18,19,20,21,22,23,24,25,26,27,28,29,30,31,32,33,34,35,36,37,38,39] (by kernel_rfl) rfl (by kernel_rfl) (by kernel_rfl) (fun _ _ _ _ _ h=>h) ((Ext.refl _).drew) (fun hS=>?_)
           refine sQ ?_
           refine zag rfl rfl rfl (fun K hK=>?_)
           go_simp
           refine (zap).mono ?_
           rw [hA.out];rintro r w2 ⟨rfl,hx2⟩
           refine hK.out _ _ (Ext.trans (by assumption) hx2) (fun hS=>?_)
           refine pT ?_
           refine sQ ?_
           refine zag rfl rfl rfl (fun K hK=>?_)
           go_simp
           refine (zap).mono ?_
           rw [hB.out];rintro r w3 ⟨rfl,hx3⟩
           refine hK.out _ _ (Ext.trans (by assumption) hx3) (fun hS=>?_)
           refine pT ?_
           refine sQ ?_
           refine zag rfl rfl rfl (fun K hK=>?_)
           go_simp
           refine (zca _ _ hsm _).mono ?_
           rw [hC.out];rintro r w4 ⟨rfl,rfl⟩
           refine hK.out _ _ (by assumption) (fun hS=>?_)
           refine pT ?_
           refine sQ ?_
           refine zag rfl rfl rfl (fun K hK=>?_)
           go_simp
           refine (zcS (a:=p) (b:=e)).mono ?_
           rintro r w5 ⟨rfl,hx5⟩
           refine hK.out _ _ (Ext.trans (by assumption) hx5) (fun hS=>?_)
           refine pT ?_
           refine sQ ?_
           refine zch ?_
           go_wp2_with fail
           go_ret
           exact⟨zk (by rw [Hv.out,zaE Hge.out (by rw [zbA,he.out];dsimp only;rw [Nat.add_sub_cancel,Hp.out];simp [hnl.out])];simp),Hfin.out _ (by assumption)⟩
          ·have hcd:decide (0≤cmpE p e)=false:=by simp;omega
           have hnl:=za (show ltE p e=true from Hpl.out.1 (by omega))
           refine zak (fun X=>Ext W X) [0,1,2,3,4,5,6,7,8,9,10,11,12,13,14,15,16,17,18,19,20,21,22,23,24,25,26,27,28,29,30,31,32,33,34,35,36,37,38,39] (by kernel_rfl) rfl (by kernel_rfl) (by kernel_rfl) (fun _ _ _ _ _ h=>h) ((Ext.refl _).drew) (fun hS=>?_)
           refine sQ ?_
           refine zag rfl rfl rfl (fun K hK=>?_)
           go_simp
           refine (zap).mono ?_
           rw [hA.out];rintro r w2 ⟨rfl,hx2⟩
           refine hK.out _ _ (Ext.trans (by assumption) hx2) (fun hS=>?_)
           refine pT ?_
           refine sQ ?_
           refine zag rfl rfl rfl (fun K hK=>?_)
           go_simp
           refine (zap).mono ?_
           rw [hB.out];rintro r w3 ⟨rfl,hx3⟩
           refine hK.out _ _ (Ext.trans (by assumption) hx3) (fun hS=>?_)
           refine pT ?_
           refine sQ ?_
           refine zag rfl rfl rfl (fun K hK=>?_)
           go_simp
           refine (zca _ _ hsm _).mono ?_
           rw [hC.out];rintro r w4 ⟨rfl,rfl⟩
           refine hK.out _ _ (by assumption) (fun hS=>?_)
           refine pT ?_
           refine sQ ?_
           refine zag rfl rfl rfl (fun K hK=>?_)
           go_simp
           refine (zcS (a:=p) (b:=e)).mono ?_
           rintro r w5 ⟨rfl,hx5⟩
           refine hK.out _ _ (Ext.trans (by assumption) hx5) (fun hS=>?_)
           refine pT ?_
           refine sQ ?_
           refine zch ?_
           go_wp2_with fail
           go_roundw
           case rel=>exact⟨j+1+1,by omega,by go_num,zbY Hge.out hall.out (by rw [zbA,he.out];dsimp only;rw [Nat.add_sub_cancel,Hp.out,hedg.out];simp [hnl.out]),(zin.trans hx).trans (by assumption)⟩
           case measure=>simp [intOf];omega
    ·obtain rfl:k=n:=by omega
     go_wp2
     go_ret
     exact⟨zk (by rw [Hv.out,zdD (by simp) hall.out,hd.out];simp;omega),((Ext.refl _).alloc _).trans zin⟩
  ·go_enter Tryz.func95,Tryz.ntmps95
   have hd:=za (show decide (0≤s.al∧s.al≤63)=true by simp;omega)
   go_wp2_with (go_at_call 181;refine (zar _ _).mono ?_;rw [hd.out];rintro e w' ⟨rfl,rfl⟩)
   all_goals go_ret
   all_goals exact⟨zk (by rw [Hv.out];simp [hst]),(Ext.refl _).alloc _⟩
 ·go_enter Tryz.func95,Tryz.ntmps95
  have hd:=za (show decide (0≤s.al∧s.al≤63)=false by simp;omega)
  go_wp2_with (go_at_call 181;refine (zar _ _).mono ?_;rw [hd.out];rintro e w' ⟨rfl,rfl⟩)
  go_ret
  exact⟨zk (by rw [Hv.out];simp;omega),(Ext.refl _).alloc _⟩
theorem zds {al:Nat} {st:Int} {e:Edg} {w:World}(hsm:Sm al) :
  Calls Tryz.prog 257 #[.int .i64 al,.int .i64 st,.agg #[.int .i64 e.fr,.int .i64 e.le,.int .i64 e.ta]] w fun r w'=>r=.returned (.bool (edgB al st e))∧Ext w w':=by
 have Hv:=za (show edgB al st e=((decide (0≤e.fr)&&decide (e.fr<st))&&((decide (0≤e.ta)&&decide (e.ta<st))&&(decide (e.le<6)&&hasB al e.le))) from rfl)
 by_cases h0:e.fr<0
 ·go_enter Tryz.func257,Tryz.ntmps257
  go_wp2
  go_ret
  exact⟨zk (by rw [Hv.out];simp;omega),(Ext.refl _).alloc _⟩
 ·by_cases h1:st≤e.fr
  ·go_enter Tryz.func257,Tryz.ntmps257
   go_wp2
   go_ret
   exact⟨zk (by rw [Hv.out];simp;omega),(Ext.refl _).alloc _⟩
  ·by_cases h2:e.ta<0
   ·go_enter Tryz.func257,Tryz.ntmps257
    go_wp2
    go_ret
    exact⟨zk (by rw [Hv.out];simp;omega),(Ext.refl _).alloc _⟩
   ·by_cases h3:st≤e.ta
    ·go_enter Tryz.func257,Tryz.ntmps257
     go_wp2
     go_ret
     exact⟨zk (by rw [Hv.out];simp;omega),(Ext.refl _).alloc _⟩
    ·by_cases h4:0≤e.le
     ·by_cases h5:e.le<6
      ·obtain⟨le,hle⟩:∃ le:Nat,Hid (e.le=le):=⟨e.le.toNat,by unfold Hid;omega⟩
       have hl6:(le:Int)<6:=by have:=hle.out;omega
       clear h4 h5
       rw [hle.out]
       go_enter Tryz.func257,Tryz.ntmps257
       go_wp2_with (go_at_call 144;refine (zat al le hsm _ (by omega)).mono ?_;rintro r w' ⟨rfl,rfl⟩)
       go_ret
       exact⟨zk (by rw [Hv.out,hle.out,decide_eq_true (show 0≤e.fr by omega),decide_eq_true (show e.fr<st by omega),decide_eq_true (show 0≤e.ta by omega),decide_eq_true (show e.ta<st by omega),decide_eq_true hl6];simp [hasB]),(Ext.refl _).alloc _⟩
      ·go_enter Tryz.func257,Tryz.ntmps257
       go_wp2_with fail
       go_ret
       exact⟨zk (by rw [Hv.out];simp;omega),(Ext.refl _).alloc _⟩
     ·go_enter Tryz.func257,Tryz.ntmps257
      go_wp2_with fail
      go_ret
      exact⟨zk (by rw [Hv.out];simp [hasB];omega),(Ext.refl _).alloc _⟩
theorem zdr {a b:Edg} {w:World} :
  Calls Tryz.prog 251 #[.agg #[.int .i64 a.fr,.int .i64 a.le,.int .i64 a.ta],.agg #[.int .i64 b.fr,.int .i64 b.le,.int .i64 b.ta]] w fun e w'=>e=.returned (.bool (ltE a b))∧Ext w w':=by
 have Hv:=za (show ltE a b=if a.fr=b.fr then if a.le=b.le then decide (a.ta<b.ta) else decide (a.le<b.le) else decide (a.fr<b.fr) from rfl)
 have hx:Ext w ((w.alloc (.cells #[Value.int .i64 a.fr,.int .i64 a.le,.int .i64 a.ta] 153)).alloc (.cells #[Value.int .i64 b.fr,.int .i64 b.le,.int .i64 b.ta] 153)):=((Ext.refl _).alloc _).alloc _
 have Hx:=za hx
 clear hx
 by_cases h0:a.fr=b.fr
 ·have n0:(a.fr != b.fr)=false:=by simp [h0]
  have H0:=za h0
  clear h0
  by_cases h1:a.le=b.le
  ·have n1:(a.le != b.le)=false:=by simp [h1]
   have H1:=za h1
   clear h1
   go_enter Tryz.func251,Tryz.ntmps251
   go_wp2
   go_ret
   exact⟨zk (by rw [Hv.out,if_pos H0.out,if_pos H1.out]),Hx.out⟩
  ·have n1:(a.le != b.le)=true:=by simp [h1]
   go_enter Tryz.func251,Tryz.ntmps251
   go_wp2
   go_ret
   exact⟨zk (by rw [Hv.out,if_pos H0.out,if_neg h1]),Hx.out⟩
 ·have n0:(a.fr != b.fr)=true:=by simp [h0]
  go_enter Tryz.func251,Tryz.ntmps251
  go_wp2
  go_ret
  exact⟨zk (by rw [Hv.out,if_neg h0]),Hx.out⟩
theorem zai {lo hi:Nat} {A:Option Addr} {n c:Nat} {s:Sys} {w:World}(h:zN w lo hi A n s) :
  Calls Tryz.prog 185 #[.agg #[.int .i64 s.al,.int .i64 s.st,.slice A n c]] w fun e w'=>e=.returned (.bool (zl s))∧Ext w w':=by
 have Hv:=za (show zl s=(decide (0≤s.al∧s.al≤63)&&(decide (1≤s.st∧s.st≤16)&&(List.range n).all (zbA s.al.toNat s.st s.edges))) by unfold zl;rw [← h.1])
 have hn:=h.2.len
 by_cases hal:0≤s.al∧s.al≤63
 ·by_cases hst:1≤s.st∧s.st≤16
  ·obtain⟨al,hal'⟩:∃ al:Nat,Hid (s.al=al):=⟨s.al.toNat,by unfold Hid;omega⟩
   have hsm:Sm al:=by have:=hal'.out;unfold Sm;omega
   have hd:=za (show decide (0≤(al:Int)∧(al:Int)≤63)=true by have:=hal'.out;simp;omega)
   rw [hal'.out]
   rw [hal'.out,Int.toNat_natCast] at Hv
   clear hal
   have hd1:decide (s.st<1)=false:=by simp;omega
   have hd2:decide (16<s.st)=false:=by simp;omega
   obtain⟨st,hst',hs1,hs2⟩:∃ st:Int,Hid (s.st=st)∧1≤st∧st≤16:=⟨s.st,za rfl,hst.1,hst.2⟩
   rw [hst'.out] at hd1 hd2 Hv ⊢
   clear hst
   have hR:=fun W (hW:Ext w W)=>h.2.ext hW
   have HR:=za hR
   clear hR
   go_enter Tryz.func185,Tryz.ntmps185
   go_wp2_with (go_at_call 143;refine (zR _ _).mono ?_;rw [hd.out];rintro e w' ⟨rfl,rfl⟩)
   go_loopw [3] (fun i wr=>∃ k:Nat,k≤n∧i=.int .i64 k∧Hid (((List.range n).take k).all (zbA al st s.edges)=true)∧Ext (w.alloc (.cells #[Value.int .i64 al,.int .i64 st,Value.slice A n c] 38)) wr)
    (fun i _=>n - (intOf i).toNat)
   case atStart=>exact⟨0,Nat.zero_le _,rfl,rfl,Ext.refl _⟩
   case round =>
    obtain⟨k,hk,rfl,hall,zin⟩:=hrel
    have hbx:=zcr zin
    by_cases hlt:k<n
    ·obtain⟨b,o,e,rfl,hlo,hhi,he,c0,c1,c2⟩:=(HR.out wr (((Ext.refl _).alloc _).trans zin)).edge hlt
     go_wp2_with fail
     clear hbx
     have e0:∀ X,Ext wr X→∀ j,X.cell? ⟨w.heap.size,j,none⟩=#[Value.int .i64 al,.int .i64 st,Value.slice (some ⟨b,o,none⟩) n c][j]?:=fun X hX=>zcr (zin.trans hX)
     have q0:∀ X,Ext wr X→X.cell? ⟨b,o+k*3,none⟩=some (.int .i64 e.fr):=fun X hX=>hX.cell_some c0
     have q1:∀ X,Ext wr X→X.cell? ⟨b,o+k*3+1,none⟩=some (.int .i64 e.le):=fun X hX=>hX.cell_some c1
     have q2:∀ X,Ext wr X→X.cell? ⟨b,o+k*3+2,none⟩=some (.int .i64 e.ta):=fun X hX=>hX.cell_some c2
     have hr:=Ext.refl wr
     clear c0 c1 c2
     have zio:∀ X,Ext wr X→Ext w X:=fun X hX=>(((Ext.refl _).alloc _).trans zin).trans hX
     have Hfin:=za zio
     clear zio
     have hk0':(0:Int)≤(k:Int):=by omega
     have hk1':(k:Int)<(n:Int):=by omega
     have hge:(List.range n)[k]?=some k:=by rw [List.getElem?_range hlt]
     have Hge:=za hge
     clear hge
     cases hA':edgB al st e
     ·have hA:=za hA'
      clear hA'
      refine zak (fun X=>Ext wr X) [0,1,2,3,4,5,6,7,8,9,10,11,12,13,14,15,16,17,18,19,20,21,22,23,24,25,26,27,28,29] (by kernel_rfl) rfl (by kernel_rfl) (by kernel_rfl) (fun _ _ _ _ _ h=>h) ((Ext.refl _).drew) (fun hS=>?_)
      refine sQ ?_
      refine zag rfl rfl rfl (fun K hK=>?_)
      go_simp
      refine (zds (e:=e) hsm).mono ?_
      rw [hA.out];rintro r w2 ⟨rfl,hx2⟩
      refine hK.out _ _ (Ext.trans (by assumption) hx2) (fun hS=>?_)
      refine pT ?_
      refine sQ ?_
      refine zch ?_
      go_wp2_with fail
      go_ret
      exact⟨zk (by rw [Hv.out,zaE Hge.out (by rw [zbA,he.out];dsimp only;rw [hA.out];simp)];simp),Hfin.out _ (by assumption)⟩
     ·have hA:=za hA'
      clear hA'
      by_cases hk0:k=0
      ·subst hk0
       simp only [Nat.zero_mul,Nat.add_zero] at q0 q1 q2
       refine zak (fun X=>Ext wr X) [0,1,2,3,4,5,6,7,8,9,10,11,12,13,14,15,16,17,18,19,20,21,22,23,24,25,26,27,28,29] (by kernel_rfl) rfl (by kernel_rfl) (by kernel_rfl) (fun _ _ _ _ _ h=>h) ((Ext.refl _).drew) (fun hS=>?_)
       refine sQ ?_
       refine zag rfl rfl rfl (fun K hK=>?_)
       go_simp
       refine (zds (e:=e) hsm).mono ?_
       rw [hA.out];rintro r w2 ⟨rfl,hx2⟩
       refine hK.out _ _ (Ext.trans (by assumption) hx2) (fun hS=>?_)
       refine pT ?_
       refine sQ ?_
       refine zch ?_
       go_wp2_with fail
       go_roundw
       case rel=>exact⟨0+1,by omega,by go_num,zbY Hge.out hall.out (by rw [zbA,he.out];dsimp only;rw [hA.out];simp),zin.trans (by assumption)⟩
       case measure=>simp [intOf];omega
      ·obtain⟨j,rfl⟩:∃ j,k=j+1:=⟨k - 1,by omega⟩
       have hp:s.edges[j]?=some (s.edges[j]'(by have:=h.1;omega)):=List.getElem?_eq_getElem _
       generalize s.edges[j]'(by have:=h.1;omega)=p at hp
       have Hp:=za hp
       clear hp
       have hpc:=(HR.out wr (((Ext.refl _).alloc _).trans zin)).edge2 Hp.out
       have p0:∀ X,Ext wr X→X.cell? ⟨b,o+j*3,none⟩=some (.int .i64 p.fr):=fun X hX=>hX.cell_some hpc.1
       have p1:∀ X,Ext wr X→X.cell? ⟨b,o+j*3+1,none⟩=some (.int .i64 p.le):=fun X hX=>hX.cell_some hpc.2.1
       have p2:∀ X,Ext wr X→X.cell? ⟨b,o+j*3+2,none⟩=some (.int .i64 p.ta):=fun X hX=>hX.cell_some hpc.2.2
       clear hpc
       have hk1:decide ((0:Int)<(j:Int)+1)=true:=decide_eq_true (by omega)
       have hw1:IntKind.i64.wrap ((j:Int)+1 - 1)=(j:Int):=by rw [IntKind.wrap_i64];omega
       have hw2:IntKind.i64.wrap (j:Int)=(j:Int):=by rw [IntKind.wrap_i64];omega
       have hj0:(0:Int)≤(j:Int):=by omega
       have hj1:(j:Int)<(n:Int):=by omega
       have hj2:(0:Int)≤(j:Int)+1:=by omega
       have hj3:(j:Int)+1<(n:Int):=by omega
       have hj4:((j:Int)+1).toNat=j+1:=by omega
       cases hnl':ltE p e
       ·have hnl:=za hnl'
        clear hnl'
        refine zak (fun X=>Ext wr X) [0,1,2,3,4,5,6,7,8,9,10,11,12,13,14,15,16,17,18,19,20,21,22,23,24,25,26,27,28,29] (by kernel_rfl) rfl (by kernel_rfl) (by kernel_rfl) (fun _ _ _ _ _ h=>h) ((Ext.refl _).drew) (fun hS=>?_)
        refine sQ ?_
        refine zag rfl rfl rfl (fun K hK=>?_)
        go_simp
        refine (zds (e:=e) hsm).mono ?_
        rw [hA.out];rintro r w2 ⟨rfl,hx2⟩
        refine hK.out _ _ (Ext.trans (by assumption) hx2) (fun hS=>?_)
        refine pT ?_
        refine sQ ?_
        refine zag rfl rfl rfl (fun K hK=>?_)
        go_simp
        refine (zdr (a:=p) (b:=e)).mono ?_
        rw [hnl.out];rintro r w3 ⟨rfl,hx3⟩
        refine hK.out _ _ (Ext.trans (by assumption) hx3) (fun hS=>?_)
        refine pT ?_
        refine sQ ?_
        refine zch ?_
        go_wp2_with fail
        go_ret
        exact⟨zk (by rw [Hv.out,zaE Hge.out (by rw [zbA,he.out];dsimp only;rw [Nat.add_sub_cancel,Hp.out];simp [hnl.out])];simp),Hfin.out _ (by assumption)⟩
       ·have hnl:=za hnl'
        clear hnl'
        refine zak (fun X=>Ext wr X) [0,1,2,3,4,5,6,7,8,9,10,11,12,13,14,15,16,17,18,19,20,21,22,23,24,25,26,27,28,29] (by kernel_rfl) rfl (by kernel_rfl) (by kernel_rfl) (fun _ _ _ _ _ h=>h) ((Ext.refl _).drew) (fun hS=>?_)
        refine sQ ?_
        refine zag rfl rfl rfl (fun K hK=>?_)
        go_simp
        refine (zds (e:=e) hsm).mono ?_
        rw [hA.out];rintro r w2 ⟨rfl,hx2⟩
        refine hK.out _ _ (Ext.trans (by assumption) hx2) (fun hS=>?_)
        refine pT ?_
        refine sQ ?_
        refine zag rfl rfl rfl (fun K hK=>?_)
        go_simp
        refine (zdr (a:=p) (b:=e)).mono ?_
        rw [hnl.out];rintro r w3 ⟨rfl,hx3⟩
        refine hK.out _ _ (Ext.trans (by assumption) hx3) (fun hS=>?_)
        refine pT ?_
        refine sQ ?_
        refine zch ?_
        go_wp2_with fail
        go_roundw
        case rel=>exact⟨j+1+1,by omega,by go_num,zbY Hge.out hall.out (by rw [zbA,he.out];dsimp only;rw [Nat.add_sub_cancel,Hp.out,hA.out];simp [hnl.out]),zin.trans (by assumption)⟩
        case measure=>simp [intOf];omega
    ·obtain rfl:k=n:=by omega
     go_wp2
     go_ret
     exact⟨zk (by rw [Hv.out,zdD (by simp) hall.out,hd.out];simp;omega),((Ext.refl _).alloc _).trans zin⟩
  ·go_enter Tryz.func185,Tryz.ntmps185
   have hd:=za (show decide (0≤s.al∧s.al≤63)=true by simp;omega)
   go_wp2_with (go_at_call 143;refine (zR _ _).mono ?_;rw [hd.out];rintro e w' ⟨rfl,rfl⟩)
   all_goals go_ret
   all_goals exact⟨zk (by rw [Hv.out];simp [hst]),(Ext.refl _).alloc _⟩
 ·go_enter Tryz.func185,Tryz.ntmps185
  have hd:=za (show decide (0≤s.al∧s.al≤63)=false by simp;omega)
  go_wp2_with (go_at_call 143;refine (zR _ _).mono ?_;rw [hd.out];rintro e w' ⟨rfl,rfl⟩)
  go_ret
  exact⟨zk (by rw [Hv.out];simp;omega),(Ext.refl _).alloc _⟩
theorem zbP {s:Sys}(h:zl s=true):∃ p:Nat,s.st=p∧1≤p∧p≤16∧Few p s.edges:=by
 simp only [zl,Bool.and_eq_true,decide_eq_true_eq,List.all_eq_true,List.mem_range] at h
 obtain⟨_,⟨h1,h2⟩,h3⟩:=h
 refine⟨s.st.toNat,by omega,by omega,by omega,fun e he=>?_⟩
 obtain⟨k,hk⟩:=List.getElem?_of_mem he
 have:=h3 k (List.getElem?_eq_some_iff.1 hk).1
 rw [zbA,hk] at this
 simp only [Bool.and_eq_true,edgB,decide_eq_true_eq,hasB] at this
 omega
def RetFmt (s:Sys) (w:World) (e:Ending) (w':World):Prop:=∃ t:ByteArray,e=.returned (.string t)∧(zl s=false→t.size=0)∧Ext w w'
theorem valid_al {s:Sys}(h:zl s=true):∃ a:Nat,s.al=a∧a<64:=by
 simp only [zl,Bool.and_eq_true,decide_eq_true_eq] at h
 exact⟨s.al.toNat,by omega,by omega⟩
theorem zfx {lo hi:Nat} {A:Option Addr} {n c:Nat} {s:Sys} {w:World}(h:zN w lo hi A n s)(hn:n≤1000000) :
  Calls Tryz.prog 248 #[.agg #[.int .i64 s.al,.int .i64 s.st,.slice A n c]] w (RetFmt s w):=by
 have HS:=za (fun W (hW:Ext w W)=>h.ext hW)
 clear h
 cases h1:zl s
 ·have H1:=za h1
  clear h1
  go_enter Tryz.func248,Tryz.ntmps248
  go_wp2_with (go_at_call 185;refine (zai (HS.out _ ((Ext.refl _).alloc _))).mono ?_;rw [H1.out];rintro e w1 ⟨rfl,hx⟩)
  go_ret
  exact⟨_,rfl,fun _=>rfl,((Ext.refl _).alloc _).trans hx⟩
 ·obtain⟨p,hp,hp1,hp2,hf⟩:=zbP h1
  obtain⟨a,ha,ha2⟩:=valid_al h1
  have H1:=za h1
  have Hf:=za hf
  have Hp:=za hp
  have Ha:=za ha
  clear h1 hf hp ha
  go_enter Tryz.func248,Tryz.ntmps248
  go_wp2_with fail
  refine (zai (HS.out _ ((Ext.refl _).alloc _))).mono ?_
  rw [H1.out]
  rintro e w1 ⟨rfl,hx⟩
  have b1:=zbH hx
  rw [Ha.out,Hp.out] at b1
  have hw1:=((Ext.refl w).alloc _).trans hx
  have cb:=b1.cells
  go_wp2_with fail
  refine tR (fun X=>Ext w1 X) [] (Ord.of [0,1,4,5,2,3,6,7,8]) ?_
  refine tQ ?_
  (refine zA rfl rfl rfl (fun K hK=>?_);go_simp)
  refine (zbx ha2).mono ?_
  rintro e w2 ⟨t2,rfl,ht2,hx2⟩
  have hx12:=((Ext.refl w1).drew).trans hx2
  have q1:¬ 9223372036854775807<t2.size+1:=by omega
  refine hK.out _ _ hx12 ?_
  refine pT ?_
  refine tQ ?_
  (refine zA rfl rfl rfl (fun K hK=>?_);go_simp)
  refine (zdo (n:=p) (by omega)).mono ?_
  rintro e w3 ⟨t3,rfl,ht3,hx3⟩
  have hx13:=hx12.trans hx3
  have q2:¬ 9223372036854775807<t2.size+1+t3.size:=by omega
  refine hK.out _ _ hx13 ?_
  refine pT ?_
  refine tQ ?_
  refine zaj ?_
  obtain⟨t4,ht4⟩:∃ t4:ByteArray,t4=t2++{ data:=#[32] }++t3:=⟨_,rfl⟩
  have hs4:t4.size≤20:=by rw [ht4,ByteArray.size_append,ByteArray.size_append];show t2.size+1+t3.size≤20;omega
  rw [← ht4]
  clear ht4 q1 q2 ht2 ht3 hx2 hx3 hx12
  have hext0:=hx13
  go_wp2_with fail
  go_loopw [3,4] (fun v i wr=>∃ (k:Nat) (t:ByteArray),k≤n∧i=.int .i64 k∧v=.string t∧t.size≤20+20*k∧Ext w1 wr) (fun _ i _=>n - (intOf i).toNat)
  case atStart=>exact⟨0,t4,Nat.zero_le _,rfl,rfl,hs4,hext0⟩
  case round =>
   clear hext0 hx13 hs4
   obtain⟨k,t,hk,rfl,rfl,ht,zin⟩:=hrel
   have cb0:=cb wr zin
   by_cases hlt:k<n
   ·obtain⟨b,o,x,rfl,_,_,hx0,c0,c1,c2⟩:=(HS.out wr (hw1.trans zin)).2.edge hlt
    obtain⟨⟨f0,f1⟩,⟨g0,g1⟩,⟨t0,t1⟩⟩:=Hf.out x (List.mem_of_getElem? hx0.out)
    obtain⟨u,hue⟩:∃ u:Nat,x.fr=u:=⟨x.fr.toNat,by omega⟩
    obtain⟨v,hve⟩:∃ v:Nat,x.ta=v:=⟨x.ta.toNat,by omega⟩
    rw [hue] at c0 f0 f1
    rw [hve] at c2 t0 t1
    clear hue hve
    go_wp2_with fail
    have hxq:=(Ext.refl wr).alloc (.cells #[.int .i64 u,.int .i64 x.le,.int .i64 v] 153)
    have hbq:=Blk.new wr 153 #[.int .i64 u,.int .i64 x.le,.int .i64 v]
    generalize wr.alloc (.cells #[.int .i64 u,.int .i64 x.le,.int .i64 v] 153)=wq at *
    have cq:=hbq.cells
    have q0:¬ 9223372036854775807<t.size+1:=by omega
    refine tR (fun X=>Ext wq X) [] (Ord.of [0,1,2,3,6,7,10,11,4,5,8,9,12,13,14]) ?_
    refine tQ ?_
    (refine zA rfl rfl rfl (fun K hK=>?_);go_simp)
    refine (zdo (n:=u) (by omega)).mono ?_
    rintro e w2 ⟨t2,rfl,ht2,hx2⟩
    have hy2:=((Ext.refl wq).drew).trans hx2
    have q1:¬ 9223372036854775807<t.size+1+t2.size:=by omega
    refine hK.out _ _ hy2 ?_
    refine pT ?_
    refine tQ ?_
    (refine zA rfl rfl rfl (fun K hK=>?_);go_simp)
    refine (zdq (l:=x.le) g0 g1).mono ?_
    rintro e w3 ⟨t3,rfl,ht3,hx3⟩
    have hy3:=hy2.trans hx3
    have q2:¬ 9223372036854775807<t.size+1+t2.size+t3.size:=by omega
    refine hK.out _ _ hy3 ?_
    refine pT ?_
    refine tQ ?_
    (refine zA rfl rfl rfl (fun K hK=>?_);go_simp)
    refine (zdo (n:=v) (by omega)).mono ?_
    rintro e w5 ⟨t5,rfl,ht5,hx5⟩
    have hy5:=hy3.trans hx5
    have q3:¬ 9223372036854775807<t.size+1+t2.size+t3.size+t5.size:=by omega
    refine hK.out _ _ hy5 ?_
    refine pT ?_
    refine tQ ?_
    refine zaj ?_
    have hs6:(t++{ data:=#[32] }++t2++t3++t5).size≤20+20*(k+1):=by
     simp only [ByteArray.size_append]
     show t.size+1+t2.size+t3.size+t5.size≤_
     omega
    clear q0 q1 q2 q3
    go_wp2_with fail
    go_roundw
    case rel=>exact⟨k+1,_,by omega,by go_num,rfl,hs6,(zin.trans hxq).trans hy5⟩
    case measure=>simp [intOf];omega
   ·obtain rfl:n=k:=by omega
    go_wp2_with fail
    go_ret
    have hv:=H1.out
    exact⟨t,rfl,fun h=>absurd (hv.symm.trans h) (by decide),hw1.trans zin⟩
theorem wpList_push2 {P:Program} (wb w:World) {ops:Array Oper} {rest:List Oper} {o:Oper} {a:Act} {Q:Exit→Act→World→Prop}(hgd:o.guard=none) (s x:Operand) (t:TypeId)
  (ho:o.op=.call { callee:=.builtin .append,args:=#[s,x],argTypes:=#[t,t] })
  (e:TypeId) (z:Value) (size bytes:Nat) (ht:P.underlying t=some (.slice e)) (hi:(P.info? e).map (fun i=>(i.zero,i.size,i.bytes))=some (some z,size,bytes)) (hzs:z.cells.size=size) (hsz:0<size)
  (v:Value) (n:Nat) (xs:List Value) (us:Array Value) (e':TypeId) (hs:a.eval s=v) (hx:a.eval x=.slice (some ⟨w.heap.size,0,none⟩) 1 1)
  (zin:wb.heap.size≤w.heap.size) (zil:w.ownsRow wb.heap.size e size v n xs) (hus:us.size=size) (h1:∀ u∈us.toList,u.oneCell'=true)
  (h63:n+1≤maxLen) (hbytes:(n+1)*bytes≤140737488355328)
  (h:∀ g cap w',w'.ownsRow wb.heap.size e size (.slice (some ⟨g,0,none⟩) (n+1) cap) (n+1) (xs++us.toList)→w.grownBy w' v.ownBlock→(v.ownBlock=some g∨g=w.heap.size+1)→g<w'.heap.size→wpList P ops Q rest (a.put o.dst (.slice (some ⟨g,0,none⟩) (n+1) cap)) w') :
  wpList P ops Q (o :: rest) a (w.alloc (.cells us e')):=
 wpList_plain hgd fun _ hK=>zaG wb w s x t ho e z size bytes ht hi hzs hsz v n xs us e' hs hx zin zil hus h1 h63 hbytes fun g cap w' h2 h3 h4 h5=>hK _ _ (h g cap w' h2 h3 h4 h5)
theorem Reads.str {w:World} {lo hi n k:Nat} {A:Option Addr} {l:List ByteArray}(h:Reads w lo hi 1 A n (zW l))(hk:k<n):∃ ad x,A=some ad∧lo≤ad.block∧ad.block<hi∧Hid (l[k]?=some x)∧w.cell? (ad.add k)=some (.string x):=by
 obtain⟨ad,u,e,h1,h2,hu,hc⟩:=h.one hk
 have:=hu.out
 simp only [zW,List.getElem?_map,Option.map_eq_some_iff] at this
 obtain⟨x,hx,rfl⟩:=this
 exact⟨ad,x,e,h1,h2,hx,hc⟩
theorem valid_good {s:Sys}(h:zl s=true):Good s:=by
 obtain⟨p,hp,hp1,hp2,hf⟩:=zbP h
 obtain⟨a,ha,ha2⟩:=valid_al h
 exact⟨a,p,ha,ha2,hp,hp1,hp2,hf⟩
theorem Acc.fillRD {w0 wB W:World} {R G M Z:Nat} {al st:Int} {v:Value} {es:List Edg}(h:Acc w0 wB W R G M al st v es)(hZ:w0.heap.size≤Z) (u0 u1 u2:Value) :
  Rd (((W.setCell ⟨Z,0,none⟩ u0).setCell ⟨Z,1,none⟩ u1).setCell ⟨Z,2,none⟩ u2) R M∧Dr R w0 (((W.setCell ⟨Z,0,none⟩ u0).setCell ⟨Z,1,none⟩ u1).setCell ⟨Z,2,none⟩ u2):=
 ⟨h.rd.frm (zdV W Z u0 u1 u2) (fun k h1 h2=>by have:=h.hR;omega),((h.dr.setNew (p:=⟨Z,0,none⟩) hZ u0).setNew (p:=⟨Z,1,none⟩) hZ u1).setNew (p:=⟨Z,2,none⟩) hZ u2⟩
theorem str_empty {t x:ByteArray}(h:t.toList=x.toList)(h0:t.size=0):x.size=0:=by
 have h1:=congrArg List.length h
 rw [ByteArray.toList_eq,ByteArray.toList_eq] at h1
 have e1:t.data.toList.length=t.size:=rfl
 have e2:x.data.toList.length=x.size:=rfl
 omega
def Fair (s:Sys):Prop:=∃ a p:Nat,s.al=a∧a<64∧s.st=p∧p≤16∧Few (p+1) s.edges
theorem Good.fair {s:Sys}(h:Good s):Fair s:=by
 obtain⟨a,p,h1,h2,h3,_,h5,h6⟩:=h
 exact⟨a,p,h1,h2,h3,h5,fun e he=>by have:=h6 e he;omega⟩
theorem fair_zero:Fair ⟨0,0,[]⟩:=⟨0,0,rfl,by omega,rfl,by omega,fun e he=>by cases he⟩
def zhu (R M L:Nat) (w:World) (e:Ending) (w':World):Prop:=
 ∃ (s:Sys) (A:Option Addr) (n c:Nat) (ok:Bool),e=.returned (.tuple #[.agg #[.int .i64 s.al,.int .i64 s.st,.slice A n c],.bool ok])∧zbq w' R A n s∧((ok=true→Good s)∧Fair s)∧(n≤L∧n≤c)∧Rd w' R M∧Dr R w w'
theorem zgf {R M L:Nat} {w w':World}(h:Rd w' R M)(hd:Dr R w w'):zhu R M L w (.returned (.tuple #[.agg #[.int .i64 0,.int .i64 0,.slice none 0 0],.bool false])) w':=
 ⟨⟨0,0,[]⟩,none,0,0,false,rfl,⟨rfl,by omega,fun h0=>by omega⟩,⟨(fun h=>by cases h),fair_zero⟩,⟨Nat.zero_le _,Nat.le_refl _⟩,h,hd⟩
theorem yK02a1 {P:Prop}(h:P:=by
 obtain⟨g1,g2⟩:=hacc4.fillRD (Z:=w.heap.size) (Nat.le_refl _) (.int .i64 0) (.int .i64 0) (.slice none 0 0)
 exact bodyPost_ret (v:=.tuple #[.agg #[.int .i64 0,.int .i64 0,.slice none 0 0],.bool false]) (by simp [results,Tryz.results171,go_sem,hz4]) rfl (zgf g1 g2)
 ):P:=h
theorem yK02a2 {P:Prop}(h:P:=by
 go_wp2_with fail
 exact bodyPost_ret (v:=.tuple #[.agg #[.int .i64 0,.int .i64 0,.slice none 0 0],.bool false]) (by simp [results,Tryz.results171,go_sem,cz2]) rfl Hnone.out
 ):P:=h
theorem zci {R M:Nat} {x:ByteArray} {w:World}(h:Rd w R M)(hx:x.size≤1000) :
  Calls Tryz.prog 171 #[.string x] w (zhu R M 1001 w):=by
 have hRl:=h.lt
 go_enter Tryz.func171,Tryz.ntmps171
 go_wp2_with fail
 refine (spec_l19Cut (s:=x) (by omega)).mono ?_
 rintro e w1 ⟨B,m,d,l,rfl,hml,ziv,hlx,hm,hx1⟩
 have bz1:=zbH hx1
 have hzz:=bz1.lt
 have hw1:=((Ext.refl w).alloc _).trans hx1
 have hrd:=(Reads.of_own ziv).more (lo':=w.heap.size+1) (hi':=w1.heap.size) (by simp) (Nat.le_refl _)
 have Hlx:=za hlx
 have Hml:=za hml
 clear ziv hlx hml hx1
 have cz:=bz1.cell
 have fz:=bz1.frozen
 have hfill:=za (fun (W:World) (hW:Ext w1 W) (u0 u1 u2:Value)=>(⟨(h.ext (hw1.trans hW)).frm (zdV W w.heap.size u0 u1 u2) (fun k hk hS=>by omega),(((hw1.trans hW).dr.setNew (R:=R) (p:=⟨w.heap.size,0,none⟩) (Nat.le_refl _) u0).setNew (p:=⟨w.heap.size,1,none⟩) (Nat.le_refl _) u1).setNew (p:=⟨w.heap.size,2,none⟩) (Nat.le_refl _) u2⟩:Rd (((W.setCell ⟨w.heap.size,0,none⟩ u0).setCell ⟨w.heap.size,1,none⟩ u1).setCell ⟨w.heap.size,2,none⟩ u2) R M∧Dr R w (((W.setCell ⟨w.heap.size,0,none⟩ u0).setCell ⟨w.heap.size,1,none⟩ u1).setCell ⟨w.heap.size,2,none⟩ u2)))
 by_cases hm2:m<2
 ·go_wp2_with fail
  obtain⟨g1,g2⟩:=hfill.out w1 (Ext.refl _) (.int .i64 0) (.int .i64 0) (.slice none 0 0)
  exact bodyPost_ret (v:=.tuple #[.agg #[.int .i64 0,.int .i64 0,.slice none 0 0],.bool false]) (by simp [results,Tryz.results171,go_sem,cz]) rfl (zgf g1 g2)
 ·obtain⟨ad,x0,rfl,hlo,hhi,hx0,hc0⟩:=hrd.str (k:=0) (by omega)
  obtain⟨b,o,rfl⟩:∃ b o,ad=⟨b,o,none⟩:=⟨_,_,zcO hc0⟩
  rw [zT,Nat.add_zero] at hc0
  obtain⟨ad',x1,hae,_,_,hx1,hc1⟩:=hrd.str (k:=1) (by omega)
  obtain rfl:=Option.some.inj hae
  rw [zT] at hc1
  have hm2':(2:Int)≤(m:Int):=by omega
  have hb1:=za (Hlx.out x1 (List.mem_of_getElem? hx1.out))
  go_wp2_with fail
  refine (zcG (x:=x0)).mono ?_
  rintro e w2 ⟨a,ok1,rfl,ha,hx2⟩
  have hc12:=hx2.cell_some hc1
  have bz2:=bz1.ext hx2
  have cz2:=bz2.cell
  have fz2:=bz2.frozen
  go_wp2_with fail
  refine (zdp (s:=x1) (by have:=hb1.out;omega)).mono ?_
  rintro e w2' ⟨st,ok2,rfl,rfl⟩
  obtain⟨g1,g2⟩:=hfill.out w2 hx2 (.int .i64 0) (.int .i64 0) (.slice none 0 0)
  have Hnone:=za (zgf (L:=1001) g1 g2)
  clear g1 g2
  cases ok1
  ·exact yK02a2
  ·cases ok2
   ·exact yK02a2
   ·have bG:=Blk.new w2 38 #[.int .i64 a,.int .i64 st,.slice none 0 0]
    have hx3:=(Ext.refl w2).alloc (.cells #[.int .i64 a,.int .i64 st,.slice none 0 0] 38)
    have hz3:w2.heap.size<(w2.alloc (.cells #[.int .i64 a,.int .i64 st,.slice none 0 0] 38)).heap.size:=by simp
    have hz12:=hx2.size
    have hz01:=hw1.size
    have hw2:=hw1.trans hx2
    clear hc0 hc1 hc12 cz fz cz2 fz2
    go_wp2_with fail
    generalize w2.alloc (.cells #[.int .i64 a,.int .i64 st,.slice none 0 0] 38)=w3 at *
    have hw3:=hw2.trans hx3
    have hrd3:=(hrd.ext hx2).ext hx3
    have bz3:=bz2.ext hx3
    have zim:Acc w w3 w3 R w2.heap.size M a st (.slice none 0 0) []:=⟨bG,World.ownsRow_nil _ _ _ _,h.ext hw3,hw3.dr,Frm.refl _ _,hRl,hw3.size,by omega⟩
    go_loopw [10] (fun i wr=>∃ (k:Nat) (v:Value) (es:List Edg),2≤k∧k≤m∧i=.int .i64 k∧Acc w w3 wr R w2.heap.size M a st v es∧es.length≤k) (fun i _=>m - (intOf i).toNat)
    case atStart=>exact⟨2,_,[],Nat.le_refl _,by omega,rfl,zim,Nat.zero_le _⟩
    case round =>
     clear zim
     obtain⟨k,v,es,hk2,hk,rfl,zim,hel⟩:=hrel
     have hG:=zim.blk.cell
     have hbz:=bz3.frm zim.fr (by omega)
     have hbzc:=hbz.cell
     have hbzf:=hbz.frozen
     have hrdk:=zim.old hrd3 (by omega)
     by_cases hlt:k<m
     ·obtain⟨ad,xk,hae,_,_,hxk,hck⟩:=hrdk.str hlt
      obtain rfl:=Option.some.inj hae
      rw [zT] at hck
      have hbk:=za (Hlx.out xk (List.mem_of_getElem? hxk.out))
      clear hbzc hbzf
      go_wp2_with fail
      refine (spec_l2Parse (s:=xk) (by have:=hbk.out;omega)).mono ?_
      rintro e w4 ⟨ed,ok3,rfl,hx4⟩
      have hacc4:=zim.ext (hx4.alloc (.cells #[.int .i64 ed.fr,.int .i64 ed.le,.int .i64 ed.ta] 153))
      have bed:=Blk.new w4 153 #[.int .i64 ed.fr,.int .i64 ed.le,.int .i64 ed.ta]
      have hbz4:=hbz.ext (hx4.alloc (.cells #[.int .i64 ed.fr,.int .i64 ed.le,.int .i64 ed.ta] 153))
      clear hG
      cases ok3
      ·have hz4:=hbz4.cell
       have hzf:=hbz4.frozen
       go_wp2_with fail
       generalize w4.alloc (.cells #[.int .i64 ed.fr,.int .i64 ed.le,.int .i64 ed.ta] 153)=wq at *
       exact yK02a1
      ·have hG4:=hacc4.blk.cell
       go_wp2_with (at_builtin;refine wpList_push2 w3 (w4.alloc (.cells #[.int .i64 ed.fr,.int .i64 ed.le,.int .i64 ed.ta] 153)) rfl _ _ _ rfl 153 _ 3 24 Tryz.underlying36 zbg rfl (by decide) v es.length (zu es) _ _ rfl (by first|rfl|simp [go_sem]) hacc4.fr.size hacc4.own rfl (by simp [Value.oneCell']) (by unfold maxLen;omega) (by omega) ?_;intro g cap w5 ziy hg5 hat5 hlt5;obtain⟨h1,h2,h3⟩:=hacc4.push (e:=ed) (W':=w5) ziy hg5 hat5;have h1':=h1.out)
       go_roundw
       case rel=>exact⟨k+1,_,_,by omega,by omega,by go_num,h3,by simp;omega⟩
       case measure=>simp [intOf];omega
     ·obtain rfl:m=k:=by omega
      obtain⟨A,n,c,rfl⟩:=zim.form
      obtain⟨rfl,hsys⟩:=zim.reads
      clear hbzc hbzf
      go_wp2_with fail
      refine (zfx (s:=⟨a,st,es⟩) hsys (by omega)).mono ?_
      rintro e w4 ⟨tx,rfl,htx,hx4⟩
      have hacc4:=zim.ext hx4
      have hbz4:=hbz.ext hx4
      have hz4:=hbz4.cell
      have hzf:=hbz4.frozen
      have hG4:=hacc4.blk.cell
      cases hne:tx.toList==x.toList
      ·go_wp2_with fail
       exact yK02a1
      ·have hval:zl (⟨a,st,es⟩:Sys)=true:=by
        cases hv:zl (⟨a,st,es⟩:Sys)
        ·exfalso
         have h0:=htx hv
         have hxe:x.size=0:=str_empty (by simpa using hne) h0
         omega
        ·rfl
       have hgood:=valid_good hval
       have hcap:=zhM hacc4.own
       obtain⟨g1,g2,g3⟩:=hacc4.fin (Z:=w.heap.size) (Nat.le_refl _) (by omega) (.int .i64 a) (.int .i64 st) (.slice A es.length c)
       have Hfin:=za (show zhu R M 1001 w (.returned (.tuple #[.agg #[.int .i64 a,.int .i64 st,.slice A es.length c],.bool true])) _ from ⟨⟨a,st,es⟩,A,es.length,c,true,rfl,g1,⟨fun _=>hgood,hgood.fair⟩,by omega,g2,g3⟩)
       clear g1 g2 g3 hgood hval
       go_wp2_with fail
       exact bodyPost_ret (v:=.tuple #[.agg #[.int .i64 a,.int .i64 st,.slice A es.length c],.bool true]) (by simp [results,Tryz.results171,go_sem,hz4]) rfl Hfin.out
end Go.Proofs.YtmjaepibdpfblaaGreatDoor
