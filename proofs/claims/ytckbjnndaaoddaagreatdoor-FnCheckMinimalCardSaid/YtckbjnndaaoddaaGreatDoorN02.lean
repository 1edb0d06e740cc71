/- Plain: the s -/
import Derived.Test.YtckbjnndaaoddaaGreatDoorN01
import Derived.Laws.BytesArg
import Derived.StillTailTactics
import Derived.Laws.Strings
set_option maxHeartbeats 4000000
set_option maxRecDepth 100000
namespace Go.Proofs.YtckbjnndaaoddaaGreatDoor
open Go Go.RowKit
open Blk renaming new->dX
open Bool renaming and_eq_true->dI,eq_false_iff->eM
open Ext renaming drew->eV,refl->dB,trans->eJ
open Frm renaming ab->eZ,setCell->dH
open Int renaming toNat_natCast->eN
open List renaming getElem?_append_left->dJ,getElem?_append_right->dP,getElem?_eq_getElem->dD,getElem?_map->dS,getElem?_range->gS,getElem?_set_self->eX,length_append->dN,length_set->fB,length_singleton->dZ,map_set->iR,mem_of_getElem?->dC,range->fK,take_add_one->dO,take_length->eI
open Nat renaming add_sub_cancel->gK,le_add_right->jE,le_refl->dE,le_trans->dL,lt_of_lt_of_le->dY,lt_or_eq_of_le->eF,lt_pow_two_of_testBit->iH,zero_le->dG
open Reads renaming af->eE
variable {A A':Option Addr} {G K M R Z a b base c c' cap g hi i k lo n n' p size:Nat} {W w w' w0 wB:World} {al st:Int} {cs:Array Value} {e t:TypeId} {es:List Edg} {l:List Int} {ls:List (List Int)} {rows xs:List Value} {s:Sys} {v0:Value} {x:ByteArray}
theorem foldl_bit (es:List Edg) (p:Edg->Prop) [DecidablePred p] (m k:Nat):(es.foldl (fun m e=>if p e then m|||2 ^ e.ta.toNat else m) m).testBit k=true↔m.testBit k=true∨∃ e∈es,p e∧e.ta.toNat=k:=by
 induction es generalizing m with
 |nil=>simp
 |cons e r ih =>
  rw [List.foldl_cons,ih]
  by_cases hp:p e
  ·rw [if_pos hp,Nat.testBit_or,Nat.testBit_two_pow];simp only [Bool.or_eq_true,decide_eq_true_eq,List.mem_cons];constructor
   ·rintro ((h|h)|⟨c,a,b⟩)
    ·exact Or.inl h
    ·exact Or.inr ⟨e,Or.inl rfl,hp,h⟩
    ·exact Or.inr ⟨c,Or.inr a,b⟩
   ·rintro (h|⟨c,a|a,b⟩)
    ·exact Or.inl (Or.inl h)
    ·subst a;exact Or.inl (Or.inr b.2)
    ·exact Or.inr ⟨c,a,b⟩
  ·rw [if_neg hp];constructor
   ·rintro (h|⟨c,a,b⟩)
    ·exact Or.inl h
    ·exact Or.inr ⟨c,List.mem_cons_of_mem _ a,b⟩
   ·rintro (h|⟨c,a,b⟩)
    ·exact Or.inl h
    ·rcases List.mem_cons.1 a with a|a
     ·subst a;exact absurd b.1 hp
     ·exact Or.inr ⟨c,a,b⟩
theorem zcO (es:List Edg) (i l:Int) (k:Nat):(succ es i l).testBit k=true↔∃ e∈es,(e.fr=i∧e.le=l)∧e.ta.toNat=k:=by
 have:=foldl_bit es (fun e=>e.fr=i∧e.le=l) 0 k;simpa [succ] using this
def Few (n:Nat) (es:List Edg):Prop:=∀ e∈es,(0<=e.fr∧e.fr<n)∧(0<=e.le∧e.le<6)∧(0<=e.ta∧e.ta<n)
theorem succ_lt (h:Few n es) (i l:Int):succ es i l<2 ^ n:=by
 apply iH;intro k hk;rw [eM];intro hb;obtain⟨e,a,_,b⟩:=(zcO es i l k).1 hb;have:=h e a;omega
theorem succ_sm (h:Few n es)(hn:n<=16) (i l:Int):Sm (succ es i l):=
 dY (succ_lt h i l) (by rw [show (4294967296:Nat)=2 ^ 32 from rfl];exact Nat.pow_le_pow_right oM oM)
theorem zcd :k∈letters a n↔k<n∧a.testBit k=true:=by simp [letters]
def Good (s:Sys):Prop:=∃ a p:Nat,s.al=a∧a<64∧s.st=p∧1<=p∧p<=16∧Few p s.edges
def zbt (w:World) (R:Nat) (A:Option Addr) (n:Nat) (s:Sys):Prop:=
 n=s.edges.length∧n<=9223372036854775807∧(0<n->∃ (g o:Nat) (cs:Array Value),A=some ⟨g,o,none⟩∧R<g∧w.heap[g]?=some (.cells cs 117 (0,0))∧∀ j u,(zu s.edges)[j]?=some u->w.cell? ⟨g,o+j,none⟩=some u)
theorem zbt.at_ (h:zbt w R A n s):zO w (R+1) w.heap.size A n s:=by
 refine⟨h.1,by rw [zby,← h.1],h.2.1,fun h0=>?_⟩;obtain⟨g,o,d,e,a,c,b⟩:=h.2.2 h0;exact⟨⟨g,o,none⟩,e,a,(Array.getElem?_eq_some_iff.1 c).1,fun j u hu=>by rw [zX];exact b j u hu⟩
theorem zbt.frm {S:Nat->Prop}    (h:zbt w R A n s)(hb:Frm S w w')(hS:∀ k,S k->R<k->∀ cs,w.heap[k]?≠some (.cells cs 117 (0,0))):zbt w' R A n s:=by
 refine⟨h.1,h.2.1,fun h0=>?_⟩;obtain⟨g,o,cs,e,c,b,f⟩:=h.2.2 h0;have a:=(Array.getElem?_eq_some_iff.1 b).1;have d:¬ S g:=fun hs=>hS g hs c cs b;exact⟨g,o,cs,e,c,(hb.block g a d).trans b,fun j u hu=>(World.cell?_of_block (w:=w) (hb.block g a d)).trans (f j u hu)⟩
theorem zbt.ext (h:zbt w R A n s)(hb:Ext w w'):zbt w' R A n s:=h.frm (S:=fun _=>False) hb (fun _ hk=>hk.elim)
theorem zbt.dr (h:zbt w R A n s)(hb:Dr R w w'):zbt w' R A n s:=h.frm hb (fun k hk hR=>oM)
theorem zbt.far (h:zbt w R A n s)(hB:Blk w Z t cs)(ht:t≠117)(hb:Frm (fun k=>k=Z) w w'):zbt w' R A n s:=h.frm hb (fun k hk _ cs' hh=>by
 subst hk
 unfold Blk at hB
 rw [hB] at hh
 injection hh with hh
 injection hh with _ h2
 exact ht h2)
theorem zbt.own (h:w.ownsRow base 117 3 (.slice A n c) n (zu s.edges))(hR:R<base):zbt w R A n s:=by
 have i:n=s.edges.length:=by have:=h.1;rw [zby] at this;omega
 refine⟨i,(eE h).len,fun h0=>?_⟩;rcases h.2 with ⟨_,l⟩|⟨g,b,a,k,m,f,_⟩
 ·omega
 ·have d:A=some ⟨g,0,none⟩:=by injection k
  subst d;exact⟨g,0,a,rfl,oM,f,fun j u hu=>by
   have:=h.cells (g:=g) rfl j u hu;rwa [zX] at this⟩
theorem ziG (h:w.ownsRow base e size (.slice A n c) n xs):n<=c:=by
 rcases h.2 with ⟨a,i⟩|⟨g,b,d,a,_,_,f,_⟩
 ·omega
 ·injection a with _ _ h3
  omega
def RetG (R M L:Nat) (w:World) (e:Ending) (w':World):Prop:=
 ∃ (s:Sys) (A:Option Addr) (n c:Nat),e=.returned (.agg #[s.al,s.st,.slice A n c])∧zbt w' R A n s∧Good s∧(n<=L∧n<=c)∧Rd w' R M∧Dr R w w'
def RetA (R M L:Nat) (w:World) (e:Ending) (w':World):Prop:=
 ∃ (s:Sys) (A:Option Addr) (n c:Nat),e=.returned (.agg #[s.al,s.st,.slice A n c])∧zbt w' R A n s∧(n<=L∧n<=c)∧Rd w' R M∧Dr R w w'
structure Acc (w0 wB W:World) (R G M:Nat) (al st:Int) (v:Value) (es:List Edg):Prop where
 blk:Blk W G 38 #[al,st,v]
 own:W.ownsRow wB.heap.size 117 3 v es.length (zu es)
 rd:Rd W R M
 dr:Dr R w0 W
 fr:Frm (fun k=>k=R∨k=G) wB W
 hR:R<w0.heap.size
 hB:w0.heap.size<=wB.heap.size
 hG:w0.heap.size<=G
section
variable {w0 wB W W':World} {R G M N:Nat} {al st:Int} {v:Value} {es:List Edg}
theorem Acc.more (h:Acc w0 wB W R G M al st v es)(hM:M<=N):Acc w0 wB W R G N al st v es:={ h with rd:=h.rd.more hM }
theorem Acc.ext (h:Acc w0 wB W R G M al st v es)(hb:Ext W W'):Acc w0 wB W' R G M al st v es:=⟨h.blk.ext hb,zh h.own hb,h.rd.ext hb,h.dr.ext hb,h.fr.ext hb,h.hR,h.hB,h.hG⟩
theorem Acc.drawn (h:Acc w0 wB W R G M al st v es)(hb:Dr R W W')(hr:Rd W' R N):Acc w0 wB W' R G N al st v es:=
 ⟨h.blk.dr hb (by have:=h.hR;have:=h.hG;omega),zf h.own hb (fun b hv hS=>by have:=(h.own.lt b hv).1;have:=h.hR;have:=h.hB;omega),hr,h.dr.trans hb,h.fr.trans (hb.mono fun k _ hk=>Or.inl hk),h.hR,h.hB,h.hG⟩
theorem Acc.far (h:Acc w0 wB W R G M al st v es) (hv:v.ownBlock=some b):b≠G:=by
 rintro rfl;have a:=h.blk;rcases h.own.2 with ⟨rfl,_⟩|⟨g,c,d,rfl,_,i,_⟩
 ·simp [Value.ownBlock] at hv
 ·have f:g=b:=by simpa [Value.ownBlock] using hv
  subst f;unfold Blk at a;rw [i] at a;injection a with a
  injection a with _ ht
  exact absurd ht dM
theorem Acc.setAl (h:Acc w0 wB W R G M al st v es) (x:Int):Acc w0 wB (W.setCell G x) R G M x st v es:=
 ⟨by simpa using h.blk.ae 0 _,zf h.own (dH W G 0 _) (fun b hv hS=>h.far hv hS),h.rd.frm (dH W G 0 _) (fun k hk hS=>by have:=h.hR;have:=h.hG;omega),h.dr.ag h.hG _,h.fr.cell (Or.inr rfl) _,h.hR,h.hB,h.hG⟩
theorem Acc.setSt (h:Acc w0 wB W R G M al st v es) (x:Int):Acc w0 wB (W.setCell ⟨G,1,none⟩ x) R G M al x v es:=
 ⟨by simpa using h.blk.ae 1 _,zf h.own (dH W G 1 _) (fun b hv hS=>h.far hv hS),h.rd.frm (dH W G 1 _) (fun k hk hS=>by have:=h.hR;have:=h.hG;omega),h.dr.ag h.hG _,h.fr.cell (Or.inr rfl) _,h.hR,h.hB,h.hG⟩
theorem Acc.push {e:Edg}(h:Acc w0 wB W R G M al st v es) (zje:W'.ownsRow wB.heap.size 117 3 (.slice (some g) (es.length+1) cap) (es.length+1) (zu es++[.int .i64 e.fr,.int .i64 e.le,.int .i64 e.ta]))
  (hg:W.grownBy W' v.ownBlock) (hat:v.ownBlock=some g∨g=W.heap.size+1) :
  Hid (W'.cell? ⟨G,2,none⟩=some v)∧W'.frozen? ⟨G,2,none⟩=false∧Acc w0 wB (W'.setCell ⟨G,2,none⟩ (.slice (some g) (es.length+1) cap)) R G M al st (.slice (some g) (es.length+1) cap) (es++[e]):=by
 have a:Blk W' G 38 #[.int .i64 al,.int .i64 st,v]:=(hg.block G h.blk.lt (fun e=>h.far e.symm rfl)).trans h.blk;have i:g≠G:=by
  rcases hat with c|c
  ·exact h.far c
  ·have:=h.blk.lt;omega
 have d:Dr R w0 W':=h.dr.grown hg (fun k hk=>dL h.hB (h.own.lt k hk).1);have j:Rd W' R M:=h.rd.frm (eZ hg) (fun k hk hS=>by have:=(h.own.lt k hS).1;have:=h.hR;have:=h.hB;omega);have f:Frm (fun k=>k=R∨k=G) wB W':=
  ⟨hg.os.trans h.fr.os,hg.tape.trans h.fr.tape,hg.output.trans h.fr.output,dL h.fr.size hg.size,
   fun k hk hn=>(hg.block k (dY hk h.fr.size) (fun e=>by have:=(h.own.lt k e.symm).1;omega)).trans (h.fr.block k hk hn)⟩
 refine⟨a.cell 2,a.frozen 2,⟨by simpa using a.ae 2 _,?_,j.frm (dH W' G 2 _) (fun k hk hS=>by have:=h.hR;have:=h.hG;omega),d.ag h.hG _,f.cell (Or.inr rfl) _,h.hR,h.hB,h.hG⟩⟩;have:=zf zje (dH W' G 2 (.slice (some g) (es.length+1) cap)) (fun b hv hS=>by
  have:g=b:=by simpa [Value.ownBlock] using hv
  omega)
 rw [zbx];simpa [zu] using this
theorem Acc.reads (h:Acc w0 wB W R G M al st (.slice A n c) es):n=es.length∧zO W wB.heap.size W.heap.size A n ⟨al,st,es⟩:=by
 have a:n=es.length:=by
  rcases h.own.2 with ⟨b,j⟩|⟨g,f,i,b,_⟩
  ·injection b with _ h2 _;omega
  ·injection b
 have d:=h.own;rw [← a] at d;exact⟨a,a,eE d⟩
theorem Acc.form (h:Acc w0 wB W R G M al st v es):∃ A n c,v=.slice A n c:=by
 obtain⟨A,c,e⟩:=zg h.own;exact⟨A,_,c,e⟩
theorem Acc.old (h:Acc w0 wB W R G M al st v es)   (hx:Reads wB lo hi size A n xs)(h1:∀ k,lo<=k->k<hi->k≠R∧k≠G):Reads W lo hi size A n xs:=
 hx.frm h.fr (fun k a b hS=>by have:=h1 k a b;omega)
end
theorem zdW (W:World) (Z:Nat) (u0 u1 u2:Value):Frm (fun k=>k=Z) W (((W.setCell Z u0).setCell ⟨Z,1,none⟩ u1).setCell ⟨Z,2,none⟩ u2):=
 ((dH W Z 0 u0).trans (dH _ Z 1 u1)).trans (dH _ Z 2 u2)
theorem Acc.fin (h:Acc w0 wB W R G M al st (.slice A n c) es)(hZ:w0.heap.size<=Z)(hZ2:Z<wB.heap.size) (u0 u1 u2:Value) :
  zbt (((W.setCell Z u0).setCell ⟨Z,1,none⟩ u1).setCell ⟨Z,2,none⟩ u2) R A n ⟨al,st,es⟩ ∧
  Rd (((W.setCell Z u0).setCell ⟨Z,1,none⟩ u1).setCell ⟨Z,2,none⟩ u2) R M∧Dr R w0 (((W.setCell Z u0).setCell ⟨Z,1,none⟩ u1).setCell ⟨Z,2,none⟩ u2):=by
 have a:=zdW W Z u0 u1 u2;obtain⟨f,_⟩:=h.reads;have i:=h.hR;have g:=h.hB;have d:=h.own;rw [← f] at d;refine⟨zbt.own (s:=⟨al,st,es⟩) (zf d a (fun b hv hS=>by have:=(h.own.lt b hv).1;omega)) oM,h.rd.frm a (fun k h1 h2=>oM),?_⟩;exact ((h.dr.ag (p:=⟨Z,0,none⟩) hZ u0).ag (p:=⟨Z,1,none⟩) hZ u1).ag (p:=⟨Z,2,none⟩) hZ u2
theorem zE.snoc2 {N:Nat}   {row:Value} (h:zE w base rows ls)(hlow:∀ (i:Nat) (r:Value) (b:Nat),rows[i]?=some r->r.ownBlock=some b->b<N)(hN:base<=N)(hrow:w.ownsRow N 3 1 row l.length (ints l)) :
  zE w base (rows++[row]) (ls++[l]):=by
 have c:=h.1;refine⟨by simp [c],fun i r m hr hm=>?_,fun i j ri rj b hri hrj hij hbi=>?_⟩
 ·rcases Nat.lt_trichotomy i rows.length with a|a|a
  ·rw [dJ a] at hr;rw [dJ oM] at hm;exact h.2.1 i r m hr hm
  ·rw [dP oM,a,Nat.sub_self] at hr;rw [dP oM,a,c,Nat.sub_self] at hm;simp at hr hm;subst hr;subst hm;exact zn hrow hN
  ·rw [List.getElem?_eq_none (by simp;omega)] at hr;cases hr
 ·have f:∀ b,row.ownBlock=some b->N<=b:=fun b hb=>(hrow.lt b hb).1;have a:i<=rows.length:=by have:=(List.getElem?_eq_some_iff.1 hri).1;simp at this;omega
  have d:j<=rows.length:=by have:=(List.getElem?_eq_some_iff.1 hrj).1;simp at this;omega
  rcases eF a with a|a<;>rcases eF d with d|d
  ·rw [dJ a] at hri;rw [dJ d] at hrj;exact h.2.2 i j ri rj b hri hrj hij hbi
  ·rw [dJ a] at hri;subst d;simp at hrj;subst hrj;intro hc;have g:=hlow i ri b hri hbi;have k:=f b hc;omega
  ·rw [dJ d] at hrj;subst a;simp at hri;subst hri;intro hc;have g:=hlow j rj b hrj hc;have k:=f b hbi;omega
  ·omega
def zgd (R M:Nat) (sh:Aut->Prop) (w:World) (e:Ending) (w':World):Prop:=
 ∃ (a:Aut) (A:Option Addr) (n c:Nat) (A':Option Addr) (n' c':Nat),e=.returned (.agg #[a.al,.slice A n c,.slice A' n' c'])∧zZ w' w.heap.size A n c A' n' c' a∧Hid (sh a)∧Rd w' R M∧Dr R w w'
structure zbA (w0 W:World) (R G M:Nat) (al:Int) (v:Value) (rows:List Value) (ls:List (List Int)) (vA:Value) (acc:List Bool):Prop where
 blk:Blk W G 27 #[al,v,vA]
 nx:W.ownsRow w0.heap.size 110 1 v ls.length rows
 rows:zE W w0.heap.size rows ls
 acc:W.ownsRow w0.heap.size 4 1 vA acc.length (zaw acc)
 rd:Rd W R M
 dr:Dr R w0 W
 hR:R<w0.heap.size
 hG:w0.heap.size<=G
section
variable {w0 W W':World} {R G M N:Nat} {al:Int} {v vA:Value} {rows:List Value} {ls:List (List Int)} {acc:List Bool}
theorem zbA.drawn (h:zbA w0 W R G M al v rows ls vA acc)(hd:Dr R W W')(hr:Rd W' R N):zbA w0 W' R G N al v rows ls vA acc:=
 ⟨h.blk.dr hd (by have:=h.hR;have:=h.hG;omega),zbq h.nx hd (fun b h1 e=>oH h.hR),h.rows.keep hd (fun b h1 e=>oH h.hR),zbq h.acc hd (fun b h1 e=>oH h.hR),hr,h.dr.trans hd,h.hR,h.hG⟩
theorem zbA.ext (h:zbA w0 W R G M al v rows ls vA acc)(hx:Ext W W'):zbA w0 W' R G M al v rows ls vA acc:=h.drawn (Ext.dr hx) (h.rd.ext hx)
theorem zbA.more (h:zbA w0 W R G M al v rows ls vA acc)(hM:M<=N):zbA w0 W R G N al v rows ls vA acc:={ h with rd:=h.rd.more hM }
theorem zbA.low (h:zbA w0 W R G M al v rows ls vA acc):∀ (i:Nat) (r:Value) (b:Nat),rows[i]?=some r->r.ownBlock=some b->b<W.heap.size:=fun i r b hr hb=>by
 obtain⟨l,_,ho⟩:=h.rows.row hr
 exact (ho.lt b hb).2
theorem zbA.grown (h:zbA w0 W R G M al v rows ls vA acc)    (ho:W.ownsRow w0.heap.size e size v0 k xs)(hg:W.grownBy W' v0.ownBlock):Dr R w0 W'∧Rd W' R M:=by
 have a:=h.hR;refine⟨h.dr.grown hg (fun k hk=>(ho.lt k hk).1),h.rd.frm (eZ hg) (fun k hk hS=>by have:=(ho.lt k hS).1;omega)⟩
theorem zbA.aw {row:Value}  (h:zbA w0 W R G M al v rows ls vA acc)(hlow:∀ (i:Nat) (r:Value) (b:Nat),rows[i]?=some r->r.ownBlock=some b->b<K)(hK:w0.heap.size<=K)(hrow:W.ownsRow K 3 1 row l.length (ints l))
  (zje:W'.ownsRow w0.heap.size 110 1 (.slice (some g) (ls.length+1) cap) (ls.length+1) (rows++[row]))
  (hg:W.grownBy W' v.ownBlock) (hat:v.ownBlock=some g∨g=W.heap.size+1) :
  Hid (W'.cell? ⟨G,1,none⟩=some v)∧W'.frozen? ⟨G,1,none⟩=false∧zbA w0 (W'.setCell ⟨G,1,none⟩ (.slice (some g) (ls.length+1) cap)) R G M al (.slice (some g) (ls.length+1) cap) (rows++[row]) (ls++[l]) vA acc:=by
 have o:=h.hR;have d:=h.hG;have c:Blk W' G 27 #[.int .i64 al,v,vA]:=(hg.block G h.blk.lt (fun e=>zq h.nx h.blk dM e.symm rfl)).trans h.blk;have x:g≠G:=by
  rcases hat with u|u
  ·exact zq h.nx h.blk dM u
  ·have:=h.blk.lt;omega
 have f:Frm (fun k=>v.ownBlock=some k) W W':=eZ hg;obtain⟨q,t⟩:=h.grown h.nx hg;have j:=h.rows.snoc2 hlow hK hrow;have m:zE W' w0.heap.size (rows++[row]) (ls++[l]):=j.frm f (fun i r b hr hb hS=>by
  obtain⟨y,_,s⟩:=j.row hr;exact zaI s h.nx dM hb hS)
 have n:W'.ownsRow w0.heap.size 4 1 vA acc.length (zaw acc):=zf h.acc f (fun b hb hS=>zaI h.acc h.nx dM hb hS);have a:=dH W' G 1 (.slice (some g) (ls.length+1) cap);refine⟨c.cell 1,c.frozen 1,⟨by simpa using c.ae 1 _,?_,?_,?_,t.frm a (fun k hk e=>oM),q.ag (p:=⟨G,1,none⟩) d _,o,d⟩⟩
 ·rw [dN,dZ];exact zf zje a (fun b hv hS=>by
   have:g=b:=by simpa [Value.ownBlock] using hv
   omega)
 ·refine m.frm a (fun i r b hr hb hS=>?_);obtain⟨y,_,s⟩:=m.row hr;exact zq s c dM hb hS
 ·exact zf n a (fun b hb hS=>zq n c dM hb hS)
theorem zbA.aq {x:Bool} (h:zbA w0 W R G M al v rows ls vA acc)
  (zje:W'.ownsRow w0.heap.size 4 1 (.slice (some g) (acc.length+1) cap) (acc.length+1) (zaw acc++[.bool x]))
  (hg:W.grownBy W' vA.ownBlock) (hat:vA.ownBlock=some g∨g=W.heap.size+1) :
  Hid (W'.cell? ⟨G,2,none⟩=some vA)∧W'.frozen? ⟨G,2,none⟩=false∧zbA w0 (W'.setCell ⟨G,2,none⟩ (.slice (some g) (acc.length+1) cap)) R G M al v rows ls (.slice (some g) (acc.length+1) cap) (acc++[x]):=by
 have l:=h.hR;have d:=h.hG;have c:Blk W' G 27 #[.int .i64 al,v,vA]:=(hg.block G h.blk.lt (fun e=>zq h.acc h.blk dM e.symm rfl)).trans h.blk;have t:g≠G:=by
  rcases hat with q|q
  ·exact zq h.acc h.blk dM q
  ·have:=h.blk.lt;omega
 have f:Frm (fun k=>vA.ownBlock=some k) W W':=eZ hg;obtain⟨m,o⟩:=h.grown h.acc hg;have s:W'.ownsRow w0.heap.size 110 1 v ls.length rows:=zf h.nx f (fun b hb hS=>zaI h.nx h.acc dM hb hS);have j:zE W' w0.heap.size rows ls:=h.rows.frm f (fun i r b hr hb hS=>by
  obtain⟨u,_,n⟩:=h.rows.row hr;exact zaI n h.acc dM hb hS)
 have a:=dH W' G 2 (.slice (some g) (acc.length+1) cap);refine⟨c.cell 2,c.frozen 2,⟨by simpa using c.ae 2 _,zf s a (fun b hb hS=>zq s c dM hb hS),j.frm a (fun i r b hr hb hS=>?_),?_,o.frm a (fun k hk e=>oM),m.ag (p:=⟨G,2,none⟩) d _,l,d⟩⟩
 ·obtain⟨u,_,n⟩:=j.row hr;exact zq n c dM hb hS
 ·rw [dN,dZ,show zaw (acc++[x])=zaw acc++[.bool x] by simp [zaw]];exact zf zje a (fun b hv hS=>by
   have:g=b:=by simpa [Value.ownBlock] using hv
   omega)
theorem zbA.side (h:zbA w0 W R G M al v rows ls vA acc)(hlow:∀ (i:Nat) (r:Value) (b:Nat),rows[i]?=some r->r.ownBlock=some b->b<K)(hK:w0.heap.size<=K)(ho:W.ownsRow K 3 1 v0 k xs)(hg:W.grownBy W' v0.ownBlock):zbA w0 W' R G M al v rows ls vA acc:=by
 have d:=zn ho hK;obtain⟨c,f⟩:=h.grown d hg;have a:Frm (fun k=>v0.ownBlock=some k) W W':=eZ hg;exact⟨h.blk.frm a (fun e=>zq ho h.blk dM e rfl),zf h.nx a (fun b hb hS=>zaI ho h.nx dM hS hb),h.rows.frm a (fun i r b hr hb hS=>by have:=hlow i r b hr hb;have:=(ho.lt b hS).1;omega),
  zf h.acc a (fun b hb hS=>zaI ho h.acc dM hS hb),f,c,h.hR,h.hG⟩
theorem zbA.fin {sh:Aut->Prop}(h:zbA w0 W R G M al (.slice A n c) rows ls (.slice A' n' c') acc)(hx:Ext w w0) (bz:Blk w0 Z t cs)(hc:cs.size=3)(hRw:R<w.heap.size)(hZ:w.heap.size<=Z)(hZ':Z<w0.heap.size)(hM:M<=N)(hsh:sh ⟨al,ls,acc⟩) :
  Hid (zgd R N sh w (.returned (.agg #[al,.slice A n c,.slice A' n' c'])) (((W.setCell Z al).setCell ⟨Z,1,none⟩ (.slice A n c)).setCell ⟨Z,2,none⟩ (.slice A' n' c'))) ∧
  Blk (((W.setCell Z al).setCell ⟨Z,1,none⟩ (.slice A n c)).setCell ⟨Z,2,none⟩ (.slice A' n' c')) Z t #[.int .i64 al,.slice A n c,.slice A' n' c']:=by
 have j:=bz.dr h.dr oM;have f:=zV W Z (.int .i64 al) (.slice A n c) (.slice A' n' c');have l:n=ls.length:=by
  rcases h.nx.2 with ⟨a,i⟩|⟨_,_,_,a,_⟩
  ·simp at a;omega
  ·simp at a;exact a.2.1
 have d:n'=acc.length:=by
  rcases h.acc.2 with ⟨a,i⟩|⟨_,_,_,a,_⟩
  ·simp at a;omega
  ·simp at a;exact a.2.1
 refine⟨za ⟨⟨al,ls,acc⟩,A,n,c,A',n',c',rfl,⟨⟨rows,?_,?_⟩,l,?_,d⟩,za hsh,?_,?_⟩,zaq j hc _ _ _⟩
 ·exact zn (zbq h.nx f (fun b a e=>oM)) hx.size
 ·exact (h.rows.keep f (fun b a e=>oM)).less hx.size
 ·have g:=zn (zbq h.acc f (fun b a e=>oM)) hx.size;rw [← d] at g;exact g
 ·exact (h.rd.more hM).frm f (fun k hk e=>oM)
 ·exact (((hx.dr.trans h.dr).ag (p:=⟨Z,0,none⟩) hZ _).ag (p:=⟨Z,1,none⟩) hZ _).ag (p:=⟨Z,2,none⟩) hZ _
end
theorem Reads.nat {l:List Nat}(h:Reads w lo hi 1 A n (zae l))(hk:k<n):∃ ad x,A=some ad∧lo<=ad.block∧ad.block<hi∧Hid (l[k]?=some x)∧w.cell? (ad.add k)=some (.int .i64 (x:Nat)):=by
 have e:zae l=ints (l.map fun n:Nat=>(n:Int)):=by simp [zae,ints]
 rw [e] at h;obtain⟨ad,x,b,f,d,g,c⟩:=h.int hk;have a:=g.out;rw [dS] at a;cases hq:l[k]? with
 |none=>rw [hq] at a;simp at a
 |some q =>
  rw [hq] at a;simp at a;exact⟨ad,q,b,f,d,rfl,by rw [c,a]⟩
def MovAt (w:World) (b:Nat) (es:List Edg):Prop:=∀ i l:Nat,i<16->l<6->w.cell? ⟨b,i*6+l,none⟩=some (.int .i64 (succ es i l:Nat))
theorem zgr {e:Edg}(h:Few p es)(he:(0<=e.fr∧e.fr<p)∧(0<=e.le∧e.le<6)∧(0<=e.ta∧e.ta<p)):Few p (es++[e]):=fun x hx=>by
 rcases List.mem_append.1 hx with h1|h1
 ·exact h x h1
 ·rw [List.mem_singleton.1 h1];exact he
theorem few_nil (p:Nat):Few p []:=fun x hx=>by cases hx
theorem zdy {few:Int} (h:Rd w R M)(hM:M<=900000000)(ha:a<64)(hp1:1<=p)(hp:p<=16) :
  Calls Tryz.prog 207 #[.pointer (some R),a,p,few] w (RetG R (M+20000) 20000 w):=by
 have U:Sm a:=tM;have L:=h.lt
 go_enter Tryz.func207,Tryz.ntmps207
 go_wp2_with fail
 refine (zY a U _).mono ?_;rintro e t ⟨B,d,rfl,G,z⟩;obtain⟨Y,V⟩:=zM z;have r:=(((dB w).alloc _).alloc _).trans z;have ar:=zy a 6;have F:=za (fun k (hk:k∈letters a 6)=>(zcd.1 hk).1);have s:=(eE G).more (lo':=w.heap.size+2) (hi':=t.heap.size) sM (dE _);have b:Acc w t t R (w.heap.size+1) M a p (.slice none 0 0) []:=⟨V,World.ownsRow_nil _ _ _ _,h.ext r,r.dr,Frm.refl _ _,L,r.size,oM⟩;have u:Blk t w.heap.size 38 #[.int .i64 0,.int .i64 0,.slice none 0 0]:=Y;clear G V z Y;generalize letters a 6=C at *;have av:=r.size;go_wp2_with fail
 go_loopw [11] (fun i wr=>∃ k:Nat,k<=p∧i=.int .i64 k∧∃ (v:Value) (m:List Edg),Acc w t wr R (w.heap.size+1) (M+k*1000) a p v m∧m.length<=k*1000∧Hid (Few p m)) (fun i _=>p - (intOf i).toNat)
 case atStart=>exact⟨0,dG _,rfl,_,[],b.more (jE _ _),dG _,few_nil p⟩
 case round =>
  clear b;obtain⟨k,hk,rfl,v,m,b,q,f⟩:=hrel
  by_cases hlt:k<p
  ·go_wp2_with fail
   go_loopw [12] (fun i wr=>∃ j:Nat,j<=C.length∧i=.int .i64 j∧∃ (v:Value) (m:List Edg),Acc w t wr R (w.heap.size+1) (M+k*1000+j*100) a p v m∧m.length<=k*1000+j*100∧Hid (Few p m)) (fun i _=>C.length - (intOf i).toNat)
   case atStart=>exact⟨0,dG _,rfl,v,m,b.more (jE _ _),dL q (jE _ _),f⟩
   case round =>
    clear b q f;obtain⟨j,hj,rfl,v,m,b,q,f⟩:=hrel
    by_cases hlj:j<C.length
    ·go_wp2_with fail
     go_loopw [13] (fun i wr=>∃ x:Nat,x<=p∧i=.int .i64 x∧∃ (v:Value) (m:List Edg),Acc w t wr R (w.heap.size+1) (M+k*1000+j*100+x) a p v m∧m.length<=k*1000+j*100+x∧Hid (Few p m)) (fun i _=>p - (intOf i).toNat)
     case atStart=>exact⟨0,dG _,rfl,v,m,b.more (jE _ _),dL q (jE _ _),f⟩
     case round =>
      clear b q f;obtain⟨x,hx,rfl,v,m,b,q,f⟩:=hrel
      by_cases hlx:x<p
      ·go_wp2_with fail
       refine (zx b.rd oM).mono ?_;rintro e H ⟨y,rfl,_,_,T,Q⟩;have o:=b.drawn Q T;obtain⟨ad,l,rfl,_,O,hl,S⟩:=(o.old s oM).nat hlj;have ah:=F.out l (dC hl.out)
       by_cases hy:y=0
       ·subst hy;have cG:=fun W (hW:Ext H W)=>(o.blk.ext hW).cell;have cL:∀ W,Ext H W->W.cell? (ad.add j)=some (.int .i64 (l:Nat)):=fun W hW=>hW.aa S;have ao:(0:Int)<=(j:Int):=oM;have ap:(j:Int)<(C.length:Int):=oM;go_wp2_with fail
        refine tR (fun X=>Ext H X) [10,12] (Ord.of [0,1,2,3,4,5,6,7,8,9,10,11,12]) ?_;refine tQ ?_;refine zB fun K hK=>?_;go_simp;refine hK.out _ _ ((dB _).drew.alloc _) ?_;refine pT ?_;refine zN fun K hK=>?_;refine zaE t H.drew _ _ _ rfl 117 _ 3 24 Tryz.underlying36 zbb rfl dM v m.length (zu m) _ _ rfl rfl o.fr.size o.own rfl (by simp [Value.oneCell']) lM oM ?_;intro g cap w3 zjp hg3 hat3 hlt3;refine hK.out _ _ ?_;refine pT ?_;refine tQ ?_;obtain⟨h1,h2,h3⟩:=(o.ext ((dB _).drew)).push (e:=⟨k,l,x⟩) (W':=w3) zjp hg3 hat3;have am:=h1.out;refine zN fun K hK=>?_;go_simp;refine hK.out _ _ ?_;refine zal ?_;go_wp2_with fail
        go_roundw
        case rel=>exact⟨x+1,oM,gM,_,_,h3.more oM,by simp;omega,zgr f.out (by simp;omega)⟩
        case measure=>simp [intOf];omega
       ·have au:((y:Int)==0)=false:=by simp;omega
        go_wp2_with fail
        go_roundw
        case rel=>exact⟨x+1,oM,gM,v,m,o.more oM,oM,f⟩
        case measure=>simp [intOf];omega
      ·obtain rfl:p=x:=oM;have I:m.length<=k*1000+(j+1)*100:=oM;have J:M+k*1000+j*100+p<=M+k*1000+(j+1)*100:=oM;go_wp2_with fail
       go_roundw
       case rel=>exact⟨j+1,oM,gM,v,m,b.more J,I,f⟩
       case measure=>simp [intOf];omega
    ·obtain rfl:j=C.length:=oM;have I:m.length<=(k+1)*1000:=oM;have J:M+k*1000+C.length*100<=M+(k+1)*1000:=oM;go_wp2_with fail
     go_roundw
     case rel=>exact⟨k+1,oM,gM,v,m,b.more J,I,f⟩
     case measure=>simp [intOf];omega
  ·obtain rfl:p=k:=oM;obtain⟨A,n,c,rfl⟩:=b.form;obtain⟨rfl,_⟩:=b.reads;have af:=ziG b.own;have cG:=b.blk.cell;have E:=u.frm b.fr oM;have cz:=E.cell;have aw:=u.lt;have fz:=E.frozen;obtain⟨f1,f2,f3⟩:=b.fin (Z:=w.heap.size) (dE _) oM (.int .i64 a) (.int .i64 p) (.slice A m.length c);have D:=za (show RetG R (M+20000) 20000 w (.returned (.agg #[a,p,.slice A m.length c])) _ from ⟨⟨a,p,m⟩,A,m.length,c,rfl,f1,⟨a,p,rfl,ha,rfl,hp1,hp,f.out⟩,oM,f2.more oM,f3⟩);clear u s F f1 f2 f3;go_wp2_with fail
   exact bodyPost_ret (v:=.agg #[a,p,.slice A m.length c]) (by simp [results,Tryz.results207,go_sem,cz]) rfl D.out
def shA (al p k:Nat) (a:Aut):Prop:=a.al=al∧a.next.length=p∧a.acc.length=p∧∀ l∈a.next,l.length=k
theorem zfx (h:Rd w R M)(hM:M<=900000000)(ha:a<64)(hp:p<=16) :
  Calls Tryz.prog 164 #[.pointer (some R),a,p] w (zgd R (M+400) (shA a p (letters a 6).length) w):=by
 have aw:Sm a:=tM;have ao:=h.lt
 go_enter Tryz.func164,Tryz.ntmps164
 have ad:=(dB w).alloc (.cells #[(0:Int),(),()] 27);have bz:=dX w 27 #[(0:Int),(),()];have S:=(dB (w.alloc (.cells #[(0:Int),(),()] 27))).alloc (.cells #[a,(),()] 27);have bG:=dX (w.alloc (.cells #[(0:Int),(),()] 27)) 27 #[a,(),()];have ay:=bz.lt;have ax:(w.alloc (.cells #[(0:Int),(),()] 27)).heap.size=w.heap.size+1:=sM;rw [ax] at bG;go_upto_region 2 with fail
 generalize (w.alloc _).alloc _=w2 at *;generalize w.alloc _=T at *;go_wp2_with fail
 refine (zY a aw _).mono ?_;rintro e w3 ⟨B,d,rfl,-,G⟩;have c:zbA T w3 R (w.heap.size+1) M a (.slice none 0 0) [] [] (.slice none 0 0) []:=⟨bG.ext G,World.ownsRow_nil _ _ _ _,zE.nil _ _,World.ownsRow_nil _ _ _ _,h.ext ((ad.trans S).trans G),(S.trans G).dr,oM,oM⟩;have aN:=zy a 6;clear bG G S;generalize (letters a 6).length=k at *;go_wp2_with fail
 go_loopw [9] (fun iv wr=>∃ (i:Nat) (v:Value) (g:List Value) (H:List (List Int)) (vA:Value) (r:List Bool),i<=p∧iv=.int .i64 (i:Nat)∧zbA T wr R (w.heap.size+1) (M+i*20) a v g H vA r∧H.length=i∧r.length=i∧Hid (∀ l∈H,l.length=k)) (fun iv _=>p - (intOf iv).toNat)
 case atStart=>exact⟨0,_,[],[],_,[],dG _,rfl,c,rfl,rfl,za (fun l hl=>by simp at hl)⟩
 case round =>
  clear c;obtain⟨i,v,g,H,vA,r,hi,rfl,c,u,F,V⟩:=hrel
  by_cases hip:i<p
  ·have C:=za c.low;have hK:=za (show T.heap.size<=wr.heap.size from c.dr.size);have h0:=World.ownsRow_made (base:=wr.heap.size) (e:=3) (size:=1) wr #[] 0 (dE _) (dG _) rfl;have Q:=(dB wr).alloc (.cells #[] 3);have m:=c.ext Q;go_upto_region 7 with fail
   clear c;obtain⟨I,ab⟩:∃ I,I=wr:=⟨_,rfl⟩;rw [← ab] at h0 C hK m Q ⊢;clear ab;generalize I.alloc _=w4 at *;go_wp2_with fail
   go_loopw [10,11] (fun rv jv wr=>∃ (j:Nat) (l:List Int),j<=k∧jv=.int .i64 (j:Nat)∧zbA T wr R (w.heap.size+1) (M+i*20+j) a v g H vA r∧l.length=j∧wr.ownsRow I.heap.size 3 1 rv j (ints l)∧Hid (I.heap.size<=wr.heap.size)) (fun _ jv _=>k - (intOf jv).toNat)
   case atStart=>exact⟨0,[],dG _,rfl,m,rfl,h0,za Q.size⟩
   case round =>
    clear m h0;obtain⟨j,l,hj,rfl,c,t,f,av⟩:=hrel
    by_cases hjk:j<k
    ·obtain⟨AR,cR,rfl⟩:=zg f;go_wp2_with fail
     refine (zx c.rd oM).mono ?_;rintro e w5 ⟨y,rfl,-,-,aq,L⟩;have J:=c.drawn L aq;have E:=zbq f L (fun b h1 e=>by have:=c.dr.size;have:=c.hR;have:=hK.out;omega);have aa:I.heap.size<=w5.heap.size:=dL av.out L.size;have O:=za t;clear t c f;go_wp2_with (at_builtin;refine zQ I w5 rfl _ _ _ rfl 3 _ 1 8 Tryz.underlying110 zS rfl dM (.slice AR j cR) j (ints l) _ _ rfl rfl aa E rfl (by simp [Value.oneCell']) lM oM ?_;intro g5 cap5 w6 hown6 hg6 hat6 hlt6)
     go_roundw
     case rel=>exact⟨j+1,l++[(y:Int)],oM,gM,(J.side C.out hK.out E hg6).more oM,by simp [O.out],by simpa [ints] using hown6,za (dL aa hg6.size)⟩
     case measure=>simp [intOf];omega
    ·obtain rfl:j=k:=oM;obtain⟨AR,cR,rfl⟩:=zg f;have cG:=c.blk.cell;have au:=c.dr.size;have D:wr.ownsRow I.heap.size 3 1 (.slice AR j cR) l.length (ints l):=by rw [t];exact f
     go_upto_region 12 with (at_builtin;refine zQ T wr rfl _ _ _ rfl 110 _ 1 24 Tryz.underlying24 zbw rfl dM v H.length g _ _ rfl rfl au c.nx rfl (zaF _ _ _) lM oM ?_;intro g5 cap5 w6 hown6 hg6 hat6 hlt6;obtain⟨q1,q2,q3⟩:=c.aw C.out hK.out D hown6 hg6 hat6;have az:=q1.out)
     rw [u] at q3;clear q1 az q2 hown6 hg6 hat6 hlt6 f D cG c;have Y:=za (show ∀ l'∈H++[l],l'.length=j from fun l' O=>by
      rcases List.mem_append.1 O with h1|h1
      ·exact V.out l' h1
      ·rw [List.mem_singleton.1 h1];exact t)
     have Z:(H++[l]).length=i+1:=by simp [u]
     clear t u;generalize H++[l]=aO at *;generalize g++[.slice AR j cR]=aA at *;generalize w6.setCell ⟨w.heap.size+1,1,none⟩ (.slice (some g5) (i+1) cap5)=w7 at *;generalize Value.slice (some g5) (i+1) cap5=v7 at *;have cG:∀ W,Dr R w7 W->∀ q,W.cell? ⟨w.heap.size+1,q,none⟩=#[Value.int .i64 a,v7,vA][q]?:=fun W hW=>(q3.blk.dr hW oM).cell;refine tR (fun X=>Dr R w7 X) [6,8] (Ord.of [0,1,2,3,4,5,6,7,8]) ?_;refine tQ ?_;refine zB fun K hK=>?_;go_simp;refine (zx (n:=3) (q3.rd.ext ((dB _).drew)) oM).mono ?_;rintro e w8 ⟨z,rfl,-,-,ar,ap⟩;have s:Dr R w7 w8:=((Dr.refl R w7).drew).trans ap;have o:=q3.drawn s ar;refine hK.out _ _ s ?_;refine pT ?_;refine tQ ?_;refine zB fun K hK=>?_;go_simp;refine hK.out _ _ (s.alloc _) ?_;refine pT ?_;refine zN fun K hK=>?_
     trace_state
     refine zaE T w8 _ _ _ rfl 4 _ 1 1 Tryz.underlying25 zaT rfl dM vA r.length (zaw r) _ _ rfl rfl o.dr.size o.acc rfl (by simp [Value.oneCell']) lM oM ?_;intro g9 cap9 w9 hown9 hg9 hat9 hlt9;refine hK.out _ _ ?_;refine pT ?_;refine tQ ?_;obtain⟨p1,p2,p3⟩:=o.aq (x:=decide (0<z)) (W':=w9) hown9 hg9 hat9;have aQ:=p1.out;rw [F] at p3;refine zN fun K hK=>?_;go_simp;refine hK.out _ _ ?_;refine zal ?_;go_wp2_with fail
     go_roundw
     case rel=>exact⟨i+1,_,_,_,_,_,oM,gM,p3.more oM,Z,by simp [F],Y⟩
     case measure=>simp [intOf];omega
  ·obtain rfl:i=p:=oM;obtain⟨A5,c5,rfl⟩:=zg c.nx;obtain⟨B5,d5,rfl⟩:=zg c.acc;obtain⟨f1,f2⟩:=c.fin (N:=M+400) (sh:=shA a i k) ad bz rfl ao (dE _) ay oM ⟨rfl,u,F,V.out⟩;rw [u,F] at f1 f2;have cG:=c.blk.cell;have U:=bz.dr c.dr oM;have cZ:=U.cell;have fZ:=U.frozen;go_wp2_with fail
   have cf:=f2.cell;exact bodyPost_ret (v:=.agg #[a,.slice A5 i c5,.slice B5 i d5]) (by simp [results,Tryz.results164,go_sem,cf]) rfl f1.out
theorem zag (h:w.ownsRow base e size (.slice A n c) n xs)(hn:0<n):∃ g,A=some ⟨g,0,none⟩∧base<=g∧g<w.heap.size:=by
 rcases h.2 with ⟨_,j⟩|⟨g,a,b,i,d,f,_⟩
 ·omega
 ·injection i with h1 h2 h3
  exact⟨g,h1,d,(Array.getElem?_eq_some_iff.1 f).1⟩
def blk (A:Option Addr) (b:Nat):Prop:=∃ a,A=some a∧a.block=b
theorem tot_cons (l:List Int) (r:List (List Int)):tot (l :: r)=l.length+tot r:=by simp [tot]
theorem zE.ae {j:Nat}     (h:zE w base rows ls)(hr:rows[j]?=some (.slice A l.length c))
  (hf:Frm (blk A) w w') (zje:w'.ownsRow base 3 1 (.slice A l.length c) l.length (ints l)):zE w' base rows (ls.set j l):=by
 have d:j<rows.length:=(List.getElem?_eq_some_iff.1 hr).1;refine⟨by simp [h.1],fun i row m hi hm=>?_,h.2.2⟩
 by_cases hij:i=j
 ·subst hij;rw [hr] at hi;obtain rfl:=Option.some.inj hi;rw [eX (by rw [← h.1];exact d)] at hm;obtain rfl:=Option.some.inj hm;exact zje
 ·rw [List.getElem?_set_ne (fun e=>hij e.symm)] at hm;refine zf (h.2.1 i row m hi hm) hf (fun b hb hS=>?_);obtain⟨a,rfl,rfl⟩:=hS;exact h.2.2 i j row _ a.block hi hr hij hb rfl
section
variable {w0 W W':World} {R G M N:Nat} {al:Int} {v vA:Value} {rows:List Value} {ls:List (List Int)} {acc:List Bool}
theorem zbA.of {a:Aut}(ho:zZ W w0.heap.size A n c A' n' c' a)(hr:Rd W R M)(hd:Dr R w0 W)(hR:R<w0.heap.size) :
  ∃ rows,zbA w0 (W.alloc (.cells #[a.al,.slice A n c,.slice A' n' c'] 27)) R W.heap.size M a.al (.slice A n c) rows a.next (.slice A' n' c') a.acc:=by
 obtain⟨⟨rows,d,f⟩,i,g,h⟩:=ho;have b:=(dB W).alloc (.cells #[a.al,.slice A n c,.slice A' n' c'] 27);refine⟨rows,dX W _ _,zh d b,f.keep b.aj (fun _ _=>id),?_,hr.ext b,hd.ext b,hR,hd.size⟩;rw [← h];exact zh g b
theorem zbA.setAcc {x:Bool}(h:zbA w0 W R G M al v rows ls (.slice (some g) n c) acc)(hn:n=acc.length) :
  zbA w0 (W.setCell ⟨g,i,none⟩ (.bool x)) R G M al v rows ls (.slice (some g) n c) (acc.set i x):=by
 subst hn;have d:=dH W g i (.bool x);have j:=(h.acc.lt g rfl).1;have f:=h.hR;have a:=(h.acc.stored i (.bool x)).1;rw [show (zaw acc).set i (.bool x)=zaw (acc.set i x) by simp [zaw,iR]] at a;refine⟨h.blk.frm d (fun e=>zq h.acc h.blk dM rfl e.symm),zf h.nx d (fun b hb hS=>?_),h.rows.frm d (fun i' r b hr hb hS=>?_),by simpa using a,h.rd.frm d (fun k hk e=>oM),h.dr.ag (p:=⟨g,i,none⟩) j _,f,h.hG⟩
 ·subst hS;exact zaI h.nx h.acc dM hb rfl
 ·subst hS;obtain⟨m,_,l⟩:=h.rows.row hr;exact zaI l h.acc dM hb rfl
theorem zbA.setRow {x:Int} (h:zbA w0 W R G M al v rows ls vA acc)(hr:rows[i]?=some (.slice (some g) n c))(hl:ls[i]?=some l)(hn:n=l.length) :
  zbA w0 (W.setCell ⟨g,k,none⟩ x) R G M al v rows (ls.set i (l.set k x)) vA acc:=by
 subst hn;have a:=dH W g k (.int .i64 x);have d:=h.rows.2.1 i _ l hr hl;have q:=(d.lt g rfl).1;have m:=h.hR;have f:=(d.stored k (.int .i64 x)).1;rw [show (ints l).set k (.int .i64 x)=ints (l.set k x) by simp [ints,iR]] at f;have o:Frm (Go.Proofs.YtckbjnndaaoddaaGreatDoor.blk (some ⟨g,0,none⟩)) W (W.setCell ⟨g,k,none⟩ x):=a.mono (fun b _ hb=>⟨_,rfl,hb.symm⟩);refine⟨h.blk.frm a (fun e=>zq d h.blk dM rfl e.symm),?_,?_,zf h.acc a (fun b hb hS=>?_),h.rd.frm a (fun k hk e=>oM),h.dr.ag (p:=⟨g,k,none⟩) q _,m,h.hG⟩
 ·rw [fB];exact zf h.nx a (fun b hb hS=>by subst hS;exact zaI h.nx d dM hb rfl)
 ·have:=h.rows.ae (w':=W.setCell ⟨g,k,none⟩ x) (j:=i) (l:=l.set k x) (A:=some ⟨g,0,none⟩) (c:=c) (by simpa using hr) o (by simpa using f);exact this
 ·subst hS;exact zaI h.acc d dM hb rfl
theorem zbA.row (h:zbA w0 W R G M al (.slice (some g) n c) rows ls vA acc)(hl:ls[i]?=some l)(hn:n=ls.length) :
  ∃ Ar cr,rows[i]?=some (.slice Ar l.length cr)∧W.cell? ⟨g,i,none⟩=some (.slice Ar l.length cr)∧W.ownsRow w0.heap.size 3 1 (.slice Ar l.length cr) l.length (ints l):=by
 subst hn;have f:i<ls.length:=(List.getElem?_eq_some_iff.1 hl).1;have b:i<rows.length:=by rw [h.rows.1];exact f
 have a:rows[i]?=some rows[i]:=dD b;have d:=h.rows.2.1 i _ l a hl;obtain⟨Ar,cr,e⟩:=zg d;rw [e] at a d;exact⟨Ar,cr,a,by rw [h.nx.cellAt i oM,a],d⟩
end
theorem zhf (h:Rd w R M)(hM:M<=900000000)(ha:a<64)(hp0:1<=p)(hp:p<=16) :
  Calls Tryz.prog 162 #[.pointer (some R),a,p] w (zgd R (M+400) (shA a p (letters a 6).length) w):=by
 have ae:=h.lt
 go_enter Tryz.func162,Tryz.ntmps162
 go_wp2_with fail
 generalize U0:w.alloc _=w1 at *;have O:=Ext.al_ U0;have Y:=Ext.bl_ U0;have af:=Y.lt;clear U0;refine (zfx (h.ext O) hM ha hp).mono ?_;rintro e w2 ⟨b,A,n,c,A',n',Z,rfl,y,L,J,D⟩;obtain⟨z,d⟩:=zbA.of y J D oM;obtain⟨s1,U,V,s4⟩:=L.out;have S:n=b.next.length:=y.2.1;have u:n'=b.acc.length:=y.2.2.2;obtain⟨ap,B,ao⟩:=b;dsimp only at *;subst s1;rw [U] at S;rw [V] at u;replace S:=S.symm;replace u:=u.symm;subst S;subst u;have hG:=D.size;clear y J D L;have S4:=za s4;clear s4;have aB:=zy a 6;generalize (letters a 6).length=k at *;obtain⟨gA,rfl,ay,-⟩:=zag (V ▸ d.acc) hp0;obtain⟨gN,rfl,az,-⟩:=zag (U ▸ d.nx) hp0;have S2:=za U;have S3:=za V;clear U V;go_upto_region 2 with fail
 generalize w2.alloc _=w3 at *;generalize w2.heap.size=G at *;go_wp2_with fail
 go_loopw [8] (fun iv wr=>∃ (i:Nat) (r:List Bool),i<=p∧iv=.int .i64 (i:Nat)∧zbA w1 wr R G (M+400) a (.slice (some gN) p c) z B (.slice (some gA) p Z) r∧Hid (r.length=p)) (fun iv _=>p - (intOf iv).toNat)
 case atStart=>exact⟨0,_,dG _,rfl,d,S3⟩
 case round =>
  clear d;obtain⟨i,r,hi,rfl,d,s⟩:=hrel
  by_cases hip:i<p
  ·have cG:=d.blk.cell;have T:=d.acc;rw [s.out] at T;obtain⟨o0,c0⟩:=zaM T i oM;have f0:=T.frozenAt i;have q:=d.setAcc (i:=i) (x:=decide ((i:Int)<(p:Int) - 1)) s.out.symm;clear T;go_wp2_with fail
   go_roundw
   case rel=>exact⟨i+1,_,oM,gM,q,za (by rw [fB];exact s.out)⟩
   case measure=>simp [intOf];omega
  ·clear hi;have I:p - 1<B.length:=oH S2.out;obtain⟨l0,f⟩:∃ l,B[p - 1]?=some l:=⟨_,dD I⟩;have m:=za (S4.out l0 (dC f));have X:=za f;have aC:((p:Int) - 1).toNat=p - 1:=oM;clear f I;go_wp2_with fail
   go_loopw [9] (fun iv wr=>∃ (j:Nat) (Q:List (List Int)) (l:List Int),j<=k∧iv=.int .i64 (j:Nat)∧zbA w1 wr R G (M+400) a (.slice (some gN) p c) z Q (.slice (some gA) p Z) r∧Hid (Q.length=p)∧Hid (∀ l∈Q,l.length=k)∧Hid (Q[p - 1]?=some l)) (fun iv _=>k - (intOf iv).toNat)
   case atStart=>exact⟨0,_,_,dG _,rfl,d,S2,S4,X⟩
   case round =>
    clear d m;obtain⟨j,Q,l,hj,rfl,d,t,E,f⟩:=hrel;have m:=E.out l (dC f.out);obtain⟨Ar,cr,F,C,o⟩:=d.row f.out t.out.symm;have cG:=d.blk.cell;rw [m] at F C o;have HR:=za F;clear F
    by_cases hjk:j<k
    ·obtain⟨g,rfl,-,-⟩:=zag o oM;obtain⟨o0,c0⟩:=zaM o j oM;have f0:=o.frozenAt j;have q:=d.setRow (k:=j) (x:=(p:Int) - 1) HR.out f.out m.symm;clear o;have HL:=za m;clear m;go_wp2_with fail
     go_roundw
     case rel =>
      refine⟨j+1,_,l.set j ((p:Int) - 1),oM,gM,q,za (by rw [fB];exact t.out),za (fun l' hl'=>?_),za ?_⟩
      ·rcases List.mem_or_eq_of_mem_set hl' with h1|h1
       ·exact E.out l' h1
       ·rw [h1,fB];exact HL.out
      ·have:=t.out;rw [eX oM]
     case measure=>simp [intOf];omega
    ·obtain⟨f1,f2⟩:=d.fin (N:=M+400) (sh:=shA a p k) O Y rfl ae (dE _) af oM ⟨rfl,t.out,s.out,E.out⟩;have H:=Y.dr d.dr oM;have cZ:=H.cell;have fZ:=H.frozen;clear o m;go_wp2_with fail
     have cf:=f2.cell;exact bodyPost_ret (v:=.agg #[a,.slice (some gN) p c,.slice (some gA) p Z]) (by simp [results,Tryz.results162,go_sem,cf]) rfl f1.out
def RetStr (L:Nat) (w:World) (e:Ending) (w':World):Prop:=∃ s:ByteArray,e=.returned (.string s)∧s.size<=L∧Ext w w'
theorem zis (w:World) (x:Int):(convert 22 9 (.slice (some w.heap.size) 1 1)).run Tryz.prog (w.alloc (.cells #[.int .u8 x] 5))=.ok (.string (strOfNums [x])) (w.alloc (.cells #[.int .u8 x] 5)):=
 run_convert_bytes_arg _ _ 5 Tryz.underlying22 Tryz.underlying5 w.heap.size 0 1 1 [x] rfl (fun i hi=>by
  obtain rfl:i=0:=oM
  rw [(dX w 5 #[.int .u8 x]).cell];rfl) _ Tryz.underlying9
theorem zeb (x:Int):(strOfNums [x]).size=1:=by simp [strOfNums];rfl
theorem zdv {l:Int} (h0:0<=l)(h1:l<6) :
  Calls Tryz.prog 138 #[l] w (RetStr 1 w):=by
 have a:=zis w
 go_enter Tryz.func138,Tryz.ntmps138
 go_wp2;go_ret;exact⟨_,rfl,Nat.le_of_eq (zeb _),(dB _).alloc _⟩
theorem zbF (ha:a<64) :
  Calls Tryz.prog 291 #[a] w (RetStr 6 w):=by
 have m:Sm a:=tM;have u:=za (show decide (0<=(a:Int)∧(a:Int)<=63)=true by simp;omega)
 by_cases h0:a=0
 ·subst h0;rw [show ((0:Nat):Int)=0 from rfl];have g:=za (show decide ((0:Int)<=0∧(0:Int)<=63)=true by decide)
  go_enter Tryz.func291,Tryz.ntmps291
  go_wp2_with (go_at_call 142;refine (zW _ _).mono ?_;rw [g.out];rintro e D ⟨rfl,rfl⟩)
  go_ret;exact⟨_,rfl,dM,dB _⟩
 ·have r:((a:Int)==0)=false:=by simp;omega
  go_enter Tryz.func291,Tryz.ntmps291
  go_wp2_with fail
  refine (zW _ _).mono ?_;rw [u.out];rintro e D ⟨rfl,rfl⟩;go_wp2_with fail
  refine (zY a m _).mono ?_;rintro e E ⟨B,d,rfl,c,n⟩;have y:=zy a 6;have h:=za (fun k (p:k∈letters a 6)=>(zcd.1 p).1);have j:=eE c;clear c;generalize letters a 6=f at *;go_wp2_with fail
  go_loopw [3,5] (fun v i wr=>∃ k:Nat,k<=f.length∧i=.int .i64 k∧∃ s:ByteArray,v=.string s∧s.size<=k∧Ext E wr) (fun _ i _=>f.length - (intOf i).toNat)
  case atStart=>exact⟨0,dG _,rfl,_,rfl,dE _,dB _⟩
  case round =>
   obtain⟨k,p,rfl,s,rfl,G,b⟩:=hrel
   by_cases hlt:k<f.length
   ·obtain⟨F,l,rfl,_,_,x,z⟩:=(j.ext b).nat hlt;have q:=h.out l (dC x.out);go_wp2_with fail
    refine (zdv (l:=(l:Int)) oM oM).mono ?_;rintro e I ⟨t,rfl,H,o⟩;have C:s.size+t.size<=7:=oM;go_wp2_with fail
    go_roundw
    case rel=>exact⟨k+1,oM,gM,_,rfl,by rw [ByteArray.size_append];omega,b.trans o⟩
    case measure=>simp [intOf];omega
   ·obtain rfl:k=f.length:=oM;go_wp2_with fail
    go_ret;exact⟨s,rfl,oM,n.trans b⟩
def RetAl (w:World) (e:Ending) (w':World):Prop:=∃ (a:Nat) (ok:Bool),e=.returned (.tuple #[a,.bool ok])∧a<64∧Ext w w'
theorem zcM :
  Calls Tryz.prog 251 #[x] w (RetAl w):=by
 go_enter Tryz.func251,Tryz.ntmps251
 go_wp2_with fail
 go_loopw [4] (fun i wr=>∃ k:Nat,k<=64∧i=.int .i64 k∧Ext w wr) (fun i _=>64 - (intOf i).toNat)
 case atStart=>exact⟨0,dG _,rfl,dB _⟩
 case round =>
  obtain⟨k,c,rfl,a⟩:=hrel
  by_cases hlt:k<64
  ·go_wp2_with fail
   refine (zbF hlt).mono ?_;rintro e f ⟨t,rfl,d,b⟩;cases hxt:t.toList==x.toList
   ·go_wp2_with fail
    go_roundw
    case rel=>exact⟨k+1,oM,gM,a.trans b⟩
    case measure=>simp [intOf];omega
   ·go_wp2_with fail
    go_ret2;exact⟨k,true,rfl,hlt,a.trans b⟩
  ·obtain rfl:k=64:=oM;go_wp2_with fail
   go_ret2;exact⟨0,false,rfl,oM,a⟩
theorem zdt (hn:n<100) :
  Calls Tryz.prog 292 #[n] w (RetStr 2 w):=by
 have j:(n:Int)<100:=oM
 go_enter Tryz.func292,Tryz.ntmps292
 go_wp2_with fail
 go_loopw [0,3] (fun n' v wr=>∃ (m:Nat) (s:ByteArray),n'=.int .i64 m∧v=.string s∧(m<100∧s.size=0∨m<10∧s.size<=1)∧Ext w wr) (fun n' _ _=>(intOf n').toNat)
 case atStart=>exact⟨n,_,rfl,rfl,Or.inl ⟨hn,rfl⟩,dB _⟩
 case round =>
  obtain⟨m,s,rfl,rfl,b,d⟩:=hrel;have g:m<100:=oM;have l:=zis wr;have k:=zeb
  by_cases hlt:9<m
  ·have c:s.size=0:=oM;have a:=za (Int.natCast_ediv m 10);have h:(9:Int)<(m:Int):=oM;have i:s.size<=1:=oM;have f:=za c;clear b c;go_wp2_with fail
   go_roundw
   case rel=>exact⟨m / 10,_,by rw [a.out];rfl,rfl,Or.inr ⟨oM,by rw [ByteArray.size_append,zeb,f.out];omega⟩,d.alloc _⟩
   case measure=>simp [intOf];omega
  ·have h:(m:Int)<=9:=oM;have i:s.size<=1:=oM;clear b;go_wp2_with fail
   go_ret;exact⟨_,rfl,by rw [ByteArray.size_append,zeb];omega,d.alloc _⟩
def RetNumS (w:World) (e:Ending) (w':World):Prop:=∃ (n:Int) (ok:Bool),e=.returned (.tuple #[n,.bool ok])∧w=w'
theorem zdu {s:ByteArray} (hs:s.size<=1000000) :
  Calls Tryz.prog 258 #[s] w (RetNumS w):=by
 by_cases h0:s.size=0
 ·have c:¬ 0<s.size:=oM
  go_enter Tryz.func258,Tryz.ntmps258
  go_wp2;go_ret2;exact⟨0,false,rfl,rfl⟩
 have c:0<s.size:=oM;cases hm:((s[0].toNat:Int)==45)
 ·have m:0<s.size:=c
  by_cases z0:s.size=0
  ·go_enter Tryz.func258,Tryz.ntmps258
   go_wp2;go_ret2;exact⟨0,false,rfl,rfl⟩
  have q:0<s.size:=oM;have f:((s.size:Int)==0)=false:=by rw [beq_eq_false_iff_ne];omega
  by_cases z2:17<s.size
  ·have a:(17:Int)<(s.size:Int):=oM
   go_enter Tryz.func258,Tryz.ntmps258
   go_wp2;go_ret2;exact⟨0,false,rfl,rfl⟩
  have a:(s.size:Int)<=17:=oM;cases z3:((s[0].toNat:Int)==48)
  ·go_enter Tryz.func258,Tryz.ntmps258
   go_wp2_with fail
   go_loop [5,6] (fun v i=>∃ (k:Nat) (n:Int),k<=s.size∧i=.int .i64 k∧v=.int .i64 n) (fun _ i=>s.size - (intOf i).toNat)
   case atStart=>exact⟨0,0,dG _,rfl,rfl⟩
   case round =>
    obtain⟨k,n,h,rfl,rfl⟩:=hrel
    by_cases hlt:k<s.size
    ·have g:=zcr s k hlt
     by_cases c0:(s[k].toNat:Int)<48
     ·go_wp2_with fail
      go_ret2;exact⟨0,false,rfl,rfl⟩
     ·by_cases c1:57<(s[k].toNat:Int)
      ·go_wp2_with fail
       go_ret2;exact⟨0,false,rfl,rfl⟩
      ·go_wp2_with fail
       go_round
       case rel=>exact⟨k+1,_,oM,gM,rfl⟩
       case measure=>simp [intOf];omega
    ·obtain rfl:k=s.size:=oM;go_wp2_with fail
     go_ret2;exact⟨_,true,rfl,rfl⟩
  ·by_cases z4:1<s.size
   ·have b:(1:Int)<(s.size:Int):=oM
    go_enter Tryz.func258,Tryz.ntmps258
    go_wp2;go_ret2;exact⟨0,false,rfl,rfl⟩
   ·have b:(s.size:Int)<=1:=oM
    go_enter Tryz.func258,Tryz.ntmps258
    go_wp2_with fail
    go_loop [5,6] (fun v i=>∃ (k:Nat) (n:Int),k<=s.size∧i=.int .i64 k∧v=.int .i64 n) (fun _ i=>s.size - (intOf i).toNat)
    case atStart=>exact⟨0,0,dG _,rfl,rfl⟩
    case round =>
     obtain⟨k,n,h,rfl,rfl⟩:=hrel
     by_cases hlt:k<s.size
     ·have g:=zcr s k hlt
      by_cases c0:(s[k].toNat:Int)<48
      ·go_wp2_with fail
       go_ret2;exact⟨0,false,rfl,rfl⟩
      ·by_cases c1:57<(s[k].toNat:Int)
       ·go_wp2_with fail
        go_ret2;exact⟨0,false,rfl,rfl⟩
       ·go_wp2_with fail
        go_round
        case rel=>exact⟨k+1,_,oM,gM,rfl⟩
        case measure=>simp [intOf];omega
     ·obtain rfl:k=s.size:=oM;go_wp2_with fail
      go_ret2;exact⟨_,true,rfl,rfl⟩
 ·obtain⟨y,o⟩:∃ y,s.extract 1 s.size=y:=⟨_,rfl⟩;have d:y.size=s.size - 1:=by rw [← o,ByteArray.size_extract];omega
  have p:y.size<=1000000:=oM;have j:=za d;clear d;have l:(1:Int)<=(s.size:Int):=oM
  by_cases z0:y.size=0
  ·go_enter Tryz.func258,Tryz.ntmps258
   go_wp2;go_ret2;exact⟨0,false,rfl,rfl⟩
  have q:0<y.size:=oM;have f:((y.size:Int)==0)=false:=by rw [beq_eq_false_iff_ne];omega
  by_cases z2:17<y.size
  ·have a:(17:Int)<(y.size:Int):=oM
   go_enter Tryz.func258,Tryz.ntmps258
   go_wp2;go_ret2;exact⟨0,false,rfl,rfl⟩
  have a:(y.size:Int)<=17:=oM;cases z3:((y[0].toNat:Int)==48)
  ·go_enter Tryz.func258,Tryz.ntmps258
   go_wp2_with fail
   go_loop [5,6] (fun v i=>∃ (k:Nat) (n:Int),k<=y.size∧i=.int .i64 k∧v=.int .i64 n) (fun _ i=>y.size - (intOf i).toNat)
   case atStart=>exact⟨0,0,dG _,rfl,rfl⟩
   case round =>
    obtain⟨k,n,h,rfl,rfl⟩:=hrel
    by_cases hlt:k<y.size
    ·have g:=zcr y k hlt
     by_cases c0:(y[k].toNat:Int)<48
     ·go_wp2_with fail
      go_ret2;exact⟨0,false,rfl,rfl⟩
     ·by_cases c1:57<(y[k].toNat:Int)
      ·go_wp2_with fail
       go_ret2;exact⟨0,false,rfl,rfl⟩
      ·go_wp2_with fail
       go_round
       case rel=>exact⟨k+1,_,oM,gM,rfl⟩
       case measure=>simp [intOf];omega
    ·obtain rfl:k=y.size:=oM;go_wp2_with fail
     go_ret2;exact⟨_,true,rfl,rfl⟩
  ·by_cases z4:1<y.size
   ·have b:(1:Int)<(y.size:Int):=oM
    go_enter Tryz.func258,Tryz.ntmps258
    go_wp2;go_ret2;exact⟨0,false,rfl,rfl⟩
   ·have b:(y.size:Int)<=1:=oM
    go_enter Tryz.func258,Tryz.ntmps258
    go_wp2;go_ret2;exact⟨0,false,rfl,rfl⟩
theorem zo:(Tryz.prog.info? 9).map (fun i=>(i.zero,i.size,i.bytes))=some (some (.string ⟨#[]⟩),1,16):=kM
def RetStrs (L N:Nat) (w:World) (e:Ending) (w':World):Prop:=∃ (A:Option Addr) (n c:Nat) (l:List ByteArray),e=.returned (.slice A n c)∧n=l.length∧w'.ownsRow w.heap.size 9 1 (.slice A n c) n (zaa l)∧(∀ x∈l,x.size<=L)∧n<=N∧Ext w w'
theorem zck (x:ByteArray):∀ u∈(#[Value.string x]:Array Value).toList,u.oneCell'=true:=by simp [Value.oneCell']
theorem spec_l19Cut {s:ByteArray} (hs:s.size<=1000000) :
  Calls Tryz.prog 250 #[s,.int .u8 32] w (RetStrs s.size (s.size+1) w):=by
 go_enter Tryz.func250,Tryz.ntmps250
 go_wp2_with fail
 go_loopw [5,6,7] (fun v f i wr=>∃ (k m:Nat) (l:List ByteArray),k<=s.size+1∧i=.int .i64 k∧m<=k∧f=.int .i64 m∧l.length<=k∧wr.ownsRow w.heap.size 9 1 v l.length (zaa l)∧Hid (∀ x∈l,x.size<=s.size)∧Ext w wr) (fun _ _ i _=>s.size+1 - (intOf i).toNat)
 case atStart=>exact⟨0,0,[],dG _,rfl,dE _,rfl,dE _,World.ownsRow_lit w #[] 0 (dE _) lM rfl,(fun x hx=>by cases hx),(dB _).alloc _⟩
 case round =>
  obtain⟨k,m,l,u,rfl,z,rfl,y,a,g,b⟩:=hrel
  by_cases hle:k<=s.size
  ·have p:(k:Int)<=(s.size:Int):=oM;have q:(m:Int)<=(k:Int):=oM;have n:=za (show (s.extract m k).size<=s.size by rw [ByteArray.size_extract];omega);have d:=za (show ∀ x∈l++[s.extract m k],x.size<=s.size from fun x hx=>by
    rcases List.mem_append.1 hx with h|h
    ·exact g.out x h
    ·rw [List.mem_singleton.1 h];exact n.out)
   by_cases he:k=s.size
   ·have j:((k:Int)==(s.size:Int))=true:=by simp [he]
    have r:=za he;clear he;go_wp2_with (at_builtin;refine zU w wr rfl _ _ _ rfl 9 _ 1 16 Tryz.underlying88 zo rfl dM u5 _ _ _ _ rfl rfl b a rfl (zck _) lM oM ?_;intro v' w1 hext1 zjn hg1 hat1)
    go_roundw
    case rel=>exact⟨k+1,k+1,l++[s.extract m k],oM,gM,oM,gM,by simp;omega,by simpa [zaa] using zjn,d.out,aM⟩
    case measure=>simp [intOf];omega
   ·have j:((k:Int)==(s.size:Int))=false:=by rw [beq_eq_false_iff_ne];omega
    have o:k<s.size:=oM;have t:=zcr s k o;cases hc:((s[k].toNat:Int)==32)
    ·go_wp2_with fail
     go_roundw
     case rel=>exact⟨k+1,m,l,oM,gM,oM,rfl,oM,a,g,b⟩
     case measure=>simp [intOf];omega
    ·go_wp2_with (at_builtin;refine zU w wr rfl _ _ _ rfl 9 _ 1 16 Tryz.underlying88 zo rfl dM u5 _ _ _ _ rfl rfl b a rfl (zck _) lM oM ?_;intro v' w1 hext1 zjn hg1 hat1)
     go_roundw
     case rel=>exact⟨k+1,k+1,l++[s.extract m k],oM,gM,oM,gM,by simp;omega,by simpa [zaa] using zjn,d.out,aM⟩
     case measure=>simp [intOf];omega
  ·obtain rfl:k=s.size+1:=oM;obtain⟨A,c,rfl⟩:=zg a;go_wp2_with fail
   go_ret;exact⟨A,_,c,l,rfl,rfl,a,g.out,oM,b⟩
def RetEdgeS (w:World) (e:Ending) (w':World):Prop:=∃ (x:Edg) (ok:Bool),e=.returned (.tuple #[.agg #[x.fr,x.le,x.ta],.bool ok])∧Ext w w'
theorem spec_l2Parse {s:ByteArray} (hs:s.size<=1000000) :
  Calls Tryz.prog 259 #[s] w (RetEdgeS w):=by
 go_enter Tryz.func259,Tryz.ntmps259
 go_wp2_with fail
 generalize U0:w.alloc _=r at *;have c:=Ext.al_ U0;have b:=Ext.bl_ U0;clear U0
 go_loop [4] (fun i=>∃ k:Nat,k<=s.size∧i=.int .i64 k) (fun i=>s.size - (intOf i).toNat)
 case atStart=>exact⟨0,dG _,rfl⟩
 case round =>
  obtain⟨k,x,rfl⟩:=hrel;have j:=b.cell;have t:=b.frozen
  by_cases hlt:k<s.size
  ·have u:=zcr s k hlt
   by_cases c0:(97:Int)<=(s[k].toNat:Int)
   ·by_cases c1:(s[k].toNat:Int)<=102
    ·have l:=za (show (s.extract 0 k).size<=1000000 by rw [ByteArray.size_extract];omega);have m:=za (show (s.extract (k+1) s.size).size<=1000000 by rw [ByteArray.size_extract];omega);have q:(k:Int)+1<=(s.size:Int):=oM;go_wp2_with fail
     refine (zdu l.out).mono ?_;rintro e o ⟨g,n,rfl,rfl⟩;go_wp2_with fail
     refine (zdu m.out).mono ?_;rintro e o ⟨h,d,rfl,rfl⟩;go_wp2_with fail
     refine (zbj s k hlt _).mono ?_;rintro e o ⟨rfl,rfl⟩;have f:∀ u0 u1 u2,Ext w (((r.setCell w.heap.size u0).setCell ⟨w.heap.size,1,none⟩ u1).setCell ⟨w.heap.size,2,none⟩ u2):=fun u0 u1 u2=>((c.setCell (dE _) u0).setCell (dE _) u1).setCell (dE _) u2;have a:=za f;clear f;cases n
     ·go_wp2_with fail
      exact bodyPost_ret (v:=.tuple #[.agg #[g,.int .i64 ((s[k].toNat:Int) - 97),h],.bool false]) (by simp [results,Tryz.results259,go_sem,j]) rfl ⟨⟨g,(s[k].toNat:Int) - 97,h⟩,false,rfl,a.out _ _ _⟩
     ·go_wp2_with fail
      exact bodyPost_ret (v:=.tuple #[.agg #[g,.int .i64 ((s[k].toNat:Int) - 97),h],.bool d]) (by simp [results,Tryz.results259,go_sem,j]) rfl ⟨⟨g,(s[k].toNat:Int) - 97,h⟩,d,rfl,a.out _ _ _⟩
    ·go_wp2_with fail
     go_round
     case rel=>exact⟨k+1,oM,gM⟩
     case measure=>simp [intOf];omega
   ·go_wp2_with fail
    go_round
    case rel=>exact⟨k+1,oM,gM⟩
    case measure=>simp [intOf];omega
  ·obtain rfl:k=s.size:=oM;go_wp2_with fail
   refine bodyPost_ret (v:=.tuple #[.agg #[(0:Int),(0:Int),(0:Int)],.bool false]) (by simp [results,Tryz.results259,go_sem,j]) rfl ⟨⟨0,0,0⟩,false,rfl,?_⟩;exact ((c.setCell (p:=⟨w.heap.size,0,none⟩) (dE _) _).setCell (p:=⟨w.heap.size,1,none⟩) (dE _) _).setCell (p:=⟨w.heap.size,2,none⟩) (dE _) _
theorem wrap_pow2 {t:Nat}(ht:t<32):wrap64 ((2:Int) ^ t)=((2 ^ t:Nat):Int):=by
 have a:=(Sm.bit ht).lt;have e:(2:Int) ^ t=((2 ^ t:Nat):Int):=sM;rw [e];generalize (2:Nat) ^ t=p at *;unfold wrap64;omega
theorem zfQ (n:Nat)(hn:n<32) (w:World) :
  Calls Tryz.prog 270 #[n] w fun e w'=>e=.returned (.int .i64 (2 ^ n:Nat))∧w=w':=by
 have c:IntKind.u64.wrap (n:Int)=n:=by rw [IntKind.wrap_u64];omega
 have a:(n:Int)<=64:=oM;have b:=za (wrap_pow2 hn)
 go_enter Tryz.func270,Tryz.ntmps270
 go_wp2;go_ret;exact⟨zD (by rw [← b.out]),rfl⟩
def zbr (es:List Edg) (set:Nat) (l:Int):Nat:=es.foldl (fun m e=>if e.le=l∧set.testBit e.fr.toNat=true then m|||2 ^ e.ta.toNat else m) 0
theorem stepB_snoc (es:List Edg) (e:Edg) (set:Nat) (l:Int):zbr (es++[e]) set l=if e.le=l∧set.testBit e.fr.toNat=true then zbr es set l|||2 ^ e.ta.toNat else zbr es set l:=by simp [zbr]
theorem zcp (es:List Edg) (set:Nat) (l:Int) (k:Nat):(zbr es set l).testBit k=true↔∃ e∈es,(e.le=l∧set.testBit e.fr.toNat=true)∧e.ta.toNat=k:=by
 have:=foldl_bit es (fun e=>e.le=l∧set.testBit e.fr.toNat=true) 0 k;simpa [zbr] using this
theorem zfA (h:Few n es) (set:Nat) (l:Int):zbr es set l<2 ^ n:=by
 apply iH;intro k hk;rw [eM];intro hb;obtain⟨e,a,_,b⟩:=(zcp es set l k).1 hb;have:=h e a;omega
theorem zeV {set:Nat} {l:Int} {k0:Nat} (h:zO w lo hi A n s)(hf:Few k0 s.edges)(hk0:k0<=16)(hset:Sm set) :
  Calls Tryz.prog 224 #[.agg #[s.al,s.st,.slice A n c],set,l] w fun e w'=>e=.returned (.int .i64 (zbr s.edges set l:Nat))∧Ext w w':=by
 have X:=h.2.len;have O:=za h.1;have G:=za (fun W (hW:Ext w W)=>h.2.ext hW);have H:=za hf;clear hf
 go_enter Tryz.func224,Tryz.ntmps224
 go_wp2
 go_loopw [7,8] (fun v i wr=>∃ k:Nat,k<=n∧i=.int .i64 k∧∃ y:Nat,v=.int .i64 y∧Sm y∧Hid (y=zbr (s.edges.take k) set l)∧Ext w wr∧Ext (w.alloc (.cells #[s.al,s.st,.slice A n c] 38)) wr) (fun _ i _=>n - (intOf i).toNat)
 case atStart=>exact⟨0,dG _,rfl,0,rfl,tM,rfl,(dB _).alloc _,dB _⟩
 case round =>
  obtain⟨k,V,rfl,y,rfl,D,g,d,a⟩:=hrel;have T:=fun j=>zcz (j:=j) a
  by_cases hlt:k<n
  ·obtain⟨b,o,x,rfl,_,_,F,I,S,J⟩:=(G.out wr d).az hlt;obtain⟨⟨L,M⟩,⟨U,g1⟩,⟨Q,R⟩⟩:=H.out x (dC F.out);have p:=za (show s.edges.take (k+1)=s.edges.take k++[x] by rw [dO,F.out];rfl);obtain⟨f,q⟩:∃ f:Nat,x.fr=f:=⟨x.fr.toNat,oM⟩;obtain⟨t,B⟩:∃ t:Nat,x.ta=t:=⟨x.ta.toNat,oM⟩;rw [q] at I L M;rw [B] at J Q R;have r:=za (stepB_snoc (s.edges.take k) x set l)
   by_cases hle:x.le=l
   ·have z:(x.le==l)=true:=by simp [hle]
    have m:=za hle;clear hle;cases hb:set.testBit f
    ·have u:=za hb;clear hb;go_wp2_with (go_at_call 143;refine (zau set f hset _ oM).mono ?_;rw [u.out];rintro e w' ⟨rfl,rfl⟩)
     go_roundw
     case rel=>exact⟨k+1,oM,gM,y,rfl,D,by unfold Hid;rw [p.out,r.out,if_neg (by rintro ⟨_,C⟩;rw [q] at C;simp [u.out] at C)];exact g.out,d,a⟩
     case measure=>simp [intOf];omega
    ·have u:=za hb;clear hb;have E:=za (show bits .or .i64 (y:Nat) ((2:Int) ^ t)=((y|||2 ^ t:Nat):Int) by have:=zbE D (Sm.bit (n:=t) oM);rw [show (((2:Nat) ^ t:Nat):Int)=(2:Int) ^ t by simp] at this;exact this);go_wp2_with (first
      |(go_at_call 143;refine (zau set f hset _ oM).mono ?_;rw [u.out];rintro e w' ⟨rfl,rfl⟩)
      |(go_at_call 270;refine (zfQ t oM _).mono ?_;rintro e w' ⟨rfl,rfl⟩))
     go_roundw
     case rel=>exact⟨k+1,oM,gM,y|||2 ^ t,by rw [E.out],D.or (Sm.bit oM),by unfold Hid;rw [p.out,r.out,if_pos ⟨m.out,by rw [q];simpa using u.out⟩,← g.out,B];rfl,d,a⟩
     case measure=>simp [intOf];omega
   ·have z:(x.le==l)=false:=by simp [hle]
    have m:=za hle;clear hle;go_wp2;go_roundw
    case rel=>exact⟨k+1,oM,gM,y,rfl,D,by unfold Hid;rw [p.out,r.out,if_neg (by rintro ⟨C,_⟩;exact m.out C)];exact g.out,d,a⟩
    case measure=>simp [intOf];omega
  ·obtain rfl:n=k:=oM;go_wp2;go_ret;exact⟨zD (by rw [g.out,O.out,eI]),d⟩
def MovB (w:World) (b:Nat) (es:List Edg):Prop:=∃ cs,Blk w b 249 cs∧∀ i l:Nat,i<16->l<6->cs[i*6+l]?=some (.int .i64 (succ es i l:Nat))
theorem MovB.at_ (h:MovB w b es):MovAt w b es:=by
 obtain⟨d,a,c⟩:=h;exact fun i l hi hl=>by rw [a.cell,c i l hi hl]
theorem MovB.ext (h:MovB w b es)(hx:Ext w w'):MovB w' b es:=by
 obtain⟨a,c,d⟩:=h;exact⟨a,c.ext hx,d⟩
theorem zero_mov (w:World):(zeroValue 249).run Tryz.prog w=.ok (.agg (Array.replicate 96 (.int .i64 0))) w:=kM
theorem wrap_pow {t:Nat}(ht:t<32):wrap64 ((2:Int) ^ t)=((2 ^ t:Nat):Int):=by
 have a:=(Sm.bit ht).lt;have e:(2:Int) ^ t=((2 ^ t:Nat):Int):=sM;rw [e];generalize (2:Nat) ^ t=p at *;unfold wrap64;omega
theorem mov_store {f t l:Nat}(hcs:∀ i l:Nat,i<16->l<6->cs[i*6+l]?=some (.int .i64 (succ es i l:Nat)))(hs:Sm (succ es f g))(ht:t<16)(hf:f<16)(hg:g<6)(hi:i<16)(hl:l<6) :
  (cs.setIfInBounds (f*6+g) (.int .i64 (bits .or .i64 (succ es f g:Nat) (wrap64 (2 ^ t)))))[i*6+l]?=some (.int .i64 ((if (f:Int)=i∧(g:Int)=l then succ es i l|||2 ^ (t:Int).toNat else succ es i l:Nat))):=by
 rw [wrap_pow oM,zbE hs (Sm.bit oM),Array.getElem?_setIfInBounds]
 by_cases he:f*6+g=i*6+l
 ·have c:f=i:=oM;have d:g=l:=oM;subst c;subst d;have b:f*6+g<cs.size:=by
   rcases Nat.lt_or_ge (f*6+g) cs.size with a|a
   ·exact a
   ·have:=hcs f g hf hg;rw [Array.getElem?_eq_none a] at this;cases this
  rw [if_pos rfl,if_pos b,if_pos ⟨rfl,rfl⟩];rfl
 ·rw [if_neg he,hcs i l hi hl,if_neg];rintro ⟨a,h⟩;exact he oM
theorem zdH (h:zO w lo hi A n s)(hf:Few 16 s.edges) :
  Calls Tryz.prog 154 #[.agg #[s.al,s.st,.slice A n c]] w fun e w'=>∃ b,e=.returned (.pointer (some ⟨b,0,none⟩))∧w.heap.size<=b∧MovB w' b s.edges∧Ext w w':=by
 have hn:=h.2.len;have hL:=za h.1;have M:=fun W (hW:Ext w W)=>h.2.ext hW;have X:=za M;clear M;have I:=za hf;clear hf
 go_enter Tryz.func154,Tryz.ntmps154
 have T:=zero_mov;generalize hzz:Array.replicate 96 (Value.int .i64 0)=V at T;have Z:=za hzz;clear hzz;go_wp2_with (simp only [T])
 go_loopw [10] (fun i wr=>∃ k:Nat,k<=n∧i=.int .i64 k∧MovB wr (w.heap.size+1) (s.edges.take k)∧Ext w wr) (fun i _=>n - (intOf i).toNat)
 case atStart=>exact⟨0,dG _,rfl,⟨V,by have:=dX (w.alloc (.cells #[s.al,s.st,.slice A n c] 38)) 249 V;simpa using this,fun i l hi hl=>by rw [← Z.out,Array.getElem?_replicate,if_pos oM];rfl⟩,((dB _).alloc _).alloc _⟩
 case round =>
  obtain⟨k,hk,rfl,d,q⟩:=hrel
  by_cases hlt:k<n
  ·obtain⟨b,o,x,rfl,aj,ai,S,c0,c1,c2⟩:=(X.out wr q).az hlt;obtain⟨⟨J,C⟩,⟨L,g1⟩,⟨U,D⟩⟩:=I.out x (dC S.out);obtain⟨f,hf⟩:∃ f:Nat,x.fr=f:=⟨x.fr.toNat,oM⟩;obtain⟨g,Q⟩:∃ g:Nat,x.le=g:=⟨x.le.toNat,oM⟩;obtain⟨t,R⟩:∃ t:Nat,x.ta=t:=⟨x.ta.toNat,oM⟩;rw [hf] at c0 J C;rw [Q] at c1 L g1;rw [R] at c2 U D;have v:f<16:=oM;have y:g<6:=oM;have H:t<16:=oM;clear J C L g1 U D;obtain⟨cs,r,u⟩:=d;have G:Sm (succ (s.edges.take k) f g):=succ_sm (n:=16) (fun e he=>I.out e (List.mem_of_mem_take he)) oM f g;go_wp2;have z:=(dB wr).alloc (.cells #[f,g,t] 117);have m:=dX wr 117 #[f,g,t];generalize hq:wr.alloc _=p at *;clear hq;have a:=r.ext z;have hd:p.cell? ⟨w.heap.size+1,f*6+g,none⟩=some (.int .i64 (succ (s.edges.take k) f g:Nat)):=by rw [a.cell,u f g v y]
   have F:=a.frozen (f*6+g);have q0:=m.cell 0;have q1:=m.cell 1;have q2:=m.cell 2
   go_still_tail 16,(by kernel_rfl)
   have C:(f:Int)<16:=oM;have g1:(g:Int)<6:=oM;have D:(t:Int)<=64:=oM
   repeat (refine wpStill_step (fun K hK=>?_);go_simp;(try simp only [C,g1,D,if_true]);refine hK _ ?_;clear hK K)
   refine wpStill_nil ?_;change wpList _ _ _ _ _ p.drew;have ah:p.drew.cell? ⟨w.heap.size+1,f*6+g,none⟩=some (.int .i64 (succ (s.edges.take k) f g:Nat)):=hd;have O:p.drew.frozen? ⟨w.heap.size+1,f*6+g,none⟩=false:=F;have j:Blk p.drew (w.heap.size+1) 249 cs:=a;have B:Ext wr p.drew:=z.drew;generalize p.drew=w2 at *;have Y:=za (succ_snoc (s.edges.take k) x);have E:=za (show s.edges.take (k+1)=s.edges.take k++[x] by rw [dO,S.out];rfl);go_wp2;go_roundw
   case rel=>exact⟨k+1,oM,gM,⟨_,j.ae (f*6+g) _,fun i l hi hl=>by
    rw [E.out,Y.out,hf,Q,R];exact mov_store u G H v y hi hl⟩,(q.trans B).setCell (by dsimp only;omega) _⟩
   case measure=>simp [intOf];omega
  ·obtain rfl:k=n:=oM;go_wp2;go_ret;rw [hL.out,eI] at d;exact⟨_,rfl,oM,d,q⟩
theorem zdY (R:List Nat) (i v:Nat):zae (R.set i v)=(zae R).set i (.int .i64 (v:Nat)):=by simp [zae,iR]
def zir (x y:Int):Int:=if x<y then -1 else if y<x then 1 else 0
theorem cmp_isNaN (x:Int) (w:World):Calls Tryz.prog 249 #[x] w fun e w'=>e=.returned (.bool false)∧w=w':=by
 have h:(x != x)=false:=sM
 go_enter Tryz.func249,Tryz.ntmps249
 go_wp2;go_ret;exact⟨zj sM,rfl⟩
theorem cmp_Compare (x y:Int) (w:World):Calls Tryz.prog 160 #[x,y] w fun e w'=>e=.returned (.int .i64 (zir x y))∧w=w':=by
 by_cases h:x<y
 ·go_enter Tryz.func160,Tryz.ntmps160
  go_wp2_with (go_at_call 249;refine (cmp_isNaN _ _).mono ?_;rintro e w' ⟨rfl,rfl⟩)
  go_ret;exact⟨zD (by unfold zir;split<;>omega),rfl⟩
 ·by_cases h':y<x
  all_goals
   go_enter Tryz.func160,Tryz.ntmps160
   go_wp2_with (go_at_call 249;refine (cmp_isNaN _ _).mono ?_;rintro e w' ⟨rfl,rfl⟩)
   go_ret;exact⟨zD (by unfold zir;(repeat' split)<;>omega),rfl⟩
def orI:List Int->Int
 |[]=>0
 |x :: r=>if x=0 then orI r else x
theorem orI_stop {x:Int}(h:l[k]?=some x)(hk:∀ y∈l.take k,y=0)(hx:x≠0):orI l=x:=by
 induction l generalizing k with
 |nil=>simp at h
 |cons a r ih =>
  cases k with
  |zero=>simp at h;subst h;rw [orI,if_neg hx]
  |succ k =>
   have b:a=0:=hk a sM;rw [orI,if_pos b];exact ih (by simpa using h) (fun y hy=>hk y (by simp [hy]))
theorem orI_end (hk:∀ y∈l,y=0):orI l=0:=by
 induction l with
 |nil=>rfl
 |cons a r ih=>rw [orI,if_pos (hk a sM),ih fun y hy=>hk y (by simp [hy])]
theorem cmp_Or (h:Reads w lo hi 1 A n (ints l)) :
  Calls Tryz.prog 159 #[.slice A n c] w fun e w'=>e=.returned (.int .i64 (orI l))∧w=w':=by
 have q:=h.len;have g:=za (show l.length=n by have:=h.length;rw [zdq] at this;omega)
 go_enter Tryz.func159,Tryz.ntmps159
 go_wp2
 go_loop [8] (fun i=>∃ k:Nat,k<=n∧i=.int .i64 k∧Hid (∀ y∈l.take k,y=0)) (fun i=>n - (intOf i).toNat)
 case atStart=>exact⟨0,dG _,rfl,za sM⟩
 case round =>
  obtain⟨k,p,rfl,b⟩:=hrel
  by_cases hlt:k<n
  ·obtain⟨m,x,rfl,_,_,d,o⟩:=h.int hlt
   by_cases h0:x=0
   ·have j:((x:Int) != 0)=false:=by simp [h0]
    have f:=za h0;clear h0;go_wp2
    go_round
    case rel=>exact⟨k+1,oM,gM,za (by rw [dO,d.out];intro y a;simp at a;rcases a with a|a;exact b.out y a;rw [a,f.out])⟩
    case measure=>simp [intOf];omega
   ·have j:((x:Int) != 0)=true:=by simp [h0]
    go_wp2;go_ret;exact⟨zD (orI_stop d.out b.out h0).symm,rfl⟩
  ·obtain rfl:k=n:=oM;go_wp2;go_ret;have:=b.out;rw [List.take_of_length_le (oH g.out)] at this;exact⟨zD (orI_end this).symm,rfl⟩
def cmpE (a b:Edg):Int:=orI [zir a.fr b.fr,zir a.le b.le,zir a.ta b.ta]
def ltE (a b:Edg):Bool:=if a.fr=b.fr then if a.le=b.le then decide (a.ta<b.ta) else decide (a.le<b.le) else decide (a.fr<b.fr)
theorem cmpE_lt (a b:Edg):cmpE a b<0↔ltE a b=true:=by
 have f:∀ x y:Int,(zir x y=0↔x=y)∧(zir x y<0↔x<y):=fun x y=>by unfold zir;constructor<;>(repeat' split)<;>omega
 have c:=f a.fr b.fr;have d:=f a.le b.le;have g:=f a.ta b.ta;have i:cmpE a b=if zir a.fr b.fr=0 then if zir a.le b.le=0 then if zir a.ta b.ta=0 then 0 else zir a.ta b.ta else zir a.le b.le else zir a.fr b.fr:=rfl;rw [i,ltE]
 by_cases e1:a.fr=b.fr
 ·rw [if_pos (c.1.2 e1),if_pos e1]
  by_cases e2:a.le=b.le
  ·rw [if_pos (d.1.2 e2),if_pos e2]
   by_cases e3:zir a.ta b.ta=0
   ·rw [if_pos e3];have:=g.1.1 e3;simp;omega
   ·rw [if_neg e3,g.2];simp
  ·rw [if_neg (fun h=>e2 (d.1.1 h)),if_neg e2,d.2];simp
 ·rw [if_neg (fun h=>e1 (c.1.1 h)),if_neg e1,c.2];simp
theorem reads_lit (n:Nat) (l:List Int)(hc:cs.toList=ints l)(hl:l.length=n)(hn:n<=1000)(h:Ext (w.alloc (.cells cs t)) w'):Reads w' 0 w'.heap.size 1 (some ⟨w.heap.size,0,none⟩) n (ints l):=by
 have a:=zbP h;refine⟨by rw [zdq];omega,oM,fun _=>⟨_,rfl,dG _,a.lt,fun j u hu=>?_⟩⟩;rw [zX,Nat.zero_add,a.cell,← Array.getElem?_toList,hc];exact hu
theorem zcZ {a b:Edg}  :
  Calls Tryz.prog 71 #[.agg #[a.fr,a.le,a.ta],.agg #[b.fr,b.le,b.ta]] w fun e w'=>e=.returned (.int .i64 (cmpE a b))∧Ext w w':=by
 go_enter Tryz.func71,Tryz.ntmps71
 go_wp2_with fail
 obtain⟨W,c⟩:∃ W:World,W=(w.alloc (.cells #[Value.int .i64 a.fr,a.le,a.ta] 117)).alloc (.cells #[Value.int .i64 b.fr,b.le,b.ta] 117):=⟨_,rfl⟩;have f:Ext w W:=by rw [c];exact ((dB _).alloc _).alloc _
 have d:=zM (show Ext ((w.alloc (.cells #[Value.int .i64 a.fr,a.le,a.ta] 117)).alloc (.cells #[Value.int .i64 b.fr,b.le,b.ta] 117)) W by rw [c];exact dB _);have g:∀ X,Ext W X->∀ j,X.cell? ⟨w.heap.size,j,none⟩=#[Value.int .i64 a.fr,.int .i64 a.le,.int .i64 a.ta][j]?:=fun X hX=>(d.1.ext hX).cell;have h:∀ X,Ext W X->∀ j,X.cell? ⟨w.heap.size+1,j,none⟩=#[Value.int .i64 b.fr,.int .i64 b.le,.int .i64 b.ta][j]?:=fun X hX=>(d.2.ext hX).cell;rw [← c];have i:=dB W;clear c d
 go_region_held3 (fun X=>Ext W X) (first|assumption|(refine eV ?_;assumption)|(refine Ext.alloc ?_ _;assumption)|(refine eV ?_;refine Ext.alloc ?_ _;assumption)|(refine eJ ?_ aM;assumption)) (first|(go_at_call 160;refine (cmp_Compare _ _ _).mono ?_;rintro e w' ⟨rfl,rfl⟩)|(go_at_call 159;refine (cmp_Or (reads_lit 3 [zir a.fr b.fr,zir a.le b.le,zir a.ta b.ta] rfl rfl oM ((dB _).drew))).mono ?_;rintro e w' ⟨rfl,rfl⟩))
 all_goals (go_wp2_with fail;go_ret;exact⟨rfl,f.trans (by first|assumption|(refine eV ?_;assumption)|(refine Ext.alloc ?_ _;assumption)|(refine eV ?_;refine Ext.alloc ?_ _;assumption))⟩)
theorem zar {q:Int}  :
  Calls Tryz.prog 153 #[.agg #[al,st,.slice A n c],q] w fun e w'=>e=.returned (.bool (decide (0<=q)&&decide (q<st)))∧Ext w w':=by
 by_cases h0:0<=q
 all_goals
  go_enter Tryz.func153,Tryz.ntmps153
  go_wp2;go_ret;exact⟨zj (by simp;try omega),(dB _).alloc _⟩
def edgB (al:Nat) (st:Int) (e:Edg):Bool:=(decide (0<=e.fr)&&decide (e.fr<st))&&((decide (0<=e.ta)&&decide (e.ta<st))&&(decide (e.le<6)&&hasB al e.le))
def zbi (al:Nat) (st:Int) (l:List Edg) (k:Nat):Bool:=
 match l[k]? with
 |some e=>edgB al st e&&(decide (k=0) || match l[k - 1]? with
  |some p=>ltE p e
  |none=>false)
 |none=>false
def zk (s:Sys):Bool:=
 decide (0<=s.al∧s.al<=63)&&(decide (1<=s.st∧s.st<=16)&&(fK s.edges.length).all (zbi s.al.toNat s.st s.edges))
theorem zab (h:zO w lo hi A n s) :
  Calls Tryz.prog 65 #[.agg #[s.al,s.st,.slice A n c]] w fun e w'=>e=.returned (.bool (zk s))∧Ext w w':=by
 have y:=za (show zk s=(decide (0<=s.al∧s.al<=63)&&(decide (1<=s.st∧s.st<=16)&&(fK n).all (zbi s.al.toNat s.st s.edges))) by unfold zk;rw [← h.1]);have hn:=h.2.len
 by_cases hal:0<=s.al∧s.al<=63
 ·by_cases hst:1<=s.st∧s.st<=16
  ·obtain⟨al,u⟩:∃ al:Nat,Hid (s.al=al):=⟨s.al.toNat,by unfold Hid;omega⟩;have B:Sm al:=by have:=u.out;unfold Sm;omega
   have I:=za (show decide (0<=(al:Int)∧(al:Int)<=63)=true by have:=u.out;simp;omega);rw [u.out];rw [u.out,eN] at y;clear hal;have ad:decide (s.st<1)=false:=by simp;omega
   have ae:decide (16<s.st)=false:=by simp;omega
   obtain⟨st,U,aw,ax⟩:∃ st:Int,Hid (s.st=st)∧1<=st∧st<=16:=⟨s.st,za rfl,hst.1,hst.2⟩;rw [U.out] at ad ae y ⊢;clear hst;have hR:=fun W (H:Ext w W)=>h.2.ext H;have HR:=za hR;clear hR
   go_enter Tryz.func65,Tryz.ntmps65
   go_wp2_with (go_at_call 82;refine (zas _ _).mono ?_;rw [I.out];rintro e w' ⟨rfl,rfl⟩)
   go_loopw [22] (fun i wr=>∃ k:Nat,k<=n∧i=.int .i64 k∧Hid (((fK n).take k).all (zbi al st s.edges)=true)∧Ext (w.alloc (.cells #[Value.int .i64 al,st,Value.slice A n c] 38)) wr)
    (fun i _=>n - (intOf i).toNat)
   case atStart=>exact⟨0,dG _,rfl,rfl,dB _⟩
   case round =>
    obtain⟨k,hk,rfl,x,m⟩:=hrel
    by_cases hlt:k<n
    ·obtain⟨b,o,e,rfl,av,ap,D,c0,c1,c2⟩:=(HR.out wr (((dB _).alloc _).trans m)).az hlt;have aa:=zcz m;go_wp2_with fail
     obtain⟨W,H⟩:∃ W:World,W=wr.alloc (.cells #[Value.int .i64 e.fr,e.le,e.ta] 117):=⟨_,rfl⟩;have F:Ext wr W:=by rw [H];exact (dB _).alloc _
     have h1:=zbP (show Ext (wr.alloc (.cells #[Value.int .i64 e.fr,e.le,e.ta] 117)) W by rw [H];exact dB _);have e0:∀ X,Ext W X->∀ j,X.cell? ⟨w.heap.size,j,none⟩=#[Value.int .i64 al,.int .i64 st,Value.slice (some ⟨b,o,none⟩) n c][j]?:=fun X hX=>zcz ((m.trans F).trans hX);have e1:∀ X,Ext W X->∀ j,X.cell? ⟨wr.heap.size,j,none⟩=#[Value.int .i64 e.fr,.int .i64 e.le,.int .i64 e.ta][j]?:=fun X hX=>(h1.ext hX).cell;rw [← H];have hr:=dB W;clear H h1 aa c0 c1 c2;have Y:∀ X,Ext W X->Ext w X:=fun X hX=>((((dB _).alloc _).trans m).trans F).trans hX;have l:=za Y;clear Y;have R:(fK n)[k]?=some k:=by rw [gS hlt]
     have t:=za R;clear R;cases g:(decide (0<=e.fr)&&decide (e.fr<st))
     ·have L:=za g;clear g;have g:=L;clear L;refine zam (fun X=>Ext W X) [0,1,2,3,4,5,6,7,8,9,10,11,12,13,14,15,16,17,18,19,20,21,22,23,24,25,26,27,28,29,30,31,32,33,34,35,36,37,38,39] kM rfl kM kM (fun _ _ _ _ _ h=>h) ((dB _).drew) (fun hS=>?_);refine sQ ?_;refine zai (fun K hK=>?_);go_simp;refine (zar).mono ?_;rw [g.out];rintro r J ⟨rfl,d⟩;refine hK.out _ _ (eJ aM d) (fun hS=>?_);refine pT ?_;refine sQ ?_;refine zcs ?_;go_wp2_with fail
      go_ret;exact⟨zj (by rw [y.out,zaH t.out (by rw [zbi,D.out];dsimp only;rw [edgB,g.out];simp)];simp),l.out _ aM⟩
     ·have L:=za g;clear g;have g:=L;clear L;cases q:(decide (0<=e.ta)&&decide (e.ta<st))
      ·have M:=za q;clear q;have q:=M;clear M;refine zam (fun X=>Ext W X) [0,1,2,3,4,5,6,7,8,9,10,11,12,13,14,15,16,17,18,19,20,21,22,23,24,25,26,27,28,29,30,31,32,33,34,35,36,37,38,39] kM rfl kM kM (fun _ _ _ _ _ h=>h) ((dB _).drew) (fun hS=>?_);refine sQ ?_;refine zai (fun K hK=>?_);go_simp;refine (zar).mono ?_;rw [g.out];rintro r J ⟨rfl,d⟩;refine hK.out _ _ (eJ aM d) (fun hS=>?_);refine pT ?_;refine sQ ?_;refine zai (fun K hK=>?_);go_simp;refine (zar).mono ?_;rw [q.out];rintro r V ⟨rfl,f⟩;refine hK.out _ _ (eJ aM f) (fun hS=>?_);refine pT ?_;refine sQ ?_;refine zcs ?_;go_wp2_with fail
       go_ret;exact⟨zj (by rw [y.out,zaH t.out (by rw [zbi,D.out];dsimp only;rw [edgB,g.out,q.out];simp)];simp),l.out _ aM⟩
      ·have M:=za q;clear q;have q:=M;clear M
       by_cases hle:6<=e.le
       ·have hL:decide (6<=e.le)=true:=by simp;omega
        refine zam (fun X=>Ext W X) [0,1,2,3,4,5,6,7,8,9,10,11,12,13,14,15,16,17,18,19,20,21,22,23,24,25,26,27,28,29,30,31,32,33,34,35,36,37,38,39] kM rfl kM kM (fun _ _ _ _ _ h=>h) ((dB _).drew) (fun hS=>?_);refine sQ ?_;refine zai (fun K hK=>?_);go_simp;refine (zar).mono ?_;rw [g.out];rintro r J ⟨rfl,d⟩;refine hK.out _ _ (eJ aM d) (fun hS=>?_);refine pT ?_;refine sQ ?_;refine zai (fun K hK=>?_);go_simp;refine (zar).mono ?_;rw [q.out];rintro r V ⟨rfl,f⟩;refine hK.out _ _ (eJ aM f) (fun hS=>?_);refine pT ?_;refine sQ ?_;refine zcs ?_;go_wp2_with fail
        go_ret;exact⟨zj (by rw [y.out,zaH t.out (by rw [zbi,D.out];dsimp only;rw [edgB,g.out,q.out];simp;omega)];simp),l.out _ aM⟩
       ·have hL:decide (6<=e.le)=false:=by simp;omega
        have S:=za (show decide (e.le<6)=true by simp;omega);cases v:hasB al e.le
        ·have O:=za v;clear v;have v:=O;clear O;refine zam (fun X=>Ext W X) [0,1,2,3,4,5,6,7,8,9,10,11,12,13,14,15,16,17,18,19,20,21,22,23,24,25,26,27,28,29,30,31,32,33,34,35,36,37,38,39] kM rfl kM kM (fun _ _ _ _ _ h=>h) ((dB _).drew) (fun hS=>?_);refine sQ ?_;refine zai (fun K hK=>?_);go_simp;refine (zar).mono ?_;rw [g.out];rintro r J ⟨rfl,d⟩;refine hK.out _ _ (eJ aM d) (fun hS=>?_);refine pT ?_;refine sQ ?_;refine zai (fun K hK=>?_);go_simp;refine (zar).mono ?_;rw [q.out];rintro r V ⟨rfl,f⟩;refine hK.out _ _ (eJ aM f) (fun hS=>?_);refine pT ?_;refine sQ ?_;refine zai (fun K hK=>?_);go_simp;refine (zbz _ _ B _).mono ?_;rw [v.out];rintro r w4 ⟨rfl,rfl⟩;refine hK.out _ _ aM (fun hS=>?_);refine pT ?_;refine sQ ?_;refine zcs ?_;go_wp2_with fail
         go_ret;exact⟨zj (by rw [y.out,zaH t.out (by rw [zbi,D.out];dsimp only;rw [edgB,g.out,q.out,v.out];simp)];simp),l.out _ aM⟩
        ·have O:=za v;clear v;have v:=O;clear O;have C:=za (show edgB al st e=true by rw [edgB,g.out,q.out,v.out,S.out];rfl)
         by_cases hk0:k=0
         ·subst hk0;refine zam (fun X=>Ext W X) [0,1,2,3,4,5,6,7,8,9,10,11,12,13,14,15,16,17,18,19,20,21,22,23,24,25,26,27,28,29,30,31,32,33,34,35,36,37,38,39] kM rfl kM kM (fun _ _ _ _ _ h=>h) ((dB _).drew) (fun hS=>?_);refine sQ ?_;refine zai (fun K hK=>?_);go_simp;refine (zar).mono ?_;rw [g.out];rintro r J ⟨rfl,d⟩;refine hK.out _ _ (eJ aM d) (fun hS=>?_);refine pT ?_;refine sQ ?_;refine zai (fun K hK=>?_);go_simp;refine (zar).mono ?_;rw [q.out];rintro r V ⟨rfl,f⟩;refine hK.out _ _ (eJ aM f) (fun hS=>?_);refine pT ?_;refine sQ ?_;refine zai (fun K hK=>?_);go_simp;refine (zbz _ _ B _).mono ?_;rw [v.out];rintro r w4 ⟨rfl,rfl⟩;refine hK.out _ _ aM (fun hS=>?_);refine pT ?_;refine sQ ?_;refine zcs ?_;go_wp2_with fail
          go_roundw
          case rel=>exact⟨0+1,oM,gM,zch t.out x.out (by rw [zbi,D.out];dsimp only;rw [C.out];simp),(m.trans F).trans aM⟩
          case measure=>simp [intOf];omega
         ·obtain⟨j,rfl⟩:∃ j,k=j+1:=⟨k - 1,oM⟩;have hp:s.edges[j]?=some (s.edges[j]'(oH h.1)):=dD _;generalize s.edges[j]'(oH h.1)=p at hp;have Z:=za hp;clear hp;have z:=(HR.out wr (((dB _).alloc _).trans m)).edge2 Z.out;have p0:∀ X,Ext W X->X.cell? ⟨b,o+j*3,none⟩=some (.int .i64 p.fr):=fun X hX=>(F.trans hX).aa z.1;have p1:∀ X,Ext W X->X.cell? ⟨b,o+j*3+1,none⟩=some (.int .i64 p.le):=fun X hX=>(F.trans hX).aa z.2.1;have p2:∀ X,Ext W X->X.cell? ⟨b,o+j*3+2,none⟩=some (.int .i64 p.ta):=fun X hX=>(F.trans hX).aa z.2.2;clear z;have au:decide ((0:Int)<(j:Int)+1)=true:=decide_eq_true oM;have ay:IntKind.i64.wrap ((j:Int)+1 - 1)=(j:Int):=by rw [IntKind.wrap_i64];omega
          have az:IntKind.i64.wrap (j:Int)=(j:Int):=by rw [IntKind.wrap_i64];omega
          have aq:(0:Int)<=(j:Int):=oM;have ar:(j:Int)<(n:Int):=oM;have T:=cmpE_lt p e;have Q:=za T;clear T
          by_cases hc:0<=cmpE p e
          ·have ab:decide (0<=cmpE p e)=true:=by simpa using hc
           have E:=za (show ltE p e=false by rw [eM];intro hh;have:=Q.out.2 hh;omega);refine zam (fun X=>Ext W X) [0,1,2,3,4,5,6,7,8,9,10,11,12,13,14,15,16,17,18,19,20,21,22,23,24,25,26,27,28,29,30,31,32,33,34,35,36,37,38,39] kM rfl kM kM (fun _ _ _ _ _ h=>h) ((dB _).drew) (fun hS=>?_);refine sQ ?_;refine zai (fun K hK=>?_);go_simp;refine (zar).mono ?_;rw [g.out];rintro r J ⟨rfl,d⟩;refine hK.out _ _ (eJ aM d) (fun hS=>?_);refine pT ?_;refine sQ ?_;refine zai (fun K hK=>?_);go_simp;refine (zar).mono ?_;rw [q.out];rintro r V ⟨rfl,f⟩;refine hK.out _ _ (eJ aM f) (fun hS=>?_);refine pT ?_;refine sQ ?_;refine zai (fun K hK=>?_);go_simp;refine (zbz _ _ B _).mono ?_;rw [v.out];rintro r w4 ⟨rfl,rfl⟩;refine hK.out _ _ aM (fun hS=>?_);refine pT ?_;refine sQ ?_;refine zai (fun K hK=>?_);go_simp;refine (zcZ (a:=p) (b:=e)).mono ?_;rintro r w5 ⟨rfl,G⟩;refine hK.out _ _ (eJ aM G) (fun hS=>?_);refine pT ?_;refine sQ ?_;refine zcs ?_;go_wp2_with fail
           go_ret;exact⟨zj (by rw [y.out,zaH t.out (by rw [zbi,D.out];dsimp only;rw [gK,Z.out];simp [E.out])];simp),l.out _ aM⟩
          ·have ab:decide (0<=cmpE p e)=false:=by simp;omega
           have E:=za (show ltE p e=true from Q.out.1 oM);refine zam (fun X=>Ext W X) [0,1,2,3,4,5,6,7,8,9,10,11,12,13,14,15,16,17,18,19,20,21,22,23,24,25,26,27,28,29,30,31,32,33,34,35,36,37,38,39] kM rfl kM kM (fun _ _ _ _ _ h=>h) ((dB _).drew) (fun hS=>?_);refine sQ ?_;refine zai (fun K hK=>?_);go_simp;refine (zar).mono ?_;rw [g.out];rintro r J ⟨rfl,d⟩;refine hK.out _ _ (eJ aM d) (fun hS=>?_);refine pT ?_;refine sQ ?_;refine zai (fun K hK=>?_);go_simp;refine (zar).mono ?_;rw [q.out];rintro r V ⟨rfl,f⟩;refine hK.out _ _ (eJ aM f) (fun hS=>?_);refine pT ?_;refine sQ ?_;refine zai (fun K hK=>?_);go_simp;refine (zbz _ _ B _).mono ?_;rw [v.out];rintro r w4 ⟨rfl,rfl⟩;refine hK.out _ _ aM (fun hS=>?_);refine pT ?_;refine sQ ?_;refine zai (fun K hK=>?_);go_simp;refine (zcZ (a:=p) (b:=e)).mono ?_;rintro r w5 ⟨rfl,G⟩;refine hK.out _ _ (eJ aM G) (fun hS=>?_);refine pT ?_;refine sQ ?_;refine zcs ?_;go_wp2_with fail
           go_roundw
           case rel=>exact⟨j+1+1,oM,gM,zch t.out x.out (by rw [zbi,D.out];dsimp only;rw [gK,Z.out,C.out];simp [E.out]),(m.trans F).trans aM⟩
           case measure=>simp [intOf];omega
    ·obtain rfl:k=n:=oM;go_wp2;go_ret;exact⟨zj (by rw [y.out,zdF sM x.out,I.out];simp;omega),((dB _).alloc _).trans m⟩
  ·go_enter Tryz.func65,Tryz.ntmps65
   have I:=za (show decide (0<=s.al∧s.al<=63)=true by simp;omega);go_wp2_with (go_at_call 82;refine (zas _ _).mono ?_;rw [I.out];rintro e w' ⟨rfl,rfl⟩)
   all_goals go_ret
   all_goals exact⟨zj (by rw [y.out];simp [hst]),(dB _).alloc _⟩
 ·go_enter Tryz.func65,Tryz.ntmps65
  have I:=za (show decide (0<=s.al∧s.al<=63)=false by simp;omega);go_wp2_with (go_at_call 82;refine (zas _ _).mono ?_;rw [I.out];rintro e w' ⟨rfl,rfl⟩)
  go_ret;exact⟨zj (by rw [y.out];simp;omega),(dB _).alloc _⟩
theorem zdx {al:Nat}  {e:Edg} (hsm:Sm al) :
  Calls Tryz.prog 262 #[al,st,.agg #[e.fr,e.le,e.ta]] w fun r w'=>r=.returned (.bool (edgB al st e))∧Ext w w':=by
 have a:=za (show edgB al st e=((decide (0<=e.fr)&&decide (e.fr<st))&&((decide (0<=e.ta)&&decide (e.ta<st))&&(decide (e.le<6)&&hasB al e.le))) from rfl)
 by_cases h0:e.fr<0
 ·go_enter Tryz.func262,Tryz.ntmps262
  go_wp2;go_ret;exact⟨zj (by rw [a.out];simp;omega),(dB _).alloc _⟩
 ·by_cases h1:st<=e.fr
  ·go_enter Tryz.func262,Tryz.ntmps262
   go_wp2;go_ret;exact⟨zj (by rw [a.out];simp;omega),(dB _).alloc _⟩
  ·by_cases h2:e.ta<0
   ·go_enter Tryz.func262,Tryz.ntmps262
    go_wp2;go_ret;exact⟨zj (by rw [a.out];simp;omega),(dB _).alloc _⟩
   ·by_cases h3:st<=e.ta
    ·go_enter Tryz.func262,Tryz.ntmps262
     go_wp2;go_ret;exact⟨zj (by rw [a.out];simp;omega),(dB _).alloc _⟩
    ·by_cases h4:0<=e.le
     ·by_cases h5:e.le<6
      ·obtain⟨le,b⟩:∃ le:Nat,Hid (e.le=le):=⟨e.le.toNat,by unfold Hid;omega⟩;have c:(le:Int)<6:=oH b.out;clear h4 h5;rw [b.out]
       go_enter Tryz.func262,Tryz.ntmps262
       go_wp2_with (go_at_call 143;refine (zau al le hsm _ oM).mono ?_;rintro r w' ⟨rfl,rfl⟩)
       go_ret;exact⟨zj (by rw [a.out,b.out,decide_eq_true (show 0<=e.fr by omega),decide_eq_true (show e.fr<st by omega),decide_eq_true (show 0<=e.ta by omega),decide_eq_true (show e.ta<st by omega),decide_eq_true c];simp [hasB]),(dB _).alloc _⟩
      ·go_enter Tryz.func262,Tryz.ntmps262
       go_wp2_with fail
       go_ret;exact⟨zj (by rw [a.out];simp;omega),(dB _).alloc _⟩
     ·go_enter Tryz.func262,Tryz.ntmps262
      go_wp2_with fail
      go_ret;exact⟨zj (by rw [a.out];simp [hasB];omega),(dB _).alloc _⟩
theorem zdw {a b:Edg}  :
  Calls Tryz.prog 261 #[.agg #[a.fr,a.le,a.ta],.agg #[b.fr,b.le,b.ta]] w fun e w'=>e=.returned (.bool (ltE a b))∧Ext w w':=by
 have c:=za (show ltE a b=if a.fr=b.fr then if a.le=b.le then decide (a.ta<b.ta) else decide (a.le<b.le) else decide (a.fr<b.fr) from rfl);have g:Ext w ((w.alloc (.cells #[Value.int .i64 a.fr,a.le,a.ta] 117)).alloc (.cells #[Value.int .i64 b.fr,b.le,b.ta] 117)):=((dB _).alloc _).alloc _;have d:=za g;clear g
 by_cases h0:a.fr=b.fr
 ·have i:(a.fr != b.fr)=false:=by simp [h0]
  have f:=za h0;clear h0
  by_cases h1:a.le=b.le
  ·have j:(a.le != b.le)=false:=by simp [h1]
   have h:=za h1;clear h1
   go_enter Tryz.func261,Tryz.ntmps261
   go_wp2;go_ret;exact⟨zj (by rw [c.out,if_pos f.out,if_pos h.out]),d.out⟩
  ·have j:(a.le != b.le)=true:=by simp [h1]
   go_enter Tryz.func261,Tryz.ntmps261
   go_wp2;go_ret;exact⟨zj (by rw [c.out,if_pos f.out,if_neg h1]),d.out⟩
 ·have i:(a.fr != b.fr)=true:=by simp [h0]
  go_enter Tryz.func261,Tryz.ntmps261
  go_wp2;go_ret;exact⟨zj (by rw [c.out,if_neg h0]),d.out⟩
theorem zak (h:zO w lo hi A n s) :
  Calls Tryz.prog 185 #[.agg #[s.al,s.st,.slice A n c]] w fun e w'=>e=.returned (.bool (zk s))∧Ext w w':=by
 have y:=za (show zk s=(decide (0<=s.al∧s.al<=63)&&(decide (1<=s.st∧s.st<=16)&&(fK n).all (zbi s.al.toNat s.st s.edges))) by unfold zk;rw [← h.1]);have hn:=h.2.len
 by_cases hal:0<=s.al∧s.al<=63
 ·by_cases hst:1<=s.st∧s.st<=16
  ·obtain⟨al,g⟩:∃ al:Nat,Hid (s.al=al):=⟨s.al.toNat,by unfold Hid;omega⟩;have u:Sm al:=by have:=g.out;unfold Sm;omega
   have B:=za (show decide (0<=(al:Int)∧(al:Int)<=63)=true by have:=g.out;simp;omega);rw [g.out];rw [g.out,eN] at y;clear hal;have I:decide (s.st<1)=false:=by simp;omega
   have J:decide (16<s.st)=false:=by simp;omega
   obtain⟨st,D,ah,ai⟩:∃ st:Int,Hid (s.st=st)∧1<=st∧st<=16:=⟨s.st,za rfl,hst.1,hst.2⟩;rw [D.out] at I J y ⊢;clear hst;have T:=fun W (hW:Ext w W)=>h.2.ext hW;have O:=za T;clear T
   go_enter Tryz.func185,Tryz.ntmps185
   go_wp2_with (go_at_call 142;refine (zW _ _).mono ?_;rw [B.out];rintro e w' ⟨rfl,rfl⟩)
   go_loopw [3] (fun i wr=>∃ k:Nat,k<=n∧i=.int .i64 k∧Hid (((fK n).take k).all (zbi al st s.edges)=true)∧Ext (w.alloc (.cells #[Value.int .i64 al,st,Value.slice A n c] 38)) wr)
    (fun i _=>n - (intOf i).toNat)
   case atStart=>exact⟨0,dG _,rfl,rfl,dB _⟩
   case round =>
    obtain⟨k,hk,rfl,l,d⟩:=hrel;have H:=zcz d
    by_cases hlt:k<n
    ·obtain⟨b,o,e,rfl,ag,Y,F,Q,R,S⟩:=(O.out wr (((dB _).alloc _).trans d)).az hlt;go_wp2_with fail
     clear H;have e0:∀ X,Ext wr X->∀ j,X.cell? ⟨w.heap.size,j,none⟩=#[Value.int .i64 al,.int .i64 st,Value.slice (some ⟨b,o,none⟩) n c][j]?:=fun X hX=>zcz (d.trans hX);have q0:∀ X,Ext wr X->X.cell? ⟨b,o+k*3,none⟩=some (.int .i64 e.fr):=fun X hX=>hX.aa Q;have q1:∀ X,Ext wr X->X.cell? ⟨b,o+k*3+1,none⟩=some (.int .i64 e.le):=fun X hX=>hX.aa R;have q2:∀ X,Ext wr X->X.cell? ⟨b,o+k*3+2,none⟩=some (.int .i64 e.ta):=fun X hX=>hX.aa S;have hr:=dB wr;clear Q R S;have E:∀ X,Ext wr X->Ext w X:=fun X hX=>(((dB _).alloc _).trans d).trans hX;have v:=za E;clear E;have U:(0:Int)<=(k:Int):=oM;have V:(k:Int)<(n:Int):=oM;have C:(fK n)[k]?=some k:=by rw [gS hlt]
     have q:=za C;clear C;cases hA':edgB al st e
     ·have x:=za hA';clear hA';refine zam (fun X=>Ext wr X) [0,1,2,3,4,5,6,7,8,9,10,11,12,13,14,15,16,17,18,19,20,21,22,23,24,25,26,27,28,29] kM rfl kM kM (fun _ _ _ _ _ h=>h) ((dB _).drew) (fun hS=>?_);refine sQ ?_;refine zai (fun K hK=>?_);go_simp;refine (zdx (e:=e) u).mono ?_;rw [x.out];rintro r M ⟨rfl,f⟩;refine hK.out _ _ (eJ aM f) (fun hS=>?_);refine pT ?_;refine sQ ?_;refine zcs ?_;go_wp2_with fail
      go_ret;exact⟨zj (by rw [y.out,zaH q.out (by rw [zbi,F.out];dsimp only;rw [x.out];simp)];simp),v.out _ aM⟩
     ·have x:=za hA';clear hA'
      by_cases hk0:k=0
      ·subst hk0;simp only [Nat.zero_mul,Nat.add_zero] at q0 q1 q2;refine zam (fun X=>Ext wr X) [0,1,2,3,4,5,6,7,8,9,10,11,12,13,14,15,16,17,18,19,20,21,22,23,24,25,26,27,28,29] kM rfl kM kM (fun _ _ _ _ _ h=>h) ((dB _).drew) (fun hS=>?_);refine sQ ?_;refine zai (fun K hK=>?_);go_simp;refine (zdx (e:=e) u).mono ?_;rw [x.out];rintro r M ⟨rfl,f⟩;refine hK.out _ _ (eJ aM f) (fun hS=>?_);refine pT ?_;refine sQ ?_;refine zcs ?_;go_wp2_with fail
       go_roundw
       case rel=>exact⟨0+1,oM,gM,zch q.out l.out (by rw [zbi,F.out];dsimp only;rw [x.out];simp),d.trans aM⟩
       case measure=>simp [intOf];omega
      ·obtain⟨j,rfl⟩:∃ j,k=j+1:=⟨k - 1,oM⟩;have L:s.edges[j]?=some (s.edges[j]'(oH h.1)):=dD _;generalize s.edges[j]'(oH h.1)=p at L;have G:=za L;clear L;have t:=(O.out wr (((dB _).alloc _).trans d)).edge2 G.out;have p0:∀ X,Ext wr X->X.cell? ⟨b,o+j*3,none⟩=some (.int .i64 p.fr):=fun X hX=>hX.aa t.1;have p1:∀ X,Ext wr X->X.cell? ⟨b,o+j*3+1,none⟩=some (.int .i64 p.le):=fun X hX=>hX.aa t.2.1;have p2:∀ X,Ext wr X->X.cell? ⟨b,o+j*3+2,none⟩=some (.int .i64 p.ta):=fun X hX=>hX.aa t.2.2;clear t;have af:decide ((0:Int)<(j:Int)+1)=true:=decide_eq_true oM;have aj:IntKind.i64.wrap ((j:Int)+1 - 1)=(j:Int):=by rw [IntKind.wrap_i64];omega
       have ak:IntKind.i64.wrap (j:Int)=(j:Int):=by rw [IntKind.wrap_i64];omega
       have Z:(0:Int)<=(j:Int):=oM;have aa:(j:Int)<(n:Int):=oM;have ab:(0:Int)<=(j:Int)+1:=oM;have ad:(j:Int)+1<(n:Int):=oM;have ae:((j:Int)+1).toNat=j+1:=oM;cases hnl':ltE p e
       ·have m:=za hnl';clear hnl';refine zam (fun X=>Ext wr X) [0,1,2,3,4,5,6,7,8,9,10,11,12,13,14,15,16,17,18,19,20,21,22,23,24,25,26,27,28,29] kM rfl kM kM (fun _ _ _ _ _ h=>h) ((dB _).drew) (fun hS=>?_);refine sQ ?_;refine zai (fun K hK=>?_);go_simp;refine (zdx (e:=e) u).mono ?_;rw [x.out];rintro r M ⟨rfl,f⟩;refine hK.out _ _ (eJ aM f) (fun hS=>?_);refine pT ?_;refine sQ ?_;refine zai (fun K hK=>?_);go_simp;refine (zdw (a:=p) (b:=e)).mono ?_;rw [m.out];rintro r w3 ⟨rfl,z⟩;refine hK.out _ _ (eJ aM z) (fun hS=>?_);refine pT ?_;refine sQ ?_;refine zcs ?_;go_wp2_with fail
        go_ret;exact⟨zj (by rw [y.out,zaH q.out (by rw [zbi,F.out];dsimp only;rw [gK,G.out];simp [m.out])];simp),v.out _ aM⟩
       ·have m:=za hnl';clear hnl';refine zam (fun X=>Ext wr X) [0,1,2,3,4,5,6,7,8,9,10,11,12,13,14,15,16,17,18,19,20,21,22,23,24,25,26,27,28,29] kM rfl kM kM (fun _ _ _ _ _ h=>h) ((dB _).drew) (fun hS=>?_);refine sQ ?_;refine zai (fun K hK=>?_);go_simp;refine (zdx (e:=e) u).mono ?_;rw [x.out];rintro r M ⟨rfl,f⟩;refine hK.out _ _ (eJ aM f) (fun hS=>?_);refine pT ?_;refine sQ ?_;refine zai (fun K hK=>?_);go_simp;refine (zdw (a:=p) (b:=e)).mono ?_;rw [m.out];rintro r w3 ⟨rfl,z⟩;refine hK.out _ _ (eJ aM z) (fun hS=>?_);refine pT ?_;refine sQ ?_;refine zcs ?_;go_wp2_with fail
        go_roundw
        case rel=>exact⟨j+1+1,oM,gM,zch q.out l.out (by rw [zbi,F.out];dsimp only;rw [gK,G.out,x.out];simp [m.out]),d.trans aM⟩
        case measure=>simp [intOf];omega
    ·obtain rfl:k=n:=oM;go_wp2;go_ret;exact⟨zj (by rw [y.out,zdF sM l.out,B.out];simp;omega),((dB _).alloc _).trans d⟩
  ·go_enter Tryz.func185,Tryz.ntmps185
   have B:=za (show decide (0<=s.al∧s.al<=63)=true by simp;omega);go_wp2_with (go_at_call 142;refine (zW _ _).mono ?_;rw [B.out];rintro e w' ⟨rfl,rfl⟩)
   all_goals go_ret
   all_goals exact⟨zj (by rw [y.out];simp [hst]),(dB _).alloc _⟩
 ·go_enter Tryz.func185,Tryz.ntmps185
  have B:=za (show decide (0<=s.al∧s.al<=63)=false by simp;omega);go_wp2_with (go_at_call 142;refine (zW _ _).mono ?_;rw [B.out];rintro e w' ⟨rfl,rfl⟩)
  go_ret;exact⟨zj (by rw [y.out];simp;omega),(dB _).alloc _⟩
theorem zbl (h:zk s=true):∃ p:Nat,s.st=p∧1<=p∧p<=16∧Few p s.edges:=by
 simp only [zk,dI,decide_eq_true_eq,List.all_eq_true,List.mem_range] at h;obtain⟨_,⟨c,d⟩,b⟩:=h;refine⟨s.st.toNat,oM,oM,oM,fun e he=>?_⟩;obtain⟨k,a⟩:=List.getElem?_of_mem he;have:=b k (List.getElem?_eq_some_iff.1 a).1;rw [zbi,a] at this;simp only [dI,edgB,decide_eq_true_eq,hasB] at this;omega
def RetFmt (s:Sys) (w:World) (e:Ending) (w':World):Prop:=∃ t:ByteArray,e=.returned (.string t)∧(zk s=false->t.size=0)∧Ext w w'
theorem valid_al (h:zk s=true):∃ a:Nat,s.al=a∧a<64:=by
 simp only [zk,dI,decide_eq_true_eq] at h;exact⟨s.al.toNat,oM,oM⟩
theorem zfP (h:zO w lo hi A n s)(hn:n<=1000000) :
  Calls Tryz.prog 260 #[.agg #[s.al,s.st,.slice A n c]] w (RetFmt s w):=by
 have R:=za (fun W (hW:Ext w W)=>h.ext hW);clear h;cases h1:zk s
 ·have L:=za h1;clear h1
  go_enter Tryz.func260,Tryz.ntmps260
  go_wp2_with (go_at_call 185;refine (zak (R.out _ ((dB _).alloc _))).mono ?_;rw [L.out];rintro e Q ⟨rfl,M⟩)
  go_ret;exact⟨_,rfl,fun _=>rfl,((dB _).alloc _).trans M⟩
 ·obtain⟨p,hp,aw,ax,hf⟩:=zbl h1;obtain⟨a,ha,S⟩:=valid_al h1;have L:=za h1;have Hf:=za hf;have Hp:=za hp;have Ha:=za ha;clear h1 hf hp ha
  go_enter Tryz.func260,Tryz.ntmps260
  go_wp2_with fail
  refine (zak (R.out _ ((dB _).alloc _))).mono ?_;rw [L.out];rintro e Q ⟨rfl,M⟩;have b1:=zbP M;rw [Ha.out,Hp.out] at b1;have G:=((dB w).alloc _).trans M;have cb:=b1.cells;go_wp2_with fail
  refine tR (fun X=>Ext Q X) [] (Ord.of [0,1,4,5,2,3,6,7,8]) ?_;refine tQ ?_;refine zB fun K hK=>?_;go_simp;refine (zbF S).mono ?_;rintro e w2 ⟨j,rfl,C,m⟩;have f:=((dB Q).drew).trans m;have q1:¬ 9223372036854775807<j.size+1:=oM;refine hK.out _ _ f ?_;refine pT ?_;refine tQ ?_;refine zB fun K hK=>?_;go_simp;refine (zdt (n:=p) oM).mono ?_;rintro e w3 ⟨y,rfl,D,q⟩;have g:=f.trans q;have q2:¬ 9223372036854775807<j.size+1+y.size:=oM;refine hK.out _ _ g ?_;refine pT ?_;refine tQ ?_;refine zal ?_;obtain⟨O,z⟩:∃ O:ByteArray,O=j++{ data:=#[32] }++y:=⟨_,rfl⟩;have B:O.size<=20:=by rw [z,ByteArray.size_append,ByteArray.size_append];show j.size+1+y.size<=20;omega
  rw [← z];clear z q1 q2 C D m q f;have d:=g;go_wp2_with fail
  go_loopw [3,4] (fun v i wr=>∃ (k:Nat) (t:ByteArray),k<=n∧i=.int .i64 k∧v=.string t∧t.size<=20+20*k∧Ext Q wr) (fun _ i _=>n - (intOf i).toNat)
  case atStart=>exact⟨0,O,dG _,rfl,rfl,B,d⟩
  case round =>
   clear d g B;obtain⟨k,t,hk,rfl,rfl,ht,r⟩:=hrel;have aq:=cb wr r
   by_cases hlt:k<n
   ·obtain⟨b,o,x,rfl,_,_,V,c0,c1,c2⟩:=(R.out wr (G.trans r)).2.az hlt;obtain⟨⟨f0,f1⟩,⟨g0,g1⟩,⟨t0,t1⟩⟩:=Hf.out x (dC V.out);obtain⟨u,E⟩:∃ u:Nat,x.fr=u:=⟨x.fr.toNat,oM⟩;obtain⟨v,F⟩:∃ v:Nat,x.ta=v:=⟨x.ta.toNat,oM⟩;rw [E] at c0 f0 f1;rw [F] at c2 t0 t1;clear E F;go_wp2_with fail
    generalize U0:wr.alloc _=wq at *;have Z:=Ext.al_ U0;have T:=Ext.bl_ U0;clear U0;have cq:=T.cells;have q0:¬ 9223372036854775807<t.size+1:=oM;refine tR (fun X=>Ext wq X) [] (Ord.of [0,1,2,3,6,7,10,11,4,5,8,9,12,13,14]) ?_;refine tQ ?_;refine zB fun K hK=>?_;go_simp;refine (zdt (n:=u) oM).mono ?_;rintro e w2 ⟨j,rfl,C,m⟩;have H:=((dB wq).drew).trans m;have q1:¬ 9223372036854775807<t.size+1+j.size:=oM;refine hK.out _ _ H ?_;refine pT ?_;refine tQ ?_;refine zB fun K hK=>?_;go_simp;refine (zdv (l:=x.le) g0 g1).mono ?_;rintro e w3 ⟨y,rfl,D,q⟩;have I:=H.trans q;have q2:¬ 9223372036854775807<t.size+1+j.size+y.size:=oM;refine hK.out _ _ I ?_;refine pT ?_;refine tQ ?_;refine zB fun K hK=>?_;go_simp;refine (zdt (n:=v) oM).mono ?_;rintro e w5 ⟨t5,rfl,ay,Y⟩;have J:=I.trans Y;have q3:¬ 9223372036854775807<t.size+1+j.size+y.size+t5.size:=oM;refine hK.out _ _ J ?_;refine pT ?_;refine tQ ?_;refine zal ?_;have U:(t++{ data:=#[32] }++j++y++t5).size<=20+20*(k+1):=by
     simp only [ByteArray.size_append];show t.size+1+j.size+y.size+t5.size<=_;omega
    clear q0 q1 q2 q3;go_wp2_with fail
    go_roundw
    case rel=>exact⟨k+1,_,oM,gM,rfl,U,(r.trans Z).trans J⟩
    case measure=>simp [intOf];omega
   ·obtain rfl:n=k:=oM;go_wp2_with fail
    go_ret;have hv:=L.out;exact⟨t,rfl,fun h=>absurd (hv.symm.trans h) dM,G.trans r⟩
theorem wpList_push2 {P:Program} (wb w:World) {ops:Array Oper} {rest:List Oper} {o:Oper} {a:Act} {Q:Exit->Act->World->Prop}(hgd:o.guard=none) (s x:Operand) (t:TypeId)
  (ho:o.op=.call { callee:=.builtin .append,args:=#[s,x],argTypes:=#[t,t] })
  (e:TypeId) (z:Value) (size bytes:Nat) (ht:P.underlying t=some (.slice e)) (hi:(P.info? e).map (fun i=>(i.zero,i.size,i.bytes))=some (some z,size,bytes)) (hzs:z.cells.size=size) (hsz:0<size)
  (v:Value) (n:Nat) (xs:List Value) (us:Array Value) (e':TypeId) (hs:a.eval s=v) (hx:a.eval x=.slice (some w.heap.size) 1 1)
  (zjg:wb.heap.size<=w.heap.size) (zje:w.ownsRow wb.heap.size e size v n xs) (hus:us.size=size) (h1:∀ u∈us.toList,u.oneCell'=true)
  (h63:n+1<=maxLen) (hbytes:(n+1)*bytes<=140737488355328)
  (h:∀ g cap w',w'.ownsRow wb.heap.size e size (.slice (some ⟨g,0,none⟩) (n+1) cap) (n+1) (xs++us.toList)->w.grownBy w' v.ownBlock->(v.ownBlock=some g∨g=w.heap.size+1)->g<w'.heap.size->wpList P ops Q rest (a.put o.dst (.slice (some ⟨g,0,none⟩) (n+1) cap)) w') :
  wpList P ops Q (o :: rest) a (w.alloc (.cells us e')):=
 wpList_plain hgd fun _ hK=>zaE wb w s x t ho e z size bytes ht hi hzs hsz v n xs us e' hs hx zjg zje hus h1 h63 hbytes fun g cap w' h2 h3 h4 h5=>hK _ _ (h g cap w' h2 h3 h4 h5)
theorem Reads.str {l:List ByteArray}(h:Reads w lo hi 1 A n (zaa l))(hk:k<n):∃ ad x,A=some ad∧lo<=ad.block∧ad.block<hi∧Hid (l[k]?=some x)∧w.cell? (ad.add k)=some (.string x):=by
 obtain⟨ad,u,e,a,b,d,c⟩:=h.one hk;have:=d.out;simp only [zaa,dS,Option.map_eq_some_iff] at this;obtain⟨x,f,rfl⟩:=this;exact⟨ad,x,e,a,b,f,c⟩
theorem valid_good (h:zk s=true):Good s:=by
 obtain⟨p,i,c,d,g⟩:=zbl h;obtain⟨a,f,b⟩:=valid_al h;exact⟨a,p,f,b,i,c,d,g⟩
theorem Acc.fillRD {v:Value} (h:Acc w0 wB W R G M al st v es)(hZ:w0.heap.size<=Z) (u0 u1 u2:Value) :
  Rd (((W.setCell Z u0).setCell ⟨Z,1,none⟩ u1).setCell ⟨Z,2,none⟩ u2) R M∧Dr R w0 (((W.setCell Z u0).setCell ⟨Z,1,none⟩ u1).setCell ⟨Z,2,none⟩ u2):=
 ⟨h.rd.frm (zdW W Z u0 u1 u2) (fun k h1 h2=>oH h.hR),((h.dr.ag (p:=⟨Z,0,none⟩) hZ u0).ag (p:=⟨Z,1,none⟩) hZ u1).ag (p:=⟨Z,2,none⟩) hZ u2⟩
theorem str_empty {t:ByteArray}(h:t.toList=x.toList)(h0:t.size=0):x.size=0:=by
 have a:=congrArg List.length h;rw [ByteArray.toList_eq,ByteArray.toList_eq] at a;have b:t.data.toList.length=t.size:=rfl;have c:x.data.toList.length=x.size:=rfl;omega
def Fair (s:Sys):Prop:=∃ a p:Nat,s.al=a∧a<64∧s.st=p∧p<=16∧Few (p+1) s.edges
theorem Good.fair (h:Good s):Fair s:=by
 obtain⟨a,p,b,c,d,_,f,g⟩:=h;exact⟨a,p,b,c,d,f,fun e he=>by have:=g e he;omega⟩
theorem fair_zero:Fair ⟨0,0,[]⟩:=⟨0,0,rfl,oM,rfl,oM,fun e he=>by cases he⟩
def zik (R M L:Nat) (w:World) (e:Ending) (w':World):Prop:=
 ∃ (s:Sys) (A:Option Addr) (n c:Nat) (ok:Bool),e=.returned (.tuple #[.agg #[s.al,s.st,.slice A n c],.bool ok])∧zbt w' R A n s∧((ok=true->Good s)∧Fair s)∧(n<=L∧n<=c)∧Rd w' R M∧Dr R w w'
theorem zgB {L:Nat} (h:Rd w' R M)(hd:Dr R w w'):zik R M L w (.returned (.tuple #[.agg #[(0:Int),(0:Int),()],.bool false])) w':=
 ⟨⟨0,0,[]⟩,none,0,0,false,rfl,⟨rfl,oM,fun h0=>oM⟩,⟨(fun h=>by cases h),fair_zero⟩,⟨dG _,dE _⟩,h,hd⟩
theorem yN02a1 {P:Prop}(h:P:=by
 obtain⟨g1,g2⟩:=hacc4.fillRD (Z:=w.heap.size) (Nat.le_refl _) (.int .i64 0) (.int .i64 0) (.slice none 0 0);exact bodyPost_ret (v:=.tuple #[.agg #[(0:Int),(0:Int),()],.bool false]) (by simp [results,Tryz.results181,go_sem,hz4]) rfl (zgB g1 g2)
 ):P:=h
theorem yN02a2 {P:Prop}(h:P:=by
 go_wp2_with fail
 exact bodyPost_ret (v:=.tuple #[.agg #[(0:Int),(0:Int),()],.bool false]) (by simp [results,Tryz.results181,go_sem,cz2]) rfl Hnone.out
 ):P:=h
theorem zct (h:Rd w R M)(hx:x.size<=1000) :
  Calls Tryz.prog 181 #[x] w (zik R M 1001 w):=by
 have aq:=h.lt
 go_enter Tryz.func181,Tryz.ntmps181
 go_wp2_with fail
 refine (spec_l19Cut (s:=x) oM).mono ?_;rintro e w1 ⟨B,m,d,l,rfl,ag,ak,af,hm,C⟩;have E:=zbP C;have a6:=E.lt;have G:=((dB w).alloc _).trans C;have V:=(eE ak).more (lo':=w.heap.size+1) (hi':=w1.heap.size) sM (dE _);have ab:=za af;have aO:=za ag;clear ak af ag C;have cz:=E.cell;have fz:=E.frozen;have z:=za (fun (W:World) (hW:Ext w1 W) (u0 u1 u2:Value)=>(⟨(h.ext (G.trans hW)).frm (zdW W w.heap.size u0 u1 u2) (fun k hk hS=>oM),(((G.trans hW).dr.ag (R:=R) (p:=⟨w.heap.size,0,none⟩) (dE _) u0).ag (p:=⟨w.heap.size,1,none⟩) (dE _) u1).ag (p:=⟨w.heap.size,2,none⟩) (dE _) u2⟩:Rd (((W.setCell w.heap.size u0).setCell ⟨w.heap.size,1,none⟩ u1).setCell ⟨w.heap.size,2,none⟩ u2) R M∧Dr R w (((W.setCell w.heap.size u0).setCell ⟨w.heap.size,1,none⟩ u1).setCell ⟨w.heap.size,2,none⟩ u2)))
 by_cases hm2:m<2
 ·go_wp2_with fail
  obtain⟨g1,g2⟩:=z.out w1 (dB _) (.int .i64 0) (.int .i64 0) (.slice none 0 0);exact bodyPost_ret (v:=.tuple #[.agg #[(0:Int),(0:Int),()],.bool false]) (by simp [results,Tryz.results181,go_sem,cz]) rfl (zgB g1 g2)
 ·obtain⟨ad,x0,rfl,a2,aZ,a3,T⟩:=V.str (k:=0) oM;obtain⟨b,o,rfl⟩:∃ b o,ad=⟨b,o,none⟩:=⟨_,_,zcU T⟩;rw [zX,Nat.add_zero] at T;obtain⟨aP,x1,S,_,_,C,U⟩:=V.str (k:=1) oM;obtain rfl:=Option.some.inj S;rw [zX] at U;have aI:(2:Int)<=(m:Int):=oM;have ar:=za (ab.out x1 (dC C.out));go_wp2_with fail
  refine (zcM (x:=x0)).mono ?_;rintro e O ⟨a,aA,rfl,ha,u⟩;have ae:=u.aa U;have Q:=E.ext u;have cz2:=Q.cell;have ao:=Q.frozen;go_wp2_with fail
  refine (zdu (s:=x1) (oH ar.out)).mono ?_;rintro e a8 ⟨y,aB,rfl,rfl⟩;obtain⟨g1,g2⟩:=z.out O u (.int .i64 0) (.int .i64 0) (.slice none 0 0);have Hnone:=za (zgB (L:=1001) g1 g2);clear g1 g2;cases aA
  ·exact yN02a2
  ·cases aB
   ·exact yN02a2
   ·have bG:=dX O 38 #[a,y,()];have Y:=(dB O).alloc (.cells #[a,y,()] 38);have a5:O.heap.size<(O.alloc (.cells #[a,y,()] 38)).heap.size:=sM;have aK:=u.size;have aJ:=G.size;have ax:=G.trans u;clear T U ae cz fz cz2 ao;go_wp2_with fail
    generalize O.alloc _=w3 at *;have X:=ax.trans Y;have ah:=(V.ext u).ext Y;have an:=Q.ext Y;have f:Acc w w3 w3 R O.heap.size M a y (.slice none 0 0) []:=⟨bG,World.ownsRow_nil _ _ _ _,h.ext X,X.dr,Frm.refl _ _,aq,X.size,oM⟩
    go_loopw [10] (fun i wr=>∃ (k:Nat) (v:Value) (t:List Edg),2<=k∧k<=m∧i=.int .i64 k∧Acc w w3 wr R O.heap.size M a y v t∧t.length<=k) (fun i _=>m - (intOf i).toNat)
    case atStart=>exact⟨2,_,[],dE _,oM,rfl,f,dG _⟩
    case round =>
     clear f;obtain⟨k,v,t,a1,hk,rfl,f,aY⟩:=hrel;have hG:=f.blk.cell;have F:=an.frm f.fr oM;have H:=F.cell;have I:=F.frozen;have ai:=f.old ah oM
     by_cases hlt:k<m
     ·obtain⟨ad,xk,S,_,_,ay,av⟩:=ai.str hlt;obtain rfl:=Option.some.inj S;rw [zX] at av;have au:=za (ab.out xk (dC ay.out));clear H I;go_wp2_with fail
      refine (spec_l2Parse (s:=xk) (oH au.out)).mono ?_;rintro e w4 ⟨r,aC,rfl,D⟩;have hacc4:=f.ext (D.alloc (.cells #[r.fr,r.le,r.ta] 117));have aR:=dX w4 117 #[r.fr,r.le,r.ta];have j:=F.ext (D.alloc (.cells #[r.fr,r.le,r.ta] 117));clear hG;cases aC
      ·have hz4:=j.cell;have az:=j.frozen;go_wp2_with fail
       generalize w4.alloc _=wq at *;exact yN02a1
      ·have ap:=hacc4.blk.cell;go_wp2_with (at_builtin;refine wpList_push2 w3 (w4.alloc (.cells #[r.fr,r.le,r.ta] 117)) rfl _ _ _ rfl 117 _ 3 24 Tryz.underlying36 zbb rfl dM v t.length (zu t) _ _ rfl (by first|rfl|simp [go_sem]) hacc4.fr.size hacc4.own rfl (by simp [Value.oneCell']) lM oM ?_;intro g cap w5 zjq hg5 hat5 hlt5;obtain⟨h1,h2,h3⟩:=hacc4.push (e:=r) (W':=w5) zjq hg5 hat5;have aV:=h1.out)
       go_roundw
       case rel=>exact⟨k+1,_,_,oM,oM,gM,h3,by simp;omega⟩
       case measure=>simp [intOf];omega
     ·obtain rfl:m=k:=oM;obtain⟨A,n,c,rfl⟩:=f.form;obtain⟨rfl,aj⟩:=f.reads;clear H I;go_wp2_with fail
      refine (zfP (s:=⟨a,y,t⟩) aj oM).mono ?_;rintro e w4 ⟨tx,rfl,aw,D⟩;have hacc4:=f.ext D;have j:=F.ext D;have hz4:=j.cell;have az:=j.frozen;have ap:=hacc4.blk.cell;cases hne:tx.toList==x.toList
      ·go_wp2_with fail
       exact yN02a1
      ·have J:zk (⟨a,y,t⟩:Sys)=true:=by
        cases hv:zk (⟨a,y,t⟩:Sys)
        ·exfalso;have h0:=aw hv;have a4:x.size=0:=str_empty (by simpa using hne) h0;omega
        ·rfl
       have q:=valid_good J;have aH:=ziG hacc4.own;obtain⟨g1,g2,g3⟩:=hacc4.fin (Z:=w.heap.size) (dE _) oM (.int .i64 a) (.int .i64 y) (.slice A t.length c);have aa:=za (show zik R M 1001 w (.returned (.tuple #[.agg #[a,y,.slice A t.length c],.bool true])) _ from ⟨⟨a,y,t⟩,A,t.length,c,true,rfl,g1,⟨fun _=>q,q.fair⟩,oM,g2,g3⟩);clear g1 g2 g3 q J;go_wp2_with fail
       exact bodyPost_ret (v:=.tuple #[.agg #[a,y,.slice A t.length c],.bool true]) (by simp [results,Tryz.results181,go_sem,hz4]) rfl aa.out
end Go.Proofs.YtckbjnndaaoddaaGreatDoor
