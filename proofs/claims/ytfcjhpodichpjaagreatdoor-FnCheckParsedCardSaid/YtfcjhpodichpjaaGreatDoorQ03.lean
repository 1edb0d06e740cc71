/- Drawn automa -/
import Derived.Test.YtfcjhpodichpjaaGreatDoorQ02
import Derived.Laws.Strings
import Derived.Laws.StructEq
import Derived.Deep.CutBlock
set_option maxHeartbeats 4000000
set_option maxRecDepth 100000
namespace Go.Proofs.YtfcjhpodichpjaaGreatDoor
open Go Go.RowKit
open Blk renaming new->dT
open Ext renaming bl_->dW,refl->cW
open Frm renaming ae->fJ,setCell->dE
open List renaming getElem?_append_left->dK,getElem?_append_right->dP,getElem?_eq_getElem->dC,getElem?_set_ne->fK,getElem?_set_self->eV,length_append->dL,length_set->fF,length_singleton->eA,mem_of_getElem?->cX,mem_or_eq_of_mem_set->eY,nil_append->eB,take_of_length_le->dG
open Nat renaming le_add_right->iS,le_refl->cY,le_trans->dJ,lt_or_eq_of_le->eU,zero_add->dS,zero_le->dD
open Reads renaming af->dY
variable {A A':Option Addr} {G K L M N R Z a base c c' cap g hi i j k lo n n' p:Nat} {W w w' w0 w1 wB:World} {acc:List Bool} {al st x:Int} {b:Aut} {cs us:Array Value} {e t:TypeId} {es:List Edg} {l:List Int} {ls:List (List Int)} {rows xs:List Value} {s:Sys} {v v' v0:Value}
theorem zG.snoc2 {row:Value} (h:zG w base rows ls)(hlow:∀ (i:Nat) (r:Value) (b:Nat),rows[i]?=some r->r.ownBlock=some b->b<N)(hN:base<=N)(hrow:w.ownsRow N 3 1 row l.length (ints l)) :
  zG w base (rows++[row]) (ls++[l]):=by
 have c:=h.1;refine⟨by simp [c],fun i r m hr hm=>?_,fun i j ri rj b hri hrj hij hbi=>?_⟩
 ·rcases Nat.lt_trichotomy i rows.length with a|a|a
  ·rw [dK a] at hr;rw [dK oM] at hm;exact h.2.1 i r m hr hm
  ·rw [dP oM,a,Nat.sub_self] at hr;rw [dP oM,a,c,Nat.sub_self] at hm;simp at hr hm;subst hr;subst hm;exact zn hrow hN
  ·rw [List.getElem?_eq_none (by simp;omega)] at hr;cases hr
 ·have f:∀ b,row.ownBlock=some b->N<=b:=fun b hb=>(hrow.lt b hb).1;have a:i<=rows.length:=by have:=(List.getElem?_eq_some_iff.1 hri).1;simp at this;omega
  have d:j<=rows.length:=by have:=(List.getElem?_eq_some_iff.1 hrj).1;simp at this;omega
  rcases eU a with a|a<;>rcases eU d with d|d
  ·rw [dK a] at hri;rw [dK d] at hrj;exact h.2.2 i j ri rj b hri hrj hij hbi
  ·rw [dK a] at hri;subst d;simp at hrj;subst hrj;intro hc;have h1:=hlow i ri b hri hbi;have g:=f b hc;omega
  ·rw [dK d] at hrj;subst a;simp at hri;subst hri;intro hc;have h1:=hlow j rj b hrj hc;have g:=f b hbi;omega
  ·omega
def zfT (R M:Nat) (sh:Aut->Prop) (w:World) (e:Ending) (w':World):Prop:=
 ∃ (a:Aut) (A:Option Addr) (n c:Nat) (A':Option Addr) (n' c':Nat),e=.returned (.agg #[a.al,.slice A n c,.slice A' n' c'])∧zX w' w.heap.size A n c A' n' c' a∧Hid (sh a)∧Rd w' R M∧Dr R w w'
structure zbv (w0 W:World) (R G M:Nat) (al:Int) (v:Value) (rows:List Value) (ls:List (List Int)) (vA:Value) (acc:List Bool):Prop where
 blk:Blk W G 26 #[al,v,vA]
 nx:W.ownsRow w0.heap.size 74 1 v ls.length rows
 rows:zG W w0.heap.size rows ls
 acc:W.ownsRow w0.heap.size 4 1 vA acc.length (zaA acc)
 rd:Rd W R M
 dr:Dr R w0 W
 hR:R<w0.heap.size
 hG:w0.heap.size<=G
section
variable {w0 W W':World} {R G M N:Nat} {al:Int} {v vA:Value} {rows:List Value} {ls:List (List Int)} {acc:List Bool}
theorem zbv.drawn (h:zbv w0 W R G M al v rows ls vA acc)(hd:Dr R W W')(hr:Rd W' R N):zbv w0 W' R G N al v rows ls vA acc:=
 ⟨h.blk.dr hd (by have:=h.hR;have:=h.hG;omega),zbd h.nx hd (fun b h1 e=>oH h.hR),h.rows.aq hd (fun b h1 e=>oH h.hR),zbd h.acc hd (fun b h1 e=>oH h.hR),hr,h.dr.trans hd,h.hR,h.hG⟩
theorem zbv.ext (h:zbv w0 W R G M al v rows ls vA acc)(hx:Ext W W'):zbv w0 W' R G M al v rows ls vA acc:=h.drawn (Ext.dr hx) (h.rd.ext hx)
theorem zbv.more (h:zbv w0 W R G M al v rows ls vA acc)(hM:M<=N):zbv w0 W R G N al v rows ls vA acc:={ h with rd:=h.rd.more hM }
theorem zbv.low (h:zbv w0 W R G M al v rows ls vA acc):∀ (i:Nat) (r:Value) (b:Nat),rows[i]?=some r->r.ownBlock=some b->b<W.heap.size:=fun i r b hr hb=>by
 obtain⟨l,_,ho⟩:=h.rows.row hr
 exact (ho.lt b hb).2
theorem zbv.grown (h:zbv w0 W R G M al v rows ls vA acc)   {size:Nat} (ho:W.ownsRow w0.heap.size e size v0 k xs)(hg:W.grownBy W' v0.ownBlock):Dr R w0 W'∧Rd W' R M:=by
 have a:=h.hR;refine⟨h.dr.grown hg (fun k hk=>(ho.lt k hk).1),h.rd.frm (fJ hg) (fun k hk hS=>by have:=(ho.lt k hS).1;omega)⟩
theorem zbv.ar {row:Value}  (h:zbv w0 W R G M al v rows ls vA acc)(hlow:∀ (i:Nat) (r:Value) (b:Nat),rows[i]?=some r->r.ownBlock=some b->b<K)(hK:w0.heap.size<=K)(hrow:W.ownsRow K 3 1 row l.length (ints l))
  (zjc:W'.ownsRow w0.heap.size 74 1 (.slice (some g) (ls.length+1) cap) (ls.length+1) (rows++[row]))
  (hg:W.grownBy W' v.ownBlock) (hat:v.ownBlock=some g∨g=W.heap.size+1) :
  Hid (W'.cell? ⟨G,1,none⟩=some v)∧W'.frozen? ⟨G,1,none⟩=false∧zbv w0 (W'.setCell ⟨G,1,none⟩ (.slice (some g) (ls.length+1) cap)) R G M al (.slice (some g) (ls.length+1) cap) (rows++[row]) (ls++[l]) vA acc:=by
 have n:=h.hR;have d:=h.hG;have c:Blk W' G 26 #[.int .i64 al,v,vA]:=(hg.block G h.blk.lt (fun e=>zq h.nx h.blk dM e.symm rfl)).trans h.blk;have t:g≠G:=by
  rcases hat with h1|h1
  ·exact zq h.nx h.blk dM h1
  ·have:=h.blk.lt;omega
 have f:Frm (fun k=>v.ownBlock=some k) W W':=fJ hg;obtain⟨o,s⟩:=h.grown h.nx hg;have j:=h.rows.snoc2 hlow hK hrow;have m:zG W' w0.heap.size (rows++[row]) (ls++[l]):=j.frm f (fun i r b hr hb hS=>by
  obtain⟨u,_,q⟩:=j.row hr;exact zaM q h.nx dM hb hS)
 have zjd:W'.ownsRow w0.heap.size 4 1 vA acc.length (zaA acc):=zf h.acc f (fun b hb hS=>zaM h.acc h.nx dM hb hS);have a:=dE W' G 1 (.slice (some g) (ls.length+1) cap);refine⟨c.cell 1,c.frozen 1,⟨by simpa using c.ab 1 _,?_,?_,?_,s.frm a (fun k hk e=>oM),o.ag (p:=⟨G,1,none⟩) d _,n,d⟩⟩
 ·rw [dL,eA];exact zf zjc a (fun b hv hS=>by
   have:g=b:=by simpa [Value.ownBlock] using hv
   omega)
 ·refine m.frm a (fun i r b hr hb hS=>?_);obtain⟨u,_,q⟩:=m.row hr;exact zq q c dM hb hS
 ·exact zf zjd a (fun b hb hS=>zq zjd c dM hb hS)
theorem zbv.ao {x:Bool} (h:zbv w0 W R G M al v rows ls vA acc)
  (zjc:W'.ownsRow w0.heap.size 4 1 (.slice (some g) (acc.length+1) cap) (acc.length+1) (zaA acc++[.bool x]))
  (hg:W.grownBy W' vA.ownBlock) (hat:vA.ownBlock=some g∨g=W.heap.size+1) :
  Hid (W'.cell? ⟨G,2,none⟩=some vA)∧W'.frozen? ⟨G,2,none⟩=false∧zbv w0 (W'.setCell ⟨G,2,none⟩ (.slice (some g) (acc.length+1) cap)) R G M al v rows ls (.slice (some g) (acc.length+1) cap) (acc++[x]):=by
 have l:=h.hR;have d:=h.hG;have c:Blk W' G 26 #[.int .i64 al,v,vA]:=(hg.block G h.blk.lt (fun e=>zq h.acc h.blk dM e.symm rfl)).trans h.blk;have s:g≠G:=by
  rcases hat with h1|h1
  ·exact zq h.acc h.blk dM h1
  ·have:=h.blk.lt;omega
 have f:Frm (fun k=>vA.ownBlock=some k) W W':=fJ hg;obtain⟨m,o⟩:=h.grown h.acc hg;have q:W'.ownsRow w0.heap.size 74 1 v ls.length rows:=zf h.nx f (fun b hb hS=>zaM h.nx h.acc dM hb hS);have j:zG W' w0.heap.size rows ls:=h.rows.frm f (fun i r b hr hb hS=>by
  obtain⟨t,_,n⟩:=h.rows.row hr;exact zaM n h.acc dM hb hS)
 have a:=dE W' G 2 (.slice (some g) (acc.length+1) cap);refine⟨c.cell 2,c.frozen 2,⟨by simpa using c.ab 2 _,zf q a (fun b hb hS=>zq q c dM hb hS),j.frm a (fun i r b hr hb hS=>?_),?_,o.frm a (fun k hk e=>oM),m.ag (p:=⟨G,2,none⟩) d _,l,d⟩⟩
 ·obtain⟨t,_,n⟩:=j.row hr;exact zq n c dM hb hS
 ·rw [dL,eA,show zaA (acc++[x])=zaA acc++[.bool x] by simp [zaA]];exact zf zjc a (fun b hv hS=>by
   have:g=b:=by simpa [Value.ownBlock] using hv
   omega)
theorem zbv.side (h:zbv w0 W R G M al v rows ls vA acc)(hlow:∀ (i:Nat) (r:Value) (b:Nat),rows[i]?=some r->r.ownBlock=some b->b<K)(hK:w0.heap.size<=K)(ho:W.ownsRow K 3 1 v0 k xs)(hg:W.grownBy W' v0.ownBlock):zbv w0 W' R G M al v rows ls vA acc:=by
 have d:=zn ho hK;obtain⟨c,f⟩:=h.grown d hg;have a:Frm (fun k=>v0.ownBlock=some k) W W':=fJ hg;exact⟨h.blk.frm a (fun e=>zq ho h.blk dM e rfl),zf h.nx a (fun b hb hS=>zaM ho h.nx dM hS hb),h.rows.frm a (fun i r b hr hb hS=>by have:=hlow i r b hr hb;have:=(ho.lt b hS).1;omega),
  zf h.acc a (fun b hb hS=>zaM ho h.acc dM hS hb),f,c,h.hR,h.hG⟩
theorem zbv.fin {sh:Aut->Prop}(h:zbv w0 W R G M al (.slice A n c) rows ls (.slice A' n' c') acc)(hx:Ext w w0) (bz:Blk w0 Z t cs)(hc:cs.size=3)(hRw:R<w.heap.size)(hZ:w.heap.size<=Z)(hZ':Z<w0.heap.size)(hM:M<=N)(hsh:sh ⟨al,ls,acc⟩) :
  Hid (zfT R N sh w (.returned (.agg #[al,.slice A n c,.slice A' n' c'])) (((W.setCell Z al).setCell ⟨Z,1,none⟩ (.slice A n c)).setCell ⟨Z,2,none⟩ (.slice A' n' c'))) ∧
  Blk (((W.setCell Z al).setCell ⟨Z,1,none⟩ (.slice A n c)).setCell ⟨Z,2,none⟩ (.slice A' n' c')) Z t #[.int .i64 al,.slice A n c,.slice A' n' c']:=by
 have hb:=bz.dr h.dr oM;have d:=zaD W Z (.int .i64 al) (.slice A n c) (.slice A' n' c');have i:n=ls.length:=by
  rcases h.nx.2 with ⟨h1,g⟩|⟨_,_,_,h1,_⟩
  ·simp at h1;omega
  ·simp at h1;exact h1.2.1
 have a:n'=acc.length:=by
  rcases h.acc.2 with ⟨h1,g⟩|⟨_,_,_,h1,_⟩
  ·simp at h1;omega
  ·simp at h1;exact h1.2.1
 refine⟨za ⟨⟨al,ls,acc⟩,A,n,c,A',n',c',rfl,⟨⟨rows,?_,?_⟩,i,?_,a⟩,za hsh,?_,?_⟩,zal hb hc _ _ _⟩
 ·exact zn (zbd h.nx d (fun b h1 e=>oM)) hx.size
 ·exact (h.rows.aq d (fun b h1 e=>oM)).less hx.size
 ·have f:=zn (zbd h.acc d (fun b h1 e=>oM)) hx.size;rw [← a] at f;exact f
 ·exact (h.rd.more hM).frm d (fun k hk e=>oM)
 ·exact (((hx.dr.trans h.dr).ag (p:=⟨Z,0,none⟩) hZ _).ag (p:=⟨Z,1,none⟩) hZ _).ag (p:=⟨Z,2,none⟩) hZ _
end
theorem zgi {e:Edg}(h:Few p es)(he:(0<=e.fr∧e.fr<p)∧(0<=e.le∧e.le<6)∧(0<=e.ta∧e.ta<p)):Few p (es++[e]):=fun x hx=>by
 rcases List.mem_append.1 hx with h1|h1
 ·exact h x h1
 ·rw [List.mem_singleton.1 h1];exact he
theorem few_nil (p:Nat):Few p []:=fun x hx=>by cases hx
theorem zdp {few:Int} (h:Rd w R M)(hM:M<=900000000)(ha:a<64)(hp1:1<=p)(hp:p<=16) :
  Calls Tryz.prog 159 #[.pointer (some R),a,p,few] w (RetG R (M+20000) 20000 w):=by
 have Q:Sm a:=tM;have hRl:=h.lt
 go_enter Tryz.func159,Tryz.ntmps159
 go_wp2_with fail
 refine (zU a Q _).mono ?_;rintro e s ⟨B,d,rfl,F,u⟩;obtain⟨bz,S⟩:=zT u;have q:=(((cW w).alloc _).alloc _).trans u;have ag:=zB a 6;have E:=za (fun k (hk:k∈letters a 6)=>(zbi.1 hk).1);have r:=(dY F).more (lo':=w.heap.size+2) (hi':=s.heap.size) sM (cY _);have zjd:Acc w s s R (w.heap.size+1) M a p (.slice none 0 0) []:=⟨S,World.ownsRow_nil _ _ _ _,h.ext q,q.dr,Frm.refl _ _,hRl,q.size,oM⟩;have t:Blk s w.heap.size 39 #[.int .i64 0,.int .i64 0,.slice none 0 0]:=bz;clear F S u bz;generalize letters a 6=z at *;have ai:=q.size;go_wp2_with fail
 go_loopw [11] (fun i wr=>∃ k:Nat,k<=p∧i=.int .i64 k∧∃ (v:Value) (f:List Edg),Acc w s wr R (w.heap.size+1) (M+k*1000) a p v f∧f.length<=k*1000∧Hid (Few p f)) (fun i _=>p - (intOf i).toNat)
 case atStart=>exact⟨0,dD _,rfl,_,[],zjd.more (iS _ _),dD _,few_nil p⟩
 case round =>
  clear zjd;obtain⟨k,hk,rfl,v,f,zjd,o,b⟩:=hrel
  by_cases hlt:k<p
  ·go_wp2_with fail
   go_loopw [12] (fun i wr=>∃ j:Nat,j<=z.length∧i=.int .i64 j∧∃ (v:Value) (f:List Edg),Acc w s wr R (w.heap.size+1) (M+k*1000+j*100) a p v f∧f.length<=k*1000+j*100∧Hid (Few p f)) (fun i _=>z.length - (intOf i).toNat)
   case atStart=>exact⟨0,dD _,rfl,v,f,zjd.more (iS _ _),dJ o (iS _ _),b⟩
   case round =>
    clear zjd o b;obtain⟨j,hj,rfl,v,f,zjd,o,b⟩:=hrel
    by_cases hlj:j<z.length
    ·go_wp2_with fail
     go_loopw [13] (fun i wr=>∃ x:Nat,x<=p∧i=.int .i64 x∧∃ (v:Value) (f:List Edg),Acc w s wr R (w.heap.size+1) (M+k*1000+j*100+x) a p v f∧f.length<=k*1000+j*100+x∧Hid (Few p f)) (fun i _=>p - (intOf i).toNat)
     case atStart=>exact⟨0,dD _,rfl,v,f,zjd.more (iS _ _),dJ o (iS _ _),b⟩
     case round =>
      clear zjd o b;obtain⟨x,hx,rfl,v,f,zjd,o,b⟩:=hrel
      by_cases hlx:x<p
      ·go_wp2_with fail
       refine (zx zjd.rd oM).mono ?_;rintro e w2 ⟨y,rfl,_,_,O,J⟩;have m:=zjd.drawn J O;obtain⟨Y,l,rfl,_,I,hl,L⟩:=(m.old r oM).nat hlj;have V:=E.out l (cX hl.out)
       by_cases hy:y=0
       ·subst hy;have cG:=fun W (hW:Ext w2 W)=>(m.blk.ext hW).cell;have cL:∀ W,Ext w2 W->W.cell? (Y.add j)=some (.int .i64 (l:Nat)):=fun W hW=>hW.aa L;have ab:(0:Int)<=(j:Int):=oM;have ae:(j:Int)<(z.length:Int):=oM;go_wp2_with fail
        refine tR (fun X=>Ext w2 X) [10,12] (Ord.of [0,1,2,3,4,5,6,7,8,9,10,11,12]) ?_;refine tQ ?_;refine zA fun K hK=>?_;go_simp;refine hK.out _ _ ((cW _).drew.alloc _) ?_;refine pT ?_;refine zJ fun K hK=>?_;refine zaL s w2.drew _ _ _ rfl 103 _ 3 24 Tryz.underlying37 zbg rfl dM v f.length (zu f) _ _ rfl rfl m.fr.size m.own rfl (by simp [Value.oneCell']) lM oM ?_;intro g cap w3 zjn hg3 hat3 hlt3;refine hK.out _ _ ?_;refine pT ?_;refine tQ ?_;obtain⟨h1,h2,h3⟩:=(m.ext ((cW _).drew)).push (e:=⟨k,l,x⟩) (W':=w3) zjn hg3 hat3;have h1':=h1.out;refine zJ fun K hK=>?_;go_simp;refine hK.out _ _ ?_;refine zai ?_;go_wp2_with fail
        go_roundw
        case rel=>exact⟨x+1,oM,gM,_,_,h3.more oM,by simp;omega,zgi b.out (by simp;omega)⟩
        case measure=>simp [intOf];omega
       ·have ah:((y:Int)==0)=false:=by simp;omega
        go_wp2_with fail
        go_roundw
        case rel=>exact⟨x+1,oM,gM,v,f,m.more oM,oM,b⟩
        case measure=>simp [intOf];omega
      ·obtain rfl:p=x:=oM;have G:f.length<=k*1000+(j+1)*100:=oM;have H:M+k*1000+j*100+p<=M+k*1000+(j+1)*100:=oM;go_wp2_with fail
       go_roundw
       case rel=>exact⟨j+1,oM,gM,v,f,zjd.more H,G,b⟩
       case measure=>simp [intOf];omega
    ·obtain rfl:j=z.length:=oM;have G:f.length<=(k+1)*1000:=oM;have H:M+k*1000+z.length*100<=M+(k+1)*1000:=oM;go_wp2_with fail
     go_roundw
     case rel=>exact⟨k+1,oM,gM,v,f,zjd.more H,G,b⟩
     case measure=>simp [intOf];omega
  ·obtain rfl:p=k:=oM;obtain⟨A,n,c,rfl⟩:=zjd.form;obtain⟨rfl,_⟩:=zjd.reads;have U:=zgT zjd.own;have cG:=zjd.blk.cell;have D:=t.frm zjd.fr oM;have cz:=D.cell;have aj:=t.lt;have fz:=D.frozen;obtain⟨f1,f2,T⟩:=zjd.fin (Z:=w.heap.size) (cY _) oM (.int .i64 a) (.int .i64 p) (.slice A f.length c);have C:=za (show RetG R (M+20000) 20000 w (.returned (.agg #[a,p,.slice A f.length c])) _ from ⟨⟨a,p,f⟩,A,f.length,c,rfl,f1,⟨a,p,rfl,ha,rfl,hp1,hp,b.out⟩,oM,f2.more oM,T⟩);clear t r E f1 f2 T;go_wp2_with fail
   exact bodyPost_ret (v:=.agg #[a,p,.slice A f.length c]) (by simp [results,Tryz.results159,go_sem,cz]) rfl C.out
def shA (al p k:Nat) (a:Aut):Prop:=a.al=al∧a.next.length=p∧a.acc.length=p∧∀ l∈a.next,l.length=k
theorem zfh (h:Rd w R M)(hM:M<=900000000)(ha:a<64)(hp:p<=16) :
  Calls Tryz.prog 129 #[.pointer (some R),a,p] w (zfT R (M+400) (shA a p (letters a 6).length) w):=by
 have ah:Sm a:=tM;have hRl:=h.lt
 go_enter Tryz.func129,Tryz.ntmps129
 have hxz:=(cW w).alloc (.cells #[(0:Int),(),()] 26);have bz:=dT w 26 #[(0:Int),(),()];have L:=(cW (w.alloc (.cells #[(0:Int),(),()] 26))).alloc (.cells #[a,(),()] 26);have bG:=dT (w.alloc (.cells #[(0:Int),(),()] 26)) 26 #[a,(),()];have aj:=bz.lt;have ai:(w.alloc (.cells #[(0:Int),(),()] 26)).heap.size=w.heap.size+1:=sM;rw [ai] at bG;go_upto_region 2 with fail
 generalize (w.alloc _).alloc _=w2 at *;generalize w.alloc _=O at *;go_wp2_with fail
 refine (zU a ah _).mono ?_;rintro e w3 ⟨B,d,rfl,-,E⟩;have zjd:zbv O w3 R (w.heap.size+1) M a (.slice none 0 0) [] [] (.slice none 0 0) []:=⟨bG.ext E,World.ownsRow_nil _ _ _ _,zG.nil _ _,World.ownsRow_nil _ _ _ _,h.ext ((hxz.trans L).trans E),(L.trans E).dr,oM,oM⟩;have av:=zB a 6;clear bG E L;generalize (letters a 6).length=k at *;go_wp2_with fail
 go_loopw [9] (fun iv wr=>∃ (i:Nat) (v:Value) (f:List Value) (F:List (List Int)) (vA:Value) (acc:List Bool),i<=p∧iv=.int .i64 (i:Nat)∧zbv O wr R (w.heap.size+1) (M+i*20) a v f F vA acc∧F.length=i∧acc.length=i∧Hid (∀ l∈F,l.length=k)) (fun iv _=>p - (intOf iv).toNat)
 case atStart=>exact⟨0,_,[],[],_,[],dD _,rfl,zjd,rfl,rfl,za (fun l hl=>by simp at hl)⟩
 case round =>
  clear zjd;obtain⟨i,v,f,F,vA,acc,hi,rfl,zjd,s,D,Q⟩:=hrel
  by_cases hip:i<p
  ·have t:=za zjd.low;have hK:=za (show O.heap.size<=wr.heap.size from zjd.dr.size);have h0:=World.ownsRow_made (base:=wr.heap.size) (e:=3) (size:=1) wr #[] 0 (cY _) (dD _) rfl;have hx0:=(cW wr).alloc (.cells #[] 3);have g:=zjd.ext hx0;go_upto_region 7 with fail
   clear zjd;obtain⟨G,V⟩:∃ G,G=wr:=⟨_,rfl⟩;rw [← V] at h0 t hK g hx0 ⊢;clear V;generalize G.alloc _=w4 at *;go_wp2_with fail
   go_loopw [10,11] (fun rv jv wr=>∃ (j:Nat) (l:List Int),j<=k∧jv=.int .i64 (j:Nat)∧zbv O wr R (w.heap.size+1) (M+i*20+j) a v f F vA acc∧l.length=j∧wr.ownsRow G.heap.size 3 1 rv j (ints l)∧Hid (G.heap.size<=wr.heap.size)) (fun _ jv _=>k - (intOf jv).toNat)
   case atStart=>exact⟨0,[],dD _,rfl,g,rfl,h0,za hx0.size⟩
   case round =>
    clear g h0;obtain⟨j,l,hj,rfl,zjd,r,c,ag⟩:=hrel
    by_cases hjk:j<k
    ·obtain⟨Y,Z,rfl⟩:=zi c;go_wp2_with fail
     refine (zx zjd.rd oM).mono ?_;rintro e w5 ⟨y,rfl,-,-,ae,I⟩;have H:=zjd.drawn I ae;have C:=zbd c I (fun b h1 e=>by have:=zjd.dr.size;have:=zjd.hR;have:=hK.out;omega);have U:G.heap.size<=w5.heap.size:=dJ ag.out I.size;have J:=za r;clear r zjd c;go_wp2_with (at_builtin;refine zar G w5 rfl _ _ _ rfl 3 _ 1 8 Tryz.underlying74 zae rfl dM (.slice Y j Z) j (ints l) _ _ rfl rfl U C rfl (by simp [Value.oneCell']) lM oM ?_;intro g5 cap5 w6 hown6 hg6 hat6 hlt6)
     go_roundw
     case rel=>exact⟨j+1,l++[(y:Int)],oM,gM,(H.side t.out hK.out C hg6).more oM,by simp [J.out],by simpa [ints] using hown6,za (dJ U hg6.size)⟩
     case measure=>simp [intOf];omega
    ·obtain rfl:j=k:=oM;obtain⟨Y,Z,rfl⟩:=zi c;have cG:=zjd.blk.cell;have af:=zjd.dr.size;have u:wr.ownsRow G.heap.size 3 1 (.slice Y j Z) l.length (ints l):=by rw [r];exact c
     go_upto_region 12 with (at_builtin;refine zar O wr rfl _ _ _ rfl 74 _ 1 24 Tryz.underlying23 zcd rfl dM v F.length f _ _ rfl rfl af zjd.nx rfl (zaU _ _ _) lM oM ?_;intro g5 cap5 w6 hown6 hg6 hat6 hlt6;obtain⟨q1,q2,q3⟩:=zjd.ar t.out hK.out u hown6 hg6 hat6;have ak:=q1.out)
     rw [s] at q3;clear q1 ak q2 hown6 hg6 hat6 hlt6 c u cG zjd;have S:=za (show ∀ l'∈F++[l],l'.length=j from fun l' J=>by
      rcases List.mem_append.1 J with h1|h1
      ·exact Q.out l' h1
      ·rw [List.mem_singleton.1 h1];exact r)
     have T:(F++[l]).length=i+1:=by simp [s]
     clear r s;generalize F++[l]=aw at *;generalize f++[.slice Y j Z]=al at *;generalize w6.setCell ⟨w.heap.size+1,1,none⟩ (.slice (some g5) (i+1) cap5)=w7 at *;generalize Value.slice (some g5) (i+1) cap5=v7 at *;have cG:∀ W,Dr R w7 W->∀ q,W.cell? ⟨w.heap.size+1,q,none⟩=#[Value.int .i64 a,v7,vA][q]?:=fun W hW=>(q3.blk.dr hW oM).cell;refine tR (fun X=>Dr R w7 X) [6,8] (Ord.of [0,1,2,3,4,5,6,7,8]) ?_;refine tQ ?_;refine zA fun K hK=>?_;go_simp;refine (zx (n:=3) (q3.rd.ext ((cW _).drew)) oM).mono ?_;rintro e w8 ⟨z,rfl,-,-,hr8,hd8⟩;have o:Dr R w7 w8:=((Dr.refl R w7).drew).trans hd8;have m:=q3.drawn o hr8;refine hK.out _ _ o ?_;refine pT ?_;refine tQ ?_;refine zA fun K hK=>?_;go_simp;refine hK.out _ _ (o.alloc _) ?_;refine pT ?_;refine zJ fun K hK=>?_
     trace_state
     refine zaL O w8 _ _ _ rfl 4 _ 1 1 Tryz.underlying24 zbf rfl dM vA acc.length (zaA acc) _ _ rfl rfl m.dr.size m.acc rfl (by simp [Value.oneCell']) lM oM ?_;intro g9 cap9 w9 hown9 hg9 hat9 hlt9;refine hK.out _ _ ?_;refine pT ?_;refine tQ ?_;obtain⟨p1,p2,p3⟩:=m.ao (x:=decide (0<z)) (W':=w9) hown9 hg9 hat9;have ay:=p1.out;rw [D] at p3;refine zJ fun K hK=>?_;go_simp;refine hK.out _ _ ?_;refine zai ?_;go_wp2_with fail
     go_roundw
     case rel=>exact⟨i+1,_,_,_,_,_,oM,gM,p3.more oM,T,by simp [D],S⟩
     case measure=>simp [intOf];omega
  ·obtain rfl:i=p:=oM;obtain⟨A5,c5,rfl⟩:=zi zjd.nx;obtain⟨B5,d5,rfl⟩:=zi zjd.acc;obtain⟨f1,f2⟩:=zjd.fin (N:=M+400) (sh:=shA a i k) hxz bz rfl hRl (cY _) aj oM ⟨rfl,s,D,Q.out⟩;rw [s,D] at f1 f2;have cG:=zjd.blk.cell;have bz5:=bz.dr zjd.dr oM;have cZ:=bz5.cell;have fZ:=bz5.frozen;go_wp2_with fail
   have cf:=f2.cell;exact bodyPost_ret (v:=.agg #[a,.slice A5 i c5,.slice B5 i d5]) (by simp [results,Tryz.results129,go_sem,cf]) rfl f1.out
theorem zac {size:Nat}  (h:w.ownsRow base e size (.slice A n c) n xs)(hn:0<n):∃ g,A=some ⟨g,0,none⟩∧base<=g∧g<w.heap.size:=by
 rcases h.2 with ⟨_,i⟩|⟨g,a,b,hv,d,f,_⟩
 ·omega
 ·injection hv with h1 h2 h3
  exact⟨g,h1,d,(Array.getElem?_eq_some_iff.1 f).1⟩
def blk (A:Option Addr) (b:Nat):Prop:=∃ a,A=some a∧a.block=b
theorem tot_cons (l:List Int) (r:List (List Int)):tot (l :: r)=l.length+tot r:=by simp [tot]
theorem zG.ab (h:zG w base rows ls)(hr:rows[j]?=some (.slice A l.length c))
  (hf:Frm (blk A) w w') (zjc:w'.ownsRow base 3 1 (.slice A l.length c) l.length (ints l)):zG w' base rows (ls.set j l):=by
 have d:j<rows.length:=(List.getElem?_eq_some_iff.1 hr).1;refine⟨by simp [h.1],fun i row m hi hm=>?_,h.2.2⟩
 by_cases hij:i=j
 ·subst hij;rw [hr] at hi;obtain rfl:=Option.some.inj hi;rw [eV (by rw [← h.1];exact d)] at hm;obtain rfl:=Option.some.inj hm;exact zjc
 ·rw [fK (fun e=>hij e.symm)] at hm;refine zf (h.2.1 i row m hi hm) hf (fun b hb hS=>?_);obtain⟨a,rfl,rfl⟩:=hS;exact h.2.2 i j row _ a.block hi hr hij hb rfl
section
variable {w0 W W':World} {R G M N:Nat} {al:Int} {v vA:Value} {rows:List Value} {ls:List (List Int)} {acc:List Bool}
theorem zbv.of {a:Aut}(ho:zX W w0.heap.size A n c A' n' c' a)(hr:Rd W R M)(hd:Dr R w0 W)(hR:R<w0.heap.size) :
  ∃ rows,zbv w0 (W.alloc (.cells #[a.al,.slice A n c,.slice A' n' c'] 26)) R W.heap.size M a.al (.slice A n c) rows a.next (.slice A' n' c') a.acc:=by
 obtain⟨⟨rows,h1,d⟩,h3,f,g⟩:=ho;have b:=(cW W).alloc (.cells #[a.al,.slice A n c,.slice A' n' c'] 26);refine⟨rows,dT W _ _,zg h1 b,d.aq b.ai (fun _ _=>id),?_,hr.ext b,hd.ext b,hR,hd.size⟩;rw [← g];exact zg f b
theorem zbv.setAcc {x:Bool}(h:zbv w0 W R G M al v rows ls (.slice (some g) n c) acc)(hn:n=acc.length) :
  zbv w0 (W.setCell ⟨g,i,none⟩ (.bool x)) R G M al v rows ls (.slice (some g) n c) (acc.set i x):=by
 subst hn;have a:=dE W g i (.bool x);have f:=(h.acc.lt g rfl).1;have d:=h.hR;have hst:=(h.acc.stored i (.bool x)).1;rw [show (zaA acc).set i (.bool x)=zaA (acc.set i x) by simp [zaA,List.map_set]] at hst;refine⟨h.blk.frm a (fun e=>zq h.acc h.blk dM rfl e.symm),zf h.nx a (fun b hb hS=>?_),h.rows.frm a (fun i' r b hr hb hS=>?_),by simpa using hst,h.rd.frm a (fun k hk e=>oM),h.dr.ag (p:=⟨g,i,none⟩) f _,d,h.hG⟩
 ·subst hS;exact zaM h.nx h.acc dM hb rfl
 ·subst hS;obtain⟨l,_,j⟩:=h.rows.row hr;exact zaM j h.acc dM hb rfl
theorem zbv.setRow (h:zbv w0 W R G M al v rows ls vA acc)(hr:rows[i]?=some (.slice (some g) n c))(hl:ls[i]?=some l)(hn:n=l.length) :
  zbv w0 (W.setCell ⟨g,k,none⟩ x) R G M al v rows (ls.set i (l.set k x)) vA acc:=by
 subst hn;have a:=dE W g k (.int .i64 x);have d:=h.rows.2.1 i _ l hr hl;have o:=(d.lt g rfl).1;have f:=h.hR;have hst:=(d.stored k (.int .i64 x)).1;rw [show (ints l).set k (.int .i64 x)=ints (l.set k x) by simp [ints,List.map_set]] at hst;have m:Frm (Go.Proofs.YtfcjhpodichpjaaGreatDoor.blk (some ⟨g,0,none⟩)) W (W.setCell ⟨g,k,none⟩ x):=a.mono (fun b _ hb=>⟨_,rfl,hb.symm⟩);refine⟨h.blk.frm a (fun e=>zq d h.blk dM rfl e.symm),?_,?_,zf h.acc a (fun b hb hS=>?_),h.rd.frm a (fun k hk e=>oM),h.dr.ag (p:=⟨g,k,none⟩) o _,f,h.hG⟩
 ·rw [fF];exact zf h.nx a (fun b hb hS=>by subst hS;exact zaM h.nx d dM hb rfl)
 ·have:=h.rows.ab (w':=W.setCell ⟨g,k,none⟩ x) (j:=i) (l:=l.set k x) (A:=some ⟨g,0,none⟩) (c:=c) (by simpa using hr) m (by simpa using hst);exact this
 ·subst hS;exact zaM h.acc d dM hb rfl
theorem zbv.row (h:zbv w0 W R G M al (.slice (some g) n c) rows ls vA acc)(hl:ls[i]?=some l)(hn:n=ls.length) :
  ∃ Ar cr,rows[i]?=some (.slice Ar l.length cr)∧W.cell? ⟨g,i,none⟩=some (.slice Ar l.length cr)∧W.ownsRow w0.heap.size 3 1 (.slice Ar l.length cr) l.length (ints l):=by
 subst hn;have f:i<ls.length:=(List.getElem?_eq_some_iff.1 hl).1;have b:i<rows.length:=by rw [h.rows.1];exact f
 have a:rows[i]?=some rows[i]:=dC b;have d:=h.rows.2.1 i _ l a hl;obtain⟨Ar,cr,e⟩:=zi d;rw [e] at a d;exact⟨Ar,cr,a,by rw [h.nx.cellAt i oM,a],d⟩
end
theorem zhi (h:Rd w R M)(hM:M<=900000000)(ha:a<64)(hp0:1<=p)(hp:p<=16) :
  Calls Tryz.prog 127 #[.pointer (some R),a,p] w (zfT R (M+400) (shA a p (letters a 6).length) w):=by
 have hRl:=h.lt
 go_enter Tryz.func127,Tryz.ntmps127
 go_wp2_with fail
 generalize U0:w.alloc _=V at *;have hxz:=Ext.al_ U0;have bz:=dW U0;have Q:=bz.lt;clear U0;refine (zfh (h.ext hxz) hM ha hp).mono ?_;rintro e w2 ⟨b,A,n,c,A',n',c',rfl,zjc,hsh,C,y⟩;obtain⟨s,zjd⟩:=zbv.of zjc C y oM;obtain⟨s1,H,I,U⟩:=hsh.out;have E:n=b.next.length:=zjc.2.1;have r:n'=b.acc.length:=zjc.2.2.2;obtain⟨ab,t,aa⟩:=b;dsimp only at *;subst s1;rw [H] at E;rw [I] at r;replace E:=E.symm;replace r:=r.symm;subst E;subst r;have hG:=y.size;clear zjc C y hsh;have T:=za U;clear U;have ah:=zB a 6;generalize (letters a 6).length=k at *;obtain⟨L,rfl,hgA,-⟩:=zac (I ▸ zjd.acc) hp0;obtain⟨O,rfl,af,-⟩:=zac (H ▸ zjd.nx) hp0;have S:=za H;have Z:=za I;clear H I;go_upto_region 2 with fail
 generalize w2.alloc _=w3 at *;generalize w2.heap.size=G at *;go_wp2_with fail
 go_loopw [8] (fun iv wr=>∃ (i:Nat) (acc:List Bool),i<=p∧iv=.int .i64 (i:Nat)∧zbv V wr R G (M+400) a (.slice (some O) p c) s t (.slice (some L) p c') acc∧Hid (acc.length=p)) (fun iv _=>p - (intOf iv).toNat)
 case atStart=>exact⟨0,_,dD _,rfl,zjd,Z⟩
 case round =>
  clear zjd;obtain⟨i,acc,hi,rfl,zjd,hal⟩:=hrel
  by_cases hip:i<p
  ·have cG:=zjd.blk.cell;have F:=zjd.acc;rw [hal.out] at F;obtain⟨o0,c0⟩:=zaX F i oM;have f0:=F.frozenAt i;have o:=zjd.setAcc (i:=i) (x:=decide ((i:Int)<(p:Int) - 1)) hal.out.symm;clear F;go_wp2_with fail
   go_roundw
   case rel=>exact⟨i+1,_,oM,gM,o,za (by rw [fF];exact hal.out)⟩
   case measure=>simp [intOf];omega
  ·clear hi;have hp1:p - 1<t.length:=oH S.out;obtain⟨l0,d⟩:∃ l,t[p - 1]?=some l:=⟨_,dC hp1⟩;have f:=za (T.out l0 (cX d));have J:=za d;have ai:((p:Int) - 1).toNat=p - 1:=oM;clear d hp1;go_wp2_with fail
   go_loopw [9] (fun iv wr=>∃ (j:Nat) (D:List (List Int)) (l:List Int),j<=k∧iv=.int .i64 (j:Nat)∧zbv V wr R G (M+400) a (.slice (some O) p c) s D (.slice (some L) p c') acc∧Hid (D.length=p)∧Hid (∀ l∈D,l.length=k)∧Hid (D[p - 1]?=some l)) (fun iv _=>k - (intOf iv).toNat)
   case atStart=>exact⟨0,_,_,dD _,rfl,zjd,S,T,J⟩
   case round =>
    clear zjd f;obtain⟨j,D,l,hj,rfl,zjd,q,z,d⟩:=hrel;have f:=z.out l (cX d.out);obtain⟨Ar,cr,B,u,m⟩:=zjd.row d.out q.out.symm;have cG:=zjd.blk.cell;rw [f] at B u m;have Y:=za B;clear B
    by_cases hjk:j<k
    ·obtain⟨g,rfl,-,-⟩:=zac m oM;obtain⟨o0,c0⟩:=zaX m j oM;have f0:=m.frozenAt j;have o:=zjd.setRow (k:=j) (x:=(p:Int) - 1) Y.out d.out f.symm;clear m;have X:=za f;clear f;go_wp2_with fail
     go_roundw
     case rel =>
      refine⟨j+1,_,l.set j ((p:Int) - 1),oM,gM,o,za (by rw [fF];exact q.out),za (fun l' hl'=>?_),za ?_⟩
      ·rcases eY hl' with h1|h1
       ·exact z.out l' h1
       ·rw [h1,fF];exact X.out
      ·have:=q.out;rw [eV oM]
     case measure=>simp [intOf];omega
    ·obtain⟨f1,f2⟩:=zjd.fin (N:=M+400) (sh:=shA a p k) hxz bz rfl hRl (cY _) Q oM ⟨rfl,q.out,hal.out,z.out⟩;have bz5:=bz.dr zjd.dr oM;have cZ:=bz5.cell;have fZ:=bz5.frozen;clear m f;go_wp2_with fail
     have cf:=f2.cell;exact bodyPost_ret (v:=.agg #[a,.slice (some O) p c,.slice (some L) p c']) (by simp [results,Tryz.results127,go_sem,cf]) rfl f1.out
theorem wpList_push2 {P:Program} (wb w:World) {ops:Array Oper} {rest:List Oper} {o:Oper} {a:Act} {Q:Exit->Act->World->Prop}(hgd:o.guard=none) (s x:Operand) (t:TypeId)
  (ho:o.op=.call { callee:=.builtin .append,args:=#[s,x],argTypes:=#[t,t] })
  (e:TypeId) (z:Value) (size bytes:Nat) (ht:P.underlying t=some (.slice e)) (hi:(P.info? e).map (fun i=>(i.zero,i.size,i.bytes))=some (some z,size,bytes)) (hzs:z.cells.size=size) (hsz:0<size)
  (v:Value) (n:Nat) (xs:List Value) (us:Array Value) (e':TypeId) (hs:a.eval s=v) (hx:a.eval x=.slice (some w.heap.size) 1 1)
  (zje:wb.heap.size<=w.heap.size) (zjc:w.ownsRow wb.heap.size e size v n xs) (hus:us.size=size) (h1:∀ u∈us.toList,u.oneCell'=true)
  (h63:n+1<=maxLen) (hbytes:(n+1)*bytes<=140737488355328)
  (h:∀ g cap w',w'.ownsRow wb.heap.size e size (.slice (some ⟨g,0,none⟩) (n+1) cap) (n+1) (xs++us.toList)->w.grownBy w' v.ownBlock->(v.ownBlock=some g∨g=w.heap.size+1)->g<w'.heap.size->wpList P ops Q rest (a.put o.dst (.slice (some ⟨g,0,none⟩) (n+1) cap)) w') :
  wpList P ops Q (o :: rest) a (w.alloc (.cells us e')):=
 wpList_plain hgd fun _ hK=>zaL wb w s x t ho e z size bytes ht hi hzs hsz v n xs us e' hs hx zje zjc hus h1 h63 hbytes fun g cap w' h2 h3 h4 h5=>hK _ _ (h g cap w' h2 h3 h4 h5)
theorem Reads.str {l:List ByteArray}(h:Reads w lo hi 1 A n (zM l))(hk:k<n):∃ ad x,A=some ad∧lo<=ad.block∧ad.block<hi∧Hid (l[k]?=some x)∧w.cell? (ad.add k)=some (.string x):=by
 obtain⟨ad,u,e,h1,a,c,b⟩:=h.one hk;have:=c.out;simp only [zM,List.getElem?_map,Option.map_eq_some_iff] at this;obtain⟨x,d,rfl⟩:=this;exact⟨ad,x,e,h1,a,d,b⟩
theorem valid_good (h:zl s=true):Good s:=by
 obtain⟨p,hp,hp1,c,d⟩:=zcf h;obtain⟨a,ha,b⟩:=valid_al h;exact⟨a,p,ha,b,hp,hp1,c,d⟩
theorem Acc.fillRD (h:Acc w0 wB W R G M al st v es)(hZ:w0.heap.size<=Z) (u0 u1 u2:Value) :
  Rd (((W.setCell Z u0).setCell ⟨Z,1,none⟩ u1).setCell ⟨Z,2,none⟩ u2) R M∧Dr R w0 (((W.setCell Z u0).setCell ⟨Z,1,none⟩ u1).setCell ⟨Z,2,none⟩ u2):=
 ⟨h.rd.frm (zdO W Z u0 u1 u2) (fun k h1 h2=>oH h.hR),((h.dr.ag (p:=⟨Z,0,none⟩) hZ u0).ag (p:=⟨Z,1,none⟩) hZ u1).ag (p:=⟨Z,2,none⟩) hZ u2⟩
theorem str_empty {t x:ByteArray}(h:t.toList=x.toList)(h0:t.size=0):x.size=0:=by
 have h1:=congrArg List.length h;rw [ByteArray.toList_eq,ByteArray.toList_eq] at h1;have a:t.data.toList.length=t.size:=rfl;have b:x.data.toList.length=x.size:=rfl;omega
def Fair (s:Sys):Prop:=∃ a p:Nat,s.al=a∧a<64∧s.st=p∧p<=16∧Few (p+1) s.edges
theorem Good.fair (h:Good s):Fair s:=by
 obtain⟨a,p,h1,b,h3,_,c,d⟩:=h;exact⟨a,p,h1,b,h3,c,fun e he=>by have:=d e he;omega⟩
theorem fair_zero:Fair ⟨0,0,[]⟩:=⟨0,0,rfl,oM,rfl,oM,fun e he=>by cases he⟩
def zib (R M L:Nat) (w:World) (e:Ending) (w':World):Prop:=
 ∃ (s:Sys) (A:Option Addr) (n c:Nat) (ok:Bool),e=.returned (.tuple #[.agg #[s.al,s.st,.slice A n c],.bool ok])∧zbp w' R A n s∧((ok=true->Good s)∧Fair s)∧(n<=L∧n<=c)∧Rd w' R M∧Dr R w w'
theorem zgq (h:Rd w' R M)(hd:Dr R w w'):zib R M L w (.returned (.tuple #[.agg #[(0:Int),(0:Int),()],.bool false])) w':=
 ⟨⟨0,0,[]⟩,none,0,0,false,rfl,⟨rfl,oM,fun h0=>oM⟩,⟨(fun h=>by cases h),fair_zero⟩,⟨dD _,cY _⟩,h,hd⟩
theorem yQ03a4 {P:Prop}(h:P:=by
 obtain⟨g1,g2⟩:=hacc4.fillRD (Z:=w.heap.size) (Nat.le_refl _) (.int .i64 0) (.int .i64 0) (.slice none 0 0);exact bodyPost_ret (v:=.tuple #[.agg #[(0:Int),(0:Int),()],.bool false]) (by simp [results,Tryz.results71,go_sem,hz4]) rfl (zgq g1 g2)
 ):P:=h
theorem yQ03a7 {P:Prop}(h:P:=by
 go_wp2_with fail
 exact bodyPost_ret (v:=.tuple #[.agg #[(0:Int),(0:Int),()],.bool false]) (by simp [results,Tryz.results71,go_sem,cz2]) rfl Hnone.out
 ):P:=h
theorem zck {x:ByteArray} (h:Rd w R M)(hx:x.size<=1000) :
  Calls Tryz.prog 71 #[x] w (zib R M 1001 w):=by
 have hRl:=h.lt
 go_enter Tryz.func71,Tryz.ntmps71
 go_wp2_with fail
 refine (spec_l19Cut (s:=x) oM).mono ?_;rintro e w1 ⟨B,m,d,l,rfl,ab,ah,aa,hm,y⟩;have C:=zaV y;have aV:=C.lt;have E:=((cW w).alloc _).trans y;have S:=(dY ah).more (lo':=w.heap.size+1) (hi':=w1.heap.size) sM (cY _);have X:=za aa;have aI:=za ab;clear ah aa ab y;have cz:=C.cell;have fz:=C.frozen;have u:=za (fun (W:World) (hW:Ext w1 W) (u0 u1 u2:Value)=>(⟨(h.ext (E.trans hW)).frm (zdO W w.heap.size u0 u1 u2) (fun k hk hS=>oM),(((E.trans hW).dr.ag (R:=R) (p:=⟨w.heap.size,0,none⟩) (cY _) u0).ag (p:=⟨w.heap.size,1,none⟩) (cY _) u1).ag (p:=⟨w.heap.size,2,none⟩) (cY _) u2⟩:Rd (((W.setCell w.heap.size u0).setCell ⟨w.heap.size,1,none⟩ u1).setCell ⟨w.heap.size,2,none⟩ u2) R M∧Dr R w (((W.setCell w.heap.size u0).setCell ⟨w.heap.size,1,none⟩ u1).setCell ⟨w.heap.size,2,none⟩ u2)))
 by_cases hm2:m<2
 ·go_wp2_with fail
  obtain⟨g1,g2⟩:=u.out w1 (cW _) (.int .i64 0) (.int .i64 0) (.slice none 0 0);exact bodyPost_ret (v:=.tuple #[.agg #[(0:Int),(0:Int),()],.bool false]) (by simp [results,Tryz.results71,go_sem,cz]) rfl (zgq g1 g2)
 ·obtain⟨ad,x0,rfl,aS,aQ,hx0,O⟩:=S.str (k:=0) oM;obtain⟨b,o,rfl⟩:∃ b o,ad=⟨b,o,none⟩:=⟨_,_,zcK O⟩;rw [zK,Nat.add_zero] at O;obtain⟨aJ,x1,J,_,_,y,Q⟩:=S.str (k:=1) oM;obtain rfl:=Option.some.inj J;rw [zK] at Q;have aD:(2:Int)<=(m:Int):=oM;have am:=za (X.out x1 (cX y.out));go_wp2_with fail
  refine (zcC (x:=x0)).mono ?_;rintro e w2 ⟨a,av,rfl,ha,t⟩;have Y:=t.aa Q;have I:=C.ext t;have cz2:=I.cell;have ak:=I.frozen;go_wp2_with fail
  refine (zdl (s:=x1) (oH am.out)).mono ?_;rintro e aX ⟨st,aw,rfl,rfl⟩;obtain⟨g1,g2⟩:=u.out w2 t (.int .i64 0) (.int .i64 0) (.slice none 0 0);have Hnone:=za (zgq (L:=1001) g1 g2);clear g1 g2;cases av
  ·exact yQ03a7
  ·cases aw
   ·exact yQ03a7
   ·have bG:=dT w2 39 #[a,st,()];have U:=(cW w2).alloc (.cells #[a,st,()] 39);have aU:w2.heap.size<(w2.alloc (.cells #[a,st,()] 39)).heap.size:=sM;have aF:=t.size;have aE:=E.size;have aq:=E.trans t;clear O Q Y cz fz cz2 ak;go_wp2_with fail
    generalize w2.alloc _=w3 at *;have T:=aq.trans U;have ae:=(S.ext t).ext U;have aj:=I.ext U;have zjd:Acc w w3 w3 R w2.heap.size M a st (.slice none 0 0) []:=⟨bG,World.ownsRow_nil _ _ _ _,h.ext T,T.dr,Frm.refl _ _,hRl,T.size,oM⟩
    go_loopw [10] (fun i wr=>∃ (k:Nat) (v:Value) (r:List Edg),2<=k∧k<=m∧i=.int .i64 k∧Acc w w3 wr R w2.heap.size M a st v r∧r.length<=k) (fun i _=>m - (intOf i).toNat)
    case atStart=>exact⟨2,_,[],cY _,oM,rfl,zjd,dD _⟩
    case round =>
     clear zjd;obtain⟨k,v,r,aR,hk,rfl,zjd,aP⟩:=hrel;have hG:=zjd.blk.cell;have D:=aj.frm zjd.fr oM;have F:=D.cell;have G:=D.frozen;have af:=zjd.old ae oM
     by_cases hlt:k<m
     ·obtain⟨ad,xk,J,_,_,ar,ao⟩:=af.str hlt;obtain rfl:=Option.some.inj J;rw [zK] at ao;have an:=za (X.out xk (cX ar.out));clear F G;go_wp2_with fail
      refine (spec_l2Parse (s:=xk) (oH an.out)).mono ?_;rintro e w4 ⟨q,ax,rfl,z⟩;have hacc4:=zjd.ext (z.alloc (.cells #[q.fr,q.le,q.ta] 103));have aL:=dT w4 103 #[q.fr,q.le,q.ta];have f:=D.ext (z.alloc (.cells #[q.fr,q.le,q.ta] 103));clear hG;cases ax
      ·have hz4:=f.cell;have au:=f.frozen;go_wp2_with fail
       generalize w4.alloc _=wq at *;exact yQ03a4
      ·have al:=hacc4.blk.cell;go_wp2_with (at_builtin;refine wpList_push2 w3 (w4.alloc (.cells #[q.fr,q.le,q.ta] 103)) rfl _ _ _ rfl 103 _ 3 24 Tryz.underlying37 zbg rfl dM v r.length (zu r) _ _ rfl (by first|rfl|simp [go_sem]) hacc4.fr.size hacc4.own rfl (by simp [Value.oneCell']) lM oM ?_;intro g cap w5 zjo hg5 hat5 hlt5;obtain⟨h1,h2,h3⟩:=hacc4.push (e:=q) (W':=w5) zjo hg5 hat5;have h1':=h1.out)
       go_roundw
       case rel=>exact⟨k+1,_,_,oM,oM,gM,h3,by simp;omega⟩
       case measure=>simp [intOf];omega
     ·obtain rfl:m=k:=oM;obtain⟨A,n,c,rfl⟩:=zjd.form;obtain⟨rfl,ag⟩:=zjd.reads;clear F G;go_wp2_with fail
      refine (zfA (s:=⟨a,st,r⟩) ag oM).mono ?_;rintro e w4 ⟨tx,rfl,ap,z⟩;have hacc4:=zjd.ext z;have f:=D.ext z;have hz4:=f.cell;have au:=f.frozen;have al:=hacc4.blk.cell;cases hne:tx.toList==x.toList
      ·go_wp2_with fail
       exact yQ03a4
      ·have H:zl (⟨a,st,r⟩:Sys)=true:=by
        cases hv:zl (⟨a,st,r⟩:Sys)
        ·exfalso;have h0:=ap hv;have aT:x.size=0:=str_empty (by simpa using hne) h0;omega
        ·rfl
       have j:=valid_good H;have aC:=zgT hacc4.own;obtain⟨g1,g2,g3⟩:=hacc4.fin (Z:=w.heap.size) (cY _) oM (.int .i64 a) (.int .i64 st) (.slice A r.length c);have V:=za (show zib R M 1001 w (.returned (.tuple #[.agg #[a,st,.slice A r.length c],.bool true])) _ from ⟨⟨a,st,r⟩,A,r.length,c,true,rfl,g1,⟨fun _=>j,j.fair⟩,oM,g2,g3⟩);clear g1 g2 g3 j H;go_wp2_with fail
       exact bodyPost_ret (v:=.tuple #[.agg #[a,st,.slice A r.length c],.bool true]) (by simp [results,Tryz.results71,go_sem,hz4]) rfl V.out
def ziV:Value->ByteArray
 |.string s=>s
 |_=>⟨#[]⟩
def RetTexts (L:Nat) (w:World) (e:Ending) (w':World):Prop:=∃ (A:Option Addr) (n c:Nat) (l:List ByteArray),e=.returned (.slice A n c)∧0<n∧w'.ownsRow w.heap.size 9 1 (.slice A n c) n (zM l)∧(∀ x∈l,x.size<=L)∧Ext w w'
theorem zbl (w:World)  (hu:zM (us.toList.map ziV)=us.toList)(hn:us.size=n)(h:n<=1000):(w.alloc (.cells us 9)).ownsRow w.heap.size 9 1 (.slice (some w.heap.size) n n) n (zM (us.toList.map ziV)):=by
 rw [hu];exact World.ownsRow_lit w us n (cY _) lM (by simpa using hn)
theorem spec_l2Texts :Calls Tryz.prog 160 #[] w (RetTexts 100 w):=by
 go_enter Tryz.func160,Tryz.ntmps160
 go_wp2;go_ret;exact⟨_,_,_,_,rfl,dM,zbl w rfl rfl oM,by decide +kernel,(cW _).alloc _⟩
theorem reads_ints (l:List Int)(hu:us.toList=ints l)(hn:us.size=n)(hx:Ext (w.alloc (.cells us e)) w')(h63:n<=1000):Reads w' w.heap.size (w.heap.size+1) 1 (some ⟨w.heap.size,0,none⟩) n (ints l):=
 ⟨by rw [← hu];simpa using hn,oM,fun _=>⟨_,rfl,cY _,sM,fun j u hj=>by
  have:=(zaV hx).cell j
  rw [zK,dS,this]
  rw [← hu] at hj
  simpa using hj⟩⟩
theorem zaJ (l:List Int) (n:Nat) (us:Array Value)(hu:us.toList=ints l)(hn:us.size=n)(h0:0<n)(h63:n<=1000)(h:Rd w R M)(hM:M<=1000000000) :
  Calls Tryz.prog 128 #[.pointer (some R),.slice (some w.heap.size) n n] (w.alloc (.cells us 3)) (RetNum R M l (w.alloc (.cells us 3))):=
 l19Rd_num (h.ext ((cW _).alloc _)) hM (reads_ints l hu hn (cW _) h63) h.lt h0
theorem zgp (hs:zbp W R A n s)(hg:Good s)(hn:n<=L∧n<=c)(hr:Rd W R M)(hd:Dr R w W)(hB:Blk W Z 39 cs)(hR:R<w.heap.size)(hZ:w.heap.size<=Z) :
  RetG R M L w (.returned (.agg #[s.al,s.st,.slice A n c])) (((W.setCell Z s.al).setCell ⟨Z,1,none⟩ s.st).setCell ⟨Z,2,none⟩ (.slice A n c)):=by
 have a:=zdO W Z (.int .i64 s.al) (.int .i64 s.st) (.slice A n c);exact⟨s,A,n,c,rfl,hs.far hB dM a,hg,hn,hr.frm a (fun k h1 h2=>oM),((hd.ag (p:=⟨Z,0,none⟩) hZ _).ag (p:=⟨Z,1,none⟩) hZ _).ag (p:=⟨Z,2,none⟩) hZ _⟩
theorem yQ03a1 {P:Prop}(h:P:=by
 go_wp2_with fail
 refine (zaJ [3,2,4,1,5] 5 #[(3:Int),(2:Int),(4:Int),(1:Int),(5:Int)] rfl rfl oM oM hr6 oM).mono ?_;rintro e w7 ⟨st,hst,rfl,hr7,hd7⟩;have hw7:=(hw6.ext ((Ext.refl _).alloc _)).trans hd7;have bz7:=(bz6.ext ((Ext.refl _).alloc _)).dr hd7 oM;go_wp2_with fail
 refine (zaJ [3,2,4,6] 4 #[(3:Int),(2:Int),(4:Int),(6:Int)] rfl rfl oM oM hr7 oM).mono ?_;rintro e w8 ⟨fw,_,rfl,hr8,hd8⟩;have hw8:=(hw7.ext ((Ext.refl _).alloc _)).trans hd8;have bz8:=(bz7.ext ((Ext.refl _).alloc _)).dr hd8 oM;obtain⟨a,rfl,ha⟩:∃ a:Nat,al=a∧a<64:=⟨al.toNat,by simp at hal;omega,by simp at hal;omega⟩;obtain⟨p,rfl,hp1,hp⟩:∃ p:Nat,st=p∧1<=p∧p<=16:=⟨st.toNat,by simp at hst;omega,by simp at hst;omega,by simp at hst;omega⟩;clear hal hst;go_wp2_with fail
 refine (zdp hr8 oM ha hp1 hp).mono ?_;rintro e w9 ⟨s9,A9,n9,c9,rfl,hs9,hg9,hn9,hr9,hd9⟩;have bz9:=bz8.dr hd9 oM;have hfin9:=za (zgp (R:=R) (M:=M+30000) (L:=20000) (c:=c9) hs9 hg9 hn9 (hr9.more oM) (hw8.trans hd9) bz9 hRl (Nat.le_refl _));have cz9:=bz9.cell;have fz9:=bz9.frozen;go_wp2_with fail
 exact bodyPost_ret (v:=.agg #[s9.al,s9.st,.slice A9 n9 c9]) (by simp [results,Tryz.results118,go_sem,cz9]) rfl hfin9.out
 ):P:=h
theorem zhg (h:Rd w R M)(hM:M<=800000000) :
  Calls Tryz.prog 118 #[.pointer (some R)] w (RetG R (M+30000) 20000 w):=by
 have hRl:=h.lt;have hx0:=(cW w).alloc (.cells #[(0:Int),(0:Int),()] 39);have bz:=dT w 39 #[(0:Int),(0:Int),()]
 go_enter Tryz.func118,Tryz.ntmps118
 go_wp2_with fail
 refine (zx (h.ext hx0) oM).mono ?_;rintro e Z ⟨y,rfl,_,_,q,o⟩;have r:=hx0.dr.trans o;have g:=bz.dr o oM;have U:=g.lt;clear bz
 by_cases hy:y=0
 ·subst hy;go_wp2_with fail
  refine (spec_l2Texts).mono ?_;rintro e w2 ⟨A,n,c,l,rfl,O,zjc,J,j⟩;go_wp2_with fail
  refine (l19Rd_of (q.ext j) oM (dY zjc) oM O).mono ?_;rintro e w3 ⟨x,Q,rfl,z,p⟩;have S:=J x Q;go_wp2_with fail
  refine (zck z oM).mono ?_;rintro e w4 ⟨s,B,m,d,V,rfl,H,⟨G,-⟩,hm,hr4,hd4⟩;have t:Dr R w w4:=((r.ext j).trans p).trans hd4;have k:=((g.ext j).dr p oM).dr hd4 oM;have a:=(cW w4).alloc (.cells #[s.al,s.st,.slice B m d] 39);have F:=dT w4 39 #[s.al,s.st,.slice B m d];cases V
  ·have C:=hr4.ext a;have D:=t.ext a;have bz5:=k.ext a;clear F a H G;go_wp2_with fail
   have E:=(zaJ [3,6,7,5,1,0,12] 7 #[(3:Int),(6:Int),(7:Int),(5:Int),(1:Int),(0:Int),(12:Int)] rfl rfl oM oM C oM);simp only [World.size_alloc] at E;refine E.mono ?_;rintro e X ⟨al,hal,rfl,hr6,b⟩;have hw6:=(D.ext ((cW _).alloc _)).trans b;have bz6:=(bz5.ext ((cW _).alloc _)).dr b oM;exact yQ03a1
  ·have i:=G rfl;have Y:=F.cell;have f:=k.ext a;have u:=f.cell;have I:=f.frozen;go_wp2_with fail
   generalize w4.alloc _=w5 at *;have zjf:=zgp (R:=R) (M:=M+30000) (L:=20000) (c:=d) (H.ext a) i oM ((hr4.more oM).ext a) (t.ext a) f hRl (cY _);exact bodyPost_ret (v:=.agg #[s.al,s.st,.slice B m d]) (by simp [results,Tryz.results118,go_sem,u]) rfl zjf
 ·have T:((y:Int)==0)=false:=(by rw [beq_eq_false_iff_ne];omega);go_wp2_with fail
  refine (zaJ [3,6,7,5,1,0,12] 7 #[(3:Int),(6:Int),(7:Int),(5:Int),(1:Int),(0:Int),(12:Int)] rfl rfl oM oM q oM).mono ?_;rintro e X ⟨al,hal,rfl,hr6,b⟩;have hw6:=(r.ext ((cW _).alloc _)).trans b;have bz6:=(g.ext ((cW _).alloc _)).dr b oM;exact yQ03a1
def zfS (b:Aut):Prop:=∃ a p:Nat,a<64∧1<=p∧p<=16∧shA a p (letters a 6).length b
theorem zfT.mono {sh sh':Aut->Prop}  {e:Ending}(h:zfT R M sh w e w')(hd:Dr R w0 w)(hM:M<=N)(hs:∀ b,sh b->sh' b):zfT R N sh' w0 e w':=by
 obtain⟨b,A,n,c,A',n',c',d,f,hsh,g,a⟩:=h;exact⟨b,A,n,c,A',n',c',d,f.less hd.size,za (hs b hsh.out),g.more hM,hd.trans a⟩
theorem zid {sh:Aut->Prop}   (hx:Ext w w0)(ho:zX W w0.heap.size A n c A' n' c' b)(hsh:sh b)(hr:Rd W R M)(hd:Dr R w0 W) (bz:Blk w0 Z t cs)(hc:cs.size=3)(hR:R<w.heap.size)(hZ:w.heap.size<=Z)(hM:M<=N) :
  Hid (zfT R N sh w (.returned (.agg #[b.al,.slice A n c,.slice A' n' c'])) (((W.setCell Z b.al).setCell ⟨Z,1,none⟩ (.slice A n c)).setCell ⟨Z,2,none⟩ (.slice A' n' c'))) ∧
  Blk (((W.setCell Z b.al).setCell ⟨Z,1,none⟩ (.slice A n c)).setCell ⟨Z,2,none⟩ (.slice A' n' c')) Z t #[.int .i64 b.al,.slice A n c,.slice A' n' c']:=by
 have d:=bz.lt;have a:=zaD W Z (.int .i64 b.al) (.slice A n c) (.slice A' n' c');refine⟨za ⟨b,A,n,c,A',n',c',rfl,(ho.aq a (fun b h1 e=>oM)).less hx.size,za hsh,(hr.more hM).frm a (fun k hk e=>oM),?_⟩,zal (bz.dr hd oM) hc _ _ _⟩;exact (((hx.dr.trans hd).ag (p:=⟨Z,0,none⟩) hZ _).ag (p:=⟨Z,1,none⟩) hZ _).ag (p:=⟨Z,2,none⟩) hZ _
theorem spec_l1Some (h:Rd w R M)(hM:M<=900000000) :
  Calls Tryz.prog 161 #[.pointer (some R)] w (fun e w'=>∃ x:Nat,x<64∧e=.returned (.int .i64 x)∧Rd w' R (M+1)∧Dr R w w'):=by
 go_enter Tryz.func161,Tryz.ntmps161
 go_wp2_with fail
 refine (zaJ [3,7,1,5,0,6,63,2,21] 9 #[(3:Int),(7:Int),(1:Int),(5:Int),(0:Int),(6:Int),(63:Int),(2:Int),(21:Int)] rfl rfl oM oM h oM).mono ?_;rintro e f ⟨x,c,rfl,b,a⟩;obtain⟨y,d,rfl⟩:∃ y:Nat,y<64∧x=(y:Int):=⟨x.toNat,by simp at c;omega,by simp at c;omega⟩;clear c;go_wp2_with fail
 go_ret;exact⟨y,d,rfl,b,((Dr.refl R w).alloc _).trans a⟩
theorem yQ03a3 {P:Prop}(h:P:=by
 intro e w4 hret;obtain⟨b,A,n,c,A',n',c',rfl,zjc,hsh,hr4,hd4⟩:=hret.mono (N:=M+500) (sh':=zfS) hd13 oM (fun b hb=>⟨a,p,ha,hp1,oM,hb⟩);obtain⟨f1,f2⟩:=zid (N:=M+500) (sh:=zfS) hxz zjc hsh.out hr4 hd4 bz rfl hRl (Nat.le_refl _) (Nat.le_refl _);have bz5:=bz.dr hd4 oM;have cZ:=bz5.cell;have fZ:=bz5.frozen;go_wp2_with fail
 have cf:=f2.cell;exact bodyPost_ret (v:=.agg #[b.al,.slice A n c,.slice A' n' c']) (by simp [results,Tryz.results75,go_sem,cf]) rfl f1.out
 ):P:=h
theorem zhh (h:Rd w R M)(hM:M<=800000000)(ha:a<64) :
  Calls Tryz.prog 75 #[.pointer (some R),a] w (zfT R (M+500) zfS w):=by
 have hRl:=h.lt
 go_enter Tryz.func75,Tryz.ntmps75
 go_wp2_with fail
 generalize U0:w.alloc _=l at *;have hxz:=Ext.al_ U0;have bz:=dW U0;clear U0;refine (zx (h.ext hxz) oM).mono ?_;rintro e w2 ⟨y,rfl,-,-,g,f⟩
 by_cases hy:y=0
 ·subst hy;go_wp2_with fail
  refine (zaJ [3,2,4,1] 4 #[(3:Int),(2:Int),(4:Int),(1:Int)] rfl rfl oM oM g oM).mono ?_;rintro e k ⟨x,b,rfl,d,c⟩;obtain⟨p,hp1,i,rfl⟩:∃ y:Nat,1<=y∧y<=4∧x=(y:Int):=⟨x.toNat,by simp at b;omega,by simp at b;omega,by simp at b;omega⟩;clear b;have hd13:=(f.alloc _).trans c;go_wp2_with fail
  refine (zhi d oM ha hp1 oM).mono ?_;exact yQ03a3
 ·have j:((y:Int)==0)=false:=by simp;omega
  go_wp2_with fail
  refine (zaJ [2,3,1,4,5] 5 #[(2:Int),(3:Int),(1:Int),(4:Int),(5:Int)] rfl rfl oM oM g oM).mono ?_;rintro e k ⟨x,b,rfl,d,c⟩;obtain⟨p,hp1,i,rfl⟩:∃ y:Nat,1<=y∧y<=5∧x=(y:Int):=⟨x.toNat,by simp at b;omega,by simp at b;omega,by simp at b;omega⟩;clear b;have hd13:=(f.alloc _).trans c;go_wp2_with fail
  refine (zfh d oM ha oM).mono ?_;exact yQ03a3
section
variable {w0 W W':World} {R G M N:Nat} {al:Int} {v vA:Value} {rows:List Value} {ls:List (List Int)} {acc:List Bool}
theorem zbv.setAl (h:zbv w0 W R G M al v rows ls vA acc) (x:Int):zbv w0 (W.setCell G x) R G M x v rows ls vA acc:=by
 have d:=h.hR;have a:=h.hG;have c:=dE W G 0 (.int .i64 x);refine⟨by simpa using h.blk.ab 0 _,zf h.nx c (fun b hb hS=>zq h.nx h.blk dM hb hS),h.rows.frm c (fun i r b hr hb hS=>?_),zf h.acc c (fun b hb hS=>zq h.acc h.blk dM hb hS),h.rd.frm c (fun k hk e=>oM),h.dr.ag (p:=⟨G,0,none⟩) a _,d,a⟩;obtain⟨g,_,f⟩:=h.rows.row hr;exact zq f h.blk dM hb hS
theorem zbv.setNext (h:zbv w0 W R G M al v rows ls vA acc) (ho:W.ownsRow w0.heap.size 74 1 v' 0 []):zbv w0 (W.setCell ⟨G,1,none⟩ v') R G M al v' [] [] vA acc:=by
 have c:=h.hR;have a:=h.hG;have d:=dE W G 1 v';exact⟨by simpa using h.blk.ab 1 _,zf ho d (fun b hb hS=>zq ho h.blk dM hb hS),zG.nil _ _,zf h.acc d (fun b hb hS=>zq h.acc h.blk dM hb hS),h.rd.frm d (fun k hk e=>oM),h.dr.ag (p:=⟨G,1,none⟩) a _,c,a⟩
theorem zbv.setMarks (h:zbv w0 W R G M al v rows ls vA acc) (ho:W.ownsRow w0.heap.size 4 1 v' 0 []):zbv w0 (W.setCell ⟨G,2,none⟩ v') R G M al v rows ls v' []:=by
 have d:=h.hR;have a:=h.hG;have c:=dE W G 2 v';refine⟨by simpa using h.blk.ab 2 _,zf h.nx c (fun b hb hS=>zq h.nx h.blk dM hb hS),h.rows.frm c (fun i r b hr hb hS=>?_),zf ho c (fun b hb hS=>zq ho h.blk dM hb hS),h.rd.frm c (fun k hk e=>oM),h.dr.ag (p:=⟨G,2,none⟩) a _,d,a⟩;obtain⟨f,_,ho⟩:=h.rows.row hr;exact zq ho h.blk dM hb hS
theorem zbv.growRow {row:Value}   {gN cN nN:Nat}(h:zbv w0 W R G M al (.slice (some gN) nN cN) rows ls vA acc)(hn:nN=ls.length)(hr:rows[i]?=some row)(hl:ls[i]?=some l)
  (zjc:W'.ownsRow w0.heap.size 3 1 (.slice (some g) (l.length+1) cap) (l.length+1) (ints l++[.int .i64 x])) (hg:W.grownBy W' row.ownBlock) (hat:row.ownBlock=some g∨g=W.heap.size+1) :
  (∀ u,W.cell? ⟨G,u,none⟩=W'.cell? ⟨G,u,none⟩)∧Hid (W'.cell? ⟨gN,i,none⟩=some row)∧W'.frozen? ⟨gN,i,none⟩=false ∧
  zbv w0 (W'.setCell ⟨gN,i,none⟩ (.slice (some g) (l.length+1) cap)) R G M al (.slice (some gN) nN cN) (rows.set i (.slice (some g) (l.length+1) cap)) (ls.set i (l++[x])) vA acc:=by
 subst hn;have y:=h.hR;have v:=h.hG;have E:i<ls.length:=(List.getElem?_eq_some_iff.1 hl).1;have s:=h.rows.2.1 i _ l hr hl;have n:Frm (fun k=>row.ownBlock=some k) W W':=fJ hg;obtain⟨z,D⟩:=h.grown s hg;have t:Blk W' G 26 #[.int .i64 al,.slice (some gN) ls.length cN,vA]:=h.blk.frm n (fun e=>zq s h.blk dM e rfl);have a:W'.ownsRow w0.heap.size 74 1 (.slice (some gN) ls.length cN) ls.length rows:=zf h.nx n (fun b hb hS=>zaM h.nx s dM hb hS);have zjd:W'.ownsRow w0.heap.size 4 1 vA acc.length (zaA acc):=zf h.acc n (fun b hb hS=>zaM h.acc s dM hb hS);have B:=(a.lt gN rfl).1;have q:=h.rows.1;have d:∀ (j:Nat) (r:Value) (b:Nat),j≠i->rows[j]?=some r->r.ownBlock=some b->b≠g:=fun j r b hji hj hb e=>by
  subst e;rcases hat with h1|h1
  ·exact h.rows.2.2 j i r row b hj hr hji hb h1
  ·have:=h.low j r b hj hb;omega
 have f:zG W' w0.heap.size (rows.set i (.slice (some g) (l.length+1) cap)) (ls.set i (l++[x])):=by
  refine⟨by simp [q],fun j r m hj hm=>?_,fun j j' r r' b hj hj' hne hb=>?_⟩
  ·by_cases hji:i=j
   ·subst hji;rw [eV oM] at hj;rw [eV E] at hm;obtain rfl:=Option.some.inj hj;obtain rfl:=Option.some.inj hm;simpa [ints] using zjc
   ·rw [fK hji] at hj hm;exact zf (h.rows.2.1 j r m hj hm) n (fun b hb hS=>h.rows.2.2 j i r row b hj hr (fun e=>hji e.symm) hb hS)
  ·by_cases hji:i=j
   ·subst hji;rw [eV oM] at hj;obtain rfl:=Option.some.inj hj;rw [fK hne] at hj';have o:g=b:=by simpa [Value.ownBlock] using hb
    subst o;exact fun hc=>d j' r' _ (fun e=>hne e.symm) hj' hc rfl
   ·rw [fK hji] at hj
    by_cases hji':i=j'
    ·subst hji';rw [eV oM] at hj';obtain rfl:=Option.some.inj hj';intro hc;have o:g=b:=by simpa [Value.ownBlock] using hc
     exact d j r b (fun e=>hji e.symm) hj hb o.symm
    ·rw [fK hji'] at hj';exact h.rows.2.2 j j' r r' b hj hj' hne hb
 have c:=dE W' gN i (.slice (some g) (l.length+1) cap);refine⟨fun u=>by rw [h.blk.cell,t.cell],za (by rw [a.cellAt i oM,hr]),a.frozenAt i,⟨t.frm c (fun e=>zq a t dM rfl e.symm),?_,?_,zf zjd c (fun b hb hS=>?_),D.frm c (fun k hk e=>oM),z.ag (p:=⟨gN,i,none⟩) B _,y,v⟩⟩
 ·rw [fF];exact (a.stored i _).1
 ·refine f.frm c (fun j r b hj hb hS=>?_);obtain⟨F,_,C⟩:=f.row hj;subst hS;exact zaM C a dM hb rfl
 ·subst hS;exact zaM zjd a dM hb rfl
end
def BdL (L:Nat) (ls:List (List Int)) (acc:List Bool):Prop:=ls.length<=L∧acc.length<=L∧∀ l∈ls,l.length<=L
theorem BdL.more (h:BdL L ls acc)(hK:L<=K):BdL K ls acc:=⟨dJ h.1 hK,dJ h.2.1 hK,fun l hl=>dJ (h.2.2 l hl) hK⟩
def BdA (L:Nat) (b:Aut):Prop:=BdL L b.next b.acc
theorem BdA.of (h:zfS b):BdA 16 b:=by
 obtain⟨a,p,ha,hp1,hp,h1,d,h3,c⟩:=h;exact⟨oM,oM,fun l hl=>by have:=c l hl;have:=zB a 6;omega⟩
theorem tot_le :∀ ls:List (List Int),(∀ l∈ls,l.length<=L)->tot ls<=ls.length*L
 |[],_=>by simp [tot]
 |l :: r,h=>by
  have:=tot_le r (fun x hx=>h x (by simp [hx]))
  have:=h l sM
  rw [tot_cons,List.length_cons,Nat.add_mul]
  omega
theorem BdA.size (h:BdA L b)(hL:L<=200):b.size<=1048576:=by
 have h1:=tot_le b.next h.2.2;have a:b.next.length*L<=200*200:=Nat.mul_le_mul (dJ h.1 hL) hL;have h3:=h.1;have c:=h.2.1;unfold Aut.size;omega
theorem yQ03a2 {P:Prop}(h:P:=by
 intro vA w4 hownA hgA hatA;rw [Nat.zero_add,List.nil_append] at hownA;obtain⟨BA,dA,rfl⟩:=zi hownA;have hxA:Ext w2 w4:=hx0.grown hgA (fun k hk=>(hm.lt k hk).1);have hb:Blk w4 G 26 #[.int .i64 0,.slice none 0 0,.slice none 0 0]:=(hgA.block G hb.lt (fun e=>zq hm hb dM e.symm rfl)).trans hb;replace hx0:=hxA;refine hK.out _ _ hx0 ?_;refine pT ?_;refine uQ ?_;have cG:=hb.cell;have fG:=hb.frozen;refine zb fun K hK=>?_;go_simp;refine hK.out _ _ ?_;refine ze ?_;have zjf:Gra w2 (((w4.setCell G a.al).setCell ⟨G,1,none⟩ ()).setCell ⟨G,2,none⟩ (.slice BA n' dA)) G a.al (.slice none 0 0) [] (.slice BA n' dA) a.acc:=⟨zal hb rfl _ _ _,⟨[],World.ownsRow_nil _ _ _ _,zG.nil _ _⟩,by
  rw [← hL'.out];exact zf hownA (zaD w4 G _ _ _) (fun b hv hS=>zq hownA hb dM hv hS),hx0.frm (zaD w4 G _ _ _) (fun k hk e=>oM),hG⟩
 go_wp2_with fail
 go_meet;exact⟨G,_,rfl,zjf⟩
 ):P:=h
theorem zan {a:Aut} (h:zI w lo hi A n A' n' a)(hs:a.size<=1048576) :
  Calls Tryz.prog 124 #[.agg #[a.al,.slice A n c,.slice A' n' c']] w (RetAut w a):=by
 have h1:n<=1048576:=by have:=h.n1;unfold Aut.size at hs;omega
 have h2:n'<=1048576:=by have:=h.n2;unfold Aut.size at hs;omega
 have g:∀ (k:Nat) (l:List Int),a.next[k]?=some l->l.length<=1048576:=fun k l O=>by
  have h1:=zja O;have h2:=tot_take_le a.next (k+1);unfold Aut.size at hs;omega
 have E:=za g;have H:=za h.n1;have hL':=za h.n2;have HS:=za (fun W (hW:Ext w W)=>h.1.ext hW);have R:=za (fun W (hW:Ext w W)=>h.2.2.ext hW);have ab:=h.1.len;clear g h hs
 go_enter Tryz.func124,Tryz.ntmps124
 go_upto_region 1 with fail
 generalize U0:(w.alloc _).alloc _=w2 at *;obtain⟨o,F,bz⟩:=Ext.x2_ U0;have af:w.heap.size+2=w2.heap.size:=by rw [← U0];simp
 clear U0
 go_cut [3] (fun v wx=>∃ (G:Nat) (vA:Value),v=.pointer (some G)∧Gra w2 wx G a.al (.slice none 0 0) [] vA a.acc)
 case first =>
  have c1:=fun W (hW:Ext w2 W)=>(F.ext hW).cell;have D:=cW w2;refine uR (fun X=>Ext w2 X) [8] (zw.app [0,1,3,4] (zw.two 2 (zw.two 5 (zw.of [6,7,8]) 7 (zw.of [5,6,8])) 7 (zw.of [2,5,6,8]))) ?_;refine uQ ?_;have hx0:Ext w2 w2.drew:=D.drew;generalize w2.drew=m at *;refine zm (fun K hK=>?_) (fun K hK=>?_)
  ·go_simp;have hm:=World.ownsRow_made (base:=w2.heap.size) (e:=4) (size:=1) m #[] 0 hx0.size (dD _) rfl;have f:=(cW m).alloc (.cells #[] 4);replace hx0:=hx0.trans f;refine hK.out _ _ hx0 ?_;generalize m.alloc _=u at *;generalize m.heap.size=M at *;refine pT ?_;refine uQ ?_;clear hK;refine zm (fun K hK=>?_) (fun K hK=>?_)
   ·skip;refine zv u _ _ 24 rfl w2.heap.size 4 _ 1 1 Tryz.underlying24 zbf rfl dM (.slice (some M) 0 0) 0 [] rfl hm _ _ A' n' c' (zaA a.acc) rfl (R.out _ (o.trans hx0)) (zgw _) lM oM hx0.size ?_;intro vA w4 hownA hgA hatA;rw [dS,eB] at hownA;obtain⟨BA,dA,rfl⟩:=zi hownA;have hxA:Ext w2 w4:=hx0.grown hgA (fun k hk=>(hm.lt k hk).1);replace hx0:=hxA;refine hK.out _ _ hx0 ?_;refine pT ?_;refine uQ ?_;refine zd fun K hK=>?_;go_simp;have f:=(cW w4).alloc (.cells #[(0:Int),(),()] 26);have hG:=hx0.size;replace hownA:=zg hownA f;replace hx0:=hx0.trans f;refine hK.out _ _ hx0 ?_;generalize U0:w4.alloc _=p at *;have hb:=dW U0;clear U0;generalize w4.heap.size=G at *;refine pT ?_;refine uQ ?_;have cG:=hb.cell;have fG:=hb.frozen;refine zb fun K hK=>?_;go_simp;refine hK.out _ _ ?_;refine ze ?_;have zjf:Gra w2 (((p.setCell G a.al).setCell ⟨G,1,none⟩ ()).setCell ⟨G,2,none⟩ (.slice BA n' dA)) G a.al (.slice none 0 0) [] (.slice BA n' dA) a.acc:=⟨zal hb rfl _ _ _,⟨[],World.ownsRow_nil _ _ _ _,zG.nil _ _⟩,by
     rw [← hL'.out];exact zf hownA (zaD p G _ _ _) (fun b hv hS=>zq hownA hb dM hv hS),hx0.frm (zaD p G _ _ _) (fun k hk e=>oM),hG⟩
    go_wp2_with fail
    go_meet;exact⟨G,_,rfl,zjf⟩
   ·go_simp;have f:=(cW u).alloc (.cells #[(0:Int),(),()] 26);have hG:=hx0.size;replace hm:=zg hm f;replace hx0:=hx0.trans f;refine hK.out _ _ hx0 ?_;generalize U0:u.alloc _=p at *;have hb:=dW U0;clear U0;generalize u.heap.size=G at *;refine pT ?_;refine uQ ?_;refine zd (fun K hK=>?_);refine zv p _ _ 24 rfl w2.heap.size 4 _ 1 1 Tryz.underlying24 zbf rfl dM (.slice (some M) 0 0) 0 [] rfl hm _ _ A' n' c' (zaA a.acc) rfl (R.out _ (o.trans hx0)) (zgw _) lM oM hx0.size ?_;exact yQ03a2
  ·go_simp;have f:=(cW m).alloc (.cells #[(0:Int),(),()] 26);have hG:=hx0.size;replace hx0:=hx0.trans f;refine hK.out _ _ hx0 ?_;generalize U0:m.alloc _=p at *;have hb:=dW U0;clear U0;generalize m.heap.size=G at *;refine pT ?_;refine uQ ?_;refine zd fun K hK=>?_;go_simp;have hm:=World.ownsRow_made (base:=w2.heap.size) (e:=4) (size:=1) p #[] 0 hx0.size (dD _) rfl;have f:=(cW p).alloc (.cells #[] 4);replace hb:=hb.ext f;replace hx0:=hx0.trans f;refine hK.out _ _ hx0 ?_;generalize p.alloc _=u at *;generalize p.heap.size=M at *;refine pT ?_;refine uQ ?_;refine zd (fun K hK=>?_);refine zv u _ _ 24 rfl w2.heap.size 4 _ 1 1 Tryz.underlying24 zbf rfl dM (.slice (some M) 0 0) 0 [] rfl hm _ _ A' n' c' (zaA a.acc) rfl (R.out _ (o.trans hx0)) (zgw _) lM oM hx0.size ?_;exact yQ03a2
 case rest =>
  obtain⟨G,vA,rfl,d⟩:=hcut;have Q:=(F.ext d.ext).cell;go_wp2_with fail
  go_loopw [4] (fun i wr=>∃ (k:Nat) (v:Value),k<=n∧i=.int .i64 k∧Gra w2 wr G a.al v (a.next.take k) vA a.acc) (fun i _=>n - (intOf i).toNat)
  case atStart=>exact⟨0,_,dD _,rfl,by simpa using d⟩
  case round =>
   clear d Q;obtain⟨k,v,hk,rfl,d⟩:=hrel
   by_cases hlt:k<n
   ·obtain⟨Z,Y,ck,l,rfl,_,_,O,I,J⟩:=(HS.out wr (o.trans d.ext)).row hlt;have ak:=E.out k l O.out;have T:=za (show a.next.take (k+1)=a.next.take k++[l] by rw [List.take_add_one,O.out];rfl);have L:=za (show (a.next.take k).length=k by rw [List.length_take];have:=H.out;omega);obtain⟨t,hv,C⟩:=d.own;have Q:=(F.ext d.ext).cell;go_upto_region 5 with fail
    clear Q;have cG:=fun W (hW:Ext wr W)=>(d.blk.ext hW).cell;have D:=cW wr;have S:=za (fun W (hW:Ext wr W)=>J.ext hW);have C1:∀ W,Ext wr W->∀ q,W.cell? ⟨w.heap.size,q,none⟩=#[Value.int .i64 a.al,.slice (some Z) n c,.slice A' n' c'][q]?:=fun W hW=>((F.ext d.ext).ext hW).cell;have Cr:∀ W,Ext wr W->W.cell? (Z.add k)=some (.slice Y l.length ck):=fun W hW=>hW.aa I;have aj:(k:Int)<(n:Int):=oM;clear I J;refine uR (fun X=>Ext wr X) [10,12] (zw.of [0,1,3,4,5,6,7,2,8,9,10,11,12]) ?_;refine uQ ?_;have hx0:Ext wr wr.drew:=D.drew;generalize wr.drew=m at *;refine zd fun K hK=>?_;go_simp;have hm:=World.ownsRow_made (base:=wr.heap.size) (e:=3) (size:=1) m #[] 0 hx0.size (dD _) rfl;have f:=(cW m).alloc (.cells #[] 3);replace hx0:=hx0.trans f;refine hK.out _ _ hx0 ?_;generalize m.alloc _=u at *;generalize m.heap.size=M at *;refine pT ?_;refine uQ ?_;refine zd (fun K hK=>?_);refine zv u _ _ 74 rfl wr.heap.size 3 _ 1 8 Tryz.underlying74 zae rfl dM (.slice (some M) 0 0) 0 [] rfl hm _ _ Y l.length ck (ints l) rfl (S.out _ hx0) (ziv _) lM oM hx0.size ?_;intro vR w3 g hgR hatR;rw [dS,eB] at g;obtain⟨BR,dR,rfl⟩:=zi g;have j:Ext wr w3:=hx0.grown hgR (fun k hk=>(hm.lt k hk).1);refine hK.out _ _ j ?_;refine pT ?_;refine uQ ?_;refine zd fun K hK=>?_;go_simp;refine hK.out _ _ (j.alloc _) ?_;refine pT ?_;refine zb fun K hK=>?_;refine zaL w2 w3 _ _ _ rfl 74 _ 1 24 Tryz.underlying23 zcd rfl dM v (a.next.take k).length t _ _ rfl rfl (d.ext.trans j).size (zg hv j) rfl (zaU _ _ _) (by unfold maxLen;have:=L.out;omega) (oH L.out) ?_;intro g5 cap5 w5 zjo hg5 hat5 hlt5;refine hK.out _ _ ?_;refine pT ?_;refine uQ ?_;obtain⟨p1,p2,p3⟩:=d.push C hv j g (W':=w5) zjo hg5 hat5;have an:=p1.out;refine zb fun K hK=>?_;go_simp;refine hK.out _ _ ?_;refine ze ?_;go_wp2_with fail
    go_roundw
    case rel=>exact⟨k+1,_,oM,gM,by rw [T.out];first|exact p3|simpa using p3⟩
    case measure=>simp [intOf];omega
   ·obtain rfl:n=k:=oM;obtain⟨r,s,rfl⟩:∃ r s,v=.slice r n s:=by
     obtain⟨t,hv,_⟩:=d.own;rw [dG (oH H.out),← H.out] at hv;exact zi hv
    obtain⟨x,y,rfl⟩:=zi d.acc;have Q:=(F.ext d.ext).cell;have cG:=d.blk.cell;have z:=bz.ext d.ext;have cZ:=z.cell;have fZ:=z.frozen;have B:=zaD wr (w.heap.size+1) (.int .i64 a.al) (.slice r n s) (.slice x a.acc.length y);have U:=zal z rfl (.int .i64 a.al) (.slice r n s) (.slice x a.acc.length y);have V:=(o.trans d.ext).frm B (fun k hk e=>oM);have zjf:=za (show RetAut w a (.returned (.agg #[a.al,.slice r n s,.slice x a.acc.length y])) (((wr.setCell ⟨w.heap.size+1,0,none⟩ a.al).setCell ⟨w.heap.size+1,1,none⟩ (.slice r n s)).setCell ⟨w.heap.size+1,2,none⟩ (.slice x a.acc.length y)) from by
     refine⟨r,n,s,x,a.acc.length,y,rfl,⟨?_,H.out,?_,rfl⟩,V⟩
     ·have ho:=d.own;rw [dG (oH H.out)] at ho;exact (ho.aq B (fun b h1 e=>oM)).less oM
     ·exact zn (zbd d.acc B (fun b h1 e=>oM)) oM)
    go_wp2_with fail
    generalize ((wr.setCell ⟨w.heap.size+1,0,none⟩ a.al).setCell ⟨w.heap.size+1,1,none⟩ (.slice r n s)).setCell ⟨w.heap.size+1,2,none⟩ (.slice x a.acc.length y)=wf at *;have cf:=U.cell;exact bodyPost_ret (v:=.agg #[a.al,.slice r n s,.slice x a.acc.length y]) (by simp [results,Tryz.results124,go_sem,cf]) rfl zjf.out
theorem eq_edge (a b c d e f:Int) (w:World):(Op.equalIn 10000 103 (.agg #[a,b,c]) (.agg #[d,e,f])).run Tryz.prog w=.ok (a==d&&(b==e&&c==f)) w:=by
 have h:=Tryz.underlying3;have g:=Tryz.isAgg3;have i:=Tryz.sizeOf3;have hS:Tryz.prog.underlying 103=some (.struct (Tryz.prog.fieldsOf 103)):=kM;have hp:Tryz.prog.stoodInHeld 103=false:=kM;rw [show (10000:Nat)=9999+1 from rfl,run_equalIn_agg w 9999 103 _ _ hS hp];simp only [Program.fieldsOf,Tryz.underlying103];go_simp
 by_cases h1:a=d<;>by_cases h2:b=e<;>by_cases h3:c=f<;>simp [h1,h2,h3]
theorem zdb (es:List Edg):∀ u∈zu es,u.oneCell'=true:=by
 induction es with
 |nil=>intro u h;cases h
 |cons e r ih =>
  intro u h;simp only [zu,List.mem_cons] at h;rcases h with rfl|rfl|rfl|h
  ·rfl
  ·rfl
  ·rfl
  ·exact ih u h
theorem zdc {e:Edg}(h:es[k]?=some e) (x:Int) :
  (zu es).set (k*3) (.int .i64 x)=zu (es.set k ⟨x,e.le,e.ta⟩)∧(zu es).set (k*3+1) (.int .i64 x)=zu (es.set k ⟨e.fr,x,e.ta⟩)∧(zu es).set (k*3+2) (.int .i64 x)=zu (es.set k ⟨e.fr,e.le,x⟩):=by
 induction es generalizing k with
 |nil=>simp at h
 |cons a r ih =>
  cases k with
  |zero=>simp at h;subst h;exact⟨rfl,rfl,rfl⟩
  |succ k =>
   have:=ih (k:=k) (by simpa using h);have b:(k+1)*3=k*3+1+1+1:=oM;refine⟨?_,?_,?_⟩<;>rw [b]<;>simp only [zu,List.set_cons_succ]
   ·rw [this.1]
   ·rw [this.2.1]
   ·rw [this.2.2]
section
variable {w0 wB W:World} {R G M:Nat} {al st:Int} {es:List Edg}
theorem Acc.turn {m:Nat}  {fs:List Edg}(h:Acc w0 wB W R G M al st (.slice (some g) m c) es)(hm:m=es.length)(hs:(zu es).set j (.int .i64 x)=zu fs)(hl:fs.length=es.length) :
  Acc w0 wB (W.setCell ⟨g,j,none⟩ x) R G M al st (.slice (some g) m c) fs:=by
 have d:g≠G:=h.far rfl;have l:=(h.own.lt g rfl).1;have i:=h.hR;have f:=h.hB;have a:=dE W g j (.int .i64 x);refine⟨h.blk.frm a oM,?_,h.rd.frm a (fun k h1 h2=>oM),h.dr.ag (by dsimp only;omega) _,?_,h.hR,h.hB,h.hG⟩
 ·have b:=h.own;rw [← hm] at b;have:=(b.stored j (.int .i64 x)).1;rw [hs] at this;rw [hl,← hm];exact this
 ·exact⟨h.fr.os,h.fr.tape,h.fr.output,by simpa [World.setCell] using h.fr.size,fun k hk hn=>(Below.heap_setCell _ _ _ _ (by dsimp only;omega)).trans (h.fr.block k hk hn)⟩
end
theorem wrong_acc (hr:Rd w R M)(hx:Ext w w1)(hR:R<w.heap.size)(hxW:Ext w1 W) (zjc:W.ownsRow w1.heap.size 103 3 v es.length (zu es))(hG:w1.heap.size<=G)(hB:Blk W G 39 #[al,st,v]) :
  Acc w w1 W R G M al st v es:=
 ⟨hB,zjc,hr.ext (hx.trans hxW),(hx.trans hxW).dr,hxW.ai,hR,hx.size,dJ hx.size hG⟩
theorem edge_lit (w:World):(w.alloc (.cells #[] 103)).drew.ownsRow w.heap.size 103 3 (.slice (some w.heap.size) 0 0) 0 []:=
 World.ownsRow_lit w #[] 0 (cY _) lM rfl
theorem zil (hn:n=es.length)(h:W.ownsRow base 103 3 v n (zu es)):W.ownsRow base 103 3 v es.length (zu es):=by
 subst hn;exact h
theorem zfR (hr:Rd w R M)(hx:Ext w w1)(hR:R<w.heap.size)(hxW:Ext w1 W) (zjc:W.ownsRow w1.heap.size 103 3 v es.length (zu es))(hB:Blk W G 39 #[(0:Int),(0:Int),()])(hG:w1.heap.size<=G) :
  ∃ (G':Nat) (v':Value),Value.pointer (some G)=.pointer (some G')∧w1.heap.size<=G'∧Acc w w1 (((W.setCell G al).setCell ⟨G,1,none⟩ st).setCell ⟨G,2,none⟩ v) R G' M al st v' es:=by
 have f:=zdO W G (.int .i64 al) (.int .i64 st) v;have a:∀ b,v.ownBlock=some b->b≠G:=by
  rintro b hv rfl;rcases zjc.2 with ⟨rfl,_⟩|⟨g,c,d,rfl,_,i,_⟩
  ·simp [Value.ownBlock] at hv
  ·have h:g=b:=by simpa [Value.ownBlock] using hv
   subst h;unfold Blk at hB;rw [i] at hB;injection hB with hB
   injection hB with _ ht
   exact absurd ht dM
 refine⟨G,v,rfl,hG,wrong_acc hr hx hR ?_ (zf zjc f (fun b hv hS=>a b hv hS)) hG (by simpa using ((hB.ab 0 (.int .i64 al)).ab 1 (.int .i64 st)).ab 2 v)⟩;exact ((hxW.setCell (p:=⟨G,0,none⟩) hG _).setCell (p:=⟨G,1,none⟩) hG _).setCell (p:=⟨G,2,none⟩) hG _
theorem zgf (h:Acc w0 wB W R G M al st (.slice A n c) es)(hn:0<n):∃ g,A=some ⟨g,0,none⟩:=by
 rcases h.own.2 with ⟨hv,d⟩|⟨g,a,b,hv,_⟩
 ·injection hv with _ h2 _;omega
 ·injection hv with h1
  exact⟨g,h1⟩
theorem yQ03a5 {P:Prop}(h:P:=by
 have h1':=h1.out;refine zJ fun K hK=>?_;go_simp;refine hK.out _ _ ?_;refine zai ?_;go_wp2_with fail
 go_meet;exact⟨_,_,_,_,h3.more oM,by have:=HnL.out;simp;omega⟩
 ):P:=h
theorem yQ03a6 {P:Prop}(h:P:=by
 refine zJ fun K hK=>?_;go_simp;refine hK.out _ _ ?_;refine zai ?_;go_wp2_with fail
 go_meet;exact⟨_,_,_,_,hst.more oM,by have:=HnL.out;simp;omega⟩
 ):P:=h
theorem zbG (h:Rd w R M)(hM:M<=900000000)(hs:zbp w R A n s)(hn:n<=L)(hL:L<=100000) :
  Calls Tryz.prog 82 #[.pointer (some R),.agg #[s.al,s.st,.slice A n c]] w (RetA R (M+10) (L+1) w):=by
 have hRl:=h.lt;have O:=hs.at_.2;have D:=za hs.1;obtain⟨al,st,b⟩:=s;simp only at O D ⊢;obtain⟨a,U0⟩:∃ x,Hid ((w.alloc (.cells #[al,st,.slice A n c] 39)).alloc (.cells #[(0:Int),(0:Int),()] 39)=x):=⟨_,za rfl⟩;have an:Ext w a:=(((cW _).alloc _).alloc _).trans (Ext.eq_ U0.out);obtain⟨bS,bZ⟩:=zT (Ext.eq_ U0.out);have am:a.heap.size=w.heap.size+2:=by rw [← U0.out];simp
 have ar:=za bS;have ab:=za bZ;have C:=za an;have au:=za am;clear bS bZ an am hs
 go_enter Tryz.func82,Tryz.ntmps82
 go_wp2_with fail
 rw [U0.out] at *;have aV:w.heap.size+2<=a.heap.size:=by rw [au.out];exact cY _
 go_upto_region 1 with fail
 go_cut [5] (fun s5 wx=>∃ (G:Nat) (v:Value),s5=.pointer (some G)∧a.heap.size<=G∧Acc w a wx R G M al st v b)
 case first =>
  have cS:=fun W (hW:Ext a W)=>(ar.out.ext hW).cell;refine tR (fun X=>Ext a X) [10] (Ord.app [0,1,2,3,5,6] (Ord.two 4 (Ord.two 7 (Ord.of [8,9,10]) 9 (Ord.of [7,8,10])) 9 (Ord.of [4,7,8,10]))) ?_;refine tQ ?_;refine zfl (fun K hK=>?_) (fun K hK=>?_)
  ·go_simp;have j:Ext a (a.alloc (.cells #[] 103)).drew:=((cW a).alloc _).drew;have zjc:(a.alloc (.cells #[] 103)).drew.ownsRow a.heap.size 103 3 (.slice (some a.heap.size) 0 0) 0 []:=edge_lit a;have U:(a.alloc (.cells #[] 103)).drew.heap.size=a.heap.size+1:=sM;refine hK.out _ _ j ?_;refine pT ?_;generalize (a.alloc (.cells #[] 103)).drew=w2 at *;refine zfl (fun K hK=>?_) (fun K hK=>?_)
   ·refine zv _ _ _ _ rfl a.heap.size 103 _ 3 24 Tryz.underlying37 zbg rfl dM (.slice (some a.heap.size) 0 0) 0 [] rfl zjc (R+1) w.heap.size A n c (zu b) rfl (O.ext (C.out.trans j)) (zdb b) lM oM j.size ?_;intro v V zjn hg3 hat3;rw [dS,eB] at zjn;obtain⟨A3,c3,rfl⟩:=zi zjn;have f:Ext a V:=j.grown hg3 (fun k hk=>by simp [Value.ownBlock] at hk;omega);refine hK.out _ _ f ?_;refine pT ?_;refine tQ ?_;refine zA fun K hK=>?_;go_simp;refine hK.out _ _ (f.alloc _) ?_;refine pT ?_;refine tQ ?_;refine zJ fun K hK=>?_;go_simp;refine hK.out _ _ ?_;refine zai ?_;go_wp2_with fail
    go_meet;exact⟨V.heap.size,.slice A3 n c3,rfl,f.size,wrong_acc h C.out hRl (f.alloc _) (zg (zil D.out zjn) ((cW _).alloc _)) f.size (dT _ _ _)⟩
   ·go_simp;have f:=j.alloc (.cells #[(0:Int),(0:Int),()] 39);have ao:=(cW w2).alloc (.cells #[(0:Int),(0:Int),()] 39);replace zjc:=zg zjc ao;refine hK.out _ _ f ?_;generalize U0:w2.alloc _=aX at *;have H:=dW U0;clear U0;rw [U] at H;have j:=f;refine pT ?_;refine zA (fun K hK=>?_);refine zv _ _ _ _ rfl a.heap.size 103 _ 3 24 Tryz.underlying37 zbg rfl dM (.slice (some a.heap.size) 0 0) 0 [] rfl zjc (R+1) w.heap.size A n c (zu b) rfl (O.ext (C.out.trans j)) (zdb b) lM oM j.size ?_;intro v V zjn hg3 hat3;rw [dS,eB] at zjn;obtain⟨A3,c3,rfl⟩:=zi zjn;have f:Ext a V:=j.grown hg3 (fun k hk=>by simp [Value.ownBlock] at hk;omega);have r:Blk V (a.heap.size+1) 39 #[.int .i64 0,.int .i64 0,.slice none 0 0]:=H.frm (fJ hg3) (by simp [Value.ownBlock]);refine hK.out _ _ f ?_;refine pT ?_;refine tQ ?_;have cE:=r.cell;have fE:=r.frozen;refine zJ fun K hK=>?_;go_simp;refine hK.out _ _ ?_;refine zai ?_;go_wp2_with fail
    go_meet;exact zfR h C.out hRl f (zil D.out zjn) r oM
  ·go_simp;have j:Ext a (a.alloc (.cells #[(0:Int),(0:Int),()] 39)).drew:=((cW a).alloc _).drew;have av:Blk (a.alloc (.cells #[(0:Int),(0:Int),()] 39)).drew a.heap.size 39 #[.int .i64 0,.int .i64 0,.slice none 0 0]:=dT a _ _;have U:(a.alloc (.cells #[(0:Int),(0:Int),()] 39)).drew.heap.size=a.heap.size+1:=sM;refine hK.out _ _ j ?_;refine pT ?_;generalize (a.alloc (.cells #[(0:Int),(0:Int),()] 39)).drew=w2 at *;refine zA fun K hK=>?_;go_simp;have f:=j.alloc (.cells #[] 103);have zjc:(w2.alloc (.cells #[] 103)).ownsRow a.heap.size 103 3 (.slice (some ⟨a.heap.size+1,0,none⟩) 0 0) 0 []:=by
    rw [← U];exact World.ownsRow_lit w2 #[] 0 j.size lM rfl
   have H:=av.ext ((cW w2).alloc (.cells #[] 103));refine hK.out _ _ f ?_;generalize w2.alloc _=V at *;refine pT ?_;refine zA (fun K hK=>?_);refine zv _ _ _ _ rfl a.heap.size 103 _ 3 24 Tryz.underlying37 zbg rfl dM (.slice (some ⟨a.heap.size+1,0,none⟩) 0 0) 0 [] rfl zjc (R+1) w.heap.size A n c (zu b) rfl (O.ext (C.out.trans f)) (zdb b) lM oM f.size ?_;intro v w4 hown4 hg4 hat4;rw [dS,eB] at hown4;obtain⟨A4,c4,rfl⟩:=zi hown4;have ap:Ext a w4:=f.grown hg4 (fun k hk=>by simp [Value.ownBlock] at hk;omega);have r:Blk w4 a.heap.size 39 #[.int .i64 0,.int .i64 0,.slice none 0 0]:=H.frm (fJ hg4) (by simp [Value.ownBlock]);refine hK.out _ _ ap ?_;refine pT ?_;refine tQ ?_;have cE:=r.cell;have fE:=r.frozen;refine zJ fun K hK=>?_;go_simp;refine hK.out _ _ ?_;refine zai ?_;go_wp2_with fail
   go_meet;exact zfR h C.out hRl ap (zil D.out hown4) r (cY _)
 case rest =>
  obtain⟨G,v,rfl,aT,zjd⟩:=hcut;obtain⟨A1,n1,Y,rfl⟩:=zjd.form;obtain⟨rfl,ak⟩:=zjd.reads;have aU:=zjd.hG;have cG:=zjd.blk.cell;have ai:=ak.2.len;clear ak;have ay:b.length<=L:=oH D.out;have HnL:=za ay;go_wp2_with fail
  refine (zx (n:=b.length) zjd.rd oM).mono ?_;rintro e V ⟨k,rfl,ag,ax,aj,af⟩;replace zjd:=zjd.drawn af aj;clear af aj cG;have Hk:=za ag;clear ag ax;go_wp2_with fail
  refine (zx (n:=30) zjd.rd oM).mono ?_;rintro e w4 ⟨y,rfl,-,-,hr4,hd4⟩;replace zjd:=zjd.drawn hd4 hr4;clear hd4 hr4;go_upto_block 0 with fail
  go_cut [] (fun wx=>∃ (al st:Int) (v:Value) (S:List Edg),Acc w a wx R G (M+10) al st v S∧S.length<=L+1)
  case first =>
   have aO:=za ai;clear ai;have I:y=0∨y=1∨y=2∨y=3∨y=4∨y=5∨y=6∨7<=y:=oM;rcases I with B|B|B|B|B|B|B|B
   ·subst B;have az:True:=trivial;go_wp2_with fail
    refine (zaJ [64,(-1),1,63] 4 #[(64:Int),.int .i64 (-1),(1:Int),(63:Int)] rfl rfl oM oM zjd.rd oM).mono ?_;rintro e E ⟨x,-,rfl,o,i⟩;replace zjd:=(zjd.ext ((cW _).alloc _)).drawn i o;have cG:=zjd.blk.cell;have fG:=zjd.blk.frozen;go_wp2_with fail
    go_meet;exact⟨_,_,_,b,(zjd.setAl x).more oM,oH HnL.out⟩
   ·subst B;have az:True:=trivial;go_wp2_with fail
    refine (zaJ [0,17,(-1),16,1] 5 #[(0:Int),(17:Int),.int .i64 (-1),(16:Int),(1:Int)] rfl rfl oM oM zjd.rd oM).mono ?_;rintro e E ⟨x,-,rfl,o,i⟩;replace zjd:=(zjd.ext ((cW _).alloc _)).drawn i o;have cG:=zjd.blk.cell;have fG:=zjd.blk.frozen;go_wp2_with fail
    go_meet;exact⟨_,_,_,b,(zjd.setSt x).more oM,oH HnL.out⟩
   ·subst B
    by_cases hn0:0<b.length
    ·have hk:=Hk.out oM;have t:k<b.length:=oM;obtain⟨g,rfl⟩:=zgf zjd hn0;have m:b.length≠0:=oM;have T:R<a.heap.size:=by have:=zjd.hR;have:=zjd.hB;omega
     have cG:∀ W,Dr R w4 W->∀ q,W.cell? ⟨G,q,none⟩=#[Value.int .i64 al,.int .i64 st,.slice (some g) b.length Y][q]?:=fun W hW=>(zjd.blk.dr hW (oH zjd.hG)).cell;clear hk m;go_wp2_with fail
     refine tR (fun X=>Dr R w4 X) [8] (Ord.of [0,1,2,3,4,5,6,7,8]) ?_;refine tQ ?_;refine zA fun K hK=>?_;go_simp;refine hK.out _ _ ((Dr.refl R w4).drew.alloc _) ?_;refine pT ?_;refine tQ ?_;refine zA fun K hK=>?_;go_simp;refine (zaJ (w:=w4.drew) [(-1),16,0,2] 4 #[.int .i64 (-1),(16:Int),(0:Int),(2:Int)] rfl rfl oM oM (zjd.rd.ext (cW _).drew) oM).mono ?_;rintro e E ⟨x,-,rfl,o,i⟩;have l:Dr R w4 E:=((Dr.refl R w4).drew.alloc _).trans i;have d:=zjd.drawn l o;refine hK.out _ _ l ?_;refine pT ?_;refine tQ ?_;have zjc:=d.own;obtain⟨o0,c0⟩:=zaX zjc (k*3) oM;have f0:=zjc.frozenAt (k*3);have hst:=d.turn rfl (zdc (dC t) x).1 sM;exact yQ03a6
    ·have hn1:b.length=0:=oM;clear hn0;go_wp2_with fail
     go_meet;exact⟨_,_,_,b,zjd.more oM,oH HnL.out⟩
   ·subst B
    by_cases hn0:0<b.length
    ·have hk:=Hk.out oM;have t:k<b.length:=oM;obtain⟨g,rfl⟩:=zgf zjd hn0;have m:b.length≠0:=oM;have T:R<a.heap.size:=by have:=zjd.hR;have:=zjd.hB;omega
     have cG:∀ W,Dr R w4 W->∀ q,W.cell? ⟨G,q,none⟩=#[Value.int .i64 al,.int .i64 st,.slice (some g) b.length Y][q]?:=fun W hW=>(zjd.blk.dr hW (oH zjd.hG)).cell;clear hk m;go_wp2_with fail
     refine tR (fun X=>Dr R w4 X) [8] (Ord.of [0,1,2,3,4,5,6,7,8]) ?_;refine tQ ?_;refine zA fun K hK=>?_;go_simp;refine hK.out _ _ ((Dr.refl R w4).drew.alloc _) ?_;refine pT ?_;refine tQ ?_;refine zA fun K hK=>?_;go_simp;refine (zaJ (w:=w4.drew) [(-1),16,0,3] 4 #[.int .i64 (-1),(16:Int),(0:Int),(3:Int)] rfl rfl oM oM (zjd.rd.ext (cW _).drew) oM).mono ?_;rintro e E ⟨x,-,rfl,o,i⟩;have l:Dr R w4 E:=((Dr.refl R w4).drew.alloc _).trans i;have d:=zjd.drawn l o;refine hK.out _ _ l ?_;refine pT ?_;refine tQ ?_;have zjc:=d.own;obtain⟨o0,c0⟩:=zaX zjc (k*3+2) oM;have f0:=zjc.frozenAt (k*3+2);have hst:=d.turn rfl (zdc (dC t) x).2.2 sM;exact yQ03a6
    ·have hn1:b.length=0:=oM;clear hn0;go_wp2_with fail
     go_meet;exact⟨_,_,_,b,zjd.more oM,oH HnL.out⟩
   ·subst B
    by_cases hn0:0<b.length
    ·have hk:=Hk.out oM;have t:k<b.length:=oM;obtain⟨g,rfl⟩:=zgf zjd hn0;have m:b.length≠0:=oM;have T:R<a.heap.size:=by have:=zjd.hR;have:=zjd.hB;omega
     have cG:∀ W,Dr R w4 W->∀ q,W.cell? ⟨G,q,none⟩=#[Value.int .i64 al,.int .i64 st,.slice (some g) b.length Y][q]?:=fun W hW=>(zjd.blk.dr hW (oH zjd.hG)).cell;clear hk m;go_wp2_with fail
     refine tR (fun X=>Dr R w4 X) [8] (Ord.of [0,1,2,3,4,5,6,7,8]) ?_;refine tQ ?_;refine zA fun K hK=>?_;go_simp;refine hK.out _ _ ((Dr.refl R w4).drew.alloc _) ?_;refine pT ?_;refine tQ ?_;refine zA fun K hK=>?_;go_simp;refine (zaJ (w:=w4.drew) [(-1),6,70,5,0] 5 #[.int .i64 (-1),(6:Int),(70:Int),(5:Int),(0:Int)] rfl rfl oM oM (zjd.rd.ext (cW _).drew) oM).mono ?_;rintro e E ⟨x,-,rfl,o,i⟩;have l:Dr R w4 E:=((Dr.refl R w4).drew.alloc _).trans i;have d:=zjd.drawn l o;refine hK.out _ _ l ?_;refine pT ?_;refine tQ ?_;have zjc:=d.own;obtain⟨o0,c0⟩:=zaX zjc (k*3+1) oM;have f0:=zjc.frozenAt (k*3+1);have hst:=d.turn rfl (zdc (dC t) x).2.1 sM;exact yQ03a6
    ·have hn1:b.length=0:=oM;clear hn0;go_wp2_with fail
     go_meet;exact⟨_,_,_,b,zjd.more oM,oH HnL.out⟩
   ·subst B
    by_cases hn0:0<b.length
    ·have hk:=Hk.out oM;have t:k<b.length:=oM;obtain⟨g,rfl⟩:=zgf zjd hn0;have m:b.length≠0:=oM;have zjc:=zjd.own;have hE:=za (dC t);obtain⟨ed,aw⟩:∃ ed,Hid (b[k]?=some ed):=⟨_,hE.out⟩;obtain⟨d0,d1,d2⟩:=zco aw.out;have cG:=fun W (hW:Ext w4 W)=>(zjd.blk.ext hW).cell;have C0:∀ W,Ext w4 W->W.cell? ⟨g,k*3,none⟩=some (.int .i64 ed.fr):=fun W hW=>hW.aa (by rw [zjc.cellAt _ oM];exact d0);have C1:∀ W,Ext w4 W->W.cell? ⟨g,k*3+1,none⟩=some (.int .i64 ed.le):=fun W hW=>hW.aa (by rw [zjc.cellAt _ oM];exact d1);have C2:∀ W,Ext w4 W->W.cell? ⟨g,k*3+2,none⟩=some (.int .i64 ed.ta):=fun W hW=>hW.aa (by rw [zjc.cellAt _ oM];exact d2);clear hk m d0 d1 d2;go_wp2_with fail
     refine tR (fun X=>Ext w4 X) [8,10] (Ord.of [0,1,2,3,4,5,6,7,8,9,10]) ?_;refine tQ ?_;refine zA fun K hK=>?_;go_simp;refine hK.out _ _ ((cW _).drew.alloc _) ?_;refine pT ?_;refine zJ fun K hK=>?_;refine zaL a w4.drew _ _ _ rfl 103 _ 3 24 Tryz.underlying37 zbg rfl dM (.slice (some g) b.length Y) b.length (zu b) _ _ rfl rfl zjd.fr.size zjc rfl (by simp [Value.oneCell']) lM oM ?_;intro g5 cap5 E zjo hg5 hat5 hlt5;refine hK.out _ _ ?_;refine pT ?_;refine tQ ?_;obtain⟨h1,h2,h3⟩:=(zjd.ext ((cW _).drew)).push (e:=ed) (W':=E) zjo hg5 hat5;exact yQ03a5
    ·have hn1:b.length=0:=oM;clear hn0;go_wp2_with fail
     go_meet;exact⟨_,_,_,b,zjd.more oM,oH HnL.out⟩
   ·subst B;have T:R<a.heap.size:=by have:=zjd.hR;have:=zjd.hB;omega
    have cG:∀ W,Dr R w4 W->∀ q,W.cell? ⟨G,q,none⟩=#[Value.int .i64 al,.int .i64 st,.slice A1 b.length Y][q]?:=fun W hW=>(zjd.blk.dr hW (oH zjd.hG)).cell;go_wp2_with fail
    refine tR (fun X=>Dr R w4 X) [10,12] (Ord.of [0,1,2,4,6,3,5,7,8,9,10,11,12]) ?_;refine tQ ?_;refine zA fun K hK=>?_;go_simp;refine (zx (n:=4) (zjd.rd.ext (cW _).drew) oM).mono ?_;rintro e E ⟨x,rfl,-,-,o,i⟩;replace i:=((Dr.refl R w4).drew).trans i;refine hK.out _ _ i ?_;refine pT ?_;refine tQ ?_;refine zA fun K hK=>?_;go_simp;refine (zx (n:=3) o oM).mono ?_;rintro e w6 ⟨z,rfl,-,-,hr6,J⟩;replace J:=i.trans J;refine hK.out _ _ J ?_;refine pT ?_;refine tQ ?_;refine zA fun K hK=>?_;go_simp;refine (zx (n:=4) hr6 oM).mono ?_;rintro e w7 ⟨u,rfl,-,-,hr7,hd7⟩;replace hd7:=J.trans hd7;refine hK.out _ _ hd7 ?_;have p:=zjd.drawn hd7 hr7;refine pT ?_;refine tQ ?_;refine zA fun K hK=>?_;go_simp;refine hK.out _ _ (hd7.alloc _) ?_;refine pT ?_;refine zJ fun K hK=>?_;refine zaL a w7 _ _ _ rfl 103 _ 3 24 Tryz.underlying37 zbg rfl dM (.slice A1 b.length Y) b.length (zu b) _ _ rfl rfl p.fr.size p.own rfl (by simp [Value.oneCell']) (by unfold maxLen;have:=HnL.out;omega) (oH HnL.out) ?_;intro g8 cap8 w8 hown8 hg8 hat8 hlt8;refine hK.out _ _ ?_;refine pT ?_;refine tQ ?_;obtain⟨h1,h2,h3⟩:=p.push (e:=⟨x,z,u⟩) (W':=w8) hown8 hg8 hat8;exact yQ03a5
   ·have h0:((y:Int)==0)=false:=by simp;omega
    have h1:((y:Int)==1)=false:=by simp;omega
    have h2:((y:Int)==2)=false:=by simp;omega
    have h3:((y:Int)==3)=false:=by simp;omega
    have h4:((y:Int)==4)=false:=by simp;omega
    have h5:((y:Int)==5)=false:=by simp;omega
    have h6:((y:Int)==6)=false:=by simp;omega
    clear B;go_wp2_with fail
    go_meet;exact⟨_,_,_,b,zjd.more oM,oH HnL.out⟩
  case rest =>
   clear zjd;obtain⟨F,Q,v',S,zjd,ah⟩:=hcut;obtain⟨A',n',c',rfl⟩:=zjd.form;obtain⟨rfl,_⟩:=zjd.reads;have cG:=zjd.blk.cell;have ae:=ab.out.frm zjd.fr oM;have cz:=ae.cell;have aW:=ab.out.lt;have fz:=ae.frozen;obtain⟨f1,f2,f3⟩:=zjd.fin (Z:=w.heap.size+1) oM oM (.int .i64 F) (.int .i64 Q) (.slice A' S.length c');have ad:=za (show RetA R (M+10) (L+1) w (.returned (.agg #[F,Q,.slice A' S.length c'])) _ from ⟨⟨F,Q,S⟩,A',S.length,c',rfl,f1,⟨ah,zgT zjd.own⟩,f2,f3⟩);clear f1 f2 f3;go_wp2_with fail
   exact bodyPost_ret (v:=.agg #[F,Q,.slice A' S.length c']) (by simp [results,Tryz.results82,go_sem,cz]) rfl ad.out
def lenAt (W:World) (G:Nat):Nat:=match W.cell? ⟨G,1,none⟩ with|some (.slice _ n _)=>n|_=>0
theorem zbv.lenAt {vA:Value}   (h:zbv w0 W R G M al (.slice A n c) rows ls vA acc):Go.Proofs.YtfcjhpodichpjaaGreatDoor.lenAt W G=n:=by
 unfold Go.Proofs.YtfcjhpodichpjaaGreatDoor.lenAt;rw [h.blk.cell 1];rfl
theorem yQ03a8 {P:Prop}(h:P:=by
 have hn1:m=0:=oM;clear hn0;have cG:=zjd.blk.cell;go_wp2_with fail
 go_meet;exact⟨_,_,_,_,_,_,zjd.more oM,za (Hb.out.more oM)⟩
 ):P:=h
theorem zbH (h:Rd w R M)(hM:M<=900000000)(ho:zX w (R+1) A n c A' n' c' b)(hb:BdA L b)(hL:L<=100) :
  Calls Tryz.prog 81 #[.pointer (some R),.agg #[b.al,.slice A n c,.slice A' n' c']] w (zfT R (M+10) (BdA (L+13)) w):=by
 have hRl:=h.lt;have az:=hb.size oM
 go_enter Tryz.func81,Tryz.ntmps81
 have hx0:=(cW w).alloc (.cells #[b.al,.slice A n c,.slice A' n' c'] 26);have b0:=dT w 26 #[b.al,.slice A n c,.slice A' n' c'];have aR:(w.alloc (.cells #[b.al,.slice A n c,.slice A' n' c'] 26)).heap.size=w.heap.size+1:=sM;have U:=hx0.alloc (.cells #[(0:Int),(),()] 26);have bz:=dT (w.alloc (.cells #[b.al,.slice A n c,.slice A' n' c'] 26)) 26 #[(0:Int),(),()];replace b0:=b0.ext ((cW _).alloc (.cells #[(0:Int),(),()] 26));rw [aR] at bz;have c0:=b0.cell;go_upto_region 1 with fail
 generalize (w.alloc _).alloc _=F at *;have aV:=bz.lt;go_wp2_with fail
 refine (zan (ho.ext U).reads az).mono ?_;rintro e w2 ⟨B,m,d,B',m',d',rfl,zjc,aj⟩;obtain⟨a,zjd⟩:=zbv.of (R:=R) (M:=M) zjc (h.ext (U.trans aj)) aj.dr oM;have hG:=aj.size;have hm:m=b.next.length:=zjc.2.1;have bq:m<=100:=oH hb.1;have Z:=za hm;have Hb:=za hb;clear zjc ho hm hb az;go_upto_region 2 with fail
 generalize w2.alloc _=w3 at *;generalize w2.heap.size=G at *;have cG:=zjd.blk.cell;go_wp2_with fail
 refine (zx zjd.rd oM).mono ?_;rintro e w4 ⟨k,rfl,ar,-,hr4,hd4⟩;replace zjd:=zjd.drawn hd4 hr4;have Hk:=za ar;clear hd4 hr4 cG ar;go_wp2_with fail
 refine (zx zjd.rd oM).mono ?_;rintro e z ⟨y,rfl,-,-,ay,ao⟩;replace zjd:=zjd.drawn ao ay;clear ao ay;go_upto_block 0 with fail
 go_cut [] (fun wx=>∃ (al:Int) (v:Value) (a:List Value) (u:List (List Int)) (vA:Value) (acc:List Bool),zbv F wx R G (M+10) al v a u vA acc∧Hid (BdL (L+13) u acc))
 case first =>
  have ab:y=0∨y=1∨y=2∨y=3∨y=4∨y=5∨6<=y:=oM;rcases ab with H|H|H|H|H|H|H
  ·subst H;have V:True:=trivial;go_wp2_with fail
   refine (zaJ [64,(-1),1,63,0] 5 #[(64:Int),.int .i64 (-1),(1:Int),(63:Int),(0:Int)] rfl rfl oM oM zjd.rd oM).mono ?_;rintro e C ⟨x,-,rfl,hr6,O⟩;replace zjd:=(zjd.ext ((cW _).alloc _)).drawn O hr6;have cG:=zjd.blk.cell;have fG:=zjd.blk.frozen;go_wp2_with fail
   go_meet;exact⟨_,_,_,_,_,_,(zjd.setAl x).more oM,za (Hb.out.more oM)⟩
  ·subst H;have V:True:=trivial;have cG:=zjd.blk.cell;have E:=zjd.dr.size;have hal:b.acc.length<=100:=oH Hb.out.2.1;go_wp2_with (at_builtin;refine zar F z rfl _ _ _ rfl 4 _ 1 1 Tryz.underlying24 zbf rfl dM (.slice B' m' d') b.acc.length (zaA b.acc) _ _ rfl rfl E zjd.acc rfl (by simp [Value.oneCell']) lM oM ?_;intro g6 cap6 C hown6 hg6 hat6 hlt6;obtain⟨q1,q2,q3⟩:=zjd.ao (x:=true) hown6 hg6 hat6;have aX:=q1.out)
   go_meet;exact⟨_,_,_,_,_,_,q3.more oM,za ⟨oH Hb.out.1,by have:=Hb.out.2.1;simp;omega,fun l t=>by have:=Hb.out.2.2 l t;omega⟩⟩
  ·subst H;have V:True:=trivial
   by_cases hn0:0<m
   ·have hk:=Hk.out oM;have Q:k<b.next.length:=oH Z.out;obtain⟨l,t⟩:∃ l,b.next[k]?=some l:=⟨_,dC Q⟩;obtain⟨gN,rfl,ap,-⟩:=zac (show z.ownsRow F.heap.size 74 1 (.slice B m d) m a from by have:=zjd.nx;rw [← Z.out] at this;exact this) hn0;obtain⟨Y,I,hr,f,s⟩:=zjd.row t Z.out;have ah:l.length<=100:=by have:=Hb.out.2.2 l (cX t);omega
    have HL:=za t;have HR:=za hr;have E:=zjd.dr.size;have cG:∀ W,Frm (fun b=>(Value.slice Y l.length I).ownBlock=some b) z W->∀ q,W.cell? ⟨G,q,none⟩=#[Value.int .i64 b.al,.slice (some gN) m d,.slice B' m' d'][q]?:=fun W hW=>(zjd.blk.frm hW (fun e=>zq s zjd.blk dM e rfl)).cell;have cN:∀ W,Frm (fun b=>(Value.slice Y l.length I).ownBlock=some b) z W->W.cell? ⟨gN,k,none⟩=some (.slice Y l.length I):=fun W hW=>by
     have hx:W.ownsRow F.heap.size 74 1 (.slice (some gN) m d) b.next.length a:=zf zjd.nx hW (fun b hb hS=>zaM zjd.nx s dM hb hS);rw [← Z.out] at hx;rw [hx.cellAt k oM,HR.out]
    have bd:Frm (fun b=>(Value.slice Y l.length I).ownBlock=some b) z z.drew:=(cW z).drew.ai;clear t hr f Q;go_wp2_with fail
    refine tR (fun X=>Frm (fun b=>(Value.slice Y l.length I).ownBlock=some b) z X) [11] (Ord.of [0,1,2,3,4,5,6,7,8,9,10,11]) ?_;refine tQ ?_;refine zA fun K hK=>?_;go_simp;have ad:=(cW z).drew;refine hK.out _ _ (ad.alloc _).ai ?_;refine pT ?_;refine zA (fun K hK=>?_);refine zaL F z.drew _ _ _ rfl 3 _ 1 8 Tryz.underlying74 zae rfl dM (.slice Y l.length I) l.length (ints l) _ _ rfl rfl E (zg s ad) rfl (by simp [Value.oneCell']) lM oM ?_;intro g6 cap6 C hown6 hg6 hat6 hlt6;obtain⟨q1,q2,q3,q4⟩:=(zjd.ext ad).growRow (x:=0) Z.out HR.out HL.out hown6 hg6 hat6;have bt:=q2.out;refine hK.out _ _ (ad.ai.trans (fJ hg6)) ?_;refine pT ?_;refine tQ ?_;refine zJ fun K hK=>?_;go_simp;refine hK.out _ _ ?_;refine zai ?_;go_wp2_with fail
    go_meet;refine⟨_,_,_,_,_,_,q4.more oM,za ⟨by have:=Hb.out.1;rw [fF];omega,oH Hb.out.2.1,fun l' hl'=>?_⟩⟩;rcases eY hl' with h1|h1
    ·have:=Hb.out.2.2 l' h1;omega
    ·have:=Hb.out.2.2 l (cX HL.out);rw [h1];simp;omega
   ·exact yQ03a8
  ·subst H;have V:True:=trivial
   by_cases hn0:0<m
   ·have hk:=Hk.out oM;have Q:k<b.next.length:=oH Z.out;obtain⟨l,t⟩:∃ l,b.next[k]?=some l:=⟨_,dC Q⟩;obtain⟨gN,rfl,ap,-⟩:=zac (show z.ownsRow F.heap.size 74 1 (.slice B m d) m a from by have:=zjd.nx;rw [← Z.out] at this;exact this) hn0;obtain⟨Y,I,hr,f,s⟩:=zjd.row t Z.out;have ah:l.length<=100:=by have:=Hb.out.2.2 l (cX t);omega
    have HL:=za t;have HR:=za hr;have aH:=za (Hb.out.2.2 l (cX t));clear t hr Q;have cG:=zjd.blk.cell
    by_cases hl0:0<l.length
    ·obtain⟨gr,rfl,-,-⟩:=zac s hl0;go_wp2_with fail
     refine (zx (n:=l.length) zjd.rd oM).mono ?_;rintro e C ⟨j,rfl,aq,-,hr6,O⟩;have bm:=aq oM;replace zjd:=zjd.drawn O hr6;have bk:=zjd.hR;have cN:∀ W,Dr R C W->W.cell? ⟨gN,k,none⟩=some (.slice (some gr) l.length I):=fun W hW=>(O.trans hW).aa f (by simp;omega);have br:IntKind.i64.wrap ((m:Int) - 1)=(m:Int) - 1:=by rw [IntKind.wrap_i64];omega
     clear cG aq hr6 O f s;have cG:∀ W,Dr R C W->∀ q,W.cell? ⟨G,q,none⟩=#[Value.int .i64 b.al,.slice (some gN) m d,.slice B' m' d'][q]?:=fun W hW=>(zjd.blk.dr hW (oH zjd.hG)).cell;go_wp2_with fail
     refine tR (fun X=>Dr R C X) [13] (Ord.of [0,1,2,3,4,5,6,7,8,9,10,11,12,13]) ?_;refine tQ ?_;refine zA fun K hK=>?_;go_simp;refine hK.out _ _ ((Dr.refl R C).drew.alloc _) ?_;refine pT ?_;refine zA fun K hK=>?_;go_simp;refine (zaJ (w:=C.drew) [(-1),m,(m:Int) - 1,0] 4 #[.int .i64 (-1),m,.int .i64 ((m:Int) - 1),(0:Int)] rfl rfl oM oM (zjd.rd.ext (cW _).drew) oM).mono ?_;rintro e w7 ⟨x,-,rfl,hr7,hd7⟩;have ae:Dr R C w7:=((Dr.refl R C).drew.alloc _).trans hd7;have J:=zjd.drawn ae hr7;refine hK.out _ _ ae ?_;refine pT ?_;refine tQ ?_;have zjc:=J.rows.2.1 k _ l HR.out HL.out;obtain⟨o0,c0⟩:=zaX zjc j oM;have f0:=zjc.frozenAt j;have hst:=J.setRow (k:=j) (x:=x) HR.out HL.out rfl;refine zJ fun K hK=>?_;go_simp;refine hK.out _ _ ?_;refine zai ?_;go_wp2_with fail
     go_meet;refine⟨_,_,_,_,_,_,hst.more oM,za ⟨by have:=Hb.out.1;rw [fF];omega,oH Hb.out.2.1,fun l' hl'=>?_⟩⟩;rcases eY hl' with h1|h1
     ·have:=Hb.out.2.2 l' h1;omega
     ·rw [h1];simp;have:=aH.out;omega
    ·have bn:l.length=0:=oM;have bo:¬ ((l.length:Int)>0):=oM;go_wp2_with fail
     go_meet;exact⟨_,_,_,_,_,_,zjd.more oM,za (Hb.out.more oM)⟩
   ·exact yQ03a8
  ·subst H;have V:True:=trivial;have E:=zjd.dr.size;have o:=zjd.ext ((cW z).alloc (.cells #[] 74));have hn1:=World.ownsRow_lit (base:=F.heap.size) (e:=74) (size:=1) z #[] 0 E lM rfl;have cG:=o.blk.cell;have fG:=o.blk.frozen;go_upto_region 18 with fail
   replace o:=o.setNext hn1;clear zjd cG fG hn1;generalize (z.alloc (.cells #[] 74)).setCell ⟨G,1,none⟩ (.slice (some z.heap.size) 0 0)=C at *;have aS:=o.dr.size;have D:=o.ext ((cW C).alloc (.cells #[] 4));have aQ:=World.ownsRow_lit (base:=F.heap.size) (e:=4) (size:=1) C #[] 0 aS lM rfl;have cG:=D.blk.cell;have fG:=D.blk.frozen;go_wp2_with fail
   go_meet;exact⟨_,_,_,_,_,_,(D.setMarks aQ).more oM,za ⟨sM,sM,fun l t=>by simp at t⟩⟩
  ·subst H;have V:True:=trivial
   by_cases hn0:0<m
   ·have a1:((m:Int)>0):=oM;have ax:m=b.next.length:=Z.out;have bp:m<=L:=oH Hb.out.1;have hst:∃ (i:Nat) (v:Value) (a:List Value) (u:List (List Int)) (vA:Value) (acc:List Bool),i<=13∧zbv F z R G (M+2) b.al v a u vA acc∧Hid (u.length=m+i)∧Hid (i=0∨m+i<=13)∧Hid (acc.length<=L+i)∧Hid (∀ l∈u,l.length<=L):=
     ⟨0,_,_,_,_,_,oM,zjd,za ax.symm,za (.inl rfl),za Hb.out.2.1,za Hb.out.2.2⟩
    clear ax zjd;go_wp2_with fail
    go_loopw [] (fun wr=>∃ (i:Nat) (v:Value) (a:List Value) (u:List (List Int)) (vA:Value) (acc:List Bool),i<=13∧zbv F wr R G (M+2) b.al v a u vA acc∧Hid (u.length=m+i)∧Hid (i=0∨m+i<=13)∧Hid (acc.length<=L+i)∧Hid (∀ l∈u,l.length<=L)) (fun wr=>200 - lenAt wr G)
    case atStart=>exact hst
    case round =>
     clear hst;obtain⟨i,v,a,u,vA,acc,hi,zjd,r,aP,hal,ag⟩:=hrel;obtain⟨gN,cN,rfl,ap⟩:∃ g c,v=.slice (some ⟨g,0,none⟩) (m+i) c∧F.heap.size<=g:=by
      obtain⟨A9,c9,rfl⟩:=zi zjd.nx;obtain⟨g,rfl,hg,-⟩:=zac zjd.nx (oH r.out);exact⟨g,c9,by rw [r.out],hg⟩
     have aw:=za zjd.lenAt
     by_cases hlt:m+i<=12
     ·have av:((m+i:Nat):Int)<=12:=oM;have an:0<u.length:=oH r.out;obtain⟨l,t⟩:∃ l,u[0]?=some l:=⟨_,dC an⟩;obtain⟨Y,I,hr,f,s⟩:=zjd.row t r.out.symm;have ah:l.length<=L:=ag.out l (cX t);have aI:=za ah;have au:=za zjd.low;have E:=zjd.dr.size;have af:=dY s;have aJ:=za (fun W (hW:Ext wr W)=>af.ext hW);have cG:=fun W (hW:Ext wr W)=>(zjd.blk.ext hW).cell;have aN:∀ W,Ext wr W->W.cell? gN=some (.slice Y l.length I):=fun W hW=>hW.aa f;have aU:=cW wr;have be:(0:Int)<((m+i:Nat):Int):=oM;have bf:0<(m:Int)+(i:Int):=oM;clear t hr f s af an;go_upto_region 21 with fail
      refine uR (fun X=>Ext wr X) [9,11] (zw.of [0,1,3,4,5,6,2,7,8,9,10,11]) ?_;refine uQ ?_;have hx0:Ext wr wr.drew:=aU.drew;generalize wr.drew=wd at *;refine zd fun K hK=>?_;go_simp;have hm:=World.ownsRow_made (base:=wr.heap.size) (e:=3) (size:=1) wd #[] 0 hx0.size (dD _) rfl;have U:=(cW wd).alloc (.cells #[] 3);replace hx0:=hx0.trans U;refine hK.out _ _ hx0 ?_;generalize wd.alloc _=wm at *;generalize wd.heap.size=MM at *;refine pT ?_;refine uQ ?_;refine zd (fun K hK=>?_);refine zv wm _ _ 74 rfl wr.heap.size 3 _ 1 8 Tryz.underlying74 zae rfl dM (.slice (some MM) 0 0) 0 [] rfl hm _ _ Y l.length I (ints l) rfl (aJ.out _ hx0) (ziv _) lM oM hx0.size ?_;intro vR C hrow hgR hatR;rw [dS,eB] at hrow;obtain⟨BR,dR,rfl⟩:=zi hrow;have T:Ext wr C:=hx0.grown hgR (fun k hk=>(hm.lt k hk).1);refine hK.out _ _ T ?_;refine pT ?_;refine uQ ?_;refine zd fun K hK=>?_;go_simp;refine hK.out _ _ (T.alloc _) ?_;refine pT ?_;refine zb fun K hK=>?_;have p:=zjd.ext T;have S:=p.nx;rw [r.out] at S;refine zaL F C _ _ _ rfl 74 _ 1 24 Tryz.underlying23 zcd rfl dM (.slice (some gN) (m+i) cN) (m+i) a _ _ rfl rfl p.dr.size S rfl (zaU _ _ _) lM oM ?_;intro g7 cap7 w7 hown7 hg7 hat7 hlt7;refine hK.out _ _ ?_;refine pT ?_;refine uQ ?_;obtain⟨p1,p2,p3⟩:=p.ar (l:=l) (W':=w7) (g:=g7) (cap:=cap7) au.out E hrow (by rw [r.out];exact hown7) hg7 hat7;have aW:=p1.out;rw [r.out] at p3;refine zb fun K hK=>?_;go_simp;refine hK.out _ _ ?_;refine ze ?_;generalize w7.setCell ⟨G,1,none⟩ (.slice (some g7) (m+i+1) cap7)=w8 at *;have a9:=p3.blk.cell;have aT:=p3.dr.size;have a0:=hal.out;clear p1 aW p2 cG aN hown7 hg7 hat7 p zjd S;go_wp2_with (at_builtin;refine zar F w8 rfl _ _ _ rfl 4 _ 1 1 Tryz.underlying24 zbf rfl dM vA acc.length (zaA acc) _ _ rfl rfl aT p3.acc rfl (by simp [Value.oneCell']) lM oM ?_;intro g9 cap9 w9 hown9 hg9 hat9 hlt9;obtain⟨q1,q2,q3⟩:=p3.ao (x:=false) hown9 hg9 hat9;have aX:=q1.out)
      go_roundw
      case rel=>exact⟨i+1,oM,_,_,u++[l],_,acc++[false],q3,za (by have:=r.out;simp;omega),za oM,za (by simp;omega),za (fun l' hl'=>by
       rcases List.mem_append.1 hl' with h1|h1
       ·exact ag.out l' h1
       ·rw [List.mem_singleton.1 h1];exact aI.out)⟩
      case measure=>have h1:=q3.lenAt;have h2:=aw.out;omega
     ·have av:¬ (((m+i:Nat):Int)<=12):=oM;have cG:=zjd.blk.cell;go_wp2_with fail
      go_meet;exact⟨_,_,_,_,_,_,zjd.more oM,za ⟨by have:=r.out;have:=aP.out;omega,oH hal.out,fun l' hl'=>by have:=ag.out l' hl';omega⟩⟩
   ·have hn1:m=0:=oM;clear hn0;have cG:=zjd.blk.cell;have hst:=zjd;clear zjd;go_wp2_with fail
    go_loopw [] (fun wr=>zbv F wr R G (M+1+1) b.al (.slice B m d) a b.next (.slice B' m' d') b.acc) (fun wr=>0)
    case atStart=>exact hst
    case round =>
     clear hst cG;have cG:=hrel.blk.cell;go_wp2_with fail
     go_meet;exact⟨_,_,_,_,_,_,hrel.more oM,za (Hb.out.more oM)⟩
  ·have bc:((y:Int)==0)=false:=by simp;omega
   have h1':((y:Int)==1)=false:=by simp;omega
   have bg:((y:Int)==2)=false:=by simp;omega
   have bh:((y:Int)==3)=false:=by simp;omega
   have bi:((y:Int)==4)=false:=by simp;omega
   have bj:((y:Int)==5)=false:=by simp;omega
   go_wp2_with fail
   go_meet;exact⟨_,_,_,_,_,_,zjd.more oM,za (Hb.out.more oM)⟩
 case rest =>
  clear zjd;obtain⟨al,v,a,u,vA,acc,zjd,aO⟩:=hcut;obtain⟨A5,c5,rfl⟩:=zi zjd.nx;obtain⟨B5,d5,rfl⟩:=zi zjd.acc;obtain⟨f1,f2⟩:=zjd.fin (N:=M+10) (sh:=BdA (L+13)) U bz rfl hRl oM aV oM aO.out;have bz5:=bz.dr zjd.dr oM;have cG:=zjd.blk.cell;have cZ:=bz5.cell;have fZ:=bz5.frozen;go_wp2_with fail
  have cf:=f2.cell;exact bodyPost_ret (v:=.agg #[al,.slice A5 u.length c5,.slice B5 acc.length d5]) (by simp [results,Tryz.results81,go_sem,cf]) rfl f1.out
end Go.Proofs.YtfcjhpodichpjaaGreatDoor
