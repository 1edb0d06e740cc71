/- Drawn automa -/
import Derived.Test.YtckbjnndaaoddaaGreatDoorF12
import Derived.Laws.StructEq
set_option maxHeartbeats 4000000
set_option maxRecDepth 100000
namespace Go.Proofs.YtckbjnndaaoddaaGreatDoor
open Go Go.RowKit
open Blk renaming new->dU
open Ext renaming al_->gC,bl_->dV,refl->cY
open Frm renaming ae->fH,setCell->dE
open List renaming getElem?_append_left->dL,getElem?_append_right->dN,getElem?_eq_getElem->dC,getElem?_set_ne->fL,getElem?_set_self->eX,length_append->dO,length_set->fB,length_singleton->eH,mem_of_getElem?->dB,mem_or_eq_of_mem_set->eW,nil_append->eA
open Nat renaming le_refl->dD,le_trans->dK,lt_or_eq_of_le->eV,zero_add->dP,zero_le->dG
open Reads renaming af->dY
variable {A A':Option Addr} {G K L M N R Z a base c c' cap g i k n n' p:Nat} {W w w' w0 w1:World} {acc:List Bool} {al st:Int} {b:Aut} {cs us:Array Value} {e t:TypeId} {es:List Edg} {l:List Int} {ls:List (List Int)} {rows xs:List Value} {s:ByteArray} {v v' v0:Value} {x:Bool}
theorem zH.snoc2 {row:Value} (h:zH w base rows ls)(hlow:∀ (i:Nat) (r:Value) (b:Nat),rows[i]?=some r->r.ownBlock=some b->b<N)(hN:base<=N)(hrow:w.ownsRow N 3 1 row l.length (ints l)) :
  zH w base (rows++[row]) (ls++[l]):=by
 have c:=h.1;refine⟨by simp [c],fun i r m hr hm=>?_,fun i j ri rj b hri hrj hij hbi=>?_⟩
 ·rcases Nat.lt_trichotomy i rows.length with a|a|a
  ·rw [dL a] at hr;rw [dL oM] at hm;exact h.2.1 i r m hr hm
  ·rw [dN oM,a,Nat.sub_self] at hr;rw [dN oM,a,c,Nat.sub_self] at hm;simp at hr hm;subst hr;subst hm;exact zo hrow hN
  ·rw [List.getElem?_eq_none (by simp;omega)] at hr;cases hr
 ·have f:∀ b,row.ownBlock=some b->N<=b:=fun b hb=>(hrow.lt b hb).1;have a:i<=rows.length:=by have:=(List.getElem?_eq_some_iff.1 hri).1;simp at this;omega
  have d:j<=rows.length:=by have:=(List.getElem?_eq_some_iff.1 hrj).1;simp at this;omega
  rcases eV a with a|a<;>rcases eV d with d|d
  ·rw [dL a] at hri;rw [dL d] at hrj;exact h.2.2 i j ri rj b hri hrj hij hbi
  ·rw [dL a] at hri;subst d;simp at hrj;subst hrj;intro hc;have h1:=hlow i ri b hri hbi;have g:=f b hc;omega
  ·rw [dL d] at hrj;subst a;simp at hri;subst hri;intro hc;have h1:=hlow j rj b hrj hc;have g:=f b hbi;omega
  ·omega
def zfl (R M:Nat) (sh:Aut->Prop) (w:World) (e:Ending) (w':World):Prop:=
 ∃ (a:Aut) (A:Option Addr) (n c:Nat) (A':Option Addr) (n' c':Nat),e=.returned (.agg #[a.al,.slice A n c,.slice A' n' c'])∧zK w' w.heap.size A n c A' n' c' a∧Hid (sh a)∧Rd w' R M∧Dr R w w'
structure zbk (w0 W:World) (R G M:Nat) (al:Int) (v:Value) (rows:List Value) (ls:List (List Int)) (vA:Value) (acc:List Bool):Prop where
 blk:Blk W G 27 #[al,v,vA]
 nx:W.ownsRow w0.heap.size 110 1 v ls.length rows
 rows:zH W w0.heap.size rows ls
 acc:W.ownsRow w0.heap.size 4 1 vA acc.length (zaB acc)
 rd:Rd W R M
 dr:Dr R w0 W
 hR:R<w0.heap.size
 hG:w0.heap.size<=G
section
variable {w0 W W':World} {R G M N:Nat} {al:Int} {v vA:Value} {rows:List Value} {ls:List (List Int)} {acc:List Bool}
theorem zbk.drawn (h:zbk w0 W R G M al v rows ls vA acc)(hd:Dr R W W')(hr:Rd W' R N):zbk w0 W' R G N al v rows ls vA acc:=
 ⟨h.blk.dr hd (by have:=h.hR;have:=h.hG;omega),zaA h.nx hd (fun b h1 e=>oH h.hR),h.rows.ak hd (fun b h1 e=>oH h.hR),zaA h.acc hd (fun b h1 e=>oH h.hR),hr,h.dr.trans hd,h.hR,h.hG⟩
theorem zbk.ext (h:zbk w0 W R G M al v rows ls vA acc)(hx:Ext W W'):zbk w0 W' R G M al v rows ls vA acc:=h.drawn (Ext.dr hx) (h.rd.ext hx)
theorem zbk.more (h:zbk w0 W R G M al v rows ls vA acc)(hM:M<=N):zbk w0 W R G N al v rows ls vA acc:={ h with rd:=h.rd.more hM }
theorem zbk.low (h:zbk w0 W R G M al v rows ls vA acc):∀ (i:Nat) (r:Value) (b:Nat),rows[i]?=some r->r.ownBlock=some b->b<W.heap.size:=fun i r b hr hb=>by
 obtain⟨l,_,ho⟩:=h.rows.row hr
 exact (ho.lt b hb).2
theorem zbk.grown (h:zbk w0 W R G M al v rows ls vA acc)   {size:Nat} (ho:W.ownsRow w0.heap.size e size v0 k xs)(hg:W.grownBy W' v0.ownBlock):Dr R w0 W'∧Rd W' R M:=by
 have a:=h.hR;refine⟨h.dr.grown hg (fun k hk=>(ho.lt k hk).1),h.rd.frm (fH hg) (fun k hk hS=>by have:=(ho.lt k hS).1;omega)⟩
theorem zbk.av {row:Value}  (h:zbk w0 W R G M al v rows ls vA acc)(hlow:∀ (i:Nat) (r:Value) (b:Nat),rows[i]?=some r->r.ownBlock=some b->b<K)(hK:w0.heap.size<=K)(hrow:W.ownsRow K 3 1 row l.length (ints l))
  (zhD:W'.ownsRow w0.heap.size 110 1 (.slice (some g) (ls.length+1) cap) (ls.length+1) (rows++[row]))
  (hg:W.grownBy W' v.ownBlock) (hat:v.ownBlock=some g∨g=W.heap.size+1) :
  Hid (W'.cell? ⟨G,1,none⟩=some v)∧W'.frozen? ⟨G,1,none⟩=false∧zbk w0 (W'.setCell ⟨G,1,none⟩ (.slice (some g) (ls.length+1) cap)) R G M al (.slice (some g) (ls.length+1) cap) (rows++[row]) (ls++[l]) vA acc:=by
 have n:=h.hR;have d:=h.hG;have c:Blk W' G 27 #[.int .i64 al,v,vA]:=(hg.block G h.blk.lt (fun e=>zp h.nx h.blk dM e.symm rfl)).trans h.blk;have t:g≠G:=by
  rcases hat with h1|h1
  ·exact zp h.nx h.blk dM h1
  ·have:=h.blk.lt;omega
 have f:Frm (fun k=>v.ownBlock=some k) W W':=fH hg;obtain⟨o,s⟩:=h.grown h.nx hg;have j:=h.rows.snoc2 hlow hK hrow;have m:zH W' w0.heap.size (rows++[row]) (ls++[l]):=j.frm f (fun i r b hr hb hS=>by
  obtain⟨u,_,q⟩:=j.row hr;exact zaW q h.nx dM hb hS)
 have zhE:W'.ownsRow w0.heap.size 4 1 vA acc.length (zaB acc):=zf h.acc f (fun b hb hS=>zaW h.acc h.nx dM hb hS);have a:=dE W' G 1 (.slice (some g) (ls.length+1) cap);refine⟨c.cell 1,c.frozen 1,⟨by simpa using c.ab 1 _,?_,?_,?_,s.frm a (fun k hk e=>oM),o.ag (p:=⟨G,1,none⟩) d _,n,d⟩⟩
 ·rw [dO,eH];exact zf zhD a (fun b hv hS=>by
   have:g=b:=by simpa [Value.ownBlock] using hv
   omega)
 ·refine m.frm a (fun i r b hr hb hS=>?_);obtain⟨u,_,q⟩:=m.row hr;exact zp q c dM hb hS
 ·exact zf zhE a (fun b hb hS=>zp zhE c dM hb hS)
theorem zbk.ao (h:zbk w0 W R G M al v rows ls vA acc)
  (zhD:W'.ownsRow w0.heap.size 4 1 (.slice (some g) (acc.length+1) cap) (acc.length+1) (zaB acc++[.bool x]))
  (hg:W.grownBy W' vA.ownBlock) (hat:vA.ownBlock=some g∨g=W.heap.size+1) :
  Hid (W'.cell? ⟨G,2,none⟩=some vA)∧W'.frozen? ⟨G,2,none⟩=false∧zbk w0 (W'.setCell ⟨G,2,none⟩ (.slice (some g) (acc.length+1) cap)) R G M al v rows ls (.slice (some g) (acc.length+1) cap) (acc++[x]):=by
 have l:=h.hR;have d:=h.hG;have c:Blk W' G 27 #[.int .i64 al,v,vA]:=(hg.block G h.blk.lt (fun e=>zp h.acc h.blk dM e.symm rfl)).trans h.blk;have s:g≠G:=by
  rcases hat with h1|h1
  ·exact zp h.acc h.blk dM h1
  ·have:=h.blk.lt;omega
 have f:Frm (fun k=>vA.ownBlock=some k) W W':=fH hg;obtain⟨m,o⟩:=h.grown h.acc hg;have q:W'.ownsRow w0.heap.size 110 1 v ls.length rows:=zf h.nx f (fun b hb hS=>zaW h.nx h.acc dM hb hS);have j:zH W' w0.heap.size rows ls:=h.rows.frm f (fun i r b hr hb hS=>by
  obtain⟨t,_,n⟩:=h.rows.row hr;exact zaW n h.acc dM hb hS)
 have a:=dE W' G 2 (.slice (some g) (acc.length+1) cap);refine⟨c.cell 2,c.frozen 2,⟨by simpa using c.ab 2 _,zf q a (fun b hb hS=>zp q c dM hb hS),j.frm a (fun i r b hr hb hS=>?_),?_,o.frm a (fun k hk e=>oM),m.ag (p:=⟨G,2,none⟩) d _,l,d⟩⟩
 ·obtain⟨t,_,n⟩:=j.row hr;exact zp n c dM hb hS
 ·rw [dO,eH,show zaB (acc++[x])=zaB acc++[.bool x] by simp [zaB]];exact zf zhD a (fun b hv hS=>by
   have:g=b:=by simpa [Value.ownBlock] using hv
   omega)
theorem zbk.side (h:zbk w0 W R G M al v rows ls vA acc)(hlow:∀ (i:Nat) (r:Value) (b:Nat),rows[i]?=some r->r.ownBlock=some b->b<K)(hK:w0.heap.size<=K)(ho:W.ownsRow K 3 1 v0 k xs)(hg:W.grownBy W' v0.ownBlock):zbk w0 W' R G M al v rows ls vA acc:=by
 have d:=zo ho hK;obtain⟨c,f⟩:=h.grown d hg;have a:Frm (fun k=>v0.ownBlock=some k) W W':=fH hg;exact⟨h.blk.frm a (fun e=>zp ho h.blk dM e rfl),zf h.nx a (fun b hb hS=>zaW ho h.nx dM hS hb),h.rows.frm a (fun i r b hr hb hS=>by have:=hlow i r b hr hb;have:=(ho.lt b hS).1;omega),
  zf h.acc a (fun b hb hS=>zaW ho h.acc dM hS hb),f,c,h.hR,h.hG⟩
theorem zbk.fin {sh:Aut->Prop}(h:zbk w0 W R G M al (.slice A n c) rows ls (.slice A' n' c') acc)(hx:Ext w w0) (bz:Blk w0 Z t cs)(hc:cs.size=3)(hRw:R<w.heap.size)(hZ:w.heap.size<=Z)(hZ':Z<w0.heap.size)(hM:M<=N)(hsh:sh ⟨al,ls,acc⟩) :
  Hid (zfl R N sh w (.returned (.agg #[al,.slice A n c,.slice A' n' c'])) (((W.setCell Z al).setCell ⟨Z,1,none⟩ (.slice A n c)).setCell ⟨Z,2,none⟩ (.slice A' n' c'))) ∧
  Blk (((W.setCell Z al).setCell ⟨Z,1,none⟩ (.slice A n c)).setCell ⟨Z,2,none⟩ (.slice A' n' c')) Z t #[.int .i64 al,.slice A n c,.slice A' n' c']:=by
 have hb:=bz.dr h.dr oM;have d:=zab W Z (.int .i64 al) (.slice A n c) (.slice A' n' c');have i:n=ls.length:=by
  rcases h.nx.2 with ⟨h1,g⟩|⟨_,_,_,h1,_⟩
  ·simp at h1;omega
  ·simp at h1;exact h1.2.1
 have a:n'=acc.length:=by
  rcases h.acc.2 with ⟨h1,g⟩|⟨_,_,_,h1,_⟩
  ·simp at h1;omega
  ·simp at h1;exact h1.2.1
 refine⟨za ⟨⟨al,ls,acc⟩,A,n,c,A',n',c',rfl,⟨⟨rows,?_,?_⟩,i,?_,a⟩,za hsh,?_,?_⟩,zaj hb hc _ _ _⟩
 ·exact zo (zaA h.nx d (fun b h1 e=>oM)) hx.size
 ·exact (h.rows.ak d (fun b h1 e=>oM)).less hx.size
 ·have f:=zo (zaA h.acc d (fun b h1 e=>oM)) hx.size;rw [← a] at f;exact f
 ·exact (h.rd.more hM).frm d (fun k hk e=>oM)
 ·exact (((hx.dr.trans h.dr).ag (p:=⟨Z,0,none⟩) hZ _).ag (p:=⟨Z,1,none⟩) hZ _).ag (p:=⟨Z,2,none⟩) hZ _
end
def shA (al p k:Nat) (a:Aut):Prop:=a.al=al∧a.next.length=p∧a.acc.length=p∧∀ l∈a.next,l.length=k
theorem zeH (h:Rd w R M)(hM:M<=900000000)(ha:a<64)(hp:p<=16) :
  Calls Tryz.prog 164 #[.pointer (some R),a,p] w (zfl R (M+400) (shA a p (letters a 6).length) w):=by
 have am:Sm a:=tM;have hRl:=h.lt
 go_enter Tryz.func164,Tryz.ntmps164
 have hxz:=(cY w).alloc (.cells #[(0:Int),(),()] 27);have bz:=dU w 27 #[(0:Int),(),()];have Q:=(cY (w.alloc (.cells #[(0:Int),(),()] 27))).alloc (.cells #[a,(),()] 27);have bG:=dU (w.alloc (.cells #[(0:Int),(),()] 27)) 27 #[a,(),()];have ao:=bz.lt;have an:(w.alloc (.cells #[(0:Int),(),()] 27)).heap.size=w.heap.size+1:=sM;rw [an] at bG;go_upto_region 2 with fail
 generalize (w.alloc _).alloc _=w2 at *;generalize w.alloc _=w1 at *;go_wp2_with fail
 refine (zT a am _).mono ?_;rintro e w3 ⟨B,d,rfl,-,F⟩;have zhE:zbk w1 w3 R (w.heap.size+1) M a (.slice none 0 0) [] [] (.slice none 0 0) []:=⟨bG.ext F,World.ownsRow_nil _ _ _ _,zH.nil _ _,World.ownsRow_nil _ _ _ _,h.ext ((hxz.trans Q).trans F),(Q.trans F).dr,oM,oM⟩;have aB:=zB a 6;clear bG F Q;generalize (letters a 6).length=k at *;go_wp2_with fail
 go_loopw [9] (fun iv wr=>∃ (i:Nat) (v:Value) (f:List Value) (G:List (List Int)) (Z:Value) (o:List Bool),i<=p∧iv=.int .i64 (i:Nat)∧zbk w1 wr R (w.heap.size+1) (M+i*20) a v f G Z o∧G.length=i∧o.length=i∧Hid (∀ l∈G,l.length=k)) (fun iv _=>p - (intOf iv).toNat)
 case atStart=>exact⟨0,_,[],[],_,[],dG _,rfl,zhE,rfl,rfl,za (fun l hl=>by simp at hl)⟩
 case round =>
  clear zhE;obtain⟨i,v,f,G,Z,o,hi,rfl,zhE,t,E,S⟩:=hrel
  by_cases hip:i<p
  ·have u:=za zhE.low;have hK:=za (show w1.heap.size<=wr.heap.size from zhE.dr.size);have h0:=World.ownsRow_made (base:=wr.heap.size) (e:=3) (size:=1) wr #[] 0 (dD _) (dG _) rfl;have O:=(cY wr).alloc (.cells #[] 3);have g:=zhE.ext O;go_upto_region 7 with fail
   clear zhE;obtain⟨H,Y⟩:∃ H,H=wr:=⟨_,rfl⟩;rw [← Y] at h0 u hK g O ⊢;clear Y;generalize H.alloc _=w4 at *;go_wp2_with fail
   go_loopw [10,11] (fun rv jv wr=>∃ (j:Nat) (l:List Int),j<=k∧jv=.int .i64 (j:Nat)∧zbk w1 wr R (w.heap.size+1) (M+i*20+j) a v f G Z o∧l.length=j∧wr.ownsRow H.heap.size 3 1 rv j (ints l)∧Hid (H.heap.size<=wr.heap.size)) (fun _ jv _=>k - (intOf jv).toNat)
   case atStart=>exact⟨0,[],dG _,rfl,g,rfl,h0,za O.size⟩
   case round =>
    clear g h0;obtain⟨j,l,hj,rfl,zhE,s,c,al⟩:=hrel
    by_cases hjk:j<k
    ·obtain⟨AR,cR,rfl⟩:=zi c;go_wp2_with fail
     refine (zw zhE.rd oM).mono ?_;rintro e w5 ⟨y,rfl,-,-,ai,J⟩;have I:=zhE.drawn J ai;have D:=zaA c J (fun b h1 e=>by have:=zhE.dr.size;have:=zhE.hR;have:=hK.out;omega);have V:H.heap.size<=w5.heap.size:=dK al.out J.size;have L:=za s;clear s zhE c;go_wp2_with (at_builtin;refine zao H w5 rfl _ _ _ rfl 3 _ 1 8 Tryz.underlying110 zZ rfl dM (.slice AR j cR) j (ints l) _ _ rfl rfl V D rfl (by simp [Value.oneCell']) lM oM ?_;intro g5 cap5 w6 hown6 hg6 hat6 hlt6)
     go_roundw
     case rel=>exact⟨j+1,l++[(y:Int)],oM,gM,(I.side u.out hK.out D hg6).more oM,by simp [L.out],by simpa [ints] using hown6,za (dK V hg6.size)⟩
     case measure=>simp [intOf];omega
    ·obtain rfl:j=k:=oM;obtain⟨AR,cR,rfl⟩:=zi c;have cG:=zhE.blk.cell;have ak:=zhE.dr.size;have C:wr.ownsRow H.heap.size 3 1 (.slice AR j cR) l.length (ints l):=by rw [s];exact c
     go_upto_region 12 with (at_builtin;refine zao w1 wr rfl _ _ _ rfl 110 _ 1 24 Tryz.underlying24 zcf rfl dM v G.length f _ _ rfl rfl ak zhE.nx rfl (zaS _ _ _) lM oM ?_;intro g5 cap5 w6 hown6 hg6 hat6 hlt6;obtain⟨q1,q2,q3⟩:=zhE.av u.out hK.out C hown6 hg6 hat6;have ap:=q1.out)
     rw [t] at q3;clear q1 ap q2 hown6 hg6 hat6 hlt6 c C cG zhE;have T:=za (show ∀ l'∈G++[l],l'.length=j from fun l' L=>by
      rcases List.mem_append.1 L with h1|h1
      ·exact S.out l' h1
      ·rw [List.mem_singleton.1 h1];exact s)
     have U:(G++[l]).length=i+1:=by simp [t]
     clear s t;generalize G++[l]=aC at *;generalize f++[.slice AR j cR]=aq at *;generalize w6.setCell ⟨w.heap.size+1,1,none⟩ (.slice (some g5) (i+1) cap5)=w7 at *;generalize Value.slice (some g5) (i+1) cap5=v7 at *;have cG:∀ W,Dr R w7 W->∀ q,W.cell? ⟨w.heap.size+1,q,none⟩=#[Value.int .i64 a,v7,Z][q]?:=fun W hW=>(q3.blk.dr hW oM).cell;refine tR (fun X=>Dr R w7 X) [6,8] (Ord.of [0,1,2,3,4,5,6,7,8]) ?_;refine tQ ?_;refine zC fun K hK=>?_;go_simp;refine (zw (n:=3) (q3.rd.ext ((cY _).drew)) oM).mono ?_;rintro e w8 ⟨z,rfl,-,-,aj,ah⟩;have r:Dr R w7 w8:=((Dr.refl R w7).drew).trans ah;have m:=q3.drawn r aj;refine hK.out _ _ r ?_;refine pT ?_;refine tQ ?_;refine zC fun K hK=>?_;go_simp;refine hK.out _ _ (r.alloc _) ?_;refine pT ?_;refine zO fun K hK=>?_
     trace_state
     refine zaI w1 w8 _ _ _ rfl 4 _ 1 1 Tryz.underlying25 zbe rfl dM Z o.length (zaB o) _ _ rfl rfl m.dr.size m.acc rfl (by simp [Value.oneCell']) lM oM ?_;intro g9 cap9 w9 hown9 hg9 hat9 hlt9;refine hK.out _ _ ?_;refine pT ?_;refine tQ ?_;obtain⟨p1,p2,p3⟩:=m.ao (x:=decide (0<z)) (W':=w9) hown9 hg9 hat9;have aE:=p1.out;rw [E] at p3;refine zO fun K hK=>?_;go_simp;refine hK.out _ _ ?_;refine zai ?_;go_wp2_with fail
     go_roundw
     case rel=>exact⟨i+1,_,_,_,_,_,oM,gM,p3.more oM,U,by simp [E],T⟩
     case measure=>simp [intOf];omega
  ·obtain rfl:i=p:=oM;obtain⟨A5,c5,rfl⟩:=zi zhE.nx;obtain⟨B5,d5,rfl⟩:=zi zhE.acc;obtain⟨f1,f2⟩:=zhE.fin (N:=M+400) (sh:=shA a i k) hxz bz rfl hRl (dD _) ao oM ⟨rfl,t,E,S.out⟩;rw [t,E] at f1 f2;have cG:=zhE.blk.cell;have bz5:=bz.dr zhE.dr oM;have cZ:=bz5.cell;have fZ:=bz5.frozen;go_wp2_with fail
   have cf:=f2.cell;exact bodyPost_ret (v:=.agg #[a,.slice A5 i c5,.slice B5 i d5]) (by simp [results,Tryz.results164,go_sem,cf]) rfl f1.out
section
variable {w0 W W':World} {R G M N:Nat} {al:Int} {v vA:Value} {rows:List Value} {ls:List (List Int)} {acc:List Bool}
theorem zbk.of {a:Aut}(ho:zK W w0.heap.size A n c A' n' c' a)(hr:Rd W R M)(hd:Dr R w0 W)(hR:R<w0.heap.size) :
  ∃ rows,zbk w0 (W.alloc (.cells #[a.al,.slice A n c,.slice A' n' c'] 27)) R W.heap.size M a.al (.slice A n c) rows a.next (.slice A' n' c') a.acc:=by
 obtain⟨⟨rows,h1,d⟩,h3,f,g⟩:=ho;have b:=(cY W).alloc (.cells #[a.al,.slice A n c,.slice A' n' c'] 27);refine⟨rows,dU W _ _,zg h1 b,d.ak b.aj (fun _ _=>id),?_,hr.ext b,hd.ext b,hR,hd.size⟩;rw [← g];exact zg f b
theorem zbk.setAcc (h:zbk w0 W R G M al v rows ls (.slice (some g) n c) acc)(hn:n=acc.length) :
  zbk w0 (W.setCell ⟨g,i,none⟩ (.bool x)) R G M al v rows ls (.slice (some g) n c) (acc.set i x):=by
 subst hn;have a:=dE W g i (.bool x);have f:=(h.acc.lt g rfl).1;have d:=h.hR;have hst:=(h.acc.stored i (.bool x)).1;rw [show (zaB acc).set i (.bool x)=zaB (acc.set i x) by simp [zaB,List.map_set]] at hst;refine⟨h.blk.frm a (fun e=>zp h.acc h.blk dM rfl e.symm),zf h.nx a (fun b hb hS=>?_),h.rows.frm a (fun i' r b hr hb hS=>?_),by simpa using hst,h.rd.frm a (fun k hk e=>oM),h.dr.ag (p:=⟨g,i,none⟩) f _,d,h.hG⟩
 ·subst hS;exact zaW h.nx h.acc dM hb rfl
 ·subst hS;obtain⟨l,_,j⟩:=h.rows.row hr;exact zaW j h.acc dM hb rfl
theorem zbk.setRow {x:Int} (h:zbk w0 W R G M al v rows ls vA acc)(hr:rows[i]?=some (.slice (some g) n c))(hl:ls[i]?=some l)(hn:n=l.length) :
  zbk w0 (W.setCell ⟨g,k,none⟩ x) R G M al v rows (ls.set i (l.set k x)) vA acc:=by
 subst hn;have a:=dE W g k (.int .i64 x);have d:=h.rows.2.1 i _ l hr hl;have o:=(d.lt g rfl).1;have f:=h.hR;have hst:=(d.stored k (.int .i64 x)).1;rw [show (ints l).set k (.int .i64 x)=ints (l.set k x) by simp [ints,List.map_set]] at hst;have m:Frm (Go.Proofs.YtckbjnndaaoddaaGreatDoor.blk (some ⟨g,0,none⟩)) W (W.setCell ⟨g,k,none⟩ x):=a.mono (fun b _ hb=>⟨_,rfl,hb.symm⟩);refine⟨h.blk.frm a (fun e=>zp d h.blk dM rfl e.symm),?_,?_,zf h.acc a (fun b hb hS=>?_),h.rd.frm a (fun k hk e=>oM),h.dr.ag (p:=⟨g,k,none⟩) o _,f,h.hG⟩
 ·rw [fB];exact zf h.nx a (fun b hb hS=>by subst hS;exact zaW h.nx d dM hb rfl)
 ·have:=h.rows.ab (w':=W.setCell ⟨g,k,none⟩ x) (j:=i) (l:=l.set k x) (A:=some ⟨g,0,none⟩) (c:=c) (by simpa using hr) m (by simpa using hst);exact this
 ·subst hS;exact zaW h.acc d dM hb rfl
theorem zbk.row (h:zbk w0 W R G M al (.slice (some g) n c) rows ls vA acc)(hl:ls[i]?=some l)(hn:n=ls.length) :
  ∃ Ar cr,rows[i]?=some (.slice Ar l.length cr)∧W.cell? ⟨g,i,none⟩=some (.slice Ar l.length cr)∧W.ownsRow w0.heap.size 3 1 (.slice Ar l.length cr) l.length (ints l):=by
 subst hn;have f:i<ls.length:=(List.getElem?_eq_some_iff.1 hl).1;have b:i<rows.length:=by rw [h.rows.1];exact f
 have a:rows[i]?=some rows[i]:=dC b;have d:=h.rows.2.1 i _ l a hl;obtain⟨Ar,cr,e⟩:=zi d;rw [e] at a d;exact⟨Ar,cr,a,by rw [h.nx.cellAt i oM,a],d⟩
end
theorem zgj (h:Rd w R M)(hM:M<=900000000)(ha:a<64)(hp0:1<=p)(hp:p<=16) :
  Calls Tryz.prog 162 #[.pointer (some R),a,p] w (zfl R (M+400) (shA a p (letters a 6).length) w):=by
 have hRl:=h.lt
 go_enter Tryz.func162,Tryz.ntmps162
 go_wp2_with fail
 generalize U0:w.alloc _=w1 at *;have hxz:=gC U0;have bz:=dV U0;have T:=bz.lt;clear U0;refine (zeH (h.ext hxz) hM ha hp).mono ?_;rintro e Y ⟨b,A,n,c,A',n',c',rfl,zhD,hsh,E,B⟩;obtain⟨u,zhE⟩:=zbk.of zhD E B oM;obtain⟨s1,J,L,X⟩:=hsh.out;have H:n=b.next.length:=zhD.2.1;have t:n'=b.acc.length:=zhD.2.2.2;obtain⟨ae,y,ad⟩:=b;dsimp only at *;subst s1;rw [J] at H;rw [L] at t;replace H:=H.symm;replace t:=t.symm;subst H;subst t;have hG:=B.size;clear zhD E B hsh;have V:=za X;clear X;have ak:=zB a 6;generalize (letters a 6).length=k at *;obtain⟨Q,rfl,ah,-⟩:=zak (L ▸ zhE.acc) hp0;obtain⟨S,rfl,ai,-⟩:=zak (J ▸ zhE.nx) hp0;have U:=za J;have S3:=za L;clear J L;go_upto_region 2 with fail
 generalize Y.alloc _=w3 at *;generalize Y.heap.size=G at *;go_wp2_with fail
 go_loopw [8] (fun iv wr=>∃ (i:Nat) (q:List Bool),i<=p∧iv=.int .i64 (i:Nat)∧zbk w1 wr R G (M+400) a (.slice (some S) p c) u y (.slice (some Q) p c') q∧Hid (q.length=p)) (fun iv _=>p - (intOf iv).toNat)
 case atStart=>exact⟨0,_,dG _,rfl,zhE,S3⟩
 case round =>
  clear zhE;obtain⟨i,q,hi,rfl,zhE,r⟩:=hrel
  by_cases hip:i<p
  ·have cG:=zhE.blk.cell;have I:=zhE.acc;rw [r.out] at I;obtain⟨o0,c0⟩:=zaQ I i oM;have f0:=I.frozenAt i;have o:=zhE.setAcc (i:=i) (x:=decide ((i:Int)<(p:Int) - 1)) r.out.symm;clear I;go_wp2_with fail
   go_roundw
   case rel=>exact⟨i+1,_,oM,gM,o,za (by rw [fB];exact r.out)⟩
   case measure=>simp [intOf];omega
  ·clear hi;have hp1:p - 1<y.length:=oH U.out;obtain⟨l0,d⟩:∃ l,y[p - 1]?=some l:=⟨_,dC hp1⟩;have f:=za (V.out l0 (dB d));have O:=za d;have al:((p:Int) - 1).toNat=p - 1:=oM;clear d hp1;go_wp2_with fail
   go_loopw [9] (fun iv wr=>∃ (j:Nat) (F:List (List Int)) (l:List Int),j<=k∧iv=.int .i64 (j:Nat)∧zbk w1 wr R G (M+400) a (.slice (some S) p c) u F (.slice (some Q) p c') q∧Hid (F.length=p)∧Hid (∀ l∈F,l.length=k)∧Hid (F[p - 1]?=some l)) (fun iv _=>k - (intOf iv).toNat)
   case atStart=>exact⟨0,_,_,dG _,rfl,zhE,U,V,O⟩
   case round =>
    clear zhE f;obtain⟨j,F,l,hj,rfl,zhE,s,C,d⟩:=hrel;have f:=C.out l (dB d.out);obtain⟨Ar,cr,D,z,m⟩:=zhE.row d.out s.out.symm;have cG:=zhE.blk.cell;rw [f] at D z m;have HR:=za D;clear D
    by_cases hjk:j<k
    ·obtain⟨g,rfl,-,-⟩:=zak m oM;obtain⟨o0,c0⟩:=zaQ m j oM;have f0:=m.frozenAt j;have o:=zhE.setRow (k:=j) (x:=(p:Int) - 1) HR.out d.out f.symm;clear m;have Z:=za f;clear f;go_wp2_with fail
     go_roundw
     case rel =>
      refine⟨j+1,_,l.set j ((p:Int) - 1),oM,gM,o,za (by rw [fB];exact s.out),za (fun l' hl'=>?_),za ?_⟩
      ·rcases eW hl' with h1|h1
       ·exact C.out l' h1
       ·rw [h1,fB];exact Z.out
      ·have:=s.out;rw [eX oM]
     case measure=>simp [intOf];omega
    ·obtain⟨f1,f2⟩:=zhE.fin (N:=M+400) (sh:=shA a p k) hxz bz rfl hRl (dD _) T oM ⟨rfl,s.out,r.out,C.out⟩;have bz5:=bz.dr zhE.dr oM;have cZ:=bz5.cell;have fZ:=bz5.frozen;clear m f;go_wp2_with fail
     have cf:=f2.cell;exact bodyPost_ret (v:=.agg #[a,.slice (some S) p c,.slice (some Q) p c']) (by simp [results,Tryz.results162,go_sem,cf]) rfl f1.out
def zfu:Value->ByteArray
 |.string s=>s
 |_=>⟨#[]⟩
def RetTexts (L:Nat) (w:World) (e:Ending) (w':World):Prop:=∃ (A:Option Addr) (n c:Nat) (l:List ByteArray),e=.returned (.slice A n c)∧0<n∧w'.ownsRow w.heap.size 9 1 (.slice A n c) n (zM l)∧(∀ x∈l,x.size<=L)∧Ext w w'
theorem zcP (w:World)  (hu:zM (us.toList.map zfu)=us.toList)(hn:us.size=n)(h:n<=1000):(w.alloc (.cells us 9)).ownsRow w.heap.size 9 1 (.slice (some w.heap.size) n n) n (zM (us.toList.map zfu)):=by
 rw [hu];exact World.ownsRow_lit w us n (dD _) lM (by simpa using hn)
theorem reads_ints (l:List Int)(hu:us.toList=ints l)(hn:us.size=n)(hx:Ext (w.alloc (.cells us e)) w')(h63:n<=1000):Reads w' w.heap.size (w.heap.size+1) 1 (some ⟨w.heap.size,0,none⟩) n (ints l):=
 ⟨by rw [← hu];simpa using hn,oM,fun _=>⟨_,rfl,dD _,sM,fun j u hj=>by
  have:=(zbA hx).cell j
  rw [zP,dP,this]
  rw [← hu] at hj
  simpa using hj⟩⟩
theorem zaV (l:List Int) (n:Nat) (us:Array Value)(hu:us.toList=ints l)(hn:us.size=n)(h0:0<n)(h63:n<=1000)(h:Rd w R M)(hM:M<=1000000000) :
  Calls Tryz.prog 163 #[.pointer (some R),.slice (some w.heap.size) n n] (w.alloc (.cells us 3)) (RetNum R M l (w.alloc (.cells us 3))):=
 l19Rd_num (h.ext ((cY _).alloc _)) hM (reads_ints l hu hn (cY _) h63) h.lt h0
theorem ret_fill {s:Sys}  (hs:zbO W R A n s)(hg:Good s)(hn:n<=L∧n<=c)(hr:Rd W R M)(hd:Dr R w W)(hB:Blk W Z 38 cs)(hR:R<w.heap.size)(hZ:w.heap.size<=Z) :
  RetG R M L w (.returned (.agg #[s.al,s.st,.slice A n c])) (((W.setCell Z s.al).setCell ⟨Z,1,none⟩ s.st).setCell ⟨Z,2,none⟩ (.slice A n c)):=by
 have a:=zbZ W Z (.int .i64 s.al) (.int .i64 s.st) (.slice A n c);exact⟨s,A,n,c,rfl,hs.far hB dM a,hg,hn,hr.frm a (fun k h1 h2=>oM),((hd.ag (p:=⟨Z,0,none⟩) hZ _).ag (p:=⟨Z,1,none⟩) hZ _).ag (p:=⟨Z,2,none⟩) hZ _⟩
def zfJ (b:Aut):Prop:=∃ a p:Nat,a<64∧1<=p∧p<=16∧shA a p (letters a 6).length b
theorem zfl.mono {sh sh':Aut->Prop}  {e:Ending}(h:zfl R M sh w e w')(hd:Dr R w0 w)(hM:M<=N)(hs:∀ b,sh b->sh' b):zfl R N sh' w0 e w':=by
 obtain⟨b,A,n,c,A',n',c',d,f,hsh,g,a⟩:=h;exact⟨b,A,n,c,A',n',c',d,f.less hd.size,za (hs b hsh.out),g.more hM,hd.trans a⟩
theorem zdX {sh:Aut->Prop}   (hx:Ext w w0)(ho:zK W w0.heap.size A n c A' n' c' b)(hsh:sh b)(hr:Rd W R M)(hd:Dr R w0 W) (bz:Blk w0 Z t cs)(hc:cs.size=3)(hR:R<w.heap.size)(hZ:w.heap.size<=Z)(hM:M<=N) :
  Hid (zfl R N sh w (.returned (.agg #[b.al,.slice A n c,.slice A' n' c'])) (((W.setCell Z b.al).setCell ⟨Z,1,none⟩ (.slice A n c)).setCell ⟨Z,2,none⟩ (.slice A' n' c'))) ∧
  Blk (((W.setCell Z b.al).setCell ⟨Z,1,none⟩ (.slice A n c)).setCell ⟨Z,2,none⟩ (.slice A' n' c')) Z t #[.int .i64 b.al,.slice A n c,.slice A' n' c']:=by
 have d:=bz.lt;have a:=zab W Z (.int .i64 b.al) (.slice A n c) (.slice A' n' c');refine⟨za ⟨b,A,n,c,A',n',c',rfl,(ho.ak a (fun b h1 e=>oM)).less hx.size,za hsh,(hr.more hM).frm a (fun k hk e=>oM),?_⟩,zaj (bz.dr hd oM) hc _ _ _⟩;exact (((hx.dr.trans hd).ag (p:=⟨Z,0,none⟩) hZ _).ag (p:=⟨Z,1,none⟩) hZ _).ag (p:=⟨Z,2,none⟩) hZ _
theorem spec_l1Some (h:Rd w R M)(hM:M<=900000000) :
  Calls Tryz.prog 272 #[.pointer (some R)] w (fun e w'=>∃ x:Nat,x<64∧e=.returned (.int .i64 x)∧Rd w' R (M+1)∧Dr R w w'):=by
 go_enter Tryz.func272,Tryz.ntmps272
 go_wp2_with fail
 refine (zaV [3,7,1,5,0,6,63,2,21] 9 #[(3:Int),(7:Int),(1:Int),(5:Int),(0:Int),(6:Int),(63:Int),(2:Int),(21:Int)] rfl rfl oM oM h oM).mono ?_;rintro e w1 ⟨x,c,rfl,b,a⟩;obtain⟨y,d,rfl⟩:∃ y:Nat,y<64∧x=(y:Int):=⟨x.toNat,by simp at c;omega,by simp at c;omega⟩;clear c;go_wp2_with fail
 go_ret;exact⟨y,d,rfl,b,((Dr.refl R w).alloc _).trans a⟩
theorem yF13a1 {P:Prop}(h:P:=by
 intro e w4 hret;obtain⟨b,A,n,c,A',n',c',rfl,zhD,hsh,hr4,hd4⟩:=hret.mono (N:=M+500) (sh':=zfJ) hd13 oM (fun b hb=>⟨a,p,ha,hp1,oM,hb⟩);obtain⟨f1,f2⟩:=zdX (N:=M+500) (sh:=zfJ) hxz zhD hsh.out hr4 hd4 bz rfl hRl (Nat.le_refl _) (Nat.le_refl _);have bz5:=bz.dr hd4 oM;have cZ:=bz5.cell;have fZ:=bz5.frozen;go_wp2_with fail
 have cf:=f2.cell;exact bodyPost_ret (v:=.agg #[b.al,.slice A n c,.slice A' n' c']) (by simp [results,Tryz.results74,go_sem,cf]) rfl f1.out
 ):P:=h
theorem zcj (h:Rd w R M)(hM:M<=800000000)(ha:a<64) :
  Calls Tryz.prog 74 #[.pointer (some R),a] w (zfl R (M+500) zfJ w):=by
 have hRl:=h.lt
 go_enter Tryz.func74,Tryz.ntmps74
 go_wp2_with fail
 generalize U0:w.alloc _=w1 at *;have hxz:=gC U0;have bz:=dV U0;clear U0;refine (zw (h.ext hxz) oM).mono ?_;rintro e l ⟨y,rfl,-,-,g,f⟩
 by_cases hy:y=0
 ·subst hy;go_wp2_with fail
  refine (zaV [3,2,4,1] 4 #[(3:Int),(2:Int),(4:Int),(1:Int)] rfl rfl oM oM g oM).mono ?_;rintro e k ⟨x,b,rfl,d,c⟩;obtain⟨p,hp1,i,rfl⟩:∃ y:Nat,1<=y∧y<=4∧x=(y:Int):=⟨x.toNat,by simp at b;omega,by simp at b;omega,by simp at b;omega⟩;clear b;have hd13:=(f.alloc _).trans c;go_wp2_with fail
  refine (zgj d oM ha hp1 oM).mono ?_;exact yF13a1
 ·have j:((y:Int)==0)=false:=by simp;omega
  go_wp2_with fail
  refine (zaV [2,3,1,4,5] 5 #[(2:Int),(3:Int),(1:Int),(4:Int),(5:Int)] rfl rfl oM oM g oM).mono ?_;rintro e k ⟨x,b,rfl,d,c⟩;obtain⟨p,hp1,i,rfl⟩:∃ y:Nat,1<=y∧y<=5∧x=(y:Int):=⟨x.toNat,by simp at b;omega,by simp at b;omega,by simp at b;omega⟩;clear b;have hd13:=(f.alloc _).trans c;go_wp2_with fail
  refine (zeH d oM ha oM).mono ?_;exact yF13a1
section
variable {w0 W W':World} {R G M N:Nat} {al:Int} {v vA:Value} {rows:List Value} {ls:List (List Int)} {acc:List Bool}
theorem zbk.setAl (h:zbk w0 W R G M al v rows ls vA acc) (x:Int):zbk w0 (W.setCell G x) R G M x v rows ls vA acc:=by
 have d:=h.hR;have a:=h.hG;have c:=dE W G 0 (.int .i64 x);refine⟨by simpa using h.blk.ab 0 _,zf h.nx c (fun b hb hS=>zp h.nx h.blk dM hb hS),h.rows.frm c (fun i r b hr hb hS=>?_),zf h.acc c (fun b hb hS=>zp h.acc h.blk dM hb hS),h.rd.frm c (fun k hk e=>oM),h.dr.ag (p:=⟨G,0,none⟩) a _,d,a⟩;obtain⟨g,_,f⟩:=h.rows.row hr;exact zp f h.blk dM hb hS
theorem zbk.setNext (h:zbk w0 W R G M al v rows ls vA acc) (ho:W.ownsRow w0.heap.size 110 1 v' 0 []):zbk w0 (W.setCell ⟨G,1,none⟩ v') R G M al v' [] [] vA acc:=by
 have c:=h.hR;have a:=h.hG;have d:=dE W G 1 v';exact⟨by simpa using h.blk.ab 1 _,zf ho d (fun b hb hS=>zp ho h.blk dM hb hS),zH.nil _ _,zf h.acc d (fun b hb hS=>zp h.acc h.blk dM hb hS),h.rd.frm d (fun k hk e=>oM),h.dr.ag (p:=⟨G,1,none⟩) a _,c,a⟩
theorem zbk.setMarks (h:zbk w0 W R G M al v rows ls vA acc) (ho:W.ownsRow w0.heap.size 4 1 v' 0 []):zbk w0 (W.setCell ⟨G,2,none⟩ v') R G M al v rows ls v' []:=by
 have d:=h.hR;have a:=h.hG;have c:=dE W G 2 v';refine⟨by simpa using h.blk.ab 2 _,zf h.nx c (fun b hb hS=>zp h.nx h.blk dM hb hS),h.rows.frm c (fun i r b hr hb hS=>?_),zf ho c (fun b hb hS=>zp ho h.blk dM hb hS),h.rd.frm c (fun k hk e=>oM),h.dr.ag (p:=⟨G,2,none⟩) a _,d,a⟩;obtain⟨f,_,ho⟩:=h.rows.row hr;exact zp ho h.blk dM hb hS
theorem zbk.growRow {row:Value}  {x:Int} {gN cN nN:Nat}(h:zbk w0 W R G M al (.slice (some gN) nN cN) rows ls vA acc)(hn:nN=ls.length)(hr:rows[i]?=some row)(hl:ls[i]?=some l)
  (zhD:W'.ownsRow w0.heap.size 3 1 (.slice (some g) (l.length+1) cap) (l.length+1) (ints l++[.int .i64 x])) (hg:W.grownBy W' row.ownBlock) (hat:row.ownBlock=some g∨g=W.heap.size+1) :
  (∀ u,W.cell? ⟨G,u,none⟩=W'.cell? ⟨G,u,none⟩)∧Hid (W'.cell? ⟨gN,i,none⟩=some row)∧W'.frozen? ⟨gN,i,none⟩=false ∧
  zbk w0 (W'.setCell ⟨gN,i,none⟩ (.slice (some g) (l.length+1) cap)) R G M al (.slice (some gN) nN cN) (rows.set i (.slice (some g) (l.length+1) cap)) (ls.set i (l++[x])) vA acc:=by
 subst hn;have y:=h.hR;have v:=h.hG;have E:i<ls.length:=(List.getElem?_eq_some_iff.1 hl).1;have s:=h.rows.2.1 i _ l hr hl;have n:Frm (fun k=>row.ownBlock=some k) W W':=fH hg;obtain⟨z,D⟩:=h.grown s hg;have t:Blk W' G 27 #[.int .i64 al,.slice (some gN) ls.length cN,vA]:=h.blk.frm n (fun e=>zp s h.blk dM e rfl);have a:W'.ownsRow w0.heap.size 110 1 (.slice (some gN) ls.length cN) ls.length rows:=zf h.nx n (fun b hb hS=>zaW h.nx s dM hb hS);have zhE:W'.ownsRow w0.heap.size 4 1 vA acc.length (zaB acc):=zf h.acc n (fun b hb hS=>zaW h.acc s dM hb hS);have B:=(a.lt gN rfl).1;have q:=h.rows.1;have d:∀ (j:Nat) (r:Value) (b:Nat),j≠i->rows[j]?=some r->r.ownBlock=some b->b≠g:=fun j r b hji hj hb e=>by
  subst e;rcases hat with h1|h1
  ·exact h.rows.2.2 j i r row b hj hr hji hb h1
  ·have:=h.low j r b hj hb;omega
 have f:zH W' w0.heap.size (rows.set i (.slice (some g) (l.length+1) cap)) (ls.set i (l++[x])):=by
  refine⟨by simp [q],fun j r m hj hm=>?_,fun j j' r r' b hj hj' hne hb=>?_⟩
  ·by_cases hji:i=j
   ·subst hji;rw [eX oM] at hj;rw [eX E] at hm;obtain rfl:=Option.some.inj hj;obtain rfl:=Option.some.inj hm;simpa [ints] using zhD
   ·rw [fL hji] at hj hm;exact zf (h.rows.2.1 j r m hj hm) n (fun b hb hS=>h.rows.2.2 j i r row b hj hr (fun e=>hji e.symm) hb hS)
  ·by_cases hji:i=j
   ·subst hji;rw [eX oM] at hj;obtain rfl:=Option.some.inj hj;rw [fL hne] at hj';have o:g=b:=by simpa [Value.ownBlock] using hb
    subst o;exact fun hc=>d j' r' _ (fun e=>hne e.symm) hj' hc rfl
   ·rw [fL hji] at hj
    by_cases hji':i=j'
    ·subst hji';rw [eX oM] at hj';obtain rfl:=Option.some.inj hj';intro hc;have o:g=b:=by simpa [Value.ownBlock] using hc
     exact d j r b (fun e=>hji e.symm) hj hb o.symm
    ·rw [fL hji'] at hj';exact h.rows.2.2 j j' r r' b hj hj' hne hb
 have c:=dE W' gN i (.slice (some g) (l.length+1) cap);refine⟨fun u=>by rw [h.blk.cell,t.cell],za (by rw [a.cellAt i oM,hr]),a.frozenAt i,⟨t.frm c (fun e=>zp a t dM rfl e.symm),?_,?_,zf zhE c (fun b hb hS=>?_),D.frm c (fun k hk e=>oM),z.ag (p:=⟨gN,i,none⟩) B _,y,v⟩⟩
 ·rw [fB];exact (a.stored i _).1
 ·refine f.frm c (fun j r b hj hb hS=>?_);obtain⟨F,_,C⟩:=f.row hj;subst hS;exact zaW C a dM hb rfl
 ·subst hS;exact zaW zhE a dM hb rfl
end
def BdL (L:Nat) (ls:List (List Int)) (acc:List Bool):Prop:=ls.length<=L∧acc.length<=L∧∀ l∈ls,l.length<=L
theorem BdL.more (h:BdL L ls acc)(hK:L<=K):BdL K ls acc:=⟨dK h.1 hK,dK h.2.1 hK,fun l hl=>dK (h.2.2 l hl) hK⟩
def BdA (L:Nat) (b:Aut):Prop:=BdL L b.next b.acc
theorem BdA.of (h:zfJ b):BdA 16 b:=by
 obtain⟨a,p,ha,hp1,f,h1,d,h3,c⟩:=h;exact⟨oM,oM,fun l hl=>by have:=c l hl;have:=zB a 6;omega⟩
theorem tot_le :∀ ls:List (List Int),(∀ l∈ls,l.length<=L)->tot ls<=ls.length*L
 |[],_=>by simp [tot]
 |l :: r,h=>by
  have:=tot_le r (fun x hx=>h x (by simp [hx]))
  have:=h l sM
  rw [tot_cons,List.length_cons,Nat.add_mul]
  omega
theorem BdA.size (h:BdA L b)(hL:L<=200):b.size<=1048576:=by
 have h1:=tot_le b.next h.2.2;have a:b.next.length*L<=200*200:=Nat.mul_le_mul (dK h.1 hL) hL;have h3:=h.1;have c:=h.2.1;unfold Aut.size;omega
theorem eq_edge (a b c d e f:Int) (w:World):(Op.equalIn 10000 117 (.agg #[a,b,c]) (.agg #[d,e,f])).run Tryz.prog w=.ok (a==d&&(b==e&&c==f)) w:=by
 have j:=Tryz.underlying3;have i:=Tryz.isAgg3;have k:=Tryz.sizeOf3;have g:Tryz.prog.underlying 117=some (.struct (Tryz.prog.fieldsOf 117)):=kM;have h:Tryz.prog.stoodInHeld 117=false:=kM;rw [show (10000:Nat)=9999+1 from rfl,run_equalIn_agg w 9999 117 _ _ g h];simp only [Program.fieldsOf,Tryz.underlying117];go_simp
 by_cases h1:a=d<;>by_cases h2:b=e<;>by_cases h3:c=f<;>simp [h1,h2,h3]
theorem wrong_acc (hr:Rd w R M)(hx:Ext w w1)(hR:R<w.heap.size)(hxW:Ext w1 W) (zhD:W.ownsRow w1.heap.size 117 3 v es.length (zq es))(hG:w1.heap.size<=G)(hB:Blk W G 38 #[al,st,v]) :
  Acc w w1 W R G M al st v es:=
 ⟨hB,zhD,hr.ext (hx.trans hxW),(hx.trans hxW).dr,hxW.aj,hR,hx.size,dK hx.size hG⟩
theorem edge_lit (w:World):(w.alloc (.cells #[] 117)).drew.ownsRow w.heap.size 117 3 (.slice (some w.heap.size) 0 0) 0 []:=
 World.ownsRow_lit w #[] 0 (dD _) lM rfl
theorem zgZ (hn:n=es.length)(h:W.ownsRow base 117 3 v n (zq es)):W.ownsRow base 117 3 v es.length (zq es):=by
 subst hn;exact h
theorem zfk (hr:Rd w R M)(hx:Ext w w1)(hR:R<w.heap.size)(hxW:Ext w1 W) (zhD:W.ownsRow w1.heap.size 117 3 v es.length (zq es))(hB:Blk W G 38 #[(0:Int),(0:Int),()])(hG:w1.heap.size<=G) :
  ∃ (G':Nat) (v':Value),Value.pointer (some G)=.pointer (some G')∧w1.heap.size<=G'∧Acc w w1 (((W.setCell G al).setCell ⟨G,1,none⟩ st).setCell ⟨G,2,none⟩ v) R G' M al st v' es:=by
 have h:=zbZ W G (.int .i64 al) (.int .i64 st) v;have c:∀ b,v.ownBlock=some b->b≠G:=by
  rintro b a rfl;rcases zhD.2 with ⟨rfl,_⟩|⟨g,d,f,rfl,_,j,_⟩
  ·simp [Value.ownBlock] at a
  ·have i:g=b:=by simpa [Value.ownBlock] using a
   subst i;unfold Blk at hB;rw [j] at hB;injection hB with hB
   injection hB with _ ht
   exact absurd ht dM
 refine⟨G,v,rfl,hG,wrong_acc hr hx hR ?_ (zf zhD h (fun b a hS=>c b a hS)) hG (by simpa using ((hB.ab 0 (.int .i64 al)).ab 1 (.int .i64 st)).ab 2 v)⟩;exact ((hxW.setCell (p:=⟨G,0,none⟩) hG _).setCell (p:=⟨G,1,none⟩) hG _).setCell (p:=⟨G,2,none⟩) hG _
theorem zfx {wB:World}     (h:Acc w0 wB W R G M al st (.slice A n c) es)(hn:0<n):∃ g,A=some ⟨g,0,none⟩:=by
 rcases h.own.2 with ⟨a,f⟩|⟨g,b,d,a,_⟩
 ·injection a with _ h2 _;omega
 ·injection a with h1
  exact⟨g,h1⟩
theorem yF13a5 {P:Prop}(h:P:=by
 have h1':=h1.out;refine zO fun K hK=>?_;go_simp;refine hK.out _ _ ?_;refine zai ?_;go_wp2_with fail
 go_meet;exact⟨_,_,_,_,h3.more oM,by have:=HnL.out;simp;omega⟩
 ):P:=h
theorem yF13a7 {P:Prop}(h:P:=by
 refine zO fun K hK=>?_;go_simp;refine hK.out _ _ ?_;refine zai ?_;go_wp2_with fail
 go_meet;exact⟨_,_,_,_,hst.more oM,by have:=HnL.out;simp;omega⟩
 ):P:=h
theorem zdz {s:Sys} (h:Rd w R M)(hM:M<=900000000)(hs:zbO w R A n s)(hn:n<=L)(hL:L<=100000) :
  Calls Tryz.prog 117 #[.pointer (some R),.agg #[s.al,s.st,.slice A n c]] w (RetA R (M+10) (L+1) w):=by
 have hRl:=h.lt;have O:=hs.at_.2;have E:=za hs.1;obtain⟨al,st,a⟩:=s;simp only at O E ⊢;obtain⟨w1,U0⟩:∃ x,Hid ((w.alloc (.cells #[al,st,.slice A n c] 38)).alloc (.cells #[(0:Int),(0:Int),()] 38)=x):=⟨_,za rfl⟩;have ao:Ext w w1:=(((cY _).alloc _).alloc _).trans (Ext.eq_ U0.out);obtain⟨bS,bZ⟩:=zS (Ext.eq_ U0.out);have an:w1.heap.size=w.heap.size+2:=by rw [← U0.out];simp
 have au:=za bS;have ad:=za bZ;have B:=za ao;have av:=za an;clear bS bZ ao an hs
 go_enter Tryz.func117,Tryz.ntmps117
 go_wp2_with fail
 rw [U0.out] at *;have aY:w.heap.size+2<=w1.heap.size:=by rw [av.out];exact dD _
 go_upto_region 1 with fail
 go_cut [5] (fun s5 wx=>∃ (G:Nat) (v:Value),s5=.pointer (some G)∧w1.heap.size<=G∧Acc w w1 wx R G M al st v a)
 case first =>
  have cS:=fun W (hW:Ext w1 W)=>(au.out.ext hW).cell;refine tR (fun X=>Ext w1 X) [10] (Ord.app [0,1,2,3,5,6] (Ord.two 4 (Ord.two 7 (Ord.of [8,9,10]) 9 (Ord.of [7,8,10])) 9 (Ord.of [4,7,8,10]))) ?_;refine tQ ?_;refine zeK (fun K hK=>?_) (fun K hK=>?_)
  ·go_simp;have i:Ext w1 (w1.alloc (.cells #[] 117)).drew:=((cY w1).alloc _).drew;have zhD:(w1.alloc (.cells #[] 117)).drew.ownsRow w1.heap.size 117 3 (.slice (some w1.heap.size) 0 0) 0 []:=edge_lit w1;have U:(w1.alloc (.cells #[] 117)).drew.heap.size=w1.heap.size+1:=sM;refine hK.out _ _ i ?_;refine pT ?_;generalize (w1.alloc (.cells #[] 117)).drew=V at *;refine zeK (fun K hK=>?_) (fun K hK=>?_)
   ·refine zu _ _ _ _ rfl w1.heap.size 117 _ 3 24 Tryz.underlying36 zaT rfl dM (.slice (some w1.heap.size) 0 0) 0 [] rfl zhD (R+1) w.heap.size A n c (zq a) rfl (O.ext (B.out.trans i)) (zcW a) lM oM i.size ?_;intro v Y zhO hg3 hat3;rw [dP,eA] at zhO;obtain⟨A3,c3,rfl⟩:=zi zhO;have d:Ext w1 Y:=i.grown hg3 (fun k C=>by simp [Value.ownBlock] at C;omega);refine hK.out _ _ d ?_;refine pT ?_;refine tQ ?_;refine zC fun K hK=>?_;go_simp;refine hK.out _ _ (d.alloc _) ?_;refine pT ?_;refine tQ ?_;refine zO fun K hK=>?_;go_simp;refine hK.out _ _ ?_;refine zai ?_;go_wp2_with fail
    go_meet;exact⟨Y.heap.size,.slice A3 n c3,rfl,d.size,wrong_acc h B.out hRl (d.alloc _) (zg (zgZ E.out zhO) ((cY _).alloc _)) d.size (dU _ _ _)⟩
   ·go_simp;have d:=i.alloc (.cells #[(0:Int),(0:Int),()] 38);have ap:=(cY V).alloc (.cells #[(0:Int),(0:Int),()] 38);replace zhD:=zg zhD ap;refine hK.out _ _ d ?_;generalize U0:V.alloc _=a0 at *;have I:=dV U0;clear U0;rw [U] at I;have i:=d;refine pT ?_;refine zC (fun K hK=>?_);refine zu _ _ _ _ rfl w1.heap.size 117 _ 3 24 Tryz.underlying36 zaT rfl dM (.slice (some w1.heap.size) 0 0) 0 [] rfl zhD (R+1) w.heap.size A n c (zq a) rfl (O.ext (B.out.trans i)) (zcW a) lM oM i.size ?_;intro v Y zhO hg3 hat3;rw [dP,eA] at zhO;obtain⟨A3,c3,rfl⟩:=zi zhO;have d:Ext w1 Y:=i.grown hg3 (fun k C=>by simp [Value.ownBlock] at C;omega);have p:Blk Y (w1.heap.size+1) 38 #[.int .i64 0,.int .i64 0,.slice none 0 0]:=I.frm (fH hg3) (by simp [Value.ownBlock]);refine hK.out _ _ d ?_;refine pT ?_;refine tQ ?_;have cE:=p.cell;have fE:=p.frozen;refine zO fun K hK=>?_;go_simp;refine hK.out _ _ ?_;refine zai ?_;go_wp2_with fail
    go_meet;exact zfk h B.out hRl d (zgZ E.out zhO) p oM
  ·go_simp;have i:Ext w1 (w1.alloc (.cells #[(0:Int),(0:Int),()] 38)).drew:=((cY w1).alloc _).drew;have aw:Blk (w1.alloc (.cells #[(0:Int),(0:Int),()] 38)).drew w1.heap.size 38 #[.int .i64 0,.int .i64 0,.slice none 0 0]:=dU w1 _ _;have U:(w1.alloc (.cells #[(0:Int),(0:Int),()] 38)).drew.heap.size=w1.heap.size+1:=sM;refine hK.out _ _ i ?_;refine pT ?_;generalize (w1.alloc (.cells #[(0:Int),(0:Int),()] 38)).drew=V at *;refine zC fun K hK=>?_;go_simp;have d:=i.alloc (.cells #[] 117);have zhD:(V.alloc (.cells #[] 117)).ownsRow w1.heap.size 117 3 (.slice (some ⟨w1.heap.size+1,0,none⟩) 0 0) 0 []:=by
    rw [← U];exact World.ownsRow_lit V #[] 0 i.size lM rfl
   have I:=aw.ext ((cY V).alloc (.cells #[] 117));refine hK.out _ _ d ?_;generalize V.alloc _=Y at *;refine pT ?_;refine zC (fun K hK=>?_);refine zu _ _ _ _ rfl w1.heap.size 117 _ 3 24 Tryz.underlying36 zaT rfl dM (.slice (some ⟨w1.heap.size+1,0,none⟩) 0 0) 0 [] rfl zhD (R+1) w.heap.size A n c (zq a) rfl (O.ext (B.out.trans d)) (zcW a) lM oM d.size ?_;intro v w4 hown4 hg4 hat4;rw [dP,eA] at hown4;obtain⟨A4,c4,rfl⟩:=zi hown4;have aq:Ext w1 w4:=d.grown hg4 (fun k C=>by simp [Value.ownBlock] at C;omega);have p:Blk w4 w1.heap.size 38 #[.int .i64 0,.int .i64 0,.slice none 0 0]:=I.frm (fH hg4) (by simp [Value.ownBlock]);refine hK.out _ _ aq ?_;refine pT ?_;refine tQ ?_;have cE:=p.cell;have fE:=p.frozen;refine zO fun K hK=>?_;go_simp;refine hK.out _ _ ?_;refine zai ?_;go_wp2_with fail
   go_meet;exact zfk h B.out hRl aq (zgZ E.out hown4) p (dD _)
 case rest =>
  obtain⟨G,v,rfl,aW,zhE⟩:=hcut;obtain⟨A1,n1,c1,rfl⟩:=zhE.form;obtain⟨rfl,am⟩:=zhE.reads;have aX:=zhE.hG;have cG:=zhE.blk.cell;have aj:=am.2.len;clear am;have az:a.length<=L:=oH E.out;have HnL:=za az;go_wp2_with fail
  refine (zw (n:=a.length) zhE.rd oM).mono ?_;rintro e Y ⟨k,rfl,ah,ay,ak,ag⟩;replace zhE:=zhE.drawn ag ak;clear ag ak cG;have Hk:=za ah;clear ah ay;go_wp2_with fail
  refine (zw (n:=30) zhE.rd oM).mono ?_;rintro e w4 ⟨y,rfl,-,-,hr4,hd4⟩;replace zhE:=zhE.drawn hd4 hr4;clear hd4 hr4;go_upto_block 0 with fail
  go_cut [] (fun wx=>∃ (al st:Int) (v:Value) (S:List Edg),Acc w w1 wx R G (M+10) al st v S∧S.length<=L+1)
  case first =>
   have aQ:=za aj;clear aj;have J:y=0∨y=1∨y=2∨y=3∨y=4∨y=5∨y=6∨7<=y:=oM;rcases J with t|t|t|t|t|t|t|t
   ·subst t;have aB:True:=trivial;go_wp2_with fail
    refine (zaV [64,(-1),1,63] 4 #[(64:Int),.int .i64 (-1),(1:Int),(63:Int)] rfl rfl oM oM zhE.rd oM).mono ?_;rintro e F ⟨x,-,rfl,m,f⟩;replace zhE:=(zhE.ext ((cY _).alloc _)).drawn f m;have cG:=zhE.blk.cell;have fG:=zhE.blk.frozen;go_wp2_with fail
    go_meet;exact⟨_,_,_,a,(zhE.setAl x).more oM,oH HnL.out⟩
   ·subst t;have aB:True:=trivial;go_wp2_with fail
    refine (zaV [0,17,(-1),16,1] 5 #[(0:Int),(17:Int),.int .i64 (-1),(16:Int),(1:Int)] rfl rfl oM oM zhE.rd oM).mono ?_;rintro e F ⟨x,-,rfl,m,f⟩;replace zhE:=(zhE.ext ((cY _).alloc _)).drawn f m;have cG:=zhE.blk.cell;have fG:=zhE.blk.frozen;go_wp2_with fail
    go_meet;exact⟨_,_,_,a,(zhE.setSt x).more oM,oH HnL.out⟩
   ·subst t
    by_cases hn0:0<a.length
    ·have C:=Hk.out oM;have r:k<a.length:=oM;obtain⟨g,rfl⟩:=zfx zhE hn0;have l:a.length≠0:=oM;have T:R<w1.heap.size:=by have:=zhE.hR;have:=zhE.hB;omega
     have cG:∀ W,Dr R w4 W->∀ q,W.cell? ⟨G,q,none⟩=#[Value.int .i64 al,.int .i64 st,.slice (some g) a.length c1][q]?:=fun W hW=>(zhE.blk.dr hW (oH zhE.hG)).cell;clear C l;go_wp2_with fail
     refine tR (fun X=>Dr R w4 X) [8] (Ord.of [0,1,2,3,4,5,6,7,8]) ?_;refine tQ ?_;refine zC fun K hK=>?_;go_simp;refine hK.out _ _ ((Dr.refl R w4).drew.alloc _) ?_;refine pT ?_;refine tQ ?_;refine zC fun K hK=>?_;go_simp;refine (zaV (w:=w4.drew) [(-1),16,0,2] 4 #[.int .i64 (-1),(16:Int),(0:Int),(2:Int)] rfl rfl oM oM (zhE.rd.ext (cY _).drew) oM).mono ?_;rintro e F ⟨x,-,rfl,m,f⟩;have j:Dr R w4 F:=((Dr.refl R w4).drew.alloc _).trans f;have b:=zhE.drawn j m;refine hK.out _ _ j ?_;refine pT ?_;refine tQ ?_;have zhD:=b.own;obtain⟨o0,c0⟩:=zaQ zhD (k*3) oM;have f0:=zhD.frozenAt (k*3);have hst:=b.turn rfl (zcX (dC r) x).1 sM;exact yF13a7
    ·have hn1:a.length=0:=oM;clear hn0;go_wp2_with fail
     go_meet;exact⟨_,_,_,a,zhE.more oM,oH HnL.out⟩
   ·subst t
    by_cases hn0:0<a.length
    ·have C:=Hk.out oM;have r:k<a.length:=oM;obtain⟨g,rfl⟩:=zfx zhE hn0;have l:a.length≠0:=oM;have T:R<w1.heap.size:=by have:=zhE.hR;have:=zhE.hB;omega
     have cG:∀ W,Dr R w4 W->∀ q,W.cell? ⟨G,q,none⟩=#[Value.int .i64 al,.int .i64 st,.slice (some g) a.length c1][q]?:=fun W hW=>(zhE.blk.dr hW (oH zhE.hG)).cell;clear C l;go_wp2_with fail
     refine tR (fun X=>Dr R w4 X) [8] (Ord.of [0,1,2,3,4,5,6,7,8]) ?_;refine tQ ?_;refine zC fun K hK=>?_;go_simp;refine hK.out _ _ ((Dr.refl R w4).drew.alloc _) ?_;refine pT ?_;refine tQ ?_;refine zC fun K hK=>?_;go_simp;refine (zaV (w:=w4.drew) [(-1),16,0,3] 4 #[.int .i64 (-1),(16:Int),(0:Int),(3:Int)] rfl rfl oM oM (zhE.rd.ext (cY _).drew) oM).mono ?_;rintro e F ⟨x,-,rfl,m,f⟩;have j:Dr R w4 F:=((Dr.refl R w4).drew.alloc _).trans f;have b:=zhE.drawn j m;refine hK.out _ _ j ?_;refine pT ?_;refine tQ ?_;have zhD:=b.own;obtain⟨o0,c0⟩:=zaQ zhD (k*3+2) oM;have f0:=zhD.frozenAt (k*3+2);have hst:=b.turn rfl (zcX (dC r) x).2.2 sM;exact yF13a7
    ·have hn1:a.length=0:=oM;clear hn0;go_wp2_with fail
     go_meet;exact⟨_,_,_,a,zhE.more oM,oH HnL.out⟩
   ·subst t
    by_cases hn0:0<a.length
    ·have C:=Hk.out oM;have r:k<a.length:=oM;obtain⟨g,rfl⟩:=zfx zhE hn0;have l:a.length≠0:=oM;have T:R<w1.heap.size:=by have:=zhE.hR;have:=zhE.hB;omega
     have cG:∀ W,Dr R w4 W->∀ q,W.cell? ⟨G,q,none⟩=#[Value.int .i64 al,.int .i64 st,.slice (some g) a.length c1][q]?:=fun W hW=>(zhE.blk.dr hW (oH zhE.hG)).cell;clear C l;go_wp2_with fail
     refine tR (fun X=>Dr R w4 X) [8] (Ord.of [0,1,2,3,4,5,6,7,8]) ?_;refine tQ ?_;refine zC fun K hK=>?_;go_simp;refine hK.out _ _ ((Dr.refl R w4).drew.alloc _) ?_;refine pT ?_;refine tQ ?_;refine zC fun K hK=>?_;go_simp;refine (zaV (w:=w4.drew) [(-1),6,70,5,0] 5 #[.int .i64 (-1),(6:Int),(70:Int),(5:Int),(0:Int)] rfl rfl oM oM (zhE.rd.ext (cY _).drew) oM).mono ?_;rintro e F ⟨x,-,rfl,m,f⟩;have j:Dr R w4 F:=((Dr.refl R w4).drew.alloc _).trans f;have b:=zhE.drawn j m;refine hK.out _ _ j ?_;refine pT ?_;refine tQ ?_;have zhD:=b.own;obtain⟨o0,c0⟩:=zaQ zhD (k*3+1) oM;have f0:=zhD.frozenAt (k*3+1);have hst:=b.turn rfl (zcX (dC r) x).2.1 sM;exact yF13a7
    ·have hn1:a.length=0:=oM;clear hn0;go_wp2_with fail
     go_meet;exact⟨_,_,_,a,zhE.more oM,oH HnL.out⟩
   ·subst t
    by_cases hn0:0<a.length
    ·have C:=Hk.out oM;have r:k<a.length:=oM;obtain⟨g,rfl⟩:=zfx zhE hn0;have l:a.length≠0:=oM;have zhD:=zhE.own;have hE:=za (dC r);obtain⟨ed,ax⟩:∃ ed,Hid (a[k]?=some ed):=⟨_,hE.out⟩;obtain⟨d0,d1,d2⟩:=zbY ax.out;have cG:=fun W (hW:Ext w4 W)=>(zhE.blk.ext hW).cell;have C0:∀ W,Ext w4 W->W.cell? ⟨g,k*3,none⟩=some (.int .i64 ed.fr):=fun W hW=>hW.aa (by rw [zhD.cellAt _ oM];exact d0);have C1:∀ W,Ext w4 W->W.cell? ⟨g,k*3+1,none⟩=some (.int .i64 ed.le):=fun W hW=>hW.aa (by rw [zhD.cellAt _ oM];exact d1);have C2:∀ W,Ext w4 W->W.cell? ⟨g,k*3+2,none⟩=some (.int .i64 ed.ta):=fun W hW=>hW.aa (by rw [zhD.cellAt _ oM];exact d2);clear C l d0 d1 d2;go_wp2_with fail
     refine tR (fun X=>Ext w4 X) [8,10] (Ord.of [0,1,2,3,4,5,6,7,8,9,10]) ?_;refine tQ ?_;refine zC fun K hK=>?_;go_simp;refine hK.out _ _ ((cY _).drew.alloc _) ?_;refine pT ?_;refine zO fun K hK=>?_;refine zaI w1 w4.drew _ _ _ rfl 117 _ 3 24 Tryz.underlying36 zaT rfl dM (.slice (some g) a.length c1) a.length (zq a) _ _ rfl rfl zhE.fr.size zhD rfl (by simp [Value.oneCell']) lM oM ?_;intro g5 cap5 F zhP hg5 hat5 hlt5;refine hK.out _ _ ?_;refine pT ?_;refine tQ ?_;obtain⟨h1,h2,h3⟩:=(zhE.ext ((cY _).drew)).push (e:=ed) (W':=F) zhP hg5 hat5;exact yF13a5
    ·have hn1:a.length=0:=oM;clear hn0;go_wp2_with fail
     go_meet;exact⟨_,_,_,a,zhE.more oM,oH HnL.out⟩
   ·subst t;have T:R<w1.heap.size:=by have:=zhE.hR;have:=zhE.hB;omega
    have cG:∀ W,Dr R w4 W->∀ q,W.cell? ⟨G,q,none⟩=#[Value.int .i64 al,.int .i64 st,.slice A1 a.length c1][q]?:=fun W hW=>(zhE.blk.dr hW (oH zhE.hG)).cell;go_wp2_with fail
    refine tR (fun X=>Dr R w4 X) [10,12] (Ord.of [0,1,2,4,6,3,5,7,8,9,10,11,12]) ?_;refine tQ ?_;refine zC fun K hK=>?_;go_simp;refine (zw (n:=4) (zhE.rd.ext (cY _).drew) oM).mono ?_;rintro e F ⟨x,rfl,-,-,m,f⟩;replace f:=((Dr.refl R w4).drew).trans f;refine hK.out _ _ f ?_;refine pT ?_;refine tQ ?_;refine zC fun K hK=>?_;go_simp;refine (zw (n:=3) m oM).mono ?_;rintro e w6 ⟨z,rfl,-,-,hr6,hd6⟩;replace hd6:=f.trans hd6;refine hK.out _ _ hd6 ?_;refine pT ?_;refine tQ ?_;refine zC fun K hK=>?_;go_simp;refine (zw (n:=4) hr6 oM).mono ?_;rintro e w7 ⟨u,rfl,-,-,aA,D⟩;replace D:=hd6.trans D;refine hK.out _ _ D ?_;have o:=zhE.drawn D aA;refine pT ?_;refine tQ ?_;refine zC fun K hK=>?_;go_simp;refine hK.out _ _ (D.alloc _) ?_;refine pT ?_;refine zO fun K hK=>?_;refine zaI w1 w7 _ _ _ rfl 117 _ 3 24 Tryz.underlying36 zaT rfl dM (.slice A1 a.length c1) a.length (zq a) _ _ rfl rfl o.fr.size o.own rfl (by simp [Value.oneCell']) (by unfold maxLen;have:=HnL.out;omega) (oH HnL.out) ?_;intro g8 cap8 w8 hown8 hg8 hat8 hlt8;refine hK.out _ _ ?_;refine pT ?_;refine tQ ?_;obtain⟨h1,h2,h3⟩:=o.push (e:=⟨x,z,u⟩) (W':=w8) hown8 hg8 hat8;exact yF13a5
   ·have h0:((y:Int)==0)=false:=by simp;omega
    have h1:((y:Int)==1)=false:=by simp;omega
    have h2:((y:Int)==2)=false:=by simp;omega
    have h3:((y:Int)==3)=false:=by simp;omega
    have h4:((y:Int)==4)=false:=by simp;omega
    have h5:((y:Int)==5)=false:=by simp;omega
    have h6:((y:Int)==6)=false:=by simp;omega
    clear t;go_wp2_with fail
    go_meet;exact⟨_,_,_,a,zhE.more oM,oH HnL.out⟩
  case rest =>
   clear zhE;obtain⟨H,Q,v',S,zhE,ai⟩:=hcut;obtain⟨A',n',c',rfl⟩:=zhE.form;obtain⟨rfl,_⟩:=zhE.reads;have cG:=zhE.blk.cell;have af:=ad.out.frm zhE.fr oM;have cz:=af.cell;have aZ:=ad.out.lt;have fz:=af.frozen;obtain⟨f1,f2,f3⟩:=zhE.fin (Z:=w.heap.size+1) oM oM (.int .i64 H) (.int .i64 Q) (.slice A' S.length c');have ae:=za (show RetA R (M+10) (L+1) w (.returned (.agg #[H,Q,.slice A' S.length c'])) _ from ⟨⟨H,Q,S⟩,A',S.length,c',rfl,f1,⟨ai,zhh zhE.own⟩,f2,f3⟩);clear f1 f2 f3;go_wp2_with fail
   exact bodyPost_ret (v:=.agg #[H,Q,.slice A' S.length c']) (by simp [results,Tryz.results117,go_sem,cz]) rfl ae.out
def lenAt (W:World) (G:Nat):Nat:=match W.cell? ⟨G,1,none⟩ with|some (.slice _ n _)=>n|_=>0
theorem zbk.lenAt {vA:Value}   (h:zbk w0 W R G M al (.slice A n c) rows ls vA acc):Go.Proofs.YtckbjnndaaoddaaGreatDoor.lenAt W G=n:=by
 unfold Go.Proofs.YtckbjnndaaoddaaGreatDoor.lenAt;rw [h.blk.cell 1];rfl
theorem yF13a8 {P:Prop}(h:P:=by
 have hn1:m=0:=oM;clear hn0;have cG:=zhE.blk.cell;go_wp2_with fail
 go_meet;exact⟨_,_,_,_,_,_,zhE.more oM,za (Hb.out.more oM)⟩
 ):P:=h
theorem zbv (h:Rd w R M)(hM:M<=900000000)(ho:zK w (R+1) A n c A' n' c' b)(hb:BdA L b)(hL:L<=100) :
  Calls Tryz.prog 77 #[.pointer (some R),.agg #[b.al,.slice A n c,.slice A' n' c']] w (zfl R (M+10) (BdA (L+13)) w):=by
 have hRl:=h.lt;have aC:=hb.size oM
 go_enter Tryz.func77,Tryz.ntmps77
 have u:=(cY w).alloc (.cells #[b.al,.slice A n c,.slice A' n' c'] 27);have b0:=dU w 27 #[b.al,.slice A n c,.slice A' n' c'];have aZ:(w.alloc (.cells #[b.al,.slice A n c,.slice A' n' c'] 27)).heap.size=w.heap.size+1:=sM;have U:=u.alloc (.cells #[(0:Int),(),()] 27);have bz:=dU (w.alloc (.cells #[b.al,.slice A n c,.slice A' n' c'] 27)) 27 #[(0:Int),(),()];replace b0:=b0.ext ((cY _).alloc (.cells #[(0:Int),(),()] 27));rw [aZ] at bz;have c0:=b0.cell;go_upto_region 1 with fail
 generalize (w.alloc _).alloc _=w1 at *;have a3:=bz.lt;go_wp2_with fail
 refine (zdi (ho.ext U).reads aC).mono ?_;rintro e w2 ⟨B,m,d,B',m',d',rfl,zhD,am⟩;obtain⟨a,zhE⟩:=zbk.of (R:=R) (M:=M) zhD (h.ext (U.trans am)) am.dr oM;have hG:=am.size;have hm:m=b.next.length:=zhD.2.1;have bD:m<=100:=oH hb.1;have Z:=za hm;have Hb:=za hb;clear zhD ho hm hb aC;go_upto_region 2 with fail
 generalize w2.alloc _=w3 at *;generalize w2.heap.size=G at *;have cG:=zhE.blk.cell;go_wp2_with fail
 refine (zw zhE.rd oM).mono ?_;rintro e w4 ⟨k,rfl,av,-,hr4,hd4⟩;replace zhE:=zhE.drawn hd4 hr4;have Hk:=za av;clear hd4 hr4 cG av;go_wp2_with fail
 refine (zw zhE.rd oM).mono ?_;rintro e D ⟨y,rfl,-,-,aB,aq⟩;replace zhE:=zhE.drawn aq aB;clear aq aB;go_upto_block 0 with fail
 go_cut [] (fun wx=>∃ (al:Int) (v:Value) (a:List Value) (C:List (List Int)) (vA:Value) (o:List Bool),zbk w1 wx R G (M+10) al v a C vA o∧Hid (BdL (L+13) C o))
 case first =>
  have ab:y=0∨y=1∨y=2∨y=3∨y=4∨y=5∨6<=y:=oM;rcases ab with I|I|I|I|I|I|I
  ·subst I;have V:True:=trivial;go_wp2_with fail
   refine (zaV [64,(-1),1,63,0] 5 #[(64:Int),.int .i64 (-1),(1:Int),(63:Int),(0:Int)] rfl rfl oM oM zhE.rd oM).mono ?_;rintro e E ⟨x,-,rfl,hr6,hd6⟩;replace zhE:=(zhE.ext ((cY _).alloc _)).drawn hd6 hr6;have cG:=zhE.blk.cell;have fG:=zhE.blk.frozen;go_wp2_with fail
   go_meet;exact⟨_,_,_,_,_,_,(zhE.setAl x).more oM,za (Hb.out.more oM)⟩
  ·subst I;have V:True:=trivial;have cG:=zhE.blk.cell;have H:=zhE.dr.size;have ah:b.acc.length<=100:=oH Hb.out.2.1;go_wp2_with (at_builtin;refine zao w1 D rfl _ _ _ rfl 4 _ 1 1 Tryz.underlying25 zbe rfl dM (.slice B' m' d') b.acc.length (zaB b.acc) _ _ rfl rfl H zhE.acc rfl (by simp [Value.oneCell']) lM oM ?_;intro g6 cap6 E hown6 hg6 hat6 hlt6;obtain⟨q1,q2,q3⟩:=zhE.ao (x:=true) hown6 hg6 hat6;have a5:=q1.out)
   go_meet;exact⟨_,_,_,_,_,_,q3.more oM,za ⟨oH Hb.out.1,by have:=Hb.out.2.1;simp;omega,fun l z=>by have:=Hb.out.2.2 l z;omega⟩⟩
  ·subst I;have V:True:=trivial
   by_cases hn0:0<m
   ·have hk:=Hk.out oM;have Q:k<b.next.length:=oH Z.out;obtain⟨l,z⟩:∃ l,b.next[k]?=some l:=⟨_,dC Q⟩;obtain⟨gN,rfl,ar,-⟩:=zak (show D.ownsRow w1.heap.size 110 1 (.slice B m d) m a from by have:=zhE.nx;rw [← Z.out] at this;exact this) hn0;obtain⟨Y,J,hr,f,t⟩:=zhE.row z Z.out;have aj:l.length<=100:=by have:=Hb.out.2.2 l (dB z);omega
    have HL:=za z;have HR:=za hr;have H:=zhE.dr.size;have cG:∀ W,Frm (fun b=>(Value.slice Y l.length J).ownBlock=some b) D W->∀ q,W.cell? ⟨G,q,none⟩=#[Value.int .i64 b.al,.slice (some gN) m d,.slice B' m' d'][q]?:=fun W hW=>(zhE.blk.frm hW (fun e=>zp t zhE.blk dM e rfl)).cell;have cN:∀ W,Frm (fun b=>(Value.slice Y l.length J).ownBlock=some b) D W->W.cell? ⟨gN,k,none⟩=some (.slice Y l.length J):=fun W hW=>by
     have hx:W.ownsRow w1.heap.size 110 1 (.slice (some gN) m d) b.next.length a:=zf zhE.nx hW (fun b hb hS=>zaW zhE.nx t dM hb hS);rw [← Z.out] at hx;rw [hx.cellAt k oM,HR.out]
    have bn:Frm (fun b=>(Value.slice Y l.length J).ownBlock=some b) D D.drew:=(cY D).drew.aj;clear z hr f Q;go_wp2_with fail
    refine tR (fun X=>Frm (fun b=>(Value.slice Y l.length J).ownBlock=some b) D X) [11] (Ord.of [0,1,2,3,4,5,6,7,8,9,10,11]) ?_;refine tQ ?_;refine zC fun K hK=>?_;go_simp;have ad:=(cY D).drew;refine hK.out _ _ (ad.alloc _).aj ?_;refine pT ?_;refine zC (fun K hK=>?_);refine zaI w1 D.drew _ _ _ rfl 3 _ 1 8 Tryz.underlying110 zZ rfl dM (.slice Y l.length J) l.length (ints l) _ _ rfl rfl H (zg t ad) rfl (by simp [Value.oneCell']) lM oM ?_;intro g6 cap6 E hown6 hg6 hat6 hlt6;obtain⟨q1,q2,q3,q4⟩:=(zhE.ext ad).growRow (x:=0) Z.out HR.out HL.out hown6 hg6 hat6;have bG:=q2.out;refine hK.out _ _ (ad.aj.trans (fH hg6)) ?_;refine pT ?_;refine tQ ?_;refine zO fun K hK=>?_;go_simp;refine hK.out _ _ ?_;refine zai ?_;go_wp2_with fail
    go_meet;refine⟨_,_,_,_,_,_,q4.more oM,za ⟨by have:=Hb.out.1;rw [fB];omega,oH Hb.out.2.1,fun l' hl'=>?_⟩⟩;rcases eW hl' with h1|h1
    ·have:=Hb.out.2.2 l' h1;omega
    ·have:=Hb.out.2.2 l (dB HL.out);rw [h1];simp;omega
   ·exact yF13a8
  ·subst I;have V:True:=trivial
   by_cases hn0:0<m
   ·have hk:=Hk.out oM;have Q:k<b.next.length:=oH Z.out;obtain⟨l,z⟩:∃ l,b.next[k]?=some l:=⟨_,dC Q⟩;obtain⟨gN,rfl,ar,-⟩:=zak (show D.ownsRow w1.heap.size 110 1 (.slice B m d) m a from by have:=zhE.nx;rw [← Z.out] at this;exact this) hn0;obtain⟨Y,J,hr,f,t⟩:=zhE.row z Z.out;have aj:l.length<=100:=by have:=Hb.out.2.2 l (dB z);omega
    have HL:=za z;have HR:=za hr;have aL:=za (Hb.out.2.2 l (dB z));clear z hr Q;have cG:=zhE.blk.cell
    by_cases hl0:0<l.length
    ·obtain⟨gr,rfl,-,-⟩:=zak t hl0;go_wp2_with fail
     refine (zw (n:=l.length) zhE.rd oM).mono ?_;rintro e E ⟨j,rfl,au,-,hr6,hd6⟩;have bx:=au oM;replace zhE:=zhE.drawn hd6 hr6;have bu:=zhE.hR;have cN:∀ W,Dr R E W->W.cell? ⟨gN,k,none⟩=some (.slice (some gr) l.length J):=fun W hW=>(hd6.trans hW).aa f (by simp;omega);have bE:IntKind.i64.wrap ((m:Int) - 1)=(m:Int) - 1:=by rw [IntKind.wrap_i64];omega
     clear cG au hr6 hd6 f t;have cG:∀ W,Dr R E W->∀ q,W.cell? ⟨G,q,none⟩=#[Value.int .i64 b.al,.slice (some gN) m d,.slice B' m' d'][q]?:=fun W hW=>(zhE.blk.dr hW (oH zhE.hG)).cell;go_wp2_with fail
     refine tR (fun X=>Dr R E X) [13] (Ord.of [0,1,2,3,4,5,6,7,8,9,10,11,12,13]) ?_;refine tQ ?_;refine zC fun K hK=>?_;go_simp;refine hK.out _ _ ((Dr.refl R E).drew.alloc _) ?_;refine pT ?_;refine zC fun K hK=>?_;go_simp;refine (zaV (w:=E.drew) [(-1),m,(m:Int) - 1,0] 4 #[.int .i64 (-1),m,.int .i64 ((m:Int) - 1),(0:Int)] rfl rfl oM oM (zhE.rd.ext (cY _).drew) oM).mono ?_;rintro e w7 ⟨x,-,rfl,aY,aU⟩;have ae:Dr R E w7:=((Dr.refl R E).drew.alloc _).trans aU;have O:=zhE.drawn ae aY;refine hK.out _ _ ae ?_;refine pT ?_;refine tQ ?_;have zhD:=O.rows.2.1 k _ l HR.out HL.out;obtain⟨o0,c0⟩:=zaQ zhD j oM;have f0:=zhD.frozenAt j;have hst:=O.setRow (k:=j) (x:=x) HR.out HL.out rfl;refine zO fun K hK=>?_;go_simp;refine hK.out _ _ ?_;refine zai ?_;go_wp2_with fail
     go_meet;refine⟨_,_,_,_,_,_,hst.more oM,za ⟨by have:=Hb.out.1;rw [fB];omega,oH Hb.out.2.1,fun l' hl'=>?_⟩⟩;rcases eW hl' with h1|h1
     ·have:=Hb.out.2.2 l' h1;omega
     ·rw [h1];simp;have:=aL.out;omega
    ·have bA:l.length=0:=oM;have bB:¬ ((l.length:Int)>0):=oM;go_wp2_with fail
     go_meet;exact⟨_,_,_,_,_,_,zhE.more oM,za (Hb.out.more oM)⟩
   ·exact yF13a8
  ·subst I;have V:True:=trivial;have H:=zhE.dr.size;have p:=zhE.ext ((cY D).alloc (.cells #[] 110));have hn1:=World.ownsRow_lit (base:=w1.heap.size) (e:=110) (size:=1) D #[] 0 H lM rfl;have cG:=p.blk.cell;have fG:=p.blk.frozen;go_upto_region 18 with fail
   replace p:=p.setNext hn1;clear zhE cG fG hn1;generalize (D.alloc (.cells #[] 110)).setCell ⟨G,1,none⟩ (.slice (some D.heap.size) 0 0)=E at *;have a0:=p.dr.size;have F:=p.ext ((cY E).alloc (.cells #[] 4));have aX:=World.ownsRow_lit (base:=w1.heap.size) (e:=4) (size:=1) E #[] 0 a0 lM rfl;have cG:=F.blk.cell;have fG:=F.blk.frozen;go_wp2_with fail
   go_meet;exact⟨_,_,_,_,_,_,(F.setMarks aX).more oM,za ⟨sM,sM,fun l z=>by simp at z⟩⟩
  ·subst I;have V:True:=trivial
   by_cases hn0:0<m
   ·have a9:((m:Int)>0):=oM;have aA:m=b.next.length:=Z.out;have bC:m<=L:=oH Hb.out.1;have hst:∃ (i:Nat) (v:Value) (a:List Value) (C:List (List Int)) (vA:Value) (o:List Bool),i<=13∧zbk w1 D R G (M+2) b.al v a C vA o∧Hid (C.length=m+i)∧Hid (i=0∨m+i<=13)∧Hid (o.length<=L+i)∧Hid (∀ l∈C,l.length<=L):=
     ⟨0,_,_,_,_,_,oM,zhE,za aA.symm,za (.inl rfl),za Hb.out.2.1,za Hb.out.2.2⟩
    clear aA zhE;go_wp2_with fail
    go_loopw [] (fun wr=>∃ (i:Nat) (v:Value) (a:List Value) (C:List (List Int)) (vA:Value) (o:List Bool),i<=13∧zbk w1 wr R G (M+2) b.al v a C vA o∧Hid (C.length=m+i)∧Hid (i=0∨m+i<=13)∧Hid (o.length<=L+i)∧Hid (∀ l∈C,l.length<=L)) (fun wr=>200 - lenAt wr G)
    case atStart=>exact hst
    case round =>
     clear hst;obtain⟨i,v,a,C,vA,o,hi,zhE,s,aV,ah,ai⟩:=hrel;obtain⟨gN,cN,rfl,ar⟩:∃ g c,v=.slice (some ⟨g,0,none⟩) (m+i) c∧w1.heap.size<=g:=by
      obtain⟨A9,c9,rfl⟩:=zi zhE.nx;obtain⟨g,rfl,hg,-⟩:=zak zhE.nx (oH s.out);exact⟨g,c9,by rw [s.out],hg⟩
     have az:=za zhE.lenAt
     by_cases hlt:m+i<=12
     ·have ax:((m+i:Nat):Int)<=12:=oM;have ap:0<C.length:=oH s.out;obtain⟨l,z⟩:∃ l,C[0]?=some l:=⟨_,dC ap⟩;obtain⟨Y,J,hr,f,t⟩:=zhE.row z s.out.symm;have aj:l.length<=L:=ai.out l (dB z);have aN:=za aj;have aw:=za zhE.low;have H:=zhE.dr.size;have af:=dY t;have aO:=za (fun W (hW:Ext wr W)=>af.ext hW);have cG:=fun W (hW:Ext wr W)=>(zhE.blk.ext hW).cell;have aR:∀ W,Ext wr W->W.cell? gN=some (.slice Y l.length J):=fun W hW=>hW.aa f;have a2:=cY wr;have bo:(0:Int)<((m+i:Nat):Int):=oM;have bp:0<(m:Int)+(i:Int):=oM;clear z hr f t af ap;go_upto_region 21 with fail
      refine uR (fun X=>Ext wr X) [9,11] (zv.of [0,1,3,4,5,6,2,7,8,9,10,11]) ?_;refine uQ ?_;have u:Ext wr wr.drew:=a2.drew;generalize wr.drew=wd at *;refine zd fun K hK=>?_;go_simp;have hm:=World.ownsRow_made (base:=wr.heap.size) (e:=3) (size:=1) wd #[] 0 u.size (dG _) rfl;have U:=(cY wd).alloc (.cells #[] 3);replace u:=u.trans U;refine hK.out _ _ u ?_;generalize wd.alloc _=wm at *;generalize wd.heap.size=MM at *;refine pT ?_;refine uQ ?_;refine zd (fun K hK=>?_);refine zu wm _ _ 110 rfl wr.heap.size 3 _ 1 8 Tryz.underlying110 zZ rfl dM (.slice (some MM) 0 0) 0 [] rfl hm _ _ Y l.length J (ints l) rfl (aO.out _ u) (zhe _) lM oM u.size ?_;intro vR E hrow hgR hatR;rw [dP,eA] at hrow;obtain⟨BR,dR,rfl⟩:=zi hrow;have T:Ext wr E:=u.grown hgR (fun k hk=>(hm.lt k hk).1);refine hK.out _ _ T ?_;refine pT ?_;refine uQ ?_;refine zd fun K hK=>?_;go_simp;refine hK.out _ _ (T.alloc _) ?_;refine pT ?_;refine zb fun K hK=>?_;have r:=zhE.ext T;have S:=r.nx;rw [s.out] at S;refine zaI w1 E _ _ _ rfl 110 _ 1 24 Tryz.underlying24 zcf rfl dM (.slice (some gN) (m+i) cN) (m+i) a _ _ rfl rfl r.dr.size S rfl (zaS _ _ _) lM oM ?_;intro g7 cap7 w7 hown7 hg7 hat7 hlt7;refine hK.out _ _ ?_;refine pT ?_;refine uQ ?_;obtain⟨p1,p2,p3⟩:=r.av (l:=l) (W':=w7) (g:=g7) (cap:=cap7) aw.out H hrow (by rw [s.out];exact hown7) hg7 hat7;have a4:=p1.out;rw [s.out] at p3;refine zb fun K hK=>?_;go_simp;refine hK.out _ _ ?_;refine ze ?_;generalize w7.setCell ⟨G,1,none⟩ (.slice (some g7) (m+i+1) cap7)=w8 at *;have bj:=p3.blk.cell;have a1:=p3.dr.size;have a8:=ah.out;clear p1 a4 p2 cG aR hown7 hg7 hat7 r zhE S;go_wp2_with (at_builtin;refine zao w1 w8 rfl _ _ _ rfl 4 _ 1 1 Tryz.underlying25 zbe rfl dM vA o.length (zaB o) _ _ rfl rfl a1 p3.acc rfl (by simp [Value.oneCell']) lM oM ?_;intro g9 cap9 w9 hown9 hg9 hat9 hlt9;obtain⟨q1,q2,q3⟩:=p3.ao (x:=false) hown9 hg9 hat9;have a5:=q1.out)
      go_roundw
      case rel=>exact⟨i+1,oM,_,_,C++[l],_,o++[false],q3,za (by have:=s.out;simp;omega),za oM,za (by simp;omega),za (fun l' hl'=>by
       rcases List.mem_append.1 hl' with h1|h1
       ·exact ai.out l' h1
       ·rw [List.mem_singleton.1 h1];exact aN.out)⟩
      case measure=>have h1:=q3.lenAt;have h2:=az.out;omega
     ·have ax:¬ (((m+i:Nat):Int)<=12):=oM;have cG:=zhE.blk.cell;go_wp2_with fail
      go_meet;exact⟨_,_,_,_,_,_,zhE.more oM,za ⟨by have:=s.out;have:=aV.out;omega,oH ah.out,fun l' hl'=>by have:=ai.out l' hl';omega⟩⟩
   ·have hn1:m=0:=oM;clear hn0;have cG:=zhE.blk.cell;have hst:=zhE;clear zhE;go_wp2_with fail
    go_loopw [] (fun wr=>zbk w1 wr R G (M+1+1) b.al (.slice B m d) a b.next (.slice B' m' d') b.acc) (fun wr=>0)
    case atStart=>exact hst
    case round =>
     clear hst cG;have cG:=hrel.blk.cell;go_wp2_with fail
     go_meet;exact⟨_,_,_,_,_,_,hrel.more oM,za (Hb.out.more oM)⟩
  ·have bm:((y:Int)==0)=false:=by simp;omega
   have h1':((y:Int)==1)=false:=by simp;omega
   have bq:((y:Int)==2)=false:=by simp;omega
   have br:((y:Int)==3)=false:=by simp;omega
   have bs:((y:Int)==4)=false:=by simp;omega
   have bt:((y:Int)==5)=false:=by simp;omega
   go_wp2_with fail
   go_meet;exact⟨_,_,_,_,_,_,zhE.more oM,za (Hb.out.more oM)⟩
 case rest =>
  clear zhE;obtain⟨al,v,a,C,vA,o,zhE,aT⟩:=hcut;obtain⟨A5,c5,rfl⟩:=zi zhE.nx;obtain⟨B5,d5,rfl⟩:=zi zhE.acc;obtain⟨f1,f2⟩:=zhE.fin (N:=M+10) (sh:=BdA (L+13)) U bz rfl hRl oM a3 oM aT.out;have bz5:=bz.dr zhE.dr oM;have cG:=zhE.blk.cell;have cZ:=bz5.cell;have fZ:=bz5.frozen;go_wp2_with fail
  have cf:=f2.cell;exact bodyPost_ret (v:=.agg #[al,.slice A5 C.length c5,.slice B5 o.length d5]) (by simp [results,Tryz.results77,go_sem,cf]) rfl f1.out
theorem yF13a2 {P:Prop}(h:P:=by
 go_wp2_with (at_builtin;refine zQ w wr rfl _ _ _ rfl 9 _ 1 16 Tryz.underlying88 zn rfl dM u5 _ _ _ _ rfl rfl zhF zhD rfl (zbR _) lM oM ?_;intro v' w1 hext1 zhM hg1 hat1)
 go_roundw
 case rel=>exact⟨k+1,k+1,l++[s.extract m k],oM,gM,oM,gM,by simp;omega,by simpa [zM] using zhM,hall.out,aM⟩
 case measure=>simp [intOf];omega
 ):P:=h
theorem spec_l19CutC (hs:s.size<=1000000) :
  Calls Tryz.prog 250 #[s,.int .u8 44] w (RetStrs s.size (s.size+1) w):=by
 go_enter Tryz.func250,Tryz.ntmps250
 go_wp2_with fail
 go_loopw [5,6,7] (fun v f i wr=>∃ (k m:Nat) (l:List ByteArray),k<=s.size+1∧i=.int .i64 k∧m<=k∧f=.int .i64 m∧l.length<=k∧wr.ownsRow w.heap.size 9 1 v l.length (zM l)∧Hid (∀ x∈l,x.size<=s.size)∧Ext w wr) (fun _ _ i _=>s.size+1 - (intOf i).toNat)
 case atStart=>exact⟨0,0,[],dG _,rfl,dD _,rfl,dD _,World.ownsRow_lit w #[] 0 (dD _) lM rfl,(fun x hx=>by cases hx),(cY _).alloc _⟩
 case round =>
  obtain⟨k,m,l,o,rfl,q,rfl,p,zhD,a,zhF⟩:=hrel
  by_cases hle:k<=s.size
  ·have h:(k:Int)<=(s.size:Int):=oM;have j:(m:Int)<=(k:Int):=oM;have d:=za (show (s.extract m k).size<=s.size by rw [ByteArray.size_extract];omega);have hall:=za (show ∀ x∈l++[s.extract m k],x.size<=s.size from fun x hx=>by
    rcases List.mem_append.1 hx with h1|h1
    ·exact a.out x h1
    ·rw [List.mem_singleton.1 h1];exact d.out)
   by_cases he:k=s.size
   ·have b:((k:Int)==(s.size:Int))=true:=by simp [he]
    have n:=za he;clear he;exact yF13a2
   ·have b:((k:Int)==(s.size:Int))=false:=by rw [beq_eq_false_iff_ne];omega
    have g:k<s.size:=oM;have hb:=zcd s k g;cases hc:((s[k].toNat:Int)==44)
    ·go_wp2_with fail
     go_roundw
     case rel=>exact⟨k+1,m,l,oM,gM,oM,rfl,oM,zhD,a,zhF⟩
     case measure=>simp [intOf];omega
    ·exact yF13a2
  ·obtain rfl:k=s.size+1:=oM;obtain⟨A,c,rfl⟩:=zi zhD;go_wp2_with fail
   go_ret;exact⟨A,_,c,l,rfl,rfl,zhD,a.out,oM,zhF⟩
def RetIntsS (N:Nat) (w:World) (e:Ending) (w':World):Prop:=∃ (A:Option Addr) (n c:Nat) (l:List Int) (ok:Bool),e=.returned (.tuple #[.slice A n c,.bool ok])∧n=l.length∧w'.ownsRow w.heap.size 3 1 (.slice A n c) n (ints l)∧n<=N∧Ext w w'
theorem spec_l3Parse (hs:s.size<=1000) :
  Calls Tryz.prog 252 #[s] w (RetIntsS (s.size+1) w):=by
 have g:=World.ownsRow_lit (base:=w.heap.size) (e:=3) (size:=1) w #[] 0 (dD _) lM rfl
 go_enter Tryz.func252,Tryz.ntmps252
 go_upto_region 2 with fail
 obtain⟨K,hK⟩:∃ K,Hid (K=w.heap.size):=⟨_,za rfl⟩;rw [← hK.out] at g ⊢;generalize U0:w.alloc _=w1 at *;have r:=gC U0;clear U0;cases he:s.toList.isEmpty
 ·go_wp2_with fail
  refine (spec_l19CutC (s:=s) oM).mono ?_;rintro e T ⟨B,m,d,l,rfl,o,t,n,J,c⟩;have q:=r.trans c;have h:=zg g c;have z:=za n;have M:=za o;have G:m<=s.size+1:=J;clear n o g he J;go_wp2_with fail
  go_loopw [4,6] (fun v iv wr=>∃ (k:Nat) (f:List Int),k<=m∧iv=.int .i64 (k:Nat)∧wr.ownsRow K 3 1 v k (ints f)∧Hid (f.length=k)∧wr.ownsRow w1.heap.size 9 1 (.slice B m d) m (zM l)∧Ext w wr) (fun _ iv _=>m - (intOf iv).toNat)
  case atStart=>exact⟨0,[],dG _,rfl,h,za rfl,t,q⟩
  case round =>
   clear h t q c;obtain⟨k,f,S,rfl,p,i,a,u⟩:=hrel;obtain⟨y,C,rfl⟩:=zi p
   by_cases hlt:k<m
   ·obtain⟨R,rfl,-,-⟩:=zak a oM;obtain⟨Q,L,D,-,-,I,F⟩:=(dY a).str hlt;obtain rfl:=Option.some.inj D;rw [zP,dP] at F;have E:=za (z.out L (dB I.out));go_wp2_with fail
    refine (zdf (s:=L) (oH E.out)).mono ?_;rintro e U ⟨x,O,rfl,rfl⟩;cases O
    ·go_wp2_with fail
     exact bodyPost_ret (v:=.tuple #[(),.bool false]) (by simp [results,Tryz.results252,go_sem]) rfl ⟨none,0,0,[],false,rfl,rfl,World.ownsRow_nil _ _ _ _,oM,u⟩
    ·have H:=u.size;go_wp2_with (at_builtin;refine zao w wr rfl _ _ _ rfl 3 _ 1 8 Tryz.underlying110 zZ rfl dM (.slice y k C) k (ints f) _ _ rfl rfl H (by rw [← hK.out];exact p) rfl (by simp [Value.oneCell']) lM oM ?_;intro g5 cap5 w5 zhP hg5 hat5 hlt5)
     go_roundw
     case rel=>exact⟨k+1,f++[x],oM,gM,by rw [hK.out];simpa [ints] using zhP,za (by have:=i.out;simp;omega),zf a (fH hg5) (fun b hb hS=>zaW a p dM hb hS),u.grown hg5 (fun j hj=>by have:=(p.lt j hj).1;have:=hK.out;omega)⟩
     case measure=>simp [intOf];omega
   ·obtain rfl:k=m:=oM;go_wp2_with fail
    exact bodyPost_ret (v:=.tuple #[.slice y k C,.bool true]) (by simp [results,Tryz.results252,go_sem]) rfl ⟨y,k,C,f,true,rfl,i.out.symm,by rw [← hK.out];exact p,G,u⟩
 ·go_wp2_with fail
  exact bodyPost_ret (v:=.tuple #[.slice (some K) 0 0,.bool true]) (by simp [results,Tryz.results252,go_sem]) rfl ⟨some ⟨w.heap.size,0,none⟩,0,0,[],true,by rw [hK.out],rfl,by rw [hK.out] at g;exact g,oM,r⟩
theorem autValid_few {a:Aut}(h:zh a=true):∃ al:Nat,a.al=al∧al<64∧1<=a.next.length∧a.next.length<=12∧a.acc.length=a.next.length∧∀ l∈a.next,l.length=(letters al 6).length∧∀ q∈l,0<=q∧q<a.next.length:=by
 simp only [zh,Bool.and_eq_true,decide_eq_true_eq,List.all_eq_true,rowB] at h;obtain⟨h1,b,h3,c⟩:=h;refine⟨a.al.toNat,oM,oM,b.1,b.2,h3,fun l hl=>⟨(c l hl).1,fun q hq=>(c l hl).2 q hq⟩⟩
def RetFmtA (a:Aut) (w:World) (e:Ending) (w':World):Prop:=∃ t:ByteArray,e=.returned (.string t)∧(zh a=false->t.size=0)∧Ext w w'
theorem zdN {lo hi:Nat}     {a:Aut} (h:zE w lo hi A n A' n' a) :
  Calls Tryz.prog 253 #[.agg #[a.al,.slice A n c,.slice A' n' c']] w (RetFmtA a w):=by
 have Z:=za (fun W (hW:Ext w W)=>zA lo hi A n c A' n' c' a W ⟨h.1.ext hW,h.2.1,h.2.2.ext hW⟩);cases h1:zh a
 ·have J:=za h1;clear h1 h
  go_enter Tryz.func253,Tryz.ntmps253
  go_wp2_with (go_at_call 79;refine (Z.out _ ((cY _).alloc _)).mono ?_;rw [J.out];rintro e w1 ⟨rfl,H⟩)
  go_ret;exact⟨_,rfl,fun _=>rfl,((cY _).alloc _).trans H⟩
 ·obtain⟨al,ha,L,hn1,R,M,b⟩:=autValid_few h1;have J:=za h1;have Hn:=za h.n1;have aj:=za h.n2;have Ha:=za ha;have f:=za b;have HS:=za (fun W (hW:Ext w W)=>h.1.ext hW);have HB:=za (fun W (hW:Ext w W)=>h.2.2.ext hW);have e1:n=n':=by have:=h.n1;have:=h.n2;omega
  subst e1;have au:n<=12:=oH h.n1;clear h1 ha hn1 R M b h
  go_enter Tryz.func253,Tryz.ntmps253
  go_wp2_with fail
  refine (Z.out _ ((cY _).alloc _)).mono ?_;rw [J.out];rintro e w1 ⟨rfl,H⟩;have b1:=zbA H;rw [Ha.out] at b1;have o:=((cY w).alloc _).trans H;have cb:=b1.cells;have V:=cY w1;clear H;go_wp2_with fail
  refine (zbp L).mono ?_;rintro e w2 ⟨s,rfl,F,I⟩;go_wp2_with fail
  go_loopw [3,4] (fun v i wr=>∃ (k:Nat) (t:ByteArray),k<=n∧i=.int .i64 k∧v=.string t∧t.size<=20+100*k∧Ext w1 wr) (fun _ i _=>n - (intOf i).toNat)
  case atStart=>exact⟨0,s,dG _,rfl,rfl,oM,I⟩
  case round =>
   clear I F V;obtain⟨k,t,hk,rfl,rfl,ht,zhF⟩:=hrel;have C:=cb wr zhF
   by_cases hlt:k<n
   ·obtain⟨ad,Ak,ck,l,rfl,_,_,hl,g,E⟩:=(HS.out wr (o.trans zhF)).row hlt;obtain⟨ak,x,rfl,_,_,-,O⟩:=(HB.out wr (o.trans zhF)).bool hlt;have hq:=za (f.out l (dB hl.out));have aq:l.length<=6:=by have:=hq.out.1;have:=zB al 6;omega
    have B:=za (fun W (hW:Ext wr W)=>E.ext hW);have z:=za (fun W (hW:Ext wr W)=>hW.aa g);have y:=za (fun W (hW:Ext wr W)=>cb W (zhF.trans hW));have r:=cY wr;clear E;go_upto_if 24 with fail
    go_cut [5] (fun s5 wx=>∃ m:ByteArray,s5=.string m∧m.size=2∧Ext wr wx)
    case first =>
     cases x
     ·go_wp2_with fail
      go_meet;exact⟨{ data:=#[32,45] },rfl,rfl,r⟩
     ·go_wp2_with fail
      go_meet;exact⟨{ data:=#[32,43] },rfl,rfl,r⟩
    case rest =>
     clear g O C r;obtain⟨m,rfl,Q,p⟩:=hcut;obtain⟨Y,G⟩:∃ Y,Y=wr:=⟨_,rfl⟩;rw [← G] at B z y p zhF;clear G;have q0:¬ 9223372036854775807<t.size+m.size:=oM;have av:(t++m).size=t.size+2:=by rw [ByteArray.size_append,Q]
     go_upto_region 11 with fail
     generalize t++m=t1 at *;clear q0;go_wp2_with fail
     go_loopw [3,6] (fun v jv wr=>∃ (j:Nat) (t:ByteArray),j<=l.length∧jv=.int .i64 j∧v=.string t∧t.size<=22+100*k+10*j∧Ext Y wr) (fun _ jv _=>l.length - (intOf jv).toNat)
     case atStart=>exact⟨0,t1,dG _,rfl,rfl,oM,p⟩
     case round =>
      clear p;obtain⟨j,s,hj,rfl,rfl,F,d⟩:=hrel;have C:=y.out wr d;have g:=z.out wr d
      by_cases hjl:j<l.length
      ·obtain⟨am,q,rfl,-,-,U,ao⟩:=(B.out wr d).int hjl;obtain⟨S,T⟩:=hq.out.2 q (dB U.out);obtain⟨u,rfl⟩:∃ u:Nat,q=u:=⟨q.toNat,oM⟩;have hu:u<100:=oH Hn.out;clear S T;go_upto_if 39 with fail
       go_cut [3] (fun s3 wx=>∃ m:ByteArray,s3=.string m∧m.size<=s.size+1∧wx=wr)
       case first =>
        by_cases hj0:0<j
        ·have D:((j:Int)>0):=oM;have q1:¬ 9223372036854775807<s.size+1:=oM;go_wp2_with fail
         go_meet;exact⟨_,rfl,by rw [ByteArray.size_append];exact dD _,rfl⟩
        ·have D:¬ ((j:Int)>0):=oM;go_wp2_with fail
         go_meet;exact⟨s,rfl,oM,rfl⟩
       case rest =>
        obtain⟨m3,rfl,ar,rfl⟩:=hcut;go_wp2_with fail
        refine (zde (n:=u) hu).mono ?_;rintro e w4 ⟨t4,rfl,aw,X⟩;have q2:¬ 9223372036854775807<m3.size+t4.size:=oM;go_wp2_with fail
        go_roundw
        case rel=>exact⟨j+1,_,oM,gM,rfl,by rw [ByteArray.size_append];omega,d.trans X⟩
        case measure=>simp [intOf];omega
      ·obtain rfl:j=l.length:=oM;go_wp2_with fail
       go_roundw
       case rel=>exact⟨k+1,s,oM,gM,rfl,oM,zhF.trans d⟩
       case measure=>simp [intOf];omega
   ·obtain rfl:n=k:=oM;go_wp2_with fail
    go_ret;have hv:=J.out;exact⟨t,rfl,fun h=>absurd (hv.symm.trans h) dM,o.trans zhF⟩
def RetStrs1 (L N:Nat) (w:World) (e:Ending) (w':World):Prop:=∃ (A:Option Addr) (n c:Nat) (l:List ByteArray),e=.returned (.slice A n c)∧n=l.length∧0<n∧w'.ownsRow w.heap.size 9 1 (.slice A n c) n (zM l)∧(∀ x∈l,x.size<=L)∧n<=N∧Ext w w'
theorem spec_l19Cut1 (hs:s.size<=1000000) :
  Calls Tryz.prog 250 #[s,.int .u8 32] w (RetStrs1 s.size (s.size+1) w):=by
 go_enter Tryz.func250,Tryz.ntmps250
 go_wp2_with fail
 go_loopw [5,6,7] (fun v f i wr=>∃ (k m:Nat) (l:List ByteArray),k<=s.size+1∧i=.int .i64 k∧m<=k∧f=.int .i64 m∧l.length<=k∧wr.ownsRow w.heap.size 9 1 v l.length (zM l)∧Hid (∀ x∈l,x.size<=s.size)∧Ext w wr∧Hid (s.size<k->0<l.length)) (fun _ _ i _=>s.size+1 - (intOf i).toNat)
 case atStart=>exact⟨0,0,[],dG _,rfl,dD _,rfl,dD _,World.ownsRow_lit w #[] 0 (dD _) lM rfl,(fun x hx=>by cases hx),(cY _).alloc _,za (fun hh=>absurd hh oM)⟩
 case round =>
  obtain⟨k,m,l,p,rfl,r,rfl,q,zhD,a,zhF,b⟩:=hrel
  by_cases hle:k<=s.size
  ·have j:(k:Int)<=(s.size:Int):=oM;have n:(m:Int)<=(k:Int):=oM;have g:=za (show (s.extract m k).size<=s.size by rw [ByteArray.size_extract];omega);have hall:=za (show ∀ x∈l++[s.extract m k],x.size<=s.size from fun x hx=>by
    rcases List.mem_append.1 hx with h1|h1
    ·exact a.out x h1
    ·rw [List.mem_singleton.1 h1];exact g.out)
   by_cases he:k=s.size
   ·have d:((k:Int)==(s.size:Int))=true:=by simp [he]
    have o:=za he;clear he;go_wp2_with (at_builtin;refine zQ w wr rfl _ _ _ rfl 9 _ 1 16 Tryz.underlying88 zn rfl dM u5 _ _ _ _ rfl rfl zhF zhD rfl (zbR _) lM oM ?_;intro v' w1 hext1 zhM hg1 hat1)
    go_roundw
    case rel=>exact⟨k+1,k+1,l++[s.extract m k],oM,gM,oM,gM,by simp;omega,by simpa [zM] using zhM,hall.out,aM,za (fun _=>sM)⟩
    case measure=>simp [intOf];omega
   ·have d:((k:Int)==(s.size:Int))=false:=by rw [beq_eq_false_iff_ne];omega
    have h:k<s.size:=oM;have hb:=zcd s k h;cases hc:((s[k].toNat:Int)==32)
    ·go_wp2_with fail
     go_roundw
     case rel=>exact⟨k+1,m,l,oM,gM,oM,rfl,oM,zhD,a,zhF,za (fun hh=>absurd hh oM)⟩
     case measure=>simp [intOf];omega
    ·go_wp2_with (at_builtin;refine zQ w wr rfl _ _ _ rfl 9 _ 1 16 Tryz.underlying88 zn rfl dM u5 _ _ _ _ rfl rfl zhF zhD rfl (zbR _) lM oM ?_;intro v' w1 hext1 zhM hg1 hat1)
     go_roundw
     case rel=>exact⟨k+1,k+1,l++[s.extract m k],oM,gM,oM,gM,by simp;omega,by simpa [zM] using zhM,hall.out,aM,za (fun _=>sM)⟩
     case measure=>simp [intOf];omega
  ·obtain rfl:k=s.size+1:=oM;obtain⟨A,c,rfl⟩:=zi zhD;go_wp2_with fail
   go_ret;exact⟨A,_,c,l,rfl,rfl,b.out oM,zhD,a.out,oM,zhF⟩
def RetParA (R M L:Nat) (w:World) (e:Ending) (w':World):Prop:=
 ∃ (b:Aut) (A:Option Addr) (n c:Nat) (A':Option Addr) (n' c':Nat) (ok:Bool),e=.returned (.tuple #[.agg #[b.al,.slice A n c,.slice A' n' c'],.bool ok])∧zK w' w.heap.size A n c A' n' c' b∧Hid (BdA L b)∧Rd w' R M∧Dr R w w'
theorem zhj (hR:R<w.heap.size)(h:Rd W R M)(hd:Dr R w W)(hZ:w.heap.size<=Z) :
  Hid (RetParA R M L w (.returned (.tuple #[.agg #[(0:Int),(),()],.bool false])) (((W.setCell Z (0:Int)).setCell ⟨Z,1,none⟩ ()).setCell ⟨Z,2,none⟩ ())):=
 za ⟨⟨0,[],[]⟩,none,0,0,none,0,0,false,rfl,⟨⟨[],World.ownsRow_nil _ _ _ _,zH.nil _ _⟩,rfl,World.ownsRow_nil _ _ _ _,rfl⟩,za ⟨dG _,dG _,fun l hl=>by simp at hl⟩,h.frm (zab W Z _ _ _) (fun k hk e=>oM),((hd.ag (p:=⟨Z,0,none⟩) hZ _).ag (p:=⟨Z,1,none⟩) hZ _).ag (p:=⟨Z,2,none⟩) hZ _⟩
theorem yF13a4 {P:Prop}(h:P:=by
 go_wp2_with fail
 have hfb:=zaj bz4 rfl (.int .i64 0) (.slice none 0 0) (.slice none 0 0);have cf:=hfb.cell;exact bodyPost_ret (v:=.tuple #[.agg #[(0:Int),(),()],.bool false]) (by simp [results,Tryz.results166,go_sem,cf]) rfl hno4.out
 ):P:=h
theorem yF13a6 {P:Prop}(h:P:=by
 have cf:=hfb.cell;exact bodyPost_ret (v:=.tuple #[.agg #[(0:Int),(),()],.bool false]) (by simp [results,Tryz.results166,go_sem,cf]) rfl hno.out
 ):P:=h
theorem zci {x:ByteArray} (h:Rd w R M)(hx:x.size<=1000) :
  Calls Tryz.prog 166 #[x] w (RetParA R M (x.size+1) w):=by
 have hRl:=h.lt
 go_enter Tryz.func166,Tryz.ntmps166
 go_wp2_with fail
 generalize U0:w.alloc _=w0 at *;have n:=gC U0;have bz:=dV U0;have aT:=bz.lt;clear U0;refine (spec_l19Cut1 (s:=x) oM).mono ?_;rintro e w1 ⟨B,m,d,l,rfl,ap,ab,zhM,u,hm,aS⟩;have aD:=za u;have be:=za ap;have bB:m<=1001:=oM;clear u ap;obtain⟨gB,rfl,bw,-⟩:=zak zhM ab;obtain⟨ad,x0,V,-,-,a8,ak⟩:=(dY zhM).str (k:=0) ab;obtain rfl:=Option.some.inj V;rw [zP,Nat.add_zero] at ak;have a7:(0:Int)<(m:Int):=oM;go_wp2_with fail
 refine (zcw (x:=x0)).mono ?_;rintro e w2 ⟨al,aV,rfl,ha,av⟩;have t:=aS.trans av;have U:=bz.ext t;have aE:=U.cell;have aF:=U.frozen;have hno:=zhj (L:=x.size+1) (M:=M) (Z:=w.heap.size) hRl (h.ext (n.trans t)) (n.trans t).dr (dD _);cases aV
 ·go_wp2_with fail
  have hfb:=zaj U rfl (.int .i64 0) (.slice none 0 0) (.slice none 0 0);exact yF13a6
 ·have bG:=dU w2 27 #[al,(),()];have ae:=(cY w2).alloc (.cells #[al,(),()] 27);have aP:=t.size;have aA:=zg zhM av;have bt:=za (show ∀ W,Ext w2 W->Ext w W from fun W hW=>(n.trans t).trans hW);go_upto_region 6 with fail
  have aB:=zg aA ae;have zhE:zbk w0 (w2.alloc (.cells #[al,(),()] 27)) R w2.heap.size M al (.slice none 0 0) [] [] (.slice none 0 0) []:=⟨bG,World.ownsRow_nil _ _ _ _,zH.nil _ _,World.ownsRow_nil _ _ _ _,(h.ext (n.trans t)).ext ae,(t.trans ae).dr,oM,aP⟩;generalize w2.alloc _=w3 at *;generalize w2.heap.size=G at *;clear hno aE aF ak aA;go_wp2_with fail
  go_loopw [8] (fun iv wr=>∃ (i:Nat) (v:Value) (p:List Value) (j:List (List Int)) (vA:Value) (f:List Bool),1<=i∧i<=m∧iv=.int .i64 (i:Nat)∧zbk w0 wr R G M al v p j vA f∧Hid (j.length<=i - 1)∧Hid (f.length=j.length)∧Hid (∀ l∈j,l.length<=x.size+1)∧wr.ownsRow w0.heap.size 9 1 (.slice (some gB) m d) m (zM l)) (fun iv _=>m - (intOf iv).toNat)
  case atStart=>exact⟨1,_,_,[],_,[],dD _,ab,rfl,zhE,za (dG _),za rfl,za (fun l hl=>by simp at hl),aB⟩
  case round =>
   clear zhE aB;obtain⟨i,v,p,j,vA,f,bx,hi,rfl,zhE,E,Y,u,F⟩:=hrel;have hno:=zhj (L:=x.size+1) (M:=M) (Z:=w.heap.size) hRl zhE.rd (n.dr.trans zhE.dr) (dD _);have C:=bz.dr zhE.dr oM
   by_cases hlt:i<m
   ·obtain⟨ad,z,V,-,-,aw,am⟩:=(dY F).str hlt;obtain rfl:=Option.some.inj V;rw [zP,dP] at am;have bs:=aD.out z (dB aw.out);cases he:z.toList.isEmpty
    ·have bp:1<=z.size:=by
      rcases Nat.eq_zero_or_pos z.size with h0|h0
      ·rw [ByteArray.toList_eq] at he;have e2:z.data.toList.length=z.size:=rfl;rw [List.eq_nil_of_length_eq_zero (e2.trans h0)] at he;cases he
      ·exact h0
     have a5:(1:Int)<=(z.size:Int):=oM;have bu:(z.extract 1 z.size).size<=x.size:=by rw [ByteArray.size_extract];omega
     go_wp2_with fail
     refine (spec_l3Parse (s:=z.extract 1 z.size) oM).mono ?_;rintro e w4 ⟨Ar,nr,cr,lr,ok,rfl,aL,ar,bC,g⟩;cases ok
     ·have hno4:=zhj (L:=x.size+1) (M:=M) (Z:=w.heap.size) hRl (zhE.rd.ext g) ((n.dr.trans zhE.dr).ext g) (dD _);have bz4:=C.ext g;have cz:=bz4.cell;have fz:=bz4.frozen;exact yF13a4
     ·subst aL;have an:=za zhE.low;have aO:=za zhE.dr.size;have c:=zhE.ext g;have q:=zg F g;have cG:=c.blk.cell;have aQ:=c.dr.size;have bA:j.length<=1001:=oH E.out;have ai:=za aw.out;have aq:=hno;clear zhE F am hno aq;go_upto_region 15 with (at_builtin;refine zao w0 w4 rfl _ _ _ rfl 110 _ 1 24 Tryz.underlying24 zcf rfl dM v j.length p _ _ rfl rfl aQ c.nx rfl (zaS _ _ _) lM oM ?_;intro g5 cap5 w6 hown6 hg6 hat6 hlt6;obtain⟨q1,q2,q3⟩:=c.av an.out aO.out ar hown6 hg6 hat6;have aW:=q1.out;have r:=(zf q (fH hg6) (fun b hb hS=>zaW q c.nx dM hb hS)))
      have H:=zf r (dE w6 G 1 (.slice (some g5) (j.length+1) cap5)) (fun b hb hS=>by
       have aI:Blk w6 G 27 #[.int .i64 al,v,vA]:=(hg6.block G c.blk.lt (fun e=>zp c.nx c.blk dM e.symm rfl)).trans c.blk;exact zp r aI dM hb hS)
      have S:=za (show (j++[lr]).length<=i by have:=E.out;simp;omega);have Q:=za (show f.length+1=(j++[lr]).length by have:=Y.out;simp;omega);have ao:=za (show ∀ l'∈j++[lr],l'.length<=x.size+1 from fun l' hl'=>by
       rcases List.mem_append.1 hl' with h1|h1
       ·exact u.out l' h1
       ·rw [List.mem_singleton.1 h1];omega)
      clear q1 aW q2 hown6 hg6 hat6 hlt6 r q c cG E Y u ar;generalize j++[lr]=aU at *;generalize p++[.slice Ar lr.length cr]=aY at *;generalize w6.setCell ⟨G,1,none⟩ (.slice (some g5) (j.length+1) cap5)=w7 at *;generalize Value.slice (some g5) (j.length+1) cap5=v7 at *;obtain⟨bg,y,aj,-,-,T,D⟩:=(dY H).str hlt;obtain rfl:=Option.some.inj aj;rw [zP,dP] at D;obtain rfl:y=z:=Option.some.inj (T.out.symm.trans ai.out);have cG:=fun W (hW:Ext w7 W)=>(q3.blk.ext hW).cell;have cS:∀ W,Ext w7 W->W.cell? ⟨gB,i,none⟩=some (.string y):=fun W hW=>hW.aa D;have aH:0<y.size:=oM;have a4:(0:Int)<(y.size:Int):=oM;have bq:=zcd y 0 aH;obtain⟨bb,br⟩:∃ bb,((y[0].toNat:Int)==43)=bb:=⟨_,rfl⟩;have aR:=cY w7;clear D T ai;refine uR (fun X=>Ext w7 X) [9,11] (zv.of [0,1,2,3,4,5,6,7,8,9,10,11]) ?_;refine uQ ?_;have af:=aR.drew;refine zd fun K hK=>?_;go_simp;refine hK.out _ _ (af.alloc _) ?_;refine pT ?_;refine zb fun K hK=>?_;have bD:=q3.dr.size;have o:=q3.ext af;have a6:f.length<=1001:=by have:=Q.out;have:=S.out;omega
      have I:=zg H af;refine zaI w0 w7.drew _ _ _ rfl 4 _ 1 1 Tryz.underlying25 zbe rfl dM vA f.length (zaB f) _ _ rfl rfl o.dr.size o.acc rfl (by simp [Value.oneCell']) lM oM ?_;intro g8 cap8 w8 hown8 hg8 hat8 hlt8;refine hK.out _ _ ?_;refine pT ?_;refine uQ ?_;obtain⟨p1,p2,p3⟩:=o.ao (x:=bb) (W':=w8) hown8 hg8 hat8;have bJ:=p1.out;have J:=zf I (fH hg8) (fun b hb hS=>zaW I o.acc dM hb hS);have O:=zf J (dE w8 G 2 (.slice (some g8) (f.length+1) cap8)) (fun b hb hS=>by
       have aJ:Blk w8 G 27 #[.int .i64 al,v7,vA]:=(hg8.block G o.blk.lt (fun e=>zp o.acc o.blk dM e.symm rfl)).trans o.blk;exact zp J aJ dM hb hS)
      refine zb fun K hK=>?_;go_simp;refine hK.out _ _ ?_;refine ze ?_;go_wp2_with fail
      go_roundw
      case rel=>exact⟨i+1,_,_,aU,_,f++[bb],oM,oM,gM,p3,za (oH S.out),za (by have:=Q.out;simp;omega),ao,O⟩
      case measure=>simp [intOf];omega
    ·have cz:=C.cell;have fz:=C.frozen;go_wp2_with fail
     have hfb:=zaj C rfl (.int .i64 0) (.slice none 0 0) (.slice none 0 0);exact yF13a6
   ·obtain⟨A5,c5,rfl⟩:=zi zhE.nx;obtain⟨B5,d5,rfl⟩:=zi zhE.acc;have aK:zE wr w0.heap.size wr.heap.size A5 j.length B5 f.length (⟨al,j,f⟩:Aut):=⟨zen.reads ⟨p,zhE.nx,zhE.rows⟩ rfl,rfl,dY zhE.acc⟩;have cG:=zhE.blk.cell;clear hno;go_wp2_with fail
    refine (zdN (a:=⟨al,j,f⟩) aK).mono ?_;rintro e w4 ⟨tx,rfl,-,g⟩;have c:=zhE.ext g;have hno4:=zhj (L:=x.size+1) (M:=M) (Z:=w.heap.size) hRl (zhE.rd.ext g) ((n.dr.trans zhE.dr).ext g) (dD _);have bz4:=C.ext g;have cz:=bz4.cell;have fz:=bz4.frozen;have bl:=c.blk.cell;clear cG;cases hne:tx.toList==x.toList
    ·exact yF13a4
    ·obtain⟨f1,f2⟩:=c.fin (N:=M) (sh:=BdA (x.size+1)) n bz rfl hRl (dD _) aT (dD _) ⟨by have:=E.out;show j.length<=_;omega,by have:=E.out;have:=Y.out;show f.length<=_;omega,u.out⟩;go_wp2_with fail
     have cf:=f2.cell;obtain⟨b,A6,n6,c6,A7,n7,c7,he,aN,au,hr6,hd6⟩:=f1.out;exact bodyPost_ret (v:=.tuple #[.agg #[al,.slice A5 j.length c5,.slice B5 f.length d5],.bool true]) (by simp [results,Tryz.results166,go_sem,cf]) rfl ⟨b,A6,n6,c6,A7,n7,c7,true,by injection he with he;rw [he],aN,au,hr6,hd6⟩
theorem zeI (h:Rd w R M)(hM:M<=900000000)(ho:zK w (R+1) A n c A' n' c' b)(hb:BdA L b)(hL:L<=100) :
  Calls Tryz.prog 75 #[.pointer (some R),.agg #[b.al,.slice A n c,.slice A' n' c']] w (zfl R (M+10) (BdA (L+1)) w):=by
 have hRl:=h.lt;have au:=hb.size oM
 go_enter Tryz.func75,Tryz.ntmps75
 have o:=(cY w).alloc (.cells #[b.al,.slice A n c,.slice A' n' c'] 27);have b0:=dU w 27 #[b.al,.slice A n c,.slice A' n' c'];have aW:(w.alloc (.cells #[b.al,.slice A n c,.slice A' n' c'] 27)).heap.size=w.heap.size+1:=sM;have t:=o.alloc (.cells #[(0:Int),(),()] 27);have bz:=dU (w.alloc (.cells #[b.al,.slice A n c,.slice A' n' c'] 27)) 27 #[(0:Int),(),()];replace b0:=b0.ext ((cY _).alloc (.cells #[(0:Int),(),()] 27));rw [aW] at bz;have c0:=b0.cell;go_upto_region 1 with fail
 generalize (w.alloc _).alloc _=w1 at *;have ax:=bz.lt;go_wp2_with fail
 refine (zdi (ho.ext t).reads au).mono ?_;rintro e w2 ⟨B,m,d,B',m',d',rfl,zhD,aa⟩;obtain⟨f,zhE⟩:=zbk.of (R:=R) (M:=M) zhD (h.ext (t.trans aa)) aa.dr oM;have hG:=aa.size;have hm:m=b.next.length:=zhD.2.1;have aT:m'=b.acc.length:=zhD.2.2.2;have bx:m<=100:=oH hb.1;have H:=za hm;have Hb:=za hb;subst aT;clear zhD ho hm hb au;go_upto_region 2 with fail
 generalize w2.alloc _=w3 at *;generalize w2.heap.size=G at *;have cG:=zhE.blk.cell
 by_cases hm0:m=0
 ·subst hm0;have ae:=zhE;rw [show (Value.slice B' b.acc.length d')=Value.slice B' b.acc.length d' from rfl] at ae;obtain⟨f1,f2⟩:=ae.fin (N:=M+10) (sh:=BdA (L+1)) t bz rfl hRl oM ax oM (Hb.out.more oM);have bz5:=bz.dr zhE.dr oM;have cZ:=bz5.cell;have fZ:=bz5.frozen;clear ae;go_wp2_with fail
  have cf:=f2.cell;exact bodyPost_ret (v:=.agg #[b.al,.slice B 0 d,.slice B' b.acc.length d']) (by simp [results,Tryz.results75,go_sem,cf]) rfl f1.out
 have aU:((m:Int)==0)=false:=by simp;omega
 go_wp2_with fail
 refine (zw zhE.rd oM).mono ?_;rintro e w4 ⟨k,rfl,ak,-,hr4,hd4⟩;replace zhE:=zhE.drawn hd4 hr4;have bs:k<m:=by have:=ak oM;omega
 clear hd4 hr4 cG ak aU;go_wp2_with fail
 refine (zw zhE.rd oM).mono ?_;rintro e a ⟨y,rfl,-,-,ar,aj⟩;replace zhE:=zhE.drawn aj ar;clear aj ar;go_upto_block 0 with fail
 go_cut [] (fun wx=>∃ (v:Value) (f:List Value) (ls:List (List Int)) (vA:Value) (I:List Bool),zbk w1 wx R G (M+10) b.al v f ls vA I∧Hid (BdL (L+1) ls I))
 case first =>
  have an:k<b.next.length:=oH H.out;obtain⟨l,hl⟩:∃ l,b.next[k]?=some l:=⟨_,dC an⟩;obtain⟨gN,rfl,bq,-⟩:=zak (show a.ownsRow w1.heap.size 110 1 (.slice B m d) m f from by have:=zhE.nx;rw [← H.out] at this;exact this) oM;obtain⟨Ar,cr,hr,s,E⟩:=zhE.row hl H.out;have bw:l.length<=100:=by have:=Hb.out.2.2 l (dB hl);omega
  have HL:=za hl;have HR:=za hr;have V:=za (Hb.out.2.2 l (dB hl));have aX:=zhE.dr.size;clear hl hr an;have O:y=0∨y=1∨y=2∨3<=y:=oM;rcases O with hy|hy|hy|hy
  ·subst hy;have aw:True:=trivial;have cG:=fun W (hW:Ext a W)=>(zhE.blk.ext hW).cell
   by_cases hka:k<b.acc.length
   ·obtain⟨Y,rfl,aQ,-⟩:=zak zhE.acc oM;obtain⟨x,hx⟩:∃ x,b.acc[k]?=some x:=⟨_,dC hka⟩;have C:a.cell? ⟨Y,k,none⟩=some (.bool x):=by rw [zhE.acc.cellAt k oM];simp [zaB,hx]
    have cA:∀ W,Ext a W->W.cell? ⟨Y,k,none⟩=some (.bool x):=fun W hW=>hW.aa C;have fA:∀ W,Ext a W->W.frozen? ⟨Y,k,none⟩=false:=fun W hW=>(zg zhE.acc hW).frozenAt k;have hst:=(zhE.ext (cY a).drew).setAcc (i:=k) (x:=!x) rfl;have am:(k:Int)<(b.acc.length:Int):=oM;have F:=cY a;clear C hx;go_wp2_with fail
    refine tR (fun X=>Ext a X) [10] (Ord.of [0,1,2,3,4,5,6,7,8,9,10]) ?_;refine tQ ?_;refine zO fun K hK=>?_;go_simp;refine hK.out _ _ ?_;refine zai ?_;go_wp2_with fail
    go_meet;exact⟨_,_,_,_,_,hst.more oM,za ⟨oH Hb.out.1,by have:=Hb.out.2.1;rw [fB];omega,fun l' hl'=>by have:=Hb.out.2.2 l' hl';omega⟩⟩
   ·have am:¬ ((b.acc.length:Int)>(k:Int)):=oM;have F:=cY a;go_wp2_with fail
    go_meet;exact⟨_,_,_,_,_,zhE.more oM,za (Hb.out.more oM)⟩
  ·subst hy;have aw:True:=trivial
   by_cases hl0:0<l.length
   ·obtain⟨gr,rfl,-,-⟩:=zak E hl0;have bo:=zhE.hR;have cN:∀ W,Dr R a W->W.cell? ⟨gN,k,none⟩=some (.slice (some gr) l.length cr):=fun W hW=>hW.aa s (by simp;omega);have cG:∀ W,Dr R a W->∀ q,W.cell? ⟨G,q,none⟩=#[Value.int .i64 b.al,.slice (some gN) m d,.slice B' b.acc.length d'][q]?:=fun W hW=>(zhE.blk.dr hW (oH zhE.hG)).cell;have bp:=Dr.refl R a;clear s E;go_wp2_with fail
    refine tR (fun X=>Dr R a X) [17] (Ord.of [0,1,2,3,4,5,6,7,8,9,10,11,13,14,12,15,16,17]) ?_;refine tQ ?_;refine zC fun K hK=>?_;go_simp;refine (zw (n:=l.length) (zhE.rd.ext (cY _).drew) oM).mono ?_;rintro e w6 ⟨j,rfl,aR,-,hr6,hd6⟩;have br:=aR oM;have Q:Dr R a w6:=(Dr.refl R a).drew.trans hd6;refine hK.out _ _ Q ?_;refine pT ?_;refine tQ ?_;refine zC fun K hK=>?_;go_simp;refine (zw (n:=m) hr6 oM).mono ?_;rintro e w7 ⟨x,rfl,a8,-,aV,aP⟩;have S:Dr R a w7:=Q.trans aP;have z:=zhE.drawn S aV;refine hK.out _ _ S ?_;refine pT ?_;refine tQ ?_;have zhD:=z.rows.2.1 k _ l HR.out HL.out;obtain⟨o0,c0⟩:=zaQ zhD j oM;have f0:=zhD.frozenAt j;have hst:=z.setRow (k:=j) (x:=x) HR.out HL.out rfl;refine zO fun K hK=>?_;go_simp;refine hK.out _ _ ?_;refine zai ?_;go_wp2_with fail
    go_meet;refine⟨_,_,_,_,_,hst.more oM,za ⟨by have:=Hb.out.1;rw [fB];omega,oH Hb.out.2.1,fun l' hl'=>?_⟩⟩;rcases eW hl' with h1|h1
    ·have:=Hb.out.2.2 l' h1;omega
    ·rw [h1];simp;have:=V.out;omega
   ·have bt:l.length=0:=oM;have bu:¬ ((l.length:Int)>0):=oM;have cG:=zhE.blk.cell;go_wp2_with fail
    go_meet;exact⟨_,_,_,_,_,zhE.more oM,za (Hb.out.more oM)⟩
  ·subst hy;have aw:True:=trivial;have cG:=fun W (hW:Ext a W)=>(zhE.blk.ext hW).cell;have aL:∀ W,Ext a W->W.cell? ⟨gN,k,none⟩=some (.slice Ar l.length cr):=fun W hW=>hW.aa s;have F:=cY a
   by_cases h1:12<=m
   ·have h1':¬ ((m:Int)<12):=oM;go_wp2_with fail
    go_meet;exact⟨_,_,_,_,_,zhE.more oM,za (Hb.out.more oM)⟩
   have h1':(m:Int)<12:=oM
   by_cases h2:b.acc.length<=k
   ·have ai:¬ ((b.acc.length:Int)>(k:Int)):=oM;go_wp2_with fail
    go_meet;exact⟨_,_,_,_,_,zhE.more oM,za (Hb.out.more oM)⟩
   have ai:(b.acc.length:Int)>(k:Int):=oM
   by_cases h3:l.length<=0
   ·have bn:¬ ((l.length:Int)>0):=oM;have a4:l.length=0:=oM;go_wp2_with fail
    go_meet;exact⟨_,_,_,_,_,zhE.more oM,za (Hb.out.more oM)⟩
   have a5:=za zhE.lenAt;have T:=dY E;have aI:=za (fun W (hW:Ext a W)=>T.ext hW);have ap:=za zhE.low;have a6:=za E;clear s E T;go_upto_region 15 with fail
   refine uR (fun X=>Ext a X) [10,12] (zv.of [0,1,3,4,5,6,7,2,8,9,10,11,12]) ?_;refine uQ ?_;have o:Ext a a.drew:=F.drew;generalize a.drew=wd at *;refine zd fun K hK=>?_;go_simp;have hm:=World.ownsRow_made (base:=a.heap.size) (e:=3) (size:=1) wd #[] 0 o.size (dG _) rfl;have t:=(cY wd).alloc (.cells #[] 3);replace o:=o.trans t;refine hK.out _ _ o ?_;generalize wd.alloc _=wm at *;generalize wd.heap.size=MM at *;refine pT ?_;refine uQ ?_;refine zd (fun K hK=>?_);refine zu wm _ _ 110 rfl a.heap.size 3 _ 1 8 Tryz.underlying110 zZ rfl dM (.slice (some MM) 0 0) 0 [] rfl hm _ _ Ar l.length cr (ints l) rfl (aI.out _ o) (zhe _) lM oM o.size ?_;intro vR w6 hrow hgR hatR;rw [dP,eA] at hrow;obtain⟨BR,dR,rfl⟩:=zi hrow;have u:Ext a w6:=o.grown hgR (fun k hk=>(hm.lt k hk).1);refine hK.out _ _ u ?_;refine pT ?_;refine uQ ?_;refine zd fun K hK=>?_;go_simp;refine hK.out _ _ (u.alloc _) ?_;refine pT ?_;refine zb fun K hK=>?_;have p:=zhE.ext u;have D:=p.nx;rw [← H.out] at D;refine zaI w1 w6 _ _ _ rfl 110 _ 1 24 Tryz.underlying24 zcf rfl dM (.slice (some gN) m d) m f _ _ rfl rfl p.dr.size D rfl (zaS _ _ _) lM oM ?_;intro g7 cap7 w7 hown7 hg7 hat7 hlt7;refine hK.out _ _ ?_;refine pT ?_;refine uQ ?_;obtain⟨p1,p2,p3⟩:=p.av (l:=l) (W':=w7) (g:=g7) (cap:=cap7) ap.out aX hrow (by rw [← H.out];exact hown7) hg7 hat7;have aY:=p1.out;rw [← H.out] at p3;refine zb fun K hK=>?_;go_simp;refine hK.out _ _ ?_;refine ze ?_;generalize w7.setCell ⟨G,1,none⟩ (.slice (some g7) (m+1) cap7)=U at *;have bA:=p3.dr.size;clear p1 aY p2 cG aL hown7 hg7 hat7 p zhE D u o t;obtain⟨Y,rfl,aQ,-⟩:=zak p3.acc oM;obtain⟨x,hx⟩:∃ x,b.acc[k]?=some x:=⟨_,dC oM⟩;have C:U.cell? ⟨Y,k,none⟩=some (.bool x):=by rw [p3.acc.cellAt k oM];simp [zaB,hx]
   have cA:∀ W,Ext U W->W.cell? ⟨Y,k,none⟩=some (.bool x):=fun W hW=>hW.aa C;have aK:=fun W (hW:Ext U W)=>(p3.blk.ext hW).cell;have F:=cY U;clear C hx;go_upto_region 16 with fail
   refine uR (fun X=>Ext U X) [8,10] (zv.of [0,1,2,3,4,5,6,7,8,9,10]) ?_;refine uQ ?_;have ab:Ext U U.drew:=F.drew;generalize U.drew=a1 at *;refine zd fun K hK=>?_;go_simp;refine hK.out _ _ (ab.alloc _) ?_;refine pT ?_;refine zb fun K hK=>?_;have r:=p3.ext ab;refine zaI w1 a1 _ _ _ rfl 4 _ 1 1 Tryz.underlying25 zbe rfl dM (.slice (some Y) b.acc.length d') b.acc.length (zaB b.acc) _ _ rfl rfl r.dr.size r.acc rfl (by simp [Value.oneCell']) (by unfold maxLen;have:=Hb.out.2.1;omega) (oH Hb.out.2.1) ?_;intro g9 cap9 w9 hown9 hg9 hat9 hlt9;refine hK.out _ _ ?_;refine pT ?_;refine uQ ?_;obtain⟨q1,q2,q3⟩:=r.ao (x:=x) hown9 hg9 hat9;have aZ:=q1.out;refine zb fun K hK=>?_;go_simp;refine hK.out _ _ ?_;refine ze ?_;generalize w9.setCell ⟨G,2,none⟩ (.slice (some g9) (b.acc.length+1) cap9)=a0 at *;clear q1 aZ q2 aK cA r p3 hown9 hg9 hat9 ab;have aS:k<f.length:=by have:=q3.rows.1;simp at this;have:=H.out;omega
   have J:(f++[Value.slice BR l.length dR])[k]?=some (.slice Ar l.length cr):=by rw [dL aS];exact HR.out
   have Z:(b.next++[l])[k]?=some l:=by rw [dL (oH H.out)];exact HL.out
   have zhD:=q3.rows.2.1 k _ l J Z;obtain⟨gr,rfl,-,-⟩:=zak zhD oM;obtain⟨o0,c0⟩:=zaQ zhD 0 oM;have f0:=zhD.frozenAt 0;have hst:=q3.setRow (k:=0) (x:=m) J Z rfl;have cG:=q3.blk.cell;have cN:a0.cell? ⟨g7,k,none⟩=some (.slice (some gr) l.length cr):=by
    have:=q3.nx;rw [dO,eH,← H.out] at this;rw [this.cellAt k oM];exact J
   clear zhD J Z;go_wp2_with fail
   go_meet;refine⟨_,_,_,_,_,hst.more oM,za ⟨by have:=Hb.out.1;rw [fB];simp;omega,by have:=Hb.out.2.1;simp;omega,fun l' hl'=>?_⟩⟩;rcases eW hl' with h1|h1
   ·rcases List.mem_append.1 h1 with h1|h1
    ·have:=Hb.out.2.2 l' h1;omega
    ·rw [List.mem_singleton.1 h1];have:=V.out;omega
   ·rw [h1];simp;have:=V.out;omega
  ·have bm:((y:Int)==0)=false:=by simp;omega
   have h1':((y:Int)==1)=false:=by simp;omega
   have ai:((y:Int)==2)=false:=by simp;omega
   go_wp2_with fail
   go_meet;exact⟨_,_,_,_,_,zhE.more oM,za (Hb.out.more oM)⟩
 case rest =>
  clear zhE;obtain⟨v,f,ls,vA,I,zhE,aO⟩:=hcut;obtain⟨A5,c5,rfl⟩:=zi zhE.nx;obtain⟨B5,d5,rfl⟩:=zi zhE.acc;obtain⟨f1,f2⟩:=zhE.fin (N:=M+10) (sh:=BdA (L+1)) t bz rfl hRl oM ax oM aO.out;have bz5:=bz.dr zhE.dr oM;have cG:=zhE.blk.cell;have cZ:=bz5.cell;have fZ:=bz5.frozen;go_wp2_with fail
  have cf:=f2.cell;exact bodyPost_ret (v:=.agg #[b.al,.slice A5 ls.length c5,.slice B5 I.length d5]) (by simp [results,Tryz.results75,go_sem,cf]) rfl f1.out
theorem Dr.far {a b c:World}(h:Dr R a b)(hf:Frm (fun k=>k=Z) b c)(hZ:a.heap.size<=Z):Dr R a c:=
 ⟨hf.os.trans h.os,hf.tape.trans h.tape,hf.output.trans h.output,dK h.size hf.size,fun k hk hn=>(hf.block k (Nat.lt_of_lt_of_le hk h.size) (fun e=>oM)).trans (h.block k hk hn)⟩
theorem bits_all (y:Nat)(hy:y<64):bits .and .i64 (-1) (y:Int)=(y:Int):=
 (show ∀ y:Fin 64,bits .and .i64 (-1) ((y.val:Nat):Int)=((y.val:Nat):Int) by decide +kernel) ⟨y,hy⟩
theorem yF13a3 {P:Prop}(h:P:=by
 obtain⟨f1,f2⟩:=zdX (N:=M+600) (sh:=zfJ) hxz zhD hsh.out hr6 hd6 bz rfl hRl (Nat.le_refl _) (Nat.le_refl _);have bz5:=bz.dr hd6 oM;have cZ:=bz5.cell;have fZ:=bz5.frozen;go_wp2_with fail
 have cf:=f2.cell;exact bodyPost_ret (v:=.agg #[b.al,.slice A n c,.slice A' n' c']) (by simp [results,Tryz.results205,go_sem,cf]) rfl f1.out
 ):P:=h
theorem zft {zz:Int} (h:Rd w R M)(hM:M<=700000000)(ha:(∃ a:Nat,zz=(a:Int)∧a<64)∨zz = -1) :
  Calls Tryz.prog 205 #[.pointer (some R),zz] w (zfl R (M+600) zfJ w):=by
 have hRl:=h.lt
 go_enter Tryz.func205,Tryz.ntmps205
 have hxz:=(cY w).alloc (.cells #[(0:Int),(),()] 27);have bz:=dU w 27 #[(0:Int),(),()];have t:(w.alloc (.cells #[(0:Int),(),()] 27)).heap.size=w.heap.size+1:=sM;go_wp2_with fail
 rw [← t];generalize w.alloc _=w1 at *;refine (zaV [63,63,5,3,6] 5 #[(63:Int),(63:Int),(5:Int),(3:Int),(6:Int)] rfl rfl oM oM (h.ext hxz) oM).mono ?_;rintro e D ⟨x,i,rfl,m,j⟩;obtain⟨y,u,rfl⟩:∃ y:Nat,y<64∧x=(y:Int):=⟨x.toNat,by simp at i;omega,by simp at i;omega⟩;clear i;replace j:=((Dr.refl R w1).alloc _).trans j;obtain⟨d,k,o⟩:∃ d:Nat,bits .and .i64 zz (y:Int)=(d:Int)∧d<64:=by
  rcases ha with ⟨a,rfl,ha⟩|rfl
  ·exact⟨a&&&y,zbz tM tM,Nat.lt_of_le_of_lt Nat.and_le_left ha⟩
  ·exact⟨y,bits_all y u,u⟩
 go_upto_region 2 with fail
 clear k;go_wp2_with fail
 refine (zw m oM).mono ?_;rintro e E ⟨z,rfl,-,-,g,f⟩;replace f:=j.trans f;clear j m;go_upto_if 13 with fail
 go_cut [5] (fun s5 wx=>∃ d:Nat,d<64∧s5=.int .i64 (d:Nat)∧Rd wx R (M+10)∧Dr R w1 wx)
 case first =>
  by_cases hz:z=0
  ·subst hz;go_wp2_with fail
   refine (spec_l1Some g oM).mono ?_;rintro e w4 ⟨x,i,rfl,hr4,hd4⟩;go_wp2_with fail
   go_meet;exact⟨x,i,rfl,hr4.more oM,f.trans hd4⟩
  ·have C:((z:Int)==0)=false:=by simp;omega
   go_wp2_with fail
   go_meet;exact⟨d,o,rfl,g.more oM,f⟩
 case rest =>
  clear g f o;obtain⟨d,q,rfl,g,f⟩:=hcut;go_wp2_with fail
  refine (zw g oM).mono ?_;rintro e w4 ⟨y,rfl,-,-,hr4,hd4⟩;replace hd4:=f.trans hd4
  by_cases u:0<y
  ·have v:((y:Int)>0):=oM;go_wp2_with fail
   refine (zaV [3,2,4,1] 4 #[(3:Int),(2:Int),(4:Int),(1:Int)] rfl rfl oM oM hr4 oM).mono ?_;rintro e F ⟨x,i,rfl,s,r⟩;obtain⟨p,hp1,B,rfl⟩:∃ y:Nat,1<=y∧y<=4∧x=(y:Int):=⟨x.toNat,by simp at i;omega,by simp at i;omega,by simp at i;omega⟩;clear i;have l:=(hd4.alloc _).trans r;go_wp2_with fail
   refine (zgj s oM q hp1 oM).mono ?_;intro e w6 hret;obtain⟨b,A,n,c,A',n',c',rfl,zhD,hsh,hr6,hd6⟩:=hret.mono (N:=M+600) (sh':=zfJ) l oM (fun b hb=>⟨d,p,q,hp1,oM,hb⟩);exact yF13a3
  ·have v:¬ ((y:Int)>0):=oM;go_wp2_with fail
   refine (zcj hr4 oM q).mono ?_;intro e w6 hret;obtain⟨b,A,n,c,A',n',c',rfl,zhD,hsh,hr6,hd6⟩:=hret.mono (N:=M+600) (sh':=zfJ) hd4 oM (fun b hb=>hb);exact yF13a3
section
variable {w0 W W':World} {R G H M N:Nat} {s t:Sys} {A B:Option Addr} {n c m d:Nat}
theorem blk_fill {t:TypeId}(h:Blk w Z t cs)(hc:cs.size=3) (u0 u1 u2:Value):Blk (((w.setCell Z u0).setCell ⟨Z,1,none⟩ u1).setCell ⟨Z,2,none⟩ u2) Z t #[u0,u1,u2]:=by
 obtain⟨l⟩:=cs
 match l,hc with
 |[a,b,c],_=>simpa using ((h.ab 0 u0).ab 1 u1).ab 2 u2
end
theorem Dr.new {w2:World}(h:Ext w w1)(hR:w.heap.size<=R)(hd:Dr R w1 w2):Ext w w2:=
 h.frm hd (fun k hk he=>oM)
theorem zcy (h:Rd w R M)(hM:M<=800000000) :
  Calls Tryz.prog 116 #[.pointer (some R)] w (RetG R (M+30000) 20000 w):=by
 have hRl:=h.lt;have k:=(cY w).alloc (.cells #[(0:Int),(0:Int),()] 38);have bz5:=dU w 38 #[(0:Int),(0:Int),()];have s:=h.ext k;have z:=k.dr (R:=R);have Q:=bz5.lt
 go_enter Tryz.func116,Tryz.ntmps116
 go_wp2_with fail
 have E:=(zaV [3,6,7,5,2] 5 #[(3:Int),(6:Int),(7:Int),(5:Int),(2:Int)] rfl rfl oM oM s oM);simp only [World.size_alloc] at E;refine E.mono ?_;rintro e U ⟨al,d,rfl,hr6,hd6⟩;have B:=(z.ext ((cY _).alloc _)).trans hd6;have l:=(bz5.ext ((cY _).alloc _)).dr hd6 oM;go_wp2_with fail
 refine (zaV [2,3,1,3] 4 #[(2:Int),(3:Int),(1:Int),(3:Int)] rfl rfl oM oM hr6 oM).mono ?_;rintro e V ⟨H,hst,rfl,t,g⟩;have C:=(B.ext ((cY _).alloc _)).trans g;have m:=(l.ext ((cY _).alloc _)).dr g oM;go_wp2_with fail
 refine (zaV [2,3,4] 3 #[(2:Int),(3:Int),(4:Int)] rfl rfl oM oM t oM).mono ?_;rintro e X ⟨T,_,rfl,u,i⟩;have D:=(C.ext ((cY _).alloc _)).trans i;have n:=(m.ext ((cY _).alloc _)).dr i oM;obtain⟨a,rfl,ha⟩:∃ a:Nat,al=a∧a<64:=⟨al.toNat,by simp at d;omega,by simp at d;omega⟩;obtain⟨p,rfl,hp1,O⟩:∃ p:Nat,H=p∧1<=p∧p<=16:=⟨H.toNat,by simp at hst;omega,by simp at hst;omega,by simp at hst;omega⟩;clear d hst;go_wp2_with fail
 refine (zhr u oM ha hp1 O).mono ?_;rintro e Y ⟨G,I,S,F,rfl,y,q,r,x,j⟩;have b:=n.dr j oM;have f:=za (ret_fill (R:=R) (M:=M+30000) (L:=20000) (c:=F) y q r (x.more oM) (D.trans j) b hRl (dD _));have o:=b.cell;have J:=b.frozen;go_wp2_with fail
 exact bodyPost_ret (v:=.agg #[G.al,G.st,.slice I S F]) (by simp [results,Tryz.results116,go_sem,o]) rfl f.out
end Go.Proofs.YtckbjnndaaoddaaGreatDoor
