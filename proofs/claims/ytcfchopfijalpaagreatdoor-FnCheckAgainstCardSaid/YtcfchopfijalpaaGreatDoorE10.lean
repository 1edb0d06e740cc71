/- spec.l3Copy, -/
import Derived.Test.YtcfchopfijalpaaGreatDoorE09
set_option maxHeartbeats 2000000
set_option maxRecDepth 100000
namespace Go.Proofs.YtcfchopfijalpaaGreatDoor
open Go Go.RowKit
open Bool renaming and_eq_true->dG
open Ext renaming bl_->dU,refl->cY
open Frm renaming setCell->dE
open Int renaming toNat_natCast->eY
open List renaming all_eq_true->eH,eq_nil_of_length_eq_zero->dN,ext_getElem?->iD,find?_eq_none->jA,getD_eq_getElem?_getD->dH,getElem?_eq_getElem->dC,getElem?_eq_none->dV,getElem?_map->dP,length_map->dW,length_take->eV,map_map->gQ,mem_append->gW,mem_of_getElem?->dB,mem_singleton->eR,nil_append->eG,range->eW,replicate->dQ,take_add_one->dK,take_of_length_le->dI
open Nat renaming eq_zero_or_pos->gK,le_of_lt_succ->eZ,le_refl->dD,le_trans->dJ,lt_of_lt_of_le->dZ,lt_or_eq_of_le->eF,zero_add->dT,zero_le->dF
open Option renaming getD_some->fI
open Reads renaming af->eA
variable {A A':Option Addr} {L b base c c' hi k lo n n':Nat} {S:Nat->Prop} {a:Aut} {cols l rows:List ByteArray} {f:ByteArray->Bool} {r x:ByteArray} {w w':World}
theorem yE10a1 {P:Prop}(h:P:=by
 intro vA w4 hownA hgA hatA;rw [Nat.zero_add,List.nil_append] at hownA;obtain⟨BA,dA,rfl⟩:=zi hownA;have hxA:Ext w2 w4:=hx0.grown hgA (fun k hk=>(hm.lt k hk).1);have hb:Blk w4 G 31 #[.int .i64 0,.slice none 0 0,.slice none 0 0]:=(hgA.block G hb.lt (fun e=>zr hm hb dM e.symm rfl)).trans hb;replace hx0:=hxA;refine hK.out _ _ hx0 ?_;refine pT ?_;refine uQ ?_;have cG:=hb.cell;have fG:=hb.frozen;refine zb fun K hK=>?_;go_simp;refine hK.out _ _ ?_;refine zf ?_;have zkx:Gra w2 (((w4.setCell G a.al).setCell ⟨G,1,none⟩ ()).setCell ⟨G,2,none⟩ (.slice BA n' dA)) G a.al (.slice none 0 0) [] (.slice BA n' dA) a.acc:=⟨zaI hb rfl _ _ _,⟨[],World.ownsRow_nil _ _ _ _,zH.nil _ _⟩,by
  rw [← hL'.out];exact zg hownA (zaw w4 G _ _ _) (fun b hv hS=>zr hownA hb dM hv hS),hx0.frm (zaw w4 G _ _ _) (fun k hk e=>oM),hG⟩
 go_wp2_with fail
 go_meet;exact⟨G,_,rfl,zkx⟩
 ):P:=h
theorem zay (h:zJ w lo hi A n A' n' a)(hs:a.size<=1048576) :
  Calls Tryz.prog 119 #[.agg #[a.al,.slice A n c,.slice A' n' c']] w (RetAut w a):=by
 have U:n<=1048576:=by have:=h.n1;unfold Aut.size at hs;omega
 have h2:n'<=1048576:=by have:=h.n2;unfold Aut.size at hs;omega
 have g:∀ (k:Nat) (l:List Int),a.next[k]?=some l->l.length<=1048576:=fun k l O=>by
  have U:=zgH O;have h2:=ziA a.next (k+1);unfold Aut.size at hs;omega
 have E:=za g;have H:=za h.n1;have hL':=za h.n2;have HS:=za (fun W (hW:Ext w W)=>h.1.ext hW);have R:=za (fun W (hW:Ext w W)=>h.2.2.ext hW);have ae:=h.1.len;clear g h hs
 go_enter Tryz.func119,Tryz.ntmps119
 go_upto_region 1 with fail
 generalize U0:(w.alloc _).alloc _=w2 at *;obtain⟨o,F,bz⟩:=Ext.x2_ U0;have ag:w.heap.size+2=w2.heap.size:=by rw [← U0];simp
 clear U0
 go_cut [3] (fun v wx=>∃ (G:Nat) (vA:Value),v=.pointer (some G)∧Gra w2 wx G a.al (.slice none 0 0) [] vA a.acc)
 case first =>
  have c1:=fun W (hW:Ext w2 W)=>(F.ext hW).cell;have D:=cY w2;refine uR (fun X=>Ext w2 X) [8] (zv.app [0,1,3,4] (zv.two 2 (zv.two 5 (zv.of [6,7,8]) 7 (zv.of [5,6,8])) 7 (zv.of [2,5,6,8]))) ?_;refine uQ ?_;have hx0:Ext w2 w2.drew:=D.drew;generalize w2.drew=m at *;refine zn (fun K hK=>?_) (fun K hK=>?_)
  ·go_simp;have hm:=World.ownsRow_made (base:=w2.heap.size) (e:=4) (size:=1) m #[] 0 hx0.size (dF _) rfl;have f:=(cY m).alloc (.cells #[] 4);replace hx0:=hx0.trans f;refine hK.out _ _ hx0 ?_;generalize m.alloc _=u at *;generalize m.heap.size=M at *;refine pT ?_;refine uQ ?_;clear hK;refine zn (fun K hK=>?_) (fun K hK=>?_)
   ·skip;refine zy u _ _ 26 rfl w2.heap.size 4 _ 1 1 Tryz.underlying26 zbj rfl dM (.slice (some M) 0 0) 0 [] rfl hm _ _ A' n' c' (zaq a.acc) rfl (R.out _ (o.trans hx0)) (zge _) lM oM hx0.size ?_;intro vA w4 hownA hgA hatA;rw [dT,eG] at hownA;obtain⟨BA,dA,rfl⟩:=zi hownA;have hxA:Ext w2 w4:=hx0.grown hgA (fun k hk=>(hm.lt k hk).1);replace hx0:=hxA;refine hK.out _ _ hx0 ?_;refine pT ?_;refine uQ ?_;refine ze fun K hK=>?_;go_simp;have f:=(cY w4).alloc (.cells #[(0:Int),(),()] 31);have hG:=hx0.size;replace hownA:=zh hownA f;replace hx0:=hx0.trans f;refine hK.out _ _ hx0 ?_;generalize U0:w4.alloc _=p at *;have hb:=dU U0;clear U0;generalize w4.heap.size=G at *;refine pT ?_;refine uQ ?_;have cG:=hb.cell;have fG:=hb.frozen;refine zb fun K hK=>?_;go_simp;refine hK.out _ _ ?_;refine zf ?_;have zkx:Gra w2 (((p.setCell G a.al).setCell ⟨G,1,none⟩ ()).setCell ⟨G,2,none⟩ (.slice BA n' dA)) G a.al (.slice none 0 0) [] (.slice BA n' dA) a.acc:=⟨zaI hb rfl _ _ _,⟨[],World.ownsRow_nil _ _ _ _,zH.nil _ _⟩,by
     rw [← hL'.out];exact zg hownA (zaw p G _ _ _) (fun b hv hS=>zr hownA hb dM hv hS),hx0.frm (zaw p G _ _ _) (fun k hk e=>oM),hG⟩
    go_wp2_with fail
    go_meet;exact⟨G,_,rfl,zkx⟩
   ·go_simp;have f:=(cY u).alloc (.cells #[(0:Int),(),()] 31);have hG:=hx0.size;replace hm:=zh hm f;replace hx0:=hx0.trans f;refine hK.out _ _ hx0 ?_;generalize U0:u.alloc _=p at *;have hb:=dU U0;clear U0;generalize u.heap.size=G at *;refine pT ?_;refine uQ ?_;refine ze (fun K hK=>?_);refine zy p _ _ 26 rfl w2.heap.size 4 _ 1 1 Tryz.underlying26 zbj rfl dM (.slice (some M) 0 0) 0 [] rfl hm _ _ A' n' c' (zaq a.acc) rfl (R.out _ (o.trans hx0)) (zge _) lM oM hx0.size ?_;exact yE10a1
  ·go_simp;have f:=(cY m).alloc (.cells #[(0:Int),(),()] 31);have hG:=hx0.size;replace hx0:=hx0.trans f;refine hK.out _ _ hx0 ?_;generalize U0:m.alloc _=p at *;have hb:=dU U0;clear U0;generalize m.heap.size=G at *;refine pT ?_;refine uQ ?_;refine ze fun K hK=>?_;go_simp;have hm:=World.ownsRow_made (base:=w2.heap.size) (e:=4) (size:=1) p #[] 0 hx0.size (dF _) rfl;have f:=(cY p).alloc (.cells #[] 4);replace hb:=hb.ext f;replace hx0:=hx0.trans f;refine hK.out _ _ hx0 ?_;generalize p.alloc _=u at *;generalize p.heap.size=M at *;refine pT ?_;refine uQ ?_;refine ze (fun K hK=>?_);refine zy u _ _ 26 rfl w2.heap.size 4 _ 1 1 Tryz.underlying26 zbj rfl dM (.slice (some M) 0 0) 0 [] rfl hm _ _ A' n' c' (zaq a.acc) rfl (R.out _ (o.trans hx0)) (zge _) lM oM hx0.size ?_;exact yE10a1
 case rest =>
  obtain⟨G,vA,rfl,d⟩:=hcut;have Q:=(F.ext d.ext).cell;go_wp2_with fail
  go_loopw [4] (fun i wr=>∃ (k:Nat) (v:Value),k<=n∧i=.int .i64 k∧Gra w2 wr G a.al v (a.next.take k) vA a.acc) (fun i _=>n - (intOf i).toNat)
  case atStart=>exact⟨0,_,dF _,rfl,by simpa using d⟩
  case round =>
   clear d Q;obtain⟨k,v,hk,rfl,d⟩:=hrel
   by_cases hlt:k<n
   ·obtain⟨ad,Z,ck,l,rfl,_,_,O,I,J⟩:=(HS.out wr (o.trans d.ext)).row hlt;have ao:=E.out k l O.out;have T:=za (show a.next.take (k+1)=a.next.take k++[l] by rw [dK,O.out];rfl);have L:=za (show (a.next.take k).length=k by rw [eV];have:=H.out;omega);obtain⟨t,hv,C⟩:=d.own;have Q:=(F.ext d.ext).cell;go_upto_region 5 with fail
    clear Q;have cG:=fun W (hW:Ext wr W)=>(d.blk.ext hW).cell;have D:=cY wr;have S:=za (fun W (hW:Ext wr W)=>J.ext hW);have C1:∀ W,Ext wr W->∀ q,W.cell? ⟨w.heap.size,q,none⟩=#[Value.int .i64 a.al,.slice (some ad) n c,.slice A' n' c'][q]?:=fun W hW=>((F.ext d.ext).ext hW).cell;have Cr:∀ W,Ext wr W->W.cell? (ad.add k)=some (.slice Z l.length ck):=fun W hW=>hW.aa I;have an:(k:Int)<(n:Int):=oM;clear I J;refine uR (fun X=>Ext wr X) [10,12] (zv.of [0,1,3,4,5,6,7,2,8,9,10,11,12]) ?_;refine uQ ?_;have hx0:Ext wr wr.drew:=D.drew;generalize wr.drew=m at *;refine ze fun K hK=>?_;go_simp;have hm:=World.ownsRow_made (base:=wr.heap.size) (e:=3) (size:=1) m #[] 0 hx0.size (dF _) rfl;have f:=(cY m).alloc (.cells #[] 3);replace hx0:=hx0.trans f;refine hK.out _ _ hx0 ?_;generalize m.alloc _=u at *;generalize m.heap.size=M at *;refine pT ?_;refine uQ ?_;refine ze (fun K hK=>?_);refine zy u _ _ 128 rfl wr.heap.size 3 _ 1 8 Tryz.underlying128 zag rfl dM (.slice (some M) 0 0) 0 [] rfl hm _ _ Z l.length ck (ints l) rfl (S.out _ hx0) (zhI _) lM oM hx0.size ?_;intro vR w3 g hgR hatR;rw [dT,eG] at g;obtain⟨BR,dR,rfl⟩:=zi g;have j:Ext wr w3:=hx0.grown hgR (fun k hk=>(hm.lt k hk).1);refine hK.out _ _ j ?_;refine pT ?_;refine uQ ?_;refine ze fun K hK=>?_;go_simp;refine hK.out _ _ (j.alloc _) ?_;refine pT ?_;refine zb fun K hK=>?_;refine zaN w2 w3 _ _ _ rfl 128 _ 1 24 Tryz.underlying25 zcw rfl dM v (a.next.take k).length t _ _ rfl rfl (d.ext.trans j).size (zh hv j) rfl (zbd _ _ _) (by unfold maxLen;have:=L.out;omega) (oH L.out) ?_;intro g5 cap5 w5 zkG hg5 hat5 hlt5;refine hK.out _ _ ?_;refine pT ?_;refine uQ ?_;obtain⟨p1,p2,p3⟩:=d.push C hv j g (W':=w5) zkG hg5 hat5;have aq:=p1.out;refine zb fun K hK=>?_;go_simp;refine hK.out _ _ ?_;refine zf ?_;go_wp2_with fail
    go_roundw
    case rel=>exact⟨k+1,_,oM,gM,by rw [T.out];first|exact p3|simpa using p3⟩
    case measure=>simp [intOf];omega
   ·obtain rfl:n=k:=oM;obtain⟨r,s,rfl⟩:∃ r s,v=.slice r n s:=by
     obtain⟨t,hv,_⟩:=d.own;rw [dI (oH H.out),← H.out] at hv;exact zi hv
    obtain⟨x,y,rfl⟩:=zi d.acc;have Q:=(F.ext d.ext).cell;have cG:=d.blk.cell;have z:=bz.ext d.ext;have cZ:=z.cell;have fZ:=z.frozen;have B:=zaw wr (w.heap.size+1) (.int .i64 a.al) (.slice r n s) (.slice x a.acc.length y);have V:=zaI z rfl (.int .i64 a.al) (.slice r n s) (.slice x a.acc.length y);have Y:=(o.trans d.ext).frm B (fun k hk e=>oM);have zkx:=za (show RetAut w a (.returned (.agg #[a.al,.slice r n s,.slice x a.acc.length y])) (((wr.setCell ⟨w.heap.size+1,0,none⟩ a.al).setCell ⟨w.heap.size+1,1,none⟩ (.slice r n s)).setCell ⟨w.heap.size+1,2,none⟩ (.slice x a.acc.length y)) from by
     refine⟨r,n,s,x,a.acc.length,y,rfl,⟨?_,H.out,?_,rfl⟩,Y⟩
     ·have ho:=d.own;rw [dI (oH H.out)] at ho;exact (ho.keep B (fun b U e=>oM)).less oM
     ·exact zq (zbN d.acc B (fun b U e=>oM)) oM)
    go_wp2_with fail
    generalize ((wr.setCell ⟨w.heap.size+1,0,none⟩ a.al).setCell ⟨w.heap.size+1,1,none⟩ (.slice r n s)).setCell ⟨w.heap.size+1,2,none⟩ (.slice x a.acc.length y)=wf at *;have cf:=V.cell;exact bodyPost_ret (v:=.agg #[a.al,.slice r n s,.slice x a.acc.length y]) (by simp [results,Tryz.results119,go_sem,cf]) rfl zkx.out
theorem own_typ {e:TypeId} {size:Nat} {v:Value} {xs:List Value}(h:w.ownsRow base e size v n xs)(hb:v.ownBlock=some b):∃ cur,w.heap[b]?=some (.cells cur e (0,0)):=by
 rcases h.2 with ⟨rfl,_⟩|⟨g,a,cur,rfl,_,c,_⟩
 ·simp [Value.ownBlock] at hb
 ·have:g=b:=by simpa [Value.ownBlock] using hb
  subst this;exact⟨cur,c⟩
theorem zac.frmT (h:zac w base A n c A' n' c' a)(hb:Frm S w w')
  (hS:∀ k,S k->∀ cs t,w.heap[k]?=some (.cells cs t (0,0))->t≠3∧t≠128∧t≠4):zac w' base A n c A' n' c' a:=by
 obtain⟨⟨f,g,j⟩,m,l,o⟩:=h;refine⟨⟨f,zg g hb (fun b hv hs=>?_),j.frm hb (fun i r b hr hb hs=>?_)⟩,m,zg l hb (fun b hv hs=>?_),o⟩
 ·obtain⟨cs,d⟩:=own_typ g hv;exact (hS b hs cs _ d).2.1 rfl
 ·obtain⟨q,_,p⟩:=j.row hr;obtain⟨cs,d⟩:=own_typ p hb;exact (hS b hs cs _ d).1 rfl
 ·obtain⟨cs,d⟩:=own_typ l hv;exact (hS b hs cs _ d).2.2 rfl
theorem zac.ar {G:Nat}      {cs:Array Value} {t:TypeId}(h:zac w base A n c A' n' c' a)(hB:Blk w G t cs)(hf:Frm (fun k=>k=G) w w')(ht:t≠3∧t≠128∧t≠4):zac w' base A n c A' n' c' a:=
 h.frmT hf (fun k hk cs' t' hh=>by
  subst hk
  unfold Blk at hB
  rw [hB] at hh
  injection hh with hh
  injection hh with _ h2
  subst h2
  exact ht)
noncomputable def zdY (L:Nat) (f:ByteArray->Bool) (rows cols:List ByteArray) (r:ByteArray):List Int:=(letters L 6).map fun l=>((zjg (zaJ f cols rows) (mkS (zbW f cols (r++zcp l))):Nat):Int)
noncomputable def zeq (L:Nat) (f:ByteArray->Bool) (rows cols:List ByteArray):Aut:=⟨(L:Int),rows.map (zdY L f rows cols),rows.map f⟩
theorem zeS (h:zaV L f rows cols=none)  {l:Nat}(hr:r∈rows)(hl:l∈letters L 6):mkS (zbW f cols (r++zcp l))∈zaJ f cols rows:=by
 unfold zaV at h;rw [jA] at h;have:=h (r++zcp l) (List.mem_flatMap.2 ⟨r,hr,List.mem_map.2 ⟨l,hl,rfl⟩⟩);simp only [Bool.not_eq_true',Bool.not_eq_false] at this;exact zaD.1 this
theorem mkS_head (b:Bool) (r:List Bool):∃ h:0<(mkS (b :: r)).size,((((mkS (b :: r))[0]'h).toNat:Int)==43)=b:=by
 have a:0<(mkS (b :: r)).size:=by rw [mkS_size];simp
 refine⟨a,?_⟩;have c:=zct (mkS (b :: r)) 0 a;rw [zgs,List.map_cons,List.getElem?_cons_zero] at c;have d:=Option.some.inj c;rw [← d];cases b<;>rfl
theorem rowM_head (h:zcn L f rows cols) (x:ByteArray):∃ r,zbW f cols x=f x :: r:=by
 have a:=h.c0
 match cols,a with
 |c :: cs,a =>
  simp at a;subst a;refine⟨cs.map fun c=>f (x++c),?_⟩;unfold zbW;rw [List.map_cons]
  congr 1
  exact congrArg f (ByteArray.append_empty)
section
variable {w0 W W':World} {G:Nat} {al:Int} {v vA:Value} {ls:List (List Int)} {acc:List Bool}
theorem Gra.aq {x:Bool} {g cap:Nat}(h:Gra w0 W G al v ls vA acc)
  (zku:W'.ownsRow w0.heap.size 4 1 (.slice (some g) (acc.length+1) cap) (acc.length+1) (zaq acc++[.bool x]))
  (hg:W.grownBy W' vA.ownBlock) (hat:vA.ownBlock=some g∨g=W.heap.size+1) :
  Hid (W'.cell? ⟨G,2,none⟩=some vA)∧W'.frozen? ⟨G,2,none⟩=false∧Gra w0 (W'.setCell ⟨G,2,none⟩ (.slice (some g) (acc.length+1) cap)) G al v ls (.slice (some g) (acc.length+1) cap) (acc++[x]):=by
 have f:=h.hG;have d:Blk W' G 31 #[.int .i64 al,v,vA]:=(hg.block G h.blk.lt (fun e=>zr h.acc h.blk dM e.symm rfl)).trans h.blk;have u:g≠G:=by
  rcases hat with s|s
  ·exact zr h.acc h.blk dM s
  ·have:=h.blk.lt;omega
 have q:Ext w0 W':=h.ext.grown hg (fun k hk=>(h.acc.lt k hk).1);have j:Frm (fun k=>vA.ownBlock=some k) W W':=Frm.ae hg;obtain⟨c,l,m⟩:=h.own;have t:W'.ownsRow w0.heap.size 128 1 v ls.length c:=zg l j (fun b hb hS=>zaG l h.acc dM hb hS);have n:zH W' w0.heap.size c ls:=m.frm j (fun i r b hr hb hS=>by
  obtain⟨y,_,o⟩:=m.row hr;exact zaG o h.acc dM hb hS)
 have a:=dE W' G 2 (.slice (some g) (acc.length+1) cap);refine⟨d.cell 2,d.frozen 2,⟨by simpa using d.ab 2 _,⟨c,zg t a (fun b hb hS=>zr t d dM hb hS),n.frm a (fun i r b hr hb hS=>?_)⟩,?_,q.setCell (p:=⟨G,2,none⟩) f _,f⟩⟩
 ·obtain⟨y,_,o⟩:=n.row hr;exact zr o d dM hb hS
 ·rw [List.length_append,List.length_singleton,show zaq (acc++[x])=zaq acc++[.bool x] by simp [zaq]];exact zg zku a (fun b hv hS=>by
   have:g=b:=by simpa [Value.ownBlock] using hv
   omega)
end
theorem Frm.grown {a:World} {row:Option Nat}(h:Frm S a w)(hg:w.grownBy w' row)(hr:∀ k,row=some k->a.heap.size<=k):Frm S a w':=
 ⟨hg.os.trans h.os,hg.tape.trans h.tape,hg.output.trans h.output,dJ h.size hg.size,fun k hk hS=>(hg.block k (dZ hk h.size) (fun e=>by have:=hr k e.symm;omega)).trans (h.block k hk hS)⟩
def RetAutB (w:World) (a:Aut) (e:Ending) (w':World):Prop:=
 ∃ A n c A' n' c',e=.returned (.tuple #[.agg #[a.al,.slice A n c,.slice A' n' c'],.bool true])∧zac w' w.heap.size A n c A' n' c' a∧Ext w w'
section
variable {w W:World} {n c m d m' d' L:Nat} {A B B':Option Addr} {s:Sys} {p:Aut} {nr nc cr cc:Nat} {R C:Option Addr} {rows cols:List ByteArray}
theorem zdy (h:Tch w A n B m B' m' s p L)(hT:TabAt w R nr C nc rows cols)(hI:zcn L (zx s p L) rows cols)(hcr:nr<=cr)(hcc:nc<=cc)(hcl:zaV L (zx s p L) rows cols=none) :
  Calls Tryz.prog 71 #[.agg #[.bool false,(0:Int),(),(),s.al,s.st,.slice A n c,p.al,.slice B m d,.slice B' m' d',L],.agg #[.slice R nr cr,.slice C nc cc]] w (RetAutB w (zeq L (zx s p L) rows cols)):=by
 obtain⟨e1,e2⟩:=hT.nr;have bd:=hI.r12;have a9:=hI.c20;rw [e1] at bd;rw [e2] at a9;have bD:=za (fun W (hW:Ext w W)=>zhy (c:=c) (d:=d) (d':=d') (h.ext hW) (hT.ext hW) hI hcr hcc hcl);have HA:=za (fun W (hW:Ext w W)=>zbh (c:=c) (d:=d) (d':=d') (h.ext hW));obtain⟨lo,hi,cR,cJ,h1,h2⟩:=hT;have HR:=za (fun W (hW:Ext w W)=>zeY (c:=c) (d:=d) (d':=d') (cc:=cc) (cr:=cr) (h.ext hW) (h2.ext hW) (h1.ext hW) oM oM hI.rsz'.2 hI.rsz'.1);have HW:=za (fun W (hW:Ext w W) (y:ByteArray) hy=>zfW (c:=c) (d:=d) (d':=d') (cc:=cc) (x:=y) (h.ext hW) (h2.ext hW) oM hy hI.rsz'.2);have H1:=za (fun W (hW:Ext w W)=>h1.ext hW);have hL:=h.lt;have bF:=za (fun x hx=>hI.rin (x:=x) hx);have bG:=za (fun (r:ByteArray) (l:Nat) hr hl=>zeS (r:=r) (l:=l) hcl hr hl);have bE:=za (fun x=>rowM_head hI x);have aE:(zaJ (zx s p L) cols rows).length=nr:=by rw [zaJ,dW];exact e1
 have bo:∀ (i:Nat) (r:ByteArray),rows[i]?=some r->(zaJ (zx s p L) cols rows)[i]?=some (mkS (zbW (zx s p L) cols r)):=fun i r hr=>by rw [zaJ,dP,hr];rfl
 have bH:=za bo;have aB:=za (show zeq L (zx s p L) rows cols=⟨(L:Int),rows.map (zdY L (zx s p L) rows cols),rows.map (zx s p L)⟩ from rfl);have ag:=za (fun r=>show zdY L (zx s p L) rows cols r=(letters L 6).map fun l=>((zjg (zaJ (zx s p L) cols rows) (mkS (zbW (zx s p L) cols (r++zcp l))):Nat):Int) from rfl);generalize zeq L (zx s p L) rows cols=a3 at *;generalize zdY L (zx s p L) rows cols=a at *;generalize zaJ (zx s p L) cols rows=zs at *;have ae:=za aE;have He:=za e1;clear h h1 h2 hI e1 e2 aE bo hcl
 go_enter Tryz.func71,Tryz.ntmps71
 go_upto_region 1 with fail
 generalize U0:((w.alloc _).alloc _).alloc _=w0 at *;obtain⟨hx0,b1,b2,b3⟩:=Ext.x3_ U0;clear U0;have CB:=b1.cells;have CT:=b2.cells;have cF:=b3.lt;have ao:=cY w0;go_upto_region 4 with (first
  |(go_at_call 129;refine (bD.out _ hx0).mono (mQ fun w1 aK=>?_))
  |(go_at_call 130;refine (HA.out _ (hx0.trans aK)).mono (mQ fun w2 bk=>?_);have g:=aK.trans bk))
 have cM:=g.size;have bm:=(cY w2).alloc (.cells #[.int .i64 (L:Nat),(),()] 31);have f:Gra w2 (w2.alloc (.cells #[.int .i64 (L:Nat),(),()] 31)) w2.heap.size (L:Nat) (.slice none 0 0) [] (.slice none 0 0) []:=
  ⟨Blk.new w2 _ _,⟨[],World.ownsRow_nil _ _ _ _,zH.nil _ _⟩,World.ownsRow_nil _ _ _ _,bm,dD _⟩
 clear bm;generalize hG:w2.heap.size=G at *;generalize w2.alloc _=w3 at *;have HG:=za hG;clear hG;have k3:=f.blk.cell;have V:Ext w0 w3:=g.trans f.ext;have bz:=fun W (hW:Ext w3 W)=>CB W (V.trans hW);have bB:=fun W (hW:Ext w3 W)=>CT W (V.trans hW);go_wp2_with (first
  |(go_at_call 131;refine (zZ L tM _).mono ?_;rintro e w4 ⟨HL,hc,rfl,M,Y⟩)
  |(go_at_call 132;refine (HR.out _ (hx0.trans (V.trans Y))).mono ?_;rintro e w5 ⟨ZA,zc,rfl,o,ap⟩;have aL:=Y.trans ap))
 have an:=eA o;rw [ae.out] at an;have HZ:=za (fun W (hW:Ext w5 W)=>an.ext hW);have T:=zh M ap;have a0:=za (fun W (hW:Ext w5 W)=>zh T hW);have aN:=za (fun b hb=>(M.lt b hb).1);have aO:=za (f.blk.lt);have aI:=za Y.size;have bQ:=za (fun l (hl:l∈letters L 6)=>(zK.1 hl).1);have cK:(letters L 6).length<=6:=zD L 6;have ca:=V.trans aL;have aQ:=f.ay aL;generalize letters L 6=aa at *;have cP:=ae.out;rw [ae.out] at o ⊢;have a2:=za o;have af:=za (fun b hb=>(o.lt b hb).1);clear M T an o Y ap k3 f bz bB ao
 go_loopw [9] (fun iv wr=>∃ (i:Nat) (v vA:Value),iv=.int .i64 i∧i<=nr∧Gra w2 wr G (L:Nat) v ((rows.take i).map a) vA ((rows.take i).map (zx s p L))∧Hid (∀ b,v.ownBlock=some b->w5.heap.size<=b)∧Hid (∀ b,vA.ownBlock=some b->w5.heap.size<=b)∧Frm (fun k=>k=G) w5 wr) (fun iv _=>nr - (intOf iv).toNat)
 case atStart=>exact⟨0,_,_,rfl,dF _,by simpa using aQ,za (fun b hb=>by simp [Value.ownBlock] at hb),za (fun b hb=>by simp [Value.ownBlock] at hb),Frm.refl _ _⟩
 case round =>
  obtain⟨i,v,vA,rfl,hi,f,bj,bh,ax⟩:=hrel;have u:=f.ext;have cD:=f.blk.lt;have bA:∀ W,Ext wr W->∀ q,W.cell? ⟨w.heap.size,q,none⟩=#[Value.bool false,.int .i64 0,.slice none 0 0,.slice none 0 0,.int .i64 s.al,.int .i64 s.st,.slice A n c,.int .i64 p.al,.slice B m d,.slice B' m' d',.int .i64 L][q]?:=fun W hW=>CB W ((g.trans u).trans hW);have bC:∀ W,Ext wr W->∀ q,W.cell? ⟨w.heap.size+1,q,none⟩=#[Value.slice R nr cr,.slice C nc cc][q]?:=fun W hW=>CT W ((g.trans u).trans hW)
  by_cases hlt:i<nr
  ·have b9:(i:Int)<(nr:Int):=oM;obtain⟨ad,r,rfl,_,_,hr,a5⟩:=(H1.out wr (hx0.trans (g.trans u))).str hlt;have CR:∀ W,Ext wr W->W.cell? (ad.add i)=some (.string r):=fun W hW=>hW.aa a5;have cL:=(bF.out r (dB hr.out)).2;have aU:=za (dB hr.out);have am:(wr.alloc (.cells #[] 3)).ownsRow wr.heap.size 3 1 (.slice (some wr.heap.size) 0 0) 0 (ints []):=World.ownsRow_lit wr #[] 0 (dD _) lM rfl;have bn:=(cY wr).alloc (.cells #[] 3);clear a5;obtain⟨wo,bS⟩:∃ wo,wo=wr:=⟨_,rfl⟩;subst bS;go_wp2_with fail
   go_loopw [10,11] (fun v10 kv wr=>∃ k:Nat,kv=.int .i64 k∧k<=aa.length∧wr.ownsRow wo.heap.size 3 1 v10 k (ints ((a r).take k))∧Ext wo wr) (fun _ kv _=>aa.length - (intOf kv).toNat)
   case atStart=>exact⟨0,rfl,dF _,by simpa [ints] using am,bn⟩
   case round =>
    clear am bn;obtain⟨k,rfl,hk,F,j⟩:=hrel
    by_cases hkl:k<aa.length
    ·have b8:(k:Int)<(aa.length:Int):=oM;obtain⟨l,hl⟩:∃ l,aa[k]?=some l:=⟨_,dC hkl⟩;have bP:=bQ.out l (dB hl);have aS:=za (dB hl);have D:=zg (a0.out w5 (cY _)) (ax.trans j.aj) (fun b hb e=>by have:=aO.out;have:=aN.out b hb;omega);have U:=zg a2.out (ax.trans j.aj) (fun b hb e=>by have:=aO.out;have:=aI.out;have:=af.out b hb;omega);obtain⟨gl,rfl,cH,-⟩:=zU D oM;have cl:=zdu D hkl;rw [dH,hl,fI] at cl;have CL:∀ W,Ext wr W->W.cell? ⟨gl,k,none⟩=some (.int .i64 (l:Nat)):=fun W hW=>hW.aa cl;have cn:=fun W (hW:Ext wr W)=>CR W (j.trans hW);have co:=fun W (hW:Ext wr W)=>bC W (j.trans hW);have ck:=fun W (hW:Ext wr W)=>bA W (j.trans hW);have HT:=za (fun W=>zeZ (w:=W) bP);have Hl:=za hl;have aT:=za (bG.out r l aU.out aS.out);obtain⟨z,hz⟩:∃ z,Hid (zcp l=z):=⟨_,rfl⟩;rw [hz.out] at HT;have cO:z.size=1:=by rw [← hz.out];exact zcU l
     have cN:¬ 9223372036854775807<r.size+1:=oM;have a1:=za (fun W (hW:Ext wr W)=>HW.out W ((hx0.trans (g.trans (u.trans j))).trans hW) (r++z) (by rw [ByteArray.size_append];omega));have aG:=eA U;have av:=za (fun W (hW:Ext wr W)=>zkc (c:=zc) (aG.ext hW) aT.out);rw [hz.out] at av;have O:=za (show (a r)[k]?=some ((zjg zs (mkS (zbW (zx s p L) cols (r++z))):Nat):Int) by rw [ag.out,dP,hl,← hz.out];rfl);obtain⟨y,hy⟩:∃ y,r++z=y:=⟨_,rfl⟩;rw [hy] at a1 av O;obtain⟨I,hI⟩:∃ I,Hid (zjg zs (mkS (zbW (zx s p L) cols y))=I):=⟨_,rfl⟩;rw [hI.out] at av O;generalize mkS (zbW (zx s p L) cols y)=ys at *;have bR:=za (show ints ((a r).take (k+1))=ints ((a r).take k)++[.int .i64 (I:Nat)] by rw [dK,O.out];simp [ints]);have ao:=cY wr;clear hl cl aG D U;go_wp2_with fail
     refine uR (fun X=>Ext wr X) [19] (zv.of [0,1,2,3,4,5,6,7,8,9,10,11,12,13,14,15,16,17,18,19,20]) ?_;refine uQ ?_;refine ze fun K hK=>?_;go_simp;refine (HT.out _).mono (mQ fun w6 bT=>?_);have aq:Ext wr w6:=ao.drew.trans bT;refine hK.out _ _ aq ?_;refine pT ?_;refine uQ ?_;refine ze fun K hK=>?_;go_simp
     with_reducible refine (a1.out _ aq).mono ?_
     rintro e w7 ⟨rfl,bU⟩;have t:=aq.trans bU;refine hK.out _ _ t ?_;refine pT ?_;refine uQ ?_;refine ze fun K hK=>?_;go_simp
     with_reducible refine (av.out _ t).mono ?_
     rintro e w8 ⟨rfl,rfl⟩;refine hK.out _ _ t ?_;refine pT ?_;refine uQ ?_;refine ze fun K hK=>?_;go_simp;refine hK.out _ _ (t.alloc _) ?_;refine pT ?_;refine zb fun K hK=>?_;refine zaN wo w7 _ _ _ rfl 3 _ 1 8 Tryz.underlying128 zag rfl dM _ k (ints ((a r).take k)) _ _ rfl rfl (j.trans t).size (zh F t) rfl (zbv _) lM oM ?_;intro g9 cap9 w9 hown9 hg9 hat9 hlt9;refine hK.out _ _ ?_;refine pT ?_;refine uQ ?_;refine zf ?_;clear hy;go_wp2_with fail
     go_roundw
     case rel=>exact⟨k+1,gM,oM,by rw [bR.out];exact hown9,(j.trans t).grown hg9 (fun k hk=>(F.lt k hk).1)⟩
     case measure=>simp [intOf];omega
    ·have bO:(aa.length:Int)<=(k:Int):=oM;have aP:=za (show (a r).take k=a r from dI (by rw [ag.out,dW];omega));rw [aP.out] at F;obtain⟨Q,S,rfl⟩:=zi F;have ba:=za (show k=(a r).length by rw [ag.out,dW];omega);obtain⟨bp,J,aH⟩:=f.own;have ak:=za (show ((rows.take i).map a).length=i by rw [dW,eV];have:=He.out;omega);have aR:=za (show ((rows.take i).map (zx s p L)).length=i by rw [dW,eV];have:=He.out;omega);rw [ak.out] at J;have H:=f.ay j;have kG:=H.blk.cell;have bg:=za (H.ext.size);have aF:=zh J j;have a6:=za aH;have HO:=za (show wr.ownsRow wo.heap.size 3 1 (.slice Q k S) (a r).length (ints (a r)) by rw [← ba.out];exact F);clear F;go_upto_region 15 with (at_builtin;refine zad w2 wr rfl _ _ _ rfl 128 _ 1 24 Tryz.underlying25 zcw rfl dM v i bp _ _ rfl rfl bg.out aF rfl (zbd _ _ _) lM oM ?_;intro g6 cap6 w6 hown6 hg6 hat6 hlt6;obtain⟨q1,q2,q3⟩:=f.push (l:=a r) (row:=.slice Q k S) a6.out (by rw [ak.out];exact J) j HO.out (by rw [ak.out];exact hown6) hg6 hat6;have bV:=q1.out)
     have aj:Frm (fun k=>k=G) w5 (w6.setCell ⟨G,1,none⟩ (.slice (some g6) (((rows.take i).map a).length+1) cap6)):=((ax.trans j.aj).grown hg6 (fun k hk=>bj.out k hk)).trans (dE w6 G 1 _);have aJ:=za (show ∀ b,(Value.slice (some g6) (((rows.take i).map a).length+1) cap6).ownBlock=some b->w5.heap.size<=b from fun b hb=>by
      have Z:g6=b:=by simpa [Value.ownBlock] using hb
      subst Z;rcases hat6 with h1|h1
      ·exact bj.out _ h1
      ·have:=j.size;have:=ax.size;omega)
     have bc:=za (show (rows.take (i+1)).map a=(rows.take i).map a++[a r] by rw [dK,hr.out];simp);have aD:=za (show (rows.take (i+1)).map (zx s p L)=(rows.take i).map (zx s p L)++[zx s p L r] by rw [dK,hr.out];simp);rw [← bc.out,ak.out] at q3;rw [ak.out] at aj aJ;obtain⟨bb,Z⟩:∃ bb,Hid (zx s p L r=bb):=⟨_,rfl⟩;rw [Z.out] at aD;have aV:=bH.out i r hr.out;obtain⟨rr,bf⟩:=bE.out r;rw [bf,Z.out] at aV;obtain⟨bK,b7⟩:=mkS_head bb rr;generalize mkS (bb :: rr)=x at *;clear q1 bV q2 hown6 hat6 hlt6 kG aF H bg HO a6 aH J bf;generalize w6.setCell ⟨G,1,none⟩ (.slice (some g6) (i+1) cap6)=w7 at *;generalize Value.slice (some g6) (i+1) cap6=v7 at *;have E:=zg a2.out aj (fun b hb e=>by have:=aO.out;have:=aI.out;have:=af.out b hb;omega);obtain⟨gz,rfl,-,-⟩:=zU E oM;obtain⟨cv,x2,bL,-,-,bl,cx⟩:=(eA E).str hlt;obtain rfl:=Option.some.inj bL;rw [zY,dT] at cx;obtain rfl:x2=x:=Option.some.inj (bl.out.symm.trans aV);have cS:∀ W,Ext w7 W->W.cell? ⟨gz,i,none⟩=some (.string x2):=fun W hW=>hW.aa cx;have cG:=fun W (hW:Ext w7 W)=>(q3.blk.ext hW).cell;have b6:(0:Int)<(x2.size:Int):=oM;have cE:=zcX x2 0 bK;have ao:=cY w7;clear cx bl E aV;go_wp2_with fail
     refine uR (fun X=>Ext w7 X) [9,11] (zv.of [0,1,2,3,4,5,6,7,8,9,10,11]) ?_;refine uQ ?_;refine ze fun K hK=>?_;go_simp;have az:=ao.drew;refine hK.out _ _ (az.alloc _) ?_;refine pT ?_;refine zb fun K hK=>?_;have aA:=q3.ay az;have aX:=aA.acc;rw [aR.out] at aX;refine zaN w2 w7.drew _ _ _ rfl 4 _ 1 1 Tryz.underlying26 zbj rfl dM vA i (zaq ((rows.take i).map (zx s p L))) _ _ rfl rfl aA.ext.size aX rfl (by simp [Value.oneCell']) lM oM ?_;intro g8 cap8 w8 hown8 hg8 hat8 hlt8;refine hK.out _ _ ?_;refine pT ?_;refine uQ ?_;obtain⟨p1,p2,p3⟩:=aA.aq (x:=bb) (W':=w8) (by rw [aR.out];exact hown8) hg8 hat8;rw [aR.out,← aD.out] at p3;have cT:=p1.out;have bN:Frm (fun k=>k=G) w5 (w8.setCell ⟨G,2,none⟩ (.slice (some g8) (i+1) cap8)):=((aj.trans az.aj).grown hg8 (fun k hk=>bh.out k hk)).trans (dE w8 G 2 _);have bi:=za (show ∀ b,(Value.slice (some g8) (i+1) cap8).ownBlock=some b->w5.heap.size<=b from fun b hb=>by
      have Z:g8=b:=by simpa [Value.ownBlock] using hb
      subst Z;rcases hat8 with h1|h1
      ·exact bh.out _ h1
      ·have:=aj.size;have:=az.size;omega)
     refine zb fun K hK=>?_;go_simp;refine hK.out _ _ ?_;refine zf ?_;clear hown8 hg8 hat8 aX aA p1 q3 aj;generalize w8.setCell ⟨G,2,none⟩ (.slice (some g8) (i+1) cap8)=cW at *;go_wp2_with fail
     go_roundw
     case rel=>exact⟨i+1,v7,_,gM,oM,p3,aJ,bi,bN⟩
     case measure=>simp [intOf];omega
  ·have bO:(nr:Int)<=(i:Int):=oM;have a8:=za (show rows.take i=rows from dI (oH He.out));rw [a8.out] at f;obtain⟨Q,S,rfl⟩:∃ Q S,v=.slice Q nr S:=by
    obtain⟨bp,J,-⟩:=f.own;rw [dW,He.out] at J;exact zi J
   obtain⟨A2,c2,rfl⟩:∃ A2 c2,vA=.slice A2 nr c2:=by
    have a7:=f.acc;rw [dW,He.out] at a7;exact zi a7
   have aw:=b3.ext (g.trans u);have kz:=aw.cell;have fz:=aw.frozen;have kG:=f.blk.cell;have hf:=zaw wr (w.heap.size+1+1) (.int .i64 (L:Nat)) (.slice Q nr S) (.slice A2 nr c2);have cf:=(zaI aw rfl (.int .i64 (L:Nat)) (.slice Q nr S) (.slice A2 nr c2)).cell;have F:zac (((wr.setCell ⟨w.heap.size+1+1,0,none⟩ (.int .i64 (L:Nat))).setCell ⟨w.heap.size+1+1,1,none⟩ (.slice Q nr S)).setCell ⟨w.heap.size+1+1,2,none⟩ (.slice A2 nr c2)) w.heap.size Q nr S A2 nr c2 a3:=by
    rw [aB.out];have h1:=f.own;have h2:=f.acc;rw [show ((rows.map (zx s p L)).length)=nr by rw [dW];exact He.out] at h2;have h3:zac wr w2.heap.size Q nr S A2 nr c2 ⟨(L:Int),rows.map a,rows.map (zx s p L)⟩:=⟨h1,by rw [dW];exact He.out.symm,h2,by rw [dW];exact He.out.symm⟩;exact (h3.ar aw hf dM).less (by have:=hx0.size;have:=g.size;omega)
   have be:=za (show RetAutB w a3 (.returned (.tuple #[.agg #[.int .i64 (L:Nat),.slice Q nr S,.slice A2 nr c2],.bool true])) (((wr.setCell ⟨w.heap.size+1+1,0,none⟩ (.int .i64 (L:Nat))).setCell ⟨w.heap.size+1+1,1,none⟩ (.slice Q nr S)).setCell ⟨w.heap.size+1+1,2,none⟩ (.slice A2 nr c2)) from
    ⟨Q,nr,S,A2,nr,c2,by rw [aB.out],F,(hx0.trans (g.trans u)).frm hf (fun k hk e=>oM)⟩)
   clear F hf;go_wp2_with fail
   exact bodyPost_ret (v:=.tuple #[.agg #[.int .i64 (L:Nat),.slice Q nr S,.slice A2 nr c2],.bool true]) (by simp [results,Tryz.results71,go_sem,cf]) rfl be.out
end
noncomputable def rnM (zs:List ByteArray):ByteArray->Option Nat:=fun y=>if zdm zs y=true then some (zjg zs y) else none
section
variable {zs:List ByteArray} {y z:ByteArray}
theorem rnM_nil:rnM []=fun _=>none:=funext fun y=>by
 unfold rnM
 rw [if_neg]
 rw [zaD]
 simp
theorem idxS_old (h:y∈zs) (z:ByteArray):zjg (zs++[z]) y=zjg zs y:=by
 have a:=zjO h;unfold zjg at a ⊢;rw [List.findIdx_append,if_pos a]
theorem idxS_last (h:z∉zs):zjg (zs++[z]) z=zs.length:=by
 unfold zjg;rw [List.findIdx_append,if_neg]
 ·rw [List.findIdx_cons];have:zdm [z] z=true:=zaD.2 sM;rw [this];simp
 ·intro hlt;have b:=List.findIdx_getElem (xs:=zs) (p:=fun y=>zdm [y] z) (w:=hlt);have a:=zaD.1 b;rw [eR] at a;exact h (a ▸ List.getElem_mem hlt)
theorem rnM_keep (h:zdm zs z=true):rnM (zs++[z])=rnM zs:=funext fun y=>by
 unfold rnM
 by_cases hy:y∈zs
 ·rw [if_pos (zaD.2 (by simp [hy])),if_pos (zaD.2 hy),idxS_old hy]
 ·rw [if_neg (fun h1=>hy (zaD.1 h1)),if_neg]
  rw [zaD,gW,eR]
  rintro (h1|rfl)
  ·exact hy h1
  ·exact hy (zaD.1 h)
theorem rnM_add (h:zdm zs z=false):rnM (zs++[z])=updG (rnM zs) z zs.length:=funext fun y=>by
 have hz:z∉zs:=fun h1=>by rw [zaD.2 h1] at h;cases h
 by_cases e:y=z
 ·subst e
  rw [updG_same]
  unfold rnM
  rw [if_pos (zaD.2 sM),idxS_last hz]
 ·rw [updG_ne _ _ e]
  unfold rnM
  by_cases hy:y∈zs
  ·rw [if_pos (zaD.2 (by simp [hy])),if_pos (zaD.2 hy),idxS_old hy]
  ·rw [if_neg,if_neg (fun h1=>hy (zaD.1 h1))]
   rw [zaD,gW,eR]
   rintro (h1|rfl)
   ·exact hy h1
   ·exact e rfl
theorem rnM_is:(rnM zs y).isSome=zdm zs y:=by
 unfold rnM;cases zdm zs y<;>simp
end
def RetO (J:zci) (u:Value) (B:Nat) (S:Nat->Prop) (W:World) (e:Ending) (W':World):Prop:=∃ S',e=.returned u∧Kp J B S W W' S'
structure zhS (b0 L:Nat) (f:ByteArray->Bool) (J:zci) (kn:Nat) (rc:Value):Prop where
 ok:zci.Ok b0 J
 in_:∀ args W,(callFunc kn args).run Tryz.prog W=.ok (.enter kn args) W
 ask:∀ (B:Nat) (W:World) (S:Nat->Prop) (x:ByteArray),J B W S->B<10000000->inB x L=true->x.size<=9000->Calls Tryz.prog kn #[rc,x] W (RetO J (.bool (f x)) (B+1) S W)
abbrev orcV (L kn:Nat) (rc:Value):Value:=.agg #[(L:Int),.func (.func kn) #[rc] #[]]
theorem Kp.back {J:zci} {B:Nat} {S':Nat->Prop} {W W1 W':World}(hx:Ext W W1) (k:Kp J B S W1 W' S'):Kp J B S W W' S':=
 ⟨k.j,⟨k.frm.os.trans hx.os,k.frm.tape.trans hx.tape,k.frm.output.trans hx.output,dJ hx.size k.frm.size,fun i hi hn=>(k.frm.block i (dZ hi hx.size) hn).trans (hx.block i hi (fun h=>h))⟩,fun i hi=>by
  rcases k.new i hi with h|h
  ·exact .inl h
  ·exact .inr (dJ hx.size h)⟩
structure zgN (W:World) (S:Nat->Prop) (base:Nat) (e:TypeId) (size:Nat) (v:Value) (n:Nat) (xs:List Value):Prop where
 own:W.ownsRow base e size v n xs
 far:∀ b,v.ownBlock=some b->¬ S b
section
variable {J:zci} {B b0 base n size:Nat} {S S':Nat->Prop} {W W':World} {e:TypeId} {v:Value} {xs:List Value}
theorem zgN.kp (h:zgN W S base e size v n xs) (k:Kp J B S W W' S'):zgN W' S' base e size v n xs:=⟨(k.row h.own h.far).1,(k.row h.own h.far).2⟩
theorem zgN.ext (h:zgN W S base e size v n xs)(hx:Ext W W'):zgN W' S base e size v n xs:=⟨zh h.own hx,h.far⟩
theorem zgN.frm {T:Nat->Prop}(h:zgN W S base e size v n xs)(hf:Frm T W W')(hT:∀ b,v.ownBlock=some b->¬ T b):zgN W' S base e size v n xs:=⟨zg h.own hf hT,h.far⟩
theorem zgN.new (hJ:zci.Ok b0 J)(hj:J B W S)(hx:W.heap.size<=base)(h:W'.ownsRow base e size v n xs):zgN W' S base e size v n xs:=
 ⟨h,fun b hb=>zci.fresh hJ hj (by have:=(h.lt b hb).1;omega)⟩
end
structure zhD (W:World) (S:Nat->Prop) (base:Nat) (R:Option Addr) (nr cr:Nat) (C:Option Addr) (nc cc:Nat) (rows cols:List ByteArray):Prop where
 r:zgN W S base 9 1 (.slice R nr cr) nr (zS rows)
 c:zgN W S base 9 1 (.slice C nc cc) nc (zS cols)
section
variable {J:zci} {B b0 base nr cr nc cc L:Nat} {S S':Nat->Prop} {W W':World} {R C:Option Addr} {rows cols:List ByteArray} {f:ByteArray->Bool}
theorem zhD.kp (h:zhD W S base R nr cr C nc cc rows cols) (k:Kp J B S W W' S'):zhD W' S' base R nr cr C nc cc rows cols:=⟨h.r.kp k,h.c.kp k⟩
theorem zhD.ext (h:zhD W S base R nr cr C nc cc rows cols)(hx:Ext W W'):zhD W' S base R nr cr C nc cc rows cols:=⟨h.r.ext hx,h.c.ext hx⟩
theorem zhD.lens (h:zhD W S base R nr cr C nc cc rows cols):rows.length=nr∧cols.length=nc:=by
 have a:=zdS h.r.own;have b:=zdS h.c.own;simp [zS] at a b;omega
theorem zil (h:W.ownsRow base 9 1 (.slice A n c) n (zS l))(hk:l[k]?=some x):∃ g,A=some ⟨g,0,none⟩∧W.cell? ⟨g,k,none⟩=some (.string x):=by
 have b:=zdS h;have a:=(List.getElem?_eq_some_iff.1 hk).1;simp [zS] at b;obtain⟨g,rfl,-,-⟩:=zU h oM;refine⟨g,rfl,?_⟩;rw [h.cellAt k oM];simp [zS,hk]
theorem zcn.snoc (h:zcn L f rows cols)  {l:Nat}(hr:r∈rows)(hl:l<6)(hb:L.testBit l=true):inB (r++zcp l) L=true∧(r++zcp l).size<=13:=by
 obtain⟨a,b⟩:=h.rin hr;exact⟨inB_snoc a oM hl hb,by rw [ByteArray.size_append,zcU];omega⟩
theorem zjh {y:ByteArray}(hx:inB x L=true)(hy:inB y L=true)(hs:x.size+y.size<=50000):inB (x++y) L=true:=by
 unfold inB at hx hy ⊢;simp only [dG,decide_eq_true_eq] at hx hy ⊢;refine⟨by rw [ByteArray.size_append];exact hs,?_⟩;have a:=hx.2;have b:=hy.2;unfold zeM at a b ⊢;rw [ByteArray.data_append,Array.toList_append,List.all_append,a,b];rfl
end
theorem bcl_set {l:List UInt8} {i:Nat} (v:UInt8):(bcl l).set i (.int .u8 (v.toNat:Nat))=bcl (l.set i v):=by simp [bcl,zjE,List.map_set]
theorem made_u8 (n:Nat):(madeCells (Value.int .u8 0).cells (n*1)).toList=bcl (dQ n 0):=by
 unfold madeCells bcl zjE;simp only [Value.cells,Array.toList_map,Array.toList_range,gQ];refine iD fun i=>?_;simp only [dP,Nat.mul_one]
 by_cases hi:i<n
 ·rw [List.getElem?_range hi];simp [hi,Nat.mod_one]
 ·rw [dV (by simpa using hi),dV (by simpa using hi)];rfl
def mkU (b:Bool):UInt8:=if b then 43 else 45
theorem mkS_bytes {bs:List Bool} {l:List UInt8}(h:l=bs.map mkU):strOfNums (zjE l)=mkS bs:=by
 refine ByteArray.ext (Array.ext' ?_);rw [strOfNums_data,zgs,h];simp only [zjE,gQ];refine List.map_congr_left fun b _=>?_;cases b<;>rfl
section
variable {J:zci} {B b0 L base nr cr nc cc kn:Nat} {S:Nat->Prop} {W:World} {R C:Option Addr} {rows cols:List ByteArray} {f:ByteArray->Bool} {rc:Value}
theorem or_marks (hO:zhS b0 L f J kn rc)(hj:J B W S)(hB:B+20<10000000)(hC:zgN W S base 9 1 (.slice C nc cc) nc (zS cols))(hc20:nc<=20)(hcs:∀ y∈cols,inB y L=true∧y.size<=4000)(hx:inB x L=true)(hxs:x.size<=4000)(hb0:b0<=W.heap.size) :
  Calls Tryz.prog 159 #[orcV L kn rc,.agg #[.slice R nr cr,.slice C nc cc],x] W (RetO J (.string (mkS (zbW f cols x))) (B+20) S W):=by
 have t:=za hO;have HC:=za hC;have aj:=za hcs;have Hx:=za hx;have ao:=Kp.refl (J:=J) hj;have Q:=za (show cols.length=nc by have:=zdS hC.own;simpa [zS] using this);clear hO hC hcs hx;have aC:=t.out.in_
 go_enter Tryz.func159,Tryz.ntmps159
 go_upto_region 1 with fail
 generalize U0:(W.alloc _).alloc _=I at *;obtain⟨D,b3,b4⟩:=Ext.x2_ U0;have G:I.heap.size=W.heap.size+2:=by rw [← U0];simp
 clear U0;have O:=t.out.ok.keep hj D (fun _ _ h=>h.elim);have c:=Kp.refl (J:=J) O;have u:=za (fun (q:Nat) (hq:W.heap.size<=q)=>zci.fresh t.out.ok hj hq);have aK:=D.size;have aI:=za G;have aJ:W.heap.size<I.heap.size∧W.heap.size+1<I.heap.size:=oM;clear G;have U:=b4.cell;go_upto_region 2 with (at_make;refine zch I I rfl _ _ 62 rfl 5 _ 1 1 Tryz.underlying62 zjR _ _ nc rfl rfl (cY _) oM lM ?_;intro w2 hx12 zkE hx2 hsz2)
 rw [made_u8] at zkE;have ab:=za (c.ext t.out.ok hx12);have T:=za (zgN.new t.out.ok O (dD _) zkE);have U:=(b4.ext hx12).cell;have B3:=za b3;have B4:=za b4;have ak:=za (HC.out.ext D);clear b3 b4 zkE hx2 hx12 c ao hj O;obtain⟨g,an⟩:∃ g,Hid (g=I.heap.size):=⟨_,za rfl⟩;have Y:=an.out;rw [← Y] at T ⊢;have Z:I.heap.size<=g:=oM;clear Y;go_wp2_with fail
 go_loopw [8,9,17] (fun _ _ i wr=>∃ (k:Nat) (M:Nat->Prop) (l:List UInt8),i=.int .i64 k∧k<=nc∧Hid (Kp J (B+k) S I wr M)∧Hid (zgN wr M g 5 1 (.slice (some g) nc nc) nc (bcl l))∧Hid (l.length=nc∧∀ (j:Nat) (y:ByteArray),j<k->cols[j]?=some y->l[j]?=some (mkU (f (x++y))))) (fun _ _ i _=>nc - (intOf i).toNat)
 case atStart=>exact⟨0,S,dQ nc 0,rfl,dF _,ab,T,za ⟨sM,fun j y h=>oM⟩⟩
 case round =>
  clear ab T U;obtain⟨k,M,l,rfl,hk,s,a,hl⟩:=hrel;have k3:=(s.out.blk B3.out (u.out _ (dD _))).1.cell;have U:=(s.out.blk B4.out (u.out _ oM)).1.cell
  by_cases hlt:k<nc
  ·have az:(k:Int)<(nc:Int):=oM;obtain⟨y,hy⟩:∃ y,cols[k]?=some y:=⟨_,dC (oH Q.out)⟩;have Hy:=za hy;obtain⟨H,aL⟩:=aj.out y (dB hy);obtain⟨gC,rfl,X⟩:=zil (ak.out.kp s.out).own hy;have V:=za H;clear hy H;obtain⟨o0,g0⟩:=zbc a.out.own k oM;have f0:=a.out.own.frozenAt k;have p:=a.out.own.stored k (.int .u8 45);rw [show (Value.int .u8 45)=.int .u8 ((45:UInt8).toNat:Nat) from rfl,bcl_set] at p;have E:b0<=g:=oM;have am:¬ M g:=a.out.far g rfl;have F:=za (show l.length=nc from hl.out.1);have au:=za (zjh Hx.out V.out oM);have af:(x++y).size<=9000:=by rw [ByteArray.size_append];omega
   have c:=za (s.out.cell t.out.ok Z E am k (.int .u8 45));have v:=za (show zgN (wr.setCell ⟨g,k,none⟩ (.int .u8 45)) M g 5 1 (.slice (some g) nc nc) nc (bcl (l.set k 45)) from ⟨p.1,a.out.far⟩);go_upto_region 6 with fail
   have k3:=(c.out.blk B3.out (u.out _ (dD _))).1.cell;have U:=(c.out.blk B4.out (u.out _ oM)).1.cell;clear p g0 f0 X s a;generalize wr.setCell ⟨g,k,none⟩ (.int .u8 45)=w5 at *;have d:=za (t.out.ask (B+k) w5 M (x++y) c.out.j oM au.out af);have m:∀ (b:UInt8) (l':List UInt8),b=mkU (f (x++y))->l'=l.set k b->Hid (l'.length=nc∧∀ (j:Nat) (y:ByteArray),j<k+1->cols[j]?=some y->l'[j]?=some (mkU (f (x++y)))):=fun b l' hb hl'=>by
    subst hl';refine⟨by rw [List.length_set];exact F.out,fun j z hj hz=>?_⟩
    by_cases e:j=k
    ·subst e;obtain rfl:=Option.some.inj (Hy.out.symm.trans hz);rw [List.getElem?_set_self (by rw [F.out];exact hlt),hb]
    ·rw [List.getElem?_set_ne (fun e'=>e e'.symm)];exact hl.out.2 j z oM hz
   cases hf:f (x++y) with
   |false =>
    have hn:=m 45 _ (by rw [hf];rfl) rfl;rw [hf] at d;clear hf m;go_upto_if 30 with fail
    refine d.out.mono ?_;rintro e w6 ⟨S2,rfl,o⟩;have r:=za (c.out.trans o);have n:=za (v.out.kp o);clear k3 U o c v d;go_wp2_with fail
    go_roundw
    case rel=>exact⟨k+1,S2,_,gM,oM,r,n,hn⟩
    case measure=>simp [intOf];omega
   |true =>
    have hn:=m 43 ((l.set k 45).set k 43) (by rw [hf];rfl) (by rw [List.set_set]);rw [hf] at d;clear hf m;go_upto_if 30 with fail
    refine d.out.mono ?_;rintro e w6 ⟨S2,rfl,o⟩;have r:=c.out.trans o;have n:=v.out.kp o;obtain⟨o6,g6⟩:=zbc n.own k oM;have f6:=n.own.frozenAt k;have p:=n.own.stored k (.int .u8 43);rw [show (Value.int .u8 43)=.int .u8 ((43:UInt8).toNat:Nat) from rfl,bcl_set] at p;have aa:=za (r.cell t.out.ok Z E (n.far g rfl) k (.int .u8 43));have ar:=za (show zgN (w6.setCell ⟨g,k,none⟩ (.int .u8 43)) S2 g 5 1 (.slice (some g) nc nc) nc (bcl ((l.set k 45).set k 43)) from ⟨p.1,n.far⟩);clear k3 U o c v d p n r;go_wp2_with fail
    go_roundw
    case rel=>exact⟨k+1,S2,_,gM,oM,aa,ar,hn⟩
    case measure=>simp [intOf];omega
  ·obtain rfl:k=nc:=oM;have ad:l=(zbW f cols x).map mkU:=by
    obtain⟨h1,h2⟩:=hl.out;refine iD fun j=>?_;unfold zbW;rw [gQ,dP];cases X:cols[j]? with
    |none=>rw [dV (by have:=List.getElem?_eq_none_iff.1 X;have:=Q.out;omega)];rfl
    |some y=>rw [h2 j y (by have:=(List.getElem?_eq_some_iff.1 X).1;have:=Q.out;omega) X];rfl
   have zkx:=za (mkS_bytes ad);have ae:=za (show RetO J (.string (mkS (zbW f cols x))) (B+20) S W (.returned (.string (mkS (zbW f cols x)))) wr from ⟨M,rfl,(s.out.more t.out.ok oM).back D⟩);have al:=zjI a.out.own;clear ad;go_wp2_with (simp only [al])
   rw [zkx.out];go_ret;exact ae.out
end
section
open Go.Maps
section
variable {α:Type} {mt kt:TypeId} {val:α->Value} {lit:α->Lit} {dom:α->Prop} (w:World) {o:Oper} {a:Act} {Q:Exit->Act->World->Prop} {K':Act->World->Prop}
theorem wp_mapSetG (K:KeyG mt kt val lit dom) (m x v:Operand)(hop:o.op=Op.mapUpdate mt m x v∨o.op=Op.insert mt m x v)  {M:α->Option Nat}
  (hm:a.eval m=.map (some b)) (h:zeH kt lit dom w b n M) (hn:n<1152921504606846976) (key:α) (v9:Nat) (hx:a.eval x=val key) (hv:a.eval v=.int .i64 (v9:Int)) (hk:dom key) (hv9:v9<1152921504606846976)
  (hK:∀ w',zeH kt lit dom w' b (n+1) (updG M key v9)->w.grownBy w' (some b)->K' (a.put o.dst undef) w'):o.wp Tryz.prog a w K' Q:=by
 obtain⟨D,d,j⟩:=h;have c:=K.key hk;obtain⟨w',i,k,l⟩:=d.update K.keyed K.und lM c (plainElem_int (H:=Unit) Tryz.underlying3 (wfG hv9));have f:zeH kt lit dom w' b (n+1) (updG M key v9):=⟨_,k,fun y hy=>by
  unfold updG
  by_cases e:y=key
  ·subst e;rw [if_pos rfl];exact⟨has_put_same d.isMap (K.keyed.key c) _,fun u hu=>by rw [atKey_put_same d.isMap (K.keyed.key c)];cases hu;rfl⟩
  ·have g:lit y≠lit key:=fun h=>e (K.inj hy hk h);rw [if_neg e,has_put_other g,atKey_put_other g];exact j y hy⟩
 unfold Oper.wp;rcases hop with hop|hop
 all_goals
  simp [execOp,hop,hm,hx,hv,i,Result.andThen];exact hK w' f l
theorem wp_mapOkG (K:KeyG mt kt val lit dom) (m x:Operand)(hop:o.op=Op.lookup mt m x true)  {M:α->Option Nat}
  (hm:a.eval m=.map (some b)) (h:zeH kt lit dom w b n M) (key:α) (hx:a.eval x=val key) (hk:dom key)
  (hK:∀ c:Int,(∀ v,M key=some v->c=(v:Int))->K' (a.put o.dst (.tuple #[c,.bool (M key).isSome])) w):o.wp Tryz.prog a w K' Q:=by
 obtain⟨D,g,k⟩:=h;obtain⟨v,q,f,hv⟩:=g.look_ok K.keyed K.und (zeroG w) (zd:=.lit (.int .i64 0)) (zp:=[]) (plainElem_int Tryz.underlying3 dM) (K.key hk);obtain⟨c,rfl,l,p⟩:=plainElem_int_inv Tryz.underlying3 hv;have d:=congrArg Prod.fst l;unfold Oper.wp;simp [execOp,hop,hm,hx,f,Result.andThen];have i:=hK c (fun v hv=>by
  have:=(k key hk).2 v hv;rw [this] at d;have j:=d;simp only [DataW.lit.injEq,Lit.int.injEq,true_and] at j;exact j.symm)
 rw [← (k key hk).1] at i;exact i
theorem wp_mapAtG (K:KeyG mt kt val lit dom) (m x:Operand)(hop:o.op=Op.lookup mt m x false)  {M:α->Option Nat}
  (hm:a.eval m=.map (some b)) (h:zeH kt lit dom w b n M) (key:α) (v9:Nat) (hx:a.eval x=val key) (hk:dom key) (hM:M key=some v9)
  (hK:K' (a.put o.dst (.int .i64 (v9:Int))) w):o.wp Tryz.prog a w K' Q:=by
 obtain⟨D,g,i⟩:=h;obtain⟨c,f,d,j⟩:=g.lookup_int K.keyed K.und Tryz.underlying3 (zeroG w) (K.key hk);have:=(i key hk).2 v9 hM;rw [this] at d;injection d with d
 injection d with _ d
 unfold Oper.wp;simp [execOp,hop,hm,hx,f,Result.andThen];rw [← d];exact hK
end
end
abbrev domS (x:ByteArray):Prop:=x.size<=9223372036854775807
abbrev zfZ (w:World) (b n:Nat) (M:ByteArray->Option Nat):Prop:=zeH 9 (fun x:ByteArray=>Lit.string x.data.toList) domS w b n M
def RetRN (J:zci) (M:ByteArray->Option Nat) (B:Nat) (S:Nat->Prop) (W:World) (e:Ending) (W':World):Prop:=
 ∃ (S':Nat->Prop) (mb n:Nat),e=.returned (.map (some mb))∧zfZ W' mb n M∧¬ S' mb∧W.heap.size<=mb∧n<=12∧Kp J B S W W' S'
theorem mkS_dom (h:cols.length<=20) (x:ByteArray):domS (mkS (zbW f cols x)):=by
 unfold domS;rw [mkS_size];simp [zbW];omega
section
variable {J:zci} {B b0 L base nr cr nc cc kn:Nat} {S S':Nat->Prop} {W W':World} {R C:Option Addr} {rows cols:List ByteArray} {f:ByteArray->Bool} {rc:Value}
theorem zfZ.kp {mb:Nat} {M:ByteArray->Option Nat}(h:zfZ W mb n M)(hS:¬ S mb) (k:Kp J B S W W' S'):zfZ W' mb n M∧¬ S' mb:=⟨h.frm k.frm hS,k.out h.lt hS⟩
theorem zik (hO:zhS b0 L f J kn rc)(hj:J B W S)(hB:B+20<10000000)(hT:zhD W S base R nr cr C nc cc rows cols)(hI:zcn L f rows cols)(hx:inB x L=true)(hxs:x.size<=4000)(hb0:b0<=W.heap.size) :
  Calls Tryz.prog 159 #[orcV L kn rc,.agg #[.slice R nr cr,.slice C nc cc],x] W (RetO J (.string (mkS (zbW f cols x))) (B+20) S W):=
 or_marks hO hj hB hT.c (by rw [← hT.lens.2];exact hI.c20) (fun y hy=>hI.cin hy) hx hxs hb0
theorem zgu (hO:zhS b0 L f J kn rc)(hj:J B W S)(hB:B+240<10000000)(hT:zhD W S base R nr cr C nc cc rows cols)(hI:zcn L f rows cols)(hb0:b0<=W.heap.size) :
  Calls Tryz.prog 157 #[orcV L kn rc,.agg #[.slice R nr cr,.slice C nc cc]] W (RetRN J (rnM (zaJ f cols rows)) (B+240) S W):=by
 have HO:=za hO;have HI:=za hI;have D:=za hT.lens;have aq:nr<=12:=by rw [← hT.lens.1];exact hI.r12
 have F:=za hI.c20;have aD:=@run_makeMap Tryz.prog;have I:Ext W ((W.alloc (.cells #[(L:Int),.func (.func kn) #[rc] #[]] 115)).alloc (.cells #[.slice R nr cr,.slice C nc cc] 101)):=((cY _).alloc _).alloc _;obtain⟨b3,b4⟩:=zO (cY ((W.alloc (.cells #[(L:Int),.func (.func kn) #[rc] #[]] 115)).alloc (.cells #[.slice R nr cr,.slice C nc cc] 101)));have v:=za (fun (q:Nat) (hq:W.heap.size<=q)=>zci.fresh hO.ok hj hq);have V:=hO.ok.keep hj I (fun _ _ h=>h.elim);have O:=za (hT.ext I);have aF:W.heap.size<((W.alloc (.cells #[(L:Int),.func (.func kn) #[rc] #[]] 115)).alloc (.cells #[.slice R nr cr,.slice C nc cc] 101)).heap.size∧W.heap.size+1<((W.alloc (.cells #[(L:Int),.func (.func kn) #[rc] #[]] 115)).alloc (.cells #[.slice R nr cr,.slice C nc cc] 101)).heap.size:=by simp;omega
 clear hO hI hT hj
 go_enter Tryz.func157,Tryz.ntmps157
 go_upto_region 1 with fail
 generalize (W.alloc _).alloc _=t at *;have s:Ext t (t.alloc (.map #[] 0)):=(cY _).alloc _;have o:zfZ (t.alloc (.map #[] 0)) t.heap.size 0 (fun _=>none):=zeH.made t;have X:=za ((Kp.refl V).ext HO.out.ok s);have B3:=za b3;have B4:=za b4;go_upto_region 2 with fail
 obtain⟨c,am⟩:∃ c,Hid (c=t.heap.size):=⟨_,za rfl⟩;have T:=am.out;rw [← T] at o ⊢;have an:t.heap.size<=c:=oM;clear T;have k4:=(b4.ext s).cell;have Z:¬ S c:=v.out c oM;have u:Hid (zfZ (t.alloc (.map #[] 0)) c 0 (rnM ((zaJ f cols rows).take 0))∧¬ S c):=⟨by rw [List.take_zero,rnM_nil];exact o,Z⟩;clear b3 b4 o V Z;generalize t.alloc (.map #[] 0)=w2 at *;clear s;go_wp2_with fail
 go_loopw [6,7,8,9,10,15] (fun _ _ _ _ _ i wr=>∃ (k n:Nat) (S1:Nat->Prop),i=.int .i64 k∧k<=nr∧n<=k∧Hid (Kp J (B+20*k) S t wr S1)∧Hid (zfZ wr c n (rnM ((zaJ f cols rows).take k))∧¬ S1 c)) (fun _ _ _ _ _ i _=>nr - (intOf i).toNat)
 case atStart=>exact⟨0,0,S,rfl,dF _,dF _,X,u⟩
 case round =>
  clear X u k4;obtain⟨k,n,S1,rfl,hk,aE,a,g⟩:=hrel;have k3:=(a.out.blk B3.out (v.out _ (dD _))).1.cell;have k4:=(a.out.blk B4.out (v.out _ oM)).1.cell
  by_cases hlt:k<nr
  ·have ax:(k:Int)<(nr:Int):=oM;obtain⟨x,hx⟩:∃ x,rows[k]?=some x:=⟨_,dC (oH D.out.1)⟩;have Hx:=za hx;obtain⟨gR,rfl,hc⟩:=zil (O.out.kp a.out).r.own hx;obtain⟨U,aG⟩:=HI.out.rin (dB hx);have ak:=za U;have aj:=za (O.out.kp a.out);obtain⟨z,hz⟩:∃ z,Hid (mkS (zbW f cols x)=z):=⟨_,za rfl⟩;have E:=za (zik (x:=x) HO.out a.out.j oM aj.out HI.out ak.out oM (oH a.out.size));rw [hz.out] at E;have y:=za (show domS z by rw [← hz.out];exact mkS_dom F.out x);have ae:=za (show (zaJ f cols rows).take (k+1)=(zaJ f cols rows).take k++[z] by
    rw [dK]
    congr 1
    unfold zaJ;rw [dP,Hx.out,← hz.out];rfl)
   have ao:=za (show ((zaJ f cols rows).take k).length=k by rw [eV];simp only [zaJ,dW];have:=D.out.1;omega);clear hx U;have ap:n<1152921504606846976:=oM;cases hm:zdm ((zaJ f cols rows).take k) z with
   |true =>
    have G:=za (show rnM ((zaJ f cols rows).take (k+1))=rnM ((zaJ f cols rows).take k) by rw [ae.out,rnM_keep hm]);have H:=za (show (rnM ((zaJ f cols rows).take k) z).isSome=true by rw [rnM_is,hm]);clear hm;go_upto_region 6 with (go_at_call 159;refine E.out.mono ?_;rintro e w5 ⟨M,rfl,d⟩)
    obtain⟨m,p⟩:=zfZ.kp g.out.1 g.out.2 d;have l:=za (a.out.trans d);have ab:=za (show zfZ w5 c n (rnM ((zaJ f cols rows).take (k+1)))∧¬ M c by rw [G.out];exact⟨m,p⟩);clear k3 k4 hc d p;go_wp2_with (refine zdn (key:=z) _ keyS rfl _ _ rfl rfl m rfl y.out ?_;rw [H.out];intro cc' hcc;clear hcc)
    go_roundw
    case rel=>exact⟨k+1,n,M,gM,oM,oM,za (by have:=l.out;rwa [show B+20*k+20=B+20*(k+1) by omega] at this),ab⟩
    case measure=>simp [intOf];omega
   |false =>
    have G:=za (show rnM ((zaJ f cols rows).take (k+1))=updG (rnM ((zaJ f cols rows).take k)) z k by rw [ae.out,rnM_add hm,ao.out]);have H:=za (show (rnM ((zaJ f cols rows).take k) z).isSome=false by rw [rnM_is,hm]);clear hm;go_upto_region 6 with (go_at_call 159;refine E.out.mono ?_;rintro e w5 ⟨M,rfl,d⟩)
    obtain⟨m,p⟩:=zfZ.kp g.out.1 g.out.2 d;have l:=za (a.out.trans d);clear k3 k4 hc d;have Q:b0<=c:=oM;go_wp2_with (first
     |(refine zdn (key:=z) _ keyS rfl _ _ rfl rfl m rfl y.out ?_;rw [H.out];intro cc' hcc;clear hcc)
     |(refine ziX (key:=z) (v9:=k) (b:=c) _ keyS rfl _ _ _ (.inl rfl) rfl m ap rfl rfl y.out oM ?_;intro w6 hm6 hg6))
    have Y:=za (l.out.grown HO.out.ok hg6 (fun q hq=>by
     obtain rfl:=Option.some.inj hq;exact⟨an,Q,p⟩))
    have ad:=za (show zfZ w6 c (n+1) (rnM ((zaJ f cols rows).take (k+1)))∧¬ M c by rw [G.out];exact⟨hm6,p⟩);go_roundw
    case rel=>exact⟨k+1,n+1,M,gM,oM,oM,za (by have:=Y.out;rwa [show B+20*k+20=B+20*(k+1) by omega] at this),ad⟩
    case measure=>simp [intOf];omega
  ·obtain rfl:k=nr:=oM;have aa:=za (show RetRN J (rnM (zaJ f cols rows)) (B+240) S W (.returned (.map (some c))) wr from ⟨S1,c,n,rfl,by
    have:=g.out.1;rwa [dI (by simp only [zaJ,dW];have:=D.out.1;omega)] at this,g.out.2,oM,oM,(a.out.more HO.out.ok oM).back I⟩)
   go_wp2_with fail
   go_ret;exact aa.out
end
theorem conv_rune0 (w:World):(convert 21 9 (.int .i32 97)).run Tryz.prog w=.ok (.string (zcp 0)) w:=kM
theorem conv_rune1 (w:World):(convert 21 9 (.int .i32 98)).run Tryz.prog w=.ok (.string (zcp 1)) w:=kM
theorem conv_rune2 (w:World):(convert 21 9 (.int .i32 99)).run Tryz.prog w=.ok (.string (zcp 2)) w:=kM
theorem conv_rune3 (w:World):(convert 21 9 (.int .i32 100)).run Tryz.prog w=.ok (.string (zcp 3)) w:=kM
theorem conv_rune4 (w:World):(convert 21 9 (.int .i32 101)).run Tryz.prog w=.ok (.string (zcp 4)) w:=kM
theorem conv_rune5 (w:World):(convert 21 9 (.int .i32 102)).run Tryz.prog w=.ok (.string (zcp 5)) w:=kM
theorem conv_rune {l:Nat}(hl:l<6) (w:World):(convert 21 9 (.int .i32 ((97+l:Nat):Int))).run Tryz.prog w=.ok (.string (zcp l)) w:=by
 have a:l=0∨l=1∨l=2∨l=3∨l=4∨l=5:=oM;rcases a with rfl|rfl|rfl|rfl|rfl|rfl
 ·exact conv_rune0 w
 ·exact conv_rune1 w
 ·exact conv_rune2 w
 ·exact conv_rune3 w
 ·exact conv_rune4 w
 ·exact conv_rune5 w
section
variable {J:zci} {B b0 L base nr cr nc cc kn:Nat} {S S':Nat->Prop} {W W':World} {R C:Option Addr} {rows cols:List ByteArray} {f:ByteArray->Bool} {rc:Value}
theorem or_firstOpen (hO:zhS b0 L f J kn rc)(hj:J B W S)(hB:B+1680<10000000)(hT:zhD W S base R nr cr C nc cc rows cols)(hI:zcn L f rows cols)(hb0:b0<=W.heap.size)(hL:L<64) :
  Calls Tryz.prog 232 #[orcV L kn rc,.agg #[.slice R nr cr,.slice C nc cc]] W (RetO J (.tuple #[.string ((zaV L f rows cols).getD ⟨#[]⟩),.bool (zaV L f rows cols).isSome]) (B+1680) S W):=by
 have HO:=za hO;have HI:=za hI;have aE:=za hT.lens;have a2:nr<=12:=by rw [← hT.lens.1];exact hI.r12
 have O:Ext W ((W.alloc (.cells #[(L:Int),.func (.func kn) #[rc] #[]] 115)).alloc (.cells #[.slice R nr cr,.slice C nc cc] 101)):=((cY _).alloc _).alloc _;obtain⟨b3,b4⟩:=zO (cY ((W.alloc (.cells #[(L:Int),.func (.func kn) #[rc] #[]] 115)).alloc (.cells #[.slice R nr cr,.slice C nc cc] 101)));have u:=za (fun (q:Nat) (hq:W.heap.size<=q)=>zci.fresh hO.ok hj hq);have aB:=hO.ok.keep hj O (fun _ _ h=>h.elim);have ag:=za (hT.ext O);have bo:W.heap.size<((W.alloc (.cells #[(L:Int),.func (.func kn) #[rc] #[]] 115)).alloc (.cells #[.slice R nr cr,.slice C nc cc] 101)).heap.size∧W.heap.size+1<((W.alloc (.cells #[(L:Int),.func (.func kn) #[rc] #[]] 115)).alloc (.cells #[.slice R nr cr,.slice C nc cc] 101)).heap.size:=by simp;omega
 have aJ:Sm L:=tM;clear hO hI hT hj
 go_enter Tryz.func232,Tryz.ntmps232
 go_upto_region 1 with fail
 generalize (W.alloc _).alloc _=w1 at *;have k3:=b3.cell;have k4:=b4.cell;have an:=za (zgu HO.out aB oM ag.out HI.out oM);have D:=za (show zaV L f rows cols=(rows.flatMap fun r=>(letters L 6).map fun l=>r++zcp l).find? (fun x=>!zdm (zaJ f cols rows) (mkS (zbW f cols x))) from rfl);obtain⟨op,E⟩:∃ op,Hid (zaV L f rows cols=op):=⟨_,za rfl⟩;rw [E.out] at D ⊢;have aD:=za (fun l (hl:l∈letters L 6)=>zK.1 hl);have a0:(letters L 6).length<=6:=zD L 6;obtain⟨g,V⟩:∃ g,Hid (letters L 6=g):=⟨_,za rfl⟩;rw [V.out] at D aD a0;obtain⟨p,aN⟩:∃ p,Hid (zaJ f cols rows=p):=⟨_,za rfl⟩;rw [aN.out] at D an;have al:=za HI.out.c20;go_upto_region 2 with (go_at_call 157;refine an.out.mono ?_;rintro e w2 ⟨S2,G,n,rfl,aF,Y,bd,be,ai⟩)
 have B3:=za b3;have B4:=za b4;have U:=za ai;have Z:=za (show zfZ w2 G n (rnM p)∧¬ S2 G from ⟨aF,Y⟩);have k4:=(ai.blk b4 (u.out _ oM)).1.cell;clear b3 b4 k3 ai aF Y an aB;go_wp2_with fail
 go_loopw [8,10,11,12,13,20] (fun _ _ _ _ _ iv wr=>∃ (i:Nat) (S1:Nat->Prop),iv=.int .i64 i∧i<=nr∧Hid (Kp J (B+240+120*i) S w1 wr S1)∧Hid (zfZ wr G n (rnM p)∧¬ S1 G)∧Hid (∀ x∈(rows.take i).flatMap (fun r=>g.map fun l=>r++zcp l),zdm p (mkS (zbW f cols x))=true)) (fun _ _ _ _ _ iv _=>nr - (intOf iv).toNat)
 case atStart=>exact⟨0,S2,rfl,dF _,U,Z,za (fun x hx=>by simp at hx)⟩
 case round =>
  clear U Z k4;obtain⟨i,S1,rfl,hi,t,d,m⟩:=hrel;have k3:=(t.out.blk B3.out (u.out _ (dD _))).1.cell;have k4:=(t.out.blk B4.out (u.out _ oM)).1.cell
  by_cases hlt:i<nr
  ·have bc:(i:Int)<(nr:Int):=oM;obtain⟨x,hx⟩:∃ x,rows[i]?=some x:=⟨_,dC (oH aE.out.1)⟩;have Hx:=za hx;obtain⟨gR,rfl,hc⟩:=zil (ag.out.kp t.out).r.own hx;have aL:=za (dB hx);have bq:x.size<=12:=(HI.out.rin aL.out).2;have ab:=za (fun (q:Nat) (hq:wr.heap.size<=q)=>zci.fresh HO.out.ok t.out.j hq);clear hx;go_upto_region 6 with (go_at_call 158;refine (zat L aJ _).mono ?_;rintro e w3 ⟨AL,cL,rfl,c,aq⟩)
   rw [V.out] at c ⊢;have a:=za (t.out.ext HO.out.ok aq);have aa:=za (show zfZ w3 G n (rnM p)∧¬ S1 G from ⟨d.out.1.ext aq,d.out.2⟩);have F:=za (show zgN w3 S1 wr.heap.size 3 1 (.slice AL g.length cL) g.length (zax g) from ⟨c,fun b hb=>ab.out b (c.lt b hb).1⟩);obtain⟨bl,ay⟩:∃ bl,Hid (bl=wr.heap.size):=⟨_,za rfl⟩;rw [← ay.out] at F;clear c aq k3 k4 hc d ab;go_wp2_with fail
   go_loopw [10,11,12,13,28] (fun _ _ _ _ kv wr=>∃ (k:Nat) (S3:Nat->Prop),kv=.int .i64 k∧k<=g.length∧Hid (Kp J (B+240+120*i+20*k) S w1 wr S3)∧Hid (zfZ wr G n (rnM p)∧¬ S3 G)∧Hid (zgN wr S3 bl 3 1 (.slice AL g.length cL) g.length (zax g))∧Hid (∀ y∈(g.take k).map (fun l=>x++zcp l),zdm p (mkS (zbW f cols y))=true)) (fun _ _ _ _ kv _=>g.length - (intOf kv).toNat)
   case atStart=>exact⟨0,S1,rfl,dF _,a,aa,F,za (fun y Q=>by simp at Q)⟩
   case round =>
    clear a aa F;obtain⟨k,S3,rfl,hk,a,d,am,ah⟩:=hrel;have k3:=(a.out.blk B3.out (u.out _ (dD _))).1.cell;have k4:=(a.out.blk B4.out (u.out _ oM)).1.cell
    by_cases hkl:k<g.length
    ·have bb:(k:Int)<(g.length:Int):=oM;obtain⟨l,hl⟩:∃ l,g[k]?=some l:=⟨_,dC hkl⟩;obtain⟨v,aj⟩:=aD.out l (dB hl);have bk:=za aj;have Hl:=za hl;obtain⟨gl,rfl,-,-⟩:=zU am.out.own oM;have cl:=zdu am.out.own hkl;rw [dH,hl,fI] at cl;have aX:∀ X:World,(convert 21 9 (.int .i32 (97+(l:Int)))).run Tryz.prog X=.ok (.string (zcp l)) X:=fun X=>by
      have:=conv_rune v X;rwa [Int.natCast_add] at this
     have bf:IntKind.i32.wrap (97+(l:Int))=97+(l:Int):=by
      simp [IntKind.wrap,IntKind.bits,IntKind.signed];omega
     have o:=za (HI.out.snoc aL.out v aj);obtain⟨z,hz⟩:∃ z,Hid (zcp l=z):=⟨_,za rfl⟩;have bs:z.size=1:=by rw [← hz.out];exact zcU l
     obtain⟨y,Q⟩:∃ y,Hid (x++z=y):=⟨_,za rfl⟩;have ar:=za (show x++zcp l=y by rw [hz.out,Q.out]);rw [ar.out] at o;have bp:¬ 9223372036854775807<x.size+1:=oM;rw [hz.out] at aX;have aT:=za (ag.out.kp a.out);have ak:=za (zik (x:=y) HO.out a.out.j oM aT.out HI.out o.out.1 (oH o.out.2) (oH a.out.size));obtain⟨m9,M⟩:∃ m9,Hid (mkS (zbW f cols y)=m9):=⟨_,za rfl⟩;rw [M.out] at ak;have aA:=za (show domS m9 by rw [← M.out];exact mkS_dom al.out y);have br:=Q.out;clear hl aj;cases hm:zdm p m9 with
     |false =>
      have Hm:=za hm;have ao:=za (show (rnM p m9).isSome=false by rw [rnM_is,hm]);have ap:=za (show op=some y by
       rw [D.out];exact open_find Hx.out Hl.out ar.out m.out ah.out (by rw [M.out];exact Hm.out))
      clear hm;go_upto_region 8 with fail
      go_upto_region 9 with ((go_at_call 160;refine (zbS v _).mono ?_;rintro e w7 ⟨rfl,rfl⟩))
      go_wp2_with (first
       |(go_at_call 160;refine (zbS v _).mono ?_;rintro e w7 ⟨rfl,rfl⟩)
       |(go_at_call 159;refine ak.out.mono ?_;rintro e w5 ⟨S5,rfl,s⟩;obtain⟨I,aI⟩:=zfZ.kp d.out.1 d.out.2 s)
       |(at_lookup;refine zdn (key:=m9) _ keyS rfl _ _ rfl rfl I rfl aA.out ?_;rw [ao.out];intro cc' hcc;clear hcc))
      go_ret2;exact⟨S5,by rw [E.out,ap.out];rfl,((a.out.trans s).more HO.out.ok oM).back O⟩
     |true =>
      have Hm:=za hm;have ao:=za (show (rnM p m9).isSome=true by rw [rnM_is,hm]);have az:=za (show ∀ y∈(g.take (k+1)).map (fun l=>x++zcp l),zdm p (mkS (zbW f cols y))=true from fun y' hy'=>by
       rw [dK,Hl.out,List.map_append] at hy';rcases List.mem_append.1 hy' with T|T
       ·exact ah.out y' T
       ·simp at T;rw [T,ar.out,M.out];exact Hm.out)
      clear hm;go_upto_region 8 with fail
      go_upto_region 9 with ((go_at_call 160;refine (zbS v _).mono ?_;rintro e w7 ⟨rfl,rfl⟩))
      go_wp2_with (first
       |(go_at_call 159;refine ak.out.mono ?_;rintro e w5 ⟨S5,rfl,s⟩;obtain⟨I,aI⟩:=zfZ.kp d.out.1 d.out.2 s)
       |(at_lookup;refine zdn (key:=m9) _ keyS rfl _ _ rfl rfl I rfl aA.out ?_;rw [ao.out];intro cc' hcc;clear hcc))
      have aC:=za (a.out.trans s);have aH:=za (am.out.kp s);have aK:=za (show zfZ w5 G n (rnM p)∧¬ S5 G from ⟨I,aI⟩);go_roundw
      case rel=>exact⟨k+1,S5,gM,oM,za (by have:=aC.out;rwa [show B+240+120*i+20*k+20=B+240+120*i+20*(k+1) by omega] at this),aK,aH,az⟩
      case measure=>simp [intOf];omega
    ·have aY:¬ (k:Int)<(g.length:Int):=oM;have H:=za (show ∀ y∈(rows.take (i+1)).flatMap (fun r=>g.map fun l=>r++zcp l),zdm p (mkS (zbW f cols y))=true from fun y Q=>by
      rw [dK,Hx.out,List.flatMap_append] at Q;rcases List.mem_append.1 Q with T|T
      ·exact m.out y T
      ·refine ah.out y ?_;rw [dI oM];simpa using T)
     have aZ:=za (a.out.more HO.out.ok (show B+240+120*i+20*k<=B+240+120*(i+1) by omega));go_wp2_with fail
     go_roundw
     case rel=>exact⟨i+1,S3,gM,oM,aZ,d,H⟩
     case measure=>simp [intOf];omega
  ·have aY:¬ (i:Int)<(nr:Int):=oM;have a1:=za (show op=none by
    rw [D.out,jA];intro y Q;rw [m.out y (by rw [dI (oH aE.out.1)];exact Q)];decide)
   have aG:=za (show RetO J (.tuple #[.string ((zaV L f rows cols).getD ⟨#[]⟩),.bool (zaV L f rows cols).isSome]) (B+1680) S W (.returned (.tuple #[.string ⟨#[]⟩,.bool false])) wr from ⟨S1,by rw [E.out,a1.out];rfl,(t.out.more HO.out.ok oM).back O⟩);go_wp2_with fail
   go_ret2;exact aG.out
end
theorem zbR (h:Reads w lo hi 1 A n (zS l))(hn:n<=1048576) :
  Calls Tryz.prog 231 #[.slice A n c] w fun e w'=>∃ v',e=.returned v'∧w'.ownsRow w.heap.size 9 1 v' n (zS l)∧Ext w w':=by
 cases A with
 |none =>
  obtain rfl:n=0:=by
   rcases gK n with b|b
   ·exact b
   ·obtain⟨_,d,_⟩:=h.2.2 b;cases d
  have f:=h.length;obtain rfl:l=[]:=dN (by rw [zbf] at f;omega);clear h;have g:=fun (w:World) (a:Option Addr) (n c n' c':Nat)=>Lib.run_eql_slice_nil (P:=Tryz.prog) w 99 _ a n c n' c' Tryz.underlying99
  go_enter Tryz.func231,Tryz.ntmps231
  go_wp2;go_ret;exact⟨_,rfl,World.ownsRow_nil _ _ _ _,cY _⟩
 |some ad =>
  have H:=za (h.ext ((cY w).alloc (.cells #[] 9)));clear h;have g:=fun (w:World) (a:Option Addr) (n c n' c':Nat)=>Lib.run_eql_slice_nil (P:=Tryz.prog) w 99 _ a n c n' c' Tryz.underlying99
  go_enter Tryz.func231,Tryz.ntmps231
  go_wp2_with (at_builtin;refine zdD _ rfl _ _ 99 rfl w.heap.size 9 _ 1 16 Tryz.underlying99 zo rfl dM _ 0 [] rfl (World.ownsRow_made w #[] 0 (dD _) (dF _) rfl) _ _ (some ad) n c (zS l) rfl H.out (zu l) lM oM sM ?_;intro v' w1 zku hg hat)
  have i:=zgl hg;rw [dT,eG] at zku;go_ret;exact⟨_,rfl,zku,i⟩
theorem clone_edge {l:List Edg} (h:Reads w lo hi 3 A n (zw l))(hn:n<=1048576) :
  Calls Tryz.prog 238 #[.slice A n c] w fun e w'=>∃ v',e=.returned v'∧w'.ownsRow w.heap.size 152 3 v' n (zw l)∧Ext w w':=by
 cases A with
 |none =>
  obtain rfl:n=0:=by
   rcases gK n with b|b
   ·exact b
   ·obtain⟨_,d,_⟩:=h.2.2 b;cases d
  have f:=h.length;obtain rfl:l=[]:=dN (by rw [zbn] at f;omega);clear h;have g:=fun (w:World) (a:Option Addr) (n c n' c':Nat)=>Lib.run_eql_slice_nil (P:=Tryz.prog) w 36 _ a n c n' c' Tryz.underlying36
  go_enter Tryz.func238,Tryz.ntmps238
  go_wp2;go_ret;exact⟨_,rfl,World.ownsRow_nil _ _ _ _,cY _⟩
 |some ad =>
  have H:=za (h.ext ((cY w).alloc (.cells #[] 152)));clear h;have g:=fun (w:World) (a:Option Addr) (n c n' c':Nat)=>Lib.run_eql_slice_nil (P:=Tryz.prog) w 36 _ a n c n' c' Tryz.underlying36
  go_enter Tryz.func238,Tryz.ntmps238
  go_wp2_with (at_builtin;refine zdD _ rfl _ _ 36 rfl w.heap.size 152 _ 3 24 Tryz.underlying36 zbo rfl dM _ 0 [] rfl (World.ownsRow_made w #[] 0 (dD _) (dF _) rfl) _ _ (some ad) n c (zw l) rfl H.out (zdk l) lM oM sM ?_;intro v' w1 zku hg hat)
  have i:=zgl hg;rw [dT,eG] at zku;go_ret;exact⟨_,rfl,zku,i⟩
theorem strs_at (h:Reads w lo hi 1 A n (zS l))(hk:l[k]?=some x):∃ ad,A=some ad∧w.cell? (ad.add k)=some (.string x):=by
 have b:=h.length;rw [zbf] at b;obtain⟨ad,y,e,_,_,c,a⟩:=h.str (k:=k) (by have:=(List.getElem?_eq_some_iff.1 hk).1;omega);obtain rfl:=Option.some.inj (hk.symm.trans c.out);exact⟨ad,e,a⟩
theorem index_str (h:Reads w lo hi 1 A n (zS l)) :
  Calls Tryz.prog 273 #[.slice A n c,x] w fun e w'=>∃ r:Int,e=.returned (.int .i64 r)∧(decide (0<=r)=zdm l x)∧w=w':=by
 have q:=h.length;have C:=h.len;rw [zbf] at q;have H:=za h;have b:=za (show l.length=n by omega);clear h q
 go_enter Tryz.func273,Tryz.ntmps273
 go_wp2_with fail
 go_loopw [5,8] (fun _ i wr=>∃ k:Nat,i=.int .i64 k∧k<=n∧Hid (∀ j,j<k->l[j]?≠some x)∧wr=w) (fun _ i _=>n - (intOf i).toNat)
 case atStart=>exact⟨0,rfl,dF _,za (fun j h=>oM),rfl⟩
 case round =>
  obtain⟨k,rfl,hk,d,rfl⟩:=hrel
  by_cases hlt:k<n
  ·have s:(k:Int)<(n:Int):=oM;obtain⟨y,m⟩:∃ y,l[k]?=some y:=⟨_,dC (oH b.out)⟩;have o:=za m;obtain⟨z,rfl,B⟩:=strs_at H.out m;clear m
   by_cases hxy:x=y
   ·subst hxy;have a:=za (show zdm l x=true from zaD.2 (dB o.out));go_wp2_with fail
    go_ret;exact⟨k,rfl,by rw [a.out];simp,rfl⟩
   ·have v:=str_ne hxy;have f:=za (show ∀ j,j<k+1->l[j]?≠some x from fun j g e=>by
     rcases eF (eZ g) with t|rfl
     ·exact d.out j t e
     ·have p:=o.out;rw [e] at p;exact hxy (Option.some.inj p))
    clear hxy d;go_wp2_with fail
    go_roundw
    case rel=>exact⟨k+1,gM,oM,f,trivial⟩
    case measure=>simp [intOf];omega
  ·have u:(n:Int)<=(k:Int):=oM;have a:=za (show zdm l x=false from zcH.2 (fun hm=>by
    obtain⟨j,g⟩:=List.getElem?_of_mem hm;exact d.out j (by have:=(List.getElem?_eq_some_iff.1 g).1;have:=b.out;omega) g))
   go_wp2_with fail
   go_ret;exact⟨-1,rfl,by rw [a.out];simp,rfl⟩
theorem contains_str (h:Reads w lo hi 1 A n (zS l)) :
  Calls Tryz.prog 233 #[.slice A n c,x] w fun e w'=>e=.returned (.bool (zdm l x))∧w=w':=by
 go_enter Tryz.func233,Tryz.ntmps233
 go_wp2_with ((go_at_call 273;refine (index_str h).mono ?_;rintro e b ⟨r,rfl,a,rfl⟩))
 go_ret;exact⟨rfl,rfl⟩
theorem zcE (h:zcn L f rows cols)(ho:zaV L f rows cols=none)(hL:L<64):zj (zeq L f rows cols)=true:=by
 unfold zj zeq;simp only [dG,decide_eq_true_eq,dW,eH];refine⟨oM,⟨h.r1,h.r12⟩,trivial,fun row hrow=>?_⟩;obtain⟨r,b,rfl⟩:=List.mem_map.1 hrow;unfold rowB zdY;simp only [dG,decide_eq_true_eq,dW,eH];refine⟨by rw [eY],fun q hq=>?_⟩;obtain⟨l,a,rfl⟩:=List.mem_map.1 hq;have:=zjO (zeS ho b a);rw [zaJ,dW] at this;exact⟨oM,by exact_mod_cast this⟩
section
variable {w W:World} {lo hi m d m' d':Nat} {B B':Option Addr} {p:Aut} {t:ByteArray}
theorem zir (h:zJ w lo hi B m B' m' p)(hv:zj p=true)(ht:inB t p.al.toNat=true) :
  Calls Tryz.prog 271 #[.agg #[p.al,.slice B m d,.slice B' m' d'],t] w fun e w'=>e=.returned (.int .i64 (zaQ p 0 (wl t):Nat))∧Ext w w':=by
 obtain⟨j,k⟩:=(zk hv).1;obtain⟨al,a⟩:∃ al:Nat,Hid (p.al=al):=⟨p.al.toNat,by unfold Hid;omega⟩;have c:al<=63:=oH a.out;have l:=za (show p.al.toNat=al by have:=a.out;omega);have n:=zaM ht;have s:=zbk n;have g:=za (fun W (hW:Ext w W)=>zN _ _ _ _ d _ _ d' _ _ (h.ext hW));rw [hv] at g;have q:=za (fun W (hW:Ext w W)=>zjs (d:=d) (d':=d') (h.ext hW) hv n);rw [l.out] at ht;have i:=za ht;rw [a.out] at g q ⊢;clear h hv ht n j k
 go_enter Tryz.func271,Tryz.ntmps271
 go_upto_region 1 with fail
 generalize U0:w.alloc _=v at *;obtain⟨b,r⟩:=Ext.x1_ U0;clear U0;have x:=r.cells;have u:=cY v;go_wp2_with (first
  |(go_at_call 200;refine (g.out _ b).mono (mQ fun w2 f=>?_))
  |(go_at_call 143;refine (zaj oM c).mono ?_;rw [i.out];rintro e y ⟨rfl,rfl⟩)
  |(go_at_call 263;refine (q.out _ (b.trans f)).mono (mQ fun w4 o=>?_)))
 go_ret;exact⟨rfl,b.trans (f.trans o)⟩
theorem zhw (h:zJ w lo hi B m B' m' p)(hv:zj p=true)(ht:inB t p.al.toNat=true) :
  Calls Tryz.prog 224 #[.agg #[p.al,.slice B m d,.slice B' m' d'],t] w fun e w'=>e=.returned (.bool (zco p (zaQ p 0 (wl t))))∧Ext w w':=by
 have g:=za (fun W (hW:Ext w W)=>zir (d:=d) (d':=d') (h.ext hW) hv ht);have i:=za (fun W (hW:Ext w W) q hq=>zdW (q:=q) (h.ext hW) hq);have c:zaQ p 0 (wl t)<p.next.length:=zdv hv (ziD (zaM ht)) (by have:=(zk hv).2.1;omega);have b:m'=p.next.length:=by rw [h.n2,(zk hv).2.2.1]
 rw [← b] at c;generalize zaQ p 0 (wl t)=q at *;have k:(q:Int)<(m':Int):=oM;clear h hv ht b
 go_enter Tryz.func224,Tryz.ntmps224
 go_upto_region 1 with fail
 generalize U0:w.alloc _=o at *;obtain⟨a,j⟩:=Ext.x1_ U0;clear U0;have r:=j.cells;have n:=cY o;go_upto_region 2 with (first
  |(go_at_call 271;refine (g.out _ a).mono (mQ fun w2 f=>?_)))
 obtain⟨s,rfl,u⟩:=i.out w2 (a.trans f) q c;have l:(0:Int)<=(q:Int):=oM;go_wp2_with fail
 go_ret;exact⟨zm sM,a.trans f⟩
end
noncomputable def stT (L:Nat) (f:ByteArray->Bool) (rows cols:List ByteArray) (x:ByteArray) (k:Nat):Nat:=zaQ (zeq L f rows cols) 0 ((wl x).take k)
noncomputable def ziI (L:Nat) (f:ByteArray->Bool) (rows cols:List ByteArray) (x:ByteArray) (k:Nat):Bool:=f (rows.getD (stT L f rows cols x k) ⟨#[]⟩++x.extract k x.size)
noncomputable def zdQ (L:Nat) (f:ByteArray->Bool) (rows cols:List ByteArray) (x:ByteArray):Option ByteArray:=
 if (inB x L&&decide (x.size<=4000))=true∧zco (zeq L f rows cols) (zaQ (zeq L f rows cols) 0 (wl x))≠f x then
  ((eW x.size).find? fun k=>ziI L f rows cols x k != ziI L f rows cols x (k+1)).map fun k=>x.extract (k+1) x.size
 else none
theorem zfd {P:Nat->Bool} (hk:k<n)(hp:∀ j,j<k->P j=false)(hx:P k=true):(eW n).find? P=some k:=by
 rw [List.find?_range_eq_some];exact⟨hx,List.mem_range.2 hk,fun j hj=>by rw [hp j hj];rfl⟩
section
variable {w W:World} {n c m d m' d' L:Nat} {A B B':Option Addr} {s:Sys} {p:Aut} {nr nc cr cc:Nat} {R C:Option Addr} {rows cols:List ByteArray}
theorem ziT (h:Tch w A n B m B' m' s p L)(hT:TabAt w R nr C nc rows cols)(hI:zcn L (zx s p L) rows cols)(hcr:nr<=cr)(hcc:nc<=cc)(hcl:zaV L (zx s p L) rows cols=none)(hx:x.size<=9223372036854775807) :
  Calls Tryz.prog 148 #[.agg #[.bool false,(0:Int),(),(),s.al,s.st,.slice A n c,p.al,.slice B m d,.slice B' m' d',L],.agg #[.slice R nr cr,.slice C nc cc],x] w fun e w'=>e=.returned (.tuple #[.string ((zdQ L (zx s p L) rows cols x).getD ⟨#[]⟩),.bool (zdQ L (zx s p L) rows cols x).isSome])∧Ext w w':=by
 obtain⟨e1,e2⟩:=hT.nr;have aK:=zcE hI hcl h.lt;have aU:=hI.r12;rw [e1] at aU;have bg:=za (fun W (hW:Ext w W)=>zdy (c:=c) (d:=d) (d':=d') (h.ext hW) (hT.ext hW) hI hcr hcc hcl);have ah:=za (fun W (hW:Ext w W)=>zhg (c:=c) (d:=d) (d':=d') (h.ext hW) hx);have H:=za (fun W (hW:Ext w W) (y:ByteArray) hy=>zeW (c:=c) (d:=d) (d':=d') (t:=y) (h.ext hW) hy);obtain⟨lo,hi,b7,bX,h1,h2⟩:=hT;have H1:=za (fun W (hW:Ext w W)=>h1.ext hW);have aD:=za (fun x hx=>hI.rin (x:=x) hx);have He:=za e1;have E:=za (show (zeq L (zx s p L) rows cols).next.length=nr by unfold zeq;rw [dW];exact e1);have D:=za (show (zeq L (zx s p L) rows cols).al=(L:Int) from rfl);obtain⟨op,aR⟩:∃ op,Hid (zdQ L (zx s p L) rows cols x=op):=⟨_,rfl⟩;rw [aR.out];have ai:=za (fun k=>show stT L (zx s p L) rows cols x k=zaQ (zeq L (zx s p L) rows cols) 0 ((wl x).take k) from rfl);have I:=za (show zdQ L (zx s p L) rows cols x=if (inB x L&&decide (x.size<=4000))=true∧zco (zeq L (zx s p L) rows cols) (zaQ (zeq L (zx s p L) rows cols) 0 (wl x))≠zx s p L x then
  ((eW x.size).find? fun k=>ziI L (zx s p L) rows cols x k != ziI L (zx s p L) rows cols x (k+1)).map fun k=>x.extract (k+1) x.size else none from rfl)
 rw [aR.out] at I;have aC:=za (fun k=>show ziI L (zx s p L) rows cols x k=zx s p L (rows.getD (stT L (zx s p L) rows cols x k) ⟨#[]⟩++x.extract k x.size) from rfl);generalize ziI L (zx s p L) rows cols x=u at *;generalize stT L (zx s p L) rows cols x=st at *;generalize zeq L (zx s p L) rows cols=J at *;have U:=za aK;clear h h1 h2 hI e1 e2 aK hcl
 go_enter Tryz.func148,Tryz.ntmps148
 go_upto_region 1 with fail
 generalize U0:(w.alloc _).alloc _=w0 at *;obtain⟨hx0,b1,b2⟩:=Ext.x2_ U0;clear U0;have CB:=b1.cells;have CT:=b2.cells;have aW:=cY w0;go_upto_region 2 with (first
  |(go_at_call 71;refine (bg.out _ hx0).mono ?_;rintro e w1 ⟨X,k1,d1,X',bq,aj,rfl,a5,aX⟩))
 rw [D.out];have aJ:=(a5.ext ((cY w1).alloc (.cells #[.int .i64 (L:Nat),.slice X k1 d1,.slice X' bq aj] 31))).reads;generalize U0:w1.alloc _=w2 at *;have b3:=dU U0;have aY:=Ext.al_ U0;clear U0;have a:=aX.trans aY;have bc:=fun W (hW:Ext w2 W)=>CB W (a.trans hW);have be:=fun W (hW:Ext w2 W)=>CT W (a.trans hW);have CA:=b3.cells;have aA:=za (fun W (hW:Ext w2 W)=>aJ.ext hW);have o:=cY w2;clear a5 aJ aW;cases hok:(inB x L&&decide (x.size<=4000))
 ·have V:=za hok;have O:=za (show op=none by rw [I.out,hok,if_neg (by rintro ⟨h,-⟩;cases h)]);clear hok;refine uR (fun X=>Ext w2 X) [] (zv.of [0,1,2,3,4,5,6,7,8,9,10,12,13,11,14,15,16]) ?_;refine uQ ?_;refine ze fun K hK=>?_;go_simp;refine (ah.out _ (hx0.trans (a.trans o.drew))).mono ?_;rw [V.out];rintro e w3 ⟨rfl,F⟩;have b:Ext w2 w3:=o.drew.trans F;refine hK.out _ _ b ?_;refine pT ?_;refine uQ ?_;refine zf ?_;go_wp2_with fail
  go_ret2;exact⟨by rw [O.out];rfl,hx0.trans (a.trans b)⟩
 ·have V:=za hok;have aa:=hok;simp only [dG,decide_eq_true_eq] at aa;obtain⟨M,b5⟩:=aa;have z:=za (fun W (hW:Ext w2 W)=>zhw (d:=d1) (d':=aj) (t:=x) (aA.out W hW) U.out (by rw [D.out,eY];exact M));rw [D.out] at z;have ag:=za (fun W (hW:Ext w2 W)=>H.out W (hx0.trans (a.trans hW)) x hx);obtain⟨ac,aI⟩:∃ ac,Hid (zco J (zaQ J 0 (wl x))=ac):=⟨_,rfl⟩;obtain⟨fx,aO⟩:∃ fx,Hid (zx s p L x=fx):=⟨_,rfl⟩;rw [aI.out] at z;rw [aO.out] at ag;rw [aI.out,aO.out,hok] at I;clear hok
  by_cases heq:ac=fx
  ·subst heq;have O:=za (show op=none by rw [I.out,if_neg (by rintro ⟨-,h⟩;exact h rfl)]);refine uR (fun X=>Ext w2 X) [] (zv.of [0,1,2,3,4,5,6,7,8,9,10,12,13,11,14,15,16]) ?_;refine uQ ?_;refine ze fun K hK=>?_;go_simp;refine (ah.out _ (hx0.trans (a.trans o.drew))).mono ?_;rw [V.out];rintro e w3 ⟨rfl,F⟩;have b:Ext w2 w3:=o.drew.trans F;refine hK.out _ _ b ?_;refine pT ?_;refine uQ ?_;refine ze fun K hK=>?_;go_simp;refine (z.out _ b).mono (mQ fun w4 Y=>?_);have f:=b.trans Y;refine hK.out _ _ f ?_;refine pT ?_;refine uQ ?_;refine ze fun K hK=>?_;go_simp;refine (ag.out _ f).mono (mQ fun w5 Z=>?_);have r:=f.trans Z;refine hK.out _ _ r ?_;refine pT ?_;refine uQ ?_;refine zf ?_;go_wp2_with fail
   go_ret2;exact⟨by rw [O.out];rfl,hx0.trans (a.trans r)⟩
  ·have bZ:(ac==fx)=false:=by cases ac<;>cases fx<;>simp_all
   have aV:=za (show op=((eW x.size).find? fun k=>u k != u (k+1)).map fun k=>x.extract (k+1) x.size by rw [I.out,if_pos ⟨rfl,heq⟩]);clear heq;refine uR (fun X=>Ext w2 X) [] (zv.of [0,1,2,3,4,5,6,7,8,9,10,12,13,11,14,15,16]) ?_;refine uQ ?_;refine ze fun K hK=>?_;go_simp;refine (ah.out _ (hx0.trans (a.trans o.drew))).mono ?_;rw [V.out];rintro e w3 ⟨rfl,F⟩;have b:Ext w2 w3:=o.drew.trans F;refine hK.out _ _ b ?_;refine pT ?_;refine uQ ?_;refine ze fun K hK=>?_;go_simp;refine (z.out _ b).mono (mQ fun w4 Y=>?_);have f:=b.trans Y;refine hK.out _ _ f ?_;refine pT ?_;refine uQ ?_;refine ze fun K hK=>?_;go_simp;refine (ag.out _ f).mono (mQ fun w5 Z=>?_);have r:=f.trans Z;refine hK.out _ _ r ?_;refine pT ?_;refine uQ ?_;refine zf ?_;have ap:=zaM M;have Hb:=za (fun k hk=>zaL ap (k:=k) hk);have bP:=za (ziD ap);have aQ:1<=nr:=by have:=(zk U.out).2.1;rw [E.out] at this;exact this.1
   clear M ap;go_wp2_with fail
   go_loopw [10,11] (fun qv iv wr=>∃ (k q:Nat),iv=.int .i64 k∧k<=x.size∧qv=.int .i64 q∧q<nr∧Hid (q=st k)∧Hid (∀ j,j<k->(u j != u (j+1))=false)∧Ext w2 wr) (fun _ iv _=>x.size - (intOf iv).toNat)
   case atStart=>exact⟨0,0,rfl,dF _,rfl,aQ,za (by rw [ai.out];rfl),za (fun j h=>oM),r⟩
   case round =>
    clear r Z f Y b F;obtain⟨k,q,rfl,hk,rfl,hq,aT,v,i⟩:=hrel
    by_cases hlt:k<x.size
    ·have bx:(k:Int)<(x.size:Int):=oM;obtain⟨l,hl⟩:∃ l:Nat,Hid ((x[k].toNat:Int) - 97=l):=⟨x[k].toNat - 97,by unfold Hid;have:=Hb.out k hlt;omega⟩;have aP:l<6:=by have:=hl.out;have:=Hb.out k hlt;omega
     have ab:=za (show aGo J q l=st (k+1) by
      rw [ai.out,dK,zdC hlt,Option.toList_some,zbD,← ai.out,← aT.out]
      congr 1
      have:=hl.out;have:=Hb.out k hlt;omega)
     have aS:aGo J q l<nr:=by rw [← E.out];exact zdV U.out (by rw [E.out];exact hq) aP
     have aB:=za (fun W (hW:Ext w2 W)=>zej (d:=d1) (d':=aj) (aA.out W hW) U.out (by rw [E.out];exact hq) aP);rw [D.out] at aB;generalize aGo J q l=q2 at *;have bI:=fun W (hW:Ext wr W)=>CA W (i.trans hW);have bd:=fun W (hW:Ext wr W)=>bc W (i.trans hW);have bf:=fun W (hW:Ext wr W)=>be W (i.trans hW);have aW:=cY wr;go_wp2_with fail
     go_region_held3 (fun W=>Ext wr W) (first|assumption|(refine Ext.drew ?_;assumption)|(refine Ext.trans ?_ aM;assumption)|(refine Ext.trans ?_ aM;refine Ext.drew ?_;assumption)) (first
      |(go_at_call 141;refine (zbE x k hlt _).mono ?_;rw [hl.out];rintro e w6 ⟨rfl,rfl⟩)
      |(go_at_call 222;refine (aB.out _ (i.trans ?_)).mono ?_;(first|assumption|(refine Ext.drew ?_;assumption));rintro e G ⟨rfl,b4⟩))
     have g:Ext wr G:=aM;obtain⟨ad,r1,rfl,_,_,an,aF⟩:=(H1.out G (hx0.trans (a.trans (i.trans g)))).str hq;obtain⟨bR,r2,e2,_,_,ao,aG⟩:=(H1.out G (hx0.trans (a.trans (i.trans g)))).str aS;obtain rfl:=Option.some.inj e2;have bA:=(aD.out r1 (dB an.out)).2;have bB:=(aD.out r2 (dB ao.out)).2;have bL:∀ W,Ext G W->W.cell? (ad.add q)=some (.string r1):=fun W hW=>hW.aa aF;have bM:∀ W,Ext G W->W.cell? (ad.add q2)=some (.string r2):=fun W hW=>hW.aa aG;have bK:=fun W (hW:Ext G W)=>bd W (g.trans hW);have bO:=fun W (hW:Ext G W)=>bf W (g.trans hW);obtain⟨y1,aq⟩:∃ y1,x.extract k x.size=y1:=⟨_,rfl⟩;obtain⟨y2,ar⟩:∃ y2,x.extract (k+1) x.size=y2:=⟨_,rfl⟩;have bE:y1.size<=4000:=by rw [← aq,ByteArray.size_extract];omega
     have bF:y2.size<=4000:=by rw [← ar,ByteArray.size_extract];omega
     have bC:¬ 9223372036854775807<r1.size+y1.size:=oM;have bD:¬ 9223372036854775807<r2.size+y2.size:=oM;obtain⟨z1,au⟩:∃ z1,r1++y1=z1:=⟨_,rfl⟩;obtain⟨z2,av⟩:∃ z2,r2++y2=z2:=⟨_,rfl⟩;have ay:=za (fun W (hW:Ext G W)=>H.out W (hx0.trans (a.trans (i.trans (g.trans hW)))) z1 (by rw [← au,ByteArray.size_append];omega));have az:=za (fun W (hW:Ext G W)=>H.out W (hx0.trans (a.trans (i.trans (g.trans hW)))) z2 (by rw [← av,ByteArray.size_append];omega));have ak:=za (show u k=zx s p L z1 by rw [aC.out,← aT.out,dH,an.out,fI,aq,au]);have am:=za (show u (k+1)=zx s p L z2 by rw [aC.out,← ab.out,dH,ao.out,fI,ar,av]);obtain⟨a1,aL⟩:∃ a1,Hid (zx s p L z1=a1):=⟨_,rfl⟩;obtain⟨a2,aN⟩:∃ a2,Hid (zx s p L z2=a2):=⟨_,rfl⟩;rw [aL.out] at ay ak;rw [aN.out] at az am;have bi:=za ar;have ae:=cY G;have bn:=IntWalk.i64_in ((k:Int)+1) oM;have b0:(q:Int)<(nr:Int):=oM;have bz:(q2:Int)<(nr:Int):=oM;have bY:(k:Int)+1<=(x.size:Int):=oM;have bw:(k:Int)<=(x.size:Int):=oM;have bu:(0:Int)<=(k:Int)+1:=oM;clear aF aG an ao e2 aL aN;go_wp2_with fail
     refine uR (fun X=>Ext G X) [] (zv.of [0,1,2,3,4,5,6,7,8,9,11,12,13,14,15,16,17,18,19,20,21,10,22,23]) ?_;refine uQ ?_;refine ze fun K hK=>?_;go_simp;refine (ay.out _ ae.drew).mono (mQ fun w8 bo=>?_);have S:Ext G w8:=ae.drew.trans bo;refine hK.out _ _ S ?_;refine pT ?_;refine uQ ?_;refine ze fun K hK=>?_;go_simp;refine (az.out _ S).mono (mQ fun w9 bp=>?_);have af:=S.trans bp;refine hK.out _ _ af ?_;refine pT ?_;refine uQ ?_;refine zf ?_;have T:=i.trans (g.trans af);clear au av aq bn
     by_cases hab:a1=a2
     ·subst hab;have bl:=za (show (u k != u (k+1))=false by rw [ak.out,am.out];simp);cases a1
      all_goals
       go_wp2_with fail
       go_roundw
       case rel=>exact⟨k+1,q2,gM,oM,rfl,aS,ab,za (fun j hj=>by
        rcases eF (eZ hj) with h1|rfl
        ·exact v.out j h1
        ·exact bl.out),T⟩
       case measure=>simp [intOf];omega
     ·have Q:=za (show op=some y2 by
       rw [aV.out,zfd hlt (fun j hj=>v.out j hj) (by rw [ak.out,am.out];simpa using hab),Option.map_some,bi.out])
      cases a1<;>cases a2
      ·exact absurd rfl hab
      ·clear hab;go_wp2_with fail
       go_ret2;exact⟨by rw [Q.out];rfl,hx0.trans (a.trans T)⟩
      ·clear hab;go_wp2_with fail
       go_ret2;exact⟨by rw [Q.out];rfl,hx0.trans (a.trans T)⟩
      ·exact absurd rfl hab
    ·have bW:(x.size:Int)<=(k:Int):=oM;have O:=za (show op=none by
      rw [aV.out,Option.map_eq_none_iff,jA];intro j hj;rw [List.mem_range] at hj;rw [v.out j oM];decide)
     go_wp2_with fail
     go_ret2;exact⟨by rw [O.out];rfl,hx0.trans (a.trans i)⟩
end
end Go.Proofs.YtcfchopfijalpaaGreatDoor
