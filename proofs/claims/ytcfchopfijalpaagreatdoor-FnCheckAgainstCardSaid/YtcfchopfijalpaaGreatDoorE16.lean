/- spec.l2Wrong -/
import Derived.Test.YtcfchopfijalpaaGreatDoorE15
set_option maxHeartbeats 4000000
set_option maxRecDepth 100000
namespace Go.Proofs.YtcfchopfijalpaaGreatDoor
open Go Go.RowKit
open Blk renaming new->dV
open Ext renaming bl_->dU,eq_->eP,refl->cY
open Frm renaming setCell->dE
open List renaming getElem?_append_left->dL,getElem?_eq_getElem->dC,length_set->fH,mem_of_getElem?->dB,mem_or_eq_of_mem_set->eX,nil_append->eG
open Nat renaming le_refl->dD,zero_add->dT,zero_le->dF
open Reads renaming af->eA
variable {A A' A2:Option Addr} {G L M R Z a c c' d2 n n' n2 p x:Nat} {W w w0 w1 w2:World} {al st:Int} {b:Aut} {cs:Array Value} {es:List Edg} {s s2:Sys} {v:Value}
theorem wrong_acc (hr:Rd w R M)(hx:Ext w w1)(hR:R<w.heap.size)(hxW:Ext w1 W) (zku:W.ownsRow w1.heap.size 152 3 v es.length (zw es))(hG:w1.heap.size<=G)(hB:Blk W G 38 #[al,st,v]) :
  Acc w w1 W R G M al st v es:=
 ⟨hB,zku,hr.ext (hx.trans hxW),(hx.trans hxW).dr,hxW.aj,hR,hx.size,Nat.le_trans hx.size hG⟩
theorem edge_lit (w:World):(w.alloc (.cells #[] 152)).drew.ownsRow w.heap.size 152 3 (.slice (some w.heap.size) 0 0) 0 []:=
 World.ownsRow_lit w #[] 0 (dD _) lM rfl
theorem zjL {base:Nat}  (hn:n=es.length)(h:W.ownsRow base 152 3 v n (zw es)):W.ownsRow base 152 3 v es.length (zw es):=by
 subst hn;exact h
theorem zhk (hr:Rd w R M)(hx:Ext w w1)(hR:R<w.heap.size)(hxW:Ext w1 W) (zku:W.ownsRow w1.heap.size 152 3 v es.length (zw es))(hB:Blk W G 38 #[(0:Int),(0:Int),()])(hG:w1.heap.size<=G) :
  ∃ (G':Nat) (v':Value),Value.pointer (some G)=.pointer (some G')∧w1.heap.size<=G'∧Acc w w1 (((W.setCell G al).setCell ⟨G,1,none⟩ st).setCell ⟨G,2,none⟩ v) R G' M al st v' es:=by
 have h:=zfe W G (.int .i64 al) (.int .i64 st) v;have c:∀ b,v.ownBlock=some b->b≠G:=by
  rintro b a rfl;rcases zku.2 with ⟨rfl,_⟩|⟨g,d,f,rfl,_,j,_⟩
  ·simp [Value.ownBlock] at a
  ·have i:g=b:=by simpa [Value.ownBlock] using a
   subst i;unfold Blk at hB;rw [j] at hB;injection hB with hB
   injection hB with _ ht
   exact absurd ht dM
 refine⟨G,v,rfl,hG,wrong_acc hr hx hR ?_ (zg zku h (fun b a hS=>c b a hS)) hG (by simpa using ((hB.ab 0 (.int .i64 al)).ab 1 (.int .i64 st)).ab 2 v)⟩;exact ((hxW.setCell (p:=⟨G,0,none⟩) hG _).setCell (p:=⟨G,1,none⟩) hG _).setCell (p:=⟨G,2,none⟩) hG _
theorem zhE {wB:World}     (h:Acc w0 wB W R G M al st (.slice A n c) es)(hn:0<n):∃ g,A=some ⟨g,0,none⟩:=by
 rcases h.own.2 with ⟨a,f⟩|⟨g,b,d,a,_⟩
 ·injection a with _ h2 _;omega
 ·injection a with h1
  exact⟨g,h1⟩
theorem yE16a3 {P:Prop}(h:P:=by
 have h1':=h1.out;refine zT fun K hK=>?_;go_simp;refine hK.out _ _ ?_;refine zao ?_;go_wp2_with fail
 go_meet;exact⟨_,_,_,_,h3.more oM,by have:=HnL.out;simp;omega⟩
 ):P:=h
theorem yE16a4 {P:Prop}(h:P:=by
 refine zT fun K hK=>?_;go_simp;refine hK.out _ _ ?_;refine zao ?_;go_wp2_with fail
 go_meet;exact⟨_,_,_,_,hst.more oM,by have:=HnL.out;simp;omega⟩
 ):P:=h
theorem zcl (h:Rd w R M)(hM:M<=900000000)(hs:zbP w R A n s)(hn:n<=L)(hL:L<=100000) :
  Calls Tryz.prog 167 #[.pointer (some R),.agg #[s.al,s.st,.slice A n c]] w (RetA R (M+10) (L+1) w):=by
 have hRl:=h.lt;have Q:=hs.at_.2;have F:=za hs.1;obtain⟨al,st,a⟩:=s;simp only at Q F ⊢;obtain⟨w1,U0⟩:∃ x,Hid ((w.alloc (.cells #[al,st,.slice A n c] 38)).alloc (.cells #[(0:Int),(0:Int),()] 38)=x):=⟨_,za rfl⟩;have ar:Ext w w1:=(((cY _).alloc _).alloc _).trans (eP U0.out);obtain⟨bS,bZ⟩:=zO (eP U0.out);have aq:w1.heap.size=w.heap.size+2:=by rw [← U0.out];simp
 have ax:=za bS;have ae:=za bZ;have C:=za ar;have ay:=za aq;clear bS bZ ar aq hs
 go_enter Tryz.func167,Tryz.ntmps167
 go_wp2_with fail
 rw [U0.out] at *;have a1:w.heap.size+2<=w1.heap.size:=by rw [ay.out];exact dD _
 go_upto_region 1 with fail
 go_cut [5] (fun s5 wx=>∃ (G:Nat) (v:Value),s5=.pointer (some G)∧w1.heap.size<=G∧Acc w w1 wx R G M al st v a)
 case first =>
  have cS:=fun W (hW:Ext w1 W)=>(ax.out.ext hW).cell;refine tR (fun X=>Ext w1 X) [10] (Ord.app [0,1,2,3,5,6] (Ord.two 4 (Ord.two 7 (Ord.of [8,9,10]) 9 (Ord.of [7,8,10])) 9 (Ord.of [4,7,8,10]))) ?_;refine tQ ?_;refine zgI (fun K hK=>?_) (fun K hK=>?_)
  ·go_simp;have j:Ext w1 (w1.alloc (.cells #[] 152)).drew:=((cY w1).alloc _).drew;have zku:(w1.alloc (.cells #[] 152)).drew.ownsRow w1.heap.size 152 3 (.slice (some w1.heap.size) 0 0) 0 []:=edge_lit w1;have V:(w1.alloc (.cells #[] 152)).drew.heap.size=w1.heap.size+1:=sM;refine hK.out _ _ j ?_;refine pT ?_;generalize (w1.alloc (.cells #[] 152)).drew=Y at *;refine zgI (fun K hK=>?_) (fun K hK=>?_)
   ·refine zy _ _ _ _ rfl w1.heap.size 152 _ 3 24 Tryz.underlying36 zbo rfl dM (.slice (some w1.heap.size) 0 0) 0 [] rfl zku (R+1) w.heap.size A n c (zw a) rfl (Q.ext (C.out.trans j)) (zdk a) lM oM j.size ?_;intro v w3 zkF hg3 hat3;rw [dT,eG] at zkF;obtain⟨A3,c3,rfl⟩:=zi zkF;have d:Ext w1 w3:=j.grown hg3 (fun k D=>by simp [Value.ownBlock] at D;omega);refine hK.out _ _ d ?_;refine pT ?_;refine tQ ?_;refine zC fun K hK=>?_;go_simp;refine hK.out _ _ (d.alloc _) ?_;refine pT ?_;refine tQ ?_;refine zT fun K hK=>?_;go_simp;refine hK.out _ _ ?_;refine zao ?_;go_wp2_with fail
    go_meet;exact⟨w3.heap.size,.slice A3 n c3,rfl,d.size,wrong_acc h C.out hRl (d.alloc _) (zh (zjL F.out zkF) ((cY _).alloc _)) d.size (dV _ _ _)⟩
   ·go_simp;have d:=j.alloc (.cells #[(0:Int),(0:Int),()] 38);have au:=(cY Y).alloc (.cells #[(0:Int),(0:Int),()] 38);replace zku:=zh zku au;refine hK.out _ _ d ?_;generalize U0:Y.alloc _=a3 at *;have J:=dU U0;clear U0;rw [V] at J;have j:=d;refine pT ?_;refine zC (fun K hK=>?_);refine zy _ _ _ _ rfl w1.heap.size 152 _ 3 24 Tryz.underlying36 zbo rfl dM (.slice (some w1.heap.size) 0 0) 0 [] rfl zku (R+1) w.heap.size A n c (zw a) rfl (Q.ext (C.out.trans j)) (zdk a) lM oM j.size ?_;intro v w3 zkF hg3 hat3;rw [dT,eG] at zkF;obtain⟨A3,c3,rfl⟩:=zi zkF;have d:Ext w1 w3:=j.grown hg3 (fun k D=>by simp [Value.ownBlock] at D;omega);have r:Blk w3 (w1.heap.size+1) 38 #[.int .i64 0,.int .i64 0,.slice none 0 0]:=J.frm (Frm.ae hg3) (by simp [Value.ownBlock]);refine hK.out _ _ d ?_;refine pT ?_;refine tQ ?_;have cE:=r.cell;have fE:=r.frozen;refine zT fun K hK=>?_;go_simp;refine hK.out _ _ ?_;refine zao ?_;go_wp2_with fail
    go_meet;exact zhk h C.out hRl d (zjL F.out zkF) r oM
  ·go_simp;have j:Ext w1 (w1.alloc (.cells #[(0:Int),(0:Int),()] 38)).drew:=((cY w1).alloc _).drew;have az:Blk (w1.alloc (.cells #[(0:Int),(0:Int),()] 38)).drew w1.heap.size 38 #[.int .i64 0,.int .i64 0,.slice none 0 0]:=dV w1 _ _;have V:(w1.alloc (.cells #[(0:Int),(0:Int),()] 38)).drew.heap.size=w1.heap.size+1:=sM;refine hK.out _ _ j ?_;refine pT ?_;generalize (w1.alloc (.cells #[(0:Int),(0:Int),()] 38)).drew=Y at *;refine zC fun K hK=>?_;go_simp;have d:=j.alloc (.cells #[] 152);have zku:(Y.alloc (.cells #[] 152)).ownsRow w1.heap.size 152 3 (.slice (some ⟨w1.heap.size+1,0,none⟩) 0 0) 0 []:=by
    rw [← V];exact World.ownsRow_lit Y #[] 0 j.size lM rfl
   have J:=az.ext ((cY Y).alloc (.cells #[] 152));refine hK.out _ _ d ?_;generalize Y.alloc _=w3 at *;refine pT ?_;refine zC (fun K hK=>?_);refine zy _ _ _ _ rfl w1.heap.size 152 _ 3 24 Tryz.underlying36 zbo rfl dM (.slice (some ⟨w1.heap.size+1,0,none⟩) 0 0) 0 [] rfl zku (R+1) w.heap.size A n c (zw a) rfl (Q.ext (C.out.trans d)) (zdk a) lM oM d.size ?_;intro v f hown4 hg4 hat4;rw [dT,eG] at hown4;obtain⟨A4,c4,rfl⟩:=zi hown4;have av:Ext w1 f:=d.grown hg4 (fun k D=>by simp [Value.ownBlock] at D;omega);have r:Blk f w1.heap.size 38 #[.int .i64 0,.int .i64 0,.slice none 0 0]:=J.frm (Frm.ae hg4) (by simp [Value.ownBlock]);refine hK.out _ _ av ?_;refine pT ?_;refine tQ ?_;have cE:=r.cell;have fE:=r.frozen;refine zT fun K hK=>?_;go_simp;refine hK.out _ _ ?_;refine zao ?_;go_wp2_with fail
   go_meet;exact zhk h C.out hRl av (zjL F.out hown4) r (dD _)
 case rest =>
  obtain⟨G,v,rfl,aZ,zkv⟩:=hcut;obtain⟨A1,n1,c1,rfl⟩:=zkv.form;obtain⟨rfl,ap⟩:=zkv.reads;have a0:=zkv.hG;have cG:=zkv.blk.cell;have am:=ap.2.len;clear ap;have aC:a.length<=L:=oH F.out;have HnL:=za aC;go_wp2_with fail
  refine (zA (n:=a.length) zkv.rd oM).mono ?_;rintro e w3 ⟨k,rfl,aj,aB,an,ah⟩;replace zkv:=zkv.drawn ah an;clear ah an cG;have Hk:=za aj;clear aj aB;go_wp2_with fail
  refine (zA (n:=30) zkv.rd oM).mono ?_;rintro e f ⟨y,rfl,-,-,ao,ai⟩;replace zkv:=zkv.drawn ai ao;clear ai ao;go_upto_block 0 with fail
  go_cut [] (fun wx=>∃ (al st:Int) (v:Value) (T:List Edg),Acc w w1 wx R G (M+10) al st v T∧T.length<=L+1)
  case first =>
   have aT:=za am;clear am;have O:y=0∨y=1∨y=2∨y=3∨y=4∨y=5∨y=6∨7<=y:=oM;rcases O with B|B|B|B|B|B|B|B
   ·subst B;have aE:True:=trivial;go_wp2_with fail
    refine (zbe [64,(-1),1,63] 4 #[(64:Int),.int .i64 (-1),(1:Int),(63:Int)] rfl rfl oM oM zkv.rd oM).mono ?_;rintro e H ⟨x,-,rfl,o,i⟩;replace zkv:=(zkv.ext ((cY _).alloc _)).drawn i o;have cG:=zkv.blk.cell;have fG:=zkv.blk.frozen;go_wp2_with fail
    go_meet;exact⟨_,_,_,a,(zkv.setAl x).more oM,oH HnL.out⟩
   ·subst B;have aE:True:=trivial;go_wp2_with fail
    refine (zbe [0,17,(-1),16,1] 5 #[(0:Int),(17:Int),.int .i64 (-1),(16:Int),(1:Int)] rfl rfl oM oM zkv.rd oM).mono ?_;rintro e H ⟨x,-,rfl,o,i⟩;replace zkv:=(zkv.ext ((cY _).alloc _)).drawn i o;have cG:=zkv.blk.cell;have fG:=zkv.blk.frozen;go_wp2_with fail
    go_meet;exact⟨_,_,_,a,(zkv.setSt x).more oM,oH HnL.out⟩
   ·subst B
    by_cases hn0:0<a.length
    ·have D:=Hk.out oM;have t:k<a.length:=oM;obtain⟨g,rfl⟩:=zhE zkv hn0;have m:a.length≠0:=oM;have U:R<w1.heap.size:=by have:=zkv.hR;have:=zkv.hB;omega
     have cG:∀ W,Dr R f W->∀ q,W.cell? ⟨G,q,none⟩=#[Value.int .i64 al,.int .i64 st,.slice (some g) a.length c1][q]?:=fun W hW=>(zkv.blk.dr hW (oH zkv.hG)).cell;clear D m;go_wp2_with fail
     refine tR (fun X=>Dr R f X) [8] (Ord.of [0,1,2,3,4,5,6,7,8]) ?_;refine tQ ?_;refine zC fun K hK=>?_;go_simp;refine hK.out _ _ ((Dr.refl R f).drew.alloc _) ?_;refine pT ?_;refine tQ ?_;refine zC fun K hK=>?_;go_simp;refine (zbe (w:=f.drew) [(-1),16,0,2] 4 #[.int .i64 (-1),(16:Int),(0:Int),(2:Int)] rfl rfl oM oM (zkv.rd.ext (cY _).drew) oM).mono ?_;rintro e H ⟨x,-,rfl,o,i⟩;have l:Dr R f H:=((Dr.refl R f).drew.alloc _).trans i;have b:=zkv.drawn l o;refine hK.out _ _ l ?_;refine pT ?_;refine tQ ?_;have zku:=b.own;obtain⟨o0,c0⟩:=zbc zku (k*3) oM;have f0:=zku.frozenAt (k*3);have hst:=b.turn rfl (zeu (dC t) x).1 sM;exact yE16a4
    ·have hn1:a.length=0:=oM;clear hn0;go_wp2_with fail
     go_meet;exact⟨_,_,_,a,zkv.more oM,oH HnL.out⟩
   ·subst B
    by_cases hn0:0<a.length
    ·have D:=Hk.out oM;have t:k<a.length:=oM;obtain⟨g,rfl⟩:=zhE zkv hn0;have m:a.length≠0:=oM;have U:R<w1.heap.size:=by have:=zkv.hR;have:=zkv.hB;omega
     have cG:∀ W,Dr R f W->∀ q,W.cell? ⟨G,q,none⟩=#[Value.int .i64 al,.int .i64 st,.slice (some g) a.length c1][q]?:=fun W hW=>(zkv.blk.dr hW (oH zkv.hG)).cell;clear D m;go_wp2_with fail
     refine tR (fun X=>Dr R f X) [8] (Ord.of [0,1,2,3,4,5,6,7,8]) ?_;refine tQ ?_;refine zC fun K hK=>?_;go_simp;refine hK.out _ _ ((Dr.refl R f).drew.alloc _) ?_;refine pT ?_;refine tQ ?_;refine zC fun K hK=>?_;go_simp;refine (zbe (w:=f.drew) [(-1),16,0,3] 4 #[.int .i64 (-1),(16:Int),(0:Int),(3:Int)] rfl rfl oM oM (zkv.rd.ext (cY _).drew) oM).mono ?_;rintro e H ⟨x,-,rfl,o,i⟩;have l:Dr R f H:=((Dr.refl R f).drew.alloc _).trans i;have b:=zkv.drawn l o;refine hK.out _ _ l ?_;refine pT ?_;refine tQ ?_;have zku:=b.own;obtain⟨o0,c0⟩:=zbc zku (k*3+2) oM;have f0:=zku.frozenAt (k*3+2);have hst:=b.turn rfl (zeu (dC t) x).2.2 sM;exact yE16a4
    ·have hn1:a.length=0:=oM;clear hn0;go_wp2_with fail
     go_meet;exact⟨_,_,_,a,zkv.more oM,oH HnL.out⟩
   ·subst B
    by_cases hn0:0<a.length
    ·have D:=Hk.out oM;have t:k<a.length:=oM;obtain⟨g,rfl⟩:=zhE zkv hn0;have m:a.length≠0:=oM;have U:R<w1.heap.size:=by have:=zkv.hR;have:=zkv.hB;omega
     have cG:∀ W,Dr R f W->∀ q,W.cell? ⟨G,q,none⟩=#[Value.int .i64 al,.int .i64 st,.slice (some g) a.length c1][q]?:=fun W hW=>(zkv.blk.dr hW (oH zkv.hG)).cell;clear D m;go_wp2_with fail
     refine tR (fun X=>Dr R f X) [8] (Ord.of [0,1,2,3,4,5,6,7,8]) ?_;refine tQ ?_;refine zC fun K hK=>?_;go_simp;refine hK.out _ _ ((Dr.refl R f).drew.alloc _) ?_;refine pT ?_;refine tQ ?_;refine zC fun K hK=>?_;go_simp;refine (zbe (w:=f.drew) [(-1),6,70,5,0] 5 #[.int .i64 (-1),(6:Int),(70:Int),(5:Int),(0:Int)] rfl rfl oM oM (zkv.rd.ext (cY _).drew) oM).mono ?_;rintro e H ⟨x,-,rfl,o,i⟩;have l:Dr R f H:=((Dr.refl R f).drew.alloc _).trans i;have b:=zkv.drawn l o;refine hK.out _ _ l ?_;refine pT ?_;refine tQ ?_;have zku:=b.own;obtain⟨o0,c0⟩:=zbc zku (k*3+1) oM;have f0:=zku.frozenAt (k*3+1);have hst:=b.turn rfl (zeu (dC t) x).2.1 sM;exact yE16a4
    ·have hn1:a.length=0:=oM;clear hn0;go_wp2_with fail
     go_meet;exact⟨_,_,_,a,zkv.more oM,oH HnL.out⟩
   ·subst B
    by_cases hn0:0<a.length
    ·have D:=Hk.out oM;have t:k<a.length:=oM;obtain⟨g,rfl⟩:=zhE zkv hn0;have m:a.length≠0:=oM;have zku:=zkv.own;have hE:=za (dC t);obtain⟨ed,aA⟩:∃ ed,Hid (a[k]?=some ed):=⟨_,hE.out⟩;obtain⟨d0,d1,d2⟩:=zdj aA.out;have cG:=fun W (hW:Ext f W)=>(zkv.blk.ext hW).cell;have C0:∀ W,Ext f W->W.cell? ⟨g,k*3,none⟩=some (.int .i64 ed.fr):=fun W hW=>hW.aa (by rw [zku.cellAt _ oM];exact d0);have C1:∀ W,Ext f W->W.cell? ⟨g,k*3+1,none⟩=some (.int .i64 ed.le):=fun W hW=>hW.aa (by rw [zku.cellAt _ oM];exact d1);have C2:∀ W,Ext f W->W.cell? ⟨g,k*3+2,none⟩=some (.int .i64 ed.ta):=fun W hW=>hW.aa (by rw [zku.cellAt _ oM];exact d2);clear D m d0 d1 d2;go_wp2_with fail
     refine tR (fun X=>Ext f X) [8,10] (Ord.of [0,1,2,3,4,5,6,7,8,9,10]) ?_;refine tQ ?_;refine zC fun K hK=>?_;go_simp;refine hK.out _ _ ((cY _).drew.alloc _) ?_;refine pT ?_;refine zT fun K hK=>?_;refine zaN w1 f.drew _ _ _ rfl 152 _ 3 24 Tryz.underlying36 zbo rfl dM (.slice (some g) a.length c1) a.length (zw a) _ _ rfl rfl zkv.fr.size zku rfl (by simp [Value.oneCell']) lM oM ?_;intro g5 cap5 H zkG hg5 hat5 hlt5;refine hK.out _ _ ?_;refine pT ?_;refine tQ ?_;obtain⟨h1,h2,h3⟩:=(zkv.ext ((cY _).drew)).push (e:=ed) (W':=H) zkG hg5 hat5;exact yE16a3
    ·have hn1:a.length=0:=oM;clear hn0;go_wp2_with fail
     go_meet;exact⟨_,_,_,a,zkv.more oM,oH HnL.out⟩
   ·subst B;have U:R<w1.heap.size:=by have:=zkv.hR;have:=zkv.hB;omega
    have cG:∀ W,Dr R f W->∀ q,W.cell? ⟨G,q,none⟩=#[Value.int .i64 al,.int .i64 st,.slice A1 a.length c1][q]?:=fun W hW=>(zkv.blk.dr hW (oH zkv.hG)).cell;go_wp2_with fail
    refine tR (fun X=>Dr R f X) [10,12] (Ord.of [0,1,2,4,6,3,5,7,8,9,10,11,12]) ?_;refine tQ ?_;refine zC fun K hK=>?_;go_simp;refine (zA (n:=4) (zkv.rd.ext (cY _).drew) oM).mono ?_;rintro e H ⟨x,rfl,-,-,o,i⟩;replace i:=((Dr.refl R f).drew).trans i;refine hK.out _ _ i ?_;refine pT ?_;refine tQ ?_;refine zC fun K hK=>?_;go_simp;refine (zA (n:=3) o oM).mono ?_;rintro e w6 ⟨z,rfl,-,-,hr6,hd6⟩;replace hd6:=i.trans hd6;refine hK.out _ _ hd6 ?_;refine pT ?_;refine tQ ?_;refine zC fun K hK=>?_;go_simp;refine (zA (n:=4) hr6 oM).mono ?_;rintro e w7 ⟨u,rfl,-,-,aD,E⟩;replace E:=hd6.trans E;refine hK.out _ _ E ?_;have p:=zkv.drawn E aD;refine pT ?_;refine tQ ?_;refine zC fun K hK=>?_;go_simp;refine hK.out _ _ (E.alloc _) ?_;refine pT ?_;refine zT fun K hK=>?_;refine zaN w1 w7 _ _ _ rfl 152 _ 3 24 Tryz.underlying36 zbo rfl dM (.slice A1 a.length c1) a.length (zw a) _ _ rfl rfl p.fr.size p.own rfl (by simp [Value.oneCell']) (by unfold maxLen;have:=HnL.out;omega) (oH HnL.out) ?_;intro g8 cap8 w8 hown8 hg8 hat8 hlt8;refine hK.out _ _ ?_;refine pT ?_;refine tQ ?_;obtain⟨h1,h2,h3⟩:=p.push (e:=⟨x,z,u⟩) (W':=w8) hown8 hg8 hat8;exact yE16a3
   ·have h0:((y:Int)==0)=false:=by simp;omega
    have h1:((y:Int)==1)=false:=by simp;omega
    have h2:((y:Int)==2)=false:=by simp;omega
    have h3:((y:Int)==3)=false:=by simp;omega
    have h4:((y:Int)==4)=false:=by simp;omega
    have h5:((y:Int)==5)=false:=by simp;omega
    have h6:((y:Int)==6)=false:=by simp;omega
    clear B;go_wp2_with fail
    go_meet;exact⟨_,_,_,a,zkv.more oM,oH HnL.out⟩
  case rest =>
   clear zkv;obtain⟨I,S,v',T,zkv,ak⟩:=hcut;obtain⟨A',n',c',rfl⟩:=zkv.form;obtain⟨rfl,_⟩:=zkv.reads;have cG:=zkv.blk.cell;have ag:=ae.out.frm zkv.fr oM;have cz:=ag.cell;have a2:=ae.out.lt;have fz:=ag.frozen;obtain⟨f1,f2,f3⟩:=zkv.fin (Z:=w.heap.size+1) oM oM (.int .i64 I) (.int .i64 S) (.slice A' T.length c');have af:=za (show RetA R (M+10) (L+1) w (.returned (.agg #[I,S,.slice A' T.length c'])) _ from ⟨⟨I,S,T⟩,A',T.length,c',rfl,f1,⟨ak,zjX zkv.own⟩,f2,f3⟩);clear f1 f2 f3;go_wp2_with fail
   exact bodyPost_ret (v:=.agg #[I,S,.slice A' T.length c']) (by simp [results,Tryz.results167,go_sem,cz]) rfl af.out
def lenAt (W:World) (G:Nat):Nat:=match W.cell? ⟨G,1,none⟩ with|some (.slice _ n _)=>n|_=>0
theorem zbX.lenAt {vA:Value} {rows:List Value} {ls:List (List Int)} {acc:List Bool}(h:zbX w0 W R G M al (.slice A n c) rows ls vA acc):Go.Proofs.YtcfchopfijalpaaGreatDoor.lenAt W G=n:=by
 unfold Go.Proofs.YtcfchopfijalpaaGreatDoor.lenAt;rw [h.blk.cell 1];rfl
theorem yE16a5 {P:Prop}(h:P:=by
 have hn1:m=0:=oM;clear hn0;have cG:=zkv.blk.cell;go_wp2_with fail
 go_meet;exact⟨_,_,_,_,_,_,zkv.more oM,za (Hb.out.more oM)⟩
 ):P:=h
theorem zcm (h:Rd w R M)(hM:M<=900000000)(ho:zac w (R+1) A n c A' n' c' b)(hb:BdA L b)(hL:L<=100) :
  Calls Tryz.prog 168 #[.pointer (some R),.agg #[b.al,.slice A n c,.slice A' n' c']] w (zhm R (M+10) (BdA (L+13)) w):=by
 have hRl:=h.lt;have aE:=hb.size oM
 go_enter Tryz.func168,Tryz.ntmps168
 have u:=(cY w).alloc (.cells #[b.al,.slice A n c,.slice A' n' c'] 31);have b0:=dV w 31 #[b.al,.slice A n c,.slice A' n' c'];have a1:(w.alloc (.cells #[b.al,.slice A n c,.slice A' n' c'] 31)).heap.size=w.heap.size+1:=sM;obtain⟨w1,U0⟩:∃ x,Hid ((w.alloc (.cells #[b.al,.slice A n c,.slice A' n' c'] 31)).alloc (.cells #[(0:Int),(),()] 31)=x):=⟨_,za rfl⟩;have U:=u.alloc (.cells #[(0:Int),(),()] 31);have bz:=dU U0.out;replace b0:=b0.ext ((cY _).alloc (.cells #[(0:Int),(),()] 31));rw [a1] at bz;have c0:=b0.cell;go_upto_region 1 with fail
 rw [U0.out] at *;have a5:=bz.lt;go_wp2_with fail
 refine (zay (ho.ext U).reads aE).mono ?_;rintro e w2 ⟨B,m,d,B',m',d',rfl,zku,am⟩;obtain⟨a,zkv⟩:=zbX.of (R:=R) (M:=M) zku (h.ext (U.trans am)) am.dr oM;have hG:=am.size;have hm:m=b.next.length:=zku.2.1;have bF:m<=100:=oH hb.1;have Z:=za hm;have Hb:=za hb;clear zku ho hm hb aE;go_upto_region 2 with fail
 generalize w2.alloc _=w3 at *;generalize w2.heap.size=G at *;have cG:=zkv.blk.cell;go_wp2_with fail
 refine (zA zkv.rd oM).mono ?_;rintro e w4 ⟨k,rfl,aw,-,aC,aq⟩;replace zkv:=zkv.drawn aq aC;have Hk:=za aw;clear aq aC cG aw;go_wp2_with fail
 refine (zA zkv.rd oM).mono ?_;rintro e D ⟨y,rfl,-,-,aD,ar⟩;replace zkv:=zkv.drawn ar aD;clear ar aD;go_upto_block 0 with fail
 go_cut [] (fun wx=>∃ (al:Int) (v:Value) (a:List Value) (C:List (List Int)) (vA:Value) (o:List Bool),zbX w1 wx R G (M+10) al v a C vA o∧Hid (BdL (L+13) C o))
 case first =>
  have ab:y=0∨y=1∨y=2∨y=3∨y=4∨y=5∨6<=y:=oM;rcases ab with I|I|I|I|I|I|I
  ·subst I;have V:True:=trivial;go_wp2_with fail
   refine (zbe [64,(-1),1,63,0] 5 #[(64:Int),.int .i64 (-1),(1:Int),(63:Int),(0:Int)] rfl rfl oM oM zkv.rd oM).mono ?_;rintro e E ⟨x,-,rfl,hr6,hd6⟩;replace zkv:=(zkv.ext ((cY _).alloc _)).drawn hd6 hr6;have cG:=zkv.blk.cell;have fG:=zkv.blk.frozen;go_wp2_with fail
   go_meet;exact⟨_,_,_,_,_,_,(zkv.setAl x).more oM,za (Hb.out.more oM)⟩
  ·subst I;have V:True:=trivial;have cG:=zkv.blk.cell;have H:=zkv.dr.size;have ah:b.acc.length<=100:=oH Hb.out.2.1;go_wp2_with (at_builtin;refine zad w1 D rfl _ _ _ rfl 4 _ 1 1 Tryz.underlying26 zbj rfl dM (.slice B' m' d') b.acc.length (zaq b.acc) _ _ rfl rfl H zkv.acc rfl (by simp [Value.oneCell']) lM oM ?_;intro g6 cap6 E hown6 hg6 hat6 hlt6;obtain⟨q1,q2,q3⟩:=zkv.aq (x:=true) hown6 hg6 hat6;have a7:=q1.out)
   go_meet;exact⟨_,_,_,_,_,_,q3.more oM,za ⟨oH Hb.out.1,by have:=Hb.out.2.1;simp;omega,fun l z=>by have:=Hb.out.2.2 l z;omega⟩⟩
  ·subst I;have V:True:=trivial
   by_cases hn0:0<m
   ·have hk:=Hk.out oM;have Q:k<b.next.length:=oH Z.out;obtain⟨l,z⟩:∃ l,b.next[k]?=some l:=⟨_,dC Q⟩;obtain⟨gN,rfl,au,-⟩:=zU (show D.ownsRow w1.heap.size 128 1 (.slice B m d) m a from by have:=zkv.nx;rw [← Z.out] at this;exact this) hn0;obtain⟨Y,J,hr,f,t⟩:=zkv.row z Z.out;have aj:l.length<=100:=by have:=Hb.out.2.2 l (dB z);omega
    have HL:=za z;have HR:=za hr;have H:=zkv.dr.size;have cG:∀ W,Frm (fun b=>(Value.slice Y l.length J).ownBlock=some b) D W->∀ q,W.cell? ⟨G,q,none⟩=#[Value.int .i64 b.al,.slice (some gN) m d,.slice B' m' d'][q]?:=fun W hW=>(zkv.blk.frm hW (fun e=>zr t zkv.blk dM e rfl)).cell;have cN:∀ W,Frm (fun b=>(Value.slice Y l.length J).ownBlock=some b) D W->W.cell? ⟨gN,k,none⟩=some (.slice Y l.length J):=fun W hW=>by
     have hx:W.ownsRow w1.heap.size 128 1 (.slice (some gN) m d) b.next.length a:=zg zkv.nx hW (fun b hb hS=>zaG zkv.nx t dM hb hS);rw [← Z.out] at hx;rw [hx.cellAt k oM,HR.out]
    have bp:Frm (fun b=>(Value.slice Y l.length J).ownBlock=some b) D D.drew:=(cY D).drew.aj;clear z hr f Q;go_wp2_with fail
    refine tR (fun X=>Frm (fun b=>(Value.slice Y l.length J).ownBlock=some b) D X) [11] (Ord.of [0,1,2,3,4,5,6,7,8,9,10,11]) ?_;refine tQ ?_;refine zC fun K hK=>?_;go_simp;have ad:=(cY D).drew;refine hK.out _ _ (ad.alloc _).aj ?_;refine pT ?_;refine zC (fun K hK=>?_);refine zaN w1 D.drew _ _ _ rfl 3 _ 1 8 Tryz.underlying128 zag rfl dM (.slice Y l.length J) l.length (ints l) _ _ rfl rfl H (zh t ad) rfl (by simp [Value.oneCell']) lM oM ?_;intro g6 cap6 E hown6 hg6 hat6 hlt6;obtain⟨q1,q2,q3,q4⟩:=(zkv.ext ad).growRow (x:=0) Z.out HR.out HL.out hown6 hg6 hat6;have bI:=q2.out;refine hK.out _ _ (ad.aj.trans (Frm.ae hg6)) ?_;refine pT ?_;refine tQ ?_;refine zT fun K hK=>?_;go_simp;refine hK.out _ _ ?_;refine zao ?_;go_wp2_with fail
    go_meet;refine⟨_,_,_,_,_,_,q4.more oM,za ⟨by have:=Hb.out.1;rw [fH];omega,oH Hb.out.2.1,fun l' hl'=>?_⟩⟩;rcases eX hl' with h1|h1
    ·have:=Hb.out.2.2 l' h1;omega
    ·have:=Hb.out.2.2 l (dB HL.out);rw [h1];simp;omega
   ·exact yE16a5
  ·subst I;have V:True:=trivial
   by_cases hn0:0<m
   ·have hk:=Hk.out oM;have Q:k<b.next.length:=oH Z.out;obtain⟨l,z⟩:∃ l,b.next[k]?=some l:=⟨_,dC Q⟩;obtain⟨gN,rfl,au,-⟩:=zU (show D.ownsRow w1.heap.size 128 1 (.slice B m d) m a from by have:=zkv.nx;rw [← Z.out] at this;exact this) hn0;obtain⟨Y,J,hr,f,t⟩:=zkv.row z Z.out;have aj:l.length<=100:=by have:=Hb.out.2.2 l (dB z);omega
    have HL:=za z;have HR:=za hr;have aO:=za (Hb.out.2.2 l (dB z));clear z hr Q;have cG:=zkv.blk.cell
    by_cases hl0:0<l.length
    ·obtain⟨gr,rfl,-,-⟩:=zU t hl0;go_wp2_with fail
     refine (zA (n:=l.length) zkv.rd oM).mono ?_;rintro e E ⟨j,rfl,av,-,hr6,hd6⟩;have bB:=av oM;replace zkv:=zkv.drawn hd6 hr6;have bx:=zkv.hR;have cN:∀ W,Dr R E W->W.cell? ⟨gN,k,none⟩=some (.slice (some gr) l.length J):=fun W hW=>(hd6.trans hW).aa f (by simp;omega);have bG:IntKind.i64.wrap ((m:Int) - 1)=(m:Int) - 1:=by rw [IntKind.wrap_i64];omega
     clear cG av hr6 hd6 f t;have cG:∀ W,Dr R E W->∀ q,W.cell? ⟨G,q,none⟩=#[Value.int .i64 b.al,.slice (some gN) m d,.slice B' m' d'][q]?:=fun W hW=>(zkv.blk.dr hW (oH zkv.hG)).cell;go_wp2_with fail
     refine tR (fun X=>Dr R E X) [13] (Ord.of [0,1,2,3,4,5,6,7,8,9,10,11,12,13]) ?_;refine tQ ?_;refine zC fun K hK=>?_;go_simp;refine hK.out _ _ ((Dr.refl R E).drew.alloc _) ?_;refine pT ?_;refine zC fun K hK=>?_;go_simp;refine (zbe (w:=E.drew) [(-1),m,(m:Int) - 1,0] 4 #[.int .i64 (-1),m,.int .i64 ((m:Int) - 1),(0:Int)] rfl rfl oM oM (zkv.rd.ext (cY _).drew) oM).mono ?_;rintro e w7 ⟨x,-,rfl,a0,aW⟩;have ae:Dr R E w7:=((Dr.refl R E).drew.alloc _).trans aW;have O:=zkv.drawn ae a0;refine hK.out _ _ ae ?_;refine pT ?_;refine tQ ?_;have zku:=O.rows.2.1 k _ l HR.out HL.out;obtain⟨o0,c0⟩:=zbc zku j oM;have f0:=zku.frozenAt j;have hst:=O.setRow (k:=j) (x:=x) HR.out HL.out rfl;refine zT fun K hK=>?_;go_simp;refine hK.out _ _ ?_;refine zao ?_;go_wp2_with fail
     go_meet;refine⟨_,_,_,_,_,_,hst.more oM,za ⟨by have:=Hb.out.1;rw [fH];omega,oH Hb.out.2.1,fun l' hl'=>?_⟩⟩;rcases eX hl' with h1|h1
     ·have:=Hb.out.2.2 l' h1;omega
     ·rw [h1];simp;have:=aO.out;omega
    ·have bC:l.length=0:=oM;have bD:¬ ((l.length:Int)>0):=oM;go_wp2_with fail
     go_meet;exact⟨_,_,_,_,_,_,zkv.more oM,za (Hb.out.more oM)⟩
   ·exact yE16a5
  ·subst I;have V:True:=trivial;have H:=zkv.dr.size;have p:=zkv.ext ((cY D).alloc (.cells #[] 128));have hn1:=World.ownsRow_lit (base:=w1.heap.size) (e:=128) (size:=1) D #[] 0 H lM rfl;have cG:=p.blk.cell;have fG:=p.blk.frozen;go_upto_region 18 with fail
   replace p:=p.setNext hn1;clear zkv cG fG hn1;generalize (D.alloc (.cells #[] 128)).setCell ⟨G,1,none⟩ (.slice (some D.heap.size) 0 0)=E at *;have a2:=p.dr.size;have F:=p.ext ((cY E).alloc (.cells #[] 4));have aZ:=World.ownsRow_lit (base:=w1.heap.size) (e:=4) (size:=1) E #[] 0 a2 lM rfl;have cG:=F.blk.cell;have fG:=F.blk.frozen;go_wp2_with fail
   go_meet;exact⟨_,_,_,_,_,_,(F.setMarks aZ).more oM,za ⟨sM,sM,fun l z=>by simp at z⟩⟩
  ·subst I;have V:True:=trivial
   by_cases hn0:0<m
   ·have bb:((m:Int)>0):=oM;have aB:m=b.next.length:=Z.out;have bE:m<=L:=oH Hb.out.1;have hst:∃ (i:Nat) (v:Value) (a:List Value) (C:List (List Int)) (vA:Value) (o:List Bool),i<=13∧zbX w1 D R G (M+2) b.al v a C vA o∧Hid (C.length=m+i)∧Hid (i=0∨m+i<=13)∧Hid (o.length<=L+i)∧Hid (∀ l∈C,l.length<=L):=
     ⟨0,_,_,_,_,_,oM,zkv,za aB.symm,za (.inl rfl),za Hb.out.2.1,za Hb.out.2.2⟩
    clear aB zkv;go_wp2_with fail
    go_loopw [] (fun wr=>∃ (i:Nat) (v:Value) (a:List Value) (C:List (List Int)) (vA:Value) (o:List Bool),i<=13∧zbX w1 wr R G (M+2) b.al v a C vA o∧Hid (C.length=m+i)∧Hid (i=0∨m+i<=13)∧Hid (o.length<=L+i)∧Hid (∀ l∈C,l.length<=L)) (fun wr=>200 - lenAt wr G)
    case atStart=>exact hst
    case round =>
     clear hst;obtain⟨i,v,a,C,vA,o,hi,zkv,s,aX,ah,ai⟩:=hrel;obtain⟨gN,cN,rfl,au⟩:∃ g c,v=.slice (some ⟨g,0,none⟩) (m+i) c∧w1.heap.size<=g:=by
      obtain⟨A9,c9,rfl⟩:=zi zkv.nx;obtain⟨g,rfl,hg,-⟩:=zU zkv.nx (oH s.out);exact⟨g,c9,by rw [s.out],hg⟩
     have aA:=za zkv.lenAt
     by_cases hlt:m+i<=12
     ·have ay:((m+i:Nat):Int)<=12:=oM;have ap:0<C.length:=oH s.out;obtain⟨l,z⟩:∃ l,C[0]?=some l:=⟨_,dC ap⟩;obtain⟨Y,J,hr,f,t⟩:=zkv.row z s.out.symm;have aj:l.length<=L:=ai.out l (dB z);have aP:=za aj;have ax:=za zkv.low;have H:=zkv.dr.size;have af:=eA t;have aQ:=za (fun W (hW:Ext wr W)=>af.ext hW);have cG:=fun W (hW:Ext wr W)=>(zkv.blk.ext hW).cell;have aT:∀ W,Ext wr W->W.cell? gN=some (.slice Y l.length J):=fun W hW=>hW.aa f;have a4:=cY wr;have bq:(0:Int)<((m+i:Nat):Int):=oM;have br:0<(m:Int)+(i:Int):=oM;clear z hr f t af ap;go_upto_region 21 with fail
      refine uR (fun X=>Ext wr X) [9,11] (zv.of [0,1,3,4,5,6,2,7,8,9,10,11]) ?_;refine uQ ?_;have u:Ext wr wr.drew:=a4.drew;generalize wr.drew=wd at *;refine ze fun K hK=>?_;go_simp;have hm:=World.ownsRow_made (base:=wr.heap.size) (e:=3) (size:=1) wd #[] 0 u.size (dF _) rfl;have U:=(cY wd).alloc (.cells #[] 3);replace u:=u.trans U;refine hK.out _ _ u ?_;generalize wd.alloc _=wm at *;generalize wd.heap.size=MM at *;refine pT ?_;refine uQ ?_;refine ze (fun K hK=>?_);refine zy wm _ _ 128 rfl wr.heap.size 3 _ 1 8 Tryz.underlying128 zag rfl dM (.slice (some MM) 0 0) 0 [] rfl hm _ _ Y l.length J (ints l) rfl (aQ.out _ u) (zhI _) lM oM u.size ?_;intro vR E hrow hgR hatR;rw [dT,eG] at hrow;obtain⟨BR,dR,rfl⟩:=zi hrow;have T:Ext wr E:=u.grown hgR (fun k hk=>(hm.lt k hk).1);refine hK.out _ _ T ?_;refine pT ?_;refine uQ ?_;refine ze fun K hK=>?_;go_simp;refine hK.out _ _ (T.alloc _) ?_;refine pT ?_;refine zb fun K hK=>?_;have r:=zkv.ext T;have S:=r.nx;rw [s.out] at S;refine zaN w1 E _ _ _ rfl 128 _ 1 24 Tryz.underlying25 zcw rfl dM (.slice (some gN) (m+i) cN) (m+i) a _ _ rfl rfl r.dr.size S rfl (zbd _ _ _) lM oM ?_;intro g7 cap7 w7 hown7 hg7 hat7 hlt7;refine hK.out _ _ ?_;refine pT ?_;refine uQ ?_;obtain⟨p1,p2,p3⟩:=r.ax (l:=l) (W':=w7) (g:=g7) (cap:=cap7) ax.out H hrow (by rw [s.out];exact hown7) hg7 hat7;have a6:=p1.out;rw [s.out] at p3;refine zb fun K hK=>?_;go_simp;refine hK.out _ _ ?_;refine zf ?_;generalize w7.setCell ⟨G,1,none⟩ (.slice (some g7) (m+i+1) cap7)=w8 at *;have bl:=p3.blk.cell;have a3:=p3.dr.size;have ba:=ah.out;clear p1 a6 p2 cG aT hown7 hg7 hat7 r zkv S;go_wp2_with (at_builtin;refine zad w1 w8 rfl _ _ _ rfl 4 _ 1 1 Tryz.underlying26 zbj rfl dM vA o.length (zaq o) _ _ rfl rfl a3 p3.acc rfl (by simp [Value.oneCell']) lM oM ?_;intro g9 cap9 w9 hown9 hg9 hat9 hlt9;obtain⟨q1,q2,q3⟩:=p3.aq (x:=false) hown9 hg9 hat9;have a7:=q1.out)
      go_roundw
      case rel=>exact⟨i+1,oM,_,_,C++[l],_,o++[false],q3,za (by have:=s.out;simp;omega),za oM,za (by simp;omega),za (fun l' hl'=>by
       rcases List.mem_append.1 hl' with h1|h1
       ·exact ai.out l' h1
       ·rw [List.mem_singleton.1 h1];exact aP.out)⟩
      case measure=>have h1:=q3.lenAt;have h2:=aA.out;omega
     ·have ay:¬ (((m+i:Nat):Int)<=12):=oM;have cG:=zkv.blk.cell;go_wp2_with fail
      go_meet;exact⟨_,_,_,_,_,_,zkv.more oM,za ⟨by have:=s.out;have:=aX.out;omega,oH ah.out,fun l' hl'=>by have:=ai.out l' hl';omega⟩⟩
   ·have hn1:m=0:=oM;clear hn0;have cG:=zkv.blk.cell;have hst:=zkv;clear zkv;go_wp2_with fail
    go_loopw [] (fun wr=>zbX w1 wr R G (M+1+1) b.al (.slice B m d) a b.next (.slice B' m' d') b.acc) (fun wr=>0)
    case atStart=>exact hst
    case round =>
     clear hst cG;have cG:=hrel.blk.cell;go_wp2_with fail
     go_meet;exact⟨_,_,_,_,_,_,hrel.more oM,za (Hb.out.more oM)⟩
  ·have bo:((y:Int)==0)=false:=by simp;omega
   have h1':((y:Int)==1)=false:=by simp;omega
   have bs:((y:Int)==2)=false:=by simp;omega
   have bt:((y:Int)==3)=false:=by simp;omega
   have bu:((y:Int)==4)=false:=by simp;omega
   have bw:((y:Int)==5)=false:=by simp;omega
   go_wp2_with fail
   go_meet;exact⟨_,_,_,_,_,_,zkv.more oM,za (Hb.out.more oM)⟩
 case rest =>
  clear zkv;obtain⟨al,v,a,C,vA,o,zkv,aV⟩:=hcut;obtain⟨A5,c5,rfl⟩:=zi zkv.nx;obtain⟨B5,d5,rfl⟩:=zi zkv.acc;obtain⟨f1,f2⟩:=zkv.fin (N:=M+10) (sh:=BdA (L+13)) U bz rfl hRl oM a5 oM aV.out;have bz5:=bz.dr zkv.dr oM;have cG:=zkv.blk.cell;have cZ:=bz5.cell;have fZ:=bz5.frozen;go_wp2_with fail
  have cf:=f2.cell;exact bodyPost_ret (v:=.agg #[al,.slice A5 C.length c5,.slice B5 o.length d5]) (by simp [results,Tryz.results168,go_sem,cf]) rfl f1.out
theorem zgE (h:Rd w R M)(hM:M<=900000000)(ho:zac w (R+1) A n c A' n' c' b)(hb:BdA L b)(hL:L<=100) :
  Calls Tryz.prog 194 #[.pointer (some R),.agg #[b.al,.slice A n c,.slice A' n' c']] w (zhm R (M+10) (BdA (L+1)) w):=by
 have hRl:=h.lt;have aw:=hb.size oM
 go_enter Tryz.func194,Tryz.ntmps194
 have o:=(cY w).alloc (.cells #[b.al,.slice A n c,.slice A' n' c'] 31);have b0:=dV w 31 #[b.al,.slice A n c,.slice A' n' c'];have aY:(w.alloc (.cells #[b.al,.slice A n c,.slice A' n' c'] 31)).heap.size=w.heap.size+1:=sM;obtain⟨w1,U0⟩:∃ x,Hid ((w.alloc (.cells #[b.al,.slice A n c,.slice A' n' c'] 31)).alloc (.cells #[(0:Int),(),()] 31)=x):=⟨_,za rfl⟩;have t:=o.alloc (.cells #[(0:Int),(),()] 31);have bz:=dU U0.out;replace b0:=b0.ext ((cY _).alloc (.cells #[(0:Int),(),()] 31));rw [aY] at bz;have c0:=b0.cell;go_upto_region 1 with fail
 rw [U0.out] at *;have az:=bz.lt;go_wp2_with fail
 refine (zay (ho.ext t).reads aw).mono ?_;rintro e w2 ⟨B,m,d,B',m',d',rfl,zku,aa⟩;obtain⟨f,zkv⟩:=zbX.of (R:=R) (M:=M) zku (h.ext (t.trans aa)) aa.dr oM;have hG:=aa.size;have hm:m=b.next.length:=zku.2.1;have aV:m'=b.acc.length:=zku.2.2.2;have bB:m<=100:=oH hb.1;have H:=za hm;have Hb:=za hb;subst aV;clear zku ho hm hb aw;go_upto_region 2 with fail
 generalize w2.alloc _=w3 at *;generalize w2.heap.size=G at *;have cG:=zkv.blk.cell
 by_cases hm0:m=0
 ·subst hm0;have ae:=zkv;rw [show (Value.slice B' b.acc.length d')=Value.slice B' b.acc.length d' from rfl] at ae;obtain⟨f1,f2⟩:=ae.fin (N:=M+10) (sh:=BdA (L+1)) t bz rfl hRl oM az oM (Hb.out.more oM);have bz5:=bz.dr zkv.dr oM;have cZ:=bz5.cell;have fZ:=bz5.frozen;clear ae;go_wp2_with fail
  have cf:=f2.cell;exact bodyPost_ret (v:=.agg #[b.al,.slice B 0 d,.slice B' b.acc.length d']) (by simp [results,Tryz.results194,go_sem,cf]) rfl f1.out
 have aW:((m:Int)==0)=false:=by simp;omega
 go_wp2_with fail
 refine (zA zkv.rd oM).mono ?_;rintro e w4 ⟨k,rfl,am,-,au,aj⟩;replace zkv:=zkv.drawn aj au;have bu:k<m:=by have:=am oM;omega
 clear aj au cG am aW;go_wp2_with fail
 refine (zA zkv.rd oM).mono ?_;rintro e a ⟨y,rfl,-,-,av,ak⟩;replace zkv:=zkv.drawn ak av;clear ak av;go_upto_block 0 with fail
 go_cut [] (fun wx=>∃ (v:Value) (f:List Value) (ls:List (List Int)) (vA:Value) (I:List Bool),zbX w1 wx R G (M+10) b.al v f ls vA I∧Hid (BdL (L+1) ls I))
 case first =>
  have ao:k<b.next.length:=oH H.out;obtain⟨l,hl⟩:∃ l,b.next[k]?=some l:=⟨_,dC ao⟩;obtain⟨gN,rfl,bs,-⟩:=zU (show a.ownsRow w1.heap.size 128 1 (.slice B m d) m f from by have:=zkv.nx;rw [← H.out] at this;exact this) oM;obtain⟨Ar,cr,hr,s,E⟩:=zkv.row hl H.out;have bA:l.length<=100:=by have:=Hb.out.2.2 l (dB hl);omega
  have HL:=za hl;have HR:=za hr;have V:=za (Hb.out.2.2 l (dB hl));have aZ:=zkv.dr.size;clear hl hr ao;have O:y=0∨y=1∨y=2∨3<=y:=oM;rcases O with hy|hy|hy|hy
  ·subst hy;have ay:True:=trivial;have cG:=fun W (hW:Ext a W)=>(zkv.blk.ext hW).cell
   by_cases hka:k<b.acc.length
   ·obtain⟨Y,rfl,aS,-⟩:=zU zkv.acc oM;obtain⟨x,hx⟩:∃ x,b.acc[k]?=some x:=⟨_,dC hka⟩;have C:a.cell? ⟨Y,k,none⟩=some (.bool x):=by rw [zkv.acc.cellAt k oM];simp [zaq,hx]
    have cA:∀ W,Ext a W->W.cell? ⟨Y,k,none⟩=some (.bool x):=fun W hW=>hW.aa C;have fA:∀ W,Ext a W->W.frozen? ⟨Y,k,none⟩=false:=fun W hW=>(zh zkv.acc hW).frozenAt k;have hst:=(zkv.ext (cY a).drew).setAcc (i:=k) (x:=!x) rfl;have an:(k:Int)<(b.acc.length:Int):=oM;have F:=cY a;clear C hx;go_wp2_with fail
    refine tR (fun X=>Ext a X) [10] (Ord.of [0,1,2,3,4,5,6,7,8,9,10]) ?_;refine tQ ?_;refine zT fun K hK=>?_;go_simp;refine hK.out _ _ ?_;refine zao ?_;go_wp2_with fail
    go_meet;exact⟨_,_,_,_,_,hst.more oM,za ⟨oH Hb.out.1,by have:=Hb.out.2.1;rw [fH];omega,fun l' hl'=>by have:=Hb.out.2.2 l' hl';omega⟩⟩
   ·have an:¬ ((b.acc.length:Int)>(k:Int)):=oM;have F:=cY a;go_wp2_with fail
    go_meet;exact⟨_,_,_,_,_,zkv.more oM,za (Hb.out.more oM)⟩
  ·subst hy;have ay:True:=trivial
   by_cases hl0:0<l.length
   ·obtain⟨gr,rfl,-,-⟩:=zU E hl0;have bq:=zkv.hR;have cN:∀ W,Dr R a W->W.cell? ⟨gN,k,none⟩=some (.slice (some gr) l.length cr):=fun W hW=>hW.aa s (by simp;omega);have cG:∀ W,Dr R a W->∀ q,W.cell? ⟨G,q,none⟩=#[Value.int .i64 b.al,.slice (some gN) m d,.slice B' b.acc.length d'][q]?:=fun W hW=>(zkv.blk.dr hW (oH zkv.hG)).cell;have br:=Dr.refl R a;clear s E;go_wp2_with fail
    refine tR (fun X=>Dr R a X) [17] (Ord.of [0,1,2,3,4,5,6,7,8,9,10,11,13,14,12,15,16,17]) ?_;refine tQ ?_;refine zC fun K hK=>?_;go_simp;refine (zA (n:=l.length) (zkv.rd.ext (cY _).drew) oM).mono ?_;rintro e w6 ⟨j,rfl,aT,-,hr6,hd6⟩;have bt:=aT oM;have Q:Dr R a w6:=(Dr.refl R a).drew.trans hd6;refine hK.out _ _ Q ?_;refine pT ?_;refine tQ ?_;refine zC fun K hK=>?_;go_simp;refine (zA (n:=m) hr6 oM).mono ?_;rintro e w7 ⟨x,rfl,ba,-,aX,aR⟩;have S:Dr R a w7:=Q.trans aR;have z:=zkv.drawn S aX;refine hK.out _ _ S ?_;refine pT ?_;refine tQ ?_;have zku:=z.rows.2.1 k _ l HR.out HL.out;obtain⟨o0,c0⟩:=zbc zku j oM;have f0:=zku.frozenAt j;have hst:=z.setRow (k:=j) (x:=x) HR.out HL.out rfl;refine zT fun K hK=>?_;go_simp;refine hK.out _ _ ?_;refine zao ?_;go_wp2_with fail
    go_meet;refine⟨_,_,_,_,_,hst.more oM,za ⟨by have:=Hb.out.1;rw [fH];omega,oH Hb.out.2.1,fun l' hl'=>?_⟩⟩;rcases eX hl' with h1|h1
    ·have:=Hb.out.2.2 l' h1;omega
    ·rw [h1];simp;have:=V.out;omega
   ·have bw:l.length=0:=oM;have bx:¬ ((l.length:Int)>0):=oM;have cG:=zkv.blk.cell;go_wp2_with fail
    go_meet;exact⟨_,_,_,_,_,zkv.more oM,za (Hb.out.more oM)⟩
  ·subst hy;have ay:True:=trivial;have cG:=fun W (hW:Ext a W)=>(zkv.blk.ext hW).cell;have aO:∀ W,Ext a W->W.cell? ⟨gN,k,none⟩=some (.slice Ar l.length cr):=fun W hW=>hW.aa s;have F:=cY a
   by_cases h1:12<=m
   ·have h1':¬ ((m:Int)<12):=oM;go_wp2_with fail
    go_meet;exact⟨_,_,_,_,_,zkv.more oM,za (Hb.out.more oM)⟩
   have h1':(m:Int)<12:=oM
   by_cases h2:b.acc.length<=k
   ·have ai:¬ ((b.acc.length:Int)>(k:Int)):=oM;go_wp2_with fail
    go_meet;exact⟨_,_,_,_,_,zkv.more oM,za (Hb.out.more oM)⟩
   have ai:(b.acc.length:Int)>(k:Int):=oM
   by_cases h3:l.length<=0
   ·have bp:¬ ((l.length:Int)>0):=oM;have a6:l.length=0:=oM;go_wp2_with fail
    go_meet;exact⟨_,_,_,_,_,zkv.more oM,za (Hb.out.more oM)⟩
   have a7:=za zkv.lenAt;have T:=eA E;have aK:=za (fun W (hW:Ext a W)=>T.ext hW);have aq:=za zkv.low;have a8:=za E;clear s E T;go_upto_region 15 with fail
   refine uR (fun X=>Ext a X) [10,12] (zv.of [0,1,3,4,5,6,7,2,8,9,10,11,12]) ?_;refine uQ ?_;have o:Ext a a.drew:=F.drew;generalize a.drew=wd at *;refine ze fun K hK=>?_;go_simp;have hm:=World.ownsRow_made (base:=a.heap.size) (e:=3) (size:=1) wd #[] 0 o.size (dF _) rfl;have t:=(cY wd).alloc (.cells #[] 3);replace o:=o.trans t;refine hK.out _ _ o ?_;generalize wd.alloc _=wm at *;generalize wd.heap.size=MM at *;refine pT ?_;refine uQ ?_;refine ze (fun K hK=>?_);refine zy wm _ _ 128 rfl a.heap.size 3 _ 1 8 Tryz.underlying128 zag rfl dM (.slice (some MM) 0 0) 0 [] rfl hm _ _ Ar l.length cr (ints l) rfl (aK.out _ o) (zhI _) lM oM o.size ?_;intro vR w6 hrow hgR hatR;rw [dT,eG] at hrow;obtain⟨BR,dR,rfl⟩:=zi hrow;have u:Ext a w6:=o.grown hgR (fun k hk=>(hm.lt k hk).1);refine hK.out _ _ u ?_;refine pT ?_;refine uQ ?_;refine ze fun K hK=>?_;go_simp;refine hK.out _ _ (u.alloc _) ?_;refine pT ?_;refine zb fun K hK=>?_;have p:=zkv.ext u;have D:=p.nx;rw [← H.out] at D;refine zaN w1 w6 _ _ _ rfl 128 _ 1 24 Tryz.underlying25 zcw rfl dM (.slice (some gN) m d) m f _ _ rfl rfl p.dr.size D rfl (zbd _ _ _) lM oM ?_;intro g7 cap7 w7 hown7 hg7 hat7 hlt7;refine hK.out _ _ ?_;refine pT ?_;refine uQ ?_;obtain⟨p1,p2,p3⟩:=p.ax (l:=l) (W':=w7) (g:=g7) (cap:=cap7) aq.out aZ hrow (by rw [← H.out];exact hown7) hg7 hat7;have a0:=p1.out;rw [← H.out] at p3;refine zb fun K hK=>?_;go_simp;refine hK.out _ _ ?_;refine zf ?_;generalize w7.setCell ⟨G,1,none⟩ (.slice (some g7) (m+1) cap7)=U at *;have bC:=p3.dr.size;clear p1 a0 p2 cG aO hown7 hg7 hat7 p zkv D u o t;obtain⟨Y,rfl,aS,-⟩:=zU p3.acc oM;obtain⟨x,hx⟩:∃ x,b.acc[k]?=some x:=⟨_,dC oM⟩;have C:U.cell? ⟨Y,k,none⟩=some (.bool x):=by rw [p3.acc.cellAt k oM];simp [zaq,hx]
   have cA:∀ W,Ext U W->W.cell? ⟨Y,k,none⟩=some (.bool x):=fun W hW=>hW.aa C;have aN:=fun W (hW:Ext U W)=>(p3.blk.ext hW).cell;have F:=cY U;clear C hx;go_upto_region 16 with fail
   refine uR (fun X=>Ext U X) [8,10] (zv.of [0,1,2,3,4,5,6,7,8,9,10]) ?_;refine uQ ?_;have ab:Ext U U.drew:=F.drew;generalize U.drew=a3 at *;refine ze fun K hK=>?_;go_simp;refine hK.out _ _ (ab.alloc _) ?_;refine pT ?_;refine zb fun K hK=>?_;have r:=p3.ext ab;refine zaN w1 a3 _ _ _ rfl 4 _ 1 1 Tryz.underlying26 zbj rfl dM (.slice (some Y) b.acc.length d') b.acc.length (zaq b.acc) _ _ rfl rfl r.dr.size r.acc rfl (by simp [Value.oneCell']) (by unfold maxLen;have:=Hb.out.2.1;omega) (oH Hb.out.2.1) ?_;intro g9 cap9 w9 hown9 hg9 hat9 hlt9;refine hK.out _ _ ?_;refine pT ?_;refine uQ ?_;obtain⟨q1,q2,q3⟩:=r.aq (x:=x) hown9 hg9 hat9;have a1:=q1.out;refine zb fun K hK=>?_;go_simp;refine hK.out _ _ ?_;refine zf ?_;generalize w9.setCell ⟨G,2,none⟩ (.slice (some g9) (b.acc.length+1) cap9)=a2 at *;clear q1 a1 q2 aN cA r p3 hown9 hg9 hat9 ab;have aU:k<f.length:=by have:=q3.rows.1;simp at this;have:=H.out;omega
   have J:(f++[Value.slice BR l.length dR])[k]?=some (.slice Ar l.length cr):=by rw [dL aU];exact HR.out
   have Z:(b.next++[l])[k]?=some l:=by rw [dL (oH H.out)];exact HL.out
   have zku:=q3.rows.2.1 k _ l J Z;obtain⟨gr,rfl,-,-⟩:=zU zku oM;obtain⟨o0,c0⟩:=zbc zku 0 oM;have f0:=zku.frozenAt 0;have hst:=q3.setRow (k:=0) (x:=m) J Z rfl;have cG:=q3.blk.cell;have cN:a2.cell? ⟨g7,k,none⟩=some (.slice (some gr) l.length cr):=by
    have:=q3.nx;rw [List.length_append,List.length_singleton,← H.out] at this;rw [this.cellAt k oM];exact J
   clear zku J Z;go_wp2_with fail
   go_meet;refine⟨_,_,_,_,_,hst.more oM,za ⟨by have:=Hb.out.1;rw [fH];simp;omega,by have:=Hb.out.2.1;simp;omega,fun l' hl'=>?_⟩⟩;rcases eX hl' with h1|h1
   ·rcases List.mem_append.1 h1 with h1|h1
    ·have:=Hb.out.2.2 l' h1;omega
    ·rw [List.mem_singleton.1 h1];have:=V.out;omega
   ·rw [h1];simp;have:=V.out;omega
  ·have bo:((y:Int)==0)=false:=by simp;omega
   have h1':((y:Int)==1)=false:=by simp;omega
   have ai:((y:Int)==2)=false:=by simp;omega
   go_wp2_with fail
   go_meet;exact⟨_,_,_,_,_,zkv.more oM,za (Hb.out.more oM)⟩
 case rest =>
  clear zkv;obtain⟨v,f,ls,vA,I,zkv,aQ⟩:=hcut;obtain⟨A5,c5,rfl⟩:=zi zkv.nx;obtain⟨B5,d5,rfl⟩:=zi zkv.acc;obtain⟨f1,f2⟩:=zkv.fin (N:=M+10) (sh:=BdA (L+1)) t bz rfl hRl oM az oM aQ.out;have bz5:=bz.dr zkv.dr oM;have cG:=zkv.blk.cell;have cZ:=bz5.cell;have fZ:=bz5.frozen;go_wp2_with fail
  have cf:=f2.cell;exact bodyPost_ret (v:=.agg #[b.al,.slice A5 ls.length c5,.slice B5 I.length d5]) (by simp [results,Tryz.results194,go_sem,cf]) rfl f1.out
theorem Dr.far {a b c:World}(h:Dr R a b)(hf:Frm (fun k=>k=Z) b c)(hZ:a.heap.size<=Z):Dr R a c:=
 ⟨hf.os.trans h.os,hf.tape.trans h.tape,hf.output.trans h.output,Nat.le_trans h.size hf.size,fun k hk hn=>(hf.block k (Nat.lt_of_lt_of_le hk h.size) (fun e=>oM)).trans (h.block k hk hn)⟩
theorem zam (W:World) (Z:Nat) (u0 u1 u2:Value):Frm (fun k=>k=Z) W (((W.setCell Z u0).setCell ⟨Z,1,none⟩ u1).setCell ⟨Z,2,none⟩ u2):=
 ((dE W Z 0 u0).trans (dE _ Z 1 u1)).trans (dE _ Z 2 u2)
theorem zaH {t:TypeId}(h:Blk w Z t cs)(hc:cs.size=3) (u0 u1 u2:Value):Blk (((w.setCell Z u0).setCell ⟨Z,1,none⟩ u1).setCell ⟨Z,2,none⟩ u2) Z t #[u0,u1,u2]:=by
 obtain⟨l⟩:=cs
 match l,hc with
 |[a,b,c],_=>simpa using ((h.ab 0 u0).ab 1 u1).ab 2 u2
def autZ:Aut:=⟨0,[],[]⟩
theorem zjW (w:World) (base:Nat):zac w base none 0 0 none 0 0 autZ:=⟨⟨[],World.ownsRow_nil _ _ _ _,zH.nil _ _⟩,rfl,World.ownsRow_nil _ _ _ _,rfl⟩
theorem bd_autZ (K:Nat):BdA K autZ:=⟨dF _,dF _,fun l hl=>by simp [autZ] at hl⟩
structure zca (w0 W:World) (R M L K:Nat) (s:Sys) (A:Option Addr) (n c:Nat) (t:Sys) (C:Option Addr) (k c2:Nat) (p:Aut) (B:Option Addr) (m d:Nat) (B':Option Addr) (m' d':Nat):Prop where
 is:zbP W R A n s
 it:zbP W R C k t
 ip:zac W (R+1) B m d B' m' d' p
 ns:(n<=L∧n<=c)∧(k<=L∧k<=c2)
 bd:Hid (BdA K p)
 rd:Rd W R M
 dr:Dr R w0 W
 hR:R<w0.heap.size
section
variable {w0 W W':World} {R M L K N J H Z n c k c2 m d m' d':Nat} {s t:Sys} {p:Aut} {A B B' C:Option Addr}
theorem zca.drawn (h:zca w0 W R M L K s A n c t C k c2 p B m d B' m' d')(hd:Dr R W W')(hr:Rd W' R N):zca w0 W' R N L K s A n c t C k c2 p B m d B' m' d':=
 ⟨h.is.dr hd,h.it.dr hd,h.ip.keep hd (fun b h1 e=>oM),h.ns,h.bd,hr,h.dr.trans hd,h.hR⟩
theorem zca.ext (h:zca w0 W R M L K s A n c t C k c2 p B m d B' m' d')(hx:Ext W W'):zca w0 W' R M L K s A n c t C k c2 p B m d B' m' d':=h.drawn hx.dr (h.rd.ext hx)
theorem zca.more (h:zca w0 W R M L K s A n c t C k c2 p B m d B' m' d')(hM:M<=N)(hL:L<=J)(hK:K<=H):zca w0 W R N J H s A n c t C k c2 p B m d B' m' d':=
 ⟨h.is,h.it,h.ip,oH h.ns,za (BdL.more h.bd.out hK),h.rd.more hM,h.dr,h.hR⟩
theorem zca.far {ty:TypeId} (h:zca w0 W R M L K s A n c t C k c2 p B m d B' m' d')(hB:Blk W Z ty cs)(hf:Frm (fun k=>k=Z) W W')(hZ:w0.heap.size<=Z)(h1:ty≠152)(h2:ty≠3∧ty≠128∧ty≠4):zca w0 W' R M L K s A n c t C k c2 p B m d B' m' d':=
 ⟨h.is.far hB h1 hf,h.it.far hB h1 hf,h.ip.ar hB hf h2,h.ns,h.bd,h.rd.frm hf (fun k hk e=>oH h.hR),h.dr.far hf hZ,h.hR⟩
theorem zca.less (h:zca w0 W R M L K s A n c t C k c2 p B m d B' m' d')(hd:Dr R w1 w0)(hR:R<w1.heap.size):zca w1 W R M L K s A n c t C k c2 p B m d B' m' d':=
 ⟨h.is,h.it,h.ip,h.ns,h.bd,h.rd,hd.trans h.dr,hR⟩
end
def Ne6 (a b c d e f:Nat):Prop:=(a≠b∧a≠c∧a≠d∧a≠e∧a≠f)∧(b≠c∧b≠d∧b≠e∧b≠f)∧(c≠d∧c≠e∧c≠f)∧(d≠e∧d≠f)∧e≠f
structure Tri (w0 W:World) (R M L K:Nat) (Zs Zt Zp Gs Gt Gp:Nat) (s:Sys) (A:Option Addr) (n c:Nat) (t:Sys) (C:Option Addr) (k c2:Nat) (p:Aut) (B:Option Addr) (m d:Nat) (B':Option Addr) (m' d':Nat):Prop where
 at_:zca w0 W R M L K s A n c t C k c2 p B m d B' m' d'
 zs:Blk W Zs 38 #[(0:Int),(0:Int),()]
 zt:Blk W Zt 38 #[(0:Int),(0:Int),()]
 zp:Blk W Zp 31 #[(0:Int),(),()]
 bs:Blk W Gs 38 #[s.al,s.st,.slice A n c]
 bt:Blk W Gt 38 #[t.al,t.st,.slice C k c2]
 bp:Gp=0∨Blk W Gp 31 #[p.al,.slice B m d,.slice B' m' d']
 ge:w0.heap.size<=Zs∧w0.heap.size<=Zt∧w0.heap.size<=Zp∧w0.heap.size<=Gs∧w0.heap.size<=Gt∧(Gp=0∨w0.heap.size<=Gp)
 ne:Hid (Ne6 Zs Zt Zp Gs Gt Gp)
section
variable {w0 W W':World} {R M L K N J H n c k c2 m d m' d' Zs Zt Zp Gs Gt Gp:Nat} {s t:Sys} {p:Aut} {A B B' C:Option Addr}
theorem Tri.drawn (h:Tri w0 W R M L K Zs Zt Zp Gs Gt Gp s A n c t C k c2 p B m d B' m' d')(hd:Dr R W W')(hr:Rd W' R N):Tri w0 W' R N L K Zs Zt Zp Gs Gt Gp s A n c t C k c2 p B m d B' m' d':=by
 have f:=h.at_.hR;have a:=h.ge;exact⟨h.at_.drawn hd hr,h.zs.dr hd oM,h.zt.dr hd oM,h.zp.dr hd oM,h.bs.dr hd oM,h.bt.dr hd oM,by
  rcases a.2.2.2.2.2 with e|e
  ·exact .inl e
  ·exact h.bp.imp id (fun b=>b.dr hd oM),a,h.ne⟩
theorem Tri.ext (h:Tri w0 W R M L K Zs Zt Zp Gs Gt Gp s A n c t C k c2 p B m d B' m' d')(hx:Ext W W'):Tri w0 W' R M L K Zs Zt Zp Gs Gt Gp s A n c t C k c2 p B m d B' m' d':=h.drawn hx.dr (h.at_.rd.ext hx)
theorem Tri.more (h:Tri w0 W R M L K Zs Zt Zp Gs Gt Gp s A n c t C k c2 p B m d B' m' d')(hM:M<=N)(hL:L<=J)(hK:K<=H):Tri w0 W R N J H Zs Zt Zp Gs Gt Gp s A n c t C k c2 p B m d B' m' d':={ h with at_:=h.at_.more hM hL hK }
theorem Tri.az (h:Tri w0 W R M L K Zs Zt Zp Gs Gt Gp s A n c t C k c2 p B m d B' m' d')(hG:Gp≠0):Blk W Gp 31 #[.int .i64 p.al,.slice B m d,.slice B' m' d']:=h.bp.resolve_left hG
theorem Tri.setS (h:Tri w0 W R M L K Zs Zt Zp Gs Gt Gp s A n c t C k c2 p B m d B' m' d')(hs:zbP W R A2 n2 s2)(hn:n2<=L∧n2<=d2) :
  Tri w0 (((W.setCell Gs s2.al).setCell ⟨Gs,1,none⟩ s2.st).setCell ⟨Gs,2,none⟩ (.slice A2 n2 d2)) R M L K Zs Zt Zp Gs Gt Gp s2 A2 n2 d2 t C k c2 p B m d B' m' d':=by
 have a:=zam W Gs (.int .i64 s2.al) (.int .i64 s2.st) (.slice A2 n2 d2);obtain⟨⟨g,i,j,l,o⟩,⟨q,r,u,v⟩,⟨x,c2,y⟩,⟨z,f⟩,D⟩:=h.ne.out;have h1:=h.at_.far h.bs a h.ge.2.2.2.1 dM dM;exact⟨{ h1 with is:=hs.far h.bs dM a,ns:=⟨hn,h1.ns.2⟩ },h.zs.frm a oM,h.zt.frm a oM,h.zp.frm a oM,zaH h.bs rfl _ _ _,h.bt.frm a oM,h.bp.imp id (fun b=>b.frm a oM),h.ge,h.ne⟩
theorem Tri.setT (h:Tri w0 W R M L K Zs Zt Zp Gs Gt Gp s A n c t C k c2 p B m d B' m' d')(hs:zbP W R A2 n2 s2)(hn:n2<=L∧n2<=d2) :
  Tri w0 (((W.setCell Gt s2.al).setCell ⟨Gt,1,none⟩ s2.st).setCell ⟨Gt,2,none⟩ (.slice A2 n2 d2)) R M L K Zs Zt Zp Gs Gt Gp s A n c s2 A2 n2 d2 p B m d B' m' d':=by
 have a:=zam W Gt (.int .i64 s2.al) (.int .i64 s2.st) (.slice A2 n2 d2);obtain⟨⟨g,i,j,l,o⟩,⟨q,r,u,v⟩,⟨x,c2,y⟩,⟨z,f⟩,D⟩:=h.ne.out;have h1:=h.at_.far h.bt a h.ge.2.2.2.2.1 dM dM;exact⟨{ h1 with it:=hs.far h.bt dM a,ns:=⟨h1.ns.1,hn⟩ },h.zs.frm a oM,h.zt.frm a oM,h.zp.frm a oM,h.bs.frm a oM,zaH h.bt rfl _ _ _,h.bp.imp id (fun b=>b.frm a oM),h.ge,h.ne⟩
theorem Tri.setP {p2:Aut}   {A3:Option Addr} {n3 d3:Nat}(h:Tri w0 W R M L K Zs Zt Zp Gs Gt Gp s A n c t C k c2 p B m d B' m' d')(hG:Gp≠0)(hp:zac W (R+1) A2 n2 d2 A3 n3 d3 p2)(hb:BdA K p2) :
  Tri w0 (((W.setCell Gp p2.al).setCell ⟨Gp,1,none⟩ (.slice A2 n2 d2)).setCell ⟨Gp,2,none⟩ (.slice A3 n3 d3)) R M L K Zs Zt Zp Gs Gt Gp s A n c t C k c2 p2 A2 n2 d2 A3 n3 d3:=by
 have a:=zam W Gp (.int .i64 p2.al) (.slice A2 n2 d2) (.slice A3 n3 d3);obtain⟨⟨g,i,j,l,o⟩,⟨q,r,u,v⟩,⟨x,c2,y⟩,⟨z,f⟩,D⟩:=h.ne.out;have b:=h.az hG;have h1:=h.at_.far b a (h.ge.2.2.2.2.2.resolve_left hG) dM dM;exact⟨{ h1 with ip:=hp.ar b a dM,bd:=za hb },h.zs.frm a oM,h.zt.frm a oM,h.zp.frm a oM,h.bs.frm a oM,h.bt.frm a oM,.inr (zaH b rfl _ _ _),h.ge,h.ne⟩
end
def RetSTP (R M L K:Nat) (w:World) (e:Ending) (w':World):Prop:=
 ∃ (s:Sys) (A:Option Addr) (n c:Nat) (t:Sys) (C:Option Addr) (k c2:Nat) (p:Aut) (B:Option Addr) (m d:Nat) (B':Option Addr) (m' d':Nat),
  e=.returned (.tuple #[.agg #[s.al,s.st,.slice A n c],.agg #[t.al,t.st,.slice C k c2],.agg #[p.al,.slice B m d,.slice B' m' d']])∧zca w w' R M L K s A n c t C k c2 p B m d B' m' d'
def RetSPT (R M L K:Nat) (w:World) (e:Ending) (w':World):Prop:=
 ∃ (s:Sys) (A:Option Addr) (n c:Nat) (t:Sys) (C:Option Addr) (k c2:Nat) (p:Aut) (B:Option Addr) (m d:Nat) (B':Option Addr) (m' d':Nat),
  e=.returned (.tuple #[.agg #[s.al,s.st,.slice A n c],.agg #[p.al,.slice B m d,.slice B' m' d'],.agg #[t.al,t.st,.slice C k c2]])∧zca w w' R M L K s A n c t C k c2 p B m d B' m' d'
section
variable {w0 W:World} {R M L K N J H n c k c2 m d m' d' Zs Zt Zp:Nat} {s t:Sys} {p:Aut} {A B B' C:Option Addr} {us ut up:Array Value}
theorem zca.finSTP (h:zca w0 W R M L K s A n c t C k c2 p B m d B' m' d') (zs:Blk W Zs 38 us) (zt:Blk W Zt 38 ut) (zp:Blk W Zp 31 up)(h1:us.size=3)(h2:ut.size=3)(h3:up.size=3)(hz1:w0.heap.size<=Zs)(hz2:w0.heap.size<=Zt)(hz3:w0.heap.size<=Zp) (e1:Zs≠Zt) (e2:Zs≠Zp) (e3:Zt≠Zp) :
  Hid (zca w0 (((((((((W.setCell Zs s.al).setCell ⟨Zs,1,none⟩ s.st).setCell ⟨Zs,2,none⟩ (.slice A n c)).setCell Zt t.al).setCell ⟨Zt,1,none⟩ t.st).setCell ⟨Zt,2,none⟩ (.slice C k c2)).setCell Zp p.al).setCell ⟨Zp,1,none⟩ (.slice B m d)).setCell ⟨Zp,2,none⟩ (.slice B' m' d')) R M L K s A n c t C k c2 p B m d B' m' d') ∧
  Hid (Blk (((((((((W.setCell Zs s.al).setCell ⟨Zs,1,none⟩ s.st).setCell ⟨Zs,2,none⟩ (.slice A n c)).setCell Zt t.al).setCell ⟨Zt,1,none⟩ t.st).setCell ⟨Zt,2,none⟩ (.slice C k c2)).setCell Zp p.al).setCell ⟨Zp,1,none⟩ (.slice B m d)).setCell ⟨Zp,2,none⟩ (.slice B' m' d')) Zs 38 #[s.al,s.st,.slice A n c] ∧
  Blk (((((((((W.setCell Zs s.al).setCell ⟨Zs,1,none⟩ s.st).setCell ⟨Zs,2,none⟩ (.slice A n c)).setCell Zt t.al).setCell ⟨Zt,1,none⟩ t.st).setCell ⟨Zt,2,none⟩ (.slice C k c2)).setCell Zp p.al).setCell ⟨Zp,1,none⟩ (.slice B m d)).setCell ⟨Zp,2,none⟩ (.slice B' m' d')) Zt 38 #[t.al,t.st,.slice C k c2] ∧
  Blk (((((((((W.setCell Zs s.al).setCell ⟨Zs,1,none⟩ s.st).setCell ⟨Zs,2,none⟩ (.slice A n c)).setCell Zt t.al).setCell ⟨Zt,1,none⟩ t.st).setCell ⟨Zt,2,none⟩ (.slice C k c2)).setCell Zp p.al).setCell ⟨Zp,1,none⟩ (.slice B m d)).setCell ⟨Zp,2,none⟩ (.slice B' m' d')) Zp 31 #[p.al,.slice B m d,.slice B' m' d']):=by
 have f1:=zam W Zs (.int .i64 s.al) (.int .i64 s.st) (.slice A n c);have b:=zaH zs h1 (.int .i64 s.al) (.int .i64 s.st) (.slice A n c);replace h:=h.far zs f1 hz1 dM dM;replace zt:=zt.frm f1 oM;replace zp:=zp.frm f1 oM;clear f1 zs;generalize ((W.setCell Zs s.al).setCell ⟨Zs,1,none⟩ s.st).setCell ⟨Zs,2,none⟩ (.slice A n c)=f at *;have f2:=zam f Zt (.int .i64 t.al) (.int .i64 t.st) (.slice C k c2);have i:=zaH zt h2 (.int .i64 t.al) (.int .i64 t.st) (.slice C k c2);replace h:=h.far zt f2 hz2 dM dM;replace b:=b.frm f2 oM;replace zp:=zp.frm f2 oM;clear f2 zt;generalize ((f.setCell Zt t.al).setCell ⟨Zt,1,none⟩ t.st).setCell ⟨Zt,2,none⟩ (.slice C k c2)=g at *;have a:=zam g Zp (.int .i64 p.al) (.slice B m d) (.slice B' m' d');exact⟨za (h.far zp a hz3 dM dM),za ⟨b.frm a oM,i.frm a oM,zaH zp h3 _ _ _⟩⟩
theorem zca.finSPT (h:zca w0 W R M L K s A n c t C k c2 p B m d B' m' d') (zs:Blk W Zs 38 us) (zt:Blk W Zt 38 ut) (zp:Blk W Zp 31 up)(h1:us.size=3)(h2:ut.size=3)(h3:up.size=3)(hz1:w0.heap.size<=Zs)(hz2:w0.heap.size<=Zt)(hz3:w0.heap.size<=Zp) (e1:Zs≠Zt) (e2:Zs≠Zp) (e3:Zt≠Zp) :
  Hid (zca w0 (((((((((W.setCell Zs s.al).setCell ⟨Zs,1,none⟩ s.st).setCell ⟨Zs,2,none⟩ (.slice A n c)).setCell Zp p.al).setCell ⟨Zp,1,none⟩ (.slice B m d)).setCell ⟨Zp,2,none⟩ (.slice B' m' d')).setCell Zt t.al).setCell ⟨Zt,1,none⟩ t.st).setCell ⟨Zt,2,none⟩ (.slice C k c2)) R M L K s A n c t C k c2 p B m d B' m' d') ∧
  Hid (Blk (((((((((W.setCell Zs s.al).setCell ⟨Zs,1,none⟩ s.st).setCell ⟨Zs,2,none⟩ (.slice A n c)).setCell Zp p.al).setCell ⟨Zp,1,none⟩ (.slice B m d)).setCell ⟨Zp,2,none⟩ (.slice B' m' d')).setCell Zt t.al).setCell ⟨Zt,1,none⟩ t.st).setCell ⟨Zt,2,none⟩ (.slice C k c2)) Zs 38 #[s.al,s.st,.slice A n c] ∧
  Blk (((((((((W.setCell Zs s.al).setCell ⟨Zs,1,none⟩ s.st).setCell ⟨Zs,2,none⟩ (.slice A n c)).setCell Zp p.al).setCell ⟨Zp,1,none⟩ (.slice B m d)).setCell ⟨Zp,2,none⟩ (.slice B' m' d')).setCell Zt t.al).setCell ⟨Zt,1,none⟩ t.st).setCell ⟨Zt,2,none⟩ (.slice C k c2)) Zt 38 #[t.al,t.st,.slice C k c2] ∧
  Blk (((((((((W.setCell Zs s.al).setCell ⟨Zs,1,none⟩ s.st).setCell ⟨Zs,2,none⟩ (.slice A n c)).setCell Zp p.al).setCell ⟨Zp,1,none⟩ (.slice B m d)).setCell ⟨Zp,2,none⟩ (.slice B' m' d')).setCell Zt t.al).setCell ⟨Zt,1,none⟩ t.st).setCell ⟨Zt,2,none⟩ (.slice C k c2)) Zp 31 #[p.al,.slice B m d,.slice B' m' d']):=by
 have f1:=zam W Zs (.int .i64 s.al) (.int .i64 s.st) (.slice A n c);have b:=zaH zs h1 (.int .i64 s.al) (.int .i64 s.st) (.slice A n c);replace h:=h.far zs f1 hz1 dM dM;replace zt:=zt.frm f1 oM;replace zp:=zp.frm f1 oM;clear f1 zs;generalize ((W.setCell Zs s.al).setCell ⟨Zs,1,none⟩ s.st).setCell ⟨Zs,2,none⟩ (.slice A n c)=f at *;have f2:=zam f Zp (.int .i64 p.al) (.slice B m d) (.slice B' m' d');have i:=zaH zp h3 (.int .i64 p.al) (.slice B m d) (.slice B' m' d');replace h:=h.far zp f2 hz3 dM dM;replace b:=b.frm f2 oM;replace zt:=zt.frm f2 oM;clear f2 zp;generalize ((f.setCell Zp p.al).setCell ⟨Zp,1,none⟩ (.slice B m d)).setCell ⟨Zp,2,none⟩ (.slice B' m' d')=g at *;have a:=zam g Zt (.int .i64 t.al) (.int .i64 t.st) (.slice C k c2);exact⟨za (h.far zt a hz2 dM dM),za ⟨b.frm a oM,zaH zt h2 _ _ _,i.frm a oM⟩⟩
end
theorem bits_all (y:Nat)(hy:y<64):bits .and .i64 (-1) (y:Int)=(y:Int):=
 (show ∀ y:Fin 64,bits .and .i64 (-1) ((y.val:Nat):Int)=((y.val:Nat):Int) by decide +kernel) ⟨y,hy⟩
theorem yE16a2 {P:Prop}(h:P:=by
 obtain⟨f1,f2⟩:=zjA (N:=M+600) (sh:=zhl) hxz zku hsh.out hr6 hd6 bz rfl hRl (Nat.le_refl _) (Nat.le_refl _);have bz5:=bz.dr hd6 oM;have cZ:=bz5.cell;have fZ:=bz5.frozen;go_wp2_with fail
 have cf:=f2.cell;exact bodyPost_ret (v:=.agg #[b.al,.slice A n c,.slice A' n' c']) (by simp [results,Tryz.results235,go_sem,cf]) rfl f1.out
 ):P:=h
theorem zhA {zz:Int} (h:Rd w R M)(hM:M<=700000000)(ha:(∃ a:Nat,zz=(a:Int)∧a<64)∨zz = -1) :
  Calls Tryz.prog 235 #[.pointer (some R),zz] w (zhm R (M+600) zhl w):=by
 have hRl:=h.lt
 go_enter Tryz.func235,Tryz.ntmps235
 obtain⟨w1,U0⟩:∃ x,Hid (w.alloc (.cells #[(0:Int),(),()] 31)=x):=⟨_,za rfl⟩;have hxz:=(cY w).alloc (.cells #[(0:Int),(),()] 31);have bz:=dU U0.out;have B:w1.heap.size=w.heap.size+1:=by rw [← U0.out];simp
 go_wp2_with fail
 rw [← B];rw [U0.out] at *;refine (zbe [63,63,5,3,6] 5 #[(63:Int),(63:Int),(5:Int),(3:Int),(6:Int)] rfl rfl oM oM (h.ext hxz) oM).mono ?_;rintro e H ⟨x,j,rfl,r,k⟩;obtain⟨y,C,rfl⟩:∃ y:Nat,y<64∧x=(y:Int):=⟨x.toNat,by simp at j;omega,by simp at j;omega⟩;clear j;replace k:=((Dr.refl R w1).alloc _).trans k;obtain⟨d,m,s⟩:∃ d:Nat,bits .and .i64 zz (y:Int)=(d:Int)∧d<64:=by
  rcases ha with ⟨a,rfl,ha⟩|rfl
  ·exact⟨a&&&y,zdi tM tM,Nat.lt_of_le_of_lt Nat.and_le_left ha⟩
  ·exact⟨y,bits_all y C,C⟩
 go_upto_region 2 with fail
 clear m;go_wp2_with fail
 refine (zA r oM).mono ?_;rintro e I ⟨z,rfl,-,-,i,f⟩;replace f:=k.trans f;clear k r;go_upto_if 13 with fail
 go_cut [5] (fun s5 wx=>∃ d:Nat,d<64∧s5=.int .i64 (d:Nat)∧Rd wx R (M+10)∧Dr R w1 wx)
 case first =>
  by_cases hz:z=0
  ·subst hz;go_wp2_with fail
   refine (spec_l1Some i oM).mono ?_;rintro e G ⟨x,j,rfl,l,g⟩;go_wp2_with fail
   go_meet;exact⟨x,j,rfl,l.more oM,f.trans g⟩
  ·have F:((z:Int)==0)=false:=by simp;omega
   go_wp2_with fail
   go_meet;exact⟨d,s,rfl,i.more oM,f⟩
 case rest =>
  clear i f s;obtain⟨d,t,rfl,i,f⟩:=hcut;go_wp2_with fail
  refine (zA i oM).mono ?_;rintro e G ⟨y,rfl,-,-,l,g⟩;replace g:=f.trans g
  by_cases C:0<y
  ·have D:((y:Int)>0):=oM;go_wp2_with fail
   refine (zbe [3,2,4,1] 4 #[(3:Int),(2:Int),(4:Int),(1:Int)] rfl rfl oM oM l oM).mono ?_;rintro e J ⟨x,j,rfl,v,u⟩;obtain⟨p,q,E,rfl⟩:∃ y:Nat,1<=y∧y<=4∧x=(y:Int):=⟨x.toNat,by simp at j;omega,by simp at j;omega,by simp at j;omega⟩;clear j;have o:=(g.alloc _).trans u;go_wp2_with fail
   refine (ziv v oM t q oM).mono ?_;intro e w6 hret;obtain⟨b,A,n,c,A',n',c',rfl,zku,hsh,hr6,hd6⟩:=hret.mono (N:=M+600) (sh':=zhl) o oM (fun b hb=>⟨d,p,t,q,oM,hb⟩);exact yE16a2
  ·have D:¬ ((y:Int)>0):=oM;go_wp2_with fail
   refine (ziu l oM t).mono ?_;intro e w6 hret;obtain⟨b,A,n,c,A',n',c',rfl,zku,hsh,hr6,hd6⟩:=hret.mono (N:=M+600) (sh':=zhl) g oM (fun b hb=>hb);exact yE16a2
theorem zix (h:Rd w R M)(hM:M<=700000000)(ha:a<64) :
  Calls Tryz.prog 235 #[.pointer (some R),a] w (zhm R (M+600) zhl w):=zhA h hM (.inl ⟨a,rfl,ha⟩)
theorem Dr.new (h:Ext w w1)(hR:w.heap.size<=R)(hd:Dr R w1 w2):Ext w w2:=
 h.frm hd (fun k hk he=>oM)
theorem zbP.new (h:zbP W R A n s)(hR:w.heap.size<=R):zP W w.heap.size W.heap.size A n s:=
 h.at_.more oM (dD _)
theorem zhh (h:Rd w R M)(hM:M<=800000000) :
  Calls Tryz.prog 166 #[.pointer (some R)] w (RetG R (M+30000) 20000 w):=by
 have hRl:=h.lt;have k:=(cY w).alloc (.cells #[(0:Int),(0:Int),()] 38);have bz5:=dV w 38 #[(0:Int),(0:Int),()];have t:=h.ext k;have B:=k.dr (R:=R);have T:=bz5.lt
 go_enter Tryz.func166,Tryz.ntmps166
 go_wp2_with fail
 have F:=(zbe [3,6,7,5,2] 5 #[(3:Int),(6:Int),(7:Int),(5:Int),(2:Int)] rfl rfl oM oM t oM);simp only [World.size_alloc] at F;refine F.mono ?_;rintro e X ⟨al,d,rfl,hr6,hd6⟩;have C:=(B.ext ((cY _).alloc _)).trans hd6;have l:=(bz5.ext ((cY _).alloc _)).dr hd6 oM;go_wp2_with fail
 refine (zbe [2,3,1,3] 4 #[(2:Int),(3:Int),(1:Int),(3:Int)] rfl rfl oM oM hr6 oM).mono ?_;rintro e Y ⟨I,hst,rfl,u,g⟩;have D:=(C.ext ((cY _).alloc _)).trans g;have m:=(l.ext ((cY _).alloc _)).dr g oM;go_wp2_with fail
 refine (zbe [2,3,4] 3 #[(2:Int),(3:Int),(4:Int)] rfl rfl oM oM u oM).mono ?_;rintro e Z ⟨V,_,rfl,x,i⟩;have E:=(D.ext ((cY _).alloc _)).trans i;have n:=(m.ext ((cY _).alloc _)).dr i oM;obtain⟨a,rfl,Q⟩:∃ a:Nat,al=a∧a<64:=⟨al.toNat,by simp at d;omega,by simp at d;omega⟩;obtain⟨p,rfl,s,S⟩:∃ p:Nat,I=p∧1<=p∧p<=16:=⟨I.toNat,by simp at hst;omega,by simp at hst;omega,by simp at hst;omega⟩;clear d hst;go_wp2_with fail
 refine (zeD x oM Q s S).mono ?_;rintro e w9 ⟨H,J,U,G,rfl,z,q,r,y,j⟩;have b:=n.dr j oM;have f:=za (zhM (R:=R) (M:=M+30000) (L:=20000) (c:=G) z q r (y.more oM) (E.trans j) b hRl (dD _));have o:=b.cell;have O:=b.frozen;go_wp2_with fail
 exact bodyPost_ret (v:=.agg #[H.al,H.st,.slice J U G]) (by simp [results,Tryz.results166,go_sem,o]) rfl f.out
theorem or_al {b:Nat}(ha:a<64)(hb:b<64):bits .or .i64 (a:Int) (b:Int)=((a|||b:Nat):Int)∧a|||b<64:=by
 have h:=Nat.or_lt_two_pow (n:=6) (x:=a) (y:=b) oM oM;exact⟨zcr tM tM,oM⟩
theorem spec_l9Three (h:Rd w R M)(hM:M<=600000000) :
  Calls Tryz.prog 189 #[.pointer (some R)] w (RetSPT R (M+150000) 20000 16 w):=by
 have hRl:=h.lt
 go_enter Tryz.func189,Tryz.ntmps189
 go_upto_region 1 with fail
 generalize U0:((w.alloc _).alloc _).alloc _=w0 at *;obtain⟨an,z1,z2,z3⟩:=Ext.x3_ U0;have a0:w0.heap.size=w.heap.size+3:=by rw [← U0];simp
 clear U0;go_wp2_with fail
 refine (zhh (h.ext an) oM).mono ?_;rintro e w1 ⟨s,A,n,c,rfl,F,hg1,hn1,E,j⟩;have aE:=j.size;have o:=(cY w1).alloc (.cells #[s.al,s.st,.slice A n c] 38);have bs:=dV w1 38 #[s.al,s.st,.slice A n c];have aD:(w1.alloc (.cells #[s.al,s.st,.slice A n c] 38)).heap.size=w1.heap.size+1:=sM;have ag:Dr R w (w1.alloc (.cells #[s.al,s.st,.slice A n c] 38)):=(an.dr.trans j).alloc _;replace F:=F.ext o;replace E:=E.ext o;replace z1:=(z1.dr j oM).ext o;replace z2:=(z2.dr j oM).ext o;replace z3:=(z3.dr j oM).ext o;go_upto_region 2 with fail
 generalize hGs:w1.heap.size=Z at *;generalize w1.alloc _=w2 at *;clear o;go_wp2_with fail
 refine (zhh E oM).mono ?_;rintro e w3 ⟨t,C,k,u,rfl,am,D,ai,ak,g⟩;have aF:=g.size;have f:=(cY w3).alloc (.cells #[t.al,t.st,.slice C k u] 38);have bt:=dV w3 38 #[t.al,t.st,.slice C k u];have Y:Tri w (w3.alloc (.cells #[t.al,t.st,.slice C k u] 38)) R (M+60000) 20000 16 w.heap.size (w.heap.size+1+1) (w.heap.size+1) Z w3.heap.size 0 s A n c t C k u autZ none 0 0 none 0 0:=
  ⟨⟨(F.dr g).ext f,am.ext f,zjW _ _,⟨hn1,ai⟩,za (bd_autZ _),(ak.ext f).more oM,(ag.trans g).ext f,hRl⟩,(z1.dr g oM).ext f,(z3.dr g oM).ext f,(z2.dr g oM).ext f,(bs.dr g oM).ext f,bt,.inl rfl,oM,za (by unfold Ne6;omega)⟩
 clear F E z1 z2 z3 bs bt am f ag;go_upto_region 3 with fail
 generalize hGt:w3.heap.size=Gt at *;generalize w3.alloc _=w4 at *;have aj:Hid (Z<Gt∧w.heap.size+3<=Z):=za oM;clear aE aF j g ak hn1 ai aD hGs hGt;go_wp2_with fail
 refine (zA Y.at_.rd oM).mono ?_;rintro e w5 ⟨y,rfl,-,-,l,z⟩;have i:=(Y.drawn z l).more (N:=M+60001) (J:=20000) (H:=16) oM oM oM;clear Y;go_upto_if 13 with fail
 go_cut [] (fun wx=>∃ (s:Sys) (A:Option Addr) (n c:Nat),Good s∧Tri w wx R (M+60001+30000) 20000 16 w.heap.size (w.heap.size+1+1) (w.heap.size+1) Z Gt 0 s A n c t C k u autZ none 0 0 none 0 0)
 case first =>
  by_cases hy:y=0
  ·subst hy;go_wp2_with fail
   refine (zit l oM).mono ?_;rintro e w6 ⟨s',A',n',c',rfl,V,S,U,hr6,hd6⟩;have a:=(i.drawn hd6 hr6).more (N:=M+60001+30000) (J:=20000) (H:=16) oM oM oM;have cG:=a.bs.cell;have fG:=a.bs.frozen;have L:=a.setS V U;go_wp2_with fail
   go_meet;exact⟨_,_,_,_,S,L⟩
  ·have aH:((y:Int)==0)=false:=by simp;omega
   go_wp2_with fail
   go_meet;exact⟨_,_,_,_,hg1,i.more oM oM oM⟩
 case rest =>
  clear i l z hg1;obtain⟨s,A,n,c,hg1,i⟩:=hcut;go_wp2_with fail
  refine (zA i.at_.rd oM).mono ?_;rintro e w5 ⟨y,rfl,-,-,l,z⟩;have a:=(i.drawn z l).more (N:=M+100000) (J:=20000) (H:=16) oM oM oM;clear i;go_upto_if 18 with fail
  go_cut [] (fun wx=>∃ (t:Sys) (C:Option Addr) (k u:Nat),Good t∧Tri w wx R (M+100000+30000) 20000 16 w.heap.size (w.heap.size+1+1) (w.heap.size+1) Z Gt 0 s A n c t C k u autZ none 0 0 none 0 0)
  case first =>
   by_cases hy:y=0
   ·subst hy;go_wp2_with fail
    refine (zit a.at_.rd oM).mono ?_;rintro e w6 ⟨s',A',n',c',rfl,V,S,U,hr6,hd6⟩;have b:=(a.drawn hd6 hr6).more (N:=M+100000+30000) (J:=20000) (H:=16) oM oM oM;have cG:=b.bt.cell;have fG:=b.bt.frozen;have L:=b.setT V U;go_wp2_with fail
    go_meet;exact⟨_,_,_,_,S,L⟩
   ·have aH:((y:Int)==0)=false:=by simp;omega
    go_wp2_with fail
    go_meet;exact⟨_,_,_,_,D,a.more oM oM oM⟩
  case rest =>
   clear a l z D;obtain⟨t,C,k,u,D,a⟩:=hcut;obtain⟨a1,p1,O,ae,-⟩:=hg1;obtain⟨a2,p2,Q,af,-⟩:=D;obtain⟨aY,aB⟩:=or_al ae af;obtain⟨r,aG⟩:∃ r,r=wc:=⟨_,rfl⟩;subst aG;have ah:=za a.ge;have aW:=a.at_.hR;have cS:∀ W,Frm (fun k=>k=R∨k=w.heap.size∨k=w.heap.size+1) r W->∀ q,W.cell? ⟨Z,q,none⟩=#[Value.int .i64 a1,.int .i64 s.st,.slice A n c][q]?:=fun W hW=>by rw [← O];exact (a.bs.frm hW (by have:=ah.out;have:=aj.out;omega)).cell
   have cT:∀ W,Frm (fun k=>k=R∨k=w.heap.size∨k=w.heap.size+1) r W->∀ q,W.cell? ⟨Gt,q,none⟩=#[Value.int .i64 a2,.int .i64 t.st,.slice C k u][q]?:=fun W hW=>by rw [← Q];exact (a.bt.frm hW (by have:=ah.out;have:=aj.out;omega)).cell
   have aX:Frm (fun k=>k=R∨k=w.heap.size∨k=w.heap.size+1) r r.drew:=(cY r).drew.aj;have G:=za O;have I:=za Q;clear O Q;go_wp2_with fail
   refine tR (fun X=>Frm (fun k=>k=R∨k=w.heap.size∨k=w.heap.size+1) r X) [11] (Ord.of [0,1,2,3,4,5,6,8,7,9,10,11]) ?_;refine tQ ?_;refine zC fun K hK=>?_;go_simp;refine (zix (a.at_.rd.ext (cY r).drew) oM aB).mono ?_;rintro e w7 ⟨p,B,m,d,B',m',d',rfl,hp,aA,aC,az⟩;have x:Dr R r w7:=(Dr.refl R r).drew.trans az;have b:=(a.drawn x aC).more (N:=M+150000) (J:=20000) (H:=16) oM oM oM;have ab:Frm (fun k=>k=R∨k=w.heap.size∨k=w.heap.size+1) r w7:=x.mono (fun k _ hk=>.inl hk);refine hK.out _ _ ab ?_;refine pT ?_;refine tQ ?_;have aO:=x.size;have aV:=a.at_.rd.lt;have cs:=b.zs.cell;have ct:=b.zt.cell;have cp:=b.zp.cell;have fs:=b.zs.frozen;have ft:=b.zt.frozen;have fp:=b.zp.frozen;obtain⟨f1,f2⟩:=zca.finSPT ({ b.at_ with ip:=hp.less (by simp;omega),bd:=za (BdA.of aA.out) }) b.zs b.zt b.zp rfl rfl rfl oM oM oM oM oM oM
   rw [G.out,I.out] at f1 f2;refine zC fun K hK=>?_;go_simp;have ad:=ab.trans ((zam w7 w.heap.size (.int .i64 a1) (.int .i64 s.st) (.slice A n c)).mono (T:=fun k=>k=R∨k=w.heap.size∨k=w.heap.size+1) (fun k _ hk=>.inr (.inl hk)));refine hK.out _ _ ad ?_;refine pT ?_;refine zC fun K hK=>?_;go_simp;have ay:=ad.trans ((zam _ (w.heap.size+1) (.int .i64 p.al) (.slice B m d) (.slice B' m' d')).mono (T:=fun k=>k=R∨k=w.heap.size∨k=w.heap.size+1) (fun k _ hk=>.inr (.inr hk)));refine hK.out _ _ ay ?_;refine pT ?_;refine zT fun K hK=>?_;go_simp;refine hK.out _ _ ?_;refine zao ?_;go_wp2_with fail
   obtain⟨g1,g2,g3⟩:=f2.out;have c1:=g1.cell;have aw:=g2.cell;have c3:=g3.cell;exact bodyPost_ret (v:=.tuple #[.agg #[a1,s.st,.slice A n c],.agg #[p.al,.slice B m d,.slice B' m' d'],.agg #[a2,t.st,.slice C k u]]) (by simp [results,Tryz.results189,go_sem,c1,aw,c3]) rfl ⟨s,A,n,c,t,C,k,u,p,B,m,d,B',m',d',by rw [G.out,I.out],f1.out⟩
theorem pickA (h:1<=(p:Int)->(x:Int)<p)(h0:(p:Int)<1->x=0):x<p+1:=by
 rcases Nat.lt_or_ge 0 p with h1|h1
 ·have:=h oM;omega
 ·have:=h0 oM;omega
theorem e_filledA {M' E y:Nat} {w4:World}(hb:Blk w4 E 152 #[(0:Int),(0:Int),(0:Int)])(hr:Rd w4 R M')(hd:Dr R w2 w4)(hE:w2.heap.size<=E)(hR:R<w2.heap.size)(hx:x<p+1)(hy:y<p+1)(hM:M'<=M) :
  ∃ E' x' y':Nat,Value.pointer (some E)=.pointer (some E')∧x'<p+1∧y'<p+1∧w2.heap.size<=E'∧Blk (((w4.setCell E x).setCell ⟨E,1,none⟩ (0:Int)).setCell ⟨E,2,none⟩ y) E' 152 #[x',(0:Int),y']∧Rd (((w4.setCell E x).setCell ⟨E,1,none⟩ (0:Int)).setCell ⟨E,2,none⟩ y) R M∧Dr R w2 (((w4.setCell E x).setCell ⟨E,1,none⟩ (0:Int)).setCell ⟨E,2,none⟩ y):=by
 have a:=zfe w4 E (.int .i64 x) (.int .i64 0) (.int .i64 y);refine⟨E,x,y,rfl,oM,oM,hE,by simpa using ((hb.ab 0 (.int .i64 x)).ab 1 (.int .i64 0)).ab 2 (.int .i64 y),(hr.frm a (fun k h1 h2=>oM)).more hM,?_⟩;exact ((hd.ag (p:=⟨E,0,none⟩) hE _).ag (p:=⟨E,1,none⟩) hE _).ag (p:=⟨E,2,none⟩) hE _
theorem ziV (h:Rd w R M)(hM:M<=900000000)(hs:zbP w R A n ⟨a,p,es⟩)(ha:a<64)(hp:p<=16)(hfew:Few (p+1) es)(hn:n<=L)(hL:L<=100000) :
  Calls Tryz.prog 193 #[.pointer (some R),.agg #[a,p,.slice A n c]] w (RetA R (M+10) (L+1) w):=by
 have hRl:=h.lt;have a7:=hs.at_.2;have b2:=za hs.1;have aT:=za hfew;have bz:Sm a:=tM;obtain⟨w1,U0⟩:∃ x,Hid (((w.alloc (.cells #[a,p,.slice A n c] 38)).alloc (.cells #[(0:Int),(0:Int),()] 38)).alloc (.cells #[a,p,()] 38)=x):=⟨_,za rfl⟩;have bc:Ext w w1:=((((cY _).alloc _).alloc _).alloc _).trans (eP U0.out);obtain⟨bS,bZ,bG⟩:=zL (eP U0.out);have aR:=za bS;have aS:=za bZ;have ao:=za bG;have ap:=za bc;clear bS bZ bG bc hs hfew
 go_enter Tryz.func193,Tryz.ntmps193
 go_wp2_with fail
 rw [U0.out] at *;refine (zA (h.ext ap.out) oM).mono ?_;rintro e U ⟨V,rfl,-,-,T,ah⟩;have b8:=ao.out.lt;have ay:=aR.out.dr ah oM;have aZ:=aS.out.dr ah oM;have av:=ao.out.dr ah oM;have ba:=ap.out.dr.trans ah;have cS:∀ W,Dr R U W->∀ q,W.cell? ⟨w.heap.size,q,none⟩=#[Value.int .i64 a,.int .i64 p,.slice A n c][q]?:=fun W hW=>(ay.dr hW oM).cell;go_upto_region 3 with fail
 go_cut [7] (fun s7 wx=>∃ E x y:Nat,s7=.pointer (some E)∧x<p+1∧y<p+1∧U.heap.size<=E∧Blk wx E 152 #[x,(0:Int),y]∧Rd wx R (M+3)∧Dr R U wx)
 case first =>
  refine tR (fun X=>Dr R U X) [10] (Ord.app [0,1,2,4,5,6] (Ord.two 3 (Ord.two 7 (Ord.of [8,9,10]) 9 (Ord.of [7,8,10])) 9 (Ord.of [3,7,8,10]))) ?_;refine tQ ?_;refine zgI (fun K hK=>?_) (fun K hK=>?_)
  ·go_simp;refine (zA (n:=p) (T.ext ((cY _).drew)) oM).mono ?_;rintro e w3 ⟨x,rfl,hx,aO,J,C⟩;have o:Dr R U w3:=((Dr.refl R U).drew).trans C;refine hK.out _ _ o ?_;refine pT ?_;refine zgI (fun K hK=>?_) (fun K hK=>?_)
   ·go_simp;refine (zA (n:=p) J oM).mono ?_;rintro e w4 ⟨y,rfl,hy,ai,F,S⟩;have f:=o.trans S;refine hK.out _ _ f ?_;refine pT ?_;refine tQ ?_;refine zC fun K hK=>?_;go_simp;refine hK.out _ _ (f.alloc _) ?_;refine pT ?_;refine tQ ?_;refine zT fun K hK=>?_;go_simp;refine hK.out _ _ ?_;refine zao ?_;go_wp2_with fail
    go_meet;exact⟨w4.heap.size,x,y,rfl,oM,oM,f.size,dV _ _ _,F.ext ((cY _).alloc _),f.alloc _⟩
   ·go_simp;have be:=(cY w3).alloc (.cells #[(0:Int),(0:Int),(0:Int)] 152);have Y:=o.ext be;have a9:=J.ext be;have a2:=J.lt;refine hK.out _ _ Y ?_;generalize U0:w3.alloc _=cd at *;have aH:=dU U0;clear U0;refine pT ?_;refine zC fun K hK=>?_;go_simp;refine (zA (n:=p) a9 oM).mono ?_;rintro e w4 ⟨y,rfl,hy,ai,F,S⟩;have f:=Y.trans S;have Q:=aH.dr S oM;refine hK.out _ _ f ?_;refine pT ?_;refine tQ ?_;have cE:=Q.cell;have fE:=Q.frozen;refine zT fun K hK=>?_;go_simp;refine hK.out _ _ ?_;refine zao ?_;go_wp2_with fail
    go_meet;exact e_filledA Q F f o.size T.lt (pickA hx aO) (pickA hy ai) oM
  ·go_simp;have bd:=((cY U).alloc (.cells #[(0:Int),(0:Int),(0:Int)] 152)).drew;have br:Blk (U.alloc (.cells #[(0:Int),(0:Int),(0:Int)] 152)).drew U.heap.size 152 #[.int .i64 0,.int .i64 0,.int .i64 0]:=dV U _ _;have a8:=T.ext bd;have a2:=T.lt;have ak:Dr R U (U.alloc (.cells #[(0:Int),(0:Int),(0:Int)] 152)).drew:=bd.dr;refine hK.out _ _ ak ?_;generalize (U.alloc (.cells #[(0:Int),(0:Int),(0:Int)] 152)).drew=cc at *;refine pT ?_;refine zC fun K hK=>?_;go_simp;refine (zA (n:=p) a8 oM).mono ?_;rintro e w3 ⟨x,rfl,hx,aO,J,C⟩;have o:=ak.trans C;have aH:=br.dr C oM;refine hK.out _ _ o ?_;refine pT ?_;refine zC fun K hK=>?_;go_simp;refine (zA (n:=p) J oM).mono ?_;rintro e w4 ⟨y,rfl,hy,ai,F,S⟩;have f:=o.trans S;have Q:=aH.dr S oM;refine hK.out _ _ f ?_;refine pT ?_;refine tQ ?_;have cE:=Q.cell;have fE:=Q.frozen;refine zT fun K hK=>?_;go_simp;refine hK.out _ _ ?_;refine zao ?_;go_wp2_with fail
   go_meet;exact e_filledA Q F f (dD _) a2 (pickA hx aO) (pickA hy ai) oM
 case rest =>
  obtain⟨E,x,y,rfl,hx,hy,hE,aI,J,C⟩:=hcut;have bb:=ba.trans C;have az:=ay.dr C oM;have a0:=aZ.dr C oM;have aW:=av.dr C oM;have b9:=av.lt;clear cS;have cS:=az.cell;go_wp2_with fail
  refine (zZ a bz _).mono ?_;rintro e w4 ⟨B,d,rfl,aa,O⟩;have aK:=bb.ext O;have aA:=az.ext O;have aC:=a0.ext O;have aw:=aW.ext O;have aq:=aI.ext O;have F:=J.ext O;have bV:=aI.lt;have bt:=zD a 6;have a6:=za (fun k (hk:k∈letters a 6)=>(zcI.1 hk).1);have al:=(eA aa);have bP:=C.size;have bQ:=O.size;have bX:=T.lt;clear cS aa O az a0 aW aI J bb aR aS ao ap ay aZ av ba T;generalize letters a 6=ls at *;go_upto_region 5 with fail
  go_cut [9] (fun s9 wx=>∃ b:Bool,s9=.bool b∧(b=true->0<ls.length)∧Rd wx R (M+4)∧Dr R w4 wx)
  case first =>
   by_cases hl:0<ls.length
   ·go_wp2_with fail
    refine (zA F oM).mono ?_;rintro e w5 ⟨z,rfl,-,-,ab,I⟩;go_wp2_with fail
    go_meet;exact⟨_,rfl,fun _=>hl,ab,I⟩
   ·go_wp2_with fail
    go_meet;exact⟨false,rfl,fun h=>by (first|cases h|omega),F.more oM,Dr.refl _ _⟩
  case rest =>
   obtain⟨b,rfl,aJ,ab,I⟩:=hcut;go_upto_if 42 with fail
   go_cut [] (fun wx=>∃ l:Nat,l<6∧Blk wx E 152 #[x,l,y]∧Blk wx w.heap.size 38 #[a,p,.slice A n c]∧Blk wx (w.heap.size+1) 38 #[(0:Int),(0:Int),()]∧Blk wx (w.heap.size+1+1) 38 #[a,p,()]∧Rd wx R (M+5)∧Dr R w wx)
   case first =>
    have aB:=aA.dr I oM;have aD:=aC.dr I oM;have ax:=aw.dr I oM;have ar:=aq.dr I oM;have aL:=aK.trans I;clear aA aC aw aq aK F;cases b
    ·go_wp2_with fail
     go_meet;exact⟨0,oM,ar,aB,aD,ax,ab.more oM,aL⟩
    ·have b4:=aJ rfl;have bs:(1:Int)<=(ls.length:Int):=oM;clear aJ;go_wp2_with fail
     refine (zA ab oM).mono ?_;rintro e w6 ⟨z,rfl,hz,-,hr6,hd6⟩;have ca:=hz bs;have bg:z<ls.length:=oM;obtain⟨ad,l,rfl,_,_,hl,b5⟩:=((al.dr I oM).dr hd6 oM).nat bg;have a5:=a6.out l (dB hl.out);have bo:=aB.dr hd6 oM;have bp:=aD.dr hd6 oM;have bn:=ax.dr hd6 oM;have au:=ar.dr hd6 oM;have bA:=aL.trans hd6;have cE:=au.cell;have fE:=au.frozen;have hf:=dE w6 E 1 (.int .i64 (l:Nat));clear hz aB aD ax ar aL;go_wp2_with fail
     go_meet;exact⟨l,a5,by simpa using au.ab 1 (.int .i64 (l:Nat)),bo.frm hf oM,bp.frm hf oM,bn.frm hf oM,(hr6.frm hf (fun k h1 h2=>oM)),bA.ag (by dsimp only;omega) _⟩
   case rest =>
    obtain⟨l,hl,bE,bS,bZ,bG,bx,a3⟩:=hcut;clear aA aC aw aq aK F I ab a6 al bt aJ;obtain⟨wB,bB⟩:∃ wB,wB=wc:=⟨_,rfl⟩;subst bB;have zkv:Acc w wB wB R (w.heap.size+1+1) (M+5) a p (.slice none 0 0) []:=⟨bG,World.ownsRow_nil _ _ _ _,bx,a3,Frm.refl _ _,hRl,a3.size,oM⟩;have bW:=bE.lt;have bY:=bG.lt;clear bG;go_wp2_with fail
    go_loopw [9,10] (fun v i wr=>∃ (b:Bool) (k:Nat),k<=n∧i=.int .i64 k∧v=.bool b∧∃ (u:Value) (j:List Edg),Acc w wB wr R (w.heap.size+1+1) (M+5) a p u j∧j.length+b.toNat<=k+1∧Hid (Few (p+1) j)) (fun _ i _=>n - (intOf i).toNat)
    case atStart=>exact⟨b,0,dF _,rfl,rfl,_,[],zkv,by cases b<;>decide,few_nil (p+1)⟩
    case round =>
     clear zkv;obtain⟨b,k,hk,rfl,rfl,u,j,zkv,m,D⟩:=hrel;have H:=bS.frm zkv.fr oM;have r:=bE.frm zkv.fr oM;have cS:=H.cell;have am:(0<=(x:Int)∧(x:Int)<((p+1:Nat):Int))∧(0<=(l:Int)∧(l:Int)<6)∧(0<=(y:Int)∧(y:Int)<((p+1:Nat):Int)):=oM
     by_cases hlt:k<n
     ·obtain⟨b0,o0,t,rfl,b6,b3,he,c0,c1,c2⟩:=(a7.dr zkv.dr oM).edge hlt;have a4:=za (aT.out t (dB he.out));go_upto_region 11 with fail
      clear cS
      go_cut [67] (fun s wx=>∃ q:Bool,s=.bool q∧(q=true->b=true)∧Ext wr wx)
      case first =>
       have cS:=H.cells;have cE:=r.cells;have C0:∀ W,Ext wr W->W.cell? ⟨b0,o0+k*3,none⟩=some (.int .i64 t.fr):=fun W hW=>hW.aa c0;have C1:∀ W,Ext wr W->W.cell? ⟨b0,o0+k*3+1,none⟩=some (.int .i64 t.le):=fun W hW=>hW.aa c1;have C2:∀ W,Ext wr W->W.cell? ⟨b0,o0+k*3+2,none⟩=some (.int .i64 t.ta):=fun W hW=>hW.aa c2;have bD:=cY wr;cases b
       ·go_wp2_with fail
        go_quiet (fail)
        go_wp2_with fail
        go_meet;exact⟨false,rfl,fun h=>h,(cY _).drewN _⟩
       ·go_wp2_with fail
        go_region_held3 (fun W=>Ext wr W) (first|assumption|(refine Ext.drew ?_;assumption)|(refine Ext.trans ?_ aM;assumption)|(refine Ext.trans ?_ aM;refine Ext.drew ?_;assumption)) ((go_at_call 257;refine (zeB (a:=⟨x,l,y⟩) (b:=t)).mono (mQ fun w5 b7=>?_)))
        go_wp2_with fail
        go_meet;exact⟨_,rfl,fun _=>by trivial,aM⟩
      case rest =>
       obtain⟨q,rfl,hq,G⟩:=hcut;replace zkv:=zkv.ext G;replace r:=r.ext G;go_upto_if 67 with fail
       go_cut [9] (fun s9 wx=>∃ (b:Bool) (u:Value) (j:List Edg),s9=.bool b∧Acc w wB wx R (w.heap.size+1+1) (M+5) a p u j∧j.length+b.toNat<=k+1∧Hid (Few (p+1) j))
       case first =>
        cases q
        ·go_wp2_with fail
         go_meet;exact⟨b,u,j,rfl,zkv,m,D⟩
        ·obtain rfl:=hq rfl;have cG:=zkv.blk.cell;have cE:=r.cell;simp only [Bool.toNat_true] at m;clear hq;go_wp2_with (at_builtin;refine zad wB _ rfl _ _ _ rfl 152 _ 3 24 Tryz.underlying36 zbo rfl dM u j.length (zw j) _ _ rfl rfl zkv.fr.size zkv.own rfl (by simp [Value.oneCell']) lM oM ?_;intro g cap w3 zkF hg3 hat3 hlt3;obtain⟨h1,h2,h3⟩:=zkv.push (e:=⟨x,l,y⟩) zkF hg3 hat3;have h1':=h1.out)
         go_meet;exact⟨false,_,_,rfl,h3,by simp;omega,zhF D.out am⟩
       case rest =>
        clear zkv m D H r c0 c1 c2 G hq;obtain⟨b,u,j,rfl,zkv,m,D⟩:=hcut;obtain⟨wr,aN⟩:∃ wr,wr=wc:=⟨_,rfl⟩;subst aN;have H:=bS.frm zkv.fr oM;have r:=bE.frm zkv.fr oM;obtain⟨c0,c1,c2⟩:=(a7.dr zkv.dr oM).edge2 he.out;go_upto_region 14 with fail
        go_cut [83] (fun s wx=>∃ q:Bool,s=.bool q∧Ext wr wx)
        case first =>
         have cS:=H.cells;have cE:=r.cells;have C0:∀ W,Ext wr W->W.cell? ⟨b0,o0+k*3,none⟩=some (.int .i64 t.fr):=fun W hW=>hW.aa c0;have C1:∀ W,Ext wr W->W.cell? ⟨b0,o0+k*3+1,none⟩=some (.int .i64 t.le):=fun W hW=>hW.aa c1;have C2:∀ W,Ext wr W->W.cell? ⟨b0,o0+k*3+2,none⟩=some (.int .i64 t.ta):=fun W hW=>hW.aa c2;have bD:=cY wr;cases b
         ·go_wp2_with fail
          go_quiet (fail)
          go_wp2_with fail
          go_meet;exact⟨false,rfl,(cY _).drewN _⟩
         ·go_wp2_with fail
          refine sR (fun X=>Ext wr X) [0,1,2,3,4,5,6,7,8,9] (fun hS=>?_);refine sQ ?_;have HE:=eq_edge (x:Int) (l:Int) (y:Int) t.fr t.le t.ta;refine seq_read (v:=.bool (((x:Int)==t.fr)&&(((l:Int)==t.le)&&((y:Int)==t.ta)))) rfl rfl rfl (fun X hX=>?_) aM ?_
          ·go_simp
          ·clear HE;refine pT ?_;generalize (((x:Int)==t.fr)&&(((l:Int)==t.le)&&((y:Int)==t.ta)))=q;refine sQ ?_;refine zda ?_;go_wp2_with fail
           go_meet;exact⟨_,rfl,(cY _).drew⟩
        case rest =>
         obtain⟨q,rfl,G⟩:=hcut;replace zkv:=zkv.ext G;replace H:=H.ext G;replace c0:=G.aa c0;replace c1:=G.aa c1;replace c2:=G.aa c2;clear r G;go_upto_if 83 with fail
         go_cut [9] (fun s9 wx=>∃ b':Bool,s9=.bool b'∧b'.toNat<=b.toNat∧wc=wx)
         case first =>
          cases q
          ·go_wp2_with fail
           go_meet;exact⟨b,rfl,dD _,rfl⟩
          ·go_wp2_with fail
           go_meet;exact⟨false,rfl,dF _,rfl⟩
         case rest =>
          obtain⟨b',rfl,b1,bC⟩:=hcut;subst bC
          by_cases hgo:k=V
          ·have bu:((k:Int) != (V:Int))=false:=by simp [hgo]
           have bT:=za hgo;clear hgo;go_wp2_with fail
           go_roundw
           case rel=>exact⟨b',k+1,oM,gM,rfl,u,j,zkv,oM,D⟩
           case measure=>simp [intOf];omega
          ·have bu:((k:Int) != (V:Int))=true:=by simp;omega
           clear hgo;obtain⟨wr,aN⟩:∃ wr,wr=wc:=⟨_,rfl⟩;subst aN;have cS:=H.cells;have cG:=fun W (hW:Ext wr W)=>(zkv.blk.ext hW).cell;have C0:∀ W,Ext wr W->W.cell? ⟨b0,o0+k*3,none⟩=some (.int .i64 t.fr):=fun W hW=>hW.aa c0;have C1:∀ W,Ext wr W->W.cell? ⟨b0,o0+k*3+1,none⟩=some (.int .i64 t.le):=fun W hW=>hW.aa c1;have C2:∀ W,Ext wr W->W.cell? ⟨b0,o0+k*3+2,none⟩=some (.int .i64 t.ta):=fun W hW=>hW.aa c2;go_wp2_with fail
           refine tR (fun X=>Ext wr X) [8,10] (Ord.of [0,1,2,3,4,5,6,7,8,9,10]) ?_;refine tQ ?_;refine zC fun K hK=>?_;go_simp;refine hK.out _ _ ((cY _).drew.alloc _) ?_;refine pT ?_;refine zT fun K hK=>?_;refine zaN wB wr.drew _ _ _ rfl 152 _ 3 24 Tryz.underlying36 zbo rfl dM u j.length (zw j) _ _ rfl rfl zkv.fr.size zkv.own rfl (by simp [Value.oneCell']) lM oM ?_;intro g cap w3 zkF hg3 hat3 hlt3;refine hK.out _ _ ?_;refine pT ?_;refine tQ ?_;obtain⟨h1,h2,h3⟩:=(zkv.ext ((cY _).drew)).push (e:=t) (W':=w3) zkF hg3 hat3;have h1':=h1.out;refine zT fun K hK=>?_;go_simp;refine hK.out _ _ ?_;refine zao ?_;go_wp2_with fail
           go_roundw
           case rel=>exact⟨b',k+1,oM,gM,rfl,_,_,h3,by simp;omega,zhF D.out a4.out⟩
           case measure=>simp [intOf];omega
     ·obtain rfl:k=n:=oM;go_upto_if 97 with fail
      go_cut [] (fun wx=>∃ (u:Value) (j:List Edg),Acc w wB wx R (w.heap.size+1+1) (M+5) a p u j∧j.length<=k+1∧Hid (Few (p+1) j))
      case first =>
       cases b
       ·go_wp2_with fail
        go_meet;exact⟨u,j,zkv,by simpa using m,D⟩
       ·have cG:=zkv.blk.cell;have cE:=r.cell;simp only [Bool.toNat_true] at m;go_wp2_with (at_builtin;refine zad wB _ rfl _ _ _ rfl 152 _ 3 24 Tryz.underlying36 zbo rfl dM u j.length (zw j) _ _ rfl rfl zkv.fr.size zkv.own rfl (by simp [Value.oneCell']) lM oM ?_;intro g cap w3 zkF hg3 hat3 hlt3;obtain⟨h1,h2,h3⟩:=zkv.push (e:=⟨x,l,y⟩) zkF hg3 hat3;have h1':=h1.out)
        go_meet;exact⟨_,_,h3,by simp;omega,zhF D.out am⟩
      case rest =>
       clear zkv m D cS H r;obtain⟨u,j,zkv,m,D⟩:=hcut;obtain⟨A',n',c',rfl⟩:=zkv.form;obtain⟨rfl,_⟩:=zkv.reads;have bL:=zjX zkv.own;have cG:=zkv.blk.cell;have a1:=bZ.frm zkv.fr oM;have cz:=a1.cell;have cb:=bZ.lt;have fz:=a1.frozen;obtain⟨f1,f2,f3⟩:=zkv.fin (Z:=w.heap.size+1) oM oM (.int .i64 a) (.int .i64 p) (.slice A' j.length c');have aU:=za (show RetA R (M+10) (L+1) w (.returned (.agg #[a,p,.slice A' j.length c'])) _ from ⟨⟨a,p,j⟩,A',j.length,c',rfl,f1,oM,f2.more oM,f3⟩);clear f1 f2 f3;go_wp2_with fail
       exact bodyPost_ret (v:=.agg #[a,p,.slice A' j.length c']) (by simp [results,Tryz.results193,go_sem,cz]) rfl aU.out
theorem zfD (h:Rd w R M)(hM:M<=900000000)(hs:zbP w R A n s)(hf:Fair s)(hn:n<=L)(hL:L<=100000) :
  Calls Tryz.prog 193 #[.pointer (some R),.agg #[s.al,s.st,.slice A n c]] w (RetA R (M+10) (L+1) w):=by
 obtain⟨al,st,g⟩:=s;obtain⟨a,p,h1,d,h3,f,b⟩:=hf;simp only at h1 h3 b;subst h1;subst h3;exact ziV h hM hs d f b hn hL
theorem yE16a1 {P:Prop}(h:P:=by
 go_wp2_with (at_builtin;refine zW w wr rfl _ _ _ rfl 9 _ 1 16 Tryz.underlying99 zo rfl dM u5 _ _ _ _ rfl rfl zkw zku rfl (zcQ _) lM oM ?_;intro v' w1 hext1 zkD hg1 hat1)
 go_roundw
 case rel=>exact⟨k+1,k+1,l++[s.extract m k],oM,gM,oM,gM,by simp;omega,by simpa [zS] using zkD,hall.out,aM⟩
 case measure=>simp [intOf];omega
 ):P:=h
theorem spec_l19CutC {s:ByteArray} (hs:s.size<=1000000) :
  Calls Tryz.prog 250 #[s,.int .u8 44] w (RetStrs s.size (s.size+1) w):=by
 go_enter Tryz.func250,Tryz.ntmps250
 go_wp2_with fail
 go_loopw [5,6,7] (fun v f i wr=>∃ (k m:Nat) (l:List ByteArray),k<=s.size+1∧i=.int .i64 k∧m<=k∧f=.int .i64 m∧l.length<=k∧wr.ownsRow w.heap.size 9 1 v l.length (zS l)∧Hid (∀ x∈l,x.size<=s.size)∧Ext w wr) (fun _ _ i _=>s.size+1 - (intOf i).toNat)
 case atStart=>exact⟨0,0,[],dF _,rfl,dD _,rfl,dD _,World.ownsRow_lit w #[] 0 (dD _) lM rfl,(fun x hx=>by cases hx),(cY _).alloc _⟩
 case round =>
  obtain⟨k,m,l,p,rfl,r,rfl,q,zku,a,zkw⟩:=hrel
  by_cases hle:k<=s.size
  ·have h:(k:Int)<=(s.size:Int):=oM;have j:(m:Int)<=(k:Int):=oM;have d:=za (show (s.extract m k).size<=s.size by rw [ByteArray.size_extract];omega);have hall:=za (show ∀ x∈l++[s.extract m k],x.size<=s.size from fun x hx=>by
    rcases List.mem_append.1 hx with h1|h1
    ·exact a.out x h1
    ·rw [List.mem_singleton.1 h1];exact d.out)
   by_cases he:k=s.size
   ·have b:((k:Int)==(s.size:Int))=true:=by simp [he]
    have n:=za he;clear he;exact yE16a1
   ·have b:((k:Int)==(s.size:Int))=false:=by rw [beq_eq_false_iff_ne];omega
    have g:k<s.size:=oM;have o:=zcX s k g;cases hc:((s[k].toNat:Int)==44)
    ·go_wp2_with fail
     go_roundw
     case rel=>exact⟨k+1,m,l,oM,gM,oM,rfl,oM,zku,a,zkw⟩
     case measure=>simp [intOf];omega
    ·exact yE16a1
  ·obtain rfl:k=s.size+1:=oM;obtain⟨A,c,rfl⟩:=zi zku;go_wp2_with fail
   go_ret;exact⟨A,_,c,l,rfl,rfl,zku,a.out,oM,zkw⟩
def RetIntsS (N:Nat) (w:World) (e:Ending) (w':World):Prop:=∃ (A:Option Addr) (n c:Nat) (l:List Int) (ok:Bool),e=.returned (.tuple #[.slice A n c,.bool ok])∧n=l.length∧w'.ownsRow w.heap.size 3 1 (.slice A n c) n (ints l)∧n<=N∧Ext w w'
theorem spec_l3Parse {s:ByteArray} (hs:s.size<=1000) :
  Calls Tryz.prog 255 #[s] w (RetIntsS (s.size+1) w):=by
 have g:=World.ownsRow_lit (base:=w.heap.size) (e:=3) (size:=1) w #[] 0 (dD _) lM rfl
 go_enter Tryz.func255,Tryz.ntmps255
 go_upto_region 2 with fail
 obtain⟨K,hK⟩:∃ K,Hid (K=w.heap.size):=⟨_,za rfl⟩;rw [← hK.out] at g ⊢;generalize U0:w.alloc _=w1 at *;have r:=Ext.al_ U0;clear U0;cases he:s.toList.isEmpty
 ·go_wp2_with fail
  refine (spec_l19CutC (s:=s) oM).mono ?_;rintro e T ⟨B,m,d,l,rfl,o,t,n,J,c⟩;have q:=r.trans c;have h:=zh g c;have z:=za n;have M:=za o;have G:m<=s.size+1:=J;clear n o g he J;go_wp2_with fail
  go_loopw [4,6] (fun v iv wr=>∃ (k:Nat) (f:List Int),k<=m∧iv=.int .i64 (k:Nat)∧wr.ownsRow K 3 1 v k (ints f)∧Hid (f.length=k)∧wr.ownsRow w1.heap.size 9 1 (.slice B m d) m (zS l)∧Ext w wr) (fun _ iv _=>m - (intOf iv).toNat)
  case atStart=>exact⟨0,[],dF _,rfl,h,za rfl,t,q⟩
  case round =>
   clear h t q c;obtain⟨k,f,S,rfl,p,i,a,u⟩:=hrel;obtain⟨y,C,rfl⟩:=zi p
   by_cases hlt:k<m
   ·obtain⟨R,rfl,-,-⟩:=zU a oM;obtain⟨Q,L,D,-,-,I,F⟩:=(eA a).str hlt;obtain rfl:=Option.some.inj D;rw [zY,dT] at F;have E:=za (z.out L (dB I.out));go_wp2_with fail
    refine (zez (s:=L) (oH E.out)).mono ?_;rintro e U ⟨x,O,rfl,rfl⟩;cases O
    ·go_wp2_with fail
     exact bodyPost_ret (v:=.tuple #[(),.bool false]) (by simp [results,Tryz.results255,go_sem]) rfl ⟨none,0,0,[],false,rfl,rfl,World.ownsRow_nil _ _ _ _,oM,u⟩
    ·have H:=u.size;go_wp2_with (at_builtin;refine zad w wr rfl _ _ _ rfl 3 _ 1 8 Tryz.underlying128 zag rfl dM (.slice y k C) k (ints f) _ _ rfl rfl H (by rw [← hK.out];exact p) rfl (by simp [Value.oneCell']) lM oM ?_;intro g5 cap5 w5 zkG hg5 hat5 hlt5)
     go_roundw
     case rel=>exact⟨k+1,f++[x],oM,gM,by rw [hK.out];simpa [ints] using zkG,za (by have:=i.out;simp;omega),zg a (Frm.ae hg5) (fun b hb hS=>zaG a p dM hb hS),u.grown hg5 (fun j hj=>by have:=(p.lt j hj).1;have:=hK.out;omega)⟩
     case measure=>simp [intOf];omega
   ·obtain rfl:k=m:=oM;go_wp2_with fail
    exact bodyPost_ret (v:=.tuple #[.slice y k C,.bool true]) (by simp [results,Tryz.results255,go_sem]) rfl ⟨y,k,C,f,true,rfl,i.out.symm,by rw [← hK.out];exact p,G,u⟩
 ·go_wp2_with fail
  exact bodyPost_ret (v:=.tuple #[.slice (some K) 0 0,.bool true]) (by simp [results,Tryz.results255,go_sem]) rfl ⟨some ⟨w.heap.size,0,none⟩,0,0,[],true,by rw [hK.out],rfl,by rw [hK.out] at g;exact g,oM,r⟩
theorem autValid_few {a:Aut}(h:zj a=true):∃ al:Nat,a.al=al∧al<64∧1<=a.next.length∧a.next.length<=12∧a.acc.length=a.next.length∧∀ l∈a.next,l.length=(letters al 6).length∧∀ q∈l,0<=q∧q<a.next.length:=by
 simp only [zj,Bool.and_eq_true,decide_eq_true_eq,List.all_eq_true,rowB] at h;obtain⟨h1,b,h3,c⟩:=h;refine⟨a.al.toNat,oM,oM,b.1,b.2,h3,fun l hl=>⟨(c l hl).1,fun q hq=>(c l hl).2 q hq⟩⟩
def RetFmtA (a:Aut) (w:World) (e:Ending) (w':World):Prop:=∃ t:ByteArray,e=.returned (.string t)∧(zj a=false->t.size=0)∧Ext w w'
theorem zfu {lo hi:Nat}     {a:Aut} (h:zJ w lo hi A n A' n' a) :
  Calls Tryz.prog 256 #[.agg #[a.al,.slice A n c,.slice A' n' c']] w (RetFmtA a w):=by
 have Z:=za (fun W (hW:Ext w W)=>zN lo hi A n c A' n' c' a W ⟨h.1.ext hW,h.2.1,h.2.2.ext hW⟩);cases h1:zj a
 ·have J:=za h1;clear h1 h
  go_enter Tryz.func256,Tryz.ntmps256
  go_wp2_with (go_at_call 200;refine (Z.out _ ((cY _).alloc _)).mono ?_;rw [J.out];rintro e w1 ⟨rfl,H⟩)
  go_ret;exact⟨_,rfl,fun _=>rfl,((cY _).alloc _).trans H⟩
 ·obtain⟨al,ha,L,hn1,R,M,b⟩:=autValid_few h1;have J:=za h1;have Hn:=za h.n1;have ak:=za h.n2;have Ha:=za ha;have f:=za b;have HS:=za (fun W (hW:Ext w W)=>h.1.ext hW);have HB:=za (fun W (hW:Ext w W)=>h.2.2.ext hW);have e1:n=n':=by have:=h.n1;have:=h.n2;omega
  subst e1;have av:n<=12:=oH h.n1;clear h1 ha hn1 R M b h
  go_enter Tryz.func256,Tryz.ntmps256
  go_wp2_with fail
  refine (Z.out _ ((cY _).alloc _)).mono ?_;rw [J.out];rintro e w1 ⟨rfl,H⟩;have b1:=zcu H;rw [Ha.out] at b1;have o:=((cY w).alloc _).trans H;have cb:=b1.cells;have V:=cY w1;clear H;go_wp2_with fail
  refine (zce L).mono ?_;rintro e w2 ⟨s,rfl,F,I⟩;go_wp2_with fail
  go_loopw [3,4] (fun v i wr=>∃ (k:Nat) (t:ByteArray),k<=n∧i=.int .i64 k∧v=.string t∧t.size<=20+100*k∧Ext w1 wr) (fun _ i _=>n - (intOf i).toNat)
  case atStart=>exact⟨0,s,dF _,rfl,rfl,oM,I⟩
  case round =>
   clear I F V;obtain⟨k,t,hk,rfl,rfl,ht,zkw⟩:=hrel;have C:=cb wr zkw
   by_cases hlt:k<n
   ·obtain⟨ad,Ak,ck,l,rfl,_,_,hl,g,E⟩:=(HS.out wr (o.trans zkw)).row hlt;obtain⟨am,x,rfl,_,_,-,O⟩:=(HB.out wr (o.trans zkw)).bool hlt;have hq:=za (f.out l (dB hl.out));have ar:l.length<=6:=by have:=hq.out.1;have:=zD al 6;omega
    have B:=za (fun W (hW:Ext wr W)=>E.ext hW);have z:=za (fun W (hW:Ext wr W)=>hW.aa g);have y:=za (fun W (hW:Ext wr W)=>cb W (zkw.trans hW));have r:=cY wr;clear E;go_upto_if 24 with fail
    go_cut [5] (fun s5 wx=>∃ m:ByteArray,s5=.string m∧m.size=2∧Ext wr wx)
    case first =>
     cases x
     ·go_wp2_with fail
      go_meet;exact⟨{ data:=#[32,45] },rfl,rfl,r⟩
     ·go_wp2_with fail
      go_meet;exact⟨{ data:=#[32,43] },rfl,rfl,r⟩
    case rest =>
     clear g O C r;obtain⟨m,rfl,Q,p⟩:=hcut;obtain⟨Y,G⟩:∃ Y,Y=wr:=⟨_,rfl⟩;rw [← G] at B z y p zkw;clear G;have q0:¬ 9223372036854775807<t.size+m.size:=oM;have aw:(t++m).size=t.size+2:=by rw [ByteArray.size_append,Q]
     go_upto_region 11 with fail
     generalize t++m=t1 at *;clear q0;go_wp2_with fail
     go_loopw [3,6] (fun v jv wr=>∃ (j:Nat) (t:ByteArray),j<=l.length∧jv=.int .i64 j∧v=.string t∧t.size<=22+100*k+10*j∧Ext Y wr) (fun _ jv _=>l.length - (intOf jv).toNat)
     case atStart=>exact⟨0,t1,dF _,rfl,rfl,oM,p⟩
     case round =>
      clear p;obtain⟨j,s,hj,rfl,rfl,F,d⟩:=hrel;have C:=y.out wr d;have g:=z.out wr d
      by_cases hjl:j<l.length
      ·obtain⟨an,q,rfl,-,-,U,ap⟩:=(B.out wr d).int hjl;obtain⟨S,T⟩:=hq.out.2 q (dB U.out);obtain⟨u,rfl⟩:∃ u:Nat,q=u:=⟨q.toNat,oM⟩;have hu:u<100:=oH Hn.out;clear S T;go_upto_if 39 with fail
       go_cut [3] (fun s3 wx=>∃ m:ByteArray,s3=.string m∧m.size<=s.size+1∧wx=wr)
       case first =>
        by_cases hj0:0<j
        ·have D:((j:Int)>0):=oM;have q1:¬ 9223372036854775807<s.size+1:=oM;go_wp2_with fail
         go_meet;exact⟨_,rfl,by rw [ByteArray.size_append];exact dD _,rfl⟩
        ·have D:¬ ((j:Int)>0):=oM;go_wp2_with fail
         go_meet;exact⟨s,rfl,oM,rfl⟩
       case rest =>
        obtain⟨m3,rfl,au,rfl⟩:=hcut;go_wp2_with fail
        refine (zey (n:=u) hu).mono ?_;rintro e w4 ⟨t4,rfl,ax,X⟩;have q2:¬ 9223372036854775807<m3.size+t4.size:=oM;go_wp2_with fail
        go_roundw
        case rel=>exact⟨j+1,_,oM,gM,rfl,by rw [ByteArray.size_append];omega,d.trans X⟩
        case measure=>simp [intOf];omega
      ·obtain rfl:j=l.length:=oM;go_wp2_with fail
       go_roundw
       case rel=>exact⟨k+1,s,oM,gM,rfl,oM,zkw.trans d⟩
       case measure=>simp [intOf];omega
   ·obtain rfl:n=k:=oM;go_wp2_with fail
    go_ret;have hv:=J.out;exact⟨t,rfl,fun h=>absurd (hv.symm.trans h) dM,o.trans zkw⟩
def RetStrs1 (L N:Nat) (w:World) (e:Ending) (w':World):Prop:=∃ (A:Option Addr) (n c:Nat) (l:List ByteArray),e=.returned (.slice A n c)∧n=l.length∧0<n∧w'.ownsRow w.heap.size 9 1 (.slice A n c) n (zS l)∧(∀ x∈l,x.size<=L)∧n<=N∧Ext w w'
theorem spec_l19Cut1 {s:ByteArray} (hs:s.size<=1000000) :
  Calls Tryz.prog 250 #[s,.int .u8 32] w (RetStrs1 s.size (s.size+1) w):=by
 go_enter Tryz.func250,Tryz.ntmps250
 go_wp2_with fail
 go_loopw [5,6,7] (fun v f i wr=>∃ (k m:Nat) (l:List ByteArray),k<=s.size+1∧i=.int .i64 k∧m<=k∧f=.int .i64 m∧l.length<=k∧wr.ownsRow w.heap.size 9 1 v l.length (zS l)∧Hid (∀ x∈l,x.size<=s.size)∧Ext w wr∧Hid (s.size<k->0<l.length)) (fun _ _ i _=>s.size+1 - (intOf i).toNat)
 case atStart=>exact⟨0,0,[],dF _,rfl,dD _,rfl,dD _,World.ownsRow_lit w #[] 0 (dD _) lM rfl,(fun x hx=>by cases hx),(cY _).alloc _,za (fun hh=>absurd hh oM)⟩
 case round =>
  obtain⟨k,m,l,q,rfl,t,rfl,r,zku,a,zkw,b⟩:=hrel
  by_cases hle:k<=s.size
  ·have j:(k:Int)<=(s.size:Int):=oM;have n:(m:Int)<=(k:Int):=oM;have g:=za (show (s.extract m k).size<=s.size by rw [ByteArray.size_extract];omega);have hall:=za (show ∀ x∈l++[s.extract m k],x.size<=s.size from fun x hx=>by
    rcases List.mem_append.1 hx with h1|h1
    ·exact a.out x h1
    ·rw [List.mem_singleton.1 h1];exact g.out)
   by_cases he:k=s.size
   ·have d:((k:Int)==(s.size:Int))=true:=by simp [he]
    have o:=za he;clear he;go_wp2_with (at_builtin;refine zW w wr rfl _ _ _ rfl 9 _ 1 16 Tryz.underlying99 zo rfl dM u5 _ _ _ _ rfl rfl zkw zku rfl (zcQ _) lM oM ?_;intro v' w1 hext1 zkD hg1 hat1)
    go_roundw
    case rel=>exact⟨k+1,k+1,l++[s.extract m k],oM,gM,oM,gM,by simp;omega,by simpa [zS] using zkD,hall.out,aM,za (fun _=>sM)⟩
    case measure=>simp [intOf];omega
   ·have d:((k:Int)==(s.size:Int))=false:=by rw [beq_eq_false_iff_ne];omega
    have h:k<s.size:=oM;have p:=zcX s k h;cases hc:((s[k].toNat:Int)==32)
    ·go_wp2_with fail
     go_roundw
     case rel=>exact⟨k+1,m,l,oM,gM,oM,rfl,oM,zku,a,zkw,za (fun hh=>absurd hh oM)⟩
     case measure=>simp [intOf];omega
    ·go_wp2_with (at_builtin;refine zW w wr rfl _ _ _ rfl 9 _ 1 16 Tryz.underlying99 zo rfl dM u5 _ _ _ _ rfl rfl zkw zku rfl (zcQ _) lM oM ?_;intro v' w1 hext1 zkD hg1 hat1)
     go_roundw
     case rel=>exact⟨k+1,k+1,l++[s.extract m k],oM,gM,oM,gM,by simp;omega,by simpa [zS] using zkD,hall.out,aM,za (fun _=>sM)⟩
     case measure=>simp [intOf];omega
  ·obtain rfl:k=s.size+1:=oM;obtain⟨A,c,rfl⟩:=zi zku;go_wp2_with fail
   go_ret;exact⟨A,_,c,l,rfl,rfl,b.out oM,zku,a.out,oM,zkw⟩
end Go.Proofs.YtcfchopfijalpaaGreatDoor
