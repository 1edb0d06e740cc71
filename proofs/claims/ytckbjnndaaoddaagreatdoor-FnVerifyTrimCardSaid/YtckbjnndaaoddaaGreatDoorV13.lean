/- The program' -/
import Derived.Test.YtckbjnndaaoddaaGreatDoorV12
set_option maxHeartbeats 4000000
set_option maxRecDepth 100000
namespace Go.Proofs.YtckbjnndaaoddaaGreatDoor
open Go Go.RowKit
open Blk renaming new->dZ
open Bool renaming and_eq_true->dI,eq_false_iff->eR,eq_iff_iff->gS,or_eq_true->fW
open Ext renaming bl_->eC,eq_->e9,refl->cY
open Frm renaming setCell->dF
open Int renaming natCast_add->iG,toNat_natCast->eO
open List renaming all_eq_true->eJ,append_nil->gF,eq_nil_of_length_eq_zero->dP,filter_append->gW,filter_cons_of_neg->fF,filter_cons_of_pos->eP,getElem?_eq_getElem->dC,length_cons->fM,map_append->eG,mem_cons_of_mem->eE,mem_cons_self->gX,mem_of_getElem?->dB,take_add_one->dN,take_of_length_le->dJ
open Nat renaming eq_of_testBit_eq->fH,le_refl->dD,le_trans->dK,mul_le_mul->eX,pow_le_pow_right->dY,strongRecOn->jY,testBit_and->fN,testBit_two_pow_sub_one->jM,zero_le->dG,zero_testBit->iP
open Option renaming toList_some->eF
open Reads renaming af->eD
variable {A A':Option Addr} {G K L Z base c c' g j k n n':Nat} {W W' w w0:World} {a p:Aut} {al st:Int} {e:Ending} {es:List Edg} {s t:Sys} {ss:List Sys} {u0 u1 u2:Value} {v:List Nat} {x:ByteArray}
structure AutS (W:World) (S:Nat->Prop) (base:Nat) (A:Option Addr) (n c:Nat) (A':Option Addr) (n' c':Nat) (a:Aut):Prop where
 own:∃ rows,W.ownsRow base 110 1 (.slice A n c) a.next.length rows∧zB W base rows a.next∧∀ (i:Nat) (r:Value) (b:Nat),rows[i]?=some r->r.ownBlock=some b->¬ S b
 acc:W.ownsRow base 4 1 (.slice A' n' c') a.acc.length (zaa a.acc)
 fv:∀ b,(Value.slice A n c).ownBlock=some b->¬ S b
 fA:∀ b,(Value.slice A' n' c').ownBlock=some b->¬ S b
def RetAO (J:zbj) (a:Aut) (B:Nat) (S:Nat->Prop) (W:World) (e:Ending) (W':World):Prop:=
 ∃ (S':Nat->Prop) (A A':Option Addr) (n c n' c':Nat),e=.returned (.agg #[a.al,.slice A n c,.slice A' n' c'])∧AutS W' S' W.heap.size A n c A' n' c' a∧Kp J B S W W' S'
section
variable {J:zbj} {B b0 base N G:Nat} {S S':Nat->Prop} {W W':World} {al:Int} {ls:List (List Int)} {acc:List Bool} {A A':Option Addr} {n c n' c':Nat} {a:Aut}
theorem own_num {m size:Nat} {e:TypeId}  {xs:List Value}(h:w.ownsRow base e size (.slice A n c) m xs):n=m:=by
 rcases h.2 with ⟨h1,h2⟩|⟨g,a,b,h1,_⟩
 ·injection h1 with _ h3;omega
 ·injection h1
theorem AutS.kp (h:AutS W S base A n c A' n' c' a) (k:Kp J B S W W' S'):AutS W' S' base A n c A' n' c' a:=by
 obtain⟨d,h1,h2,f⟩:=h.own;refine⟨⟨d,(k.row h1 h.fv).1,h2.frm k.frm (fun i r b hr hb=>f i r b hr hb),fun i r b hr hb=>?_⟩,(k.row h.acc h.fA).1,(k.row h1 h.fv).2,(k.row h.acc h.fA).2⟩;obtain⟨l,_,ho⟩:=h2.row hr;exact k.out (ho.lt b hb).2 (f i r b hr hb)
theorem AutS.ext (h:AutS W S base A n c A' n' c' a)(hx:Ext W W'):AutS W' S base A n c A' n' c' a:=by
 obtain⟨b,h1,h2,d⟩:=h.own;exact⟨⟨b,zi h1 hx,h2.ext hx,d⟩,zi h.acc hx,h.fv,h.fA⟩
theorem AutS.own_ (h:AutS W S base A n c A' n' c' a):zZ W base A n c A' n' c' a:=by
 obtain⟨b,h1,h2,d⟩:=h.own;obtain rfl:=own_num h1;obtain rfl:=own_num h.acc;exact⟨⟨b,h1,h2⟩,rfl,h.acc,rfl⟩
theorem zeY.autS (h:zeY W S base N G al (.slice A n c) ls (.slice A' n' c') acc):AutS W S base A n c A' n' c' ⟨al,ls,acc⟩:=by
 obtain⟨k,rfl,d,a,f,g,j⟩:=h.gra;exact⟨⟨a,f,g,fun i r b hr hb=>(j i r b hr hb).1⟩,d.acc,h.fv,h.fA⟩
end
section
variable {J:zbj} {B b0 L base nr cr nc cc kn:Nat} {S S':Nat->Prop} {W W':World} {R C:Option Addr} {rows cols:List ByteArray} {f:ByteArray->Bool} {rc:Value}
theorem rnM_at {zs:List ByteArray} {y:ByteArray}(h:y∈zs):rnM zs y=some (zix zs y):=by
 unfold rnM;rw [zay.2 h,if_pos rfl]
theorem aut_ret {w5:World} {S5:Nat->Prop}    (hJ:zbj.Ok b0 J)(hk:Kp J B S W w5 S5)(hA:AutS w5 S5 base A n c A' n' c' a)(hb:Blk w5 Z 27 #[u0,u1,u2])(hZ:¬ S5 Z)(hWZ:W.heap.size<=Z)(hbZ:b0<=Z)(hWb:W.heap.size<=base) :
  Blk (((w5.setCell Z a.al).setCell ⟨Z,1,none⟩ (.slice A n c)).setCell ⟨Z,2,none⟩ (.slice A' n' c')) Z 27 #[a.al,.slice A n c,.slice A' n' c']∧Kp J B S W (((w5.setCell Z a.al).setCell ⟨Z,1,none⟩ (.slice A n c)).setCell ⟨Z,2,none⟩ (.slice A' n' c')) S5 ∧
  AutS (((w5.setCell Z a.al).setCell ⟨Z,1,none⟩ (.slice A n c)).setCell ⟨Z,2,none⟩ (.slice A' n' c')) S5 W.heap.size A n c A' n' c' a:=by
 have f:=(dF w5 Z 0 (.int .i64 a.al)).trans ((dF _ Z 1 (.slice A n c)).trans (dF _ Z 2 (.slice A' n' c')));obtain⟨d,g,h,k⟩:=hA.own;refine⟨by simpa using ((hb.ae 0 (.int .i64 a.al)).ae 1 (.slice A n c)).ae 2 (.slice A' n' c'),hk.own hJ f (fun q _ e=>by have j:q=Z:=e;rw [j];exact⟨hWZ,hbZ,hZ⟩),⟨⟨d,zdg (zf g f (fun b hb' e=>zM g hb dM hb' e)) hWb,(h.frm f (fun i r b hr hb' e=>by
  obtain⟨l,_,ho⟩:=h.row hr;exact zM ho hb dM hb' e)).less hWb,k⟩,zdg (zf hA.acc f (fun b hb' e=>zM hA.acc hb dM hb' e)) hWb,hA.fv,hA.fA⟩⟩
theorem zgq (hO:zgY b0 L f J kn rc)(hj:J B W S)(hB:B+1692<10000000)(hT:zgI W S base R nr cr C nc cc rows cols)(hI:zbW L f rows cols)(hcl:zaL L f rows cols=none)(hb0:b0<=W.heap.size)(hL:L<64) :
  Calls Tryz.prog 51 #[orcV L kn rc,.agg #[.slice R nr cr,.slice C nc cc]] W (RetAO J (zdO L f rows cols) (B+1692) S W):=by
 have u:=za hO;have HI:=za hI;have cD:=za (fun (r:ByteArray) (l:Nat) (hr:r∈rows) (hl:l∈letters L 6)=>zeq hcl hr hl);have cb:=za hT.lens;have cQ:nr<=12:=by rw [← hT.lens.1];exact hI.r12
 have bw:=za hI.c20;have aU:Ext W (((W.alloc (.cells #[(L:Int),.func (.func kn) #[rc] #[]] 83)).alloc (.cells #[.slice R nr cr,.slice C nc cc] 90)).alloc (.cells #[(0:Int),(),()] 27)):=(((cY _).alloc _).alloc _).alloc _;obtain⟨b2,b3,b4⟩:=zL (cY (((W.alloc (.cells #[(L:Int),.func (.func kn) #[rc] #[]] 83)).alloc (.cells #[.slice R nr cr,.slice C nc cc] 90)).alloc (.cells #[(0:Int),(),()] 27)));have D:=za (fun (q:Nat) (hq:W.heap.size<=q)=>zbj.fresh hO.ok hj hq);have b5:=hO.ok.keep hj aU (fun _ _ h=>h.elim);have bn:=za (hT.ext aU);have dw:W.heap.size<(((W.alloc (.cells #[(L:Int),.func (.func kn) #[rc] #[]] 83)).alloc (.cells #[.slice R nr cr,.slice C nc cc] 90)).alloc (.cells #[(0:Int),(),()] 27)).heap.size∧W.heap.size+1+1<(((W.alloc (.cells #[(L:Int),.func (.func kn) #[rc] #[]] 83)).alloc (.cells #[.slice R nr cr,.slice C nc cc] 90)).alloc (.cells #[(0:Int),(),()] 27)).heap.size:=by simp;omega
 have ck:Sm L:=tM;clear hO hI hT hcl;have dl:=u.out.in_
 go_enter Tryz.func51,Tryz.ntmps51
 go_upto_region 1 with fail
 generalize ((W.alloc _).alloc _).alloc _=w1 at *;have k2:=b2.cell;have k3:=b3.cell;have bx:=za (zfM u.out b5 oM bn.out HI.out oM);obtain⟨zs,aL⟩:∃ zs,Hid (zaB f cols rows=zs):=⟨_,za rfl⟩;rw [aL.out] at bx;go_upto_region 2 with (go_at_call 124;refine bx.out.mono ?_;rintro e w2 ⟨S2,M,n,rfl,ce,bc,db,dc,an⟩)
 have B2:=za b2;have B3:=za b3;have B4:=za b4;have k2:=(an.blk b2 (D.out _ oM)).1.cell;obtain⟨w3,U0⟩:∃ x,Hid (w2.alloc (.cells #[(L:Int),(),()] 27)=x):=⟨_,za rfl⟩;have bo:=eC U0.out;have cS:Ext w2 (w2.alloc (.cells #[(0:Int),(),()] 27)):=(cY _).alloc _;have c9:=bo.cell;have f9:=bo.frozen;go_upto_region 3 with fail
 have ak:=eC U0.out;have Z:Ext w2 w3:=((cY _).alloc _).trans (e9 U0.out);obtain⟨G,bj⟩:∃ G,Hid (G=w2.heap.size):=⟨_,za rfl⟩;rw [← bj.out] at ak ⊢;have aZ:=za (fun (q:Nat) (hq:w2.heap.size<=q)=>zbj.fresh u.out.ok an.j hq);have cH:=za (aZ.out G (oH bj.out));have dd:=an.size;have bk:w1.heap.size<=G:=oH bj.out;clear bo cS c9 f9 b2 b3 b4 k3 bx b5;rw [U0.out] at *;have s:=za (an.ext u.out.ok Z);have bd:=za (show zfo w3 M n (rnM zs)∧¬ S2 M from ⟨ce.ext Z,bc⟩);obtain⟨wb,I,bg⟩:=zdL w3 (base:=w1.heap.size) (oH Z.size);have aA:=gra_first bg ak (by rw [I];exact bk) cH.out;rw [I] at aA;have a3:=za aA;have k3:=((an.ext u.out.ok Z).blk B3.out (D.out _ oM)).1.cell;clear an ce bc aA I bg ak Z k2 aZ;have cd:(letters L 6).length<=6:=zA L 6;go_wp2_with fail
 go_loopw [8,9,11,21] (fun _ _ _ iv wr=>∃ (i:Nat) (S1:Nat->Prop) (v vA:Value) (ls:List (List Int)) (g:List Bool),iv=.int .i64 i∧i<=nr∧Hid (Kp J (B+240+121*i) S w1 wr S1)∧Hid (zfo wr M n (rnM zs)∧¬ S1 M)∧Hid (zeY wr S1 w1.heap.size wr.heap.size G (L:Int) v ls vA g)∧Hid (ls=(rows.take i).map (zdx L f rows cols)∧g=(rows.take i).map f)) (fun _ _ _ iv _=>nr - (intOf iv).toNat)
 case atStart=>exact⟨0,S2,_,_,[],[],rfl,dG _,s,bd,a3,za ⟨sM,sM⟩⟩
 case round =>
  clear s bd a3 k3;obtain⟨i,S1,v,vA,ls,g,rfl,hi,U,H,o,ap⟩:=hrel;have k2:=(U.out.blk B2.out (D.out _ (dD _))).1.cell;have k3:=(U.out.blk B3.out (D.out _ oM)).1.cell
  by_cases hlt:i<nr
  ·have da:(i:Int)<(nr:Int):=oM;obtain⟨x,hx⟩:∃ x,rows[i]?=some x:=⟨_,dC (oH cb.out.1)⟩;have Hx:=za hx;obtain⟨gR,rfl,hc⟩:=zhs (bn.out.kp U.out).r.own hx;have aW:=za (dB hx);have dx:x.size<=12:=(HI.out.rin aW.out).2;have bf:=za (fun (q:Nat) (hq:wr.heap.size<=q)=>zbj.fresh u.out.ok U.out.j hq);clear hx;go_upto_block 2 with (go_at_call 67;refine (zae L ck _).mono ?_;rintro e w4 ⟨AL,cL,rfl,F,aV⟩)
   have ca:=za (fun l (hl:l∈letters L 6)=>zC.1 hl);obtain⟨d,ad⟩:∃ d,Hid (zdx L f rows cols x=d):=⟨_,za rfl⟩;have a0:=za (show ∀ (k l:Nat),(letters L 6)[k]?=some l->d[k]?=some ((zix zs (mkS (zbG f cols (x++zbX l))):Nat):Int) from fun k l hl=>by
    rw [← ad.out,← aL.out];unfold zdx;rw [List.getElem?_map,hl];rfl)
   have ax:=za (show d.length=(letters L 6).length by rw [← ad.out];simp [zdx]);have ay:=za (fun l hl=>cD.out x l aW.out hl);rw [aL.out] at ay;obtain⟨LL,cI⟩:∃ LL,Hid (letters L 6=LL):=⟨_,za rfl⟩;have bs:=cd;rw [cI.out] at F ca a0 ax ay bs ⊢;have bq:=za (U.out.ext u.out.ok aV);have be:=za (show zfo w4 M n (rnM zs)∧¬ S1 M from ⟨H.out.1.ext aV,H.out.2⟩);have aG:=za (show zfZ w4 S1 wr.heap.size 3 1 (.slice AL LL.length cL) LL.length (zad LL) from ⟨F,fun b hb=>bf.out b (F.lt b hb).1⟩);obtain⟨N,bm⟩:∃ N,Hid (N=w4.heap.size):=⟨_,za rfl⟩;have aY:=za (fun b hb=>(F.lt b hb).2);have aB:=(o.out.ext aV).reN;have bR:=aY;rw [← bm.out] at aB bR;clear aY;have aC:=za aB;have cq:w1.heap.size<=N:=by have:=bq.out.size;have:=bm.out;omega
   have aH:=za (show zfZ w4 S1 N 3 1 (.slice none 0 0) 0 (ints (d.take 0)) from ⟨World.ownsRow_nil _ _ _ _,fun b hb=>by simp [Value.ownBlock] at hb⟩);obtain⟨bl,bV⟩:∃ bl,Hid (bl=wr.heap.size):=⟨_,za rfl⟩;rw [← bV.out] at aG;clear F aV k2 k3 hc H bf o aB U;go_wp2_with fail
   go_loopw [9,11,29] (fun v9 _ kv wr=>∃ (k:Nat) (S3:Nat->Prop),kv=.int .i64 k∧k<=LL.length∧Hid (Kp J (B+240+121*i+20*k) S w1 wr S3)∧Hid (zfo wr M n (rnM zs)∧¬ S3 M)∧Hid (zeY wr S3 w1.heap.size N G (L:Int) v ls vA g)∧Hid (zfZ wr S3 bl 3 1 (.slice AL LL.length cL) LL.length (zad LL))∧Hid (zfZ wr S3 N 3 1 v9 k (ints (d.take k))∧N<=wr.heap.size)) (fun _ _ kv _=>LL.length - (intOf kv).toNat)
   case atStart=>exact⟨0,S1,rfl,dG _,bq,be,aC,aG,za ⟨aH.out,oH bm.out⟩⟩
   case round =>
    clear bq be aC aG aH;obtain⟨k,S3,rfl,hk,s,H,o,aF,V⟩:=hrel;have k2:=(s.out.blk B2.out (D.out _ (dD _))).1.cell;have k3:=(s.out.blk B3.out (D.out _ oM)).1.cell
    by_cases hkl:k<LL.length
    ·have c8:(k:Int)<(LL.length:Int):=oM;obtain⟨l,hl⟩:∃ l,LL[k]?=some l:=⟨_,dC hkl⟩;obtain⟨br,b8⟩:=ca.out l (dB hl);have aD:=za (ay.out l (dB hl));have aR:=za (a0.out k l hl);obtain⟨gl,rfl,-,-⟩:=zJ aF.out.own oM;have cl:=zco aF.out.own hkl;rw [List.getD_eq_getElem?_getD,hl,Option.getD_some] at cl;have bW:∀ X:World,(convert 21 9 (.int .i32 (97+(l:Int)))).run Tryz.prog X=.ok (.string (zbX l)) X:=fun X=>by
      have:=conv_rune br X;rwa [iG] at this
     have cs:IntKind.i32.wrap (97+(l:Int))=97+(l:Int):=by
      simp [IntKind.wrap,IntKind.bits,IntKind.signed];omega
     have ae:=za (HI.out.snoc aW.out br b8);obtain⟨z,hz⟩:∃ z,Hid (zbX l=z):=⟨_,za rfl⟩;have dz:z.size=1:=by rw [← hz.out];exact zcx l
     obtain⟨y,hy⟩:∃ y,Hid (x++z=y):=⟨_,za rfl⟩;have cT:=za (show x++zbX l=y by rw [hz.out,hy.out]);rw [cT.out] at ae aD aR;have cn:¬ 9223372036854775807<x.size+1:=oM;rw [hz.out] at bW;obtain⟨m9,bt⟩:∃ m9,Hid (mkS (zbG f cols y)=m9):=⟨_,za rfl⟩;rw [bt.out] at aD aR;have bS:=za (rnM_at aD.out);obtain⟨q9,cR⟩:∃ q9,Hid (zix zs m9=q9):=⟨_,za rfl⟩;rw [cR.out] at bS aR;have cM:=za (show domS m9 by rw [← bt.out];exact mkS_dom bw.out y);have dy:=hy.out;obtain⟨A9,c9,rfl⟩:=zh V.out.1.own;go_upto_region 10 with fail
     have bB:=cY wr;have K2:∀ X,Ext wr X->∀ q,X.cell? ⟨W.heap.size,q,none⟩=#[Value.int .i64 (L:Int),.func (.func kn) #[rc] #[]][q]?:=fun X hX=>((s.out.blk B2.out (D.out _ (dD _))).1.ext hX).cell;have K3:∀ X,Ext wr X->∀ q,X.cell? ⟨W.heap.size+1,q,none⟩=#[Value.slice (some gR) nr cr,.slice C nc cc][q]?:=fun X hX=>((s.out.blk B3.out (D.out _ oM)).1.ext hX).cell;clear k2 k3 cl hl b8;refine uR (fun X=>Ext wr X) [10,11,12,13] (zy.of [0,1,2,3,4,5,6,7,8,9,10,11,12,13,14]) ?_;refine uQ ?_;refine ze fun K hK=>?_;go_simp;refine (zby br _).mono ?_;rintro e w7 ⟨rfl,rfl⟩;refine hK.out _ _ bB.drew ?_;refine pT ?_;refine uQ ?_;refine zb fun K hK=>?_;have aq:=bB.drew;have T:=za (s.out.ext u.out.ok aq);have aK:=za (show zfo wr.drew M n (rnM zs)∧¬ S3 M from ⟨H.out.1.ext aq,H.out.2⟩);have a5:=za (o.out.ext aq);have a8:=za (aF.out.ext aq);have ba:=za (V.out.1.ext aq);have cJ:N<=wr.drew.heap.size:=V.out.2;have bO:=za (bn.out.kp T.out);clear K2 K3 s H o aF V bB aq bW cs;generalize wr.drew=wd at *;have bu:=za (zhr (x:=y) u.out T.out.j oM bO.out HI.out ae.out.1 (oH ae.out.2) (oH T.out.size));rw [bt.out] at bu;go_simp;refine bu.out.mono ?_;rintro e w5 ⟨S5,rfl,p⟩;refine hK.out _ _ ?_;refine pT ?_;obtain⟨aT,cj⟩:=zfo.kp aK.out.1 aK.out.2 p;have b6:=za (T.out.trans p);have E:=za (a5.out.kp p);have cg:=za (a8.out.kp p);have t:=za (ba.out.kp p);have bT:N<=w5.heap.size:=dK cJ p.size;have az:=za (fun (q:Nat) (hq:w5.heap.size<=q)=>zbj.fresh u.out.ok p.j hq);clear bu p T aK a5 a8 ba bO;refine zb fun K hK=>?_;refine wp_mapAtG _ keyS _ _ rfl rfl aT m9 q9 rfl cM.out bS.out ?_;refine hK.out _ _ ?_;refine pT ?_;refine zb fun K hK=>?_;go_simp;refine hK.out _ _ ?_;refine pT ?_;obtain⟨wn,bA,bh⟩:=zdL w5 bT;have bD:=t.out.own;rw [← bA] at bD;refine zb fun K hK=>?_;refine zax wn w5 _ _ _ rfl 3 _ 1 8 Tryz.underlying110 zQ rfl dM (.slice A9 k c9) k (ints (d.take k)) _ _ rfl rfl bh.size bD rfl (zaH _) lM oM ?_;intro g9 cap9 w9 hown9 hg9 hat9 hlt9;refine hK.out _ _ ?_;refine pT ?_;refine uQ ?_;refine zg ?_;rw [bA] at hown9;have cO:=za (b6.out.grown u.out.ok hg9 (fun q hq=>⟨by have:=(t.out.own.lt q hq).1;omega,by have:=(t.out.own.lt q hq).1;omega,t.out.far q hq⟩));have b1:=za (E.out.grow t.out.own hg9);have aS:Frm (fun q=>(Value.slice A9 k c9).ownBlock=some q) w5 w9:=Frm.ab hg9;have cm:=za (show zfo w9 M n (rnM zs)∧¬ S5 M from ⟨aT.frm aS (fun e=>aT.aj t.out.own e),cj⟩);have ch:=za (cg.out.frm aS (fun b hb e=>by
      have h1:=(t.out.own.lt b e).1;have h2:=bR.out b hb;omega))
     have bz:=za (show d.take (k+1)=d.take k++[(q9:Int)] by rw [dN,aR.out];rfl);have ci:=za (show zfZ w9 S5 N 3 1 (.slice (some g9) (k+1) cap9) (k+1) (ints (d.take (k+1)))∧N<=w9.heap.size from
      ⟨⟨by rw [bz.out,ints,eG];exact hown9,fun b hb=>by
       obtain rfl:=zeU hb;rcases hat9 with e|e
       ·exact t.out.far _ e
       ·exact az.out _ oM⟩,dK bT aS.size⟩)
     clear hown9 hg9 hat9 bD bA bh aS cj aT;go_wp2_with fail
     go_roundw
     case rel=>exact⟨k+1,S5,gM,oM,za (by have:=cO.out;rwa [show B+240+121*i+20*k+20=B+240+121*i+20*(k+1) by omega] at this),cm,b1,ch,ci⟩
     case measure=>simp [intOf];omega
    ·obtain rfl:k=LL.length:=oM;obtain⟨A9,c9,rfl⟩:=zh V.out.1.own;have a9:=za (show wr.ownsRow N 3 1 (.slice A9 LL.length c9) d.length (ints d) by
      have h1:=V.out.1.own;rw [dJ (by rw [ax.out];exact dD _)] at h1;rw [ax.out];exact h1)
     obtain⟨m,r1,r2,r3⟩:∃ m,wr.ownsRow w1.heap.size 110 1 v ls.length m∧zB wr w1.heap.size m ls∧∀ (i:Nat) (r:Value) (b:Nat),m[i]?=some r->r.ownBlock=some b->¬ S3 b∧b<N:=by
      obtain⟨wb,I,-,m,h⟩:=o.out.gra;exact⟨m,h⟩
     have aj:=za r1;have bP:=za r2;have bQ:=za r3;have bZ:=za (fun (q:Nat) (hq:wr.heap.size<=q)=>zbj.fresh u.out.ok s.out.j hq);have cP:ls.length<=12:=by rw [ap.out.1];simp;omega
     have kG:=o.out.blk.cell;have cp:w1.heap.size<=wr.heap.size:=s.out.size;obtain⟨Av,cv,rfl⟩:=zh r1;clear r1 r2 r3;go_upto_region 13 with (at_builtin;refine zI w1 wr rfl _ _ _ rfl 110 _ 1 24 Tryz.underlying24 zbm rfl dM (.slice Av ls.length cv) ls.length m _ _ rfl rfl cp aj.out rfl (zaE _ _ _) lM oM ?_;intro g7 cap7 w7 hown7 hg7 hat7 hlt7;obtain⟨aQ,ag⟩:=o.out.push aj.out bP.out bQ.out cq a9.out V.out.1.far bZ.out hown7 hg7 hat7;have k7:=aQ.cell;have f7:=aQ.frozen)
     have a2:Frm (fun q=>(Value.slice Av ls.length cv).ownBlock=some q) wr w7:=Frm.ab hg7;have Y:zfo w7 M n (rnM zs):=H.out.1.frm a2 (fun e=>H.out.1.aj aj.out e);have aJ:=za (show zfo (w7.setCell ⟨G,1,none⟩ (.slice (some g7) (ls.length+1) cap7)) M n (rnM zs)∧¬ S3 M from ⟨Y.frm (dF w7 G 1 _) (fun e=>Y.far aQ e.symm),H.out.2⟩);have aE:=za ((s.out.grown u.out.ok hg7 (fun q hq=>⟨(aj.out.lt q hq).1,by have:=(aj.out.lt q hq).1;omega,o.out.fv q hq⟩)).cell u.out.ok bk oM o.out.fG 1 (.slice (some g7) (ls.length+1) cap7));have Q:=za ag;clear hown7 hg7 hat7 aQ ag k7 f7 Y a2 kG s H o aF V a9 aj bP bQ bZ k2 k3;generalize w7.setCell ⟨G,1,none⟩ (.slice (some g7) (ls.length+1) cap7)=w8 at *;have C6:∀ X,Frm S3 w8 X->∀ q,X.cell? ⟨G,q,none⟩=#[Value.int .i64 (L:Int),.slice (some g7) (ls.length+1) cap7,vA][q]?:=fun X hX=>(Q.out.blk.frm hX Q.out.fG).cell;have C2:∀ X,Frm S3 w8 X->∀ q,X.cell? ⟨W.heap.size,q,none⟩=#[Value.int .i64 (L:Int),.func (.func kn) #[rc] #[]][q]?:=fun X hX =>
      ((aE.out.blk B2.out (D.out _ (dD _))).1.frm hX (aE.out.blk B2.out (D.out _ (dD _))).2).cell
     have bY:Frm S3 w8 w8.drew:=(cY w8).drew.ak;obtain⟨A2,c2,rfl⟩:∃ A2 c2,vA=.slice A2 g.length c2:=by
      obtain⟨wb,I,am,-⟩:=Q.out.gra;obtain⟨A2,c2,h⟩:=zh am.acc;exact⟨A2,c2,h⟩
     have a1:=za (u.out.ask _ w8.drew S3 x (u.out.ok.keep aE.out.j (cY w8).drew (fun _ _ h=>h.elim)) oM (HI.out.rin aW.out).1 oM);obtain⟨bb,ak⟩:∃ bb,Hid (f x=bb):=⟨_,za rfl⟩;rw [ak.out] at a1;have c7:g.length<=12:=by rw [ap.out.2];simp;omega
     refine uR (fun X=>Frm S3 w8 X) [7,9] (zy.of [0,1,2,3,4,5,6,7,8,9]) ?_;refine uQ ?_;refine ze fun K hK=>?_;go_simp;refine a1.out.mono ?_;rintro e w5 ⟨S5,rfl,p⟩;have bp:=bY.trans p.frm;refine hK.out _ _ bp ?_;refine pT ?_;have E:=za ((Q.out.ext (cY w8).drew).kp p);have ah:=zfo.kp (aJ.out.1.ext (cY w8).drew) aJ.out.2 p;have a7:=za ((aE.out.ext u.out.ok (cY w8).drew).trans p);have az:=za (fun (q:Nat) (hq:w5.heap.size<=q)=>zbj.fresh u.out.ok p.j hq);obtain⟨aw,co⟩:w5.ownsRow w1.heap.size 4 1 (.slice A2 g.length c2) g.length (zaa g)∧w1.heap.size<=w5.heap.size:=by
      obtain⟨wb,I,am,-⟩:=E.out.gra;have h1:=am.acc;rw [I] at h1;exact⟨h1,oH am.ext.size⟩
     refine ze fun K hK=>?_;go_simp;refine hK.out _ _ (bp.ext ((cY w5).alloc _)) ?_;refine pT ?_;refine zb fun K hK=>?_;refine zax w1 w5 _ _ _ rfl 4 _ 1 1 Tryz.underlying25 zaI rfl dM (.slice A2 g.length c2) g.length (zaa g) _ _ rfl rfl co aw rfl (by simp [Value.oneCell']) lM oM ?_;intro g6 cap6 w6 hown6 hg6 hat6 hlt6;obtain⟨aP,a4⟩:=E.out.pushA (x:=bb) az.out hown6 hg6 hat6;have k6:=aP.cell;have f6:=aP.frozen;refine hK.out _ _ ?_;refine pT ?_;refine uQ ?_;refine zb fun K hK=>?_;go_simp;refine hK.out _ _ ?_;refine zg ?_;have bX:Frm (fun q=>(Value.slice A2 g.length c2).ownBlock=some q) w5 w6:=Frm.ab hg6;have aI:zfo w6 M n (rnM zs):=ah.1.frm bX (fun e=>ah.1.aj aw e);have Y:=za (show zfo (w6.setCell ⟨G,2,none⟩ (.slice (some g6) (g.length+1) cap6)) M n (rnM zs)∧¬ S5 M from ⟨aI.frm (dF w6 G 2 _) (fun e=>aI.far aP e.symm),ah.2⟩);have cN:=za (((a7.out.grown u.out.ok hg6 (fun q hq=>⟨(aw.lt q hq).1,by have:=(aw.lt q hq).1;omega,E.out.fA q hq⟩)).cell u.out.ok bk oM E.out.fG 2 (.slice (some g6) (g.length+1) cap6)).more u.out.ok (show _<=B+240+121*(i+1) by omega));have ag:=za a4.reN;have b7:=za (show ls++[d]=(rows.take (i+1)).map (zdx L f rows cols)∧g++[bb]=(rows.take (i+1)).map f by
      rw [dN,Hx.out,eF,eG,eG,← ap.out.1,← ap.out.2,← ad.out,← ak.out];exact⟨rfl,rfl⟩)
     clear hown6 hg6 hat6 aP a4 k6 f6 aI bX aw E ah a7 bp p bY C6 C2 aJ aE Q;generalize w6.setCell ⟨G,2,none⟩ (.slice (some g6) (g.length+1) cap6)=w9 at *;go_wp2_with fail
     go_roundw
     case rel=>exact⟨i+1,S5,_,_,_,_,gM,oM,cN,Y,ag,b7⟩
     case measure=>simp [intOf];omega
  ·obtain rfl:i=nr:=oM;have b9:=cb.out.1;have bz:=za (show rows.take i=rows from dJ oM);have cK:=za (show (⟨(L:Int),ls,g⟩:Aut)=zdO L f rows cols by
    have h1:=ap.out.1;have h2:=ap.out.2;rw [bz.out] at h1 h2;rw [h1,h2];rfl)
   obtain⟨Av,nv,cv,rfl⟩:∃ A n c,v=.slice A n c:=by
    obtain⟨wb,I,-,m,h,-⟩:=o.out.gra;obtain⟨A,c,e⟩:=zh h;exact⟨A,_,c,e⟩
   obtain⟨A2,n2,c2,rfl⟩:∃ A n c,vA=.slice A n c:=by
    obtain⟨wb,I,am,-⟩:=o.out.gra;obtain⟨A,c,e⟩:=zh am.acc;exact⟨A,_,c,e⟩
   have hA:=o.out.autS;rw [cK.out] at hA;have HA:=za hA;have kG:=o.out.blk.cell;have O:=U.out.blk B4.out (D.out _ oM);have k4:=O.1.cell;have f4:=O.1.frozen;have a6:=za ((U.out.more u.out.ok (show B+240+121*i<=B+1692 by omega)).back aU);have cn:=aU.size;clear k2 k3 hA b9;go_wp2_with fail
   have bC:=aut_ret (a:=zdO L f rows cols) u.out.ok a6.out HA.out O.1 O.2 oM oM cn;have cf:=bC.1.cell;have Hfin:=za bC.2;have bU:(zdO L f rows cols).al=(L:Int):=rfl;rw [bU] at cf Hfin;clear bC k4 f4 O a6 kG;generalize ((wr.setCell ⟨W.heap.size+1+1,0,none⟩ (.int .i64 (L:Int))).setCell ⟨W.heap.size+1+1,1,none⟩ (.slice Av nv cv)).setCell ⟨W.heap.size+1+1,2,none⟩ (.slice A2 n2 c2)=w9 at *;exact bodyPost_ret (v:=.agg #[(L:Int),.slice Av nv cv,.slice A2 n2 c2]) (by simp [results,Tryz.results51,go_sem,cf]) rfl ⟨S1,Av,A2,nv,cv,n2,c2,rfl,Hfin.out.2,Hfin.out.1⟩
end
theorem zia {f:Nat->Bool} {ls:List Nat}:∀ {q:Nat},(∀ l∈ls,p.al.toNat.testBit l=true->f l=true)->zaK p q (ls.filter f)=zaK p q ls:=by
 induction ls with
 |nil=>intro q _;rfl
 |cons l r a =>
  intro q h;have a:=fun {q}=>a (q:=q) (fun k hk=>h k (eE _ hk));rw [List.filter_cons];show _=zaK p (aGo p q l) r;cases hf:f l
  ·have e:aGo p q l=q:=by
    unfold aGo;rw [if_neg];intro hb;have:=h l gX hb;rw [hf] at this;cases this
   rw [e];simpa using a
  ·simp only [if_true];exact a
theorem goes_filter {f:Nat->Bool}:∀ (n:Nat) (v:List Nat),v.length=n->(∀ l∈v,s.al.toNat.testBit l=true->f l=true)->∀ q,zbi (cho s) [0] (v.filter f) q↔zbi (cho s) [0] v q:=by
 intro n
 induction n with
 |zero =>
  intro v hl _ q;obtain rfl:=dP hl;exact Iff.rfl
 |succ n b =>
  intro v hl h q;rcases zac v with rfl|⟨u,l,rfl⟩
  ·simp at hl
  have b:=b u (by simpa using hl) (fun k hk=>h k (by simp [hk]));rw [gW];cases hf:f l
  ·have c:s.al.toNat.testBit l=false:=by
    rw [eR];intro c;have:=h l sM c;rw [hf] at this;cases this
   rw [show List.filter f [l]=[] by simp [hf],gF,b];constructor
   ·intro h1;exact .snoc h1 (by unfold cho;rw [c];simp)
   ·intro h1;obtain⟨m,h2,a⟩:=h1.inv;unfold cho at a;rw [c] at a;simp at a;rw [a];exact h2
  ·rw [show List.filter f [l]=[l] by simp [hf]];constructor
   ·intro h1;obtain⟨m,h2,a⟩:=h1.inv;exact .snoc ((b m).1 h2) a
   ·intro h1;obtain⟨m,h2,a⟩:=h1.inv;exact .snoc ((b m).2 h2) a
theorem zfi {f:Nat->Bool} (h:∀ l∈v,s.al.toNat.testBit l=true->f l=true):ziQ s (v.filter f)↔ziQ s v:=exists_congr fun q=>goes_filter _ v rfl h q
theorem zfW (ss:List Sys) (l:Nat):(zH ss).testBit l=true↔∃ s∈ss,s.al.toNat.testBit l=true:=by
 have b:∀ (ss:List Sys) (u:Nat),(ss.foldl (fun a s=>a|||s.al.toNat) u).testBit l=true↔u.testBit l=true∨∃ s∈ss,s.al.toNat.testBit l=true:=by
  intro ss
  induction ss with
  |nil=>intro u;simp
  |cons s r ih =>
   intro u;rw [List.foldl_cons,ih,Nat.testBit_or,fW];simp [or_assoc]
 have:=b ss 0;simpa [zH] using this
def Over (A:Nat) (v:List Nat):Prop:=∀ l∈v,l<6∧A.testBit l=true
theorem zfN {A:Nat} :(∀ l∈v,l∈letters A 6)↔Over A v:=by unfold Over;simp only [zC]
theorem runA_free (q:Nat) (v:List Nat):zaK free q v=q:=by
 induction v generalizing q with
 |nil=>rfl
 |cons l r ih =>
  show zaK free (aGo free q l) r=q;rw [show aGo free q l=q by simp [aGo,free],ih]
theorem keepsP_iff :zeR ss p=true↔(zF ss=true∧zj p=true)∧∀ v,Over (zH ss) v->(∀ s∈ss,ziQ s v)->zaC p (zaK p 0 v)=true:=by
 unfold zeR zbo;simp only [dI,Bool.not_eq_true'];have h:∀ v,zaC free (zaK free 0 v)=true:=fun v=>by rw [runA_free];rfl
 have g:zH ss|||free.al.toNat=zH ss:=by simp [free]
 constructor
 ·rintro ⟨⟨h1,h2⟩,c⟩;refine⟨⟨h1,h2⟩,fun v b f=>?_⟩;cases d:zaC p (zaK p 0 v)
  ·have:=(vio_iff (a:=free) (zbb h1).2 zdB h2).2 ⟨v,zfN.2 (by rw [g];exact b),f,h v,d⟩;rw [c] at this;cases this
  ·rfl
 ·rintro ⟨⟨h1,h2⟩,c⟩;refine⟨⟨h1,h2⟩,?_⟩;rw [eR];intro b;obtain⟨v,b,f,i,d⟩:=(vio_iff (a:=free) (zbb h1).2 zdB h2).1 b;have:=c v (by rw [g] at b;exact zfN.1 b) f;rw [d] at this;cases this
theorem runB_goes {p:Nat}(hf:Few p s.edges)(hp:p<=16):∀ (n:Nat) (v:List Nat),v.length=n->(∀ l∈v,s.al.toNat.testBit l=true)->∀ q,(runB s.edges 1 v).testBit q=true↔zbi (cho s) [0] v q:=by
 intro n
 induction n with
 |zero =>
  intro v hl _ q;obtain rfl:=dP hl;constructor
  ·intro h;refine .nil ?_;cases q with
   |zero=>simp
   |succ q =>
    exfalso;have h1:(1:Nat).testBit (q+1)=true:=h;rw [Nat.testBit_succ] at h1;simp at h1
  ·intro h;have:=h.ah;simp at this;subst this;show (1:Nat).testBit 0=true;decide
 |succ n b =>
  intro v hl h q;rcases zac v with rfl|⟨u,l,rfl⟩
  ·simp at hl
  have b:=b u (by simpa using hl) (fun k hk=>h k (by simp [hk]));rw [runB_snoc,zcz];have d:=h l sM;constructor
  ·rintro ⟨e,a,⟨h1,h2⟩,rfl⟩;have j:=hf e a;refine .snoc ((b _).1 h2) ?_;unfold cho;rw [if_pos d];refine zC.2 ⟨oM,(zdn _ _ _ _).2 ⟨e,a,⟨oM,h1⟩,rfl⟩⟩
  ·intro h1;obtain⟨m,h2,c⟩:=h1.inv;unfold cho at c;rw [if_pos d] at c;obtain⟨e,a,⟨f,g⟩,i⟩:=(zdn _ _ _ _).1 (zC.1 c).2;exact⟨e,a,⟨g,by rw [f];simpa using (b m).2 h2⟩,i⟩
theorem bits_some {x:Nat}:(x != 0)=true↔∃ q,x.testBit q=true:=by
 rw [bne_iff_ne];constructor
 ·intro h;apply Classical.byContradiction;intro hn;refine h (fH fun q=>?_);rw [iP,eR];exact fun a=>hn ⟨q,a⟩
 ·rintro ⟨q,a⟩ rfl;rw [iP] at a;cases a
theorem aft_runs (hv:zk s=true)(hw:zbe x=true):(aftB s (zbV x s.al.toNat) != 0)=true↔ziQ s (wl x):=by
 obtain⟨p,_,_,a,b⟩:=zcj hv;unfold aftB;rw [hv,zdU hw,Bool.and_self,if_pos rfl,wl_restB hw,bits_some];refine Iff.trans ?_ (zfi (f:=fun l=>s.al.toNat.testBit l) (fun l _ h=>h));exact exists_congr fun q=>runB_goes b a _ _ rfl (fun l hl=>by simpa using (List.mem_filter.1 hl).2) q
theorem top_iff :topB ss x=true↔zF ss=true∧zbe x=true∧Over (zH ss) (wl x)∧∀ s∈ss,ziQ s (wl x):=by
 unfold topB;simp only [dI,eJ];constructor
 ·rintro ⟨h1,h2,a⟩;have c:=zba h2;refine⟨h1,c,fun l hl=>⟨zjJ c l hl,?_⟩,fun s hs=>(aft_runs ((zbb h1).2 s hs) c).1 (a s hs)⟩;have b:=(zem.1 h2).2;have d:=(zdo (wl x) l).2 hl;rw [← b,fN,dI] at d;exact d.2
 ·rintro ⟨h1,h2,a,b⟩;refine⟨h1,zem.2 ⟨h2,fH fun k=>?_⟩,fun s hs=>(aft_runs ((zbb h1).2 s hs) h2).2 (b s hs)⟩;rw [fN];cases hk:(alB (wl x)).testBit k
  ·rfl
  ·rw [(a k ((zdo _ k).1 hk)).2];rfl
theorem zjp (h1:1<=ss.length)(h3:ss.length<=3)(hv:∀ s∈ss,zk s=true):zF ss=true:=by
 unfold zF;simp only [dI,decide_eq_true_eq,eJ];exact⟨h1,h3,hv⟩
theorem zfC (hs:zk s=true)(hp:zj p=true)(ht:zk t=true):iface s p t=(((s.al.toNat|||p.al.toNat)&&&t.al.toNat:Nat):Int):=by
 unfold iface;rw [hs,hp,ht];rfl
theorem zca (h:0<=iface s p t):zk s=true∧zj p=true∧zk t=true:=by
 have h1:¬ iface s p t<0:=oM;rw [iface_neg] at h1;simpa using h1
theorem shuffle (a b:Nat->Bool):∀ (n:Nat) (v u:List Nat),v.length+u.length<=n->(∀ l∈v,a l=true)->(∀ l∈u,b l=true)->v.filter b=u.filter a ->
  ∃ z:List Nat,z.filter a=v∧z.filter b=u∧∀ l∈z,l∈v∨l∈u:=by
 intro n
 induction n with
 |zero =>
  intro v u hn _ _ _;obtain rfl:=dP (show v.length=0 by omega);obtain rfl:=dP (show u.length=0 by omega);exact⟨[],rfl,rfl,sM⟩
 |succ n ih =>
  intro v u hn hv hu he
  match v,u with
  |[],[]=>exact⟨[],rfl,rfl,sM⟩
  |[],m :: u =>
   have g:a m=false:=by
    cases g:a m
    ·rfl
    ·rw [List.filter_nil,eP g] at he;cases he
   obtain⟨z,h1,h2,d⟩:=ih [] u (by simp at hn ⊢;omega) sM (fun l f=>hu l (eE _ f)) (by rw [fF (by rw [g];decide)] at he;exact he);refine⟨m :: z,by rw [fF (by rw [g];decide)];exact h1,by rw [eP (hu m sM),h2],fun l f=>?_⟩;rcases List.mem_cons.1 f with rfl|f
   ·exact .inr sM
   ·rcases d l f with h|h
    ·exact .inl h
    ·exact .inr (eE _ h)
  |l :: v,u =>
   cases hb:b l
   ·obtain⟨z,h1,h2,d⟩:=ih v u (by simp at hn ⊢;omega) (fun x c=>hv x (eE _ c)) hu (by rw [fF (by rw [hb];decide)] at he;exact he);refine⟨l :: z,by rw [eP (hv l sM),h1],by rw [fF (by rw [hb];decide)];exact h2,fun x c=>?_⟩;rcases List.mem_cons.1 c with rfl|c
    ·exact .inl sM
    ·rcases d x c with h|h
     ·exact .inl (eE _ h)
     ·exact .inr h
   ·cases u with
    |nil=>rw [eP hb,List.filter_nil] at he;cases he
    |cons m u =>
     cases ha:a m
     ·obtain⟨z,h1,h2,d⟩:=ih (l :: v) u (by simp at hn ⊢;omega) hv (fun x c=>hu x (eE _ c)) (by rw [fF (a:=m) (by rw [ha];decide)] at he;exact he);refine⟨m :: z,by rw [fF (by rw [ha];decide)];exact h1,by rw [eP (hu m sM),h2],fun x c=>?_⟩;rcases List.mem_cons.1 c with rfl|c
      ·exact .inr sM
      ·rcases d x c with h|h
       ·exact .inl h
       ·exact .inr (eE _ h)
     ·rw [eP hb,eP ha] at he;obtain⟨rfl,i⟩:=List.cons.inj he;obtain⟨z,h1,h2,d⟩:=ih v u (by simp at hn ⊢;omega) (fun x c=>hv x (eE _ c)) (fun x c=>hu x (eE _ c)) i;refine⟨l :: z,by rw [eP ha,h1],by rw [eP hb,h2],fun x c=>?_⟩;rcases List.mem_cons.1 c with rfl|c
      ·exact .inl sM
      ·rcases d x c with h|h
       ·exact .inl (eE _ h)
       ·exact .inr (eE _ h)
section
variable {s:Sys} {p:Aut} {A:Nat}
theorem cl_word {B:Nat->Nat->Prop} {w:List Nat}(hB:∀ q i,B q i->∃ v,(∀ l∈v,l<6∧(s.al.toNat.testBit l=true∨A.testBit l=true))∧v.filter (fun l=>A.testBit l)=w∧zbi (cho s) [0] v q∧i=zaK p 0 v) {q i:Nat}(h:Cl s p A B q i) :
  ∃ v,(∀ l∈v,l<6∧(s.al.toNat.testBit l=true∨A.testBit l=true))∧v.filter (fun l=>A.testBit l)=w∧zbi (cho s) [0] v q∧i=zaK p 0 v:=by
 induction h with
 |base h=>exact hB _ _ h
 |@hid q i l q' _ hl hq ih =>
  obtain⟨v,h1,h2,b,c⟩:=ih;obtain⟨d,f,g⟩:=hl;refine⟨v++[l],fun x a=>?_,by rw [gW,h2,fF (by rw [g];decide)];simp,.snoc b hq,by rw [zaP,c]⟩;rcases List.mem_append.1 a with a|a
  ·exact h1 x a
  ·obtain rfl:=List.mem_singleton.1 a;exact⟨d,.inl f⟩
theorem prR_word:∀ (r:List Nat),(∀ l∈r,l<6∧A.testBit l=true)->∀ q i,prR s p A r q i ->
  ∃ v,(∀ l∈v,l<6∧(s.al.toNat.testBit l=true∨A.testBit l=true))∧v.filter (fun l=>A.testBit l)=r.reverse∧zbi (cho s) [0] v q∧i=zaK p 0 v:=by
 intro r
 induction r with
 |nil =>
  intro _ q i h;refine cl_word (fun q i hb=>?_) h;obtain⟨rfl,rfl⟩:=hb;exact⟨[],sM,rfl,.nil sM,rfl⟩
 |cons l r ih =>
  intro hr q i h;refine cl_word (fun q i hb=>?_) h;obtain⟨m,j,h1,h2,rfl⟩:=hb;obtain⟨v,c,d,f,g⟩:=ih (fun x a=>hr x (eE _ a)) m j h1;obtain⟨k,b⟩:=hr l sM;refine⟨v++[l],fun x a=>?_,by rw [gW,d,eP b,List.reverse_cons];rfl,.snoc f h2,by rw [zaP,g]⟩;rcases List.mem_append.1 a with a|a
  ·exact c x a
  ·obtain rfl:=List.mem_singleton.1 a;exact⟨k,.inr b⟩
theorem word_prR:∀ (n:Nat) (v:List Nat),v.length=n->(∀ l∈v,l<6∧(s.al.toNat.testBit l=true∨A.testBit l=true))->∀ q,zbi (cho s) [0] v q->prR s p A (v.filter fun l=>A.testBit l).reverse q (zaK p 0 v):=by
 intro n
 induction n with
 |zero =>
  intro v hl _ q h;obtain rfl:=dP hl;have c:=h.ah;simp only [List.mem_singleton] at c;exact .base ⟨c,rfl⟩
 |succ n ih =>
  intro v hl hv q h;rcases zac v with rfl|⟨w,l,rfl⟩
  ·simp at hl
  obtain⟨m,h1,h2⟩:=h.inv;have d:=ih w (by simpa using hl) (fun a ha=>hv a (by simp [ha])) m h1;obtain⟨f,i⟩:=hv l sM;rw [zaP,gW];cases hA:A.testBit l
  ·rw [fF (by rw [hA];decide),List.filter_nil,gF];have b:s.al.toNat.testBit l=true:=by
    rcases i with h|h
    ·exact h
    ·rw [hA] at h;cases h
   have g:∀ (r:List Nat) {q' i'},prR s p A r m i'->q'∈cho s m l->prR s p A r q' (aGo p i' l):=by
    intro r q' i' hp hq;cases r with
    |nil=>exact .hid hp ⟨f,b,hA⟩ hq
    |cons a r=>exact .hid hp ⟨f,b,hA⟩ hq
   exact g _ d h2
  ·rw [eP hA,List.filter_nil,List.reverse_append];exact .base ⟨m,_,d,h2,rfl⟩
theorem bad_iff {w:List Nat}(hw:∀ l∈w,l<6∧A.testBit l=true):Bad s p A w↔∃ v,(∀ l∈v,l<6∧(s.al.toNat.testBit l=true∨A.testBit l=true))∧v.filter (fun l=>A.testBit l)=w∧ziQ s v∧zaC p (zaK p 0 v)=false:=by
 constructor
 ·rintro ⟨q,i,h1,h2⟩;obtain⟨v,b,a,c,d⟩:=prR_word w.reverse (fun l hl=>hw l (List.mem_reverse.1 hl)) q i h1;rw [List.reverse_reverse] at a;exact⟨v,b,a,⟨q,c⟩,by rw [← d];exact h2⟩
 ·rintro ⟨v,h1,h2,⟨q,b⟩,a⟩;refine⟨q,_,?_,a⟩;have:=word_prR (p:=p) (A:=A) _ v rfl h1 q b;rw [h2] at this;exact this
end
theorem runs_take (h:ziQ s v) (k:Nat):ziQ s (v.take k):=by
 have a:∀ (n:Nat) (v u:List Nat),u.length=n->ziQ s (v++u)->ziQ s v:=by
  intro n
  induction n with
  |zero =>
   intro v u hl h;obtain rfl:=dP hl;rwa [gF] at h
  |succ n ih =>
   intro v u hl h;rcases zac u with rfl|⟨w,l,rfl⟩
   ·simp at hl
   obtain⟨q,b⟩:=h;rw [← List.append_assoc] at b;obtain⟨m,h1,-⟩:=b.inv;exact ih v w (by simpa using hl) ⟨m,h1⟩
 refine a _ (v.take k) (v.drop k) rfl ?_;rwa [List.take_append_drop]
theorem take_filter (f:Nat->Bool):∀ (u:List Nat) (k:Nat),k<=(u.filter f).length->∃ j,(u.take j).filter f=(u.filter f).take k:=by
 intro u
 induction u with
 |nil=>intro k _;exact⟨0,sM⟩
 |cons a r ih =>
  intro k hk;cases ha:f a
  ·rw [fF (by rw [ha];decide)] at hk ⊢;obtain⟨j,b⟩:=ih k hk;exact⟨j+1,by rw [List.take_succ_cons,fF (by rw [ha];decide)];exact b⟩
  ·rw [eP ha] at hk ⊢;cases k with
   |zero=>exact⟨0,sM⟩
   |succ k =>
    obtain⟨j,b⟩:=ih k (by simpa using hk);exact⟨j+1,by rw [List.take_succ_cons,eP ha,b,List.take_succ_cons]⟩
theorem zjH {x:Sys} {ts:List Sys}   {u:List Nat}(hL:L=(x.al.toNat|||p.al.toNat)&&&zH ts)(hpa:zF (x :: ts)=true)(hu:Over (zH ts) u)(hr:∀ t∈ts,ziQ t u)
  (hs:¬ SafeW x p L (u.filter fun l=>L.testBit l)):zeR (x :: ts) p=false:=by
 have b:∀ l,L.testBit l=true↔(x.al.toNat.testBit l=true∨p.al.toNat.testBit l=true)∧(zH ts).testBit l=true:=by
  intro l;rw [hL,fN,Nat.testBit_or];simp
 obtain⟨k,o,i⟩:∃ k,k<=(u.filter fun l=>L.testBit l).length∧Bad x p L ((u.filter fun l=>L.testBit l).take k):=by
  apply Classical.byContradiction;intro hn;exact hs (fun k o hb=>hn ⟨k,o,hb⟩)
 obtain⟨j,F⟩:=take_filter (fun l=>L.testBit l) u k o;rw [← F] at i;have c:Over (zH ts) (u.take j):=fun l hl=>hu l (List.mem_of_mem_take hl);have r:∀ t∈ts,ziQ t (u.take j):=fun t d=>runs_take (hr t d) j;generalize u.take j=u at *;obtain⟨v,h1,h2,D,E⟩:=(bad_iff (fun l hl=>by
  obtain⟨g,a⟩:=List.mem_filter.1 hl;exact⟨(c l g).1,a⟩)).1 i
 obtain⟨z,s,G,y⟩:=shuffle (fun l=>x.al.toNat.testBit l || L.testBit l) (fun l=>(zH ts).testBit l) _ v u (dD _) (fun l hl=>by
   rcases (h1 l hl).2 with h|h<;>simp [h]) (fun l hl=>(c l hl).2) (by
  have B:v.filter (fun l=>(zH ts).testBit l)=v.filter (fun l=>L.testBit l):=by
   refine List.filter_congr fun l hl=>?_;rw [gS,b];refine⟨fun h=>?_,fun h=>h.2⟩;rcases (h1 l hl).2 with g|g
   ·exact⟨.inl g,h⟩
   ·exact (b l).1 g
  have C:u.filter (fun l=>x.al.toNat.testBit l || L.testBit l)=u.filter (fun l=>L.testBit l):=by
   refine List.filter_congr fun l hl=>?_;rw [gS,fW];refine⟨fun h=>?_,.inr⟩;rcases h with h|h
   ·exact (b l).2 ⟨.inl h,(c l hl).2⟩
   ·exact h
  rw [B,C,h2])
 have q:Over (zH (x :: ts)) z:=by
  intro l hl;rw [zfW];rcases y l hl with h|h
  ·obtain⟨g,a⟩:=h1 l h;refine⟨g,?_⟩;rcases a with a|a
   ·exact⟨x,sM,a⟩
   ·obtain⟨t,d,n⟩:=(zfW ts l).1 ((b l).1 a).2;exact⟨t,eE _ d,n⟩
  ·obtain⟨g,a⟩:=c l h;obtain⟨t,d,n⟩:=(zfW ts l).1 a;exact⟨g,t,eE _ d,n⟩
 rw [eR];intro hkp;have m:=(keepsP_iff.1 hkp).2 z q (fun t d=>by
  rcases List.mem_cons.1 d with rfl|d
  ·refine (zfi (f:=fun l=>t.al.toNat.testBit l || L.testBit l) (fun l _ hb=>by simp [hb])).1 ?_;rw [s];exact D
  ·refine (zfi (f:=fun l=>(zH ts).testBit l) (fun l _ hb=>(zfW ts l).2 ⟨t,d,hb⟩)).1 ?_;rw [G];exact r t d)
 have e:zaK p 0 z=zaK p 0 v:=by
  rw [← s];refine (zia fun l hl hb=>?_).symm;rcases y l hl with h|h
  ·rcases (h1 l h).2 with a|a<;>simp [a]
  ·have:=(b l).2 ⟨.inr hb,(c l h).2⟩;simp [this]
 rw [e,E] at m;cases m
theorem Frm.grownG {T:Nat->Prop}  {row:Option Nat}(h:Frm T w W)(hg:W.grownBy W' row)(hr:∀ k,row=some k->w.heap.size<=k):Frm T w W':=
 ⟨hg.os.trans h.os,hg.tape.trans h.tape,hg.output.trans h.output,dK h.size hg.size,fun k hk hn=>(hg.block k (Nat.lt_of_lt_of_le hk h.size) (fun e=>by have:=hr k e.symm;omega)).trans (h.block k hk hn)⟩
structure Gr2 (w0 W:World) (G:Nat) (al st:Int) (v:Value) (es:List Edg):Prop where
 blk:Blk W G 38 #[al,st,v]
 own:W.ownsRow w0.heap.size 117 3 v es.length (zr es)
 fr:Frm (fun k=>k=G) w0 W
 hG:G<w0.heap.size
theorem Gr2.ar {v:Value} (h:Gr2 w0 W G al st v es)(hb:Ext W W'):Gr2 w0 W' G al st v es:=⟨h.blk.ext hb,zi h.own hb,h.fr.ext hb,h.hG⟩
theorem Gr2.push {v:Value}  {cap:Nat} {e:Edg}(h:Gr2 w0 W G al st v es) (zjL:W'.ownsRow w0.heap.size 117 3 (.slice (some g) (es.length+1) cap) (es.length+1) (zr es++[.int .i64 e.fr,.int .i64 e.le,.int .i64 e.ta]))
  (hg:W.grownBy W' v.ownBlock) :
  Hid (W'.cell? ⟨G,2,none⟩=some v)∧W'.frozen? ⟨G,2,none⟩=false∧Gr2 w0 (W'.setCell ⟨G,2,none⟩ (.slice (some g) (es.length+1) cap)) G al st (.slice (some g) (es.length+1) cap) (es++[e]):=by
 have a:Blk W' G 38 #[.int .i64 al,.int .i64 st,v]:=(hg.block G h.blk.lt (fun e=>by have:=(h.own.lt G e.symm).1;have:=h.hG;omega)).trans h.blk;have f:=(zjL.lt g rfl).1;have c:=h.hG;have d:Frm (fun k=>k=G) w0 W':=h.fr.grownG hg (fun k hk=>(h.own.lt k hk).1);refine⟨a.cell 2,a.frozen 2,⟨by simpa using a.ae 2 _,?_,d.cell rfl _,c⟩⟩;have:=zf zjL (dF W' G 2 (.slice (some g) (es.length+1) cap)) (fun b hv hS=>by
  have:g=b:=by simpa [Value.ownBlock] using hv
  omega)
 rw [zbE];simpa [zr] using this
theorem spec_l2Rank {p:Nat} (hp:p<=16)(hk:k<=p) :
  Calls Tryz.prog 297 #[.int .i64 (2 ^ p - 1:Nat),k] w fun e w'=>e=.returned (.int .i64 (k:Nat))∧w=w':=by
 have f:2 ^ p - 1<65536:=by have:=dY (show 1<=2 by omega) hp;have:(2:Nat) ^ 16=65536:=rfl;omega
 have c:=za (fun i (a:i<p)=>show (2 ^ p - 1).testBit i=true by rw [jM];simpa using a);generalize 2 ^ p - 1=F at *
 go_enter Tryz.func297,Tryz.ntmps297
 go_wp2_with fail
 go_loop [5,6] (fun v iv=>∃ i:Nat,iv=.int .i64 i∧i<=k∧v=.int .i64 i) (fun _ iv=>k - (intOf iv).toNat)
 case atStart=>exact⟨0,rfl,dG _,rfl⟩
 case round =>
  obtain⟨i,rfl,a,rfl⟩:=hrel
  by_cases hlt:i<k
  ·have b:(i:Int)<(k:Int):=oM;have d:=za (c.out i oM);go_wp2_with (go_at_call 143;refine (zas F i tM _ oM).mono ?_;rw [d.out];rintro e w' ⟨rfl,rfl⟩)
   go_round
   case rel=>exact⟨i+1,gM,oM,gM⟩
   case measure=>simp [intOf];omega
  ·obtain rfl:i=k:=oM;go_wp2_with fail
   go_ret;exact⟨rfl,rfl⟩
section
variable {w W:World} {lo hi n c m d m' d':Nat} {A B B':Option Addr} {s:Sys} {p:Aut}
theorem yV13a2 {P:Prop}(h:P:=by
 refine zb fun K hK=>?_;go_simp;refine hK.out _ _ ?_;refine zg ?_;go_wp2_with fail
 go_meet;obtain⟨w1,h1,h2⟩:=Hfin.out;exact⟨w1,rfl,h1,h2⟩
 ):P:=h
theorem spec_l2Keep {P:Nat}(h:zT w lo hi A n s)(hv:zk s=true)(hP:s.st=(P:Int))(hn:n<=1000000)(hhi:hi<=w.heap.size) :
  Calls Tryz.prog 269 #[.agg #[s.al,s.st,.slice A n c],.int .i64 (2 ^ P - 1:Nat)] w (RetSys w s):=by
 have ap:=zbv hv;obtain⟨an,ao,I,-⟩:=ap;have D:P<=16:=oM;have M:s.st.toNat=P:=oM;rw [M] at I;have Hf:=za I;have HS:=za (fun W (hW:Ext w W)=>h.ext hW);have Z:=za h.1;have ad:=za hP;have hF:2 ^ P - 1<65536:=by have:=dY (show 1<=2 by omega) D;have:(2:Nat) ^ 16=65536:=rfl;omega
 have G:=za (fun k W (Y:k<=P)=>spec_l2Rank (w:=W) D Y);have HB:=za (fun i (hi:i<P)=>show (2 ^ P - 1).testBit i=true by rw [jM];simpa using hi);rw [hP];generalize 2 ^ P - 1=F at *;clear h hv hP an ao I M
 go_enter Tryz.func269,Tryz.ntmps269
 go_upto_region 1 with fail
 generalize U0:(w.alloc _).alloc _=l at *;obtain⟨t,b1,b2⟩:=Ext.x2_ U0;clear U0;have CB:=b1.cells;have B:=cY l;have aS:=b2.lt;have O:=za (fun W=>G.out P W (dD _));have j:=B.drew;have ar:=(cY l.drew).alloc (.cells #[(0:Int),(0:Int),()] 38);have bG:=dZ l.drew 38 #[(0:Int),(0:Int),()]
 go_cut [5] (fun v wx=>∃ w1,v=.pointer (some l.heap.size)∧Ext l w1∧Gr2 w1 wx l.heap.size s.al (P:Nat) (.slice none 0 0) [])
 case first =>
  have U:∃ w1,Ext l w1∧Gr2 w1 (l.alloc (.cells #[s.al,.int .i64 (P:Nat),()] 38)).drew l.heap.size s.al (P:Nat) (.slice none 0 0) []:=
   ⟨(l.alloc (.cells #[s.al,.int .i64 (P:Nat),()] 38)).drew,((cY _).alloc _).drew,dZ l _ _,World.ownsRow_nil _ _ _ _,Frm.refl _ _,sM⟩
  have Hfin:=za U;have cG:=bG.cell;have fG:=bG.frozen;rw [show l.drew.heap.size=l.heap.size from rfl] at cG fG;clear U;refine uR (fun X=>Ext l X) [8] (zy.app [0,1,2,3,4] (zy.two 5 (zy.of [6,7,8]) 7 (zy.of [5,6,8]))) ?_;refine uQ ?_;refine zm (fun K hK=>?_) (fun K hK=>?_)
  ·go_simp;refine (O.out _).mono ?_;rintro e T ⟨rfl,rfl⟩;refine hK.out _ _ j ?_;refine pT ?_;refine uQ ?_;refine ze fun K hK=>?_;go_simp;refine hK.out _ _ (j.alloc _) ?_;refine pT ?_;exact yV13a2
  ·go_simp;refine hK.out _ _ (j.alloc _) ?_;refine pT ?_;refine ze fun K hK=>?_;go_simp;refine (O.out _).mono ?_;rintro e T ⟨rfl,rfl⟩;refine hK.out _ _ (j.alloc _) ?_;refine pT ?_;refine uQ ?_;exact yV13a2
 case rest =>
  obtain⟨w1,rfl,f,a⟩:=hcut;have ae:=za (fun W (hW:Ext w1 W)=>HS.out W (t.trans (f.trans hW)));have ab:∀ W,Frm (fun k=>k=l.heap.size) w1 W->∀ q,W.cell? ⟨w.heap.size,q,none⟩=#[Value.int .i64 s.al,.int .i64 (P:Nat),.slice A n c][q]?:=fun W hW=>((b1.ext f).frm hW oM).cell;have aC:=f.size;clear ar bG j CB B;go_wp2_with fail
  go_loopw [6] (fun iv wr=>∃ (k:Nat) (v:Value),iv=.int .i64 k∧k<=n∧Gr2 w1 wr l.heap.size s.al (P:Nat) v (s.edges.take k)) (fun iv _=>n - (intOf iv).toNat)
  case atStart=>exact⟨0,_,rfl,dG _,a⟩
  case round =>
   clear a;obtain⟨k,v,rfl,Y,a⟩:=hrel;have k1:=ab wr a.fr
   by_cases hlt:k<n
   ·have aB:(k:Int)<(n:Int):=oM;have ak:=(ae.out w1 (cY _)).frm a.fr (fun k h1 h2 e=>oH t.size);obtain⟨g,o,x,rfl,aA,az,hx,c0,H,c2⟩:=ak.2.az hlt;obtain⟨⟨f0,f1⟩,⟨l0,l1⟩,t0,t1⟩:=Hf.out x (dB hx.out);obtain⟨p,y⟩:∃ p:Nat,Hid (x.fr=p):=⟨x.fr.toNat,by unfold Hid;omega⟩;obtain⟨d,z⟩:∃ d:Nat,Hid (x.ta=d):=⟨x.ta.toNat,by unfold Hid;omega⟩;have Q:p<P:=oH y.out;have S:d<P:=oH z.out;rw [y.out] at c0;rw [z.out] at c2;have ai:=za (fun W=>G.out p W oM);have aj:=za (fun W=>G.out d W oM);have ag:=za (HB.out p Q);have ah:=za (HB.out d S);have au:=(cY wr).alloc (.cells #[p,x.le,d] 117);have be:=dZ wr 117 #[p,x.le,d];have E:=a.ar au;have aT:=za a.fr.size;have aU:=za (show zr (s.edges.take (k+1))=zr (s.edges.take k)++[.int .i64 p,.int .i64 x.le,.int .i64 d] by
     rw [dN,hx.out,eF,zbE,← y.out,← z.out];rfl)
    have r:=za (show (s.edges.take k).length=k by rw [List.length_take];have:=Z.out;omega);clear f0 f1 t0 t1 a;go_upto_region 6 with fail
    generalize hge:wr.heap.size=ge at *;have aG:=za hge;clear hge;generalize wr.alloc _=w2 at *;have ce:=be.cell;go_wp2_with (first
     |(go_at_call 143;with_reducible refine (zas F p tM _ oM).mono ?_;rw [ag.out];rintro e T ⟨rfl,rfl⟩)
     |(go_at_call 143;with_reducible refine (zas F d tM _ oM).mono ?_;rw [ah.out];rintro e T ⟨rfl,rfl⟩))
    have CE:=be.cells;have CG:=fun W (hW:Ext w2 W)=>(E.blk.ext hW).cell;have B:=cY w2;clear ce;refine uR (fun X=>Ext w2 X) [14,16] (zy.of [0,1,2,3,4,6,7,8,9,10,5,11,12,13,14,15,16]) ?_;refine uQ ?_;have C:=B.drew;refine ze fun K hK=>?_;go_simp;refine (ai.out _).mono ?_;rintro e T ⟨rfl,rfl⟩;refine hK.out _ _ C ?_;refine pT ?_;refine uQ ?_;refine ze fun K hK=>?_;go_simp;refine (aj.out _).mono ?_;rintro e T ⟨rfl,rfl⟩;refine hK.out _ _ C ?_;refine pT ?_;refine uQ ?_;refine ze fun K hK=>?_;go_simp;refine hK.out _ _ (C.alloc _) ?_;refine pT ?_;refine zb fun K hK=>?_;have m:=E.ar C;have J:=m.own;rw [r.out] at J;refine zax w1 w2.drew _ _ _ rfl 117 _ 3 24 Tryz.underlying36 zaV rfl dM v k (zr (s.edges.take k)) _ _ rfl rfl m.fr.size J rfl (by simp [Value.oneCell']) lM oM ?_;intro g8 cap8 w8 hown8 hg8 hat8 hlt8;refine hK.out _ _ ?_;refine pT ?_;refine uQ ?_;obtain⟨p1,p2,p3⟩:=m.push (e:=⟨p,x.le,d⟩) (W':=w8) (by rw [r.out];exact hown8) hg8;have aV:=p1.out;have am:=za (show s.edges.take k++[⟨p,x.le,d⟩]=s.edges.take (k+1) by
     rw [dN,hx.out,eF,← y.out,← z.out])
    rw [am.out,r.out] at p3;refine zb fun K hK=>?_;go_simp;refine hK.out _ _ ?_;refine zg ?_;clear hown8 hg8 hat8 J p1 m;generalize w8.setCell ⟨l.heap.size,2,none⟩ (.slice (some g8) (k+1) cap8)=aY at *;go_wp2_with fail
    go_roundw
    case rel=>exact⟨k+1,_,gM,oM,p3⟩
    case measure=>simp [intOf];omega
   ·obtain rfl:k=n:=oM;rw [dJ (oH Z.out)] at a;have u:=a.own;rw [← Z.out] at u;obtain⟨L,H,rfl⟩:=zh u;have V:=(b2.ext f).frm a.fr oM;have kz:=V.cell;have fz:=V.frozen;have kG:=a.blk.cell;have I:=zU wr (w.heap.size+1) (.int .i64 s.al) (.int .i64 (P:Nat)) (.slice L k H);have cf:=(zal V rfl (.int .i64 s.al) (.int .i64 (P:Nat)) (.slice L k H)).cell;have hxw:Ext w wr:=(t.trans f).frm a.fr (fun k Y e=>oH t.size);have R:=za (show RetSys w s (.returned (.agg #[s.al,.int .i64 (P:Nat),.slice L k H])) (((wr.setCell ⟨w.heap.size+1,0,none⟩ s.al).setCell ⟨w.heap.size+1,1,none⟩ (.int .i64 (P:Nat))).setCell ⟨w.heap.size+1,2,none⟩ (.slice L k H)) from
     ⟨L,k,H,by rw [ad.out],⟨Z.out,zn (zf u I (fun b hv e=>zq u V dM hv e)) (t.trans f).size⟩,hxw.frm I (fun k Y e=>oM)⟩)
    clear I u;go_wp2_with fail
    exact bodyPost_ret (v:=.agg #[s.al,.int .i64 (P:Nat),.slice L k H]) (by simp [results,Tryz.results269,go_sem,cf]) rfl R.out
end
theorem tot_le6:∀ ls:List (List Int),(∀ l∈ls,l.length<=6)->tot ls<=ls.length*6
 |[],_=>by simp [tot]
 |l :: r,h=>by
  have:=tot_le6 r (fun x hx=>h x (by simp [hx]))
  have:=h l sM
  rw [show tot (l :: r)=l.length+tot r by simp [tot],fM,Nat.add_mul]
  omega
theorem zdP (h:zj a=true):a.size<=1048576:=by
 obtain⟨_,⟨_,h1⟩,h2,b⟩:=zl h;have f:=tot_le6 a.next (fun l hl=>by
  obtain⟨q,d⟩:=List.getElem?_of_mem hl;obtain⟨c,_⟩:=b q l d;rw [c];exact zA _ _)
 unfold Aut.size;omega
def ziO (w:World) (s:Sys) (p:Aut) (L:Nat) (e:Ending) (w':World):Prop:=
 ∃ (A:Option Addr) (n c:Nat) (B:Option Addr) (m d:Nat) (B':Option Addr) (m' d':Nat),e=.returned (.tuple #[.agg #[s.al,s.st,.slice A n c,p.al,.slice B m d,.slice B' m' d',L],.bool true])∧Tch w' A n B m B' m' s p L∧Ext w w'
section
variable {w:World} {lo hi n c lo1 hi1 m d m' d' lo2 hi2 k c2:Nat} {A B B' C:Option Addr} {s t:Sys} {p:Aut}
theorem spec_TaskOf (hs:zT w lo hi A n s)(hp:zO w lo1 hi1 B m B' m' p)(ht:zT w lo2 hi2 C k t)(hif:iface s p t=(L:Int))(hn:n<=1000000)(hhi:hi<=w.heap.size) :
  Calls Tryz.prog 202 #[.agg #[s.al,s.st,.slice A n c],.agg #[p.al,.slice B m d,.slice B' m' d'],.agg #[t.al,t.st,.slice C k c2]] w (ziO w s p L):=by
 obtain⟨I,vp,vt⟩:=zca (show 0<=iface s p t by omega);have hL:L<64:=by
  rw [zfC I vp vt] at hif;have h1:=zW vt;have h2:((s.al.toNat|||p.al.toNat)&&&t.al.toNat)<=t.al.toNat:=Nat.and_le_right;omega
 have D:=za (fun W (hW:Ext w W)=>zee (c:=c) (d1:=d) (d1':=d') (c2:=c2) (hs.ext hW) (hp.ext hW) (ht.ext hW));rw [hif] at D;obtain⟨P,Z⟩:∃ P:Nat,s.st=(P:Int):=⟨s.st.toNat,by have:=(zbv I).1;omega⟩;have O:P<=16:=by have:=(zbv I).2.1;omega
 have HK:=za (fun W (hW:Ext w W)=>spec_l2Keep (c:=c) (hs.ext hW) I Z hn (dK hhi hW.size));have HC:=za (fun W (hW:Ext w W)=>zea (c:=d) (c':=d') (hp.ext hW) (zdP vp));have hF:1<=2 ^ P∧2 ^ P<=65536:=⟨Nat.one_le_two_pow,by have:=dY (show 1<=2 by omega) O;have h2:(2:Nat) ^ 16=65536:=rfl;omega⟩;have J:=za (fun W=>zgi P oM W);have M:=za Z;have hV:=za (And.intro I (And.intro vp hL));rw [Z] at D HK ⊢;generalize hFe:2 ^ P=F at *;have an:IntKind.i64.wrap ((F:Int) - 1)=((F - 1:Nat):Int):=by rw [IntWalk.i64_in _ oM];omega
 clear hFe hs hp ht hif I vp vt Z;obtain⟨V,U0⟩:∃ x,Hid ((((w.alloc (.cells #[s.al,.int .i64 (P:Nat),.slice A n c] 38)).alloc (.cells #[p.al,.slice B m d,.slice B' m' d'] 27)).alloc (.cells #[t.al,t.st,.slice C k c2] 38)).alloc (.cells #[(0:Int),(0:Int),(),(0:Int),(),(),(0:Int)] 70)=x):=⟨_,za rfl⟩;have G:Ext w V:=(((((cY _).alloc _).alloc _).alloc _).alloc _).trans (e9 U0.out);obtain⟨b1,b2,b3⟩:=zL (((cY _).alloc _).trans (e9 U0.out));have b4:=eC U0.out;simp only [World.size_alloc] at b4
 go_enter Tryz.func202,Tryz.ntmps202
 go_upto_region 1 with fail
 rw [U0.out] at *;have CS:=b1.cells;have CP:=b2.cells;have CT:=b3.cells;have af:=cY V;go_upto_region 4 with (first
  |(go_at_call 95;refine (D.out _ G).mono (mQ fun w1 a=>?_)))
 have H:=G.trans a;have aq:=fun W (hW:Ext w1 W)=>CS W (a.trans hW);have ap:=fun W (hW:Ext w1 W)=>CP W (a.trans hW);have ae:=cY w1;clear CS CP CT af;refine uR (fun X=>Ext w1 X) [10] (zy.of [0,1,2,6,8,3,4,5,7,9,10,11]) ?_;refine uQ ?_;have q:=ae.drew;refine ze fun K hK=>?_;go_simp;refine (J.out _).mono ?_;rintro e w' ⟨rfl,rfl⟩;refine hK.out _ _ q ?_;refine pT ?_;refine uQ ?_;refine ze fun K hK=>?_;go_simp;refine (HK.out _ (H.trans q)).mono ?_;rintro e w2 ⟨j,l,u,rfl,R,ag⟩;rw [M.out];have g:=q.trans ag;refine hK.out _ _ g ?_;refine pT ?_;refine uQ ?_;refine ze fun K hK=>?_;go_simp;refine (HC.out _ (H.trans g)).mono ?_;rintro e h ⟨o,r,d1,b,f,d1',rfl,S,U⟩;have i:=g.trans U;refine hK.out _ _ i ?_;refine pT ?_;refine uQ ?_;have hxw:=H.trans i;have Y:=b4.ext (a.trans i);have kz:=Y.cell;have fz:=Y.frozen;have E:=R.ext U;have aB:=b4.lt;have z:zT h V.heap.size h.heap.size j l s:=(show zT h _ h.heap.size j l s from ⟨E.1,eD E.2⟩).more (a.trans q).size (dD _);have y:zO h V.heap.size h.heap.size o r b f p:=S.reads.more (a.trans g).size (dD _);have ao:=G.size;have Q:Frm (fun k=>k=w.heap.size+1+1+1) h (((((((h.setCell ⟨w.heap.size+1+1+1,0,none⟩ s.al).setCell ⟨w.heap.size+1+1+1,1,none⟩ (.int .i64 (P:Nat))).setCell ⟨w.heap.size+1+1+1,2,none⟩ (.slice j l u)).setCell ⟨w.heap.size+1+1+1,3,none⟩ p.al).setCell ⟨w.heap.size+1+1+1,4,none⟩ (.slice o r d1)).setCell ⟨w.heap.size+1+1+1,5,none⟩ (.slice b f d1')).setCell ⟨w.heap.size+1+1+1,6,none⟩ (.int .i64 (L:Nat))):=
  ((((((dF h _ 0 _).trans (dF _ _ 1 _)).trans (dF _ _ 2 _)).trans (dF _ _ 3 _)).trans (dF _ _ 4 _)).trans (dF _ _ 5 _)).trans (dF _ _ 6 _)
 have bW:Blk (((((((h.setCell ⟨w.heap.size+1+1+1,0,none⟩ s.al).setCell ⟨w.heap.size+1+1+1,1,none⟩ (.int .i64 (P:Nat))).setCell ⟨w.heap.size+1+1+1,2,none⟩ (.slice j l u)).setCell ⟨w.heap.size+1+1+1,3,none⟩ p.al).setCell ⟨w.heap.size+1+1+1,4,none⟩ (.slice o r d1)).setCell ⟨w.heap.size+1+1+1,5,none⟩ (.slice b f d1')).setCell ⟨w.heap.size+1+1+1,6,none⟩ (.int .i64 (L:Nat))) (w.heap.size+1+1+1) 70 #[.int .i64 s.al,.int .i64 (P:Nat),.slice j l u,.int .i64 p.al,.slice o r d1,.slice b f d1',.int .i64 (L:Nat)]:=by
  simpa using ((((((Y.ae 0 (.int .i64 s.al)).ae 1 (.int .i64 (P:Nat))).ae 2 (.slice j l u)).ae 3 (.int .i64 p.al)).ae 4 (.slice o r d1)).ae 5 (.slice b f d1')).ae 6 (.int .i64 (L:Nat))
 refine zb fun K hK=>?_;go_simp;generalize (((((((h.setCell ⟨w.heap.size+1+1+1,0,none⟩ s.al).setCell ⟨w.heap.size+1+1+1,1,none⟩ (.int .i64 (P:Nat))).setCell ⟨w.heap.size+1+1+1,2,none⟩ (.slice j l u)).setCell ⟨w.heap.size+1+1+1,3,none⟩ p.al).setCell ⟨w.heap.size+1+1+1,4,none⟩ (.slice o r d1)).setCell ⟨w.heap.size+1+1+1,5,none⟩ (.slice b f d1')).setCell ⟨w.heap.size+1+1+1,6,none⟩ (.int .i64 (L:Nat)))=W at *;have T:=za (show ziO w s p L (.returned (.tuple #[.agg #[s.al,.int .i64 (P:Nat),.slice j l u,p.al,.slice o r d1,.slice b f d1',.int .i64 (L:Nat)],.bool true])) W from
  ⟨j,l,u,o,r,d1,b,f,d1',by rw [M.out],⟨⟨V.heap.size,h.heap.size,z.frm Q (fun k h1 h2 e=>oM),y.frm Q (fun k h1 h2 e=>oM),Q.size⟩,hV.out.1,hV.out.2.1,hV.out.2.2⟩,hxw.frm Q (fun k hk e=>oM)⟩)
 have cf:=bW.cell;clear Q bW z y kz fz Y E R S hxw;refine hK.out _ _ ?_;clear hK;refine pT ?_;refine uQ ?_;refine zg ?_;go_wp2_with fail
 exact bodyPost_ret (v:=.tuple #[.agg #[s.al,.int .i64 (P:Nat),.slice j l u,p.al,.slice o r d1,.slice b f d1',.int .i64 (L:Nat)],.bool true]) (by simp [results,Tryz.results202,go_sem,cf]) rfl T.out
end
section
variable {d:Nat->Nat->List Nat} {start L:List Nat} {goal:Nat->Bool} {N:Nat}
theorem zeS (h:¬ Lost d start goal L):∃ v,Found d start goal L v:=by
 have h1:∃ v,(∀ l∈v,l∈L)∧∃ x,zbi d start v x∧goal x=true:=by
  apply Classical.byContradiction;intro hn;apply h;intro v b x c;cases hg:goal x with
  |false=>rfl
  |true=>exact absurd ⟨v,b,x,c,hg⟩ hn
 have i:∀ n v,zcB v=n->(∀ l∈v,l∈L)->(∃ x,zbi d start v x∧goal x=true)->∃ v,Found d start goal L v:=by
  intro n
  induction n using jY with
  |ind n ih =>
   intro v hn b c
   by_cases hm:∃ u,(∀ l∈u,l∈L)∧zcB u<zcB v∧∃ x,zbi d start u x∧goal x=true
   ·obtain⟨u,f,a,g⟩:=hm;exact ih (zcB u) oM u rfl f g
   ·refine⟨v,b,c,fun u f a x hgx=>?_⟩;cases hg:goal x with
    |false=>rfl
    |true=>exact absurd ⟨u,f,a,x,hgx,hg⟩ hm
 obtain⟨v,b,c⟩:=h1;exact i _ v rfl b c
theorem found_len (h:Found d [0] goal L v)(h6:∀ l∈L,l<6)(hN:0<N)(hd:∀ x l,x<N->l∈L->∀ y∈d x l,y<N):v.length<N:=by
 obtain⟨r,⟨x,E,t⟩,b⟩:=h;obtain⟨G,s,i⟩:=zbi.dn (L:=L) (v:=[]) (u:=v) (goal:=goal) (by simpa using E) t r;have p:G=0:=by have:=s.ah;simpa using this
 subst p;have j:∃ n,Mn d L goal n 0∧n<=v.length:=by
  have q:∀ n,Dn d L goal n 0->∃ m,Mn d L goal m 0∧m<=n:=by
   intro n
   induction n using jY with
   |ind n ih =>
    intro g
    by_cases f:∃ m,m<n∧Dn d L goal m 0
    ·obtain⟨m,a,f⟩:=f;obtain⟨k,h1,h2⟩:=ih m a f;exact⟨k,h1,oM⟩
    ·exact⟨n,⟨g,fun m a hm'=>f ⟨m,a,hm'⟩⟩,dD _⟩
  exact q _ i
 obtain⟨n,g,-⟩:=j;have C:=g.lt hN hd;obtain⟨u,D,c,y,F,o⟩:=Dn.word (v:=[]) (start:=[0]) g.1 (.nil sM);rcases Nat.lt_or_ge n v.length with B|z
 ·have:=b u c (zhO (fun l hl=>h6 l (r l hl)) (fun l hl=>h6 l (c l hl)) oM) y (by simpa using F);rw [o] at this;cases this
 ·omega
theorem firstW_ok (h6:∀ l∈L,l<6)(hN:0<N)(hd:∀ x l,x<N->l∈L->∀ y∈d x l,y<N):(∀ l∈zgo d [0] goal L,l<6)∧(zgo d [0] goal L).length<N:=by
 by_cases h:Lost d [0] goal L
 ·rw [(zgd h).1];exact⟨sM,by simpa using hN⟩
 ·obtain⟨v,a⟩:=zeS h;rw [(zfc h6 a).1];exact⟨fun l hl=>h6 l (a.1 l hl),found_len a h6 hN hd⟩
end
theorem wstr_word (h6:∀ l∈v,l<6)(hl:v.length<=50000):zbe (wstr v)=true:=by
 unfold zbe;simp only [dI,decide_eq_true_eq];refine⟨by rw [zhN];exact hl,?_⟩;rw [eJ];intro b hb;unfold wstr lbs at hb;rw [strOfNums_data,List.map_map] at hb;obtain⟨l,hl,rfl⟩:=List.mem_map.1 hb;have a:=h6 l hl;have c:∀ l,l<6->zeo (UInt8.ofNat (97+l))=true:=dM;have e:((fun n:Int=>UInt8.ofNat n.toNat) ∘ fun l:Nat=>((97+l:Nat):Int)) l=UInt8.ofNat (97+l):=by
  show UInt8.ofNat (((97+l:Nat):Int)).toNat=_;rw [eO]
 first
  |(rw [e];exact c l a)
  |(have:=c l a;simpa using this)
theorem vioW_word (hss:∀ s∈ss,zk s=true)(ha:zj a=true)(hp:zj p=true)(hN:zG (zbf ss [a,p])<=50000):zbe (vioW ss a p)=true∧(vioW ss a p).size<zG (zbf ss [a,p]):=by
 have b:∀ m∈zbf ss [a,p],zeh m:=by
  intro m b;unfold zbf at b;rcases List.mem_append.1 b with h|h
  ·obtain⟨s,c,rfl⟩:=List.mem_map.1 h;exact zes (zbv (hss s c))
  ·simp at h;rcases h with rfl|rfl
   ·exact zbw ha
   ·exact zbw hp
 obtain⟨h1,h2⟩:=firstW_ok (d:=zbZ ss a p) (goal:=zbM a p) (L:=letters (zH ss|||a.al.toNat) 6) (N:=zG (zbf ss [a,p])) (fun l hl=>(zC.1 hl).1) (zfO b) (fun x l _ hl y hy=>by
  rw [zcZ] at hy;exact ziE b (zC.1 hl).1 y hy)
 unfold vioW;exact⟨wstr_word h1 oM,by rw [zhN];exact h2⟩
theorem prod_le (hss:∀ s∈ss,zk s=true):zG (zbf ss [a,p])<=16 ^ ss.length*(a.next.length*p.next.length):=by
 induction ss with
 |nil=>simp [zbf,zG,zaw,zbu]
 |cons s r ih =>
  have h1:=ih (fun s hs=>hss s (eE _ hs));have h2:s.st.toNat<=16:=by have:=(zbv (hss s gX)).2.1;omega
  show zG (zdM s :: zbf r [a,p])<=_;rw [zdF,fM,Nat.pow_succ]
  calc s.st.toNat*zG (zbf r [a,p])<=16*(16 ^ r.length*(a.next.length*p.next.length)):=eX h2 h1
   _=16 ^ r.length*16*(a.next.length*p.next.length):=by rw [← Nat.mul_assoc,Nat.mul_comm 16]
theorem zfn (hs:zk s=true)(ha:zj a=true)(hp:zj p=true):zbe (zbg s a p)=true∧(zbg s a p).size<=2304:=by
 have h1:=(zl ha).2.1.2;have h2:=(zl hp).2.1.2;have b:=prod_le (ss:=[s]) (a:=a) (p:=p) (by simpa using hs);have d:a.next.length*p.next.length<=12*12:=eX h1 h2;simp only [List.length_singleton,Nat.pow_one] at b;obtain⟨c,f⟩:=vioW_word (ss:=[s]) (by simpa using hs) ha hp oM;unfold zbg;rw [if_pos (by unfold zck;rw [hs,ha,hp];rfl)];exact⟨c,oM⟩
theorem zdz (hss:zF ss=true)(hp:zj p=true):zbe (zak ss p)=true∧(zak ss p).size<16 ^ ss.length*12:=by
 obtain⟨⟨h,b⟩,c⟩:=zbb hss;have h2:=(zl hp).2.1.2;have d:=prod_le (a:=free) (p:=p) c;have i:free.next.length*p.next.length<=1*12:=eX (dD _) h2;have j:zG (zbf ss [free,p])<=16 ^ ss.length*12:=dK d (Nat.mul_le_mul_left _ oM);have f:16 ^ ss.length<=16 ^ 3:=dY oM b;have k:16 ^ ss.length*12<=4096*12:=Nat.mul_le_mul_right _ f;obtain⟨g,l⟩:=vioW_word c zdB hp oM;unfold zak;rw [if_pos (by unfold zbo;rw [hss,hp];rfl)];exact⟨g,oM⟩
noncomputable def zaX (s:Sys) (p:Aut) (t:Sys) (L:Nat) (a:Aut):ByteArray × Int:=
 if zci s a p=true then (zbV (zbg s a p) L,-1)
 else if zbk [t] a=true then (zbV (zak [t] a) L,if zw s p L (zbV (zak [t] a) L)=true then -1 else 1)
 else (⟨#[]⟩,0)
section
variable {w:World} {lo hi n c lo1 hi1 m d m' d' lo2 hi2 k c2 k1 d1 k1' d1' L:Nat} {A B B' C X X':Option Addr} {s t:Sys} {p a:Aut}
theorem zfj (ht:zT w lo hi C k t)(ha:zO w lo1 hi1 X k1 X' k1' a) :
  Calls Tryz.prog 271 #[.agg #[t.al,t.st,.slice C k c2],.agg #[a.al,.slice X k1 d1,.slice X' k1' d1']] w fun e w'=>e=.returned (.tuple #[.string (zak [t] a),.bool (zbk [t] a)])∧Ext w w':=by
 have m:=za (fun W (hW:Ext w W)=>ht.ext hW);have j:=za (fun W (hW:Ext w W)=>ha.ext hW);clear ht ha
 go_enter Tryz.func271,Tryz.ntmps271
 go_upto_region 1 with fail
 generalize U0:(w.alloc _).alloc _=i at *;obtain⟨d,n,o⟩:=Ext.x2_ U0;clear U0;have s:=n.cell;have b:=(cY i).alloc (.cells #[t.al,t.st,.slice C k c2] 38);have h:=dZ i 38 #[t.al,t.st,.slice C k c2];obtain⟨r,q,f⟩:=sl_one h (m.out _ (d.trans b));have p:=(o.ext b).cell;have l:=za (zcT (c:=1) (d2:=d1) (d2':=d1') f (j.out _ (d.trans b)));clear f h;go_wp2_with fail
 refine l.out.mono (mQ fun u g=>?_);go_wp2_with fail
 go_ret2;exact⟨rfl,(d.trans b).trans g⟩
theorem zjw (h:Tch w A n B m B' m' s p L)(ht:zT w lo hi C k t)(ha:zO w lo1 hi1 X k1 X' k1' a) (vt:zk t=true) (va:zj a=true) :
  Calls Tryz.prog 203 #[.agg #[t.al,t.st,.slice C k c2],.agg #[s.al,s.st,.slice A n c,p.al,.slice B m d,.slice B' m' d',L],.agg #[a.al,.slice X k1 d1,.slice X' k1' d1']] w fun e w'=>e=.returned (.tuple #[.string (zaX s p t L a).1,.int .i64 (zaX s p t L a).2])∧Ext w w':=by
 have hL:=h.lt;have q:=za (fun W (hW:Ext w W)=>by
  obtain⟨lo,hi,h1,h2,_⟩:=h.at_;exact zfl (c:=c) (d1:=d1) (d1':=d1') (d2:=d) (d2':=d') (h1.ext hW) (ha.ext hW) (h2.ext hW))
 have HS:=za (fun W (hW:Ext w W) (y:ByteArray) hy=>by
  obtain⟨lo,hi,h1,h2,h3⟩:=h.at_;exact zfQ (c:=c) (d:=d) (d':=d') (L:=L) (t:=y) (h1.ext hW) (h2.ext hW) h.sv h.pv h.lt (dK h3 hW.size) hy)
 have v:=za (fun W (hW:Ext w W)=>zfj (c2:=c2) (d1:=d1) (d1':=d1') (ht.ext hW) (ha.ext hW));have hu:=za (zfn h.sv va h.pv);have S:=za (zdz (ss:=[t]) (p:=a) (by unfold zF;simp [vt]) va);have o:=za (show zaX s p t L a=if zci s a p=true then (zbV (zbg s a p) L,-1)
  else if zbk [t] a=true then (zbV (zak [t] a) L,if zw s p L (zbV (zak [t] a) L)=true then -1 else 1)
  else (⟨#[]⟩,0) from rfl)
 generalize zaX s p t L a=J at *;obtain⟨M,Y⟩:∃ M,Hid (zbg s a p=M):=⟨_,rfl⟩;obtain⟨H,T⟩:∃ H,Hid (zak [t] a=H):=⟨_,rfl⟩;rw [Y.out] at q hu o;rw [T.out] at v S o;have b:Ext w (((w.alloc (.cells #[t.al,t.st,.slice C k c2] 38)).alloc (.cells #[s.al,s.st,.slice A n c,p.al,.slice B m d,.slice B' m' d',L] 70)).alloc (.cells #[a.al,.slice X k1 d1,.slice X' k1' d1'] 27)):=(((cY _).alloc _).alloc _).alloc _;obtain⟨O,Q,R⟩:=zL (cY (((w.alloc (.cells #[t.al,t.st,.slice C k c2] 38)).alloc (.cells #[s.al,s.st,.slice A n c,p.al,.slice B m d,.slice B' m' d',L] 70)).alloc (.cells #[a.al,.slice X k1 d1,.slice X' k1' d1'] 27)));clear h ht ha vt va;cases hub:zci s a p
 ·cases hbb:zbk [t] a
  ·have f:=za (show J=(⟨#[]⟩,0) by rw [o.out,hub,hbb];rfl);rw [hub] at q;rw [hbb] at v;rw [f.out];clear o f hub hbb
   go_enter Tryz.func203,Tryz.ntmps203
   go_upto_region 1 with fail
   generalize ((w.alloc _).alloc _).alloc _=F at *;have CT:=O.cells;have CK:=Q.cells;have CA:=R.cells;have D:=cY F;go_wp2_with (first
    |(go_at_call 59;refine (q.out _ b).mono (mQ fun w1 g=>?_))
    |(go_at_call 271;refine (v.out _ (b.trans g)).mono (mQ fun w2 r=>?_);have l:=g.trans r))
   go_ret2;exact⟨rfl,b.trans l⟩
  ·obtain⟨j,z⟩:∃ j,Hid (zbV H L=j):=⟨_,rfl⟩;have G:=za (fun W=>zdH (w:=W) (s:=H) (a:=L) S.out.1 oM);have U:=za (show j.size<=9223372036854775807 by
    rw [← z.out];have h1:=zbD (zba (zdU S.out.1 L));omega)
   rw [z.out] at G o;have x:=za (fun W (hW:Ext w W)=>HS.out W hW j U.out);obtain⟨I,V⟩:∃ I,Hid (zw s p L j=I):=⟨_,rfl⟩;rw [V.out] at x o;rw [hub] at q;rw [hbb] at v;have f:=za (show J=(j,if I=true then -1 else 1) by rw [o.out,hub,hbb];rfl);rw [f.out];clear o f hub hbb;cases I
   all_goals
    go_enter Tryz.func203,Tryz.ntmps203
    go_upto_region 1 with fail
    generalize ((w.alloc _).alloc _).alloc _=F at *;have CT:=O.cells;have CK:=Q.cells;have CA:=R.cells;have D:=cY F;go_wp2_with (first
     |(go_at_call 59;refine (q.out _ b).mono (mQ fun w1 g=>?_))
     |(go_at_call 271;refine (v.out _ (b.trans g)).mono (mQ fun w2 r=>?_);have l:=g.trans r)
     |(go_at_call 60;refine (G.out _).mono (mQ fun w3 u=>?_);have i:=l.trans u)
     |(go_at_call 62;refine (x.out _ (b.trans i)).mono (mQ fun w4 Z=>?_);have E:=i.trans Z))
    go_ret2;exact⟨rfl,b.trans E⟩
 ·have G:=za (fun W=>zdH (w:=W) (s:=M) (a:=L) hu.out.1 oM);rw [hub] at q;have f:=za (show J=(zbV M L,-1) by rw [o.out,hub];rfl);rw [f.out];clear o f hub
  go_enter Tryz.func203,Tryz.ntmps203
  go_upto_region 1 with fail
  generalize ((w.alloc _).alloc _).alloc _=F at *;have CT:=O.cells;have CK:=Q.cells;have CA:=R.cells;have D:=cY F;go_wp2_with (first
   |(go_at_call 59;refine (q.out _ b).mono (mQ fun w1 g=>?_))
   |(go_at_call 60;refine (G.out _).mono (mQ fun w3 u=>?_);have i:=g.trans u))
  go_ret2;exact⟨rfl,b.trans i⟩
end
structure Vd where
 code:Int
 asm:Aut
 tr:ByteArray
 ro:Nat
def noA:Aut:=⟨0,[],[]⟩
noncomputable def runT (s t:Sys) (p:Aut) (L:Nat):Nat->Nat->Option (List ByteArray × List ByteArray)->Vd
 |0,k,_=>⟨2,noA,⟨#[]⟩,k⟩
 |_+1,k,none=>⟨2,noA,⟨#[]⟩,k⟩
 |f+1,k,some tab =>
  if (zaX s p t L (zdO L (zw s p L) tab.1 tab.2)).2=0 then ⟨0,zdO L (zw s p L) tab.1 tab.2,⟨#[]⟩,k+1⟩
  else if (zaX s p t L (zdO L (zw s p L) tab.1 tab.2)).2=1 then ⟨1,noA,zak [s,t] p,k+1⟩
  else runT s t p L f (k+1) (zbn L (zw s p L) tab.1 tab.2 (zaX s p t L (zdO L (zw s p L) tab.1 tab.2)).1)
def zdv (w:World) (v:Vd) (e:Ending) (w':World):Prop:=
 ∃ (A:Option Addr) (n c:Nat) (A':Option Addr) (n' c':Nat) (x:Int) (X:Option Addr) (k1 d1:Nat) (X':Option Addr) (k1' d1':Nat),
  e=.returned (.tuple #[.agg #[v.code,v.asm.al,.slice A n c,.slice A' n' c',v.tr,v.ro],.agg #[x,.slice X k1 d1,.slice X' k1' d1']])∧zZ w' w.heap.size A n c A' n' c' v.asm∧Ext w w'
def zhb (L:Nat) (f:ByteArray->Bool) (o:Option (List ByteArray × List ByteArray)):Prop:=∀ rs cs,o=some (rs,cs)->zbW L f rs cs∧zaL L f rs cs=none
theorem zhb.new (L:Nat) (f:ByteArray->Bool):zhb L f ((zar L f [⟨#[]⟩] 11 [⟨#[]⟩]).map fun r=>(r,[⟨#[]⟩])):=by
 intro rs cs h;obtain⟨r,a,e⟩:=Option.map_eq_some_iff.1 h;obtain⟨rfl,rfl⟩:=Prod.mk.inj e;obtain⟨h1,h2,-⟩:=zhf 11 _ _ (zbW.first L f) dM a
 exact⟨h1,h2⟩
theorem zhb.aw {f:ByteArray->Bool} {rows cols:List ByteArray}(h:zbW L f rows cols) (x:ByteArray):zhb L f (zbn L f rows cols x):=by
 intro rs cs hl;unfold zbn at hl
 split at hl
 ·cases hl
 ·rename_i col hc
  split at hl
  ·rename_i ha;obtain⟨r,b,e⟩:=Option.map_eq_some_iff.1 hl;obtain⟨rfl,rfl⟩:=Prod.mk.inj e;have a:=h.addC ha;obtain⟨h1,h2,-⟩:=zhf _ _ _ a (oH h.r12) b;exact⟨h1,h2⟩
  ·cases hl
theorem judgeT_size (hs:zk s=true)(hp:zj p=true)(ht:zk t=true)(ha:zj a=true):(zaX s p t L a).1.size<=50000:=by
 have h1:=zfn hs ha hp;have h2:=zdz (ss:=[t]) (p:=a) (by unfold zF;simp [ht]) ha;unfold zaX;split
 ·exact zbD (zba (zdU h1.1 L))
 ·split
  ·exact zbD (zba (zdU h2.1 L))
  ·exact dG _
def TabM (w0 W:World) (g:Nat) (o:Option (List ByteArray × List ByteArray)):Prop:=
 ∃ (nr nc:Nat) (R:Option Addr) (cr:Nat) (C:Option Addr) (cc:Nat),Blk W g 90 #[.slice R nr cr,.slice C nc cc]∧nr<=cr∧nc<=cc ∧
  ∀ rs cs,o=some (rs,cs)->W.ownsRow w0.heap.size 9 1 (.slice R nr cr) nr (zN rs)∧W.ownsRow w0.heap.size 9 1 (.slice C nc cc) nc (zN cs)
theorem TabM.far {o:Option (List ByteArray × List ByteArray)} {cs:Array Value} {t:TypeId}(h:TabM w0 W g o)(hB:Blk W G t cs)(hf:Frm (fun k=>k=G) W W')(hg:g≠G)(ht:9≠t):TabM w0 W' g o:=by
 obtain⟨j,i,R,d,C,c,f,h1,h2,a⟩:=h;exact⟨j,i,R,d,C,c,f.frm hf hg,h1,h2,fun rs cs e=>⟨zf (a rs cs e).1 hf (fun b hv e'=>zq (a rs cs e).1 hB ht hv e'),zf (a rs cs e).2 hf (fun b hv e'=>zq (a rs cs e).2 hB ht hv e')⟩⟩
theorem zcF.fill {o:Option (List ByteArray × List ByteArray)} (h:zcF w o e W)(hw:w0.heap.size<=w.heap.size) :
  Ext w W∧∃ (nr nc:Nat) (R:Option Addr) (cr:Nat) (C:Option Addr) (cc:Nat),e=.returned (.tuple #[.agg #[.slice R nr cr,.slice C nc cc],.bool o.isSome])∧nr<=cr∧nc<=cc ∧
   ∀ rs cs,o=some (rs,cs)->W.ownsRow w0.heap.size 9 1 (.slice R nr cr) nr (zN rs)∧W.ownsRow w0.heap.size 9 1 (.slice C nc cc) nc (zN cs):=by
 obtain⟨a,⟨rfl,rfl⟩|⟨rs,cs,nr,nc,R,cr,C,cc,rfl,rfl,h1,h2⟩⟩:=h
 ·exact⟨a,0,0,none,0,none,0,rfl,dD _,dD _,fun _ _ e=>by cases e⟩
 ·refine⟨a,nr,nc,R,cr,C,cc,rfl,zgR h1,zgR h2,fun rs' cs' e=>?_⟩;obtain⟨rfl,rfl⟩:=Prod.mk.inj (Option.some.inj e);exact⟨zn h1 hw,zn h2 hw⟩
theorem sl_pair {lo hi lo2 hi2 c2:Nat} {C:Option Addr} (hb:Blk w g 38 #[s.al,s.st,.slice A n c,t.al,t.st,.slice C k c2])(h:zT w lo hi A n s)(h':zT w lo2 hi2 C k t):∃ lo hi,zhS w lo hi (some ⟨g,0,none⟩) 2 [s,t]:=by
 refine⟨0,hi+hi2+g+1,rfl,[.int .i64 s.al,.int .i64 s.st,.slice A n c,.int .i64 t.al,.int .i64 t.st,.slice C k c2],⟨rfl,oM,fun _=>⟨_,rfl,dG _,by dsimp only;omega,fun j u hu=>?_⟩⟩,fun j u hu=>?_⟩
 ·rw [zX,Nat.zero_add,hb.cell];simpa using hu
 ·match j with
  |0 =>
   simp at hu;subst hu;exact⟨A,n,c,rfl,rfl,rfl,h.1,h.2.more (dG _) oM⟩
  |1 =>
   simp at hu;subst hu;exact⟨C,k,c2,rfl,rfl,rfl,h'.1,h'.2.more (dG _) oM⟩
  |j+2=>simp at hu
theorem zdv.drew {v:Vd} (h:zdv w v e W):zdv w v e W.drew:=by
 obtain⟨A,n,c,a,g,b,x,X,k1,d1,X',k1',d1',d,ho,f⟩:=h;have hd:Ext W W.drew:=(cY W).drew;exact⟨A,n,c,a,g,b,x,X,k1,d1,X',k1',d1',d,ho.ext hd,f.trans hd⟩
theorem zdv.cast {v u:Vd} (hu:u=v)(h:zdv w v e W):zdv w u e W:=hu ▸ h
def roAt (W:World) (g:Nat):Nat:=match W.cell? ⟨g,5,none⟩ with|some (.int _ z)=>z.toNat|_=>0
theorem roAt_blk {t:TypeId} {u3 u4:Value}(h:Blk W g t #[u0,u1,u2,u3,u4,j]):roAt W g=j:=by
 unfold roAt;rw [h.cell 5];exact eO j
theorem runT_end {o:Option (List ByteArray × List ByteArray)}(h:¬ (o.isSome=true∧j<K)):runT s t p L (K - j) j o=⟨2,noA,⟨#[]⟩,j⟩:=by
 cases hk:K - j with
 |zero=>rfl
 |succ f =>
  cases o with
  |none=>rfl
  |some tab=>exact absurd ⟨rfl,oM⟩ h
theorem zht (W:World) (Z:Nat) (u0 u1 u2 u3 u4 u5:Value):Frm (fun k=>k=Z) W ((((((W.setCell Z u0).setCell ⟨Z,1,none⟩ u1).setCell ⟨Z,2,none⟩ u2).setCell ⟨Z,3,none⟩ u3).setCell ⟨Z,4,none⟩ u4).setCell ⟨Z,5,none⟩ u5):=
 (((((dF W _ 0 _).trans (dF _ _ 1 _)).trans (dF _ _ 2 _)).trans (dF _ _ 3 _)).trans (dF _ _ 4 _)).trans (dF _ _ 5 _)
theorem Frm.drew {S:Nat->Prop} {a:World}(h:Frm S a w):Frm S a w.drew:=⟨h.os,h.tape,h.output,h.size,h.block⟩
theorem zgU {k1 d1 k1' d1':Nat} {X X':Option Addr} {v:Vd} {x:Int} {vs us:Array Value}(hx:Ext w W)(hv:Blk W Z 42 vs)(hu:Blk W (Z+1) 27 us)(h6:vs.size=6)(h3:us.size=3)(hZ:w.heap.size<=Z)(ho:zZ W w.heap.size A n c A' n' c' v.asm) :
  Hid (zdv w v (.returned (.tuple #[.agg #[v.code,v.asm.al,.slice A n c,.slice A' n' c',v.tr,v.ro],.agg #[x,.slice X k1 d1,.slice X' k1' d1']]))
   (((((((((W.setCell Z v.code).setCell ⟨Z,1,none⟩ v.asm.al).setCell ⟨Z,2,none⟩ (.slice A n c)).setCell ⟨Z,3,none⟩ (.slice A' n' c')).setCell ⟨Z,4,none⟩ v.tr).setCell ⟨Z,5,none⟩ v.ro).setCell ⟨Z+1,0,none⟩ x).setCell ⟨Z+1,1,none⟩ (.slice X k1 d1)).setCell ⟨Z+1,2,none⟩ (.slice X' k1' d1'))) ∧
  Blk (((((((((W.setCell Z v.code).setCell ⟨Z,1,none⟩ v.asm.al).setCell ⟨Z,2,none⟩ (.slice A n c)).setCell ⟨Z,3,none⟩ (.slice A' n' c')).setCell ⟨Z,4,none⟩ v.tr).setCell ⟨Z,5,none⟩ v.ro).setCell ⟨Z+1,0,none⟩ x).setCell ⟨Z+1,1,none⟩ (.slice X k1 d1)).setCell ⟨Z+1,2,none⟩ (.slice X' k1' d1')) Z 42 #[v.code,v.asm.al,.slice A n c,.slice A' n' c',v.tr,v.ro] ∧
  Blk (((((((((W.setCell Z v.code).setCell ⟨Z,1,none⟩ v.asm.al).setCell ⟨Z,2,none⟩ (.slice A n c)).setCell ⟨Z,3,none⟩ (.slice A' n' c')).setCell ⟨Z,4,none⟩ v.tr).setCell ⟨Z,5,none⟩ v.ro).setCell ⟨Z+1,0,none⟩ x).setCell ⟨Z+1,1,none⟩ (.slice X k1 d1)).setCell ⟨Z+1,2,none⟩ (.slice X' k1' d1')) (Z+1) 27 #[.int .i64 x,.slice X k1 d1,.slice X' k1' d1']:=by
 obtain⟨j⟩:=vs
 match j,h6 with
 |[a0,a1,a2,a3,a4,a5],_ =>
 have a:Frm (fun k=>k=Z) W ((((((W.setCell Z v.code).setCell ⟨Z,1,none⟩ v.asm.al).setCell ⟨Z,2,none⟩ (.slice A n c)).setCell ⟨Z,3,none⟩ (.slice A' n' c')).setCell ⟨Z,4,none⟩ v.tr).setCell ⟨Z,5,none⟩ v.ro):=
  (((((dF W _ 0 _).trans (dF _ _ 1 _)).trans (dF _ _ 2 _)).trans (dF _ _ 3 _)).trans (dF _ _ 4 _)).trans (dF _ _ 5 _)
 have g:Blk ((((((W.setCell Z v.code).setCell ⟨Z,1,none⟩ v.asm.al).setCell ⟨Z,2,none⟩ (.slice A n c)).setCell ⟨Z,3,none⟩ (.slice A' n' c')).setCell ⟨Z,4,none⟩ v.tr).setCell ⟨Z,5,none⟩ v.ro) Z 42 #[.int .i64 v.code,.int .i64 v.asm.al,.slice A n c,.slice A' n' c',.string v.tr,.int .i64 v.ro]:=by
  simpa using (((((hv.ae 0 (.int .i64 v.code)).ae 1 (.int .i64 v.asm.al)).ae 2 (.slice A n c)).ae 3 (.slice A' n' c')).ae 4 (.string v.tr)).ae 5 (.int .i64 v.ro)
 have f:=ho.ay hv a dM;have d:=hu.frm a oM;have h:Ext w ((((((W.setCell Z v.code).setCell ⟨Z,1,none⟩ v.asm.al).setCell ⟨Z,2,none⟩ (.slice A n c)).setCell ⟨Z,3,none⟩ (.slice A' n' c')).setCell ⟨Z,4,none⟩ v.tr).setCell ⟨Z,5,none⟩ v.ro):=hx.frm a (fun k hk e=>oM);generalize (((((W.setCell Z v.code).setCell ⟨Z,1,none⟩ v.asm.al).setCell ⟨Z,2,none⟩ (.slice A n c)).setCell ⟨Z,3,none⟩ (.slice A' n' c')).setCell ⟨Z,4,none⟩ v.tr).setCell ⟨Z,5,none⟩ v.ro=i at *;have b:=zU i (Z+1) (.int .i64 x) (.slice X k1 d1) (.slice X' k1' d1');exact⟨za ⟨A,n,c,A',n',c',x,X,k1,d1,X',k1',d1',rfl,f.ay d b dM,h.frm b (fun k hk e=>oM)⟩,g.frm b oM,zal d h3 _ _ _⟩
section
variable {w:World} {lo hi n c lo1 hi1 m d m' d' lo2 hi2 k c2:Nat} {A B B' C:Option Addr} {s t:Sys} {p:Aut}
theorem yV13a1 {P:Prop}(h:P:=by
 clear hflag hgo ho hon hne1 hne2 hd hb8 hb9' hxw;go_wp2_with fail
 refine zbp (fun Y=>Frm (fun b=>b=Z) wr Y) [3] (zy.of [0,1,2,3]) kM kM kM kM kM (fun _ _ _ _ _ h=>h) hS0 ?_;refine zbC (v:=?_) rfl rfl rfl rfl (fun X hX=>?_) ?_
 rotate_left
 focus (go_simp<;>with_reducible rfl)
 refine pT ?_;refine zbC (v:=?_) rfl rfl rfl rfl (fun X hX=>?_) ?_
 rotate_left
 focus (go_simp<;>with_reducible rfl)
 refine pT ?_;refine ze fun K hK=>?_;go_simp;refine hK.out _ _ hf8.out.drew ?_;refine pT ?_;refine zb fun K hK=>?_;go_simp;refine hK.out _ _ ?_;refine zg ?_;go_wp2_with fail
 have cf2:=F2.out.cell;have cf3:=F3.out.cell;exact bodyPost_ret (v:=.tuple #[.agg #[(2:Int),(0:Int),(),(),.string ⟨#[]⟩,j],.agg #[x,.slice X k1 d1,.slice X' k1' d1']]) (by simp [results,Tryz.results112,go_sem,cf2,cf3]) rfl F1.out
 ):P:=h
theorem spec_l12Run (hs:zT w lo hi A n s)(hp:zO w lo1 hi1 B m B' m' p)(ht:zT w lo2 hi2 C k t)(hif:iface s p t=(L:Int))(hn:n<=1000000)(hhi:hi<=w.heap.size)(hK:K<=1000) :
  Calls Tryz.prog 112 #[.agg #[s.al,s.st,.slice A n c],.agg #[t.al,t.st,.slice C k c2],.agg #[p.al,.slice B m d,.slice B' m' d'],K] w
   (zdv w (runT s t p L K 0 ((zar L (zw s p L) [⟨#[]⟩] 11 [⟨#[]⟩]).map fun r=>(r,[⟨#[]⟩])))):=by
 obtain⟨vs,vp,vt⟩:=zca (show 0<=iface s p t by omega);have Hv:=za (And.intro vs (And.intro vp vt));have bq:=za (fun W (hW:Ext w W)=>spec_TaskOf (c:=c) (d:=d) (d':=d') (c2:=c2) (hs.ext hW) (hp.ext hW) (ht.ext hW) hif hn (dK hhi hW.size));have bR:=za (fun W (hW:Ext w W)=>show Calls Tryz.prog 150 #[.slice (some W.heap.size) 2 2,.agg #[p.al,.slice B m d,.slice B' m' d']] (W.alloc (.cells #[s.al,s.st,.slice A n c,t.al,t.st,.slice C k c2] 38)) (fun e w'=>e=.returned (.tuple #[.string (zak [s,t] p),.bool (zbk [s,t] p)])∧Ext W w') by
  have f6:=(cY W).alloc (.cells #[s.al,s.st,.slice A n c,t.al,t.st,.slice C k c2] 38);obtain⟨l1,l2,cE⟩:=sl_pair (dZ W 38 #[s.al,s.st,.slice A n c,t.al,t.st,.slice C k c2]) (hs.ext (hW.trans f6)) (ht.ext (hW.trans f6));exact (zcT cE (hp.ext (hW.trans f6))).mono (fun e w' h=>⟨h.1,f6.trans h.2⟩))
 have c9:=za (fun W (hW:Ext w W)=>hs.ext hW);have cx:=za (fun W (hW:Ext w W)=>ht.ext hW);obtain⟨ag,bH⟩:∃ ag,Hid (runT s t p L K 0 ((zar L (zw s p L) [⟨#[]⟩] 11 [⟨#[]⟩]).map fun r=>(r,[⟨#[]⟩]))=ag):=⟨_,rfl⟩;have bj:=za (zhb.new L (zw s p L));rw [bH.out];obtain⟨aC,bh⟩:∃ aC,Hid ((zar L (zw s p L) [⟨#[]⟩] 11 [⟨#[]⟩]).map (fun r=>(r,[(⟨#[]⟩:ByteArray)]))=aC):=⟨_,rfl⟩;rw [bh.out] at bH bj;clear hs hp ht hif vs vp vt;obtain⟨w0,U0⟩:∃ x,Hid (((((w.alloc (.cells #[s.al,s.st,.slice A n c] 38)).alloc (.cells #[t.al,t.st,.slice C k c2] 38)).alloc (.cells #[p.al,.slice B m d,.slice B' m' d'] 27)).alloc (.cells #[(0:Int),(0:Int),(),(),.string ⟨#[]⟩,(0:Int)] 42)).alloc (.cells #[(0:Int),(),()] 27)=x):=⟨_,za rfl⟩;have aj:Ext w w0:=((((((cY _).alloc _).alloc _).alloc _).alloc _).alloc _).trans (e9 U0.out);obtain⟨b1,b2,b3⟩:=zL ((((cY _).alloc _).alloc _).trans (e9 U0.out));obtain⟨b8,b9⟩:=zK (e9 U0.out);simp only [World.size_alloc] at b8 b9
 go_enter Tryz.func112,Tryz.ntmps112
 go_upto_region 1 with fail
 rw [U0.out] at *;have CS:=b1.cells;have CT:=b2.cells;have CP:=b3.cells;have dk:=b9.lt;have dj:w.heap.size<=w.heap.size+1+1+1:=oM;generalize w.heap.size+1+1+1=Z at *;have cF:=cY w0;go_upto_region 2 with (first
  |(go_at_call 202;refine (bq.out _ aj).mono ?_;rintro e w1 ⟨A,n,c,B,m,d,B',m',d',rfl,bi,cf⟩))
 have cK:=(dZ w1 70 #[s.al,s.st,.slice A n c,p.al,.slice B m d,.slice B' m' d',L]).cell;go_upto_region 5 with fail
 obtain⟨bO,bY⟩:∃ bO,Hid (w1.heap.size=bO):=⟨_,rfl⟩;generalize U0:(w1.alloc _).alloc _=w2 at *;obtain⟨bk,bK,bT⟩:=Ext.x2_ U0;clear U0;rw [bY.out] at bK bT ⊢;clear cK;have V:=bi.ext bk;have a:=cf.trans bk;have dl:=bT.lt;have bQ:=za (fun W (hW:Ext w2 W)=>zjt (c:=c) (d:=d) (d':=d') (V.ext hW));rw [bh.out] at bQ;have cy:=za (fun (R:Option Addr) (nr cr:Nat) (C:Option Addr) (nc cc:Nat) (rows cols:List ByteArray) W (hW:Ext w2 W) hT hI ai ah ao=>zcU (c:=c) (d:=d) (d':=d') (nr:=nr) (nc:=nc) (R:=R) (C:=C) (cr:=cr) (cc:=cc) (rows:=rows) (cols:=cols) (V.ext hW) hT hI ai ah ao);have cw:=za (fun (R:Option Addr) (nr cr:Nat) (C:Option Addr) (nc cc:Nat) (rows cols:List ByteArray) (x:ByteArray) W (hW:Ext w2 W) hT hI ai ah ao hx=>zid (c:=c) (d:=d) (d':=d') (nr:=nr) (nc:=nc) (R:=R) (C:=C) (cr:=cr) (cc:=cc) (rows:=rows) (cols:=cols) (x:=x) (V.ext hW) hT hI ai ah ao hx);have bN:=bT.cells;have cu:=bK.cells;have ct:=fun W (hW:Ext w2 W)=>CS W (a.trans hW);have bM:=fun W (hW:Ext w2 W)=>CT W (a.trans hW);have cq:=fun W (hW:Ext w2 W)=>CP W (a.trans hW);have ce:=cY w2;clear cF CS CT CP;go_upto_region 6 with (first
  |(go_at_call 57;refine (bQ.out _ ce).mono ?_;intro e w3 hret;obtain⟨bD,nr,nc,R,cr,C,cc,rfl,ai,ah,bx⟩:=hret.fill (w0:=w2) (dD _);clear hret))
 go_wp2_with fail
 obtain⟨G,hG⟩:∃ G,Hid (w3.heap.size=G):=⟨_,rfl⟩;have di:w2.heap.size<=G:=by rw [← hG.out];exact bD.size
 generalize U0:((w3.alloc _).alloc _).alloc _=w6 at *;obtain⟨az,am,E,ae⟩:=Ext.x3_ U0;clear U0;rw [hG.out] at am E ae ⊢;have bl:=bD.trans az;have aL:TabM w2 w6 G aC:=⟨nr,nc,R,cr,C,cc,am,ai,ah,fun rs cs e=>⟨zi (bx rs cs e).1 az,zi (bx rs cs e).2 az⟩⟩;clear bx am bD az
 go_loopw [14] (fun fv wr=>∃ (o:Option (List ByteArray × List ByteArray)) (j:Nat) (x:Int) (X:Option Addr) (k1 d1:Nat) (X':Option Addr) (k1' d1':Nat),fv=.bool o.isSome∧j<=K∧Hid (zhb L (zw s p L) o)∧Hid (runT s t p L (K - j) j o=ag)∧TabM w2 wr G o∧Blk wr (G+1) 42 #[(2:Int),(0:Int),(),(),.string ⟨#[]⟩,j]∧Blk wr (G+1+1) 27 #[x,.slice X k1 d1,.slice X' k1' d1']∧Ext w2 wr) (fun _ wr=>K - roAt wr (G+1))
 case atStart=>exact⟨aC,0,0,none,0,0,none,0,0,rfl,dG _,bj,bH,aL,E,ae,bl⟩
 case round =>
  clear aL E ae bl;obtain⟨o,j,x,X,k1,d1,X',k1',d1',rfl,hj,cD,bg,aL,E,ae,aU⟩:=hrel;have av:=E.cell;have aw:=ae.cell
  by_cases hgo:o.isSome=true∧j<K
  ·obtain⟨⟨⟨rs,cs⟩,rfl⟩,dm⟩:(∃ q,o=some q)∧j<K:=⟨Option.isSome_iff_exists.1 hgo.1,hgo.2⟩;clear hgo;obtain⟨hI,ao⟩:=cD.out rs cs rfl;have cW:(j:Int)<(K:Int):=oM;have an:=E.frozen;have bb:Blk (wr.setCell ⟨G+1,5,none⟩ (.int .i64 ((j:Int)+1))) (G+1) 42 #[.int .i64 2,.int .i64 0,.slice none 0 0,.slice none 0 0,.string ⟨#[]⟩,.int .i64 ((j:Int)+1)]:=by
    simpa using E.ae 5 (.int .i64 ((j:Int)+1))
   have bz:Frm (fun b=>b=G+1) wr (wr.setCell ⟨G+1,5,none⟩ (.int .i64 ((j:Int)+1))):=dF wr _ 5 _;have bc:=ae.frm bz oM;have b4:=aL.far E bz oM dM;have aT:=aU.setCell (p:=⟨G+1,5,none⟩) (by dsimp only;omega) (.int .i64 ((j:Int)+1));go_upto_region 10 with fail
   have cb:=za (roAt_blk E);clear av aw an aL E ae aU bz;generalize wr.setCell ⟨G+1,5,none⟩ (.int .i64 ((j:Int)+1))=wA at *;obtain⟨nr,nc,R,cr,C,cc,am,ai,ah,b5⟩:=b4;obtain⟨oR,oC⟩:=b5 rs cs rfl;have a4:=za (show TabAt wA R nr C nc rs cs from ⟨_,_,_,_,eD oR,eD oC⟩);have bE:=am.cell;have bs:=bN wA aT;have bu:=za hI;have bf:=za ao;have a0:=za (zcM hI ao bi.lt);clear hI ao b5;go_upto_region 11 with (first
    |(go_at_call 58;refine (cy.out _ _ _ _ _ _ rs cs _ aT a4.out bu.out ai ah bf.out).mono ?_;rintro e wB ⟨Y,q1,e1,Y',I,D,rfl,aq,cg⟩))
   obtain⟨f,be⟩:∃ f,Hid (zdO L (zw s p L) rs cs=f):=⟨_,rfl⟩;rw [be.out] at aq a0 ⊢;generalize U0:wB.alloc _=wC at *;have ch:=Ext.al_ U0;have bU:=eC U0;have aO:=aq.ext ch;clear U0;have T:=cg.trans ch;have F:=bc.ext T;have a9:=bb.ext T;have a7:=am.ext T;have bG:=zi oR T;have bF:=zi oC T;have aw:=F.cell;have cC:=F.frozen;have cG:=bU.cell;have ap:=zU wC (G+1+1) (.int .i64 f.al) (.slice Y q1 e1) (.slice Y' I D);have aG:=zal F rfl (.int .i64 f.al) (.slice Y q1 e1) (.slice Y' I D);have ba:=a9.frm ap oM;have a8:=a7.frm ap oM;have cm:=zf bG ap (fun b hv e=>zq bG F dM hv e);have cl:=zf bF ap (fun b hv e=>zq bF F dM hv e);have ar:=aO.ay F ap dM;have aS:=((aT.trans T).frm ap (fun k hk e=>oM));have dp:=za (aT.trans cg).size;have dn:=za aT.size;clear F a9 a7 bG bF ap aO aq bU bc bb am oR oC bE bs a4;go_upto_region 12 with fail
   generalize ((wC.setCell ⟨G+1+1,0,none⟩ f.al).setCell ⟨G+1+1,1,none⟩ (.slice Y q1 e1)).setCell ⟨G+1+1,2,none⟩ (.slice Y' I D)=wD at *;clear aw cC cG;have HJ:=za (zjw (c:=c) (d:=d) (d':=d') (c2:=c2) (d1:=e1) (d1':=D) (V.ext aS) (cx.out wD (aj.trans (a.trans aS))) ar.reads Hv.out.2.2 a0.out);have bZ:=za (judgeT_size (L:=L) Hv.out.1 Hv.out.2.1 Hv.out.2.2 a0.out);obtain⟨J,hJ⟩:∃ J,Hid (zaX s p t L f=J):=⟨_,rfl⟩;rw [hJ.out] at HJ bZ;have aw:=aG.cell;have cA:=cu wD aS;have cB:=bM wD aS;go_upto_region 13 with (first
    |(go_at_call 203;refine HJ.out.mono (mQ fun wE au=>?_)))
   have g:=aS.trans au;have Q:=aG.ext au;have l:=ba.ext au;have ad:=a8.ext au;have a2:=zi cm au;have a1:=zi cl au;have U:=ar.ext au;clear aw cA cB aG ba a8 cm cl ar HJ;have z:=za (show (if J.2=0 then (⟨0,f,⟨#[]⟩,j+1⟩:Vd) else if J.2=1 then ⟨1,noA,zak [s,t] p,j+1⟩ else runT s t p L (K - (j+1)) (j+1) (zbn L (zw s p L) rs cs J.1))=ag by
    rw [← bg.out,show K - j=(K - (j+1))+1 by omega];show _=runT s t p L ((K - (j+1))+1) j (some (rs,cs));rw [runT,be.out,hJ.out])
   by_cases hJ0:J.2=0
   ·have aN:=za (show ag=⟨0,f,⟨#[]⟩,j+1⟩ by rw [← z.out,if_pos hJ0]);have av:=l.cell;have an:=l.frozen;have u:Blk (wE.setCell ⟨G+1,0,none⟩ (0:Int)) (G+1) 42 #[.int .i64 0,.int .i64 0,.slice none 0 0,.slice none 0 0,.string ⟨#[]⟩,.int .i64 ((j:Int)+1)]:=by
     simpa using l.ae 0 (.int .i64 0)
    have bA:Frm (fun b=>b=G+1) wE (wE.setCell ⟨G+1,0,none⟩ (0:Int)):=dF wE _ 0 _;have S:=Q.frm bA oM;have aP:=U.ay l bA dM;have ak:=g.setCell (p:=⟨G+1,0,none⟩) (by dsimp only;omega) (.int .i64 0);clear z ad Q a2 a1 bA U l;go_upto_region 16 with fail
    generalize wE.setCell ⟨G+1,0,none⟩ (0:Int)=wF at *;clear av an hJ0;have bP:=za (zea (c:=e1) (c':=D) aP.reads (zdP a0.out));have aw:=S.cell;go_upto_region 17 with (first
     |(go_at_call 165;refine bP.out.mono ?_;rintro e wG ⟨Z1,z1,y1,Z2,z2,y2,rfl,aQ,aa⟩;have av:=(u.ext aa).cell;have an:=(u.ext aa).frozen))
    have O:=u.ext aa;have af:=S.ext aa;have i:Frm (fun b=>b=G+1) wG (((wG.setCell ⟨G+1,1,none⟩ f.al).setCell ⟨G+1,2,none⟩ (.slice Z1 z1 y1)).setCell ⟨G+1,3,none⟩ (.slice Z2 z2 y2)):=((dF wG _ 1 _).trans (dF _ _ 2 _)).trans (dF _ _ 3 _);have y:Blk (((wG.setCell ⟨G+1,1,none⟩ f.al).setCell ⟨G+1,2,none⟩ (.slice Z1 z1 y1)).setCell ⟨G+1,3,none⟩ (.slice Z2 z2 y2)) (G+1) 42 #[.int .i64 0,.int .i64 f.al,.slice Z1 z1 y1,.slice Z2 z2 y2,.string ⟨#[]⟩,.int .i64 ((j:Int)+1)]:=by
     simpa using ((O.ae 1 (.int .i64 f.al)).ae 2 (.slice Z1 z1 y1)).ae 3 (.slice Z2 z2 y2)
    have H:=af.frm i oM;have aR:=(aQ.ay O i dM).less (show w.heap.size<=wF.heap.size by have:=ak.size;have:=a.size;have:=aj.size;omega);have ab:=(ak.trans aa).frm i (fun k hk e=>oM);clear av an aw u S O af i aP aQ bP;generalize ((wG.setCell ⟨G+1,1,none⟩ f.al).setCell ⟨G+1,2,none⟩ (.slice Z1 z1 y1)).setCell ⟨G+1,3,none⟩ (.slice Z2 z2 y2)=wH at *;have hxw:=aj.trans (a.trans ab);have hb8:=b8.ext (a.trans ab);have hb9':=b9.ext (a.trans ab);obtain⟨f1,f2,f3⟩:=zgU (v:=⟨0,f,⟨#[]⟩,j+1⟩) (x:=f.al) (X:=Y) (k1:=q1) (d1:=e1) (X':=Y') (k1':=I) (d1':=D) hxw hb8 hb9' rfl rfl oM aR;have F1:=za (zdv.cast aN.out f1.out.drew);clear f1;simp only [iG,Int.cast_ofNat_Int] at F1 f2 f3;have F2:=za f2;have F3:=za f3;clear f2 f3;have k8:=hb8.cell;have z8:=hb8.frozen;have k9:=hb9'.cell;have z9:=hb9'.frozen;have hne1:G+1≠Z:=oH a.size;have hne2:G+1+1≠Z:=oH a.size;have bI:∀ W,Frm (fun b=>b=Z) wH W->∀ q,W.cell? ⟨G+1,q,none⟩=#[Value.int .i64 0,.int .i64 f.al,.slice Z1 z1 y1,.slice Z2 z2 y2,.string ⟨#[]⟩,.int .i64 ((j:Int)+1)][q]?:=fun W hW=>(y.frm hW hne1).cell;have bJ:∀ W,Frm (fun b=>b=Z) wH W->∀ q,W.cell? ⟨G+1+1,q,none⟩=#[Value.int .i64 f.al,.slice Y q1 e1,.slice Y' I D][q]?:=fun W hW=>(H.frm hW hne2).cell;have hS0:Frm (fun b=>b=Z) wH wH.drew:=⟨rfl,rfl,rfl,dD _,fun _ _ _=>rfl⟩;have hf8:=za (zht wH Z (.int .i64 0) (.int .i64 f.al) (.slice Z1 z1 y1) (.slice Z2 z2 y2) (.string ⟨#[]⟩) (.int .i64 ((j:Int)+1)));clear y H aR hb8 hb9' hxw hne1 hne2;go_wp2_with fail
    refine zbp (fun Y=>Frm (fun b=>b=Z) wH Y) [3] (zy.of [0,1,2,3]) kM kM kM kM kM (fun _ _ _ _ _ h=>h) hS0 ?_;refine zbC (v:=?_) rfl rfl rfl rfl (fun X hX=>?_) ?_
    rotate_left
    focus (go_simp<;>with_reducible rfl)
    refine pT ?_;refine zbC (v:=?_) rfl rfl rfl rfl (fun X hX=>?_) ?_
    rotate_left
    focus (go_simp<;>with_reducible rfl)
    refine pT ?_;refine ze fun K hK=>?_;go_simp;refine hK.out _ _ hf8.out.drew ?_;refine pT ?_;refine zb fun K hK=>?_;go_simp;refine hK.out _ _ ?_;refine zg ?_;go_wp2_with fail
    have cf2:=F2.out.cell;have cf3:=F3.out.cell;exact bodyPost_ret (v:=.tuple #[.agg #[(0:Int),f.al,.slice Z1 z1 y1,.slice Z2 z2 y2,.string ⟨#[]⟩,((j:Int)+1:Int)],.agg #[f.al,.slice Y q1 e1,.slice Y' I D]]) (by simp [results,Tryz.results112,go_sem,cf2,cf3]) rfl F1.out
   ·by_cases hJ1:J.2=1
    ·have aN:=za (show ag=⟨1,noA,zak [s,t] p,j+1⟩ by rw [← z.out,if_neg hJ0,if_pos hJ1]);have HP:=za (bR.out wE (aj.trans (a.trans g)));have cS:=ct wE g;have cT:=bM wE g;have cP:∀ (v:Array Value) (q:Nat),(wE.alloc (.cells v 38)).cell? ⟨w.heap.size+1+1,q,none⟩=_:=fun v q=>cq _ (g.trans ((cY wE).alloc _)) q;clear hJ0 z ad a2 a1 U;go_upto_region 20 with (first
      |(go_at_call 150;refine HP.out.mono (mQ fun wF ak=>?_);clear cS cT cP))
     have u:=l.ext ak;have S:=Q.ext ak;have ci:=g.trans ak;have av:=u.cell;have an:=u.frozen;clear HP l Q;go_upto_region 22 with fail
     have i:Frm (fun b=>b=G+1) wF ((wF.setCell ⟨G+1,0,none⟩ (1:Int)).setCell ⟨G+1,4,none⟩ (.string (zak [s,t] p))):=(dF wF _ 0 _).trans (dF _ _ 4 _);have y:Blk ((wF.setCell ⟨G+1,0,none⟩ (1:Int)).setCell ⟨G+1,4,none⟩ (.string (zak [s,t] p))) (G+1) 42 #[.int .i64 1,.int .i64 0,.slice none 0 0,.slice none 0 0,.string (zak [s,t] p),.int .i64 ((j:Int)+1)]:=by
      simpa using (u.ae 0 (.int .i64 1)).ae 4 (.string (zak [s,t] p))
     have H:=S.frm i oM;have ab:=ci.frm i (fun k hk e=>oM);clear av an u S i hJ1;generalize (wF.setCell ⟨G+1,0,none⟩ (1:Int)).setCell ⟨G+1,4,none⟩ (.string (zak [s,t] p))=wH at *;have hxw:=aj.trans (a.trans ab);have hb8:=b8.ext (a.trans ab);have hb9':=b9.ext (a.trans ab);obtain⟨f1,f2,f3⟩:=zgU (v:=⟨1,noA,zak [s,t] p,j+1⟩) (A:=none) (n:=0) (c:=0) (A':=none) (n':=0) (c':=0) (x:=f.al) (X:=Y) (k1:=q1) (d1:=e1) (X':=Y') (k1':=I) (d1':=D) hxw hb8 hb9' rfl rfl oM (⟨⟨[],World.ownsRow_nil _ _ _ _,zB.nil _ _⟩,rfl,World.ownsRow_nil _ _ _ _,rfl⟩:zZ wH w.heap.size none 0 0 none 0 0 noA);have F1:=za (zdv.cast aN.out f1.out.drew);clear f1;simp only [noA,iG,Int.cast_ofNat_Int] at F1 f2 f3;have F2:=za f2;have F3:=za f3;clear f2 f3;have k8:=hb8.cell;have z8:=hb8.frozen;have k9:=hb9'.cell;have z9:=hb9'.frozen;have hne1:G+1≠Z:=oH a.size;have hne2:G+1+1≠Z:=oH a.size;have bI:∀ W,Frm (fun b=>b=Z) wH W->∀ q,W.cell? ⟨G+1,q,none⟩=#[Value.int .i64 1,.int .i64 0,.slice none 0 0,.slice none 0 0,.string (zak [s,t] p),.int .i64 ((j:Int)+1)][q]?:=fun W hW=>(y.frm hW hne1).cell;have bJ:∀ W,Frm (fun b=>b=Z) wH W->∀ q,W.cell? ⟨G+1+1,q,none⟩=#[Value.int .i64 f.al,.slice Y q1 e1,.slice Y' I D][q]?:=fun W hW=>(H.frm hW hne2).cell;have hS0:Frm (fun b=>b=Z) wH wH.drew:=⟨rfl,rfl,rfl,dD _,fun _ _ _=>rfl⟩;have hf8:=za (zht wH Z (.int .i64 1) (.int .i64 0) (.slice none 0 0) (.slice none 0 0) (.string (zak [s,t] p)) (.int .i64 ((j:Int)+1)));clear y H hb8 hb9' hxw hne1 hne2;go_wp2_with fail
     refine zbp (fun Y=>Frm (fun b=>b=Z) wH Y) [3] (zy.of [0,1,2,3]) kM kM kM kM kM (fun _ _ _ _ _ h=>h) hS0 ?_;refine zbC (v:=?_) rfl rfl rfl rfl (fun X hX=>?_) ?_
     rotate_left
     focus (go_simp<;>with_reducible rfl)
     refine pT ?_;refine zbC (v:=?_) rfl rfl rfl rfl (fun X hX=>?_) ?_
     rotate_left
     focus (go_simp<;>with_reducible rfl)
     refine pT ?_;refine ze fun K hK=>?_;go_simp;refine hK.out _ _ hf8.out.drew ?_;refine pT ?_;refine zb fun K hK=>?_;go_simp;refine hK.out _ _ ?_;refine zg ?_;go_wp2_with fail
     have cf2:=F2.out.cell;have cf3:=F3.out.cell;exact bodyPost_ret (v:=.tuple #[.agg #[(1:Int),(0:Int),(),(),.string (zak [s,t] p),((j:Int)+1:Int)],.agg #[f.al,.slice Y q1 e1,.slice Y' I D]]) (by simp [results,Tryz.results112,go_sem,cf2,cf3]) rfl F1.out
    ·have e0:(J.2==0)=false:=by simpa using hJ0
     have e2:(J.2==1)=false:=by simpa using hJ1
     have bC:=za (show runT s t p L (K - (j+1)) (j+1) (zbn L (zw s p L) rs cs J.1)=ag by
      have:=z.out;rw [if_neg hJ0,if_neg hJ1] at this;exact this)
     clear hJ0 hJ1 z;have bs:=bN wE g;have bE:=ad.cell;have br:=za (show TabAt wE R nr C nc rs cs from ⟨_,_,_,_,eD a2,eD a1⟩);go_upto_region 24 with (first
      |(go_at_call 64;refine (cw.out _ _ _ _ _ _ rs cs J.1 _ g br.out bu.out ai ah bf.out (oH bZ.out)).mono ?_;intro e wF hret;obtain⟨ak,aW,aV,R2,aI,C2,aH,rfl,b7,b6,bw⟩:=hret.fill (w0:=w2) g.size;clear hret))
     have cd:=za (zhb.aw bu.out J.1);generalize zbn L (zw s p L) rs cs J.1=oL at *;generalize U0:wF.alloc _=wG at *;have aa:=Ext.al_ U0;have bV:=eC U0;clear U0;have aA:=ak.trans aa;have M:=ad.ext aA;have O:=l.ext aA;have af:=Q.ext aA;have cj:=g.trans aA;have cH:=bV.cell;have ck:=M.cell;have bX:=M.frozen;have i:Frm (fun b=>b=G) wG ((wG.setCell G (.slice R2 aW aI)).setCell ⟨G,1,none⟩ (.slice C2 aV aH)):=(dF wG _ 0 _).trans (dF _ _ 1 _);have b0:TabM w2 ((wG.setCell G (.slice R2 aW aI)).setCell ⟨G,1,none⟩ (.slice C2 aV aH)) G oL:=
      ⟨aW,aV,R2,aI,C2,aH,by simpa using (M.ae 0 (.slice R2 aW aI)).ae 1 (.slice C2 aV aH),b7,b6,fun rs' cs' e=>by
       have h1:=zi (bw rs' cs' e).1 aa;have h2:=zi (bw rs' cs' e).2 aa;exact⟨zf h1 i (fun b hv e'=>zq h1 M dM hv e'),zf h2 i (fun b hv e'=>zq h2 M dM hv e')⟩⟩
     have y:=O.frm i oM;have H:=af.frm i oM;have ab:=cj.frm i (fun k hk e=>oM);clear bs bE ad l Q a2 a1 U M O af i bV bw;go_upto_region 25 with fail
     generalize (wG.setCell G (.slice R2 aW aI)).setCell ⟨G,1,none⟩ (.slice C2 aV aH)=wH at *;clear cH ck bX;have ca:((j:Int)+1)=((j+1:Nat):Int):=oM;rw [ca] at y;have bB:=za (roAt_blk y);clear ca;go_wp2_with fail
     go_roundw
     case rel=>exact⟨oL,j+1,f.al,Y,q1,e1,Y',I,D,rfl,oM,cd,bC,b0,y,H,ab⟩
     case measure=>have h1:=cb.out;have h2:=bB.out;omega
  ·have aN:=za (show ag=⟨2,noA,⟨#[]⟩,j⟩ by
    rw [← bg.out];exact runT_end hgo)
   have hb8:=(b8.ext (a.trans aU));have hb9':=(b9.ext (a.trans aU));have hon:zZ wr w.heap.size none 0 0 none 0 0 noA:=⟨⟨[],World.ownsRow_nil _ _ _ _,zB.nil _ _⟩,rfl,World.ownsRow_nil _ _ _ _,rfl⟩;have hflag:(o.isSome&&decide ((j:Int)<(K:Int)))=false:=by
    rw [eR];intro h;simp only [dI,decide_eq_true_eq] at h;exact hgo ⟨h.1,oM⟩
   have hxw:=aj.trans (a.trans aU);have hd:Ext wr wr.drew:=(cY wr).drew;obtain⟨f1,f2,f3⟩:=zgU (v:=⟨2,noA,⟨#[]⟩,j⟩) (x:=x) (X:=X) (k1:=k1) (d1:=d1) (X':=X') (k1':=k1') (d1':=d1') hxw hb8 hb9' rfl rfl oM hon;have F1:=za (zdv.cast aN.out f1.out.drew);clear f1;simp only [noA] at F1 f2 f3;have F2:=za f2;have F3:=za f3;clear f2 f3;have k8:=hb8.cell;have z8:=hb8.frozen;have k9:=hb9'.cell;have z9:=hb9'.frozen;have dq:=aj.size;have hne1:G+1≠Z:=oH a.size;have hne2:G+1+1≠Z:=oH a.size;have bI:∀ W,Frm (fun b=>b=Z) wr W->∀ q,W.cell? ⟨G+1,q,none⟩=#[Value.int .i64 2,.int .i64 0,.slice none 0 0,.slice none 0 0,.string ⟨#[]⟩,.int .i64 j][q]?:=fun W hW=>(E.frm hW hne1).cell;have bJ:∀ W,Frm (fun b=>b=Z) wr W->∀ q,W.cell? ⟨G+1+1,q,none⟩=#[Value.int .i64 x,.slice X k1 d1,.slice X' k1' d1'][q]?:=fun W hW=>(ae.frm hW hne2).cell;have hS0:Frm (fun b=>b=Z) wr wr.drew:=⟨rfl,rfl,rfl,dD _,fun _ _ _=>rfl⟩;have hf8:=za (zht wr (Z) (.int .i64 2) (.int .i64 0) (.slice none 0 0) (.slice none 0 0) (.string ⟨#[]⟩) (.int .i64 j));cases ho:o.isSome
   ·have Ho:=za ho;rw [ho] at hflag;exact yV13a1
   ·have cX:¬ ((j:Int)<(K:Int)):=fun h=>hgo ⟨ho,oM⟩;have Ho:=za ho;exact yV13a1
end
def ziP (w:World) (v:Vd) (e:Ending) (w':World):Prop:=
 ∃ (A:Option Addr) (n c:Nat) (A':Option Addr) (n' c':Nat),
  e=.returned (.agg #[v.code,v.asm.al,.slice A n c,.slice A' n' c',v.tr,v.ro])∧zZ w' w.heap.size A n c A' n' c' v.asm∧Ext w w'
section
variable {w:World} {lo hi n c lo1 hi1 m d m' d' lo2 hi2 k c2:Nat} {A B B' C:Option Addr} {s t:Sys} {p:Aut}
theorem zdl {v:Vd} (HR:Hid (∀ W,Ext w W->Calls Tryz.prog 112 #[.agg #[s.al,s.st,.slice A n c],.agg #[t.al,t.st,.slice C k c2],.agg #[p.al,.slice B m d,.slice B' m' d'],(12:Int)] W (zdv W v))) :
  Calls Tryz.prog 42 #[.agg #[s.al,s.st,.slice A n c],.agg #[t.al,t.st,.slice C k c2],.agg #[p.al,.slice B m d,.slice B' m' d']] w
   (ziP w v):=by
 obtain⟨I,U0⟩:∃ x,Hid ((((w.alloc (.cells #[s.al,s.st,.slice A n c] 38)).alloc (.cells #[t.al,t.st,.slice C k c2] 38)).alloc (.cells #[p.al,.slice B m d,.slice B' m' d'] 27)).alloc (.cells #[(0:Int),(0:Int),(),(),.string ⟨#[]⟩,(0:Int)] 42)=x):=⟨_,za rfl⟩;have j:Ext w I:=(((((cY _).alloc _).alloc _).alloc _).alloc _).trans (e9 U0.out);obtain⟨L,M,O⟩:=zL (((cY _).alloc _).trans (e9 U0.out));have H:=eC U0.out;simp only [World.size_alloc] at H
 go_enter Tryz.func42,Tryz.ntmps42
 go_upto_region 1 with fail
 rw [U0.out] at *;have R:=L.cell;have D:=M.cell;have S:=O.cell;go_upto_region 2 with (first
  |(go_at_call 112;refine (HR.out I j).mono ?_;rintro e w1 ⟨b,h,k1,f,i,g,x,X,T,d1,X',G,d1',rfl,ho,y⟩;clear R D S))
 have Q:=(dZ w1 42 #[v.code,v.asm.al,.slice b h k1,.slice f i g,v.tr,v.ro]).ext ((cY _).alloc (.cells #[x,.slice X T d1,.slice X' G d1'] 27));generalize U0:(w1.alloc _).alloc _=J at *;have l:=((cY w1).alloc (.cells #[v.code,v.asm.al,.slice b h k1,.slice f i g,v.tr,v.ro] 42)).trans (Ext.al_ U0);clear U0;have a:=H.ext (y.trans l);have Y:=Q.cell;have V:=a.cell;have U:=a.frozen;have q:=ho.ext l;have F:=zht J (w.heap.size+1+1+1) (.int .i64 v.code) (.int .i64 v.asm.al) (.slice b h k1) (.slice f i g) (.string v.tr) (.int .i64 v.ro);have o:Blk ((((((J.setCell ⟨w.heap.size+1+1+1,0,none⟩ v.code).setCell ⟨w.heap.size+1+1+1,1,none⟩ v.asm.al).setCell ⟨w.heap.size+1+1+1,2,none⟩ (.slice b h k1)).setCell ⟨w.heap.size+1+1+1,3,none⟩ (.slice f i g)).setCell ⟨w.heap.size+1+1+1,4,none⟩ v.tr).setCell ⟨w.heap.size+1+1+1,5,none⟩ v.ro) (w.heap.size+1+1+1) 42 #[.int .i64 v.code,.int .i64 v.asm.al,.slice b h k1,.slice f i g,.string v.tr,.int .i64 v.ro]:=by
  simpa using (((((a.ae 0 (.int .i64 v.code)).ae 1 (.int .i64 v.asm.al)).ae 2 (.slice b h k1)).ae 3 (.slice f i g)).ae 4 (.string v.tr)).ae 5 (.int .i64 v.ro)
 have r:=(q.ay a F dM).less j.size;have z:=(j.trans (y.trans l)).frm F (fun k hk e=>oM);have u:=za (show ziP w v (.returned (.agg #[v.code,v.asm.al,.slice b h k1,.slice f i g,v.tr,v.ro])) _ from ⟨b,h,k1,f,i,g,rfl,r,z⟩);have E:=za o;clear a q ho r z F o;go_wp2_with fail
 have E:=E.out.cell;exact bodyPost_ret (v:=.agg #[v.code,v.asm.al,.slice b h k1,.slice f i g,v.tr,v.ro]) (by simp [results,Tryz.results42,go_sem,E]) rfl u.out
theorem zhy (hs:zT w lo hi A n s)(hp:zO w lo1 hi1 B m B' m' p)(ht:zT w lo2 hi2 C k t)(hif:iface s p t=(L:Int))(hn:n<=1000000)(hhi:hi<=w.heap.size) :
  Calls Tryz.prog 42 #[.agg #[s.al,s.st,.slice A n c],.agg #[t.al,t.st,.slice C k c2],.agg #[p.al,.slice B m d,.slice B' m' d']] w
   (ziP w (runT s t p L 12 0 ((zar L (zw s p L) [⟨#[]⟩] 11 [⟨#[]⟩]).map fun r=>(r,[⟨#[]⟩])))):=
 zdl (za (fun W (hW:Ext w W)=>spec_l12Run (K:=12) (hs.ext hW) (hp.ext hW) (ht.ext hW) hif hn (dK hhi hW.size) oM))
end
theorem tot_cons (l:List Int) (r:List (List Int)):tot (l :: r)=l.length+tot r:=by simp [tot]
theorem zB.ae {w':World}  {rows:List Value} {ls:List (List Int)}   {l:List Int}(h:zB w base rows ls)(hr:rows[j]?=some (.slice A l.length c))
  (hf:Frm (blk A) w w') (zjL:w'.ownsRow base 3 1 (.slice A l.length c) l.length (ints l)):zB w' base rows (ls.set j l):=by
 have d:j<rows.length:=(List.getElem?_eq_some_iff.1 hr).1;refine⟨by simp [h.1],fun i row m hi hm=>?_,h.2.2⟩
 by_cases hij:i=j
 ·subst hij;rw [hr] at hi;obtain rfl:=Option.some.inj hi;rw [List.getElem?_set_self (by rw [← h.1];exact d)] at hm;obtain rfl:=Option.some.inj hm;exact zjL
 ·rw [List.getElem?_set_ne (fun e=>hij e.symm)] at hm;refine zf (h.2.1 i row m hi hm) hf (fun b hb hS=>?_);obtain⟨a,rfl,rfl⟩:=hS;exact h.2.2 i j row _ a.block hi hr hij hb rfl
def aut0:Aut:=⟨0,[],[]⟩
theorem own_aut0 (w:World) (base:Nat):zZ w base none 0 0 none 0 0 aut0:=⟨⟨[],World.ownsRow_nil _ _ _ _,zB.nil _ _⟩,rfl,World.ownsRow_nil _ _ _ _,rfl⟩
end Go.Proofs.YtckbjnndaaoddaaGreatDoor
