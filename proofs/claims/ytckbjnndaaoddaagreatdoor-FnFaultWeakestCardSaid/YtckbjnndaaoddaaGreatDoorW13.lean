/- The program' -/
import Derived.Test.YtckbjnndaaoddaaGreatDoorW12
set_option maxHeartbeats 4000000
set_option maxRecDepth 100000
namespace Go.Proofs.YtckbjnndaaoddaaGreatDoor
open Go Go.RowKit
open Blk renaming new->dZ
open Bool renaming and_eq_true->dH,eq_false_iff->eU,eq_iff_iff->gJ,not_eq_false->jH,not_eq_true'->gG,or_eq_true->fM,false->j1,true->jU
open Ext renaming bl_->eA,eq_->e6,refl->cY
open Frm renaming setCell->dG
open Int renaming natCast_add->iT,toNat_natCast->eM
open List renaming all_eq_true->eK,append_nil->gK,eq_nil_of_length_eq_zero->dP,filter_append->iG,filter_cons_of_neg->fF,filter_cons_of_pos->eQ,getElem?_eq_getElem->dB,length_cons->fN,map_append->eH,mem_cons_of_mem->eC,mem_cons_self->gD,mem_of_getElem?->dC,take_add_one->dN,take_of_length_le->dJ,mem_append->kD,mem_cons->kH,mem_filter->kL
open Nat renaming eq_of_testBit_eq->fH,le_refl->dD,le_trans->dL,mul_le_mul->eY,pow_le_pow_right->eD,strongRecOn->jV,testBit_and->fO,testBit_or->fX,zero_le->dF,zero_testBit->iI
open Option renaming toList_some->eG,map_eq_some_iff->kK,none->fV,some->fU
open Reads renaming af->eE
open Go renaming Calls->j6,Value->j4,World->jX
open Go.Ending renaming returned->j5
open Go.IntKind renaming i64->iX
open Go.Value renaming agg->j2,slice->fC,string->kA
open Option.some renaming inj->j8
open _root_.Go.Proofs.Tryz renaming prog->j3
variable {A A':Option Addr}{G K L Z base c c' g j k n n':Nat}{W W' w w0:jX}{a p:Aut}{al st:Int}{e:Ending}{es:List Edg}{s t:Sys}{ss ts:List Sys}{u0 u1 u2:j4}{v:List Nat}{x:ByteArray}
structure AutS (W:jX) (S:Nat->Prop) (base:Nat) (A:Option Addr) (n c:Nat) (A':Option Addr) (n' c':Nat) (a:Aut):Prop where
 own:∃ rows,W.ownsRow base 110 1 (fC A n c) a.next.length rows/\zB W base rows a.next/\∀ (i:Nat) (r:j4) (b:Nat),rows[i]?=fU r->r.ownBlock=fU b->¬ S b
 acc:W.ownsRow base 4 1 (fC A' n' c') a.acc.length (zY a.acc)
 fv:∀ b,(fC A n c).ownBlock=fU b->¬ S b
 fA:∀ b,(fC A' n' c').ownBlock=fU b->¬ S b
def RetAO (J:zbi) (a:Aut) (B:Nat) (S:Nat->Prop) (W:jX) (e:Ending) (W':jX):Prop:=
 ∃ (S':Nat->Prop) (A A':Option Addr) (n c n' c':Nat),e=j5 (j2 #[a.al,fC A n c,fC A' n' c'])/\AutS W' S' W.heap.size A n c A' n' c' a/\Kp J B S W W' S'
section
variable {J:zbi}{B b0 base N G:Nat}{S S':Nat->Prop}{W W':jX}{al:Int}{ls:List (List Int)}{acc:List Bool}{A A':Option Addr}{n c n' c':Nat}{a:Aut}
theorem own_num {m size:Nat}{e:TypeId}{xs:List j4}(h:w.ownsRow base e size (fC A n c) m xs):n=m:=by
 rcases h.2 with ⟨h1,h2⟩|⟨g,a,b,h1,_⟩
 ·injection h1 with _ h3;omega
 ·injection h1
theorem AutS.kp (h:AutS W S base A n c A' n' c' a) (k:Kp J B S W W' S'):AutS W' S' base A n c A' n' c' a:=by
 obtain⟨d,h1,h2,f⟩:=h.own;refine⟨⟨d,(k.row h1 h.fv).1,h2.frm k.frm (fun i r b hr hb=>f i r b hr hb),fun i r b hr hb=>?_⟩,(k.row h.acc h.fA).1,(k.row h1 h.fv).2,(k.row h.acc h.fA).2⟩;obtain⟨l,_,ho⟩:=h2.row hr;exact k.out (ho.lt b hb).2 (f i r b hr hb)
theorem AutS.ext (h:AutS W S base A n c A' n' c' a)(hx:Ext W W'):AutS W' S base A n c A' n' c' a:=by
 obtain⟨b,h1,h2,d⟩:=h.own;exact⟨⟨b,zi h1 hx,h2.ext hx,d⟩,zi h.acc hx,h.fv,h.fA⟩
theorem AutS.own_ (h:AutS W S base A n c A' n' c' a):zac W base A n c A' n' c' a:=by
 obtain⟨b,h1,h2,d⟩:=h.own;obtain rfl:=own_num h1;obtain rfl:=own_num h.acc;exact⟨⟨b,h1,h2⟩,rfl,h.acc,rfl⟩
theorem zfm.autS (h:zfm W S base N G al (fC A n c) ls (fC A' n' c') acc):AutS W S base A n c A' n' c' ⟨al,ls,acc⟩:=by
 obtain⟨k,rfl,d,a,f,g,j⟩:=h.gra;exact⟨⟨a,f,g,fun i r b hr hb=>(j i r b hr hb).1⟩,d.acc,h.fv,h.fA⟩
end
section
variable {J:zbi}{B b0 L base nr cr nc cc kn:Nat}{S S':Nat->Prop}{W W':jX}{R C:Option Addr}{rows cols:List ByteArray}{f:ByteArray->Bool}{rc:j4}
theorem rnM_at {zs:List ByteArray}{y:ByteArray}(h:y∈zs):rnM zs y=fU (ziL zs y):=by
 unfold rnM;rw [zau.2 h,if_pos rfl]
theorem aut_ret {w5:jX}{S5:Nat->Prop}(hJ:zbi.Ok b0 J)(hk:Kp J B S W w5 S5)(hA:AutS w5 S5 base A n c A' n' c' a)(hb:Blk w5 Z 27 #[u0,u1,u2])(hZ:¬ S5 Z)(hWZ:W.heap.size<=Z)(hbZ:b0<=Z)(hWb:W.heap.size<=base) :
  Blk (((w5.setCell Z a.al).setCell ⟨Z,1,fV⟩ (fC A n c)).setCell ⟨Z,2,fV⟩ (fC A' n' c')) Z 27 #[a.al,fC A n c,fC A' n' c']/\Kp J B S W (((w5.setCell Z a.al).setCell ⟨Z,1,fV⟩ (fC A n c)).setCell ⟨Z,2,fV⟩ (fC A' n' c')) S5 /\
  AutS (((w5.setCell Z a.al).setCell ⟨Z,1,fV⟩ (fC A n c)).setCell ⟨Z,2,fV⟩ (fC A' n' c')) S5 W.heap.size A n c A' n' c' a:=by
 have f:=(dG w5 Z 0 (.int iX a.al)).trans ((dG _ Z 1 (fC A n c)).trans (dG _ Z 2 (fC A' n' c')));obtain⟨d,g,h,k⟩:=hA.own;refine⟨by simpa using ((hb.ae 0 (.int iX a.al)).ae 1 (fC A n c)).ae 2 (fC A' n' c'),hk.own hJ f (fun q _ e=>by have j:q=Z:=e;rw [j];exact⟨hWZ,hbZ,hZ⟩),⟨⟨d,zdp (zf g f (fun b hb' e=>zL g hb dM hb' e)) hWb,(h.frm f (fun i r b hr hb' e=>by
  obtain⟨l,_,ho⟩:=h.row hr;exact zL ho hb dM hb' e)).less hWb,k⟩,zdp (zf hA.acc f (fun b hb' e=>zL hA.acc hb dM hb' e)) hWb,hA.fv,hA.fA⟩⟩
theorem zgD (hO:zhk b0 L f J kn rc)(hj:J B W S)(hB:B+1692<10000000)(hT:zgW W S base R nr cr C nc cc rows cols)(hI:zbD L f rows cols)(hcl:zaI L f rows cols=fV)(hb0:b0<=W.heap.size)(hL:L<64) :
  j6 j3 51 #[orcV L kn rc,j2 #[fC R nr cr,fC C nc cc]] W (RetAO J (zcM L f rows cols) (B+1692) S W):=by
 have u:=za hO;have HI:=za hI;have cD:=za (fun (r:ByteArray) (l:Nat) (hr:r∈rows) (hl:l∈letters L 6)=>zdN hcl hr hl);have cb:=za hT.lens;have cQ:nr<=12:=by rw [<- hT.lens.1];exact hI.r12
 have bw:=za hI.c20;have aU:Ext W (((W.alloc (.cells #[(L:Int),.func (.func kn) #[rc] #[]] 83)).alloc (.cells #[fC R nr cr,fC C nc cc] 90)).alloc (.cells #[(0:Int),(),()] 27)):=(((cY _).alloc _).alloc _).alloc _;obtain⟨b2,b3,b4⟩:=zK (cY (((W.alloc (.cells #[(L:Int),.func (.func kn) #[rc] #[]] 83)).alloc (.cells #[fC R nr cr,fC C nc cc] 90)).alloc (.cells #[(0:Int),(),()] 27)));have D:=za (fun (q:Nat) (hq:W.heap.size<=q)=>zbi.fresh hO.ok hj hq);have b5:=hO.ok.keep hj aU (fun _ _ h=>h.elim);have bn:=za (hT.ext aU);have dw:W.heap.size<(((W.alloc (.cells #[(L:Int),.func (.func kn) #[rc] #[]] 83)).alloc (.cells #[fC R nr cr,fC C nc cc] 90)).alloc (.cells #[(0:Int),(),()] 27)).heap.size/\W.heap.size+1+1<(((W.alloc (.cells #[(L:Int),.func (.func kn) #[rc] #[]] 83)).alloc (.cells #[fC R nr cr,fC C nc cc] 90)).alloc (.cells #[(0:Int),(),()] 27)).heap.size:=by simp;omega
 have ck:Sm L:=tM;clear hO hI hT hcl;have dl:=u.out.in_
 go_enter Tryz.func51,Tryz.ntmps51
 go_upto_region 1 with fail
 generalize ((W.alloc _).alloc _).alloc _=w1 at *;have k2:=b2.cell;have k3:=b3.cell;have bx:=za (zfZ u.out b5 oM bn.out HI.out oM);obtain⟨zs,aL⟩:∃ zs,Hid (zaB f cols rows=zs):=⟨_,za rfl⟩;rw [aL.out] at bx;go_upto_region 2 with (go_at_call 124;refine bx.out.mono ?_;rintro e w2 ⟨S2,M,n,rfl,ce,bc,db,dc,an⟩)
 have B2:=za b2;have B3:=za b3;have B4:=za b4;have k2:=(an.blk b2 (D.out _ oM)).1.cell;obtain⟨w3,U0⟩:∃ x,Hid (w2.alloc (.cells #[(L:Int),(),()] 27)=x):=⟨_,za rfl⟩;have bo:=eA U0.out;have cS:Ext w2 (w2.alloc (.cells #[(0:Int),(),()] 27)):=(cY _).alloc _;have c9:=bo.cell;have f9:=bo.frozen;go_upto_region 3 with fail
 have ak:=eA U0.out;have Z:Ext w2 w3:=((cY _).alloc _).trans (e6 U0.out);obtain⟨G,bj⟩:∃ G,Hid (G=w2.heap.size):=⟨_,za rfl⟩;rw [<- bj.out] at ak ⊢;have aZ:=za (fun (q:Nat) (hq:w2.heap.size<=q)=>zbi.fresh u.out.ok an.j hq);have cH:=za (aZ.out G (oH bj.out));have dd:=an.size;have bk:w1.heap.size<=G:=oH bj.out;clear bo cS c9 f9 b2 b3 b4 k3 bx b5;rw [U0.out] at *;have s:=za (an.ext u.out.ok Z);have bd:=za (show zfz w3 M n (rnM zs)/\¬ S2 M from ⟨ce.ext Z,bc⟩);obtain⟨wb,I,bg⟩:=zdX w3 (base:=w1.heap.size) (oH Z.size);have aA:=gra_first bg ak (by rw [I];exact bk) cH.out;rw [I] at aA;have a3:=za aA;have k3:=((an.ext u.out.ok Z).blk B3.out (D.out _ oM)).1.cell;clear an ce bc aA I bg ak Z k2 aZ;have cd:(letters L 6).length<=6:=zA L 6;go_wp2_with fail
 go_loopw [8,9,11,21] (fun _ _ _ iv wr=>∃ (i:Nat) (S1:Nat->Prop) (v vA:j4) (ls:List (List Int)) (g:List Bool),iv=.int iX i/\i<=nr/\Hid (Kp J (B+240+121*i) S w1 wr S1)/\Hid (zfz wr M n (rnM zs)/\¬ S1 M)/\Hid (zfm wr S1 w1.heap.size wr.heap.size G (L:Int) v ls vA g)/\Hid (ls=(rows.take i).map (zdG L f rows cols)/\g=(rows.take i).map f)) (fun _ _ _ iv _=>nr - (intOf iv).toNat)
 case atStart=>exact⟨0,S2,_,_,[],[],rfl,dF _,s,bd,a3,za ⟨sM,sM⟩⟩
 case round =>
  clear s bd a3 k3;obtain⟨i,S1,v,vA,ls,g,rfl,hi,U,H,o,ap⟩:=hrel;have k2:=(U.out.blk B2.out (D.out _ (dD _))).1.cell;have k3:=(U.out.blk B3.out (D.out _ oM)).1.cell
  by_cases hlt:i<nr
  ·have da:(i:Int)<(nr:Int):=oM;obtain⟨x,hx⟩:∃ x,rows[i]?=fU x:=⟨_,dB (oH cb.out.1)⟩;have Hx:=za hx;obtain⟨gR,rfl,hc⟩:=zhJ (bn.out.kp U.out).r.own hx;have aW:=za (dC hx);have dx:x.size<=12:=(HI.out.rin aW.out).2;have bf:=za (fun (q:Nat) (hq:wr.heap.size<=q)=>zbi.fresh u.out.ok U.out.j hq);clear hx;go_upto_block 2 with (go_at_call 67;refine (zaf L ck _).mono ?_;rintro e w4 ⟨AL,cL,rfl,F,aV⟩)
   have ca:=za (fun l (hl:l∈letters L 6)=>zC.1 hl);obtain⟨d,ad⟩:∃ d,Hid (zdG L f rows cols x=d):=⟨_,za rfl⟩;have a0:=za (show ∀ (k l:Nat),(letters L 6)[k]?=fU l->d[k]?=fU ((ziL zs (mkS (zby f cols (x++zbU l))):Nat):Int) from fun k l hl=>by
    rw [<- ad.out,<- aL.out];unfold zdG;rw [List.getElem?_map,hl];rfl)
   have ax:=za (show d.length=(letters L 6).length by rw [<- ad.out];simp [zdG]);have ay:=za (fun l hl=>cD.out x l aW.out hl);rw [aL.out] at ay;obtain⟨LL,cI⟩:∃ LL,Hid (letters L 6=LL):=⟨_,za rfl⟩;have bs:=cd;rw [cI.out] at F ca a0 ax ay bs ⊢;have bq:=za (U.out.ext u.out.ok aV);have be:=za (show zfz w4 M n (rnM zs)/\¬ S1 M from ⟨H.out.1.ext aV,H.out.2⟩);have aG:=za (show zgl w4 S1 wr.heap.size 3 1 (fC AL LL.length cL) LL.length (zag LL) from ⟨F,fun b hb=>bf.out b (F.lt b hb).1⟩);obtain⟨N,bm⟩:∃ N,Hid (N=w4.heap.size):=⟨_,za rfl⟩;have aY:=za (fun b hb=>(F.lt b hb).2);have aB:=(o.out.ext aV).reN;have bR:=aY;rw [<- bm.out] at aB bR;clear aY;have aC:=za aB;have cq:w1.heap.size<=N:=by have:=bq.out.size;have:=bm.out;omega
   have aH:=za (show zgl w4 S1 N 3 1 (fC fV 0 0) 0 (ints (d.take 0)) from ⟨World.ownsRow_nil _ _ _ _,fun b hb=>by simp [Value.ownBlock] at hb⟩);obtain⟨bl,bV⟩:∃ bl,Hid (bl=wr.heap.size):=⟨_,za rfl⟩;rw [<- bV.out] at aG;clear F aV k2 k3 hc H bf o aB U;go_wp2_with fail
   go_loopw [9,11,29] (fun v9 _ kv wr=>∃ (k:Nat) (S3:Nat->Prop),kv=.int iX k/\k<=LL.length/\Hid (Kp J (B+240+121*i+20*k) S w1 wr S3)/\Hid (zfz wr M n (rnM zs)/\¬ S3 M)/\Hid (zfm wr S3 w1.heap.size N G (L:Int) v ls vA g)/\Hid (zgl wr S3 bl 3 1 (fC AL LL.length cL) LL.length (zag LL))/\Hid (zgl wr S3 N 3 1 v9 k (ints (d.take k))/\N<=wr.heap.size)) (fun _ _ kv _=>LL.length - (intOf kv).toNat)
   case atStart=>exact⟨0,S1,rfl,dF _,bq,be,aC,aG,za ⟨aH.out,oH bm.out⟩⟩
   case round =>
    clear bq be aC aG aH;obtain⟨k,S3,rfl,hk,s,H,o,aF,V⟩:=hrel;have k2:=(s.out.blk B2.out (D.out _ (dD _))).1.cell;have k3:=(s.out.blk B3.out (D.out _ oM)).1.cell
    by_cases hkl:k<LL.length
    ·have c8:(k:Int)<(LL.length:Int):=oM;obtain⟨l,hl⟩:∃ l,LL[k]?=fU l:=⟨_,dB hkl⟩;obtain⟨br,b8⟩:=ca.out l (dC hl);have aD:=za (ay.out l (dC hl));have aR:=za (a0.out k l hl);obtain⟨gl,rfl,-,-⟩:=zM aF.out.own oM;have cl:=zcr aF.out.own hkl;rw [List.getD_eq_getElem?_getD,hl,Option.getD_some] at cl;have bW:∀ X:jX,(convert 21 9 (.int .i32 (97+(l:Int)))).run j3 X=.ok (.string (zbU l)) X:=fun X=>by
      have:=conv_rune br X;rwa [iT] at this
     have cs:IntKind.i32.wrap (97+(l:Int))=97+(l:Int):=by
      simp [IntKind.wrap,IntKind.bits,IntKind.signed];omega
     have ae:=za (HI.out.snoc aW.out br b8);obtain⟨z,hz⟩:∃ z,Hid (zbU l=z):=⟨_,za rfl⟩;have dz:z.size=1:=by rw [<- hz.out];exact zci l
     obtain⟨y,hy⟩:∃ y,Hid (x++z=y):=⟨_,za rfl⟩;have cT:=za (show x++zbU l=y by rw [hz.out,hy.out]);rw [cT.out] at ae aD aR;have cn:¬ 9223372036854775807<x.size+1:=oM;rw [hz.out] at bW;obtain⟨m9,bt⟩:∃ m9,Hid (mkS (zby f cols y)=m9):=⟨_,za rfl⟩;rw [bt.out] at aD aR;have bS:=za (rnM_at aD.out);obtain⟨q9,cR⟩:∃ q9,Hid (ziL zs m9=q9):=⟨_,za rfl⟩;rw [cR.out] at bS aR;have cM:=za (show domS m9 by rw [<- bt.out];exact mkS_dom bw.out y);have dy:=hy.out;obtain⟨A9,c9,rfl⟩:=zh V.out.1.own;go_upto_region 10 with fail
     have bB:=cY wr;have K2:∀ X,Ext wr X->∀ q,X.cell? ⟨W.heap.size,q,fV⟩=#[Value.int iX (L:Int),.func (.func kn) #[rc] #[]][q]?:=fun X hX=>((s.out.blk B2.out (D.out _ (dD _))).1.ext hX).cell;have K3:∀ X,Ext wr X->∀ q,X.cell? ⟨W.heap.size+1,q,fV⟩=#[fC (fU gR) nr cr,fC C nc cc][q]?:=fun X hX=>((s.out.blk B3.out (D.out _ oM)).1.ext hX).cell;clear k2 k3 cl hl b8;refine uR (fun X=>Ext wr X) [10,11,12,13] (zy.of [0,1,2,3,4,5,6,7,8,9,10,11,12,13,14]) ?_;refine uQ ?_;refine ze fun K hK=>?_;go_simp;refine (zbF br _).mono ?_;rintro e w7 ⟨rfl,rfl⟩;refine hK.out _ _ bB.drew ?_;refine pT ?_;refine uQ ?_;refine zb fun K hK=>?_;have aq:=bB.drew;have T:=za (s.out.ext u.out.ok aq);have aK:=za (show zfz wr.drew M n (rnM zs)/\¬ S3 M from ⟨H.out.1.ext aq,H.out.2⟩);have a5:=za (o.out.ext aq);have a8:=za (aF.out.ext aq);have ba:=za (V.out.1.ext aq);have cJ:N<=wr.drew.heap.size:=V.out.2;have bO:=za (bn.out.kp T.out);clear K2 K3 s H o aF V bB aq bW cs;generalize wr.drew=wd at *;have bu:=za (zhI (x:=y) u.out T.out.j oM bO.out HI.out ae.out.1 (oH ae.out.2) (oH T.out.size));rw [bt.out] at bu;go_simp;refine bu.out.mono ?_;rintro e w5 ⟨S5,rfl,p⟩;refine hK.out _ _ ?_;refine pT ?_;obtain⟨aT,cj⟩:=zfz.kp aK.out.1 aK.out.2 p;have b6:=za (T.out.trans p);have E:=za (a5.out.kp p);have cg:=za (a8.out.kp p);have t:=za (ba.out.kp p);have bT:N<=w5.heap.size:=dL cJ p.size;have az:=za (fun (q:Nat) (hq:w5.heap.size<=q)=>zbi.fresh u.out.ok p.j hq);clear bu p T aK a5 a8 ba bO;refine zb fun K hK=>?_;refine wp_mapAtG _ keyS _ _ rfl rfl aT m9 q9 rfl cM.out bS.out ?_;refine hK.out _ _ ?_;refine pT ?_;refine zb fun K hK=>?_;go_simp;refine hK.out _ _ ?_;refine pT ?_;obtain⟨wn,bA,bh⟩:=zdX w5 bT;have bD:=t.out.own;rw [<- bA] at bD;refine zb fun K hK=>?_;refine zaC wn w5 _ _ _ rfl 3 _ 1 8 Tryz.underlying110 zS rfl dM (fC A9 k c9) k (ints (d.take k)) _ _ rfl rfl bh.size bD rfl (zaL _) lM oM ?_;intro g9 cap9 w9 hown9 hg9 hat9 hlt9;refine hK.out _ _ ?_;refine pT ?_;refine uQ ?_;refine zg ?_;rw [bA] at hown9;have cO:=za (b6.out.grown u.out.ok hg9 (fun q hq=>⟨by have:=(t.out.own.lt q hq).1;omega,by have:=(t.out.own.lt q hq).1;omega,t.out.far q hq⟩));have b1:=za (E.out.grow t.out.own hg9);have aS:Frm (fun q=>(fC A9 k c9).ownBlock=fU q) w5 w9:=Frm.ab hg9;have cm:=za (show zfz w9 M n (rnM zs)/\¬ S5 M from ⟨aT.frm aS (fun e=>aT.aj t.out.own e),cj⟩);have ch:=za (cg.out.frm aS (fun b hb e=>by
      have h1:=(t.out.own.lt b e).1;have h2:=bR.out b hb;omega))
     have bz:=za (show d.take (k+1)=d.take k++[(q9:Int)] by rw [dN,aR.out];rfl);have ci:=za (show zgl w9 S5 N 3 1 (fC (fU g9) (k+1) cap9) (k+1) (ints (d.take (k+1)))/\N<=w9.heap.size from
      ⟨⟨by rw [bz.out,ints,eH];exact hown9,fun b hb=>by
       obtain rfl:=zeC hb;rcases hat9 with e|e
       ·exact t.out.far _ e
       ·exact az.out _ oM⟩,dL bT aS.size⟩)
     clear hown9 hg9 hat9 bD bA bh aS cj aT;go_wp2_with fail
     go_roundw
     case rel=>exact⟨k+1,S5,gM,oM,za (by have:=cO.out;rwa [show B+240+121*i+20*k+20=B+240+121*i+20*(k+1) by omega] at this),cm,b1,ch,ci⟩
     case measure=>exact uM
    ·obtain rfl:k=LL.length:=oM;obtain⟨A9,c9,rfl⟩:=zh V.out.1.own;have a9:=za (show wr.ownsRow N 3 1 (fC A9 LL.length c9) d.length (ints d) by
      have h1:=V.out.1.own;rw [dJ (by rw [ax.out];exact dD _)] at h1;rw [ax.out];exact h1)
     obtain⟨m,r1,r2,r3⟩:∃ m,wr.ownsRow w1.heap.size 110 1 v ls.length m/\zB wr w1.heap.size m ls/\∀ (i:Nat) (r:j4) (b:Nat),m[i]?=fU r->r.ownBlock=fU b->¬ S3 b/\b<N:=by
      obtain⟨wb,I,-,m,h⟩:=o.out.gra;exact⟨m,h⟩
     have aj:=za r1;have bP:=za r2;have bQ:=za r3;have bZ:=za (fun (q:Nat) (hq:wr.heap.size<=q)=>zbi.fresh u.out.ok s.out.j hq);have cP:ls.length<=12:=by rw [ap.out.1];simp;omega
     have kG:=o.out.blk.cell;have cp:w1.heap.size<=wr.heap.size:=s.out.size;obtain⟨Av,cv,rfl⟩:=zh r1;clear r1 r2 r3;go_upto_region 13 with (at_builtin;refine zI w1 wr rfl _ _ _ rfl 110 _ 1 24 Tryz.underlying24 zbp rfl dM (fC Av ls.length cv) ls.length m _ _ rfl rfl cp aj.out rfl (zaG _ _ _) lM oM ?_;intro g7 cap7 w7 hown7 hg7 hat7 hlt7;obtain⟨aQ,ag⟩:=o.out.push aj.out bP.out bQ.out cq a9.out V.out.1.far bZ.out hown7 hg7 hat7;have k7:=aQ.cell;have f7:=aQ.frozen)
     have a2:Frm (fun q=>(fC Av ls.length cv).ownBlock=fU q) wr w7:=Frm.ab hg7;have Y:zfz w7 M n (rnM zs):=H.out.1.frm a2 (fun e=>H.out.1.aj aj.out e);have aJ:=za (show zfz (w7.setCell ⟨G,1,fV⟩ (fC (fU g7) (ls.length+1) cap7)) M n (rnM zs)/\¬ S3 M from ⟨Y.frm (dG w7 G 1 _) (fun e=>Y.far aQ e.symm),H.out.2⟩);have aE:=za ((s.out.grown u.out.ok hg7 (fun q hq=>⟨(aj.out.lt q hq).1,by have:=(aj.out.lt q hq).1;omega,o.out.fv q hq⟩)).cell u.out.ok bk oM o.out.fG 1 (fC (fU g7) (ls.length+1) cap7));have Q:=za ag;clear hown7 hg7 hat7 aQ ag k7 f7 Y a2 kG s H o aF V a9 aj bP bQ bZ k2 k3;generalize w7.setCell ⟨G,1,fV⟩ (fC (fU g7) (ls.length+1) cap7)=w8 at *;have C6:∀ X,Frm S3 w8 X->∀ q,X.cell? ⟨G,q,fV⟩=#[Value.int iX (L:Int),fC (fU g7) (ls.length+1) cap7,vA][q]?:=fun X hX=>(Q.out.blk.frm hX Q.out.fG).cell;have C2:∀ X,Frm S3 w8 X->∀ q,X.cell? ⟨W.heap.size,q,fV⟩=#[Value.int iX (L:Int),.func (.func kn) #[rc] #[]][q]?:=fun X hX =>
      ((aE.out.blk B2.out (D.out _ (dD _))).1.frm hX (aE.out.blk B2.out (D.out _ (dD _))).2).cell
     have bY:Frm S3 w8 w8.drew:=(cY w8).drew.ak;obtain⟨A2,c2,rfl⟩:∃ A2 c2,vA=fC A2 g.length c2:=by
      obtain⟨wb,I,am,-⟩:=Q.out.gra;obtain⟨A2,c2,h⟩:=zh am.acc;exact⟨A2,c2,h⟩
     have a1:=za (u.out.ask _ w8.drew S3 x (u.out.ok.keep aE.out.j (cY w8).drew (fun _ _ h=>h.elim)) oM (HI.out.rin aW.out).1 oM);obtain⟨bb,ak⟩:∃ bb,Hid (f x=bb):=⟨_,za rfl⟩;rw [ak.out] at a1;have c7:g.length<=12:=by rw [ap.out.2];simp;omega
     refine uR (fun X=>Frm S3 w8 X) [7,9] (zy.of [0,1,2,3,4,5,6,7,8,9]) ?_;refine uQ ?_;refine ze fun K hK=>?_;go_simp;refine a1.out.mono ?_;rintro e w5 ⟨S5,rfl,p⟩;have bp:=bY.trans p.frm;refine hK.out _ _ bp ?_;refine pT ?_;have E:=za ((Q.out.ext (cY w8).drew).kp p);have ah:=zfz.kp (aJ.out.1.ext (cY w8).drew) aJ.out.2 p;have a7:=za ((aE.out.ext u.out.ok (cY w8).drew).trans p);have az:=za (fun (q:Nat) (hq:w5.heap.size<=q)=>zbi.fresh u.out.ok p.j hq);obtain⟨aw,co⟩:w5.ownsRow w1.heap.size 4 1 (fC A2 g.length c2) g.length (zY g)/\w1.heap.size<=w5.heap.size:=by
      obtain⟨wb,I,am,-⟩:=E.out.gra;have h1:=am.acc;rw [I] at h1;exact⟨h1,oH am.ext.size⟩
     refine ze fun K hK=>?_;go_simp;refine hK.out _ _ (bp.ext ((cY w5).alloc _)) ?_;refine pT ?_;refine zb fun K hK=>?_;refine zaC w1 w5 _ _ _ rfl 4 _ 1 1 Tryz.underlying25 zaJ rfl dM (fC A2 g.length c2) g.length (zY g) _ _ rfl rfl co aw rfl (by simp [Value.oneCell']) lM oM ?_;intro g6 cap6 w6 hown6 hg6 hat6 hlt6;obtain⟨aP,a4⟩:=E.out.pushA (x:=bb) az.out hown6 hg6 hat6;have k6:=aP.cell;have f6:=aP.frozen;refine hK.out _ _ ?_;refine pT ?_;refine uQ ?_;refine zb fun K hK=>?_;go_simp;refine hK.out _ _ ?_;refine zg ?_;have bX:Frm (fun q=>(fC A2 g.length c2).ownBlock=fU q) w5 w6:=Frm.ab hg6;have aI:zfz w6 M n (rnM zs):=ah.1.frm bX (fun e=>ah.1.aj aw e);have Y:=za (show zfz (w6.setCell ⟨G,2,fV⟩ (fC (fU g6) (g.length+1) cap6)) M n (rnM zs)/\¬ S5 M from ⟨aI.frm (dG w6 G 2 _) (fun e=>aI.far aP e.symm),ah.2⟩);have cN:=za (((a7.out.grown u.out.ok hg6 (fun q hq=>⟨(aw.lt q hq).1,by have:=(aw.lt q hq).1;omega,E.out.fA q hq⟩)).cell u.out.ok bk oM E.out.fG 2 (fC (fU g6) (g.length+1) cap6)).more u.out.ok (show _<=B+240+121*(i+1) by omega));have ag:=za a4.reN;have b7:=za (show ls++[d]=(rows.take (i+1)).map (zdG L f rows cols)/\g++[bb]=(rows.take (i+1)).map f by
      rw [dN,Hx.out,eG,eH,eH,<- ap.out.1,<- ap.out.2,<- ad.out,<- ak.out];exact⟨rfl,rfl⟩)
     clear hown6 hg6 hat6 aP a4 k6 f6 aI bX aw E ah a7 bp p bY C6 C2 aJ aE Q;generalize w6.setCell ⟨G,2,fV⟩ (fC (fU g6) (g.length+1) cap6)=w9 at *;go_wp2_with fail
     go_roundw
     case rel=>exact⟨i+1,S5,_,_,_,_,gM,oM,cN,Y,ag,b7⟩
     case measure=>exact uM
  ·obtain rfl:i=nr:=oM;have b9:=cb.out.1;have bz:=za (show rows.take i=rows from dJ oM);have cK:=za (show (⟨(L:Int),ls,g⟩:Aut)=zcM L f rows cols by
    have h1:=ap.out.1;have h2:=ap.out.2;rw [bz.out] at h1 h2;rw [h1,h2];rfl)
   obtain⟨Av,nv,cv,rfl⟩:∃ A n c,v=fC A n c:=by
    obtain⟨wb,I,-,m,h,-⟩:=o.out.gra;obtain⟨A,c,e⟩:=zh h;exact⟨A,_,c,e⟩
   obtain⟨A2,n2,c2,rfl⟩:∃ A n c,vA=fC A n c:=by
    obtain⟨wb,I,am,-⟩:=o.out.gra;obtain⟨A,c,e⟩:=zh am.acc;exact⟨A,_,c,e⟩
   have hA:=o.out.autS;rw [cK.out] at hA;have HA:=za hA;have kG:=o.out.blk.cell;have O:=U.out.blk B4.out (D.out _ oM);have k4:=O.1.cell;have f4:=O.1.frozen;have a6:=za ((U.out.more u.out.ok (show B+240+121*i<=B+1692 by omega)).back aU);have cn:=aU.size;clear k2 k3 hA b9;go_wp2_with fail
   have bC:=aut_ret (a:=zcM L f rows cols) u.out.ok a6.out HA.out O.1 O.2 oM oM cn;have cf:=bC.1.cell;have Hfin:=za bC.2;have bU:(zcM L f rows cols).al=(L:Int):=rfl;rw [bU] at cf Hfin;clear bC k4 f4 O a6 kG;generalize ((wr.setCell ⟨W.heap.size+1+1,0,fV⟩ (.int iX (L:Int))).setCell ⟨W.heap.size+1+1,1,fV⟩ (fC Av nv cv)).setCell ⟨W.heap.size+1+1,2,fV⟩ (fC A2 n2 c2)=w9 at *;exact bodyPost_ret (v:=j2 #[(L:Int),fC Av nv cv,fC A2 n2 c2]) (by simp [results,Tryz.results51,go_sem,cf]) rfl ⟨S1,Av,A2,nv,cv,n2,c2,rfl,Hfin.out.2,Hfin.out.1⟩
end
theorem zcw {f:Nat->Bool}{ls:List Nat}:∀ {q:Nat},(∀ l∈ls,p.al.toNat.testBit l=jU->f l=jU)->zal p q (ls.filter f)=zal p q ls:=by
 induction ls with
 |nil=>intro q _;rfl
 |cons l r a =>
  intro q h;have a:=fun {q}=>a (q:=q) (fun k hk=>h k (eC _ hk));rw [List.filter_cons];show _=zal p (aGo p q l) r;cases hf:f l
  ·have e:aGo p q l=q:=by
    unfold aGo;rw [if_neg];intro hb;have:=h l gD hb;rw [hf] at this;cases this
   rw [e];simpa using a
  ·simp only [if_true];exact a
theorem goes_filter {f:Nat->Bool}:∀ (n:Nat) (v:List Nat),v.length=n->(∀ l∈v,s.al.toNat.testBit l=jU->f l=jU)->∀ q,zbt (cho s) [0] (v.filter f) q↔zbt (cho s) [0] v q:=by
 intro n
 induction n with
 |zero =>
  intro v hl _ q;obtain rfl:=dP hl;exact Iff.rfl
 |succ n b =>
  intro v hl h q;rcases zZ v with rfl|⟨u,l,rfl⟩
  ·simp at hl
  have b:=b u (by simpa using hl) (fun k hk=>h k (by simp [hk]));rw [iG];cases hf:f l
  ·have c:s.al.toNat.testBit l=j1:=by
    rw [eU];intro c;have:=h l sM c;rw [hf] at this;cases this
   rw [show List.filter f [l]=[] by simp [hf],gK,b];constructor
   ·intro h1;exact .snoc h1 (by unfold cho;rw [c];simp)
   ·intro h1;obtain⟨m,h2,a⟩:=h1.inv;unfold cho at a;rw [c] at a;simp at a;rw [a];exact h2
  ·rw [show List.filter f [l]=[l] by simp [hf]];constructor
   ·intro h1;obtain⟨m,h2,a⟩:=h1.inv;exact .snoc ((b m).1 h2) a
   ·intro h1;obtain⟨m,h2,a⟩:=h1.inv;exact .snoc ((b m).2 h2) a
theorem zcY {f:Nat->Bool}(h:∀ l∈v,s.al.toNat.testBit l=jU->f l=jU):zji s (v.filter f)↔zji s v:=exists_congr fun q=>goes_filter _ v rfl h q
theorem zde (ss:List Sys) (l:Nat):(zG ss).testBit l=jU↔∃ s∈ss,s.al.toNat.testBit l=jU:=by
 have b:∀ (ss:List Sys) (u:Nat),(ss.foldl (fun a s=>a|||s.al.toNat) u).testBit l=jU↔u.testBit l=jU\/∃ s∈ss,s.al.toNat.testBit l=jU:=by
  intro ss
  induction ss with
  |nil=>intro u;simp
  |cons s r ih =>
   intro u;rw [List.foldl_cons,ih,fX,fM];simp [or_assoc]
 have:=b ss 0;simpa [zG] using this
def zgV (A:Nat) (v:List Nat):Prop:=∀ l∈v,l<6/\A.testBit l=jU
theorem zef {A:Nat} :(∀ l∈v,l∈letters A 6)↔zgV A v:=by unfold zgV;simp only [zC]
theorem ziP :zbk s a p=jU↔(zk s=jU/\zj a=jU/\zj p=jU)/\∀ v,zgV (s.al.toNat|||a.al.toNat) v->zji s v->zat a (zal a 0 v)=jU->zat p (zal p 0 v)=jU:=by
 unfold zbk zcn;simp only [dH,gG];constructor
 ·rintro ⟨⟨h1,h2,b⟩,d⟩;refine⟨⟨h1,h2,b⟩,fun v c h f=>?_⟩;cases g:zat p (zal p 0 v)
  ·have:=(zkd (ss:=[s]) (by simpa using h1) h2 b).2 ⟨v,zef.2 (by simpa [zG] using c),by simpa using h,f,g⟩;rw [d] at this;cases this
  ·rfl
 ·rintro ⟨⟨h1,h2,b⟩,d⟩;refine⟨⟨h1,h2,b⟩,?_⟩;rw [eU];intro c;obtain⟨v,c,h,f,g⟩:=(zkd (ss:=[s]) (by simpa using h1) h2 b).1 c;have:=d v (by have:=zef.1 c;simpa [zG] using this) (h s sM) f;rw [g] at this;cases this
theorem runA_free (q:Nat) (v:List Nat):zal free q v=q:=by
 induction v generalizing q with
 |nil=>rfl
 |cons l r ih =>
  show zal free (aGo free q l) r=q;rw [show aGo free q l=q by simp [aGo,free],ih]
theorem zeP :zaE ss p=jU↔(zE ss=jU/\zj p=jU)/\∀ v,zgV (zG ss) v->(∀ s∈ss,zji s v)->zat p (zal p 0 v)=jU:=by
 unfold zaE zcz;simp only [dH,gG];have h:∀ v,zat free (zal free 0 v)=jU:=fun v=>by rw [runA_free];rfl
 have g:zG ss|||free.al.toNat=zG ss:=by simp [free]
 constructor
 ·rintro ⟨⟨h1,h2⟩,c⟩;refine⟨⟨h1,h2⟩,fun v b f=>?_⟩;cases d:zat p (zal p 0 v)
  ·have:=(zkd (a:=free) (zbc h1).2 zdI h2).2 ⟨v,zef.2 (by rw [g];exact b),f,h v,d⟩;rw [c] at this;cases this
  ·rfl
 ·rintro ⟨⟨h1,h2⟩,c⟩;refine⟨⟨h1,h2⟩,?_⟩;rw [eU];intro b;obtain⟨v,b,f,i,d⟩:=(zkd (a:=free) (zbc h1).2 zdI h2).1 b;have:=c v (by rw [g] at b;exact zef.1 b) f;rw [d] at this;cases this
theorem ag_sound (hu:zbk s a p=jU)(hk:zaE ts a=jU)(hl:a.al.toNat=(s.al.toNat|||p.al.toNat)&&&zG ts)(hp:zE (s :: ts)=jU):zaE (s :: ts) p=jU:=by
 obtain⟨⟨h1,h2,q⟩,r⟩:=ziP.1 hu;obtain⟨⟨B,C⟩,x⟩:=zeP.1 hk;refine zeP.2 ⟨⟨hp,q⟩,fun v hv hr=>?_⟩;have b:∀ l,a.al.toNat.testBit l=jU↔(s.al.toNat.testBit l=jU\/p.al.toNat.testBit l=jU)/\(zG ts).testBit l=jU:=by
  intro l;rw [hl,fO,fX,dH,fM]
 have k:zgV (s.al.toNat|||a.al.toNat) (v.filter fun l=>(s.al.toNat|||a.al.toNat).testBit l):=fun l hl=>by
  obtain⟨i,j⟩:=kL.1 hl;exact⟨(hv l i).1,j⟩
 have m:zgV (zG ts) (v.filter fun l=>(zG ts).testBit l):=fun l hl=>by
  obtain⟨i,j⟩:=kL.1 hl;exact⟨(hv l i).1,j⟩
 have f:∀ l,s.al.toNat.testBit l=jU->(s.al.toNat|||a.al.toNat).testBit l=jU:=fun l h=>by rw [fX,h];rfl
 have g:∀ l,a.al.toNat.testBit l=jU->(s.al.toNat|||a.al.toNat).testBit l=jU:=fun l h=>by rw [fX,h,Bool.or_true]
 have y:=(zcY (fun l _ h=>f l h)).2 (hr s gD);have z:∀ t∈ts,zji t (v.filter fun l=>(zG ts).testBit l):=fun t ht=>(zcY (fun l _ h=>(zde ts l).2 ⟨t,ht,h⟩)).2 (hr t (eC _ ht));have n:=x _ m z;rw [zcw (fun l _ h=>((b l).1 h).2)] at n;have o:=r _ k y;rw [zcw (fun l _ h=>g l h),zcw (fun l hl h=>?_)] at o
 ·exact o n
 ·cases hs:s.al.toNat.testBit l
  ·refine g l ((b l).2 ⟨.inr h,?_⟩);obtain⟨u,c,d⟩:=(zde _ l).1 (hv l hl).2;rcases kH.1 c with rfl|c
   ·rw [hs] at d;cases d
   ·exact (zde ts l).2 ⟨u,c,d⟩
  ·exact f l hs
theorem runB_goes {p:Nat}(hf:Few p s.edges)(hp:p<=16):∀ (n:Nat) (v:List Nat),v.length=n->(∀ l∈v,s.al.toNat.testBit l=jU)->∀ q,(runB s.edges 1 v).testBit q=jU↔zbt (cho s) [0] v q:=by
 intro n
 induction n with
 |zero =>
  intro v hl _ q;obtain rfl:=dP hl;constructor
  ·intro h;refine .nil ?_;cases q with
   |zero=>simp
   |succ q =>
    exfalso;have h1:(1:Nat).testBit (q+1)=jU:=h;rw [Nat.testBit_succ] at h1;simp at h1
  ·intro h;have:=h.ah;simp at this;subst this;show (1:Nat).testBit 0=jU;decide
 |succ n b =>
  intro v hl h q;rcases zZ v with rfl|⟨u,l,rfl⟩
  ·simp at hl
  have b:=b u (by simpa using hl) (fun k hk=>h k (by simp [hk]));rw [runB_snoc,zdU];have d:=h l sM;constructor
  ·rintro ⟨e,a,⟨h1,h2⟩,rfl⟩;have j:=hf e a;refine .snoc ((b _).1 h2) ?_;unfold cho;rw [if_pos d];refine zC.2 ⟨oM,(zeo _ _ _ _).2 ⟨e,a,⟨oM,h1⟩,rfl⟩⟩
  ·intro h1;obtain⟨m,h2,c⟩:=h1.inv;unfold cho at c;rw [if_pos d] at c;obtain⟨e,a,⟨f,g⟩,i⟩:=(zeo _ _ _ _).1 (zC.1 c).2;exact⟨e,a,⟨g,by rw [f];simpa using (b m).2 h2⟩,i⟩
theorem bits_some {x:Nat}:(x != 0)=jU↔∃ q,x.testBit q=jU:=by
 rw [bne_iff_ne];constructor
 ·intro h;apply Classical.byContradiction;intro hn;refine h (fH fun q=>?_);rw [iI,eU];exact fun a=>hn ⟨q,a⟩
 ·rintro ⟨q,a⟩ rfl;rw [iI] at a;cases a
theorem aft_runs (hv:zk s=jU)(hw:zbg x=jU):(aftB s (zbx x s.al.toNat) != 0)=jU↔zji s (wl x):=by
 obtain⟨p,_,_,a,b⟩:=zdg hv;unfold aftB;rw [hv,zcQ hw,Bool.and_self,if_pos rfl,zhj hw,bits_some];refine Iff.trans ?_ (zcY (f:=fun l=>s.al.toNat.testBit l) (fun l _ h=>h));exact exists_congr fun q=>runB_goes b a _ _ rfl (fun l hl=>by simpa using (kL.1 hl).2) q
theorem top_iff :topB ss x=jU↔zE ss=jU/\zbg x=jU/\zgV (zG ss) (wl x)/\∀ s∈ss,zji s (wl x):=by
 unfold topB;simp only [dH,eK];constructor
 ·rintro ⟨h1,h2,a⟩;have c:=zbj h2;refine⟨h1,c,fun l hl=>⟨zkg c l hl,?_⟩,fun s hs=>(aft_runs ((zbc h1).2 s hs) c).1 (a s hs)⟩;have b:=(zey.1 h2).2;have d:=(zdw (wl x) l).2 hl;rw [<- b,fO,dH] at d;exact d.2
 ·rintro ⟨h1,h2,a,b⟩;refine⟨h1,zey.2 ⟨h2,fH fun k=>?_⟩,fun s hs=>(aft_runs ((zbc h1).2 s hs) h2).2 (b s hs)⟩;rw [fO];cases hk:(alB (wl x)).testBit k
  ·rfl
  ·rw [(a k ((zdw _ k).1 hk)).2];rfl
theorem zeS (h1:1<=ss.length)(h3:ss.length<=3)(hv:∀ s∈ss,zk s=jU):zE ss=jU:=by
 unfold zE;simp only [dH,decide_eq_true_eq,eK];exact⟨h1,h3,hv⟩
theorem fault_zero {f g:Aut}:faultN ss p f g=0↔∃ x y z,ss=[x,y,z]/\three ss p=jU/\zj f=jU/\zj g=jU/\f.al=chain1 ss p/\g.al=chain2 ss p/\zbk x f p=jU/\zbk y g f=jU/\zaE [z] g=jU:=by
 constructor
 ·intro h;unfold faultN at h
  by_cases h1:(three ss p&&(zj f&&zj g))=j1
  ·rw [if_pos h1] at h;omega
  rw [if_neg h1] at h
  by_cases h2:(decide (f.al=chain1 ss p)&&decide (g.al=chain2 ss p))=j1
  ·rw [if_pos h2] at h;omega
  rw [if_neg h2] at h;simp only [jH,dH,decide_eq_true_eq] at h1 h2;obtain⟨x,y,z,rfl⟩:=three_list h1.1;dsimp only at h
  by_cases a:(zbk x f p&&zbk y g f)=j1
  ·rw [if_pos a] at h;omega
  rw [if_neg a] at h
  by_cases b:zaE [z] g=j1
  ·rw [if_pos b] at h;omega
  simp only [jH,dH] at a b;exact⟨x,y,z,rfl,h1.1,h1.2.1,h1.2.2,h2.1,h2.2,a.1,a.2,b⟩
 ·rintro ⟨x,y,z,rfl,h1,h2,a,b,c,d,i,j⟩;unfold faultN;rw [if_neg (by rw [h1,h2,a];decide),if_neg (by rw [decide_eq_true b,decide_eq_true c];decide)];dsimp only;rw [if_neg (by rw [d,i];decide),if_neg (by rw [j];decide)]
theorem zdJ (hs:zk s=jU)(hp:zj p=jU)(ht:zk t=jU):iface s p t=(((s.al.toNat|||p.al.toNat)&&&t.al.toNat:Nat):Int):=by
 unfold iface;rw [hs,hp,ht];rfl
theorem zhu :zer s t p a=0↔0<=iface s p t/\zj a=jU/\a.al=iface s p t/\zbk s a p=jU/\zaE [t] a=jU:=by
 unfold zer;constructor
 ·intro h
  by_cases h1:iface s p t<0\/zj a=j1
  ·rw [if_pos h1] at h;omega
  rw [if_neg h1] at h
  by_cases h2:a.al≠iface s p t
  ·rw [if_pos h2] at h;omega
  rw [if_neg h2] at h
  by_cases b:zbk s a p=j1
  ·rw [if_pos b] at h;omega
  rw [if_neg b] at h
  by_cases c:zaE [t] a=j1
  ·rw [if_pos c] at h;omega
  simp only [jH] at b c;refine⟨?_,?_,Classical.not_not.1 h2,b,c⟩
  ·apply Classical.byContradiction;intro hn;exact h1 (.inl oM)
  ·cases hb:zj a
   ·exact absurd (.inr hb) h1
   ·rfl
 ·rintro ⟨h1,h2,b,c,d⟩;rw [if_neg (by rintro (h|h);omega;rw [h2] at h;cases h),if_neg (by intro h;exact h b),if_neg (by rw [c];decide),if_neg (by rw [d];decide)]
theorem zbo (h:0<=iface s p t):zk s=jU/\zj p=jU/\zk t=jU:=by
 have h1:¬ iface s p t<0:=oM;rw [iface_neg] at h1;simpa using h1
theorem zgA (h:zer s t p a=0):zaE [s,t] p=jU:=by
 obtain⟨h1,h2,d,f,g⟩:=zhu.1 h;obtain⟨b,i,c⟩:=zbo h1;refine ag_sound f g ?_ (zeS sM sM (by simp;exact⟨b,c⟩));rw [d,zdJ b i c];simp [zG]
theorem shuffle (a b:Nat->Bool):∀ (n:Nat) (v u:List Nat),v.length+u.length<=n->(∀ l∈v,a l=jU)->(∀ l∈u,b l=jU)->v.filter b=u.filter a ->
  ∃ z:List Nat,z.filter a=v/\z.filter b=u/\∀ l∈z,l∈v\/l∈u:=by
 intro n
 induction n with
 |zero =>
  intro v u hn _ _ _;obtain rfl:=dP (show v.length=0 by omega);obtain rfl:=dP (show u.length=0 by omega);exact⟨[],rfl,rfl,sM⟩
 |succ n ih =>
  intro v u hn hv hu he
  match v,u with
  |[],[]=>exact⟨[],rfl,rfl,sM⟩
  |[],m :: u =>
   have g:a m=j1:=by
    cases g:a m
    ·rfl
    ·rw [List.filter_nil,eQ g] at he;cases he
   obtain⟨z,h1,h2,d⟩:=ih [] u (by simp at hn ⊢;omega) sM (fun l f=>hu l (eC _ f)) (by rw [fF (by rw [g];decide)] at he;exact he);refine⟨m :: z,by rw [fF (by rw [g];decide)];exact h1,by rw [eQ (hu m sM),h2],fun l f=>?_⟩;rcases kH.1 f with rfl|f
   ·exact .inr sM
   ·rcases d l f with h|h
    ·exact .inl h
    ·exact .inr (eC _ h)
  |l :: v,u =>
   cases hb:b l
   ·obtain⟨z,h1,h2,d⟩:=ih v u (by simp at hn ⊢;omega) (fun x c=>hv x (eC _ c)) hu (by rw [fF (by rw [hb];decide)] at he;exact he);refine⟨l :: z,by rw [eQ (hv l sM),h1],by rw [fF (by rw [hb];decide)];exact h2,fun x c=>?_⟩;rcases kH.1 c with rfl|c
    ·exact .inl sM
    ·rcases d x c with h|h
     ·exact .inl (eC _ h)
     ·exact .inr h
   ·cases u with
    |nil=>rw [eQ hb,List.filter_nil] at he;cases he
    |cons m u =>
     cases ha:a m
     ·obtain⟨z,h1,h2,d⟩:=ih (l :: v) u (by simp at hn ⊢;omega) hv (fun x c=>hu x (eC _ c)) (by rw [fF (a:=m) (by rw [ha];decide)] at he;exact he);refine⟨m :: z,by rw [fF (by rw [ha];decide)];exact h1,by rw [eQ (hu m sM),h2],fun x c=>?_⟩;rcases kH.1 c with rfl|c
      ·exact .inr sM
      ·rcases d x c with h|h
       ·exact .inl h
       ·exact .inr (eC _ h)
     ·rw [eQ hb,eQ ha] at he;obtain⟨rfl,i⟩:=List.cons.inj he;obtain⟨z,h1,h2,d⟩:=ih v u (by simp at hn ⊢;omega) (fun x c=>hv x (eC _ c)) (fun x c=>hu x (eC _ c)) i;refine⟨l :: z,by rw [eQ ha,h1],by rw [eQ hb,h2],fun x c=>?_⟩;rcases kH.1 c with rfl|c
      ·exact .inl sM
      ·rcases d x c with h|h
       ·exact .inl (eC _ h)
       ·exact .inr (eC _ h)
section
variable {s:Sys}{p:Aut}{A:Nat}
theorem cl_word {B:Nat->Nat->Prop}{w:List Nat}(hB:∀ q i,B q i->∃ v,(∀ l∈v,l<6/\(s.al.toNat.testBit l=jU\/A.testBit l=jU))/\v.filter (fun l=>A.testBit l)=w/\zbt (cho s) [0] v q/\i=zal p 0 v){q i:Nat}(h:Cl s p A B q i) :
  ∃ v,(∀ l∈v,l<6/\(s.al.toNat.testBit l=jU\/A.testBit l=jU))/\v.filter (fun l=>A.testBit l)=w/\zbt (cho s) [0] v q/\i=zal p 0 v:=by
 induction h with
 |base h=>exact hB _ _ h
 |@hid q i l q' _ hl hq ih =>
  obtain⟨v,h1,h2,b,c⟩:=ih;obtain⟨d,f,g⟩:=hl;refine⟨v++[l],fun x a=>?_,by rw [iG,h2,fF (by rw [g];decide)];simp,.snoc b hq,by rw [zaN,c]⟩;rcases kD.1 a with a|a
  ·exact h1 x a
  ·obtain rfl:=List.mem_singleton.1 a;exact⟨d,.inl f⟩
theorem prR_word:∀ (r:List Nat),(∀ l∈r,l<6/\A.testBit l=jU)->∀ q i,prR s p A r q i ->
  ∃ v,(∀ l∈v,l<6/\(s.al.toNat.testBit l=jU\/A.testBit l=jU))/\v.filter (fun l=>A.testBit l)=r.reverse/\zbt (cho s) [0] v q/\i=zal p 0 v:=by
 intro r
 induction r with
 |nil =>
  intro _ q i h;refine cl_word (fun q i hb=>?_) h;obtain⟨rfl,rfl⟩:=hb;exact⟨[],sM,rfl,.nil sM,rfl⟩
 |cons l r ih =>
  intro hr q i h;refine cl_word (fun q i hb=>?_) h;obtain⟨m,j,h1,h2,rfl⟩:=hb;obtain⟨v,c,d,f,g⟩:=ih (fun x a=>hr x (eC _ a)) m j h1;obtain⟨k,b⟩:=hr l sM;refine⟨v++[l],fun x a=>?_,by rw [iG,d,eQ b,List.reverse_cons];rfl,.snoc f h2,by rw [zaN,g]⟩;rcases kD.1 a with a|a
  ·exact c x a
  ·obtain rfl:=List.mem_singleton.1 a;exact⟨k,.inr b⟩
theorem word_prR:∀ (n:Nat) (v:List Nat),v.length=n->(∀ l∈v,l<6/\(s.al.toNat.testBit l=jU\/A.testBit l=jU))->∀ q,zbt (cho s) [0] v q->prR s p A (v.filter fun l=>A.testBit l).reverse q (zal p 0 v):=by
 intro n
 induction n with
 |zero =>
  intro v hl _ q h;obtain rfl:=dP hl;have c:=h.ah;simp only [List.mem_singleton] at c;exact .base ⟨c,rfl⟩
 |succ n ih =>
  intro v hl hv q h;rcases zZ v with rfl|⟨w,l,rfl⟩
  ·simp at hl
  obtain⟨m,h1,h2⟩:=h.inv;have d:=ih w (by simpa using hl) (fun a ha=>hv a (by simp [ha])) m h1;obtain⟨f,i⟩:=hv l sM;rw [zaN,iG];cases hA:A.testBit l
  ·rw [fF (by rw [hA];decide),List.filter_nil,gK];have b:s.al.toNat.testBit l=jU:=by
    rcases i with h|h
    ·exact h
    ·rw [hA] at h;cases h
   have g:∀ (r:List Nat) {q' i'},prR s p A r m i'->q'∈cho s m l->prR s p A r q' (aGo p i' l):=by
    intro r q' i' hp hq;cases r with
    |nil=>exact .hid hp ⟨f,b,hA⟩ hq
    |cons a r=>exact .hid hp ⟨f,b,hA⟩ hq
   exact g _ d h2
  ·rw [eQ hA,List.filter_nil,List.reverse_append];exact .base ⟨m,_,d,h2,rfl⟩
theorem bad_iff {w:List Nat}(hw:∀ l∈w,l<6/\A.testBit l=jU):Bad s p A w↔∃ v,(∀ l∈v,l<6/\(s.al.toNat.testBit l=jU\/A.testBit l=jU))/\v.filter (fun l=>A.testBit l)=w/\zji s v/\zat p (zal p 0 v)=j1:=by
 constructor
 ·rintro ⟨q,i,h1,h2⟩;obtain⟨v,b,a,c,d⟩:=prR_word w.reverse (fun l hl=>hw l (List.mem_reverse.1 hl)) q i h1;rw [List.reverse_reverse] at a;exact⟨v,b,a,⟨q,c⟩,by rw [<- d];exact h2⟩
 ·rintro ⟨v,h1,h2,⟨q,b⟩,a⟩;refine⟨q,_,?_,a⟩;have:=word_prR (p:=p) (A:=A) _ v rfl h1 q b;rw [h2] at this;exact this
end
theorem runs_take (h:zji s v) (k:Nat):zji s (v.take k):=by
 have a:∀ (n:Nat) (v u:List Nat),u.length=n->zji s (v++u)->zji s v:=by
  intro n
  induction n with
  |zero =>
   intro v u hl h;obtain rfl:=dP hl;rwa [gK] at h
  |succ n ih =>
   intro v u hl h;rcases zZ u with rfl|⟨w,l,rfl⟩
   ·simp at hl
   obtain⟨q,b⟩:=h;rw [<- List.append_assoc] at b;obtain⟨m,h1,-⟩:=b.inv;exact ih v w (by simpa using hl) ⟨m,h1⟩
 refine a _ (v.take k) (v.drop k) rfl ?_;rwa [List.take_append_drop]
theorem take_filter (f:Nat->Bool):∀ (u:List Nat) (k:Nat),k<=(u.filter f).length->∃ j,(u.take j).filter f=(u.filter f).take k:=by
 intro u
 induction u with
 |nil=>intro k _;exact⟨0,sM⟩
 |cons a r ih =>
  intro k hk;cases ha:f a
  ·rw [fF (by rw [ha];decide)] at hk ⊢;obtain⟨j,b⟩:=ih k hk;exact⟨j+1,by rw [List.take_succ_cons,fF (by rw [ha];decide)];exact b⟩
  ·rw [eQ ha] at hk ⊢;cases k with
   |zero=>exact⟨0,sM⟩
   |succ k =>
    obtain⟨j,b⟩:=ih k (by simpa using hk);exact⟨j+1,by rw [List.take_succ_cons,eQ ha,b,List.take_succ_cons]⟩
theorem zgj {x:Sys}{u:List Nat}(hL:L=(x.al.toNat|||p.al.toNat)&&&zG ts)(hpa:zE (x :: ts)=jU)(hu:zgV (zG ts) u)(hr:∀ t∈ts,zji t u)
  (hs:¬ SafeW x p L (u.filter fun l=>L.testBit l)):zaE (x :: ts) p=j1:=by
 have b:∀ l,L.testBit l=jU↔(x.al.toNat.testBit l=jU\/p.al.toNat.testBit l=jU)/\(zG ts).testBit l=jU:=by
  intro l;rw [hL,fO,fX];simp
 obtain⟨k,o,i⟩:∃ k,k<=(u.filter fun l=>L.testBit l).length/\Bad x p L ((u.filter fun l=>L.testBit l).take k):=by
  apply Classical.byContradiction;intro hn;exact hs (fun k o hb=>hn ⟨k,o,hb⟩)
 obtain⟨j,F⟩:=take_filter (fun l=>L.testBit l) u k o;rw [<- F] at i;have c:zgV (zG ts) (u.take j):=fun l hl=>hu l (List.mem_of_mem_take hl);have r:∀ t∈ts,zji t (u.take j):=fun t d=>runs_take (hr t d) j;generalize u.take j=u at *;obtain⟨v,h1,h2,D,E⟩:=(bad_iff (fun l hl=>by
  obtain⟨g,a⟩:=kL.1 hl;exact⟨(c l g).1,a⟩)).1 i
 obtain⟨z,s,G,y⟩:=shuffle (fun l=>x.al.toNat.testBit l || L.testBit l) (fun l=>(zG ts).testBit l) _ v u (dD _) (fun l hl=>by
   rcases (h1 l hl).2 with h|h<;>simp [h]) (fun l hl=>(c l hl).2) (by
  have B:v.filter (fun l=>(zG ts).testBit l)=v.filter (fun l=>L.testBit l):=by
   refine List.filter_congr fun l hl=>?_;rw [gJ,b];refine⟨fun h=>?_,fun h=>h.2⟩;rcases (h1 l hl).2 with g|g
   ·exact⟨.inl g,h⟩
   ·exact (b l).1 g
  have C:u.filter (fun l=>x.al.toNat.testBit l || L.testBit l)=u.filter (fun l=>L.testBit l):=by
   refine List.filter_congr fun l hl=>?_;rw [gJ,fM];refine⟨fun h=>?_,.inr⟩;rcases h with h|h
   ·exact (b l).2 ⟨.inl h,(c l hl).2⟩
   ·exact h
  rw [B,C,h2])
 have q:zgV (zG (x :: ts)) z:=by
  intro l hl;rw [zde];rcases y l hl with h|h
  ·obtain⟨g,a⟩:=h1 l h;refine⟨g,?_⟩;rcases a with a|a
   ·exact⟨x,sM,a⟩
   ·obtain⟨t,d,n⟩:=(zde ts l).1 ((b l).1 a).2;exact⟨t,eC _ d,n⟩
  ·obtain⟨g,a⟩:=c l h;obtain⟨t,d,n⟩:=(zde ts l).1 a;exact⟨g,t,eC _ d,n⟩
 rw [eU];intro hkp;have m:=(zeP.1 hkp).2 z q (fun t d=>by
  rcases kH.1 d with rfl|d
  ·refine (zcY (f:=fun l=>t.al.toNat.testBit l || L.testBit l) (fun l _ hb=>by simp [hb])).1 ?_;rw [s];exact D
  ·refine (zcY (f:=fun l=>(zG ts).testBit l) (fun l _ hb=>(zde ts l).2 ⟨t,d,hb⟩)).1 ?_;rw [G];exact r t d)
 have e:zal p 0 z=zal p 0 v:=by
  rw [<- s];refine (zcw fun l hl hb=>?_).symm;rcases y l hl with h|h
  ·rcases (h1 l h).2 with a|a<;>simp [a]
  ·have:=(b l).2 ⟨.inr hb,(c l h).2⟩;simp [this]
 rw [e,E] at m;cases m
theorem Frm.grownG {T:Nat->Prop}{row:Option Nat}(h:Frm T w W)(hg:W.grownBy W' row)(hr:∀ k,row=fU k->w.heap.size<=k):Frm T w W':=
 ⟨hg.os.trans h.os,hg.tape.trans h.tape,hg.output.trans h.output,dL h.size hg.size,fun k hk hn=>(hg.block k (Nat.lt_of_lt_of_le hk h.size) (fun e=>by have:=hr k e.symm;omega)).trans (h.block k hk hn)⟩
structure Gr2 (w0 W:jX) (G:Nat) (al st:Int) (v:j4) (es:List Edg):Prop where
 blk:Blk W G 38 #[al,st,v]
 own:W.ownsRow w0.heap.size 117 3 v es.length (zw es)
 fr:Frm (fun k=>k=G) w0 W
 hG:G<w0.heap.size
theorem Gr2.aw {v:j4}(h:Gr2 w0 W G al st v es)(hb:Ext W W'):Gr2 w0 W' G al st v es:=⟨h.blk.ext hb,zi h.own hb,h.fr.ext hb,h.hG⟩
theorem Gr2.push {v:j4}{cap:Nat}{e:Edg}(h:Gr2 w0 W G al st v es) (zkh:W'.ownsRow w0.heap.size 117 3 (fC (fU g) (es.length+1) cap) (es.length+1) (zw es++[.int iX e.fr,.int iX e.le,.int iX e.ta]))
  (hg:W.grownBy W' v.ownBlock) :
  Hid (W'.cell? ⟨G,2,fV⟩=fU v)/\W'.frozen? ⟨G,2,fV⟩=j1/\Gr2 w0 (W'.setCell ⟨G,2,fV⟩ (fC (fU g) (es.length+1) cap)) G al st (fC (fU g) (es.length+1) cap) (es++[e]):=by
 have a:Blk W' G 38 #[.int iX al,.int iX st,v]:=(hg.block G h.blk.lt (fun e=>by have:=(h.own.lt G e.symm).1;have:=h.hG;omega)).trans h.blk;have f:=(zkh.lt g rfl).1;have c:=h.hG;have d:Frm (fun k=>k=G) w0 W':=h.fr.grownG hg (fun k hk=>(h.own.lt k hk).1);refine⟨a.cell 2,a.frozen 2,⟨by simpa using a.ae 2 _,?_,d.cell rfl _,c⟩⟩;have:=zf zkh (dG W' G 2 (fC (fU g) (es.length+1) cap)) (fun b hv hS=>by
  have:g=b:=by simpa [Value.ownBlock] using hv
  omega)
 rw [zcC];simpa [zw] using this
theorem spec_l2Rank {p:Nat}(hp:p<=16)(hk:k<=p) :
  j6 j3 297 #[.int iX (2 ^ p - 1:Nat),k] w fun e w'=>e=j5 (.int iX (k:Nat))/\w=w':=by
 have f:2 ^ p - 1<65536:=by have:=eD (show 1<=2 by omega) hp;have:(2:Nat) ^ 16=65536:=rfl;omega
 have c:=za (fun i (a:i<p)=>show (2 ^ p - 1).testBit i=jU by rw [Nat.testBit_two_pow_sub_one];simpa using a);generalize 2 ^ p - 1=F at *
 go_enter Tryz.func297,Tryz.ntmps297
 go_wp2_with fail
 go_loop [5,6] (fun v iv=>∃ i:Nat,iv=.int iX i/\i<=k/\v=.int iX i) (fun _ iv=>k - (intOf iv).toNat)
 case atStart=>exact⟨0,rfl,dF _,rfl⟩
 case round =>
  obtain⟨i,rfl,a,rfl⟩:=hrel
  by_cases hlt:i<k
  ·have b:(i:Int)<(k:Int):=oM;have d:=za (c.out i oM);go_wp2_with (go_at_call 143;refine (zav F i tM _ oM).mono ?_;rw [d.out];rintro e w' ⟨rfl,rfl⟩)
   go_round
   case rel=>exact⟨i+1,gM,oM,gM⟩
   case measure=>exact uM
  ·obtain rfl:i=k:=oM;go_wp2_with fail
   go_ret;exact⟨rfl,rfl⟩
section
variable {w W:jX}{lo hi n c m d m' d':Nat}{A B B':Option Addr}{s:Sys}{p:Aut}
theorem yW13a2 {P:Prop}(h:P:=by
 refine zb fun K hK=>?_;go_simp;refine hK.out _ _ ?_;refine zg ?_;go_wp2_with fail
 go_meet;obtain⟨w1,h1,h2⟩:=Hfin.out;exact⟨w1,rfl,h1,h2⟩
 ):P:=h
theorem spec_l2Keep {P:Nat}(h:zU w lo hi A n s)(hv:zk s=jU)(hP:s.st=(P:Int))(hn:n<=1000000)(hhi:hi<=w.heap.size) :
  j6 j3 269 #[j2 #[s.al,s.st,fC A n c],.int iX (2 ^ P - 1:Nat)] w (RetSys w s):=by
 have ap:=zcj hv;obtain⟨an,ao,I,-⟩:=ap;have D:P<=16:=oM;have M:s.st.toNat=P:=oM;rw [M] at I;have Hf:=za I;have HS:=za (fun W (hW:Ext w W)=>h.ext hW);have Z:=za h.1;have ad:=za hP;have hF:2 ^ P - 1<65536:=by have:=eD (show 1<=2 by omega) D;have:(2:Nat) ^ 16=65536:=rfl;omega
 have G:=za (fun k W (Y:k<=P)=>spec_l2Rank (w:=W) D Y);have HB:=za (fun i (hi:i<P)=>show (2 ^ P - 1).testBit i=jU by rw [Nat.testBit_two_pow_sub_one];simpa using hi);rw [hP];generalize 2 ^ P - 1=F at *;clear h hv hP an ao I M
 go_enter Tryz.func269,Tryz.ntmps269
 go_upto_region 1 with fail
 generalize U0:(w.alloc _).alloc _=l at *;obtain⟨t,b1,b2⟩:=Ext.x2_ U0;clear U0;have CB:=b1.cells;have B:=cY l;have aS:=b2.lt;have O:=za (fun W=>G.out P W (dD _));have j:=B.drew;have ar:=(cY l.drew).alloc (.cells #[(0:Int),(0:Int),()] 38);have bG:=dZ l.drew 38 #[(0:Int),(0:Int),()]
 go_cut [5] (fun v wx=>∃ w1,v=.pointer (fU l.heap.size)/\Ext l w1/\Gr2 w1 wx l.heap.size s.al (P:Nat) (fC fV 0 0) [])
 case first =>
  have U:∃ w1,Ext l w1/\Gr2 w1 (l.alloc (.cells #[s.al,.int iX (P:Nat),()] 38)).drew l.heap.size s.al (P:Nat) (fC fV 0 0) []:=
   ⟨(l.alloc (.cells #[s.al,.int iX (P:Nat),()] 38)).drew,((cY _).alloc _).drew,dZ l _ _,World.ownsRow_nil _ _ _ _,Frm.refl _ _,sM⟩
  have Hfin:=za U;have cG:=bG.cell;have fG:=bG.frozen;rw [show l.drew.heap.size=l.heap.size from rfl] at cG fG;clear U;refine uR (fun X=>Ext l X) [8] (zy.app [0,1,2,3,4] (zy.two 5 (zy.of [6,7,8]) 7 (zy.of [5,6,8]))) ?_;refine uQ ?_;refine zn (fun K hK=>?_) (fun K hK=>?_)
  ·go_simp;refine (O.out _).mono ?_;rintro e T ⟨rfl,rfl⟩;refine hK.out _ _ j ?_;refine pT ?_;refine uQ ?_;refine ze fun K hK=>?_;go_simp;refine hK.out _ _ (j.alloc _) ?_;refine pT ?_;exact yW13a2
  ·go_simp;refine hK.out _ _ (j.alloc _) ?_;refine pT ?_;refine ze fun K hK=>?_;go_simp;refine (O.out _).mono ?_;rintro e T ⟨rfl,rfl⟩;refine hK.out _ _ (j.alloc _) ?_;refine pT ?_;refine uQ ?_;exact yW13a2
 case rest =>
  obtain⟨w1,rfl,f,a⟩:=hcut;have ae:=za (fun W (hW:Ext w1 W)=>HS.out W (t.trans (f.trans hW)));have ab:∀ W,Frm (fun k=>k=l.heap.size) w1 W->∀ q,W.cell? ⟨w.heap.size,q,fV⟩=#[Value.int iX s.al,.int iX (P:Nat),fC A n c][q]?:=fun W hW=>((b1.ext f).frm hW oM).cell;have aC:=f.size;clear ar bG j CB B;go_wp2_with fail
  go_loopw [6] (fun iv wr=>∃ (k:Nat) (v:j4),iv=.int iX k/\k<=n/\Gr2 w1 wr l.heap.size s.al (P:Nat) v (s.edges.take k)) (fun iv _=>n - (intOf iv).toNat)
  case atStart=>exact⟨0,_,rfl,dF _,a⟩
  case round =>
   clear a;obtain⟨k,v,rfl,Y,a⟩:=hrel;have k1:=ab wr a.fr
   by_cases hlt:k<n
   ·have aB:(k:Int)<(n:Int):=oM;have ak:=(ae.out w1 (cY _)).frm a.fr (fun k h1 h2 e=>oH t.size);obtain⟨g,o,x,rfl,aA,az,hx,c0,H,c2⟩:=ak.2.edge hlt;obtain⟨⟨f0,f1⟩,⟨l0,l1⟩,t0,t1⟩:=Hf.out x (dC hx.out);obtain⟨p,y⟩:∃ p:Nat,Hid (x.fr=p):=⟨x.fr.toNat,by unfold Hid;omega⟩;obtain⟨d,z⟩:∃ d:Nat,Hid (x.ta=d):=⟨x.ta.toNat,by unfold Hid;omega⟩;have Q:p<P:=oH y.out;have S:d<P:=oH z.out;rw [y.out] at c0;rw [z.out] at c2;have ai:=za (fun W=>G.out p W oM);have aj:=za (fun W=>G.out d W oM);have ag:=za (HB.out p Q);have ah:=za (HB.out d S);have au:=(cY wr).alloc (.cells #[p,x.le,d] 117);have be:=dZ wr 117 #[p,x.le,d];have E:=a.aw au;have aT:=za a.fr.size;have aU:=za (show zw (s.edges.take (k+1))=zw (s.edges.take k)++[.int iX p,.int iX x.le,.int iX d] by
     rw [dN,hx.out,eG,zcC,<- y.out,<- z.out];rfl)
    have r:=za (show (s.edges.take k).length=k by rw [List.length_take];have:=Z.out;omega);clear f0 f1 t0 t1 a;go_upto_region 6 with fail
    generalize hge:wr.heap.size=ge at *;have aG:=za hge;clear hge;generalize wr.alloc _=w2 at *;have ce:=be.cell;go_wp2_with (first
     |(go_at_call 143;with_reducible refine (zav F p tM _ oM).mono ?_;rw [ag.out];rintro e T ⟨rfl,rfl⟩)
     |(go_at_call 143;with_reducible refine (zav F d tM _ oM).mono ?_;rw [ah.out];rintro e T ⟨rfl,rfl⟩))
    have CE:=be.cells;have CG:=fun W (hW:Ext w2 W)=>(E.blk.ext hW).cell;have B:=cY w2;clear ce;refine uR (fun X=>Ext w2 X) [14,16] (zy.of [0,1,2,3,4,6,7,8,9,10,5,11,12,13,14,15,16]) ?_;refine uQ ?_;have C:=B.drew;refine ze fun K hK=>?_;go_simp;refine (ai.out _).mono ?_;rintro e T ⟨rfl,rfl⟩;refine hK.out _ _ C ?_;refine pT ?_;refine uQ ?_;refine ze fun K hK=>?_;go_simp;refine (aj.out _).mono ?_;rintro e T ⟨rfl,rfl⟩;refine hK.out _ _ C ?_;refine pT ?_;refine uQ ?_;refine ze fun K hK=>?_;go_simp;refine hK.out _ _ (C.alloc _) ?_;refine pT ?_;refine zb fun K hK=>?_;have m:=E.aw C;have J:=m.own;rw [r.out] at J;refine zaC w1 w2.drew _ _ _ rfl 117 _ 3 24 Tryz.underlying36 zbf rfl dM v k (zw (s.edges.take k)) _ _ rfl rfl m.fr.size J rfl (by simp [Value.oneCell']) lM oM ?_;intro g8 cap8 w8 hown8 hg8 hat8 hlt8;refine hK.out _ _ ?_;refine pT ?_;refine uQ ?_;obtain⟨p1,p2,p3⟩:=m.push (e:=⟨p,x.le,d⟩) (W':=w8) (by rw [r.out];exact hown8) hg8;have aV:=p1.out;have am:=za (show s.edges.take k++[⟨p,x.le,d⟩]=s.edges.take (k+1) by
     rw [dN,hx.out,eG,<- y.out,<- z.out])
    rw [am.out,r.out] at p3;refine zb fun K hK=>?_;go_simp;refine hK.out _ _ ?_;refine zg ?_;clear hown8 hg8 hat8 J p1 m;generalize w8.setCell ⟨l.heap.size,2,fV⟩ (fC (fU g8) (k+1) cap8)=aY at *;go_wp2_with fail
    go_roundw
    case rel=>exact⟨k+1,_,gM,oM,p3⟩
    case measure=>exact uM
   ·obtain rfl:k=n:=oM;rw [dJ (oH Z.out)] at a;have u:=a.own;rw [<- Z.out] at u;obtain⟨L,H,rfl⟩:=zh u;have V:=(b2.ext f).frm a.fr oM;have kz:=V.cell;have fz:=V.frozen;have kG:=a.blk.cell;have I:=zV wr (w.heap.size+1) (.int iX s.al) (.int iX (P:Nat)) (fC L k H);have cf:=(zah V rfl (.int iX s.al) (.int iX (P:Nat)) (fC L k H)).cell;have hxw:Ext w wr:=(t.trans f).frm a.fr (fun k Y e=>oH t.size);have R:=za (show RetSys w s (j5 (j2 #[s.al,.int iX (P:Nat),fC L k H])) (((wr.setCell ⟨w.heap.size+1,0,fV⟩ s.al).setCell ⟨w.heap.size+1,1,fV⟩ (.int iX (P:Nat))).setCell ⟨w.heap.size+1,2,fV⟩ (fC L k H)) from
     ⟨L,k,H,by rw [ad.out],⟨Z.out,zm (zf u I (fun b hv e=>zq u V dM hv e)) (t.trans f).size⟩,hxw.frm I (fun k Y e=>oM)⟩)
    clear I u;go_wp2_with fail
    exact bodyPost_ret (v:=j2 #[s.al,.int iX (P:Nat),fC L k H]) (by simp [results,Tryz.results269,go_sem,cf]) rfl R.out
end
theorem tot_le6:∀ ls:List (List Int),(∀ l∈ls,l.length<=6)->tot ls<=ls.length*6
 |[],_=>by simp [tot]
 |l :: r,h=>by
  have:=tot_le6 r (fun x hx=>h x (by simp [hx]))
  have:=h l sM
  rw [show tot (l :: r)=l.length+tot r by simp [tot],fN,Nat.add_mul]
  omega
theorem zea (h:zj a=jU):a.size<=1048576:=by
 obtain⟨_,⟨_,h1⟩,h2,b⟩:=zl h;have f:=tot_le6 a.next (fun l hl=>by
  obtain⟨q,d⟩:=List.getElem?_of_mem hl;obtain⟨c,_⟩:=b q l d;rw [c];exact zA _ _)
 unfold Aut.size;omega
def zjg (w:jX) (s:Sys) (p:Aut) (L:Nat) (e:Ending) (w':jX):Prop:=
 ∃ (A:Option Addr) (n c:Nat) (B:Option Addr) (m d:Nat) (B':Option Addr) (m' d':Nat),e=j5 (.tuple #[j2 #[s.al,s.st,fC A n c,p.al,fC B m d,fC B' m' d',L],.bool jU])/\Tch w' A n B m B' m' s p L/\Ext w w'
section
variable {w:jX}{lo hi n c lo1 hi1 m d m' d' lo2 hi2 k c2:Nat}{A B B' C:Option Addr}{s t:Sys}{p:Aut}
theorem spec_TaskOf (hs:zU w lo hi A n s)(hp:zJ w lo1 hi1 B m B' m' p)(ht:zU w lo2 hi2 C k t)(hif:iface s p t=(L:Int))(hn:n<=1000000)(hhi:hi<=w.heap.size) :
  j6 j3 202 #[j2 #[s.al,s.st,fC A n c],j2 #[p.al,fC B m d,fC B' m' d'],j2 #[t.al,t.st,fC C k c2]] w (zjg w s p L):=by
 obtain⟨I,vp,vt⟩:=zbo (show 0<=iface s p t by omega);have hL:L<64:=by
  rw [zdJ I vp vt] at hif;have h1:=zab vt;have h2:((s.al.toNat|||p.al.toNat)&&&t.al.toNat)<=t.al.toNat:=Nat.and_le_right;omega
 have D:=za (fun W (hW:Ext w W)=>zcG (c:=c) (d1:=d) (d1':=d') (c2:=c2) (hs.ext hW) (hp.ext hW) (ht.ext hW));rw [hif] at D;obtain⟨P,Z⟩:∃ P:Nat,s.st=(P:Int):=⟨s.st.toNat,by have:=(zcj I).1;omega⟩;have O:P<=16:=by have:=(zcj I).2.1;omega
 have HK:=za (fun W (hW:Ext w W)=>spec_l2Keep (c:=c) (hs.ext hW) I Z hn (dL hhi hW.size));have HC:=za (fun W (hW:Ext w W)=>zen (c:=d) (c':=d') (hp.ext hW) (zea vp));have hF:1<=2 ^ P/\2 ^ P<=65536:=⟨Nat.one_le_two_pow,by have:=eD (show 1<=2 by omega) O;have h2:(2:Nat) ^ 16=65536:=rfl;omega⟩;have J:=za (fun W=>zgv P oM W);have M:=za Z;have hV:=za (And.intro I (And.intro vp hL));rw [Z] at D HK ⊢;generalize hFe:2 ^ P=F at *;have an:IntKind.i64.wrap ((F:Int) - 1)=((F - 1:Nat):Int):=by rw [IntWalk.i64_in _ oM];omega
 clear hFe hs hp ht hif I vp vt Z;obtain⟨V,U0⟩:∃ x,Hid ((((w.alloc (.cells #[s.al,.int iX (P:Nat),fC A n c] 38)).alloc (.cells #[p.al,fC B m d,fC B' m' d'] 27)).alloc (.cells #[t.al,t.st,fC C k c2] 38)).alloc (.cells #[(0:Int),(0:Int),(),(0:Int),(),(),(0:Int)] 70)=x):=⟨_,za rfl⟩;have G:Ext w V:=(((((cY _).alloc _).alloc _).alloc _).alloc _).trans (e6 U0.out);obtain⟨b1,b2,b3⟩:=zK (((cY _).alloc _).trans (e6 U0.out));have b4:=eA U0.out;simp only [World.size_alloc] at b4
 go_enter Tryz.func202,Tryz.ntmps202
 go_upto_region 1 with fail
 rw [U0.out] at *;have CS:=b1.cells;have CP:=b2.cells;have CT:=b3.cells;have af:=cY V;go_upto_region 4 with (first
  |(go_at_call 95;refine (D.out _ G).mono (mQ fun w1 a=>?_)))
 have H:=G.trans a;have aq:=fun W (hW:Ext w1 W)=>CS W (a.trans hW);have ap:=fun W (hW:Ext w1 W)=>CP W (a.trans hW);have ae:=cY w1;clear CS CP CT af;refine uR (fun X=>Ext w1 X) [10] (zy.of [0,1,2,6,8,3,4,5,7,9,10,11]) ?_;refine uQ ?_;have q:=ae.drew;refine ze fun K hK=>?_;go_simp;refine (J.out _).mono ?_;rintro e w' ⟨rfl,rfl⟩;refine hK.out _ _ q ?_;refine pT ?_;refine uQ ?_;refine ze fun K hK=>?_;go_simp;refine (HK.out _ (H.trans q)).mono ?_;rintro e w2 ⟨j,l,u,rfl,R,ag⟩;rw [M.out];have g:=q.trans ag;refine hK.out _ _ g ?_;refine pT ?_;refine uQ ?_;refine ze fun K hK=>?_;go_simp;refine (HC.out _ (H.trans g)).mono ?_;rintro e h ⟨o,r,d1,b,f,d1',rfl,S,U⟩;have i:=g.trans U;refine hK.out _ _ i ?_;refine pT ?_;refine uQ ?_;have hxw:=H.trans i;have Y:=b4.ext (a.trans i);have kz:=Y.cell;have fz:=Y.frozen;have E:=R.ext U;have aB:=b4.lt;have z:zU h V.heap.size h.heap.size j l s:=(show zU h _ h.heap.size j l s from ⟨E.1,eE E.2⟩).more (a.trans q).size (dD _);have y:zJ h V.heap.size h.heap.size o r b f p:=S.reads.more (a.trans g).size (dD _);have ao:=G.size;have Q:Frm (fun k=>k=w.heap.size+1+1+1) h (((((((h.setCell ⟨w.heap.size+1+1+1,0,fV⟩ s.al).setCell ⟨w.heap.size+1+1+1,1,fV⟩ (.int iX (P:Nat))).setCell ⟨w.heap.size+1+1+1,2,fV⟩ (fC j l u)).setCell ⟨w.heap.size+1+1+1,3,fV⟩ p.al).setCell ⟨w.heap.size+1+1+1,4,fV⟩ (fC o r d1)).setCell ⟨w.heap.size+1+1+1,5,fV⟩ (fC b f d1')).setCell ⟨w.heap.size+1+1+1,6,fV⟩ (.int iX (L:Nat))):=
  ((((((dG h _ 0 _).trans (dG _ _ 1 _)).trans (dG _ _ 2 _)).trans (dG _ _ 3 _)).trans (dG _ _ 4 _)).trans (dG _ _ 5 _)).trans (dG _ _ 6 _)
 have bW:Blk (((((((h.setCell ⟨w.heap.size+1+1+1,0,fV⟩ s.al).setCell ⟨w.heap.size+1+1+1,1,fV⟩ (.int iX (P:Nat))).setCell ⟨w.heap.size+1+1+1,2,fV⟩ (fC j l u)).setCell ⟨w.heap.size+1+1+1,3,fV⟩ p.al).setCell ⟨w.heap.size+1+1+1,4,fV⟩ (fC o r d1)).setCell ⟨w.heap.size+1+1+1,5,fV⟩ (fC b f d1')).setCell ⟨w.heap.size+1+1+1,6,fV⟩ (.int iX (L:Nat))) (w.heap.size+1+1+1) 70 #[.int iX s.al,.int iX (P:Nat),fC j l u,.int iX p.al,fC o r d1,fC b f d1',.int iX (L:Nat)]:=by
  simpa using ((((((Y.ae 0 (.int iX s.al)).ae 1 (.int iX (P:Nat))).ae 2 (fC j l u)).ae 3 (.int iX p.al)).ae 4 (fC o r d1)).ae 5 (fC b f d1')).ae 6 (.int iX (L:Nat))
 refine zb fun K hK=>?_;go_simp;generalize (((((((h.setCell ⟨w.heap.size+1+1+1,0,fV⟩ s.al).setCell ⟨w.heap.size+1+1+1,1,fV⟩ (.int iX (P:Nat))).setCell ⟨w.heap.size+1+1+1,2,fV⟩ (fC j l u)).setCell ⟨w.heap.size+1+1+1,3,fV⟩ p.al).setCell ⟨w.heap.size+1+1+1,4,fV⟩ (fC o r d1)).setCell ⟨w.heap.size+1+1+1,5,fV⟩ (fC b f d1')).setCell ⟨w.heap.size+1+1+1,6,fV⟩ (.int iX (L:Nat)))=W at *;have T:=za (show zjg w s p L (j5 (.tuple #[j2 #[s.al,.int iX (P:Nat),fC j l u,p.al,fC o r d1,fC b f d1',.int iX (L:Nat)],.bool jU])) W from
  ⟨j,l,u,o,r,d1,b,f,d1',by rw [M.out],⟨⟨V.heap.size,h.heap.size,z.frm Q (fun k h1 h2 e=>oM),y.frm Q (fun k h1 h2 e=>oM),Q.size⟩,hV.out.1,hV.out.2.1,hV.out.2.2⟩,hxw.frm Q (fun k hk e=>oM)⟩)
 have cf:=bW.cell;clear Q bW z y kz fz Y E R S hxw;refine hK.out _ _ ?_;clear hK;refine pT ?_;refine uQ ?_;refine zg ?_;go_wp2_with fail
 exact bodyPost_ret (v:=.tuple #[j2 #[s.al,.int iX (P:Nat),fC j l u,p.al,fC o r d1,fC b f d1',.int iX (L:Nat)],.bool jU]) (by simp [results,Tryz.results202,go_sem,cf]) rfl T.out
end
section
variable {d:Nat->Nat->List Nat}{start L:List Nat}{goal:Nat->Bool}{N:Nat}
theorem zfg (h:¬ Lost d start goal L):∃ v,Found d start goal L v:=by
 have h1:∃ v,(∀ l∈v,l∈L)/\∃ x,zbt d start v x/\goal x=jU:=by
  apply Classical.byContradiction;intro hn;apply h;intro v b x c;cases hg:goal x with
  |false=>rfl
  |true=>exact absurd ⟨v,b,x,c,hg⟩ hn
 have i:∀ n v,zcK v=n->(∀ l∈v,l∈L)->(∃ x,zbt d start v x/\goal x=jU)->∃ v,Found d start goal L v:=by
  intro n
  induction n using jV with
  |ind n ih =>
   intro v hn b c
   by_cases hm:∃ u,(∀ l∈u,l∈L)/\zcK u<zcK v/\∃ x,zbt d start u x/\goal x=jU
   ·obtain⟨u,f,a,g⟩:=hm;exact ih (zcK u) oM u rfl f g
   ·refine⟨v,b,c,fun u f a x hgx=>?_⟩;cases hg:goal x with
    |false=>rfl
    |true=>exact absurd ⟨u,f,a,x,hgx,hg⟩ hm
 obtain⟨v,b,c⟩:=h1;exact i _ v rfl b c
theorem found_len (h:Found d [0] goal L v)(h6:∀ l∈L,l<6)(hN:0<N)(hd:∀ x l,x<N->l∈L->∀ y∈d x l,y<N):v.length<N:=by
 obtain⟨r,⟨x,E,t⟩,b⟩:=h;obtain⟨G,s,i⟩:=zbt.dn (L:=L) (v:=[]) (u:=v) (goal:=goal) (by simpa using E) t r;have p:G=0:=by have:=s.ah;simpa using this
 subst p;have j:∃ n,Mn d L goal n 0/\n<=v.length:=by
  have q:∀ n,Dn d L goal n 0->∃ m,Mn d L goal m 0/\m<=n:=by
   intro n
   induction n using jV with
   |ind n ih =>
    intro g
    by_cases f:∃ m,m<n/\Dn d L goal m 0
    ·obtain⟨m,a,f⟩:=f;obtain⟨k,h1,h2⟩:=ih m a f;exact⟨k,h1,oM⟩
    ·exact⟨n,⟨g,fun m a hm'=>f ⟨m,a,hm'⟩⟩,dD _⟩
  exact q _ i
 obtain⟨n,g,-⟩:=j;have C:=g.lt hN hd;obtain⟨u,D,c,y,F,o⟩:=Dn.word (v:=[]) (start:=[0]) g.1 (.nil sM);rcases Nat.lt_or_ge n v.length with B|z
 ·have:=b u c (zih (fun l hl=>h6 l (r l hl)) (fun l hl=>h6 l (c l hl)) oM) y (by simpa using F);rw [o] at this;cases this
 ·omega
theorem firstW_ok (h6:∀ l∈L,l<6)(hN:0<N)(hd:∀ x l,x<N->l∈L->∀ y∈d x l,y<N):(∀ l∈zgB d [0] goal L,l<6)/\(zgB d [0] goal L).length<N:=by
 by_cases h:Lost d [0] goal L
 ·rw [(zgq h).1];exact⟨sM,by simpa using hN⟩
 ·obtain⟨v,a⟩:=zfg h;rw [(zfs h6 a).1];exact⟨fun l hl=>h6 l (a.1 l hl),found_len a h6 hN hd⟩
end
theorem wstr_word (h6:∀ l∈v,l<6)(hl:v.length<=50000):zbg (wstr v)=jU:=by
 unfold zbg;simp only [dH,decide_eq_true_eq];refine⟨by rw [zig];exact hl,?_⟩;rw [eK];intro b hb;unfold wstr lbs at hb;rw [strOfNums_data,List.map_map] at hb;obtain⟨l,hl,rfl⟩:=List.mem_map.1 hb;have a:=h6 l hl;have c:∀ l,l<6->zeA (UInt8.ofNat (97+l))=jU:=dM;have e:((fun n:Int=>UInt8.ofNat n.toNat) ∘ fun l:Nat=>((97+l:Nat):Int)) l=UInt8.ofNat (97+l):=by
  show UInt8.ofNat (((97+l:Nat):Int)).toNat=_;rw [eM]
 first
  |(rw [e];exact c l a)
  |(have:=c l a;simpa using this)
theorem vioW_word (hss:∀ s∈ss,zk s=jU)(ha:zj a=jU)(hp:zj p=jU)(hN:zH (zbh ss [a,p])<=50000):zbg (vioW ss a p)=jU/\(vioW ss a p).size<zH (zbh ss [a,p]):=by
 have b:∀ m∈zbh ss [a,p],zeu m:=by
  intro m b;unfold zbh at b;rcases kD.1 b with h|h
  ·obtain⟨s,c,rfl⟩:=List.mem_map.1 h;exact zeD (zcj (hss s c))
  ·simp at h;rcases h with rfl|rfl
   ·exact zbA ha
   ·exact zbA hp
 obtain⟨h1,h2⟩:=firstW_ok (d:=zce ss a p) (goal:=zbO a p) (L:=letters (zG ss|||a.al.toNat) 6) (N:=zH (zbh ss [a,p])) (fun l hl=>(zC.1 hl).1) (zga b) (fun x l _ hl y hy=>by
  rw [zdj] at hy;exact ziU b (zC.1 hl).1 y hy)
 unfold vioW;exact⟨wstr_word h1 oM,by rw [zig];exact h2⟩
theorem prod_le (hss:∀ s∈ss,zk s=jU):zH (zbh ss [a,p])<=16 ^ ss.length*(a.next.length*p.next.length):=by
 induction ss with
 |nil=>simp [zbh,zH,zaz,zbz]
 |cons s r ih =>
  have h1:=ih (fun s hs=>hss s (eC _ hs));have h2:s.st.toNat<=16:=by have:=(zcj (hss s gD)).2.1;omega
  show zH (zdY s :: zbh r [a,p])<=_;rw [zdO,fN,Nat.pow_succ]
  calc s.st.toNat*zH (zbh r [a,p])<=16*(16 ^ r.length*(a.next.length*p.next.length)):=eY h2 h1
   _=16 ^ r.length*16*(a.next.length*p.next.length):=by rw [<- Nat.mul_assoc,Nat.mul_comm 16]
theorem zep (hs:zk s=jU)(ha:zj a=jU)(hp:zj p=jU):zbg (zaT s a p)=jU/\(zaT s a p).size<=2304:=by
 have h1:=(zl ha).2.1.2;have h2:=(zl hp).2.1.2;have b:=prod_le (ss:=[s]) (a:=a) (p:=p) (by simpa using hs);have d:a.next.length*p.next.length<=12*12:=eY h1 h2;simp only [List.length_singleton,Nat.pow_one] at b;obtain⟨c,f⟩:=vioW_word (ss:=[s]) (by simpa using hs) ha hp oM;unfold zaT;rw [if_pos (by unfold zcn;rw [hs,ha,hp];rfl)];exact⟨c,oM⟩
theorem zcT (hss:zE ss=jU)(hp:zj p=jU):zbg (zaq ss p)=jU/\(zaq ss p).size<16 ^ ss.length*12:=by
 obtain⟨⟨h,b⟩,c⟩:=zbc hss;have h2:=(zl hp).2.1.2;have d:=prod_le (a:=free) (p:=p) c;have i:free.next.length*p.next.length<=1*12:=eY (dD _) h2;have j:zH (zbh ss [free,p])<=16 ^ ss.length*12:=dL d (Nat.mul_le_mul_left _ oM);have f:16 ^ ss.length<=16 ^ 3:=eD oM b;have k:16 ^ ss.length*12<=4096*12:=Nat.mul_le_mul_right _ f;obtain⟨g,l⟩:=vioW_word c zdI hp oM;unfold zaq;rw [if_pos (by unfold zcz;rw [hss,hp];rfl)];exact⟨g,oM⟩
noncomputable def zaM (s:Sys) (p:Aut) (t:Sys) (L:Nat) (a:Aut):ByteArray × Int:=
 if zca s a p=jU then (zbx (zaT s a p) L,-1)
 else if zbB [t] a=jU then (zbx (zaq [t] a) L,if zu s p L (zbx (zaq [t] a) L)=jU then -1 else 1)
 else (⟨#[]⟩,0)
section
variable {w:jX}{lo hi n c lo1 hi1 m d m' d' lo2 hi2 k c2 k1 d1 k1' d1' L:Nat}{A B B' C X X':Option Addr}{s t:Sys}{p a:Aut}
theorem zfw (ht:zU w lo hi C k t)(ha:zJ w lo1 hi1 X k1 X' k1' a) :
  j6 j3 271 #[j2 #[t.al,t.st,fC C k c2],j2 #[a.al,fC X k1 d1,fC X' k1' d1']] w fun e w'=>e=j5 (.tuple #[kA (zaq [t] a),.bool (zbB [t] a)])/\Ext w w':=by
 have m:=za (fun W (hW:Ext w W)=>ht.ext hW);have j:=za (fun W (hW:Ext w W)=>ha.ext hW);clear ht ha
 go_enter Tryz.func271,Tryz.ntmps271
 go_upto_region 1 with fail
 generalize U0:(w.alloc _).alloc _=i at *;obtain⟨d,n,o⟩:=Ext.x2_ U0;clear U0;have s:=n.cell;have b:=(cY i).alloc (.cells #[t.al,t.st,fC C k c2] 38);have h:=dZ i 38 #[t.al,t.st,fC C k c2];obtain⟨r,q,f⟩:=ziX h (m.out _ (d.trans b));have p:=(o.ext b).cell;have l:=za (zbR (c:=1) (d2:=d1) (d2':=d1') f (j.out _ (d.trans b)));clear f h;go_wp2_with fail
 refine l.out.mono (mQ fun u g=>?_);go_wp2_with fail
 go_ret2;exact⟨rfl,(d.trans b).trans g⟩
theorem zjR (h:Tch w A n B m B' m' s p L)(ht:zU w lo hi C k t)(ha:zJ w lo1 hi1 X k1 X' k1' a) (vt:zk t=jU) (va:zj a=jU) :
  j6 j3 203 #[j2 #[t.al,t.st,fC C k c2],j2 #[s.al,s.st,fC A n c,p.al,fC B m d,fC B' m' d',L],j2 #[a.al,fC X k1 d1,fC X' k1' d1']] w fun e w'=>e=j5 (.tuple #[kA (zaM s p t L a).1,.int iX (zaM s p t L a).2])/\Ext w w':=by
 have hL:=h.lt;have q:=za (fun W (hW:Ext w W)=>by
  obtain⟨lo,hi,h1,h2,_⟩:=h.at_;exact zdb (c:=c) (d1:=d1) (d1':=d1') (d2:=d) (d2':=d') (h1.ext hW) (ha.ext hW) (h2.ext hW))
 have HS:=za (fun W (hW:Ext w W) (y:ByteArray) hy=>by
  obtain⟨lo,hi,h1,h2,h3⟩:=h.at_;exact zgc (c:=c) (d:=d) (d':=d') (L:=L) (t:=y) (h1.ext hW) (h2.ext hW) h.sv h.pv h.lt (dL h3 hW.size) hy)
 have v:=za (fun W (hW:Ext w W)=>zfw (c2:=c2) (d1:=d1) (d1':=d1') (ht.ext hW) (ha.ext hW));have hu:=za (zep h.sv va h.pv);have S:=za (zcT (ss:=[t]) (p:=a) (by unfold zE;simp [vt]) va);have o:=za (show zaM s p t L a=if zca s a p=jU then (zbx (zaT s a p) L,-1)
  else if zbB [t] a=jU then (zbx (zaq [t] a) L,if zu s p L (zbx (zaq [t] a) L)=jU then -1 else 1)
  else (⟨#[]⟩,0) from rfl)
 generalize zaM s p t L a=J at *;obtain⟨M,Y⟩:∃ M,Hid (zaT s a p=M):=⟨_,rfl⟩;obtain⟨H,T⟩:∃ H,Hid (zaq [t] a=H):=⟨_,rfl⟩;rw [Y.out] at q hu o;rw [T.out] at v S o;have b:Ext w (((w.alloc (.cells #[t.al,t.st,fC C k c2] 38)).alloc (.cells #[s.al,s.st,fC A n c,p.al,fC B m d,fC B' m' d',L] 70)).alloc (.cells #[a.al,fC X k1 d1,fC X' k1' d1'] 27)):=(((cY _).alloc _).alloc _).alloc _;obtain⟨O,Q,R⟩:=zK (cY (((w.alloc (.cells #[t.al,t.st,fC C k c2] 38)).alloc (.cells #[s.al,s.st,fC A n c,p.al,fC B m d,fC B' m' d',L] 70)).alloc (.cells #[a.al,fC X k1 d1,fC X' k1' d1'] 27)));clear h ht ha vt va;cases hub:zca s a p
 ·cases hbb:zbB [t] a
  ·have f:=za (show J=(⟨#[]⟩,0) by rw [o.out,hub,hbb];rfl);rw [hub] at q;rw [hbb] at v;rw [f.out];clear o f hub hbb
   go_enter Tryz.func203,Tryz.ntmps203
   go_upto_region 1 with fail
   generalize ((w.alloc _).alloc _).alloc _=F at *;have CT:=O.cells;have CK:=Q.cells;have CA:=R.cells;have D:=cY F;go_wp2_with (first
    |(go_at_call 59;refine (q.out _ b).mono (mQ fun w1 g=>?_))
    |(go_at_call 271;refine (v.out _ (b.trans g)).mono (mQ fun w2 r=>?_);have l:=g.trans r))
   go_ret2;exact⟨rfl,b.trans l⟩
  ·obtain⟨j,z⟩:∃ j,Hid (zbx H L=j):=⟨_,rfl⟩;have G:=za (fun W=>zdR (w:=W) (s:=H) (a:=L) S.out.1 oM);have U:=za (show j.size<=9223372036854775807 by
    rw [<- z.out];have h1:=zbJ (zbj (zcQ S.out.1 L));omega)
   rw [z.out] at G o;have x:=za (fun W (hW:Ext w W)=>HS.out W hW j U.out);obtain⟨I,V⟩:∃ I,Hid (zu s p L j=I):=⟨_,rfl⟩;rw [V.out] at x o;rw [hub] at q;rw [hbb] at v;have f:=za (show J=(j,if I=jU then -1 else 1) by rw [o.out,hub,hbb];rfl);rw [f.out];clear o f hub hbb;cases I
   all_goals
    go_enter Tryz.func203,Tryz.ntmps203
    go_upto_region 1 with fail
    generalize ((w.alloc _).alloc _).alloc _=F at *;have CT:=O.cells;have CK:=Q.cells;have CA:=R.cells;have D:=cY F;go_wp2_with (first
     |(go_at_call 59;refine (q.out _ b).mono (mQ fun w1 g=>?_))
     |(go_at_call 271;refine (v.out _ (b.trans g)).mono (mQ fun w2 r=>?_);have l:=g.trans r)
     |(go_at_call 60;refine (G.out _).mono (mQ fun w3 u=>?_);have i:=l.trans u)
     |(go_at_call 62;refine (x.out _ (b.trans i)).mono (mQ fun w4 Z=>?_);have E:=i.trans Z))
    go_ret2;exact⟨rfl,b.trans E⟩
 ·have G:=za (fun W=>zdR (w:=W) (s:=M) (a:=L) hu.out.1 oM);rw [hub] at q;have f:=za (show J=(zbx M L,-1) by rw [o.out,hub];rfl);rw [f.out];clear o f hub
  go_enter Tryz.func203,Tryz.ntmps203
  go_upto_region 1 with fail
  generalize ((w.alloc _).alloc _).alloc _=F at *;have CT:=O.cells;have CK:=Q.cells;have CA:=R.cells;have D:=cY F;go_wp2_with (first
   |(go_at_call 59;refine (q.out _ b).mono (mQ fun w1 g=>?_))
   |(go_at_call 60;refine (G.out _).mono (mQ fun w3 u=>?_);have i:=g.trans u))
  go_ret2;exact⟨rfl,b.trans i⟩
end
structure Vd where
 code:Int
 asm:Aut
 tr:ByteArray
 ro:Nat
def noA:Aut:=⟨0,[],[]⟩
noncomputable def runT (s t:Sys) (p:Aut) (L:Nat):Nat->Nat->Option (List ByteArray × List ByteArray)->Vd
 |0,k,_=>⟨2,noA,⟨#[]⟩,k⟩
 |_+1,k,fV=>⟨2,noA,⟨#[]⟩,k⟩
 |f+1,k,fU tab =>
  if (zaM s p t L (zcM L (zu s p L) tab.1 tab.2)).2=0 then ⟨0,zcM L (zu s p L) tab.1 tab.2,⟨#[]⟩,k+1⟩
  else if (zaM s p t L (zcM L (zu s p L) tab.1 tab.2)).2=1 then ⟨1,noA,zaq [s,t] p,k+1⟩
  else runT s t p L f (k+1) (zba L (zu s p L) tab.1 tab.2 (zaM s p t L (zcM L (zu s p L) tab.1 tab.2)).1)
def zdD (w:jX) (v:Vd) (e:Ending) (w':jX):Prop:=
 ∃ (A:Option Addr) (n c:Nat) (A':Option Addr) (n' c':Nat) (x:Int) (X:Option Addr) (k1 d1:Nat) (X':Option Addr) (k1' d1':Nat),
  e=j5 (.tuple #[j2 #[v.code,v.asm.al,fC A n c,fC A' n' c',v.tr,v.ro],j2 #[x,fC X k1 d1,fC X' k1' d1']])/\zac w' w.heap.size A n c A' n' c' v.asm/\Ext w w'
def zhm (L:Nat) (f:ByteArray->Bool) (o:Option (List ByteArray × List ByteArray)):Prop:=∀ rs cs,o=fU (rs,cs)->zbD L f rs cs/\zaI L f rs cs=fV
theorem zhm.new (L:Nat) (f:ByteArray->Bool):zhm L f ((zar L f [⟨#[]⟩] 11 [⟨#[]⟩]).map fun r=>(r,[⟨#[]⟩])):=by
 intro rs cs h;obtain⟨r,a,e⟩:=kK.1 h;obtain⟨rfl,rfl⟩:=Prod.mk.inj e;obtain⟨h1,h2,-⟩:=zhq 11 _ _ (zbD.first L f) dM a
 exact⟨h1,h2⟩
theorem zhm.ar {f:ByteArray->Bool}{rows cols:List ByteArray}(h:zbD L f rows cols) (x:ByteArray):zhm L f (zba L f rows cols x):=by
 intro rs cs hl;unfold zba at hl
 split at hl
 ·cases hl
 ·rename_i col hc
  split at hl
  ·rename_i ha;obtain⟨r,b,e⟩:=kK.1 hl;obtain⟨rfl,rfl⟩:=Prod.mk.inj e;have a:=h.addC ha;obtain⟨h1,h2,-⟩:=zhq _ _ _ a (oH h.r12) b;exact⟨h1,h2⟩
  ·cases hl
theorem judgeT_size (hs:zk s=jU)(hp:zj p=jU)(ht:zk t=jU)(ha:zj a=jU):(zaM s p t L a).1.size<=50000:=by
 have h1:=zep hs ha hp;have h2:=zcT (ss:=[t]) (p:=a) (by unfold zE;simp [ht]) ha;unfold zaM;split
 ·exact zbJ (zbj (zcQ h1.1 L))
 ·split
  ·exact zbJ (zbj (zcQ h2.1 L))
  ·exact dF _
def TabM (w0 W:jX) (g:Nat) (o:Option (List ByteArray × List ByteArray)):Prop:=
 ∃ (nr nc:Nat) (R:Option Addr) (cr:Nat) (C:Option Addr) (cc:Nat),Blk W g 90 #[fC R nr cr,fC C nc cc]/\nr<=cr/\nc<=cc /\
  ∀ rs cs,o=fU (rs,cs)->W.ownsRow w0.heap.size 9 1 (fC R nr cr) nr (zO rs)/\W.ownsRow w0.heap.size 9 1 (fC C nc cc) nc (zO cs)
theorem TabM.far {o:Option (List ByteArray × List ByteArray)}{cs:Array j4}{t:TypeId}(h:TabM w0 W g o)(hB:Blk W G t cs)(hf:Frm (fun k=>k=G) W W')(hg:g≠G)(ht:9≠t):TabM w0 W' g o:=by
 obtain⟨j,i,R,d,C,c,f,h1,h2,a⟩:=h;exact⟨j,i,R,d,C,c,f.frm hf hg,h1,h2,fun rs cs e=>⟨zf (a rs cs e).1 hf (fun b hv e'=>zq (a rs cs e).1 hB ht hv e'),zf (a rs cs e).2 hf (fun b hv e'=>zq (a rs cs e).2 hB ht hv e')⟩⟩
theorem zcI.fill {o:Option (List ByteArray × List ByteArray)}(h:zcI w o e W)(hw:w0.heap.size<=w.heap.size) :
  Ext w W/\∃ (nr nc:Nat) (R:Option Addr) (cr:Nat) (C:Option Addr) (cc:Nat),e=j5 (.tuple #[j2 #[fC R nr cr,fC C nc cc],.bool o.isSome])/\nr<=cr/\nc<=cc /\
   ∀ rs cs,o=fU (rs,cs)->W.ownsRow w0.heap.size 9 1 (fC R nr cr) nr (zO rs)/\W.ownsRow w0.heap.size 9 1 (fC C nc cc) nc (zO cs):=by
 obtain⟨a,⟨rfl,rfl⟩|⟨rs,cs,nr,nc,R,cr,C,cc,rfl,rfl,h1,h2⟩⟩:=h
 ·exact⟨a,0,0,fV,0,fV,0,rfl,dD _,dD _,fun _ _ e=>by cases e⟩
 ·refine⟨a,nr,nc,R,cr,C,cc,rfl,zhe h1,zhe h2,fun rs' cs' e=>?_⟩;obtain⟨rfl,rfl⟩:=Prod.mk.inj (j8 e);exact⟨zm h1 hw,zm h2 hw⟩
theorem sl_pair {lo hi lo2 hi2 c2:Nat}{C:Option Addr}(hb:Blk w g 38 #[s.al,s.st,fC A n c,t.al,t.st,fC C k c2])(h:zU w lo hi A n s)(h':zU w lo2 hi2 C k t):∃ lo hi,zhl w lo hi (fU ⟨g,0,fV⟩) 2 [s,t]:=by
 refine⟨0,hi+hi2+g+1,rfl,[.int iX s.al,.int iX s.st,fC A n c,.int iX t.al,.int iX t.st,fC C k c2],⟨rfl,oM,fun _=>⟨_,rfl,dF _,by dsimp only;omega,fun j u hu=>?_⟩⟩,fun j u hu=>?_⟩
 ·rw [zad,Nat.zero_add,hb.cell];simpa using hu
 ·match j with
  |0 =>
   simp at hu;subst hu;exact⟨A,n,c,rfl,rfl,rfl,h.1,h.2.more (dF _) oM⟩
  |1 =>
   simp at hu;subst hu;exact⟨C,k,c2,rfl,rfl,rfl,h'.1,h'.2.more (dF _) oM⟩
  |j+2=>simp at hu
theorem zdD.drew {v:Vd}(h:zdD w v e W):zdD w v e W.drew:=by
 obtain⟨A,n,c,a,g,b,x,X,k1,d1,X',k1',d1',d,ho,f⟩:=h;have hd:Ext W W.drew:=(cY W).drew;exact⟨A,n,c,a,g,b,x,X,k1,d1,X',k1',d1',d,ho.ext hd,f.trans hd⟩
theorem zdD.cast {v u:Vd}(hu:u=v)(h:zdD w v e W):zdD w u e W:=hu ▸ h
def roAt (W:jX) (g:Nat):Nat:=match W.cell? ⟨g,5,fV⟩ with|some (.int _ z)=>z.toNat|_=>0
theorem roAt_blk {t:TypeId}{u3 u4:j4}(h:Blk W g t #[u0,u1,u2,u3,u4,j]):roAt W g=j:=by
 unfold roAt;rw [h.cell 5];exact eM j
theorem runT_end {o:Option (List ByteArray × List ByteArray)}(h:¬ (o.isSome=jU/\j<K)):runT s t p L (K - j) j o=⟨2,noA,⟨#[]⟩,j⟩:=by
 cases hk:K - j with
 |zero=>rfl
 |succ f =>
  cases o with
  |none=>rfl
  |some tab=>exact absurd ⟨rfl,oM⟩ h
theorem zhL (W:jX) (Z:Nat) (u0 u1 u2 u3 u4 u5:j4):Frm (fun k=>k=Z) W ((((((W.setCell Z u0).setCell ⟨Z,1,fV⟩ u1).setCell ⟨Z,2,fV⟩ u2).setCell ⟨Z,3,fV⟩ u3).setCell ⟨Z,4,fV⟩ u4).setCell ⟨Z,5,fV⟩ u5):=
 (((((dG W _ 0 _).trans (dG _ _ 1 _)).trans (dG _ _ 2 _)).trans (dG _ _ 3 _)).trans (dG _ _ 4 _)).trans (dG _ _ 5 _)
theorem Frm.drew {S:Nat->Prop}{a:jX}(h:Frm S a w):Frm S a w.drew:=⟨h.os,h.tape,h.output,h.size,h.block⟩
theorem zhh {k1 d1 k1' d1':Nat}{X X':Option Addr}{v:Vd}{x:Int}{vs us:Array j4}(hx:Ext w W)(hv:Blk W Z 42 vs)(hu:Blk W (Z+1) 27 us)(h6:vs.size=6)(h3:us.size=3)(hZ:w.heap.size<=Z)(ho:zac W w.heap.size A n c A' n' c' v.asm) :
  Hid (zdD w v (j5 (.tuple #[j2 #[v.code,v.asm.al,fC A n c,fC A' n' c',v.tr,v.ro],j2 #[x,fC X k1 d1,fC X' k1' d1']]))
   (((((((((W.setCell Z v.code).setCell ⟨Z,1,fV⟩ v.asm.al).setCell ⟨Z,2,fV⟩ (fC A n c)).setCell ⟨Z,3,fV⟩ (fC A' n' c')).setCell ⟨Z,4,fV⟩ v.tr).setCell ⟨Z,5,fV⟩ v.ro).setCell ⟨Z+1,0,fV⟩ x).setCell ⟨Z+1,1,fV⟩ (fC X k1 d1)).setCell ⟨Z+1,2,fV⟩ (fC X' k1' d1'))) /\
  Blk (((((((((W.setCell Z v.code).setCell ⟨Z,1,fV⟩ v.asm.al).setCell ⟨Z,2,fV⟩ (fC A n c)).setCell ⟨Z,3,fV⟩ (fC A' n' c')).setCell ⟨Z,4,fV⟩ v.tr).setCell ⟨Z,5,fV⟩ v.ro).setCell ⟨Z+1,0,fV⟩ x).setCell ⟨Z+1,1,fV⟩ (fC X k1 d1)).setCell ⟨Z+1,2,fV⟩ (fC X' k1' d1')) Z 42 #[v.code,v.asm.al,fC A n c,fC A' n' c',v.tr,v.ro] /\
  Blk (((((((((W.setCell Z v.code).setCell ⟨Z,1,fV⟩ v.asm.al).setCell ⟨Z,2,fV⟩ (fC A n c)).setCell ⟨Z,3,fV⟩ (fC A' n' c')).setCell ⟨Z,4,fV⟩ v.tr).setCell ⟨Z,5,fV⟩ v.ro).setCell ⟨Z+1,0,fV⟩ x).setCell ⟨Z+1,1,fV⟩ (fC X k1 d1)).setCell ⟨Z+1,2,fV⟩ (fC X' k1' d1')) (Z+1) 27 #[.int iX x,fC X k1 d1,fC X' k1' d1']:=by
 obtain⟨j⟩:=vs
 match j,h6 with
 |[a0,a1,a2,a3,a4,a5],_ =>
 have a:Frm (fun k=>k=Z) W ((((((W.setCell Z v.code).setCell ⟨Z,1,fV⟩ v.asm.al).setCell ⟨Z,2,fV⟩ (fC A n c)).setCell ⟨Z,3,fV⟩ (fC A' n' c')).setCell ⟨Z,4,fV⟩ v.tr).setCell ⟨Z,5,fV⟩ v.ro):=
  (((((dG W _ 0 _).trans (dG _ _ 1 _)).trans (dG _ _ 2 _)).trans (dG _ _ 3 _)).trans (dG _ _ 4 _)).trans (dG _ _ 5 _)
 have g:Blk ((((((W.setCell Z v.code).setCell ⟨Z,1,fV⟩ v.asm.al).setCell ⟨Z,2,fV⟩ (fC A n c)).setCell ⟨Z,3,fV⟩ (fC A' n' c')).setCell ⟨Z,4,fV⟩ v.tr).setCell ⟨Z,5,fV⟩ v.ro) Z 42 #[.int iX v.code,.int iX v.asm.al,fC A n c,fC A' n' c',kA v.tr,.int iX v.ro]:=by
  simpa using (((((hv.ae 0 (.int iX v.code)).ae 1 (.int iX v.asm.al)).ae 2 (fC A n c)).ae 3 (fC A' n' c')).ae 4 (.string v.tr)).ae 5 (.int iX v.ro)
 have f:=ho.ay hv a dM;have d:=hu.frm a oM;have h:Ext w ((((((W.setCell Z v.code).setCell ⟨Z,1,fV⟩ v.asm.al).setCell ⟨Z,2,fV⟩ (fC A n c)).setCell ⟨Z,3,fV⟩ (fC A' n' c')).setCell ⟨Z,4,fV⟩ v.tr).setCell ⟨Z,5,fV⟩ v.ro):=hx.frm a (fun k hk e=>oM);generalize (((((W.setCell Z v.code).setCell ⟨Z,1,fV⟩ v.asm.al).setCell ⟨Z,2,fV⟩ (fC A n c)).setCell ⟨Z,3,fV⟩ (fC A' n' c')).setCell ⟨Z,4,fV⟩ v.tr).setCell ⟨Z,5,fV⟩ v.ro=i at *;have b:=zV i (Z+1) (.int iX x) (fC X k1 d1) (fC X' k1' d1');exact⟨za ⟨A,n,c,A',n',c',x,X,k1,d1,X',k1',d1',rfl,f.ay d b dM,h.frm b (fun k hk e=>oM)⟩,g.frm b oM,zah d h3 _ _ _⟩
section
variable {w:jX}{lo hi n c lo1 hi1 m d m' d' lo2 hi2 k c2:Nat}{A B B' C:Option Addr}{s t:Sys}{p:Aut}
theorem yW13a1 {P:Prop}(h:P:=by
 clear hflag hgo ho hon hne1 hne2 hd hb8 hb9' hxw;go_wp2_with fail
 refine zbr (fun Y=>Frm (fun b=>b=Z) wr Y) [3] (zy.of [0,1,2,3]) kM kM kM kM kM (fun _ _ _ _ _ h=>h) hS0 ?_;refine zbI (v:=?_) rfl rfl rfl rfl (fun X hX=>?_) ?_
 rotate_left
 focus (go_simp<;>with_reducible rfl)
 refine pT ?_;refine zbI (v:=?_) rfl rfl rfl rfl (fun X hX=>?_) ?_
 rotate_left
 focus (go_simp<;>with_reducible rfl)
 refine pT ?_;refine ze fun K hK=>?_;go_simp;refine hK.out _ _ hf8.out.drew ?_;refine pT ?_;refine zb fun K hK=>?_;go_simp;refine hK.out _ _ ?_;refine zg ?_;go_wp2_with fail
 have cf2:=F2.out.cell;have cf3:=F3.out.cell;exact bodyPost_ret (v:=.tuple #[.agg #[(2:Int),(0:Int),(),(),.string ⟨#[]⟩,j],.agg #[x,.slice X k1 d1,.slice X' k1' d1']]) (by simp [results,Tryz.results112,go_sem,cf2,cf3]) rfl F1.out
 ):P:=h
theorem spec_l12Run (hs:zU w lo hi A n s)(hp:zJ w lo1 hi1 B m B' m' p)(ht:zU w lo2 hi2 C k t)(hif:iface s p t=(L:Int))(hn:n<=1000000)(hhi:hi<=w.heap.size)(hK:K<=1000) :
  j6 j3 112 #[j2 #[s.al,s.st,fC A n c],j2 #[t.al,t.st,fC C k c2],j2 #[p.al,fC B m d,fC B' m' d'],K] w
   (zdD w (runT s t p L K 0 ((zar L (zu s p L) [⟨#[]⟩] 11 [⟨#[]⟩]).map fun r=>(r,[⟨#[]⟩])))):=by
 obtain⟨vs,vp,vt⟩:=zbo (show 0<=iface s p t by omega);have Hv:=za (And.intro vs (And.intro vp vt));have bq:=za (fun W (hW:Ext w W)=>spec_TaskOf (c:=c) (d:=d) (d':=d') (c2:=c2) (hs.ext hW) (hp.ext hW) (ht.ext hW) hif hn (dL hhi hW.size));have bR:=za (fun W (hW:Ext w W)=>show j6 j3 150 #[fC (fU W.heap.size) 2 2,j2 #[p.al,fC B m d,fC B' m' d']] (W.alloc (.cells #[s.al,s.st,fC A n c,t.al,t.st,fC C k c2] 38)) (fun e w'=>e=j5 (.tuple #[kA (zaq [s,t] p),.bool (zbB [s,t] p)])/\Ext W w') by
  have f6:=(cY W).alloc (.cells #[s.al,s.st,fC A n c,t.al,t.st,fC C k c2] 38);obtain⟨l1,l2,cE⟩:=sl_pair (dZ W 38 #[s.al,s.st,fC A n c,t.al,t.st,fC C k c2]) (hs.ext (hW.trans f6)) (ht.ext (hW.trans f6));exact (zbR cE (hp.ext (hW.trans f6))).mono (fun e w' h=>⟨h.1,f6.trans h.2⟩))
 have c9:=za (fun W (hW:Ext w W)=>hs.ext hW);have cx:=za (fun W (hW:Ext w W)=>ht.ext hW);obtain⟨ag,bH⟩:∃ ag,Hid (runT s t p L K 0 ((zar L (zu s p L) [⟨#[]⟩] 11 [⟨#[]⟩]).map fun r=>(r,[⟨#[]⟩]))=ag):=⟨_,rfl⟩;have bj:=za (zhm.new L (zu s p L));rw [bH.out];obtain⟨aC,bh⟩:∃ aC,Hid ((zar L (zu s p L) [⟨#[]⟩] 11 [⟨#[]⟩]).map (fun r=>(r,[(⟨#[]⟩:ByteArray)]))=aC):=⟨_,rfl⟩;rw [bh.out] at bH bj;clear hs hp ht hif vs vp vt;obtain⟨w0,U0⟩:∃ x,Hid (((((w.alloc (.cells #[s.al,s.st,fC A n c] 38)).alloc (.cells #[t.al,t.st,fC C k c2] 38)).alloc (.cells #[p.al,fC B m d,fC B' m' d'] 27)).alloc (.cells #[(0:Int),(0:Int),(),(),kA ⟨#[]⟩,(0:Int)] 42)).alloc (.cells #[(0:Int),(),()] 27)=x):=⟨_,za rfl⟩;have aj:Ext w w0:=((((((cY _).alloc _).alloc _).alloc _).alloc _).alloc _).trans (e6 U0.out);obtain⟨b1,b2,b3⟩:=zK ((((cY _).alloc _).alloc _).trans (e6 U0.out));obtain⟨b8,b9⟩:=zN (e6 U0.out);simp only [World.size_alloc] at b8 b9
 go_enter Tryz.func112,Tryz.ntmps112
 go_upto_region 1 with fail
 rw [U0.out] at *;have CS:=b1.cells;have CT:=b2.cells;have CP:=b3.cells;have dk:=b9.lt;have dj:w.heap.size<=w.heap.size+1+1+1:=oM;generalize w.heap.size+1+1+1=Z at *;have cF:=cY w0;go_upto_region 2 with (first
  |(go_at_call 202;refine (bq.out _ aj).mono ?_;rintro e w1 ⟨A,n,c,B,m,d,B',m',d',rfl,bi,cf⟩))
 have cK:=(dZ w1 70 #[s.al,s.st,fC A n c,p.al,fC B m d,fC B' m' d',L]).cell;go_upto_region 5 with fail
 obtain⟨bO,bY⟩:∃ bO,Hid (w1.heap.size=bO):=⟨_,rfl⟩;generalize U0:(w1.alloc _).alloc _=w2 at *;obtain⟨bk,bK,bT⟩:=Ext.x2_ U0;clear U0;rw [bY.out] at bK bT ⊢;clear cK;have V:=bi.ext bk;have a:=cf.trans bk;have dl:=bT.lt;have bQ:=za (fun W (hW:Ext w2 W)=>zjO (c:=c) (d:=d) (d':=d') (V.ext hW));rw [bh.out] at bQ;have cy:=za (fun (R:Option Addr) (nr cr:Nat) (C:Option Addr) (nc cc:Nat) (rows cols:List ByteArray) W (hW:Ext w2 W) hT hI ai ah ao=>zda (c:=c) (d:=d) (d':=d') (nr:=nr) (nc:=nc) (R:=R) (C:=C) (cr:=cr) (cc:=cc) (rows:=rows) (cols:=cols) (V.ext hW) hT hI ai ah ao);have cw:=za (fun (R:Option Addr) (nr cr:Nat) (C:Option Addr) (nc cc:Nat) (rows cols:List ByteArray) (x:ByteArray) W (hW:Ext w2 W) hT hI ai ah ao hx=>zit (c:=c) (d:=d) (d':=d') (nr:=nr) (nc:=nc) (R:=R) (C:=C) (cr:=cr) (cc:=cc) (rows:=rows) (cols:=cols) (x:=x) (V.ext hW) hT hI ai ah ao hx);have bN:=bT.cells;have cu:=bK.cells;have ct:=fun W (hW:Ext w2 W)=>CS W (a.trans hW);have bM:=fun W (hW:Ext w2 W)=>CT W (a.trans hW);have cq:=fun W (hW:Ext w2 W)=>CP W (a.trans hW);have ce:=cY w2;clear cF CS CT CP;go_upto_region 6 with (first
  |(go_at_call 57;refine (bQ.out _ ce).mono ?_;intro e w3 hret;obtain⟨bD,nr,nc,R,cr,C,cc,rfl,ai,ah,bx⟩:=hret.fill (w0:=w2) (dD _);clear hret))
 go_wp2_with fail
 obtain⟨G,hG⟩:∃ G,Hid (w3.heap.size=G):=⟨_,rfl⟩;have di:w2.heap.size<=G:=by rw [<- hG.out];exact bD.size
 generalize U0:((w3.alloc _).alloc _).alloc _=w6 at *;obtain⟨az,am,E,ae⟩:=Ext.x3_ U0;clear U0;rw [hG.out] at am E ae ⊢;have bl:=bD.trans az;have aL:TabM w2 w6 G aC:=⟨nr,nc,R,cr,C,cc,am,ai,ah,fun rs cs e=>⟨zi (bx rs cs e).1 az,zi (bx rs cs e).2 az⟩⟩;clear bx am bD az
 go_loopw [14] (fun fv wr=>∃ (o:Option (List ByteArray × List ByteArray)) (j:Nat) (x:Int) (X:Option Addr) (k1 d1:Nat) (X':Option Addr) (k1' d1':Nat),fv=.bool o.isSome/\j<=K/\Hid (zhm L (zu s p L) o)/\Hid (runT s t p L (K - j) j o=ag)/\TabM w2 wr G o/\Blk wr (G+1) 42 #[(2:Int),(0:Int),(),(),kA ⟨#[]⟩,j]/\Blk wr (G+1+1) 27 #[x,fC X k1 d1,fC X' k1' d1']/\Ext w2 wr) (fun _ wr=>K - roAt wr (G+1))
 case atStart=>exact⟨aC,0,0,fV,0,0,fV,0,0,rfl,dF _,bj,bH,aL,E,ae,bl⟩
 case round =>
  clear aL E ae bl;obtain⟨o,j,x,X,k1,d1,X',k1',d1',rfl,hj,cD,bg,aL,E,ae,aU⟩:=hrel;have av:=E.cell;have aw:=ae.cell
  by_cases hgo:o.isSome=jU/\j<K
  ·obtain⟨⟨⟨rs,cs⟩,rfl⟩,dm⟩:(∃ q,o=fU q)/\j<K:=⟨Option.isSome_iff_exists.1 hgo.1,hgo.2⟩;clear hgo;obtain⟨hI,ao⟩:=cD.out rs cs rfl;have cW:(j:Int)<(K:Int):=oM;have an:=E.frozen;have bb:Blk (wr.setCell ⟨G+1,5,fV⟩ (.int iX ((j:Int)+1))) (G+1) 42 #[.int iX 2,.int iX 0,fC fV 0 0,fC fV 0 0,kA ⟨#[]⟩,.int iX ((j:Int)+1)]:=by
    simpa using E.ae 5 (.int iX ((j:Int)+1))
   have bz:Frm (fun b=>b=G+1) wr (wr.setCell ⟨G+1,5,fV⟩ (.int iX ((j:Int)+1))):=dG wr _ 5 _;have bc:=ae.frm bz oM;have b4:=aL.far E bz oM dM;have aT:=aU.setCell (p:=⟨G+1,5,fV⟩) (by dsimp only;omega) (.int iX ((j:Int)+1));go_upto_region 10 with fail
   have cb:=za (roAt_blk E);clear av aw an aL E ae aU bz;generalize wr.setCell ⟨G+1,5,fV⟩ (.int iX ((j:Int)+1))=wA at *;obtain⟨nr,nc,R,cr,C,cc,am,ai,ah,b5⟩:=b4;obtain⟨oR,oC⟩:=b5 rs cs rfl;have a4:=za (show TabAt wA R nr C nc rs cs from ⟨_,_,_,_,eE oR,eE oC⟩);have bE:=am.cell;have bs:=bN wA aT;have bu:=za hI;have bf:=za ao;have a0:=za (zcS hI ao bi.lt);clear hI ao b5;go_upto_region 11 with (first
    |(go_at_call 58;refine (cy.out _ _ _ _ _ _ rs cs _ aT a4.out bu.out ai ah bf.out).mono ?_;rintro e wB ⟨Y,q1,e1,Y',I,D,rfl,aq,cg⟩))
   obtain⟨f,be⟩:∃ f,Hid (zcM L (zu s p L) rs cs=f):=⟨_,rfl⟩;rw [be.out] at aq a0 ⊢;generalize U0:wB.alloc _=wC at *;have ch:=Ext.al_ U0;have bU:=eA U0;have aO:=aq.ext ch;clear U0;have T:=cg.trans ch;have F:=bc.ext T;have a9:=bb.ext T;have a7:=am.ext T;have bG:=zi oR T;have bF:=zi oC T;have aw:=F.cell;have cC:=F.frozen;have cG:=bU.cell;have ap:=zV wC (G+1+1) (.int iX f.al) (fC Y q1 e1) (fC Y' I D);have aG:=zah F rfl (.int iX f.al) (fC Y q1 e1) (fC Y' I D);have ba:=a9.frm ap oM;have a8:=a7.frm ap oM;have cm:=zf bG ap (fun b hv e=>zq bG F dM hv e);have cl:=zf bF ap (fun b hv e=>zq bF F dM hv e);have ar:=aO.ay F ap dM;have aS:=((aT.trans T).frm ap (fun k hk e=>oM));have dp:=za (aT.trans cg).size;have dn:=za aT.size;clear F a9 a7 bG bF ap aO aq bU bc bb am oR oC bE bs a4;go_upto_region 12 with fail
   generalize ((wC.setCell ⟨G+1+1,0,fV⟩ f.al).setCell ⟨G+1+1,1,fV⟩ (fC Y q1 e1)).setCell ⟨G+1+1,2,fV⟩ (fC Y' I D)=wD at *;clear aw cC cG;have HJ:=za (zjR (c:=c) (d:=d) (d':=d') (c2:=c2) (d1:=e1) (d1':=D) (V.ext aS) (cx.out wD (aj.trans (a.trans aS))) ar.reads Hv.out.2.2 a0.out);have bZ:=za (judgeT_size (L:=L) Hv.out.1 Hv.out.2.1 Hv.out.2.2 a0.out);obtain⟨J,hJ⟩:∃ J,Hid (zaM s p t L f=J):=⟨_,rfl⟩;rw [hJ.out] at HJ bZ;have aw:=aG.cell;have cA:=cu wD aS;have cB:=bM wD aS;go_upto_region 13 with (first
    |(go_at_call 203;refine HJ.out.mono (mQ fun wE au=>?_)))
   have g:=aS.trans au;have Q:=aG.ext au;have l:=ba.ext au;have ad:=a8.ext au;have a2:=zi cm au;have a1:=zi cl au;have U:=ar.ext au;clear aw cA cB aG ba a8 cm cl ar HJ;have z:=za (show (if J.2=0 then (⟨0,f,⟨#[]⟩,j+1⟩:Vd) else if J.2=1 then ⟨1,noA,zaq [s,t] p,j+1⟩ else runT s t p L (K - (j+1)) (j+1) (zba L (zu s p L) rs cs J.1))=ag by
    rw [<- bg.out,show K - j=(K - (j+1))+1 by omega];show _=runT s t p L ((K - (j+1))+1) j (fU (rs,cs));rw [runT,be.out,hJ.out])
   by_cases hJ0:J.2=0
   ·have aN:=za (show ag=⟨0,f,⟨#[]⟩,j+1⟩ by rw [<- z.out,if_pos hJ0]);have av:=l.cell;have an:=l.frozen;have u:Blk (wE.setCell ⟨G+1,0,fV⟩ (0:Int)) (G+1) 42 #[.int iX 0,.int iX 0,fC fV 0 0,fC fV 0 0,kA ⟨#[]⟩,.int iX ((j:Int)+1)]:=by
     simpa using l.ae 0 (.int iX 0)
    have bA:Frm (fun b=>b=G+1) wE (wE.setCell ⟨G+1,0,fV⟩ (0:Int)):=dG wE _ 0 _;have S:=Q.frm bA oM;have aP:=U.ay l bA dM;have ak:=g.setCell (p:=⟨G+1,0,fV⟩) (by dsimp only;omega) (.int iX 0);clear z ad Q a2 a1 bA U l;go_upto_region 16 with fail
    generalize wE.setCell ⟨G+1,0,fV⟩ (0:Int)=wF at *;clear av an hJ0;have bP:=za (zen (c:=e1) (c':=D) aP.reads (zea a0.out));have aw:=S.cell;go_upto_region 17 with (first
     |(go_at_call 165;refine bP.out.mono ?_;rintro e wG ⟨Z1,z1,y1,Z2,z2,y2,rfl,aQ,aa⟩;have av:=(u.ext aa).cell;have an:=(u.ext aa).frozen))
    have O:=u.ext aa;have af:=S.ext aa;have i:Frm (fun b=>b=G+1) wG (((wG.setCell ⟨G+1,1,fV⟩ f.al).setCell ⟨G+1,2,fV⟩ (fC Z1 z1 y1)).setCell ⟨G+1,3,fV⟩ (fC Z2 z2 y2)):=((dG wG _ 1 _).trans (dG _ _ 2 _)).trans (dG _ _ 3 _);have y:Blk (((wG.setCell ⟨G+1,1,fV⟩ f.al).setCell ⟨G+1,2,fV⟩ (fC Z1 z1 y1)).setCell ⟨G+1,3,fV⟩ (fC Z2 z2 y2)) (G+1) 42 #[.int iX 0,.int iX f.al,fC Z1 z1 y1,fC Z2 z2 y2,kA ⟨#[]⟩,.int iX ((j:Int)+1)]:=by
     simpa using ((O.ae 1 (.int iX f.al)).ae 2 (fC Z1 z1 y1)).ae 3 (fC Z2 z2 y2)
    have H:=af.frm i oM;have aR:=(aQ.ay O i dM).less (show w.heap.size<=wF.heap.size by have:=ak.size;have:=a.size;have:=aj.size;omega);have ab:=(ak.trans aa).frm i (fun k hk e=>oM);clear av an aw u S O af i aP aQ bP;generalize ((wG.setCell ⟨G+1,1,fV⟩ f.al).setCell ⟨G+1,2,fV⟩ (fC Z1 z1 y1)).setCell ⟨G+1,3,fV⟩ (fC Z2 z2 y2)=wH at *;have hxw:=aj.trans (a.trans ab);have hb8:=b8.ext (a.trans ab);have hb9':=b9.ext (a.trans ab);obtain⟨f1,f2,f3⟩:=zhh (v:=⟨0,f,⟨#[]⟩,j+1⟩) (x:=f.al) (X:=Y) (k1:=q1) (d1:=e1) (X':=Y') (k1':=I) (d1':=D) hxw hb8 hb9' rfl rfl oM aR;have F1:=za (zdD.cast aN.out f1.out.drew);clear f1;simp only [iT,Int.cast_ofNat_Int] at F1 f2 f3;have F2:=za f2;have F3:=za f3;clear f2 f3;have k8:=hb8.cell;have z8:=hb8.frozen;have k9:=hb9'.cell;have z9:=hb9'.frozen;have hne1:G+1≠Z:=oH a.size;have hne2:G+1+1≠Z:=oH a.size;have bI:∀ W,Frm (fun b=>b=Z) wH W->∀ q,W.cell? ⟨G+1,q,fV⟩=#[Value.int iX 0,.int iX f.al,fC Z1 z1 y1,fC Z2 z2 y2,kA ⟨#[]⟩,.int iX ((j:Int)+1)][q]?:=fun W hW=>(y.frm hW hne1).cell;have bJ:∀ W,Frm (fun b=>b=Z) wH W->∀ q,W.cell? ⟨G+1+1,q,fV⟩=#[Value.int iX f.al,fC Y q1 e1,fC Y' I D][q]?:=fun W hW=>(H.frm hW hne2).cell;have hS0:Frm (fun b=>b=Z) wH wH.drew:=⟨rfl,rfl,rfl,dD _,fun _ _ _=>rfl⟩;have hf8:=za (zhL wH Z (.int iX 0) (.int iX f.al) (fC Z1 z1 y1) (fC Z2 z2 y2) (.string ⟨#[]⟩) (.int iX ((j:Int)+1)));clear y H aR hb8 hb9' hxw hne1 hne2;go_wp2_with fail
    refine zbr (fun Y=>Frm (fun b=>b=Z) wH Y) [3] (zy.of [0,1,2,3]) kM kM kM kM kM (fun _ _ _ _ _ h=>h) hS0 ?_;refine zbI (v:=?_) rfl rfl rfl rfl (fun X hX=>?_) ?_
    rotate_left
    focus (go_simp<;>with_reducible rfl)
    refine pT ?_;refine zbI (v:=?_) rfl rfl rfl rfl (fun X hX=>?_) ?_
    rotate_left
    focus (go_simp<;>with_reducible rfl)
    refine pT ?_;refine ze fun K hK=>?_;go_simp;refine hK.out _ _ hf8.out.drew ?_;refine pT ?_;refine zb fun K hK=>?_;go_simp;refine hK.out _ _ ?_;refine zg ?_;go_wp2_with fail
    have cf2:=F2.out.cell;have cf3:=F3.out.cell;exact bodyPost_ret (v:=.tuple #[j2 #[(0:Int),f.al,fC Z1 z1 y1,fC Z2 z2 y2,kA ⟨#[]⟩,((j:Int)+1:Int)],j2 #[f.al,fC Y q1 e1,fC Y' I D]]) (by simp [results,Tryz.results112,go_sem,cf2,cf3]) rfl F1.out
   ·by_cases hJ1:J.2=1
    ·have aN:=za (show ag=⟨1,noA,zaq [s,t] p,j+1⟩ by rw [<- z.out,if_neg hJ0,if_pos hJ1]);have HP:=za (bR.out wE (aj.trans (a.trans g)));have cS:=ct wE g;have cT:=bM wE g;have cP:∀ (v:Array j4) (q:Nat),(wE.alloc (.cells v 38)).cell? ⟨w.heap.size+1+1,q,fV⟩=_:=fun v q=>cq _ (g.trans ((cY wE).alloc _)) q;clear hJ0 z ad a2 a1 U;go_upto_region 20 with (first
      |(go_at_call 150;refine HP.out.mono (mQ fun wF ak=>?_);clear cS cT cP))
     have u:=l.ext ak;have S:=Q.ext ak;have ci:=g.trans ak;have av:=u.cell;have an:=u.frozen;clear HP l Q;go_upto_region 22 with fail
     have i:Frm (fun b=>b=G+1) wF ((wF.setCell ⟨G+1,0,fV⟩ (1:Int)).setCell ⟨G+1,4,fV⟩ (.string (zaq [s,t] p))):=(dG wF _ 0 _).trans (dG _ _ 4 _);have y:Blk ((wF.setCell ⟨G+1,0,fV⟩ (1:Int)).setCell ⟨G+1,4,fV⟩ (.string (zaq [s,t] p))) (G+1) 42 #[.int iX 1,.int iX 0,fC fV 0 0,fC fV 0 0,kA (zaq [s,t] p),.int iX ((j:Int)+1)]:=by
      simpa using (u.ae 0 (.int iX 1)).ae 4 (.string (zaq [s,t] p))
     have H:=S.frm i oM;have ab:=ci.frm i (fun k hk e=>oM);clear av an u S i hJ1;generalize (wF.setCell ⟨G+1,0,fV⟩ (1:Int)).setCell ⟨G+1,4,fV⟩ (.string (zaq [s,t] p))=wH at *;have hxw:=aj.trans (a.trans ab);have hb8:=b8.ext (a.trans ab);have hb9':=b9.ext (a.trans ab);obtain⟨f1,f2,f3⟩:=zhh (v:=⟨1,noA,zaq [s,t] p,j+1⟩) (A:=fV) (n:=0) (c:=0) (A':=fV) (n':=0) (c':=0) (x:=f.al) (X:=Y) (k1:=q1) (d1:=e1) (X':=Y') (k1':=I) (d1':=D) hxw hb8 hb9' rfl rfl oM (⟨⟨[],World.ownsRow_nil _ _ _ _,zB.nil _ _⟩,rfl,World.ownsRow_nil _ _ _ _,rfl⟩:zac wH w.heap.size fV 0 0 fV 0 0 noA);have F1:=za (zdD.cast aN.out f1.out.drew);clear f1;simp only [noA,iT,Int.cast_ofNat_Int] at F1 f2 f3;have F2:=za f2;have F3:=za f3;clear f2 f3;have k8:=hb8.cell;have z8:=hb8.frozen;have k9:=hb9'.cell;have z9:=hb9'.frozen;have hne1:G+1≠Z:=oH a.size;have hne2:G+1+1≠Z:=oH a.size;have bI:∀ W,Frm (fun b=>b=Z) wH W->∀ q,W.cell? ⟨G+1,q,fV⟩=#[Value.int iX 1,.int iX 0,fC fV 0 0,fC fV 0 0,kA (zaq [s,t] p),.int iX ((j:Int)+1)][q]?:=fun W hW=>(y.frm hW hne1).cell;have bJ:∀ W,Frm (fun b=>b=Z) wH W->∀ q,W.cell? ⟨G+1+1,q,fV⟩=#[Value.int iX f.al,fC Y q1 e1,fC Y' I D][q]?:=fun W hW=>(H.frm hW hne2).cell;have hS0:Frm (fun b=>b=Z) wH wH.drew:=⟨rfl,rfl,rfl,dD _,fun _ _ _=>rfl⟩;have hf8:=za (zhL wH Z (.int iX 1) (.int iX 0) (fC fV 0 0) (fC fV 0 0) (.string (zaq [s,t] p)) (.int iX ((j:Int)+1)));clear y H hb8 hb9' hxw hne1 hne2;go_wp2_with fail
     refine zbr (fun Y=>Frm (fun b=>b=Z) wH Y) [3] (zy.of [0,1,2,3]) kM kM kM kM kM (fun _ _ _ _ _ h=>h) hS0 ?_;refine zbI (v:=?_) rfl rfl rfl rfl (fun X hX=>?_) ?_
     rotate_left
     focus (go_simp<;>with_reducible rfl)
     refine pT ?_;refine zbI (v:=?_) rfl rfl rfl rfl (fun X hX=>?_) ?_
     rotate_left
     focus (go_simp<;>with_reducible rfl)
     refine pT ?_;refine ze fun K hK=>?_;go_simp;refine hK.out _ _ hf8.out.drew ?_;refine pT ?_;refine zb fun K hK=>?_;go_simp;refine hK.out _ _ ?_;refine zg ?_;go_wp2_with fail
     have cf2:=F2.out.cell;have cf3:=F3.out.cell;exact bodyPost_ret (v:=.tuple #[j2 #[(1:Int),(0:Int),(),(),kA (zaq [s,t] p),((j:Int)+1:Int)],j2 #[f.al,fC Y q1 e1,fC Y' I D]]) (by simp [results,Tryz.results112,go_sem,cf2,cf3]) rfl F1.out
    ·have e0:(J.2==0)=j1:=by simpa using hJ0
     have e2:(J.2==1)=j1:=by simpa using hJ1
     have bC:=za (show runT s t p L (K - (j+1)) (j+1) (zba L (zu s p L) rs cs J.1)=ag by
      have:=z.out;rw [if_neg hJ0,if_neg hJ1] at this;exact this)
     clear hJ0 hJ1 z;have bs:=bN wE g;have bE:=ad.cell;have br:=za (show TabAt wE R nr C nc rs cs from ⟨_,_,_,_,eE a2,eE a1⟩);go_upto_region 24 with (first
      |(go_at_call 64;refine (cw.out _ _ _ _ _ _ rs cs J.1 _ g br.out bu.out ai ah bf.out (oH bZ.out)).mono ?_;intro e wF hret;obtain⟨ak,aW,aV,R2,aI,C2,aH,rfl,b7,b6,bw⟩:=hret.fill (w0:=w2) g.size;clear hret))
     have cd:=za (zhm.ar bu.out J.1);generalize zba L (zu s p L) rs cs J.1=oL at *;generalize U0:wF.alloc _=wG at *;have aa:=Ext.al_ U0;have bV:=eA U0;clear U0;have aA:=ak.trans aa;have M:=ad.ext aA;have O:=l.ext aA;have af:=Q.ext aA;have cj:=g.trans aA;have cH:=bV.cell;have ck:=M.cell;have bX:=M.frozen;have i:Frm (fun b=>b=G) wG ((wG.setCell G (fC R2 aW aI)).setCell ⟨G,1,fV⟩ (fC C2 aV aH)):=(dG wG _ 0 _).trans (dG _ _ 1 _);have b0:TabM w2 ((wG.setCell G (fC R2 aW aI)).setCell ⟨G,1,fV⟩ (fC C2 aV aH)) G oL:=
      ⟨aW,aV,R2,aI,C2,aH,by simpa using (M.ae 0 (fC R2 aW aI)).ae 1 (fC C2 aV aH),b7,b6,fun rs' cs' e=>by
       have h1:=zi (bw rs' cs' e).1 aa;have h2:=zi (bw rs' cs' e).2 aa;exact⟨zf h1 i (fun b hv e'=>zq h1 M dM hv e'),zf h2 i (fun b hv e'=>zq h2 M dM hv e')⟩⟩
     have y:=O.frm i oM;have H:=af.frm i oM;have ab:=cj.frm i (fun k hk e=>oM);clear bs bE ad l Q a2 a1 U M O af i bV bw;go_upto_region 25 with fail
     generalize (wG.setCell G (fC R2 aW aI)).setCell ⟨G,1,fV⟩ (fC C2 aV aH)=wH at *;clear cH ck bX;have ca:((j:Int)+1)=((j+1:Nat):Int):=oM;rw [ca] at y;have bB:=za (roAt_blk y);clear ca;go_wp2_with fail
     go_roundw
     case rel=>exact⟨oL,j+1,f.al,Y,q1,e1,Y',I,D,rfl,oM,cd,bC,b0,y,H,ab⟩
     case measure=>have h1:=cb.out;have h2:=bB.out;omega
  ·have aN:=za (show ag=⟨2,noA,⟨#[]⟩,j⟩ by
    rw [<- bg.out];exact runT_end hgo)
   have hb8:=(b8.ext (a.trans aU));have hb9':=(b9.ext (a.trans aU));have hon:zac wr w.heap.size fV 0 0 fV 0 0 noA:=⟨⟨[],World.ownsRow_nil _ _ _ _,zB.nil _ _⟩,rfl,World.ownsRow_nil _ _ _ _,rfl⟩;have hflag:(o.isSome&&decide ((j:Int)<(K:Int)))=j1:=by
    rw [eU];intro h;simp only [dH,decide_eq_true_eq] at h;exact hgo ⟨h.1,oM⟩
   have hxw:=aj.trans (a.trans aU);have hd:Ext wr wr.drew:=(cY wr).drew;obtain⟨f1,f2,f3⟩:=zhh (v:=⟨2,noA,⟨#[]⟩,j⟩) (x:=x) (X:=X) (k1:=k1) (d1:=d1) (X':=X') (k1':=k1') (d1':=d1') hxw hb8 hb9' rfl rfl oM hon;have F1:=za (zdD.cast aN.out f1.out.drew);clear f1;simp only [noA] at F1 f2 f3;have F2:=za f2;have F3:=za f3;clear f2 f3;have k8:=hb8.cell;have z8:=hb8.frozen;have k9:=hb9'.cell;have z9:=hb9'.frozen;have dq:=aj.size;have hne1:G+1≠Z:=oH a.size;have hne2:G+1+1≠Z:=oH a.size;have bI:∀ W,Frm (fun b=>b=Z) wr W->∀ q,W.cell? ⟨G+1,q,fV⟩=#[Value.int iX 2,.int iX 0,fC fV 0 0,fC fV 0 0,kA ⟨#[]⟩,.int iX j][q]?:=fun W hW=>(E.frm hW hne1).cell;have bJ:∀ W,Frm (fun b=>b=Z) wr W->∀ q,W.cell? ⟨G+1+1,q,fV⟩=#[Value.int iX x,fC X k1 d1,fC X' k1' d1'][q]?:=fun W hW=>(ae.frm hW hne2).cell;have hS0:Frm (fun b=>b=Z) wr wr.drew:=⟨rfl,rfl,rfl,dD _,fun _ _ _=>rfl⟩;have hf8:=za (zhL wr (Z) (.int iX 2) (.int iX 0) (fC fV 0 0) (fC fV 0 0) (.string ⟨#[]⟩) (.int iX j));cases ho:o.isSome
   ·have Ho:=za ho;rw [ho] at hflag;exact yW13a1
   ·have cX:¬ ((j:Int)<(K:Int)):=fun h=>hgo ⟨ho,oM⟩;have Ho:=za ho;exact yW13a1
end
def zjh (w:jX) (v:Vd) (e:Ending) (w':jX):Prop:=
 ∃ (A:Option Addr) (n c:Nat) (A':Option Addr) (n' c':Nat),
  e=j5 (j2 #[v.code,v.asm.al,fC A n c,fC A' n' c',v.tr,v.ro])/\zac w' w.heap.size A n c A' n' c' v.asm/\Ext w w'
section
variable {w:jX}{lo hi n c lo1 hi1 m d m' d' lo2 hi2 k c2:Nat}{A B B' C:Option Addr}{s t:Sys}{p:Aut}
theorem zdu {v:Vd}(HR:Hid (∀ W,Ext w W->j6 j3 112 #[j2 #[s.al,s.st,fC A n c],j2 #[t.al,t.st,fC C k c2],j2 #[p.al,fC B m d,fC B' m' d'],(12:Int)] W (zdD W v))) :
  j6 j3 42 #[j2 #[s.al,s.st,fC A n c],j2 #[t.al,t.st,fC C k c2],j2 #[p.al,fC B m d,fC B' m' d']] w
   (zjh w v):=by
 obtain⟨I,U0⟩:∃ x,Hid ((((w.alloc (.cells #[s.al,s.st,fC A n c] 38)).alloc (.cells #[t.al,t.st,fC C k c2] 38)).alloc (.cells #[p.al,fC B m d,fC B' m' d'] 27)).alloc (.cells #[(0:Int),(0:Int),(),(),kA ⟨#[]⟩,(0:Int)] 42)=x):=⟨_,za rfl⟩;have j:Ext w I:=(((((cY _).alloc _).alloc _).alloc _).alloc _).trans (e6 U0.out);obtain⟨L,M,O⟩:=zK (((cY _).alloc _).trans (e6 U0.out));have H:=eA U0.out;simp only [World.size_alloc] at H
 go_enter Tryz.func42,Tryz.ntmps42
 go_upto_region 1 with fail
 rw [U0.out] at *;have R:=L.cell;have D:=M.cell;have S:=O.cell;go_upto_region 2 with (first
  |(go_at_call 112;refine (HR.out I j).mono ?_;rintro e w1 ⟨b,h,k1,f,i,g,x,X,T,d1,X',G,d1',rfl,ho,y⟩;clear R D S))
 have Q:=(dZ w1 42 #[v.code,v.asm.al,fC b h k1,fC f i g,v.tr,v.ro]).ext ((cY _).alloc (.cells #[x,fC X T d1,fC X' G d1'] 27));generalize U0:(w1.alloc _).alloc _=J at *;have l:=((cY w1).alloc (.cells #[v.code,v.asm.al,fC b h k1,fC f i g,v.tr,v.ro] 42)).trans (Ext.al_ U0);clear U0;have a:=H.ext (y.trans l);have Y:=Q.cell;have V:=a.cell;have U:=a.frozen;have q:=ho.ext l;have F:=zhL J (w.heap.size+1+1+1) (.int iX v.code) (.int iX v.asm.al) (fC b h k1) (fC f i g) (.string v.tr) (.int iX v.ro);have o:Blk ((((((J.setCell ⟨w.heap.size+1+1+1,0,fV⟩ v.code).setCell ⟨w.heap.size+1+1+1,1,fV⟩ v.asm.al).setCell ⟨w.heap.size+1+1+1,2,fV⟩ (fC b h k1)).setCell ⟨w.heap.size+1+1+1,3,fV⟩ (fC f i g)).setCell ⟨w.heap.size+1+1+1,4,fV⟩ v.tr).setCell ⟨w.heap.size+1+1+1,5,fV⟩ v.ro) (w.heap.size+1+1+1) 42 #[.int iX v.code,.int iX v.asm.al,fC b h k1,fC f i g,kA v.tr,.int iX v.ro]:=by
  simpa using (((((a.ae 0 (.int iX v.code)).ae 1 (.int iX v.asm.al)).ae 2 (fC b h k1)).ae 3 (fC f i g)).ae 4 (.string v.tr)).ae 5 (.int iX v.ro)
 have r:=(q.ay a F dM).less j.size;have z:=(j.trans (y.trans l)).frm F (fun k hk e=>oM);have u:=za (show zjh w v (j5 (j2 #[v.code,v.asm.al,fC b h k1,fC f i g,v.tr,v.ro])) _ from ⟨b,h,k1,f,i,g,rfl,r,z⟩);have E:=za o;clear a q ho r z F o;go_wp2_with fail
 have E:=E.out.cell;exact bodyPost_ret (v:=j2 #[v.code,v.asm.al,fC b h k1,fC f i g,v.tr,v.ro]) (by simp [results,Tryz.results42,go_sem,E]) rfl u.out
theorem zhQ (hs:zU w lo hi A n s)(hp:zJ w lo1 hi1 B m B' m' p)(ht:zU w lo2 hi2 C k t)(hif:iface s p t=(L:Int))(hn:n<=1000000)(hhi:hi<=w.heap.size) :
  j6 j3 42 #[j2 #[s.al,s.st,fC A n c],j2 #[t.al,t.st,fC C k c2],j2 #[p.al,fC B m d,fC B' m' d']] w
   (zjh w (runT s t p L 12 0 ((zar L (zu s p L) [⟨#[]⟩] 11 [⟨#[]⟩]).map fun r=>(r,[⟨#[]⟩])))):=
 zdu (za (fun W (hW:Ext w W)=>spec_l12Run (K:=12) (hs.ext hW) (hp.ext hW) (ht.ext hW) hif hn (dL hhi hW.size) oM))
end
theorem tot_cons (l:List Int) (r:List (List Int)):tot (l :: r)=l.length+tot r:=by simp [tot]
theorem zB.ae {w':jX}{rows:List j4}{ls:List (List Int)}{l:List Int}(h:zB w base rows ls)(hr:rows[j]?=fU (fC A l.length c))
  (hf:Frm (blk A) w w') (zkh:w'.ownsRow base 3 1 (fC A l.length c) l.length (ints l)):zB w' base rows (ls.set j l):=by
 have d:j<rows.length:=(List.getElem?_eq_some_iff.1 hr).1;refine⟨by simp [h.1],fun i row m hi hm=>?_,h.2.2⟩
 by_cases hij:i=j
 ·subst hij;rw [hr] at hi;obtain rfl:=j8 hi;rw [List.getElem?_set_self (by rw [<- h.1];exact d)] at hm;obtain rfl:=j8 hm;exact zkh
 ·rw [List.getElem?_set_ne (fun e=>hij e.symm)] at hm;refine zf (h.2.1 i row m hi hm) hf (fun b hb hS=>?_);obtain⟨a,rfl,rfl⟩:=hS;exact h.2.2 i j row _ a.block hi hr hij hb rfl
def aut0:Aut:=⟨0,[],[]⟩
theorem own_aut0 (w:jX) (base:Nat):zac w base fV 0 0 fV 0 0 aut0:=⟨⟨[],World.ownsRow_nil _ _ _ _,zB.nil _ _⟩,rfl,World.ownsRow_nil _ _ _ _,rfl⟩
end Go.Proofs.YtckbjnndaaoddaaGreatDoor
