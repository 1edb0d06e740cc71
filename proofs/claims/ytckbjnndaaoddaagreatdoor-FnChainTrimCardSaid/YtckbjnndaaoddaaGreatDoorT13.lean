/- The program' -/
import Derived.Test.YtckbjnndaaoddaaGreatDoorT12
set_option maxHeartbeats 4000000
set_option maxRecDepth 100000
namespace Go.Proofs.YtckbjnndaaoddaaGreatDoor
open Go Go.RowKit
open Blk renaming new->eO
open Bool renaming and_eq_true->dI,eq_false_iff->fH,eq_iff_iff->iG,or_eq_true->gS,true->kC
open Ext renaming bl_->eM,eq_->fV,refl->dB
open Frm renaming setCell->dG
open Int renaming cast_ofNat_Int->jR,natCast_add->gV,toNat_natCast->eT
open List renaming all_eq_true->eV,append_nil->iA,eq_nil_of_length_eq_zero->eE,filter_append->iJ,filter_cons_of_neg->fS,filter_cons_of_pos->fC,getElem?_eq_getElem->dE,length_cons->gD,map_append->eU,mem_cons_of_mem->eR,mem_cons_self->iK,mem_of_getElem?->dC,take_add_one->eB,take_of_length_le->dK,mem_append->kY,mem_cons->lB
open Nat renaming eq_of_testBit_eq->fX,le_refl->dD,le_trans->dW,mul_le_mul->fK,or_lt_two_pow->eX,pow_le_pow_right->eL,strongRecOn->kD,testBit_and->gH,testBit_two_pow_sub_one->jZ,zero_le->dH,zero_testBit->jB
open Option renaming toList_some->eS,map_eq_some_iff->lE,none->gP,some->gO
open Reads renaming af->eQ
open Go renaming Calls->kQ,Value->kL,World->kJ
open Go.Ending renaming returned->kP
open Go.IntKind renaming i64->kA
open Go.Value renaming agg->kO,slice->fQ,string->kU
open Option.some renaming inj->kS
open _root_.Go.Proofs.Tryz renaming prog->kN
variable {A A':Option Addr}{G K L Z base c c' g j k n n':Nat}{S:Nat->Prop}{W W' w w0:kJ}{a p:Aut}{al st:Int}{e:Ending}{es:List Edg}{s t:Sys}{ss:List Sys}{u0 u1 u2:kL}{v:List Nat}{x:ByteArray}
structure AutS (W:kJ) (S:Nat->Prop) (base:Nat) (A:Option Addr) (n c:Nat) (A':Option Addr) (n' c':Nat) (a:Aut):Prop where
 own:∃ rows,W.ownsRow base 110 1 (fQ A n c) a.next.length rows/\zC W base rows a.next/\∀ (i:Nat) (r:kL) (b:Nat),rows[i]?=gO r->r.ownBlock=gO b->¬ S b
 acc:W.ownsRow base 4 1 (fQ A' n' c') a.acc.length (zae a.acc)
 fv:∀ b,(fQ A n c).ownBlock=gO b->¬ S b
 fA:∀ b,(fQ A' n' c').ownBlock=gO b->¬ S b
def RetAO (J:zbs) (a:Aut) (B:Nat) (S:Nat->Prop) (W:kJ) (e:Ending) (W':kJ):Prop:=
 ∃ (S':Nat->Prop) (A A':Option Addr) (n c n' c':Nat),e=kP (kO #[a.al,fQ A n c,fQ A' n' c'])/\AutS W' S' W.heap.size A n c A' n' c' a/\Kp J B S W W' S'
section
variable {J:zbs}{B b0 base N G:Nat}{S S':Nat->Prop}{W W':kJ}{al:Int}{ls:List (List Int)}{acc:List Bool}{A A':Option Addr}{n c n' c':Nat}{a:Aut}
theorem own_num {m size:Nat}{e:TypeId}{xs:List kL}(h:w.ownsRow base e size (fQ A n c) m xs):n=m:=by
 rcases h.2 with ⟨h1,h2⟩|⟨g,a,b,h1,_⟩
 ·injection h1 with _ h3;omega
 ·injection h1
theorem AutS.kp (h:AutS W S base A n c A' n' c' a) (k:Kp J B S W W' S'):AutS W' S' base A n c A' n' c' a:=by
 obtain⟨d,h1,h2,f⟩:=h.own;refine⟨⟨d,(k.row h1 h.fv).1,h2.frm k.frm (fun i r b hr hb=>f i r b hr hb),fun i r b hr hb=>?_⟩,(k.row h.acc h.fA).1,(k.row h1 h.fv).2,(k.row h.acc h.fA).2⟩;obtain⟨l,_,ho⟩:=h2.row hr;exact k.out (ho.lt b hb).2 (f i r b hr hb)
theorem AutS.ext (h:AutS W S base A n c A' n' c' a)(hx:Ext W W'):AutS W' S base A n c A' n' c' a:=by
 obtain⟨b,h1,h2,d⟩:=h.own;exact⟨⟨b,zh h1 hx,h2.ext hx,d⟩,zh h.acc hx,h.fv,h.fA⟩
theorem AutS.own_ (h:AutS W S base A n c A' n' c' a):zM W base A n c A' n' c' a:=by
 obtain⟨b,h1,h2,d⟩:=h.own;obtain rfl:=own_num h1;obtain rfl:=own_num h.acc;exact⟨⟨b,h1,h2⟩,rfl,h.acc,rfl⟩
theorem zfv.autS (h:zfv W S base N G al (fQ A n c) ls (fQ A' n' c') acc):AutS W S base A n c A' n' c' ⟨al,ls,acc⟩:=by
 obtain⟨k,rfl,d,a,f,g,j⟩:=h.gra;exact⟨⟨a,f,g,fun i r b hr hb=>(j i r b hr hb).1⟩,d.acc,h.fv,h.fA⟩
end
section
variable {J:zbs}{B b0 L base nr cr nc cc kn:Nat}{S S':Nat->Prop}{W W':kJ}{R C:Option Addr}{rows cols:List ByteArray}{f:ByteArray->Bool}{rc:kL}
theorem rnM_at {zs:List ByteArray}{y:ByteArray}(h:y∈zs):rnM zs y=gO (zja zs y):=by
 unfold rnM;rw [zav.2 h,if_pos rfl]
theorem aut_ret {w5:kJ}{S5:Nat->Prop}(hJ:zbs.Ok b0 J)(hk:Kp J B S W w5 S5)(hA:AutS w5 S5 base A n c A' n' c' a)(hb:Blk w5 Z 27 #[u0,u1,u2])(hZ:¬ S5 Z)(hWZ:W.heap.size<=Z)(hbZ:b0<=Z)(hWb:W.heap.size<=base) :
  Blk (((w5.setCell Z a.al).setCell ⟨Z,1,gP⟩ (fQ A n c)).setCell ⟨Z,2,gP⟩ (fQ A' n' c')) Z 27 #[a.al,fQ A n c,fQ A' n' c']/\Kp J B S W (((w5.setCell Z a.al).setCell ⟨Z,1,gP⟩ (fQ A n c)).setCell ⟨Z,2,gP⟩ (fQ A' n' c')) S5 /\
  AutS (((w5.setCell Z a.al).setCell ⟨Z,1,gP⟩ (fQ A n c)).setCell ⟨Z,2,gP⟩ (fQ A' n' c')) S5 W.heap.size A n c A' n' c' a:=by
 have f:=(dG w5 Z 0 (.int kA a.al)).trans ((dG _ Z 1 (fQ A n c)).trans (dG _ Z 2 (fQ A' n' c')));obtain⟨d,g,h,k⟩:=hA.own;refine⟨by simpa using ((hb.ab 0 (.int kA a.al)).ab 1 (fQ A n c)).ab 2 (fQ A' n' c'),hk.own hJ f (fun q _ e=>by have j:q=Z:=e;rw [j];exact⟨hWZ,hbZ,hZ⟩),⟨⟨d,zds (zf g f (fun b hb' e=>zN g hb dM hb' e)) hWb,(h.frm f (fun i r b hr hb' e=>by
  obtain⟨l,_,ho⟩:=h.row hr;exact zN ho hb dM hb' e)).less hWb,k⟩,zds (zf hA.acc f (fun b hb' e=>zN hA.acc hb dM hb' e)) hWb,hA.fv,hA.fA⟩⟩
theorem zeG (hO:zfM b0 L f J kn rc)(hj:J B W S)(hB:B+1692<10000000)(hT:zhi W S base R nr cr C nc cc rows cols)(hI:zcg L f rows cols)(hcl:zaP L f rows cols=gP)(hb0:b0<=W.heap.size)(hL:L<64) :
  kQ kN 51 #[orcV L kn rc,kO #[fQ R nr cr,fQ C nc cc]] W (RetAO J (zcX L f rows cols) (B+1692) S W):=by
 have u:=za hO;have HI:=za hI;have cD:=za (fun (r:ByteArray) (l:Nat) (hr:r∈rows) (hl:l∈letters L 6)=>zeF hcl hr hl);have cb:=za hT.lens;have cQ:nr<=12:=by rw [<- hT.lens.1];exact hI.r12
 have bw:=za hI.c20;have aU:Ext W (((W.alloc (.cells #[(L:Int),.func (.func kn) #[rc] #[]] 83)).alloc (.cells #[fQ R nr cr,fQ C nc cc] 90)).alloc (.cells #[(0:Int),(),()] 27)):=(((dB _).alloc _).alloc _).alloc _;obtain⟨b2,b3,b4⟩:=zaa (dB (((W.alloc (.cells #[(L:Int),.func (.func kn) #[rc] #[]] 83)).alloc (.cells #[fQ R nr cr,fQ C nc cc] 90)).alloc (.cells #[(0:Int),(),()] 27)));have D:=za (fun (q:Nat) (hq:W.heap.size<=q)=>zbs.fresh hO.ok hj hq);have b5:=hO.ok.keep hj aU (fun _ _ h=>h.elim);have bn:=za (hT.ext aU);have dw:W.heap.size<(((W.alloc (.cells #[(L:Int),.func (.func kn) #[rc] #[]] 83)).alloc (.cells #[fQ R nr cr,fQ C nc cc] 90)).alloc (.cells #[(0:Int),(),()] 27)).heap.size/\W.heap.size+1+1<(((W.alloc (.cells #[(L:Int),.func (.func kn) #[rc] #[]] 83)).alloc (.cells #[fQ R nr cr,fQ C nc cc] 90)).alloc (.cells #[(0:Int),(),()] 27)).heap.size:=by simp;omega
 have ck:Sm L:=tM;clear hO hI hT hcl;have dl:=u.out.in_
 go_enter Tryz.func51,Tryz.ntmps51
 go_upto_region 1 with fail
 generalize ((W.alloc _).alloc _).alloc _=w1 at *;have k2:=b2.cell;have k3:=b3.cell;have bx:=za (zgh u.out b5 oM bn.out HI.out oM);obtain⟨zs,aL⟩:∃ zs,Hid (zaA f cols rows=zs):=⟨_,za rfl⟩;rw [aL.out] at bx;go_upto_region 2 with (go_at_call 124;refine bx.out.mono ?_;rintro e w2 ⟨S2,M,n,rfl,ce,bc,db,dc,an⟩)
 have B2:=za b2;have B3:=za b3;have B4:=za b4;have k2:=(an.blk b2 (D.out _ oM)).1.cell;obtain⟨w3,U0⟩:∃ x,Hid (w2.alloc (.cells #[(L:Int),(),()] 27)=x):=⟨_,za rfl⟩;have bo:=eM U0.out;have cS:Ext w2 (w2.alloc (.cells #[(0:Int),(),()] 27)):=(dB _).alloc _;have c9:=bo.cell;have f9:=bo.frozen;go_upto_region 3 with fail
 have ak:=eM U0.out;have Z:Ext w2 w3:=((dB _).alloc _).trans (fV U0.out);obtain⟨G,bj⟩:∃ G,Hid (G=w2.heap.size):=⟨_,za rfl⟩;rw [<- bj.out] at ak ⊢;have aZ:=za (fun (q:Nat) (hq:w2.heap.size<=q)=>zbs.fresh u.out.ok an.j hq);have cH:=za (aZ.out G (oH bj.out));have dd:=an.size;have bk:w1.heap.size<=G:=oH bj.out;clear bo cS c9 f9 b2 b3 b4 k3 bx b5;rw [U0.out] at *;have s:=za (an.ext u.out.ok Z);have bd:=za (show zfK w3 M n (rnM zs)/\¬ S2 M from ⟨ce.ext Z,bc⟩);obtain⟨wb,I,bg⟩:=zeb w3 (base:=w1.heap.size) (oH Z.size);have aA:=gra_first bg ak (by rw [I];exact bk) cH.out;rw [I] at aA;have a3:=za aA;have k3:=((an.ext u.out.ok Z).blk B3.out (D.out _ oM)).1.cell;clear an ce bc aA I bg ak Z k2 aZ;have cd:(letters L 6).length<=6:=zB L 6;go_wp2_with fail
 go_loopw [8,9,11,21] (fun _ _ _ iv wr=>∃ (i:Nat) (S1:Nat->Prop) (v vA:kL) (ls:List (List Int)) (g:List Bool),iv=.int kA i/\i<=nr/\Hid (Kp J (B+240+121*i) S w1 wr S1)/\Hid (zfK wr M n (rnM zs)/\¬ S1 M)/\Hid (zfv wr S1 w1.heap.size wr.heap.size G (L:Int) v ls vA g)/\Hid (ls=(rows.take i).map (zdL L f rows cols)/\g=(rows.take i).map f)) (fun _ _ _ iv _=>nr - (intOf iv).toNat)
 case atStart=>exact⟨0,S2,_,_,[],[],rfl,dH _,s,bd,a3,za ⟨sM,sM⟩⟩
 case round =>
  clear s bd a3 k3;obtain⟨i,S1,v,vA,ls,g,rfl,hi,U,H,o,ap⟩:=hrel;have k2:=(U.out.blk B2.out (D.out _ (dD _))).1.cell;have k3:=(U.out.blk B3.out (D.out _ oM)).1.cell
  by_cases hlt:i<nr
  ·have da:(i:Int)<(nr:Int):=oM;obtain⟨x,hx⟩:∃ x,rows[i]?=gO x:=⟨_,dE (oH cb.out.1)⟩;have Hx:=za hx;obtain⟨gR,rfl,hc⟩:=zhW (bn.out.kp U.out).r.own hx;have aW:=za (dC hx);have dx:x.size<=12:=(HI.out.rin aW.out).2;have bf:=za (fun (q:Nat) (hq:wr.heap.size<=q)=>zbs.fresh u.out.ok U.out.j hq);clear hx;go_upto_block 2 with (go_at_call 67;refine (zah L ck _).mono ?_;rintro e w4 ⟨AL,cL,rfl,F,aV⟩)
   have ca:=za (fun l (hl:l∈letters L 6)=>zD.1 hl);obtain⟨d,ad⟩:∃ d,Hid (zdL L f rows cols x=d):=⟨_,za rfl⟩;have a0:=za (show ∀ (k l:Nat),(letters L 6)[k]?=gO l->d[k]?=gO ((zja zs (mkS (zbO f cols (x++zch l))):Nat):Int) from fun k l hl=>by
    rw [<- ad.out,<- aL.out];unfold zdL;rw [List.getElem?_map,hl];rfl)
   have ax:=za (show d.length=(letters L 6).length by rw [<- ad.out];simp [zdL]);have ay:=za (fun l hl=>cD.out x l aW.out hl);rw [aL.out] at ay;obtain⟨LL,cI⟩:∃ LL,Hid (letters L 6=LL):=⟨_,za rfl⟩;have bs:=cd;rw [cI.out] at F ca a0 ax ay bs ⊢;have bq:=za (U.out.ext u.out.ok aV);have be:=za (show zfK w4 M n (rnM zs)/\¬ S1 M from ⟨H.out.1.ext aV,H.out.2⟩);have aG:=za (show zgy w4 S1 wr.heap.size 3 1 (fQ AL LL.length cL) LL.length (zag LL) from ⟨F,fun b hb=>bf.out b (F.lt b hb).1⟩);obtain⟨N,bm⟩:∃ N,Hid (N=w4.heap.size):=⟨_,za rfl⟩;have aY:=za (fun b hb=>(F.lt b hb).2);have aB:=(o.out.ext aV).reN;have bR:=aY;rw [<- bm.out] at aB bR;clear aY;have aC:=za aB;have cq:w1.heap.size<=N:=by have:=bq.out.size;have:=bm.out;omega
   have aH:=za (show zgy w4 S1 N 3 1 (fQ gP 0 0) 0 (ints (d.take 0)) from ⟨World.ownsRow_nil _ _ _ _,fun b hb=>by simp [Value.ownBlock] at hb⟩);obtain⟨bl,bV⟩:∃ bl,Hid (bl=wr.heap.size):=⟨_,za rfl⟩;rw [<- bV.out] at aG;clear F aV k2 k3 hc H bf o aB U;go_wp2_with fail
   go_loopw [9,11,29] (fun v9 _ kv wr=>∃ (k:Nat) (S3:Nat->Prop),kv=.int kA k/\k<=LL.length/\Hid (Kp J (B+240+121*i+20*k) S w1 wr S3)/\Hid (zfK wr M n (rnM zs)/\¬ S3 M)/\Hid (zfv wr S3 w1.heap.size N G (L:Int) v ls vA g)/\Hid (zgy wr S3 bl 3 1 (fQ AL LL.length cL) LL.length (zag LL))/\Hid (zgy wr S3 N 3 1 v9 k (ints (d.take k))/\N<=wr.heap.size)) (fun _ _ kv _=>LL.length - (intOf kv).toNat)
   case atStart=>exact⟨0,S1,rfl,dH _,bq,be,aC,aG,za ⟨aH.out,oH bm.out⟩⟩
   case round =>
    clear bq be aC aG aH;obtain⟨k,S3,rfl,hk,s,H,o,aF,V⟩:=hrel;have k2:=(s.out.blk B2.out (D.out _ (dD _))).1.cell;have k3:=(s.out.blk B3.out (D.out _ oM)).1.cell
    by_cases hkl:k<LL.length
    ·have c8:(k:Int)<(LL.length:Int):=oM;obtain⟨l,hl⟩:∃ l,LL[k]?=gO l:=⟨_,dE hkl⟩;obtain⟨br,b8⟩:=ca.out l (dC hl);have aD:=za (ay.out l (dC hl));have aR:=za (a0.out k l hl);obtain⟨gl,rfl,-,-⟩:=zW aF.out.own oM;have cl:=zcv aF.out.own hkl;rw [List.getD_eq_getElem?_getD,hl,Option.getD_some] at cl;have bW:∀ X:kJ,(convert 21 9 (.int .i32 (97+(l:Int)))).run kN X=.ok (.string (zch l)) X:=fun X=>by
      have:=conv_rune br X;rwa [gV] at this
     have cs:IntKind.i32.wrap (97+(l:Int))=97+(l:Int):=by
      simp [IntKind.wrap,IntKind.bits,IntKind.signed];omega
     have ae:=za (HI.out.snoc aW.out br b8);obtain⟨z,hz⟩:∃ z,Hid (zch l=z):=⟨_,za rfl⟩;have dz:z.size=1:=by rw [<- hz.out];exact zcE l
     obtain⟨y,hy⟩:∃ y,Hid (x++z=y):=⟨_,za rfl⟩;have cT:=za (show x++zch l=y by rw [hz.out,hy.out]);rw [cT.out] at ae aD aR;have cn:¬ 9223372036854775807<x.size+1:=oM;rw [hz.out] at bW;obtain⟨m9,bt⟩:∃ m9,Hid (mkS (zbO f cols y)=m9):=⟨_,za rfl⟩;rw [bt.out] at aD aR;have bS:=za (rnM_at aD.out);obtain⟨q9,cR⟩:∃ q9,Hid (zja zs m9=q9):=⟨_,za rfl⟩;rw [cR.out] at bS aR;have cM:=za (show domS m9 by rw [<- bt.out];exact mkS_dom bw.out y);have dy:=hy.out;obtain⟨A9,c9,rfl⟩:=zi V.out.1.own;go_upto_region 10 with fail
     have bB:=dB wr;have K2:∀ X,Ext wr X->∀ q,X.cell? ⟨W.heap.size,q,gP⟩=#[Value.int kA (L:Int),.func (.func kn) #[rc] #[]][q]?:=fun X hX=>((s.out.blk B2.out (D.out _ (dD _))).1.ext hX).cell;have K3:∀ X,Ext wr X->∀ q,X.cell? ⟨W.heap.size+1,q,gP⟩=#[fQ (gO gR) nr cr,fQ C nc cc][q]?:=fun X hX=>((s.out.blk B3.out (D.out _ oM)).1.ext hX).cell;clear k2 k3 cl hl b8;refine uR (fun X=>Ext wr X) [10,11,12,13] (zx.of [0,1,2,3,4,5,6,7,8,9,10,11,12,13,14]) ?_;refine uQ ?_;refine ze fun K hK=>?_;go_simp;refine (zbI br _).mono ?_;rintro e w7 ⟨rfl,rfl⟩;refine hK.out _ _ bB.drew ?_;refine pT ?_;refine uQ ?_;refine zb fun K hK=>?_;have aq:=bB.drew;have T:=za (s.out.ext u.out.ok aq);have aK:=za (show zfK wr.drew M n (rnM zs)/\¬ S3 M from ⟨H.out.1.ext aq,H.out.2⟩);have a5:=za (o.out.ext aq);have a8:=za (aF.out.ext aq);have ba:=za (V.out.1.ext aq);have cJ:N<=wr.drew.heap.size:=V.out.2;have bO:=za (bn.out.kp T.out);clear K2 K3 s H o aF V bB aq bW cs;generalize wr.drew=wd at *;have bu:=za (zhU (x:=y) u.out T.out.j oM bO.out HI.out ae.out.1 (oH ae.out.2) (oH T.out.size));rw [bt.out] at bu;go_simp;refine bu.out.mono ?_;rintro e w5 ⟨S5,rfl,p⟩;refine hK.out _ _ ?_;refine pT ?_;obtain⟨aT,cj⟩:=zfK.kp aK.out.1 aK.out.2 p;have b6:=za (T.out.trans p);have E:=za (a5.out.kp p);have cg:=za (a8.out.kp p);have t:=za (ba.out.kp p);have bT:N<=w5.heap.size:=dW cJ p.size;have az:=za (fun (q:Nat) (hq:w5.heap.size<=q)=>zbs.fresh u.out.ok p.j hq);clear bu p T aK a5 a8 ba bO;refine zb fun K hK=>?_;refine wp_mapAtG _ keyS _ _ rfl rfl aT m9 q9 rfl cM.out bS.out ?_;refine hK.out _ _ ?_;refine pT ?_;refine zb fun K hK=>?_;go_simp;refine hK.out _ _ ?_;refine pT ?_;obtain⟨wn,bA,bh⟩:=zeb w5 bT;have bC:=t.out.own;rw [<- bA] at bC;refine zb fun K hK=>?_;refine zaB wn w5 _ _ _ rfl 3 _ 1 8 Tryz.underlying110 zT rfl dM (fQ A9 k c9) k (ints (d.take k)) _ _ rfl rfl bh.size bC rfl (zaJ _) lM oM ?_;intro g9 cap9 w9 hown9 hg9 hat9 hlt9;refine hK.out _ _ ?_;refine pT ?_;refine uQ ?_;refine zg ?_;rw [bA] at hown9;have cO:=za (b6.out.grown u.out.ok hg9 (fun q hq=>⟨by have:=(t.out.own.lt q hq).1;omega,by have:=(t.out.own.lt q hq).1;omega,t.out.far q hq⟩));have b1:=za (E.out.grow t.out.own hg9);have aS:Frm (fun q=>(fQ A9 k c9).ownBlock=gO q) w5 w9:=Frm.ae hg9;have cm:=za (show zfK w9 M n (rnM zs)/\¬ S5 M from ⟨aT.frm aS (fun e=>aT.aj t.out.own e),cj⟩);have ch:=za (cg.out.frm aS (fun b hb e=>by
      have h1:=(t.out.own.lt b e).1;have h2:=bR.out b hb;omega))
     have bz:=za (show d.take (k+1)=d.take k++[(q9:Int)] by rw [eB,aR.out];rfl);have ci:=za (show zgy w9 S5 N 3 1 (fQ (gO g9) (k+1) cap9) (k+1) (ints (d.take (k+1)))/\N<=w9.heap.size from
      ⟨⟨by rw [bz.out,ints,eU];exact hown9,fun b hb=>by
       obtain rfl:=zfr hb;rcases hat9 with e|e
       ·exact t.out.far _ e
       ·exact az.out _ oM⟩,dW bT aS.size⟩)
     clear hown9 hg9 hat9 bC bA bh aS cj aT;go_wp2_with fail
     go_roundw
     case rel=>exact⟨k+1,S5,gM,oM,za (by have:=cO.out;rwa [show B+240+121*i+20*k+20=B+240+121*i+20*(k+1) by omega] at this),cm,b1,ch,ci⟩
     case measure=>exact uM
    ·obtain rfl:k=LL.length:=oM;obtain⟨A9,c9,rfl⟩:=zi V.out.1.own;have a9:=za (show wr.ownsRow N 3 1 (fQ A9 LL.length c9) d.length (ints d) by
      have h1:=V.out.1.own;rw [dK (by rw [ax.out];exact dD _)] at h1;rw [ax.out];exact h1)
     obtain⟨m,r1,r2,r3⟩:∃ m,wr.ownsRow w1.heap.size 110 1 v ls.length m/\zC wr w1.heap.size m ls/\∀ (i:Nat) (r:kL) (b:Nat),m[i]?=gO r->r.ownBlock=gO b->¬ S3 b/\b<N:=by
      obtain⟨wb,I,-,m,h⟩:=o.out.gra;exact⟨m,h⟩
     have aj:=za r1;have bP:=za r2;have bQ:=za r3;have bZ:=za (fun (q:Nat) (hq:wr.heap.size<=q)=>zbs.fresh u.out.ok s.out.j hq);have cP:ls.length<=12:=by rw [ap.out.1];simp;omega
     have kG:=o.out.blk.cell;have cp:w1.heap.size<=wr.heap.size:=s.out.size;obtain⟨Av,cv,rfl⟩:=zi r1;clear r1 r2 r3;go_upto_region 13 with (at_builtin;refine zL w1 wr rfl _ _ _ rfl 110 _ 1 24 Tryz.underlying24 zbH rfl dM (fQ Av ls.length cv) ls.length m _ _ rfl rfl cp aj.out rfl (zaK _ _ _) lM oM ?_;intro g7 cap7 w7 hown7 hg7 hat7 hlt7;obtain⟨aQ,ag⟩:=o.out.push aj.out bP.out bQ.out cq a9.out V.out.1.far bZ.out hown7 hg7 hat7;have k7:=aQ.cell;have f7:=aQ.frozen)
     have a2:Frm (fun q=>(fQ Av ls.length cv).ownBlock=gO q) wr w7:=Frm.ae hg7;have Y:zfK w7 M n (rnM zs):=H.out.1.frm a2 (fun e=>H.out.1.aj aj.out e);have aJ:=za (show zfK (w7.setCell ⟨G,1,gP⟩ (fQ (gO g7) (ls.length+1) cap7)) M n (rnM zs)/\¬ S3 M from ⟨Y.frm (dG w7 G 1 _) (fun e=>Y.far aQ e.symm),H.out.2⟩);have aE:=za ((s.out.grown u.out.ok hg7 (fun q hq=>⟨(aj.out.lt q hq).1,by have:=(aj.out.lt q hq).1;omega,o.out.fv q hq⟩)).cell u.out.ok bk oM o.out.fG 1 (fQ (gO g7) (ls.length+1) cap7));have Q:=za ag;clear hown7 hg7 hat7 aQ ag k7 f7 Y a2 kG s H o aF V a9 aj bP bQ bZ k2 k3;generalize w7.setCell ⟨G,1,gP⟩ (fQ (gO g7) (ls.length+1) cap7)=w8 at *;have C6:∀ X,Frm S3 w8 X->∀ q,X.cell? ⟨G,q,gP⟩=#[Value.int kA (L:Int),fQ (gO g7) (ls.length+1) cap7,vA][q]?:=fun X hX=>(Q.out.blk.frm hX Q.out.fG).cell;have C2:∀ X,Frm S3 w8 X->∀ q,X.cell? ⟨W.heap.size,q,gP⟩=#[Value.int kA (L:Int),.func (.func kn) #[rc] #[]][q]?:=fun X hX =>
      ((aE.out.blk B2.out (D.out _ (dD _))).1.frm hX (aE.out.blk B2.out (D.out _ (dD _))).2).cell
     have bY:Frm S3 w8 w8.drew:=(dB w8).drew.ak;obtain⟨A2,c2,rfl⟩:∃ A2 c2,vA=fQ A2 g.length c2:=by
      obtain⟨wb,I,am,-⟩:=Q.out.gra;obtain⟨A2,c2,h⟩:=zi am.acc;exact⟨A2,c2,h⟩
     have a1:=za (u.out.ask _ w8.drew S3 x (u.out.ok.keep aE.out.j (dB w8).drew (fun _ _ h=>h.elim)) oM (HI.out.rin aW.out).1 oM);obtain⟨bb,ak⟩:∃ bb,Hid (f x=bb):=⟨_,za rfl⟩;rw [ak.out] at a1;have c7:g.length<=12:=by rw [ap.out.2];simp;omega
     refine uR (fun X=>Frm S3 w8 X) [7,9] (zx.of [0,1,2,3,4,5,6,7,8,9]) ?_;refine uQ ?_;refine ze fun K hK=>?_;go_simp;refine a1.out.mono ?_;rintro e w5 ⟨S5,rfl,p⟩;have bp:=bY.trans p.frm;refine hK.out _ _ bp ?_;refine pT ?_;have E:=za ((Q.out.ext (dB w8).drew).kp p);have ah:=zfK.kp (aJ.out.1.ext (dB w8).drew) aJ.out.2 p;have a7:=za ((aE.out.ext u.out.ok (dB w8).drew).trans p);have az:=za (fun (q:Nat) (hq:w5.heap.size<=q)=>zbs.fresh u.out.ok p.j hq);obtain⟨aw,co⟩:w5.ownsRow w1.heap.size 4 1 (fQ A2 g.length c2) g.length (zae g)/\w1.heap.size<=w5.heap.size:=by
      obtain⟨wb,I,am,-⟩:=E.out.gra;have h1:=am.acc;rw [I] at h1;exact⟨h1,oH am.ext.size⟩
     refine ze fun K hK=>?_;go_simp;refine hK.out _ _ (bp.ext ((dB w5).alloc _)) ?_;refine pT ?_;refine zb fun K hK=>?_;refine zaB w1 w5 _ _ _ rfl 4 _ 1 1 Tryz.underlying25 zaW rfl dM (fQ A2 g.length c2) g.length (zae g) _ _ rfl rfl co aw rfl (by simp [Value.oneCell']) lM oM ?_;intro g6 cap6 w6 hown6 hg6 hat6 hlt6;obtain⟨aP,a4⟩:=E.out.pushA (x:=bb) az.out hown6 hg6 hat6;have k6:=aP.cell;have f6:=aP.frozen;refine hK.out _ _ ?_;refine pT ?_;refine uQ ?_;refine zb fun K hK=>?_;go_simp;refine hK.out _ _ ?_;refine zg ?_;have bX:Frm (fun q=>(fQ A2 g.length c2).ownBlock=gO q) w5 w6:=Frm.ae hg6;have aI:zfK w6 M n (rnM zs):=ah.1.frm bX (fun e=>ah.1.aj aw e);have Y:=za (show zfK (w6.setCell ⟨G,2,gP⟩ (fQ (gO g6) (g.length+1) cap6)) M n (rnM zs)/\¬ S5 M from ⟨aI.frm (dG w6 G 2 _) (fun e=>aI.far aP e.symm),ah.2⟩);have cN:=za (((a7.out.grown u.out.ok hg6 (fun q hq=>⟨(aw.lt q hq).1,by have:=(aw.lt q hq).1;omega,E.out.fA q hq⟩)).cell u.out.ok bk oM E.out.fG 2 (fQ (gO g6) (g.length+1) cap6)).more u.out.ok (show _<=B+240+121*(i+1) by omega));have ag:=za a4.reN;have b7:=za (show ls++[d]=(rows.take (i+1)).map (zdL L f rows cols)/\g++[bb]=(rows.take (i+1)).map f by
      rw [eB,Hx.out,eS,eU,eU,<- ap.out.1,<- ap.out.2,<- ad.out,<- ak.out];exact⟨rfl,rfl⟩)
     clear hown6 hg6 hat6 aP a4 k6 f6 aI bX aw E ah a7 bp p bY C6 C2 aJ aE Q;generalize w6.setCell ⟨G,2,gP⟩ (fQ (gO g6) (g.length+1) cap6)=w9 at *;go_wp2_with fail
     go_roundw
     case rel=>exact⟨i+1,S5,_,_,_,_,gM,oM,cN,Y,ag,b7⟩
     case measure=>exact uM
  ·obtain rfl:i=nr:=oM;have b9:=cb.out.1;have bz:=za (show rows.take i=rows from dK oM);have cK:=za (show (⟨(L:Int),ls,g⟩:Aut)=zcX L f rows cols by
    have h1:=ap.out.1;have h2:=ap.out.2;rw [bz.out] at h1 h2;rw [h1,h2];rfl)
   obtain⟨Av,nv,cv,rfl⟩:∃ A n c,v=fQ A n c:=by
    obtain⟨wb,I,-,m,h,-⟩:=o.out.gra;obtain⟨A,c,e⟩:=zi h;exact⟨A,_,c,e⟩
   obtain⟨A2,n2,c2,rfl⟩:∃ A n c,vA=fQ A n c:=by
    obtain⟨wb,I,am,-⟩:=o.out.gra;obtain⟨A,c,e⟩:=zi am.acc;exact⟨A,_,c,e⟩
   have hA:=o.out.autS;rw [cK.out] at hA;have HA:=za hA;have kG:=o.out.blk.cell;have O:=U.out.blk B4.out (D.out _ oM);have k4:=O.1.cell;have f4:=O.1.frozen;have a6:=za ((U.out.more u.out.ok (show B+240+121*i<=B+1692 by omega)).back aU);have cn:=aU.size;clear k2 k3 hA b9;go_wp2_with fail
   have bD:=aut_ret (a:=zcX L f rows cols) u.out.ok a6.out HA.out O.1 O.2 oM oM cn;have cf:=bD.1.cell;have Hfin:=za bD.2;have bU:(zcX L f rows cols).al=(L:Int):=rfl;rw [bU] at cf Hfin;clear bD k4 f4 O a6 kG;generalize ((wr.setCell ⟨W.heap.size+1+1,0,gP⟩ (.int kA (L:Int))).setCell ⟨W.heap.size+1+1,1,gP⟩ (fQ Av nv cv)).setCell ⟨W.heap.size+1+1,2,gP⟩ (fQ A2 n2 c2)=w9 at *;exact bodyPost_ret (v:=kO #[(L:Int),fQ Av nv cv,fQ A2 n2 c2]) (by simp [results,Tryz.results51,go_sem,cf]) rfl ⟨S1,Av,A2,nv,cv,n2,c2,rfl,Hfin.out.2,Hfin.out.1⟩
end
theorem ziE {f:Nat->Bool}{ls:List Nat}:∀ {q:Nat},(∀ l∈ls,p.al.toNat.testBit l=kC->f l=kC)->zaO p q (ls.filter f)=zaO p q ls:=by
 induction ls with
 |nil=>intro q _;rfl
 |cons l r a =>
  intro q h;have a:=fun {q}=>a (q:=q) (fun k hk=>h k (eR _ hk));rw [List.filter_cons];show _=zaO p (aGo p q l) r;cases hf:f l
  ·have e:aGo p q l=q:=by
    unfold aGo;rw [if_neg];intro hb;have:=h l iK hb;rw [hf] at this;cases this
   rw [e];simpa using a
  ·simp only [if_true];exact a
theorem goes_filter {f:Nat->Bool}:∀ (n:Nat) (v:List Nat),v.length=n->(∀ l∈v,s.al.toNat.testBit l=kC->f l=kC)->∀ q,zbv (cho s) [0] (v.filter f) q↔zbv (cho s) [0] v q:=by
 intro n
 induction n with
 |zero =>
  intro v hl _ q;obtain rfl:=eE hl;exact Iff.rfl
 |succ n b =>
  intro v hl h q;rcases zaf v with rfl|⟨u,l,rfl⟩
  ·simp at hl
  have b:=b u (by simpa using hl) (fun k hk=>h k (by simp [hk]));rw [iJ];cases hf:f l
  ·have c:s.al.toNat.testBit l=false:=by
    rw [fH];intro c;have:=h l sM c;rw [hf] at this;cases this
   rw [show List.filter f [l]=[] by simp [hf],iA,b];constructor
   ·intro h1;exact .snoc h1 (by unfold cho;rw [c];simp)
   ·intro h1;obtain⟨m,h2,a⟩:=h1.inv;unfold cho at a;rw [c] at a;simp at a;rw [a];exact h2
  ·rw [show List.filter f [l]=[l] by simp [hf]];constructor
   ·intro h1;obtain⟨m,h2,a⟩:=h1.inv;exact .snoc ((b m).1 h2) a
   ·intro h1;obtain⟨m,h2,a⟩:=h1.inv;exact .snoc ((b m).2 h2) a
theorem zfF {f:Nat->Bool}(h:∀ l∈v,s.al.toNat.testBit l=kC->f l=kC):zju s (v.filter f)↔zju s v:=exists_congr fun q=>goes_filter _ v rfl h q
theorem zgu (ss:List Sys) (l:Nat):(zE ss).testBit l=kC↔∃ s∈ss,s.al.toNat.testBit l=kC:=by
 have b:∀ (ss:List Sys) (u:Nat),(ss.foldl (fun a s=>a|||s.al.toNat) u).testBit l=kC↔u.testBit l=kC\/∃ s∈ss,s.al.toNat.testBit l=kC:=by
  intro ss
  induction ss with
  |nil=>intro u;simp
  |cons s r ih =>
   intro u;rw [List.foldl_cons,ih,Nat.testBit_or,gS];simp [or_assoc]
 have:=b ss 0;simpa [zE] using this
def Over (A:Nat) (v:List Nat):Prop:=∀ l∈v,l<6/\A.testBit l=kC
theorem zgi {A:Nat} :(∀ l∈v,l∈letters A 6)↔Over A v:=by unfold Over;simp only [zD]
theorem runA_free (q:Nat) (v:List Nat):zaO free q v=q:=by
 induction v generalizing q with
 |nil=>rfl
 |cons l r ih =>
  show zaO free (aGo free q l) r=q;rw [show aGo free q l=q by simp [aGo,free],ih]
theorem keepsP_iff :zer ss p=kC↔(zA ss=kC/\zj p=kC)/\∀ v,Over (zE ss) v->(∀ s∈ss,zju s v)->zaC p (zaO p 0 v)=kC:=by
 unfold zer zbb;simp only [dI,Bool.not_eq_true'];have h:∀ v,zaC free (zaO free 0 v)=kC:=fun v=>by rw [runA_free];rfl
 have g:zE ss|||free.al.toNat=zE ss:=by simp [free]
 constructor
 ·rintro ⟨⟨h1,h2⟩,c⟩;refine⟨⟨h1,h2⟩,fun v b f=>?_⟩;cases d:zaC p (zaO p 0 v)
  ·have:=(vio_iff (a:=free) (zap h1).2 zdO h2).2 ⟨v,zgi.2 (by rw [g];exact b),f,h v,d⟩;rw [c] at this;cases this
  ·rfl
 ·rintro ⟨⟨h1,h2⟩,c⟩;refine⟨⟨h1,h2⟩,?_⟩;rw [fH];intro b;obtain⟨v,b,f,i,d⟩:=(vio_iff (a:=free) (zap h1).2 zdO h2).1 b;have:=c v (by rw [g] at b;exact zgi.1 b) f;rw [d] at this;cases this
theorem runB_goes {p:Nat}(hf:Few p s.edges)(hp:p<=16):∀ (n:Nat) (v:List Nat),v.length=n->(∀ l∈v,s.al.toNat.testBit l=kC)->∀ q,(runB s.edges 1 v).testBit q=kC↔zbv (cho s) [0] v q:=by
 intro n
 induction n with
 |zero =>
  intro v hl _ q;obtain rfl:=eE hl;constructor
  ·intro h;refine .nil ?_;cases q with
   |zero=>simp
   |succ q =>
    exfalso;have h1:(1:Nat).testBit (q+1)=kC:=h;rw [Nat.testBit_succ] at h1;simp at h1
  ·intro h;have:=h.ah;simp at this;subst this;show (1:Nat).testBit 0=kC;decide
 |succ n b =>
  intro v hl h q;rcases zaf v with rfl|⟨u,l,rfl⟩
  ·simp at hl
  have b:=b u (by simpa using hl) (fun k hk=>h k (by simp [hk]));rw [runB_snoc,zcG];have d:=h l sM;constructor
  ·rintro ⟨e,a,⟨h1,h2⟩,rfl⟩;have j:=hf e a;refine .snoc ((b _).1 h2) ?_;unfold cho;rw [if_pos d];refine zD.2 ⟨oM,(zdA _ _ _ _).2 ⟨e,a,⟨oM,h1⟩,rfl⟩⟩
  ·intro h1;obtain⟨m,h2,c⟩:=h1.inv;unfold cho at c;rw [if_pos d] at c;obtain⟨e,a,⟨f,g⟩,i⟩:=(zdA _ _ _ _).1 (zD.1 c).2;exact⟨e,a,⟨g,by rw [f];simpa using (b m).2 h2⟩,i⟩
theorem bits_some {x:Nat}:(x != 0)=kC↔∃ q,x.testBit q=kC:=by
 rw [bne_iff_ne];constructor
 ·intro h;apply Classical.byContradiction;intro hn;refine h (fX fun q=>?_);rw [jB,fH];exact fun a=>hn ⟨q,a⟩
 ·rintro ⟨q,a⟩ rfl;rw [jB] at a;cases a
theorem aft_runs (hv:zk s=kC)(hw:zbq x=kC):(aftB s (zay x s.al.toNat) != 0)=kC↔zju s (wl x):=by
 obtain⟨p,_,_,a,b⟩:=zcq hv;unfold aftB;rw [hv,zcn hw,Bool.and_self,if_pos rfl,wl_restB hw,bits_some];refine Iff.trans ?_ (zfF (f:=fun l=>s.al.toNat.testBit l) (fun l _ h=>h));exact exists_congr fun q=>runB_goes b a _ _ rfl (fun l hl=>by simpa using (List.mem_filter.1 hl).2) q
theorem top_iff :topB ss x=kC↔zA ss=kC/\zbq x=kC/\Over (zE ss) (wl x)/\∀ s∈ss,zju s (wl x):=by
 unfold topB;simp only [dI,eV];constructor
 ·rintro ⟨h1,h2,a⟩;have c:=zaV h2;refine⟨h1,c,fun l hl=>⟨zkp c l hl,?_⟩,fun s hs=>(aft_runs ((zap h1).2 s hs) c).1 (a s hs)⟩;have b:=(zeA.1 h2).2;have d:=(zdB (wl x) l).2 hl;rw [<- b,gH,dI] at d;exact d.2
 ·rintro ⟨h1,h2,a,b⟩;refine⟨h1,zeA.2 ⟨h2,fX fun k=>?_⟩,fun s hs=>(aft_runs ((zap h1).2 s hs) h2).2 (b s hs)⟩;rw [gH];cases hk:(alB (wl x)).testBit k
  ·rfl
  ·rw [(a k ((zdB _ k).1 hk)).2];rfl
theorem zgj (h1:1<=ss.length)(h3:ss.length<=3)(hv:∀ s∈ss,zk s=kC):zA ss=kC:=by
 unfold zA;simp only [dI,decide_eq_true_eq,eV];exact⟨h1,h3,hv⟩
theorem zgr :three ss p=kC↔ss.length=3/\zA ss=kC/\zj p=kC:=by
 unfold three;simp only [dI,decide_eq_true_eq]
theorem chain_nat {x y z:Sys}(h:three [x,y,z] p=kC) :
  zaw [x,y,z] p=(((x.al.toNat|||p.al.toNat)&&&(y.al.toNat|||z.al.toNat):Nat):Int) /\
  zcM [x,y,z] p=(((y.al.toNat|||(zaw [x,y,z] p).toNat)&&&z.al.toNat:Nat):Int):=by
 obtain⟨_,h2,o⟩:=zgr.1 h;obtain⟨_,j⟩:=zap h2;have t:=zI (j x sM);have u:=zI (j y sM);have v:=zI (j z sM);have s:=(zl o).1;have k:zaw [x,y,z] p=(((x.al.toNat|||p.al.toNat)&&&(y.al.toNat|||z.al.toNat):Nat):Int):=by
  unfold zaw;rw [h,if_pos rfl];obtain⟨a,q⟩:∃ a:Nat,x.al=a:=⟨x.al.toNat,oM⟩;obtain⟨b,f⟩:∃ a:Nat,y.al=a:=⟨y.al.toNat,oM⟩;obtain⟨c,g⟩:∃ a:Nat,z.al=a:=⟨z.al.toNat,oM⟩;obtain⟨d,hd⟩:∃ a:Nat,p.al=a:=⟨p.al.toNat,oM⟩;dsimp only;rw [q,f,g,hd];have k:=eX (n:=6) (x:=a) (y:=d) oM oM;have m:=eX (n:=6) (x:=b) (y:=c) oM oM;rw [zbn tM tM,zbn tM tM,zbC tM tM];simp only [eT]
 refine⟨k,?_⟩;obtain⟨l,i,r⟩:=zeT h;unfold zcM;rw [h,if_pos rfl,i];obtain⟨b,f⟩:∃ a:Nat,y.al=a:=⟨y.al.toNat,oM⟩;obtain⟨c,g⟩:∃ a:Nat,z.al=a:=⟨z.al.toNat,oM⟩;dsimp only;rw [f,g];have m:=eX (n:=6) (x:=b) (y:=l) oM oM;rw [zbn tM tM,zbC tM tM];simp only [eT]
theorem zez (hs:zk s=kC)(hp:zj p=kC)(ht:zk t=kC):iface s p t=(((s.al.toNat|||p.al.toNat)&&&t.al.toNat:Nat):Int):=by
 unfold iface;rw [hs,hp,ht];rfl
theorem zck (h:0<=iface s p t):zk s=kC/\zj p=kC/\zk t=kC:=by
 have h1:¬ iface s p t<0:=oM;rw [iface_neg] at h1;simpa using h1
theorem shuffle (a b:Nat->Bool):∀ (n:Nat) (v u:List Nat),v.length+u.length<=n->(∀ l∈v,a l=kC)->(∀ l∈u,b l=kC)->v.filter b=u.filter a ->
  ∃ z:List Nat,z.filter a=v/\z.filter b=u/\∀ l∈z,l∈v\/l∈u:=by
 intro n
 induction n with
 |zero =>
  intro v u hn _ _ _;obtain rfl:=eE (show v.length=0 by omega);obtain rfl:=eE (show u.length=0 by omega);exact⟨[],rfl,rfl,sM⟩
 |succ n ih =>
  intro v u hn hv hu he
  match v,u with
  |[],[]=>exact⟨[],rfl,rfl,sM⟩
  |[],m :: u =>
   have g:a m=false:=by
    cases g:a m
    ·rfl
    ·rw [List.filter_nil,fC g] at he;cases he
   obtain⟨z,h1,h2,d⟩:=ih [] u (by simp at hn ⊢;omega) sM (fun l f=>hu l (eR _ f)) (by rw [fS (by rw [g];decide)] at he;exact he);refine⟨m :: z,by rw [fS (by rw [g];decide)];exact h1,by rw [fC (hu m sM),h2],fun l f=>?_⟩;rcases lB.1 f with rfl|f
   ·exact .inr sM
   ·rcases d l f with h|h
    ·exact .inl h
    ·exact .inr (eR _ h)
  |l :: v,u =>
   cases hb:b l
   ·obtain⟨z,h1,h2,d⟩:=ih v u (by simp at hn ⊢;omega) (fun x c=>hv x (eR _ c)) hu (by rw [fS (by rw [hb];decide)] at he;exact he);refine⟨l :: z,by rw [fC (hv l sM),h1],by rw [fS (by rw [hb];decide)];exact h2,fun x c=>?_⟩;rcases lB.1 c with rfl|c
    ·exact .inl sM
    ·rcases d x c with h|h
     ·exact .inl (eR _ h)
     ·exact .inr h
   ·cases u with
    |nil=>rw [fC hb,List.filter_nil] at he;cases he
    |cons m u =>
     cases ha:a m
     ·obtain⟨z,h1,h2,d⟩:=ih (l :: v) u (by simp at hn ⊢;omega) hv (fun x c=>hu x (eR _ c)) (by rw [fS (a:=m) (by rw [ha];decide)] at he;exact he);refine⟨m :: z,by rw [fS (by rw [ha];decide)];exact h1,by rw [fC (hu m sM),h2],fun x c=>?_⟩;rcases lB.1 c with rfl|c
      ·exact .inr sM
      ·rcases d x c with h|h
       ·exact .inl h
       ·exact .inr (eR _ h)
     ·rw [fC hb,fC ha] at he;obtain⟨rfl,i⟩:=List.cons.inj he;obtain⟨z,h1,h2,d⟩:=ih v u (by simp at hn ⊢;omega) (fun x c=>hv x (eR _ c)) (fun x c=>hu x (eR _ c)) i;refine⟨l :: z,by rw [fC ha,h1],by rw [fC hb,h2],fun x c=>?_⟩;rcases lB.1 c with rfl|c
      ·exact .inl sM
      ·rcases d x c with h|h
       ·exact .inl (eR _ h)
       ·exact .inr (eR _ h)
section
variable {s:Sys}{p:Aut}{A:Nat}
theorem cl_word {B:Nat->Nat->Prop}{w:List Nat}(hB:∀ q i,B q i->∃ v,(∀ l∈v,l<6/\(s.al.toNat.testBit l=kC\/A.testBit l=kC))/\v.filter (fun l=>A.testBit l)=w/\zbv (cho s) [0] v q/\i=zaO p 0 v){q i:Nat}(h:Cl s p A B q i) :
  ∃ v,(∀ l∈v,l<6/\(s.al.toNat.testBit l=kC\/A.testBit l=kC))/\v.filter (fun l=>A.testBit l)=w/\zbv (cho s) [0] v q/\i=zaO p 0 v:=by
 induction h with
 |base h=>exact hB _ _ h
 |@hid q i l q' _ hl hq ih =>
  obtain⟨v,h1,h2,b,c⟩:=ih;obtain⟨d,f,g⟩:=hl;refine⟨v++[l],fun x a=>?_,by rw [iJ,h2,fS (by rw [g];decide)];simp,.snoc b hq,by rw [zaY,c]⟩;rcases kY.1 a with a|a
  ·exact h1 x a
  ·obtain rfl:=List.mem_singleton.1 a;exact⟨d,.inl f⟩
theorem prR_word:∀ (r:List Nat),(∀ l∈r,l<6/\A.testBit l=kC)->∀ q i,prR s p A r q i ->
  ∃ v,(∀ l∈v,l<6/\(s.al.toNat.testBit l=kC\/A.testBit l=kC))/\v.filter (fun l=>A.testBit l)=r.reverse/\zbv (cho s) [0] v q/\i=zaO p 0 v:=by
 intro r
 induction r with
 |nil =>
  intro _ q i h;refine cl_word (fun q i hb=>?_) h;obtain⟨rfl,rfl⟩:=hb;exact⟨[],sM,rfl,.nil sM,rfl⟩
 |cons l r ih =>
  intro hr q i h;refine cl_word (fun q i hb=>?_) h;obtain⟨m,j,h1,h2,rfl⟩:=hb;obtain⟨v,c,d,f,g⟩:=ih (fun x a=>hr x (eR _ a)) m j h1;obtain⟨k,b⟩:=hr l sM;refine⟨v++[l],fun x a=>?_,by rw [iJ,d,fC b,List.reverse_cons];rfl,.snoc f h2,by rw [zaY,g]⟩;rcases kY.1 a with a|a
  ·exact c x a
  ·obtain rfl:=List.mem_singleton.1 a;exact⟨k,.inr b⟩
theorem word_prR:∀ (n:Nat) (v:List Nat),v.length=n->(∀ l∈v,l<6/\(s.al.toNat.testBit l=kC\/A.testBit l=kC))->∀ q,zbv (cho s) [0] v q->prR s p A (v.filter fun l=>A.testBit l).reverse q (zaO p 0 v):=by
 intro n
 induction n with
 |zero =>
  intro v hl _ q h;obtain rfl:=eE hl;have c:=h.ah;simp only [List.mem_singleton] at c;exact .base ⟨c,rfl⟩
 |succ n ih =>
  intro v hl hv q h;rcases zaf v with rfl|⟨w,l,rfl⟩
  ·simp at hl
  obtain⟨m,h1,h2⟩:=h.inv;have d:=ih w (by simpa using hl) (fun a ha=>hv a (by simp [ha])) m h1;obtain⟨f,i⟩:=hv l sM;rw [zaY,iJ];cases hA:A.testBit l
  ·rw [fS (by rw [hA];decide),List.filter_nil,iA];have b:s.al.toNat.testBit l=kC:=by
    rcases i with h|h
    ·exact h
    ·rw [hA] at h;cases h
   have g:∀ (r:List Nat) {q' i'},prR s p A r m i'->q'∈cho s m l->prR s p A r q' (aGo p i' l):=by
    intro r q' i' hp hq;cases r with
    |nil=>exact .hid hp ⟨f,b,hA⟩ hq
    |cons a r=>exact .hid hp ⟨f,b,hA⟩ hq
   exact g _ d h2
  ·rw [fC hA,List.filter_nil,List.reverse_append];exact .base ⟨m,_,d,h2,rfl⟩
theorem bad_iff {w:List Nat}(hw:∀ l∈w,l<6/\A.testBit l=kC):Bad s p A w↔∃ v,(∀ l∈v,l<6/\(s.al.toNat.testBit l=kC\/A.testBit l=kC))/\v.filter (fun l=>A.testBit l)=w/\zju s v/\zaC p (zaO p 0 v)=false:=by
 constructor
 ·rintro ⟨q,i,h1,h2⟩;obtain⟨v,b,a,c,d⟩:=prR_word w.reverse (fun l hl=>hw l (List.mem_reverse.1 hl)) q i h1;rw [List.reverse_reverse] at a;exact⟨v,b,a,⟨q,c⟩,by rw [<- d];exact h2⟩
 ·rintro ⟨v,h1,h2,⟨q,b⟩,a⟩;refine⟨q,_,?_,a⟩;have:=word_prR (p:=p) (A:=A) _ v rfl h1 q b;rw [h2] at this;exact this
end
theorem runs_take (h:zju s v) (k:Nat):zju s (v.take k):=by
 have a:∀ (n:Nat) (v u:List Nat),u.length=n->zju s (v++u)->zju s v:=by
  intro n
  induction n with
  |zero =>
   intro v u hl h;obtain rfl:=eE hl;rwa [iA] at h
  |succ n ih =>
   intro v u hl h;rcases zaf u with rfl|⟨w,l,rfl⟩
   ·simp at hl
   obtain⟨q,b⟩:=h;rw [<- List.append_assoc] at b;obtain⟨m,h1,-⟩:=b.inv;exact ih v w (by simpa using hl) ⟨m,h1⟩
 refine a _ (v.take k) (v.drop k) rfl ?_;rwa [List.take_append_drop]
theorem take_filter (f:Nat->Bool):∀ (u:List Nat) (k:Nat),k<=(u.filter f).length->∃ j,(u.take j).filter f=(u.filter f).take k:=by
 intro u
 induction u with
 |nil=>intro k _;exact⟨0,sM⟩
 |cons a r ih =>
  intro k hk;cases ha:f a
  ·rw [fS (by rw [ha];decide)] at hk ⊢;obtain⟨j,b⟩:=ih k hk;exact⟨j+1,by rw [List.take_succ_cons,fS (by rw [ha];decide)];exact b⟩
  ·rw [fC ha] at hk ⊢;cases k with
   |zero=>exact⟨0,sM⟩
   |succ k =>
    obtain⟨j,b⟩:=ih k (by simpa using hk);exact⟨j+1,by rw [List.take_succ_cons,fC ha,b,List.take_succ_cons]⟩
theorem zko {x:Sys}{ts:List Sys}{u:List Nat}(hL:L=(x.al.toNat|||p.al.toNat)&&&zE ts)(hpa:zA (x :: ts)=kC)(hu:Over (zE ts) u)(hr:∀ t∈ts,zju t u)
  (hs:¬ SafeW x p L (u.filter fun l=>L.testBit l)):zer (x :: ts) p=false:=by
 have b:∀ l,L.testBit l=kC↔(x.al.toNat.testBit l=kC\/p.al.toNat.testBit l=kC)/\(zE ts).testBit l=kC:=by
  intro l;rw [hL,gH,Nat.testBit_or];simp
 obtain⟨k,o,i⟩:∃ k,k<=(u.filter fun l=>L.testBit l).length/\Bad x p L ((u.filter fun l=>L.testBit l).take k):=by
  apply Classical.byContradiction;intro hn;exact hs (fun k o hb=>hn ⟨k,o,hb⟩)
 obtain⟨j,F⟩:=take_filter (fun l=>L.testBit l) u k o;rw [<- F] at i;have c:Over (zE ts) (u.take j):=fun l hl=>hu l (List.mem_of_mem_take hl);have r:∀ t∈ts,zju t (u.take j):=fun t d=>runs_take (hr t d) j;generalize u.take j=u at *;obtain⟨v,h1,h2,D,E⟩:=(bad_iff (fun l hl=>by
  obtain⟨g,a⟩:=List.mem_filter.1 hl;exact⟨(c l g).1,a⟩)).1 i
 obtain⟨z,s,G,y⟩:=shuffle (fun l=>x.al.toNat.testBit l || L.testBit l) (fun l=>(zE ts).testBit l) _ v u (dD _) (fun l hl=>by
   rcases (h1 l hl).2 with h|h<;>simp [h]) (fun l hl=>(c l hl).2) (by
  have B:v.filter (fun l=>(zE ts).testBit l)=v.filter (fun l=>L.testBit l):=by
   refine List.filter_congr fun l hl=>?_;rw [iG,b];refine⟨fun h=>?_,fun h=>h.2⟩;rcases (h1 l hl).2 with g|g
   ·exact⟨.inl g,h⟩
   ·exact (b l).1 g
  have C:u.filter (fun l=>x.al.toNat.testBit l || L.testBit l)=u.filter (fun l=>L.testBit l):=by
   refine List.filter_congr fun l hl=>?_;rw [iG,gS];refine⟨fun h=>?_,.inr⟩;rcases h with h|h
   ·exact (b l).2 ⟨.inl h,(c l hl).2⟩
   ·exact h
  rw [B,C,h2])
 have q:Over (zE (x :: ts)) z:=by
  intro l hl;rw [zgu];rcases y l hl with h|h
  ·obtain⟨g,a⟩:=h1 l h;refine⟨g,?_⟩;rcases a with a|a
   ·exact⟨x,sM,a⟩
   ·obtain⟨t,d,n⟩:=(zgu ts l).1 ((b l).1 a).2;exact⟨t,eR _ d,n⟩
  ·obtain⟨g,a⟩:=c l h;obtain⟨t,d,n⟩:=(zgu ts l).1 a;exact⟨g,t,eR _ d,n⟩
 rw [fH];intro hkp;have m:=(keepsP_iff.1 hkp).2 z q (fun t d=>by
  rcases lB.1 d with rfl|d
  ·refine (zfF (f:=fun l=>t.al.toNat.testBit l || L.testBit l) (fun l _ hb=>by simp [hb])).1 ?_;rw [s];exact D
  ·refine (zfF (f:=fun l=>(zE ts).testBit l) (fun l _ hb=>(zgu ts l).2 ⟨t,d,hb⟩)).1 ?_;rw [G];exact r t d)
 have e:zaO p 0 z=zaO p 0 v:=by
  rw [<- s];refine (ziE fun l hl hb=>?_).symm;rcases y l hl with h|h
  ·rcases (h1 l h).2 with a|a<;>simp [a]
  ·have:=(b l).2 ⟨.inr hb,(c l h).2⟩;simp [this]
 rw [e,E] at m;cases m
theorem Frm.grownG {T:Nat->Prop}{row:Option Nat}(h:Frm T w W)(hg:W.grownBy W' row)(hr:∀ k,row=gO k->w.heap.size<=k):Frm T w W':=
 ⟨hg.os.trans h.os,hg.tape.trans h.tape,hg.output.trans h.output,dW h.size hg.size,fun k hk hn=>(hg.block k (Nat.lt_of_lt_of_le hk h.size) (fun e=>by have:=hr k e.symm;omega)).trans (h.block k hk hn)⟩
structure Gr2 (w0 W:kJ) (G:Nat) (al st:Int) (v:kL) (es:List Edg):Prop where
 blk:Blk W G 38 #[al,st,v]
 own:W.ownsRow w0.heap.size 117 3 v es.length (zv es)
 fr:Frm (fun k=>k=G) w0 W
 hG:G<w0.heap.size
theorem Gr2.av {v:kL}(h:Gr2 w0 W G al st v es)(hb:Ext W W'):Gr2 w0 W' G al st v es:=⟨h.blk.ext hb,zh h.own hb,h.fr.ext hb,h.hG⟩
theorem Gr2.push {v:kL}{cap:Nat}{e:Edg}(h:Gr2 w0 W G al st v es) (zkr:W'.ownsRow w0.heap.size 117 3 (fQ (gO g) (es.length+1) cap) (es.length+1) (zv es++[.int kA e.fr,.int kA e.le,.int kA e.ta]))
  (hg:W.grownBy W' v.ownBlock) :
  Hid (W'.cell? ⟨G,2,gP⟩=gO v)/\W'.frozen? ⟨G,2,gP⟩=false/\Gr2 w0 (W'.setCell ⟨G,2,gP⟩ (fQ (gO g) (es.length+1) cap)) G al st (fQ (gO g) (es.length+1) cap) (es++[e]):=by
 have a:Blk W' G 38 #[.int kA al,.int kA st,v]:=(hg.block G h.blk.lt (fun e=>by have:=(h.own.lt G e.symm).1;have:=h.hG;omega)).trans h.blk;have f:=(zkr.lt g rfl).1;have c:=h.hG;have d:Frm (fun k=>k=G) w0 W':=h.fr.grownG hg (fun k hk=>(h.own.lt k hk).1);refine⟨a.cell 2,a.frozen 2,⟨by simpa using a.ab 2 _,?_,d.cell rfl _,c⟩⟩;have:=zf zkr (dG W' G 2 (fQ (gO g) (es.length+1) cap)) (fun b hv hS=>by
  have:g=b:=by simpa [Value.ownBlock] using hv
  omega)
 rw [zbM];simpa [zv] using this
theorem spec_l2Rank {p:Nat}(hp:p<=16)(hk:k<=p) :
  kQ kN 297 #[.int kA (2 ^ p - 1:Nat),k] w fun e w'=>e=kP (.int kA (k:Nat))/\w=w':=by
 have f:2 ^ p - 1<65536:=by have:=eL (show 1<=2 by omega) hp;have:(2:Nat) ^ 16=65536:=rfl;omega
 have c:=za (fun i (a:i<p)=>show (2 ^ p - 1).testBit i=kC by rw [jZ];simpa using a);generalize 2 ^ p - 1=F at *
 go_enter Tryz.func297,Tryz.ntmps297
 go_wp2_with fail
 go_loop [5,6] (fun v iv=>∃ i:Nat,iv=.int kA i/\i<=k/\v=.int kA i) (fun _ iv=>k - (intOf iv).toNat)
 case atStart=>exact⟨0,rfl,dH _,rfl⟩
 case round =>
  obtain⟨i,rfl,a,rfl⟩:=hrel
  by_cases hlt:i<k
  ·have b:(i:Int)<(k:Int):=oM;have d:=za (c.out i oM);go_wp2_with (go_at_call 143;refine (zaq F i tM _ oM).mono ?_;rw [d.out];rintro e w' ⟨rfl,rfl⟩)
   go_round
   case rel=>exact⟨i+1,gM,oM,gM⟩
   case measure=>exact uM
  ·obtain rfl:i=k:=oM;go_wp2_with fail
   go_ret;exact⟨rfl,rfl⟩
section
variable {w W:kJ}{lo hi n c m d m' d':Nat}{A B B':Option Addr}{s:Sys}{p:Aut}
theorem yT13a2 {P:Prop}(h:P:=by
 refine zb fun K hK=>?_;go_simp;refine hK.out _ _ ?_;refine zg ?_;go_wp2_with fail
 go_meet;obtain⟨w1,h1,h2⟩:=Hfin.out;exact⟨w1,rfl,h1,h2⟩
 ):P:=h
theorem spec_l2Keep {P:Nat}(h:zR w lo hi A n s)(hv:zk s=kC)(hP:s.st=(P:Int))(hn:n<=1000000)(hhi:hi<=w.heap.size) :
  kQ kN 269 #[kO #[s.al,s.st,fQ A n c],.int kA (2 ^ P - 1:Nat)] w (RetSys w s):=by
 have ap:=zbx hv;obtain⟨an,ao,I,-⟩:=ap;have D:P<=16:=oM;have M:s.st.toNat=P:=oM;rw [M] at I;have Hf:=za I;have HS:=za (fun W (hW:Ext w W)=>h.ext hW);have Z:=za h.1;have ad:=za hP;have hF:2 ^ P - 1<65536:=by have:=eL (show 1<=2 by omega) D;have:(2:Nat) ^ 16=65536:=rfl;omega
 have G:=za (fun k W (Y:k<=P)=>spec_l2Rank (w:=W) D Y);have HB:=za (fun i (hi:i<P)=>show (2 ^ P - 1).testBit i=kC by rw [jZ];simpa using hi);rw [hP];generalize 2 ^ P - 1=F at *;clear h hv hP an ao I M
 go_enter Tryz.func269,Tryz.ntmps269
 go_upto_region 1 with fail
 generalize U0:(w.alloc _).alloc _=l at *;obtain⟨t,b1,b2⟩:=Ext.x2_ U0;clear U0;have CB:=b1.cells;have B:=dB l;have aS:=b2.lt;have O:=za (fun W=>G.out P W (dD _));have j:=B.drew;have ar:=(dB l.drew).alloc (.cells #[(0:Int),(0:Int),()] 38);have bG:=eO l.drew 38 #[(0:Int),(0:Int),()]
 go_cut [5] (fun v wx=>∃ w1,v=.pointer (gO l.heap.size)/\Ext l w1/\Gr2 w1 wx l.heap.size s.al (P:Nat) (fQ gP 0 0) [])
 case first =>
  have U:∃ w1,Ext l w1/\Gr2 w1 (l.alloc (.cells #[s.al,.int kA (P:Nat),()] 38)).drew l.heap.size s.al (P:Nat) (fQ gP 0 0) []:=
   ⟨(l.alloc (.cells #[s.al,.int kA (P:Nat),()] 38)).drew,((dB _).alloc _).drew,eO l _ _,World.ownsRow_nil _ _ _ _,Frm.refl _ _,sM⟩
  have Hfin:=za U;have cG:=bG.cell;have fG:=bG.frozen;rw [show l.drew.heap.size=l.heap.size from rfl] at cG fG;clear U;refine uR (fun X=>Ext l X) [8] (zx.app [0,1,2,3,4] (zx.two 5 (zx.of [6,7,8]) 7 (zx.of [5,6,8]))) ?_;refine uQ ?_;refine zm (fun K hK=>?_) (fun K hK=>?_)
  ·go_simp;refine (O.out _).mono ?_;rintro e T ⟨rfl,rfl⟩;refine hK.out _ _ j ?_;refine pT ?_;refine uQ ?_;refine ze fun K hK=>?_;go_simp;refine hK.out _ _ (j.alloc _) ?_;refine pT ?_;exact yT13a2
  ·go_simp;refine hK.out _ _ (j.alloc _) ?_;refine pT ?_;refine ze fun K hK=>?_;go_simp;refine (O.out _).mono ?_;rintro e T ⟨rfl,rfl⟩;refine hK.out _ _ (j.alloc _) ?_;refine pT ?_;refine uQ ?_;exact yT13a2
 case rest =>
  obtain⟨w1,rfl,f,a⟩:=hcut;have ae:=za (fun W (hW:Ext w1 W)=>HS.out W (t.trans (f.trans hW)));have ab:∀ W,Frm (fun k=>k=l.heap.size) w1 W->∀ q,W.cell? ⟨w.heap.size,q,gP⟩=#[Value.int kA s.al,.int kA (P:Nat),fQ A n c][q]?:=fun W hW=>((b1.ext f).frm hW oM).cell;have aC:=f.size;clear ar bG j CB B;go_wp2_with fail
  go_loopw [6] (fun iv wr=>∃ (k:Nat) (v:kL),iv=.int kA k/\k<=n/\Gr2 w1 wr l.heap.size s.al (P:Nat) v (s.edges.take k)) (fun iv _=>n - (intOf iv).toNat)
  case atStart=>exact⟨0,_,rfl,dH _,a⟩
  case round =>
   clear a;obtain⟨k,v,rfl,Y,a⟩:=hrel;have k1:=ab wr a.fr
   by_cases hlt:k<n
   ·have aB:(k:Int)<(n:Int):=oM;have ak:=(ae.out w1 (dB _)).frm a.fr (fun k h1 h2 e=>oH t.size);obtain⟨g,o,x,rfl,aA,az,hx,c0,H,c2⟩:=ak.2.aw hlt;obtain⟨⟨f0,f1⟩,⟨l0,l1⟩,t0,t1⟩:=Hf.out x (dC hx.out);obtain⟨p,y⟩:∃ p:Nat,Hid (x.fr=p):=⟨x.fr.toNat,by unfold Hid;omega⟩;obtain⟨d,z⟩:∃ d:Nat,Hid (x.ta=d):=⟨x.ta.toNat,by unfold Hid;omega⟩;have Q:p<P:=oH y.out;have S:d<P:=oH z.out;rw [y.out] at c0;rw [z.out] at c2;have ai:=za (fun W=>G.out p W oM);have aj:=za (fun W=>G.out d W oM);have ag:=za (HB.out p Q);have ah:=za (HB.out d S);have au:=(dB wr).alloc (.cells #[p,x.le,d] 117);have be:=eO wr 117 #[p,x.le,d];have E:=a.av au;have aT:=za a.fr.size;have aU:=za (show zv (s.edges.take (k+1))=zv (s.edges.take k)++[.int kA p,.int kA x.le,.int kA d] by
     rw [eB,hx.out,eS,zbM,<- y.out,<- z.out];rfl)
    have r:=za (show (s.edges.take k).length=k by rw [List.length_take];have:=Z.out;omega);clear f0 f1 t0 t1 a;go_upto_region 6 with fail
    generalize hge:wr.heap.size=ge at *;have aG:=za hge;clear hge;generalize wr.alloc _=w2 at *;have ce:=be.cell;go_wp2_with (first
     |(go_at_call 143;with_reducible refine (zaq F p tM _ oM).mono ?_;rw [ag.out];rintro e T ⟨rfl,rfl⟩)
     |(go_at_call 143;with_reducible refine (zaq F d tM _ oM).mono ?_;rw [ah.out];rintro e T ⟨rfl,rfl⟩))
    have CE:=be.cells;have CG:=fun W (hW:Ext w2 W)=>(E.blk.ext hW).cell;have B:=dB w2;clear ce;refine uR (fun X=>Ext w2 X) [14,16] (zx.of [0,1,2,3,4,6,7,8,9,10,5,11,12,13,14,15,16]) ?_;refine uQ ?_;have C:=B.drew;refine ze fun K hK=>?_;go_simp;refine (ai.out _).mono ?_;rintro e T ⟨rfl,rfl⟩;refine hK.out _ _ C ?_;refine pT ?_;refine uQ ?_;refine ze fun K hK=>?_;go_simp;refine (aj.out _).mono ?_;rintro e T ⟨rfl,rfl⟩;refine hK.out _ _ C ?_;refine pT ?_;refine uQ ?_;refine ze fun K hK=>?_;go_simp;refine hK.out _ _ (C.alloc _) ?_;refine pT ?_;refine zb fun K hK=>?_;have m:=E.av C;have J:=m.own;rw [r.out] at J;refine zaB w1 w2.drew _ _ _ rfl 117 _ 3 24 Tryz.underlying36 zbf rfl dM v k (zv (s.edges.take k)) _ _ rfl rfl m.fr.size J rfl (by simp [Value.oneCell']) lM oM ?_;intro g8 cap8 w8 hown8 hg8 hat8 hlt8;refine hK.out _ _ ?_;refine pT ?_;refine uQ ?_;obtain⟨p1,p2,p3⟩:=m.push (e:=⟨p,x.le,d⟩) (W':=w8) (by rw [r.out];exact hown8) hg8;have aV:=p1.out;have am:=za (show s.edges.take k++[⟨p,x.le,d⟩]=s.edges.take (k+1) by
     rw [eB,hx.out,eS,<- y.out,<- z.out])
    rw [am.out,r.out] at p3;refine zb fun K hK=>?_;go_simp;refine hK.out _ _ ?_;refine zg ?_;clear hown8 hg8 hat8 J p1 m;generalize w8.setCell ⟨l.heap.size,2,gP⟩ (fQ (gO g8) (k+1) cap8)=aY at *;go_wp2_with fail
    go_roundw
    case rel=>exact⟨k+1,_,gM,oM,p3⟩
    case measure=>exact uM
   ·obtain rfl:k=n:=oM;rw [dK (oH Z.out)] at a;have u:=a.own;rw [<- Z.out] at u;obtain⟨L,H,rfl⟩:=zi u;have V:=(b2.ext f).frm a.fr oM;have kz:=V.cell;have fz:=V.frozen;have kG:=a.blk.cell;have I:=zP wr (w.heap.size+1) (.int kA s.al) (.int kA (P:Nat)) (fQ L k H);have cf:=(zab V rfl (.int kA s.al) (.int kA (P:Nat)) (fQ L k H)).cell;have hxw:Ext w wr:=(t.trans f).frm a.fr (fun k Y e=>oH t.size);have R:=za (show RetSys w s (kP (kO #[s.al,.int kA (P:Nat),fQ L k H])) (((wr.setCell ⟨w.heap.size+1,0,gP⟩ s.al).setCell ⟨w.heap.size+1,1,gP⟩ (.int kA (P:Nat))).setCell ⟨w.heap.size+1,2,gP⟩ (fQ L k H)) from
     ⟨L,k,H,by rw [ad.out],⟨Z.out,zn (zf u I (fun b hv e=>zq u V dM hv e)) (t.trans f).size⟩,hxw.frm I (fun k Y e=>oM)⟩)
    clear I u;go_wp2_with fail
    exact bodyPost_ret (v:=kO #[s.al,.int kA (P:Nat),fQ L k H]) (by simp [results,Tryz.results269,go_sem,cf]) rfl R.out
end
theorem tot_le6:∀ ls:List (List Int),(∀ l∈ls,l.length<=6)->tot ls<=ls.length*6
 |[],_=>by simp [tot]
 |l :: r,h=>by
  have:=tot_le6 r (fun x hx=>h x (by simp [hx]))
  have:=h l sM
  rw [show tot (l :: r)=l.length+tot r by simp [tot],gD,Nat.add_mul]
  omega
theorem zcP (h:zj a=kC):a.size<=1048576:=by
 obtain⟨_,⟨_,h1⟩,h2,b⟩:=zl h;have f:=tot_le6 a.next (fun l hl=>by
  obtain⟨q,d⟩:=List.getElem?_of_mem hl;obtain⟨c,_⟩:=b q l d;rw [c];exact zB _ _)
 unfold Aut.size;omega
def zjs (w:kJ) (s:Sys) (p:Aut) (L:Nat) (e:Ending) (w':kJ):Prop:=
 ∃ (A:Option Addr) (n c:Nat) (B:Option Addr) (m d:Nat) (B':Option Addr) (m' d':Nat),e=kP (.tuple #[kO #[s.al,s.st,fQ A n c,p.al,fQ B m d,fQ B' m' d',L],.bool kC])/\Tch w' A n B m B' m' s p L/\Ext w w'
section
variable {w:kJ}{lo hi n c lo1 hi1 m d m' d' lo2 hi2 k c2:Nat}{A B B' C:Option Addr}{s t:Sys}{p:Aut}
theorem spec_TaskOf (hs:zR w lo hi A n s)(hp:zF w lo1 hi1 B m B' m' p)(ht:zR w lo2 hi2 C k t)(hif:iface s p t=(L:Int))(hn:n<=1000000)(hhi:hi<=w.heap.size) :
  kQ kN 202 #[kO #[s.al,s.st,fQ A n c],kO #[p.al,fQ B m d,fQ B' m' d'],kO #[t.al,t.st,fQ C k c2]] w (zjs w s p L):=by
 obtain⟨I,vp,vt⟩:=zck (show 0<=iface s p t by omega);have hL:L<64:=by
  rw [zez I vp vt] at hif;have h1:=zI vt;have h2:((s.al.toNat|||p.al.toNat)&&&t.al.toNat)<=t.al.toNat:=Nat.and_le_right;omega
 have D:=za (fun W (hW:Ext w W)=>zes (c:=c) (d1:=d) (d1':=d') (c2:=c2) (hs.ext hW) (hp.ext hW) (ht.ext hW));rw [hif] at D;obtain⟨P,Z⟩:∃ P:Nat,s.st=(P:Int):=⟨s.st.toNat,by have:=(zbx I).1;omega⟩;have O:P<=16:=by have:=(zbx I).2.1;omega
 have HK:=za (fun W (hW:Ext w W)=>spec_l2Keep (c:=c) (hs.ext hW) I Z hn (dW hhi hW.size));have HC:=za (fun W (hW:Ext w W)=>zfJ (c:=d) (c':=d') (hp.ext hW) (zcP vp));have hF:1<=2 ^ P/\2 ^ P<=65536:=⟨Nat.one_le_two_pow,by have:=eL (show 1<=2 by omega) O;have h2:(2:Nat) ^ 16=65536:=rfl;omega⟩;have J:=za (fun W=>zgK P oM W);have M:=za Z;have hV:=za (And.intro I (And.intro vp hL));rw [Z] at D HK ⊢;generalize hFe:2 ^ P=F at *;have an:IntKind.i64.wrap ((F:Int) - 1)=((F - 1:Nat):Int):=by rw [IntWalk.i64_in _ oM];omega
 clear hFe hs hp ht hif I vp vt Z;obtain⟨V,U0⟩:∃ x,Hid ((((w.alloc (.cells #[s.al,.int kA (P:Nat),fQ A n c] 38)).alloc (.cells #[p.al,fQ B m d,fQ B' m' d'] 27)).alloc (.cells #[t.al,t.st,fQ C k c2] 38)).alloc (.cells #[(0:Int),(0:Int),(),(0:Int),(),(),(0:Int)] 70)=x):=⟨_,za rfl⟩;have G:Ext w V:=(((((dB _).alloc _).alloc _).alloc _).alloc _).trans (fV U0.out);obtain⟨b1,b2,b3⟩:=zaa (((dB _).alloc _).trans (fV U0.out));have b4:=eM U0.out;simp only [World.size_alloc] at b4
 go_enter Tryz.func202,Tryz.ntmps202
 go_upto_region 1 with fail
 rw [U0.out] at *;have CS:=b1.cells;have CP:=b2.cells;have CT:=b3.cells;have af:=dB V;go_upto_region 4 with (first
  |(go_at_call 95;refine (D.out _ G).mono (mQ fun w1 a=>?_)))
 have H:=G.trans a;have aq:=fun W (hW:Ext w1 W)=>CS W (a.trans hW);have ap:=fun W (hW:Ext w1 W)=>CP W (a.trans hW);have ae:=dB w1;clear CS CP CT af;refine uR (fun X=>Ext w1 X) [10] (zx.of [0,1,2,6,8,3,4,5,7,9,10,11]) ?_;refine uQ ?_;have q:=ae.drew;refine ze fun K hK=>?_;go_simp;refine (J.out _).mono ?_;rintro e w' ⟨rfl,rfl⟩;refine hK.out _ _ q ?_;refine pT ?_;refine uQ ?_;refine ze fun K hK=>?_;go_simp;refine (HK.out _ (H.trans q)).mono ?_;rintro e w2 ⟨j,l,u,rfl,R,ag⟩;rw [M.out];have g:=q.trans ag;refine hK.out _ _ g ?_;refine pT ?_;refine uQ ?_;refine ze fun K hK=>?_;go_simp;refine (HC.out _ (H.trans g)).mono ?_;rintro e h ⟨o,r,d1,b,f,d1',rfl,S,U⟩;have i:=g.trans U;refine hK.out _ _ i ?_;refine pT ?_;refine uQ ?_;have hxw:=H.trans i;have Y:=b4.ext (a.trans i);have kz:=Y.cell;have fz:=Y.frozen;have E:=R.ext U;have aB:=b4.lt;have z:zR h V.heap.size h.heap.size j l s:=(show zR h _ h.heap.size j l s from ⟨E.1,eQ E.2⟩).more (a.trans q).size (dD _);have y:zF h V.heap.size h.heap.size o r b f p:=S.reads.more (a.trans g).size (dD _);have ao:=G.size;have Q:Frm (fun k=>k=w.heap.size+1+1+1) h (((((((h.setCell ⟨w.heap.size+1+1+1,0,gP⟩ s.al).setCell ⟨w.heap.size+1+1+1,1,gP⟩ (.int kA (P:Nat))).setCell ⟨w.heap.size+1+1+1,2,gP⟩ (fQ j l u)).setCell ⟨w.heap.size+1+1+1,3,gP⟩ p.al).setCell ⟨w.heap.size+1+1+1,4,gP⟩ (fQ o r d1)).setCell ⟨w.heap.size+1+1+1,5,gP⟩ (fQ b f d1')).setCell ⟨w.heap.size+1+1+1,6,gP⟩ (.int kA (L:Nat))):=
  ((((((dG h _ 0 _).trans (dG _ _ 1 _)).trans (dG _ _ 2 _)).trans (dG _ _ 3 _)).trans (dG _ _ 4 _)).trans (dG _ _ 5 _)).trans (dG _ _ 6 _)
 have bW:Blk (((((((h.setCell ⟨w.heap.size+1+1+1,0,gP⟩ s.al).setCell ⟨w.heap.size+1+1+1,1,gP⟩ (.int kA (P:Nat))).setCell ⟨w.heap.size+1+1+1,2,gP⟩ (fQ j l u)).setCell ⟨w.heap.size+1+1+1,3,gP⟩ p.al).setCell ⟨w.heap.size+1+1+1,4,gP⟩ (fQ o r d1)).setCell ⟨w.heap.size+1+1+1,5,gP⟩ (fQ b f d1')).setCell ⟨w.heap.size+1+1+1,6,gP⟩ (.int kA (L:Nat))) (w.heap.size+1+1+1) 70 #[.int kA s.al,.int kA (P:Nat),fQ j l u,.int kA p.al,fQ o r d1,fQ b f d1',.int kA (L:Nat)]:=by
  simpa using ((((((Y.ab 0 (.int kA s.al)).ab 1 (.int kA (P:Nat))).ab 2 (fQ j l u)).ab 3 (.int kA p.al)).ab 4 (fQ o r d1)).ab 5 (fQ b f d1')).ab 6 (.int kA (L:Nat))
 refine zb fun K hK=>?_;go_simp;generalize (((((((h.setCell ⟨w.heap.size+1+1+1,0,gP⟩ s.al).setCell ⟨w.heap.size+1+1+1,1,gP⟩ (.int kA (P:Nat))).setCell ⟨w.heap.size+1+1+1,2,gP⟩ (fQ j l u)).setCell ⟨w.heap.size+1+1+1,3,gP⟩ p.al).setCell ⟨w.heap.size+1+1+1,4,gP⟩ (fQ o r d1)).setCell ⟨w.heap.size+1+1+1,5,gP⟩ (fQ b f d1')).setCell ⟨w.heap.size+1+1+1,6,gP⟩ (.int kA (L:Nat)))=W at *;have T:=za (show zjs w s p L (kP (.tuple #[kO #[s.al,.int kA (P:Nat),fQ j l u,p.al,fQ o r d1,fQ b f d1',.int kA (L:Nat)],.bool kC])) W from
  ⟨j,l,u,o,r,d1,b,f,d1',by rw [M.out],⟨⟨V.heap.size,h.heap.size,z.frm Q (fun k h1 h2 e=>oM),y.frm Q (fun k h1 h2 e=>oM),Q.size⟩,hV.out.1,hV.out.2.1,hV.out.2.2⟩,hxw.frm Q (fun k hk e=>oM)⟩)
 have cf:=bW.cell;clear Q bW z y kz fz Y E R S hxw;refine hK.out _ _ ?_;clear hK;refine pT ?_;refine uQ ?_;refine zg ?_;go_wp2_with fail
 exact bodyPost_ret (v:=.tuple #[kO #[s.al,.int kA (P:Nat),fQ j l u,p.al,fQ o r d1,fQ b f d1',.int kA (L:Nat)],.bool kC]) (by simp [results,Tryz.results202,go_sem,cf]) rfl T.out
end
section
variable {d:Nat->Nat->List Nat}{start L:List Nat}{goal:Nat->Bool}{N:Nat}
theorem zfp (h:¬ Lost d start goal L):∃ v,Found d start goal L v:=by
 have h1:∃ v,(∀ l∈v,l∈L)/\∃ x,zbv d start v x/\goal x=kC:=by
  apply Classical.byContradiction;intro hn;apply h;intro v b x c;cases hg:goal x with
  |false=>rfl
  |true=>exact absurd ⟨v,b,x,c,hg⟩ hn
 have i:∀ n v,zcI v=n->(∀ l∈v,l∈L)->(∃ x,zbv d start v x/\goal x=kC)->∃ v,Found d start goal L v:=by
  intro n
  induction n using kD with
  |ind n ih =>
   intro v hn b c
   by_cases hm:∃ u,(∀ l∈u,l∈L)/\zcI u<zcI v/\∃ x,zbv d start u x/\goal x=kC
   ·obtain⟨u,f,a,g⟩:=hm;exact ih (zcI u) oM u rfl f g
   ·refine⟨v,b,c,fun u f a x hgx=>?_⟩;cases hg:goal x with
    |false=>rfl
    |true=>exact absurd ⟨u,f,a,x,hgx,hg⟩ hm
 obtain⟨v,b,c⟩:=h1;exact i _ v rfl b c
theorem found_len (h:Found d [0] goal L v)(h6:∀ l∈L,l<6)(hN:0<N)(hd:∀ x l,x<N->l∈L->∀ y∈d x l,y<N):v.length<N:=by
 obtain⟨r,⟨x,E,t⟩,b⟩:=h;obtain⟨G,s,i⟩:=zbv.dn (L:=L) (v:=[]) (u:=v) (goal:=goal) (by simpa using E) t r;have p:G=0:=by have:=s.ah;simpa using this
 subst p;have j:∃ n,Mn d L goal n 0/\n<=v.length:=by
  have q:∀ n,Dn d L goal n 0->∃ m,Mn d L goal m 0/\m<=n:=by
   intro n
   induction n using kD with
   |ind n ih =>
    intro g
    by_cases f:∃ m,m<n/\Dn d L goal m 0
    ·obtain⟨m,a,f⟩:=f;obtain⟨k,h1,h2⟩:=ih m a f;exact⟨k,h1,oM⟩
    ·exact⟨n,⟨g,fun m a hm'=>f ⟨m,a,hm'⟩⟩,dD _⟩
  exact q _ i
 obtain⟨n,g,-⟩:=j;have C:=g.lt hN hd;obtain⟨u,D,c,y,F,o⟩:=Dn.word (v:=[]) (start:=[0]) g.1 (.nil sM);rcases Nat.lt_or_ge n v.length with B|z
 ·have:=b u c (zit (fun l hl=>h6 l (r l hl)) (fun l hl=>h6 l (c l hl)) oM) y (by simpa using F);rw [o] at this;cases this
 ·omega
theorem firstW_ok (h6:∀ l∈L,l<6)(hN:0<N)(hd:∀ x l,x<N->l∈L->∀ y∈d x l,y<N):(∀ l∈zgP d [0] goal L,l<6)/\(zgP d [0] goal L).length<N:=by
 by_cases h:Lost d [0] goal L
 ·rw [(zgE h).1];exact⟨sM,by simpa using hN⟩
 ·obtain⟨v,a⟩:=zfp h;rw [(zfz h6 a).1];exact⟨fun l hl=>h6 l (a.1 l hl),found_len a h6 hN hd⟩
end
theorem wstr_word (h6:∀ l∈v,l<6)(hl:v.length<=50000):zbq (wstr v)=kC:=by
 unfold zbq;simp only [dI,decide_eq_true_eq];refine⟨by rw [zis];exact hl,?_⟩;rw [eV];intro b hb;unfold wstr lbs at hb;rw [strOfNums_data,List.map_map] at hb;obtain⟨l,hl,rfl⟩:=List.mem_map.1 hb;have a:=h6 l hl;have c:∀ l,l<6->zeC (UInt8.ofNat (97+l))=kC:=dM;have e:((fun n:Int=>UInt8.ofNat n.toNat) ∘ fun l:Nat=>((97+l:Nat):Int)) l=UInt8.ofNat (97+l):=by
  show UInt8.ofNat (((97+l:Nat):Int)).toNat=_;rw [eT]
 first
  |(rw [e];exact c l a)
  |(have:=c l a;simpa using this)
theorem vioW_word (hss:∀ s∈ss,zk s=kC)(ha:zj a=kC)(hp:zj p=kC)(hN:zH (zbt ss [a,p])<=50000):zbq (vioW ss a p)=kC/\(vioW ss a p).size<zH (zbt ss [a,p]):=by
 have b:∀ m∈zbt ss [a,p],zev m:=by
  intro m b;unfold zbt at b;rcases kY.1 b with h|h
  ·obtain⟨s,c,rfl⟩:=List.mem_map.1 h;exact zeI (zbx (hss s c))
  ·simp at h;rcases h with rfl|rfl
   ·exact zbF ha
   ·exact zbF hp
 obtain⟨h1,h2⟩:=firstW_ok (d:=zcj ss a p) (goal:=zbR a p) (L:=letters (zE ss|||a.al.toNat) 6) (N:=zH (zbt ss [a,p])) (fun l hl=>(zD.1 hl).1) (zgk b) (fun x l _ hl y hy=>by
  rw [zdj] at hy;exact zji b (zD.1 hl).1 y hy)
 unfold vioW;exact⟨wstr_word h1 oM,by rw [zis];exact h2⟩
theorem prod_le (hss:∀ s∈ss,zk s=kC):zH (zbt ss [a,p])<=16 ^ ss.length*(a.next.length*p.next.length):=by
 induction ss with
 |nil=>simp [zbt,zH,zau,zbE]
 |cons s r ih =>
  have h1:=ih (fun s hs=>hss s (eR _ hs));have h2:s.st.toNat<=16:=by have:=(zbx (hss s iK)).2.1;omega
  show zH (zec s :: zbt r [a,p])<=_;rw [zdT,gD,Nat.pow_succ]
  calc s.st.toNat*zH (zbt r [a,p])<=16*(16 ^ r.length*(a.next.length*p.next.length)):=fK h2 h1
   _=16 ^ r.length*16*(a.next.length*p.next.length):=by rw [<- Nat.mul_assoc,Nat.mul_comm 16]
theorem zdg (hs:zk s=kC)(ha:zj a=kC)(hp:zj p=kC):zbq (zaI s a p)=kC/\(zaI s a p).size<=2304:=by
 have h1:=(zl ha).2.1.2;have h2:=(zl hp).2.1.2;have b:=prod_le (ss:=[s]) (a:=a) (p:=p) (by simpa using hs);have d:a.next.length*p.next.length<=12*12:=fK h1 h2;simp only [List.length_singleton,Nat.pow_one] at b;obtain⟨c,f⟩:=vioW_word (ss:=[s]) (by simpa using hs) ha hp oM;unfold zaI;rw [if_pos (by unfold zce;rw [hs,ha,hp];rfl)];exact⟨c,oM⟩
theorem zcW (hss:zA ss=kC)(hp:zj p=kC):zbq (zY ss p)=kC/\(zY ss p).size<16 ^ ss.length*12:=by
 obtain⟨⟨h,b⟩,c⟩:=zap hss;have h2:=(zl hp).2.1.2;have d:=prod_le (a:=free) (p:=p) c;have i:free.next.length*p.next.length<=1*12:=fK (dD _) h2;have j:zH (zbt ss [free,p])<=16 ^ ss.length*12:=dW d (Nat.mul_le_mul_left _ oM);have f:16 ^ ss.length<=16 ^ 3:=eL oM b;have k:16 ^ ss.length*12<=4096*12:=Nat.mul_le_mul_right _ f;obtain⟨g,l⟩:=vioW_word c zdO hp oM;unfold zY;rw [if_pos (by unfold zbb;rw [hss,hp];rfl)];exact⟨g,oM⟩
noncomputable def zbj (s:Sys) (p:Aut) (t:Sys) (L:Nat) (a:Aut):ByteArray × Int:=
 if zby s a p=kC then (zay (zaI s a p) L,-1)
 else if zbi [t] a=kC then (zay (zY [t] a) L,if zo s p L (zay (zY [t] a) L)=kC then -1 else 1)
 else (⟨#[]⟩,0)
section
variable {w:kJ}{lo hi n c lo1 hi1 m d m' d' lo2 hi2 k c2 k1 d1 k1' d1' L:Nat}{A B B' C X X':Option Addr}{s t:Sys}{p a:Aut}
theorem zfG (ht:zR w lo hi C k t)(ha:zF w lo1 hi1 X k1 X' k1' a) :
  kQ kN 271 #[kO #[t.al,t.st,fQ C k c2],kO #[a.al,fQ X k1 d1,fQ X' k1' d1']] w fun e w'=>e=kP (.tuple #[kU (zY [t] a),.bool (zbi [t] a)])/\Ext w w':=by
 have m:=za (fun W (hW:Ext w W)=>ht.ext hW);have j:=za (fun W (hW:Ext w W)=>ha.ext hW);clear ht ha
 go_enter Tryz.func271,Tryz.ntmps271
 go_upto_region 1 with fail
 generalize U0:(w.alloc _).alloc _=i at *;obtain⟨d,n,o⟩:=Ext.x2_ U0;clear U0;have s:=n.cell;have b:=(dB i).alloc (.cells #[t.al,t.st,fQ C k c2] 38);have h:=eO i 38 #[t.al,t.st,fQ C k c2];obtain⟨r,q,f⟩:=sl_one h (m.out _ (d.trans b));have p:=(o.ext b).cell;have l:=za (zbX (c:=1) (d2:=d1) (d2':=d1') f (j.out _ (d.trans b)));clear f h;go_wp2_with fail
 refine l.out.mono (mQ fun u g=>?_);go_wp2_with fail
 go_ret2;exact⟨rfl,(d.trans b).trans g⟩
theorem zkb (h:Tch w A n B m B' m' s p L)(ht:zR w lo hi C k t)(ha:zF w lo1 hi1 X k1 X' k1' a) (vt:zk t=kC) (va:zj a=kC) :
  kQ kN 203 #[kO #[t.al,t.st,fQ C k c2],kO #[s.al,s.st,fQ A n c,p.al,fQ B m d,fQ B' m' d',L],kO #[a.al,fQ X k1 d1,fQ X' k1' d1']] w fun e w'=>e=kP (.tuple #[kU (zbj s p t L a).1,.int kA (zbj s p t L a).2])/\Ext w w':=by
 have hL:=h.lt;have q:=za (fun W (hW:Ext w W)=>by
  obtain⟨lo,hi,h1,h2,_⟩:=h.at_;exact zde (c:=c) (d1:=d1) (d1':=d1') (d2:=d) (d2':=d') (h1.ext hW) (ha.ext hW) (h2.ext hW))
 have HS:=za (fun W (hW:Ext w W) (y:ByteArray) hy=>by
  obtain⟨lo,hi,h1,h2,h3⟩:=h.at_;exact zei (c:=c) (d:=d) (d':=d') (L:=L) (t:=y) (h1.ext hW) (h2.ext hW) h.sv h.pv h.lt (dW h3 hW.size) hy)
 have v:=za (fun W (hW:Ext w W)=>zfG (c2:=c2) (d1:=d1) (d1':=d1') (ht.ext hW) (ha.ext hW));have hu:=za (zdg h.sv va h.pv);have S:=za (zcW (ss:=[t]) (p:=a) (by unfold zA;simp [vt]) va);have o:=za (show zbj s p t L a=if zby s a p=kC then (zay (zaI s a p) L,-1)
  else if zbi [t] a=kC then (zay (zY [t] a) L,if zo s p L (zay (zY [t] a) L)=kC then -1 else 1)
  else (⟨#[]⟩,0) from rfl)
 generalize zbj s p t L a=J at *;obtain⟨M,Y⟩:∃ M,Hid (zaI s a p=M):=⟨_,rfl⟩;obtain⟨H,T⟩:∃ H,Hid (zY [t] a=H):=⟨_,rfl⟩;rw [Y.out] at q hu o;rw [T.out] at v S o;have b:Ext w (((w.alloc (.cells #[t.al,t.st,fQ C k c2] 38)).alloc (.cells #[s.al,s.st,fQ A n c,p.al,fQ B m d,fQ B' m' d',L] 70)).alloc (.cells #[a.al,fQ X k1 d1,fQ X' k1' d1'] 27)):=(((dB _).alloc _).alloc _).alloc _;obtain⟨O,Q,R⟩:=zaa (dB (((w.alloc (.cells #[t.al,t.st,fQ C k c2] 38)).alloc (.cells #[s.al,s.st,fQ A n c,p.al,fQ B m d,fQ B' m' d',L] 70)).alloc (.cells #[a.al,fQ X k1 d1,fQ X' k1' d1'] 27)));clear h ht ha vt va;cases hub:zby s a p
 ·cases hbb:zbi [t] a
  ·have f:=za (show J=(⟨#[]⟩,0) by rw [o.out,hub,hbb];rfl);rw [hub] at q;rw [hbb] at v;rw [f.out];clear o f hub hbb
   go_enter Tryz.func203,Tryz.ntmps203
   go_upto_region 1 with fail
   generalize ((w.alloc _).alloc _).alloc _=F at *;have CT:=O.cells;have CK:=Q.cells;have CA:=R.cells;have D:=dB F;go_wp2_with (first
    |(go_at_call 59;refine (q.out _ b).mono (mQ fun w1 g=>?_))
    |(go_at_call 271;refine (v.out _ (b.trans g)).mono (mQ fun w2 r=>?_);have l:=g.trans r))
   go_ret2;exact⟨rfl,b.trans l⟩
  ·obtain⟨j,z⟩:∃ j,Hid (zay H L=j):=⟨_,rfl⟩;have G:=za (fun W=>zbg (w:=W) (s:=H) (a:=L) S.out.1 oM);have U:=za (show j.size<=9223372036854775807 by
    rw [<- z.out];have h1:=zbr (zaV (zcn S.out.1 L));omega)
   rw [z.out] at G o;have x:=za (fun W (hW:Ext w W)=>HS.out W hW j U.out);obtain⟨I,V⟩:∃ I,Hid (zo s p L j=I):=⟨_,rfl⟩;rw [V.out] at x o;rw [hub] at q;rw [hbb] at v;have f:=za (show J=(j,if I=kC then -1 else 1) by rw [o.out,hub,hbb];rfl);rw [f.out];clear o f hub hbb;cases I
   all_goals
    go_enter Tryz.func203,Tryz.ntmps203
    go_upto_region 1 with fail
    generalize ((w.alloc _).alloc _).alloc _=F at *;have CT:=O.cells;have CK:=Q.cells;have CA:=R.cells;have D:=dB F;go_wp2_with (first
     |(go_at_call 59;refine (q.out _ b).mono (mQ fun w1 g=>?_))
     |(go_at_call 271;refine (v.out _ (b.trans g)).mono (mQ fun w2 r=>?_);have l:=g.trans r)
     |(go_at_call 60;refine (G.out _).mono (mQ fun w3 u=>?_);have i:=l.trans u)
     |(go_at_call 62;refine (x.out _ (b.trans i)).mono (mQ fun w4 Z=>?_);have E:=i.trans Z))
    go_ret2;exact⟨rfl,b.trans E⟩
 ·have G:=za (fun W=>zbg (w:=W) (s:=M) (a:=L) hu.out.1 oM);rw [hub] at q;have f:=za (show J=(zay M L,-1) by rw [o.out,hub];rfl);rw [f.out];clear o f hub
  go_enter Tryz.func203,Tryz.ntmps203
  go_upto_region 1 with fail
  generalize ((w.alloc _).alloc _).alloc _=F at *;have CT:=O.cells;have CK:=Q.cells;have CA:=R.cells;have D:=dB F;go_wp2_with (first
   |(go_at_call 59;refine (q.out _ b).mono (mQ fun w1 g=>?_))
   |(go_at_call 60;refine (G.out _).mono (mQ fun w3 u=>?_);have i:=g.trans u))
  go_ret2;exact⟨rfl,b.trans i⟩
end
structure Vd where
 code:Int
 asm:Aut
 tr:ByteArray
 ro:Nat
def noA:Aut:=⟨0,[],[]⟩
noncomputable def runT (s t:Sys) (p:Aut) (L:Nat):Nat->Nat->Option (List ByteArray × List ByteArray)->Vd
 |0,k,_=>⟨2,noA,⟨#[]⟩,k⟩
 |_+1,k,gP=>⟨2,noA,⟨#[]⟩,k⟩
 |f+1,k,gO tab =>
  if (zbj s p t L (zcX L (zo s p L) tab.1 tab.2)).2=0 then ⟨0,zcX L (zo s p L) tab.1 tab.2,⟨#[]⟩,k+1⟩
  else if (zbj s p t L (zcX L (zo s p L) tab.1 tab.2)).2=1 then ⟨1,noA,zY [s,t] p,k+1⟩
  else runT s t p L f (k+1) (zaD L (zo s p L) tab.1 tab.2 (zbj s p t L (zcX L (zo s p L) tab.1 tab.2)).1)
def zdJ (w:kJ) (v:Vd) (e:Ending) (w':kJ):Prop:=
 ∃ (A:Option Addr) (n c:Nat) (A':Option Addr) (n' c':Nat) (x:Int) (X:Option Addr) (k1 d1:Nat) (X':Option Addr) (k1' d1':Nat),
  e=kP (.tuple #[kO #[v.code,v.asm.al,fQ A n c,fQ A' n' c',v.tr,v.ro],kO #[x,fQ X k1 d1,fQ X' k1' d1']])/\zM w' w.heap.size A n c A' n' c' v.asm/\Ext w w'
def zew (L:Nat) (f:ByteArray->Bool) (o:Option (List ByteArray × List ByteArray)):Prop:=∀ rs cs,o=gO (rs,cs)->zcg L f rs cs/\zaP L f rs cs=gP
theorem zew.new (L:Nat) (f:ByteArray->Bool):zew L f ((zac L f [⟨#[]⟩] 11 [⟨#[]⟩]).map fun r=>(r,[⟨#[]⟩])):=by
 intro rs cs h;obtain⟨r,a,e⟩:=lE.1 h;obtain⟨rfl,rfl⟩:=Prod.mk.inj e;obtain⟨h1,h2,-⟩:=zhH 11 _ _ (zcg.first L f) dM a
 exact⟨h1,h2⟩
theorem zew.ao {f:ByteArray->Bool}{rows cols:List ByteArray}(h:zcg L f rows cols) (x:ByteArray):zew L f (zaD L f rows cols x):=by
 intro rs cs hl;unfold zaD at hl
 split at hl
 ·cases hl
 ·rename_i col hc
  split at hl
  ·rename_i ha;obtain⟨r,b,e⟩:=lE.1 hl;obtain⟨rfl,rfl⟩:=Prod.mk.inj e;have a:=h.addC ha;obtain⟨h1,h2,-⟩:=zhH _ _ _ a (oH h.r12) b;exact⟨h1,h2⟩
  ·cases hl
theorem judgeT_size (hs:zk s=kC)(hp:zj p=kC)(ht:zk t=kC)(ha:zj a=kC):(zbj s p t L a).1.size<=50000:=by
 have h1:=zdg hs ha hp;have h2:=zcW (ss:=[t]) (p:=a) (by unfold zA;simp [ht]) ha;unfold zbj;split
 ·exact zbr (zaV (zcn h1.1 L))
 ·split
  ·exact zbr (zaV (zcn h2.1 L))
  ·exact dH _
def TabM (w0 W:kJ) (g:Nat) (o:Option (List ByteArray × List ByteArray)):Prop:=
 ∃ (nr nc:Nat) (R:Option Addr) (cr:Nat) (C:Option Addr) (cc:Nat),Blk W g 90 #[fQ R nr cr,fQ C nc cc]/\nr<=cr/\nc<=cc /\
  ∀ rs cs,o=gO (rs,cs)->W.ownsRow w0.heap.size 9 1 (fQ R nr cr) nr (zO rs)/\W.ownsRow w0.heap.size 9 1 (fQ C nc cc) nc (zO cs)
theorem TabM.far {o:Option (List ByteArray × List ByteArray)}{cs:Array kL}{t:TypeId}(h:TabM w0 W g o)(hB:Blk W G t cs)(hf:Frm (fun k=>k=G) W W')(hg:g≠G)(ht:9≠t):TabM w0 W' g o:=by
 obtain⟨j,i,R,d,C,c,f,h1,h2,a⟩:=h;exact⟨j,i,R,d,C,c,f.frm hf hg,h1,h2,fun rs cs e=>⟨zf (a rs cs e).1 hf (fun b hv e'=>zq (a rs cs e).1 hB ht hv e'),zf (a rs cs e).2 hf (fun b hv e'=>zq (a rs cs e).2 hB ht hv e')⟩⟩
theorem zcL.fill {o:Option (List ByteArray × List ByteArray)}(h:zcL w o e W)(hw:w0.heap.size<=w.heap.size) :
  Ext w W/\∃ (nr nc:Nat) (R:Option Addr) (cr:Nat) (C:Option Addr) (cc:Nat),e=kP (.tuple #[kO #[fQ R nr cr,fQ C nc cc],.bool o.isSome])/\nr<=cr/\nc<=cc /\
   ∀ rs cs,o=gO (rs,cs)->W.ownsRow w0.heap.size 9 1 (fQ R nr cr) nr (zO rs)/\W.ownsRow w0.heap.size 9 1 (fQ C nc cc) nc (zO cs):=by
 obtain⟨a,⟨rfl,rfl⟩|⟨rs,cs,nr,nc,R,cr,C,cc,rfl,rfl,h1,h2⟩⟩:=h
 ·exact⟨a,0,0,gP,0,gP,0,rfl,dD _,dD _,fun _ _ e=>by cases e⟩
 ·refine⟨a,nr,nc,R,cr,C,cc,rfl,zhs h1,zhs h2,fun rs' cs' e=>?_⟩;obtain⟨rfl,rfl⟩:=Prod.mk.inj (kS e);exact⟨zn h1 hw,zn h2 hw⟩
theorem sl_pair {lo hi lo2 hi2 c2:Nat}{C:Option Addr}(hb:Blk w g 38 #[s.al,s.st,fQ A n c,t.al,t.st,fQ C k c2])(h:zR w lo hi A n s)(h':zR w lo2 hi2 C k t):∃ lo hi,zeo w lo hi (gO ⟨g,0,gP⟩) 2 [s,t]:=by
 refine⟨0,hi+hi2+g+1,rfl,[.int kA s.al,.int kA s.st,fQ A n c,.int kA t.al,.int kA t.st,fQ C k c2],⟨rfl,oM,fun _=>⟨_,rfl,dH _,by dsimp only;omega,fun j u hu=>?_⟩⟩,fun j u hu=>?_⟩
 ·rw [zZ,Nat.zero_add,hb.cell];simpa using hu
 ·match j with
  |0 =>
   simp at hu;subst hu;exact⟨A,n,c,rfl,rfl,rfl,h.1,h.2.more (dH _) oM⟩
  |1 =>
   simp at hu;subst hu;exact⟨C,k,c2,rfl,rfl,rfl,h'.1,h'.2.more (dH _) oM⟩
  |j+2=>simp at hu
theorem zdJ.drew {v:Vd}(h:zdJ w v e W):zdJ w v e W.drew:=by
 obtain⟨A,n,c,a,g,b,x,X,k1,d1,X',k1',d1',d,ho,f⟩:=h;have hd:Ext W W.drew:=(dB W).drew;exact⟨A,n,c,a,g,b,x,X,k1,d1,X',k1',d1',d,ho.ext hd,f.trans hd⟩
theorem zdJ.cast {v u:Vd}(hu:u=v)(h:zdJ w v e W):zdJ w u e W:=hu ▸ h
def roAt (W:kJ) (g:Nat):Nat:=match W.cell? ⟨g,5,gP⟩ with|some (.int _ z)=>z.toNat|_=>0
theorem roAt_blk {t:TypeId}{u3 u4:kL}(h:Blk W g t #[u0,u1,u2,u3,u4,j]):roAt W g=j:=by
 unfold roAt;rw [h.cell 5];exact eT j
theorem runT_end {o:Option (List ByteArray × List ByteArray)}(h:¬ (o.isSome=kC/\j<K)):runT s t p L (K - j) j o=⟨2,noA,⟨#[]⟩,j⟩:=by
 cases hk:K - j with
 |zero=>rfl
 |succ f =>
  cases o with
  |none=>rfl
  |some tab=>exact absurd ⟨rfl,oM⟩ h
theorem zdD (W:kJ) (Z:Nat) (u0 u1 u2 u3 u4 u5:kL):Frm (fun k=>k=Z) W ((((((W.setCell Z u0).setCell ⟨Z,1,gP⟩ u1).setCell ⟨Z,2,gP⟩ u2).setCell ⟨Z,3,gP⟩ u3).setCell ⟨Z,4,gP⟩ u4).setCell ⟨Z,5,gP⟩ u5):=
 (((((dG W _ 0 _).trans (dG _ _ 1 _)).trans (dG _ _ 2 _)).trans (dG _ _ 3 _)).trans (dG _ _ 4 _)).trans (dG _ _ 5 _)
theorem Frm.drew {a:kJ}(h:Frm S a w):Frm S a w.drew:=⟨h.os,h.tape,h.output,h.size,h.block⟩
theorem zhu {k1 d1 k1' d1':Nat}{X X':Option Addr}{v:Vd}{x:Int}{vs us:Array kL}(hx:Ext w W)(hv:Blk W Z 42 vs)(hu:Blk W (Z+1) 27 us)(h6:vs.size=6)(h3:us.size=3)(hZ:w.heap.size<=Z)(ho:zM W w.heap.size A n c A' n' c' v.asm) :
  Hid (zdJ w v (kP (.tuple #[kO #[v.code,v.asm.al,fQ A n c,fQ A' n' c',v.tr,v.ro],kO #[x,fQ X k1 d1,fQ X' k1' d1']]))
   (((((((((W.setCell Z v.code).setCell ⟨Z,1,gP⟩ v.asm.al).setCell ⟨Z,2,gP⟩ (fQ A n c)).setCell ⟨Z,3,gP⟩ (fQ A' n' c')).setCell ⟨Z,4,gP⟩ v.tr).setCell ⟨Z,5,gP⟩ v.ro).setCell ⟨Z+1,0,gP⟩ x).setCell ⟨Z+1,1,gP⟩ (fQ X k1 d1)).setCell ⟨Z+1,2,gP⟩ (fQ X' k1' d1'))) /\
  Blk (((((((((W.setCell Z v.code).setCell ⟨Z,1,gP⟩ v.asm.al).setCell ⟨Z,2,gP⟩ (fQ A n c)).setCell ⟨Z,3,gP⟩ (fQ A' n' c')).setCell ⟨Z,4,gP⟩ v.tr).setCell ⟨Z,5,gP⟩ v.ro).setCell ⟨Z+1,0,gP⟩ x).setCell ⟨Z+1,1,gP⟩ (fQ X k1 d1)).setCell ⟨Z+1,2,gP⟩ (fQ X' k1' d1')) Z 42 #[v.code,v.asm.al,fQ A n c,fQ A' n' c',v.tr,v.ro] /\
  Blk (((((((((W.setCell Z v.code).setCell ⟨Z,1,gP⟩ v.asm.al).setCell ⟨Z,2,gP⟩ (fQ A n c)).setCell ⟨Z,3,gP⟩ (fQ A' n' c')).setCell ⟨Z,4,gP⟩ v.tr).setCell ⟨Z,5,gP⟩ v.ro).setCell ⟨Z+1,0,gP⟩ x).setCell ⟨Z+1,1,gP⟩ (fQ X k1 d1)).setCell ⟨Z+1,2,gP⟩ (fQ X' k1' d1')) (Z+1) 27 #[.int kA x,fQ X k1 d1,fQ X' k1' d1']:=by
 obtain⟨j⟩:=vs
 match j,h6 with
 |[a0,a1,a2,a3,a4,a5],_ =>
 have a:Frm (fun k=>k=Z) W ((((((W.setCell Z v.code).setCell ⟨Z,1,gP⟩ v.asm.al).setCell ⟨Z,2,gP⟩ (fQ A n c)).setCell ⟨Z,3,gP⟩ (fQ A' n' c')).setCell ⟨Z,4,gP⟩ v.tr).setCell ⟨Z,5,gP⟩ v.ro):=
  (((((dG W _ 0 _).trans (dG _ _ 1 _)).trans (dG _ _ 2 _)).trans (dG _ _ 3 _)).trans (dG _ _ 4 _)).trans (dG _ _ 5 _)
 have g:Blk ((((((W.setCell Z v.code).setCell ⟨Z,1,gP⟩ v.asm.al).setCell ⟨Z,2,gP⟩ (fQ A n c)).setCell ⟨Z,3,gP⟩ (fQ A' n' c')).setCell ⟨Z,4,gP⟩ v.tr).setCell ⟨Z,5,gP⟩ v.ro) Z 42 #[.int kA v.code,.int kA v.asm.al,fQ A n c,fQ A' n' c',kU v.tr,.int kA v.ro]:=by
  simpa using (((((hv.ab 0 (.int kA v.code)).ab 1 (.int kA v.asm.al)).ab 2 (fQ A n c)).ab 3 (fQ A' n' c')).ab 4 (.string v.tr)).ab 5 (.int kA v.ro)
 have f:=ho.aq hv a dM;have d:=hu.frm a oM;have h:Ext w ((((((W.setCell Z v.code).setCell ⟨Z,1,gP⟩ v.asm.al).setCell ⟨Z,2,gP⟩ (fQ A n c)).setCell ⟨Z,3,gP⟩ (fQ A' n' c')).setCell ⟨Z,4,gP⟩ v.tr).setCell ⟨Z,5,gP⟩ v.ro):=hx.frm a (fun k hk e=>oM);generalize (((((W.setCell Z v.code).setCell ⟨Z,1,gP⟩ v.asm.al).setCell ⟨Z,2,gP⟩ (fQ A n c)).setCell ⟨Z,3,gP⟩ (fQ A' n' c')).setCell ⟨Z,4,gP⟩ v.tr).setCell ⟨Z,5,gP⟩ v.ro=i at *;have b:=zP i (Z+1) (.int kA x) (fQ X k1 d1) (fQ X' k1' d1');exact⟨za ⟨A,n,c,A',n',c',x,X,k1,d1,X',k1',d1',rfl,f.aq d b dM,h.frm b (fun k hk e=>oM)⟩,g.frm b oM,zab d h3 _ _ _⟩
section
variable {w:kJ}{lo hi n c lo1 hi1 m d m' d' lo2 hi2 k c2:Nat}{A B B' C:Option Addr}{s t:Sys}{p:Aut}
theorem yT13a1 {P:Prop}(h:P:=by
 clear hflag hgo ho hon hne1 hne2 hd hb8 hb9' hxw;go_wp2_with fail
 refine zbz (fun Y=>Frm (fun b=>b=Z) wr Y) [3] (zx.of [0,1,2,3]) kM kM kM kM kM (fun _ _ _ _ _ h=>h) hS0 ?_;refine zbL (v:=?_) rfl rfl rfl rfl (fun X hX=>?_) ?_
 rotate_left
 focus (go_simp<;>with_reducible rfl)
 refine pT ?_;refine zbL (v:=?_) rfl rfl rfl rfl (fun X hX=>?_) ?_
 rotate_left
 focus (go_simp<;>with_reducible rfl)
 refine pT ?_;refine ze fun K hK=>?_;go_simp;refine hK.out _ _ hf8.out.drew ?_;refine pT ?_;refine zb fun K hK=>?_;go_simp;refine hK.out _ _ ?_;refine zg ?_;go_wp2_with fail
 have cf2:=F2.out.cell;have cf3:=F3.out.cell;exact bodyPost_ret (v:=.tuple #[.agg #[(2:Int),(0:Int),(),(),.string ⟨#[]⟩,j],.agg #[x,.slice X k1 d1,.slice X' k1' d1']]) (by simp [results,Tryz.results112,go_sem,cf2,cf3]) rfl F1.out
 ):P:=h
theorem spec_l12Run (hs:zR w lo hi A n s)(hp:zF w lo1 hi1 B m B' m' p)(ht:zR w lo2 hi2 C k t)(hif:iface s p t=(L:Int))(hn:n<=1000000)(hhi:hi<=w.heap.size)(hK:K<=1000) :
  kQ kN 112 #[kO #[s.al,s.st,fQ A n c],kO #[t.al,t.st,fQ C k c2],kO #[p.al,fQ B m d,fQ B' m' d'],K] w
   (zdJ w (runT s t p L K 0 ((zac L (zo s p L) [⟨#[]⟩] 11 [⟨#[]⟩]).map fun r=>(r,[⟨#[]⟩])))):=by
 obtain⟨vs,vp,vt⟩:=zck (show 0<=iface s p t by omega);have Hv:=za (And.intro vs (And.intro vp vt));have bq:=za (fun W (hW:Ext w W)=>spec_TaskOf (c:=c) (d:=d) (d':=d') (c2:=c2) (hs.ext hW) (hp.ext hW) (ht.ext hW) hif hn (dW hhi hW.size));have bR:=za (fun W (hW:Ext w W)=>show kQ kN 150 #[fQ (gO W.heap.size) 2 2,kO #[p.al,fQ B m d,fQ B' m' d']] (W.alloc (.cells #[s.al,s.st,fQ A n c,t.al,t.st,fQ C k c2] 38)) (fun e w'=>e=kP (.tuple #[kU (zY [s,t] p),.bool (zbi [s,t] p)])/\Ext W w') by
  have f6:=(dB W).alloc (.cells #[s.al,s.st,fQ A n c,t.al,t.st,fQ C k c2] 38);obtain⟨l1,l2,cE⟩:=sl_pair (eO W 38 #[s.al,s.st,fQ A n c,t.al,t.st,fQ C k c2]) (hs.ext (hW.trans f6)) (ht.ext (hW.trans f6));exact (zbX cE (hp.ext (hW.trans f6))).mono (fun e w' h=>⟨h.1,f6.trans h.2⟩))
 have c9:=za (fun W (hW:Ext w W)=>hs.ext hW);have cx:=za (fun W (hW:Ext w W)=>ht.ext hW);obtain⟨ag,bH⟩:∃ ag,Hid (runT s t p L K 0 ((zac L (zo s p L) [⟨#[]⟩] 11 [⟨#[]⟩]).map fun r=>(r,[⟨#[]⟩]))=ag):=⟨_,rfl⟩;have bj:=za (zew.new L (zo s p L));rw [bH.out];obtain⟨aC,bh⟩:∃ aC,Hid ((zac L (zo s p L) [⟨#[]⟩] 11 [⟨#[]⟩]).map (fun r=>(r,[(⟨#[]⟩:ByteArray)]))=aC):=⟨_,rfl⟩;rw [bh.out] at bH bj;clear hs hp ht hif vs vp vt;obtain⟨w0,U0⟩:∃ x,Hid (((((w.alloc (.cells #[s.al,s.st,fQ A n c] 38)).alloc (.cells #[t.al,t.st,fQ C k c2] 38)).alloc (.cells #[p.al,fQ B m d,fQ B' m' d'] 27)).alloc (.cells #[(0:Int),(0:Int),(),(),kU ⟨#[]⟩,(0:Int)] 42)).alloc (.cells #[(0:Int),(),()] 27)=x):=⟨_,za rfl⟩;have aj:Ext w w0:=((((((dB _).alloc _).alloc _).alloc _).alloc _).alloc _).trans (fV U0.out);obtain⟨b1,b2,b3⟩:=zaa ((((dB _).alloc _).alloc _).trans (fV U0.out));obtain⟨b8,b9⟩:=zG (fV U0.out);simp only [World.size_alloc] at b8 b9
 go_enter Tryz.func112,Tryz.ntmps112
 go_upto_region 1 with fail
 rw [U0.out] at *;have CS:=b1.cells;have CT:=b2.cells;have CP:=b3.cells;have dk:=b9.lt;have dj:w.heap.size<=w.heap.size+1+1+1:=oM;generalize w.heap.size+1+1+1=Z at *;have cF:=dB w0;go_upto_region 2 with (first
  |(go_at_call 202;refine (bq.out _ aj).mono ?_;rintro e w1 ⟨A,n,c,B,m,d,B',m',d',rfl,bi,cf⟩))
 have cK:=(eO w1 70 #[s.al,s.st,fQ A n c,p.al,fQ B m d,fQ B' m' d',L]).cell;go_upto_region 5 with fail
 obtain⟨bO,bY⟩:∃ bO,Hid (w1.heap.size=bO):=⟨_,rfl⟩;generalize U0:(w1.alloc _).alloc _=w2 at *;obtain⟨bk,bK,bT⟩:=Ext.x2_ U0;clear U0;rw [bY.out] at bK bT ⊢;clear cK;have V:=bi.ext bk;have a:=cf.trans bk;have dl:=bT.lt;have bQ:=za (fun W (hW:Ext w2 W)=>zgm (c:=c) (d:=d) (d':=d') (V.ext hW));rw [bh.out] at bQ;have cy:=za (fun (R:Option Addr) (nr cr:Nat) (C:Option Addr) (nc cc:Nat) (rows cols:List ByteArray) W (hW:Ext w2 W) hT hI ai ah ao=>zbY (c:=c) (d:=d) (d':=d') (nr:=nr) (nc:=nc) (R:=R) (C:=C) (cr:=cr) (cc:=cc) (rows:=rows) (cols:=cols) (V.ext hW) hT hI ai ah ao);have cw:=za (fun (R:Option Addr) (nr cr:Nat) (C:Option Addr) (nc cc:Nat) (rows cols:List ByteArray) (x:ByteArray) W (hW:Ext w2 W) hT hI ai ah ao hx=>zfs (c:=c) (d:=d) (d':=d') (nr:=nr) (nc:=nc) (R:=R) (C:=C) (cr:=cr) (cc:=cc) (rows:=rows) (cols:=cols) (x:=x) (V.ext hW) hT hI ai ah ao hx);have bN:=bT.cells;have cu:=bK.cells;have ct:=fun W (hW:Ext w2 W)=>CS W (a.trans hW);have bM:=fun W (hW:Ext w2 W)=>CT W (a.trans hW);have cq:=fun W (hW:Ext w2 W)=>CP W (a.trans hW);have ce:=dB w2;clear cF CS CT CP;go_upto_region 6 with (first
  |(go_at_call 57;refine (bQ.out _ ce).mono ?_;intro e w3 hret;obtain⟨bD,nr,nc,R,cr,C,cc,rfl,ai,ah,bx⟩:=hret.fill (w0:=w2) (dD _);clear hret))
 go_wp2_with fail
 obtain⟨G,hG⟩:∃ G,Hid (w3.heap.size=G):=⟨_,rfl⟩;have di:w2.heap.size<=G:=by rw [<- hG.out];exact bD.size
 generalize U0:((w3.alloc _).alloc _).alloc _=w6 at *;obtain⟨az,am,E,ae⟩:=Ext.x3_ U0;clear U0;rw [hG.out] at am E ae ⊢;have bl:=bD.trans az;have aL:TabM w2 w6 G aC:=⟨nr,nc,R,cr,C,cc,am,ai,ah,fun rs cs e=>⟨zh (bx rs cs e).1 az,zh (bx rs cs e).2 az⟩⟩;clear bx am bD az
 go_loopw [14] (fun fv wr=>∃ (o:Option (List ByteArray × List ByteArray)) (j:Nat) (x:Int) (X:Option Addr) (k1 d1:Nat) (X':Option Addr) (k1' d1':Nat),fv=.bool o.isSome/\j<=K/\Hid (zew L (zo s p L) o)/\Hid (runT s t p L (K - j) j o=ag)/\TabM w2 wr G o/\Blk wr (G+1) 42 #[(2:Int),(0:Int),(),(),kU ⟨#[]⟩,j]/\Blk wr (G+1+1) 27 #[x,fQ X k1 d1,fQ X' k1' d1']/\Ext w2 wr) (fun _ wr=>K - roAt wr (G+1))
 case atStart=>exact⟨aC,0,0,gP,0,0,gP,0,0,rfl,dH _,bj,bH,aL,E,ae,bl⟩
 case round =>
  clear aL E ae bl;obtain⟨o,j,x,X,k1,d1,X',k1',d1',rfl,hj,cD,bg,aL,E,ae,aU⟩:=hrel;have av:=E.cell;have aw:=ae.cell
  by_cases hgo:o.isSome=kC/\j<K
  ·obtain⟨⟨⟨rs,cs⟩,rfl⟩,dm⟩:(∃ q,o=gO q)/\j<K:=⟨Option.isSome_iff_exists.1 hgo.1,hgo.2⟩;clear hgo;obtain⟨hI,ao⟩:=cD.out rs cs rfl;have cW:(j:Int)<(K:Int):=oM;have an:=E.frozen;have bb:Blk (wr.setCell ⟨G+1,5,gP⟩ (.int kA ((j:Int)+1))) (G+1) 42 #[.int kA 2,.int kA 0,fQ gP 0 0,fQ gP 0 0,kU ⟨#[]⟩,.int kA ((j:Int)+1)]:=by
    simpa using E.ab 5 (.int kA ((j:Int)+1))
   have bz:Frm (fun b=>b=G+1) wr (wr.setCell ⟨G+1,5,gP⟩ (.int kA ((j:Int)+1))):=dG wr _ 5 _;have bc:=ae.frm bz oM;have b4:=aL.far E bz oM dM;have aT:=aU.setCell (p:=⟨G+1,5,gP⟩) (by dsimp only;omega) (.int kA ((j:Int)+1));go_upto_region 10 with fail
   have cb:=za (roAt_blk E);clear av aw an aL E ae aU bz;generalize wr.setCell ⟨G+1,5,gP⟩ (.int kA ((j:Int)+1))=wA at *;obtain⟨nr,nc,R,cr,C,cc,am,ai,ah,b5⟩:=b4;obtain⟨oR,oC⟩:=b5 rs cs rfl;have a4:=za (show TabAt wA R nr C nc rs cs from ⟨_,_,_,_,eQ oR,eQ oC⟩);have bE:=am.cell;have bs:=bN wA aT;have bu:=za hI;have bf:=za ao;have a0:=za (zbe hI ao bi.lt);clear hI ao b5;go_upto_region 11 with (first
    |(go_at_call 58;refine (cy.out _ _ _ _ _ _ rs cs _ aT a4.out bu.out ai ah bf.out).mono ?_;rintro e wB ⟨Y,q1,e1,Y',I,D,rfl,aq,cg⟩))
   obtain⟨f,be⟩:∃ f,Hid (zcX L (zo s p L) rs cs=f):=⟨_,rfl⟩;rw [be.out] at aq a0 ⊢;generalize U0:wB.alloc _=wC at *;have ch:=Ext.al_ U0;have bU:=eM U0;have aO:=aq.ext ch;clear U0;have T:=cg.trans ch;have F:=bc.ext T;have a9:=bb.ext T;have a7:=am.ext T;have bG:=zh oR T;have bF:=zh oC T;have aw:=F.cell;have cC:=F.frozen;have cG:=bU.cell;have ap:=zP wC (G+1+1) (.int kA f.al) (fQ Y q1 e1) (fQ Y' I D);have aG:=zab F rfl (.int kA f.al) (fQ Y q1 e1) (fQ Y' I D);have ba:=a9.frm ap oM;have a8:=a7.frm ap oM;have cm:=zf bG ap (fun b hv e=>zq bG F dM hv e);have cl:=zf bF ap (fun b hv e=>zq bF F dM hv e);have ar:=aO.aq F ap dM;have aS:=((aT.trans T).frm ap (fun k hk e=>oM));have dp:=za (aT.trans cg).size;have dn:=za aT.size;clear F a9 a7 bG bF ap aO aq bU bc bb am oR oC bE bs a4;go_upto_region 12 with fail
   generalize ((wC.setCell ⟨G+1+1,0,gP⟩ f.al).setCell ⟨G+1+1,1,gP⟩ (fQ Y q1 e1)).setCell ⟨G+1+1,2,gP⟩ (fQ Y' I D)=wD at *;clear aw cC cG;have HJ:=za (zkb (c:=c) (d:=d) (d':=d') (c2:=c2) (d1:=e1) (d1':=D) (V.ext aS) (cx.out wD (aj.trans (a.trans aS))) ar.reads Hv.out.2.2 a0.out);have bZ:=za (judgeT_size (L:=L) Hv.out.1 Hv.out.2.1 Hv.out.2.2 a0.out);obtain⟨J,hJ⟩:∃ J,Hid (zbj s p t L f=J):=⟨_,rfl⟩;rw [hJ.out] at HJ bZ;have aw:=aG.cell;have cA:=cu wD aS;have cB:=bM wD aS;go_upto_region 13 with (first
    |(go_at_call 203;refine HJ.out.mono (mQ fun wE au=>?_)))
   have g:=aS.trans au;have Q:=aG.ext au;have l:=ba.ext au;have ad:=a8.ext au;have a2:=zh cm au;have a1:=zh cl au;have U:=ar.ext au;clear aw cA cB aG ba a8 cm cl ar HJ;have z:=za (show (if J.2=0 then (⟨0,f,⟨#[]⟩,j+1⟩:Vd) else if J.2=1 then ⟨1,noA,zY [s,t] p,j+1⟩ else runT s t p L (K - (j+1)) (j+1) (zaD L (zo s p L) rs cs J.1))=ag by
    rw [<- bg.out,show K - j=(K - (j+1))+1 by omega];show _=runT s t p L ((K - (j+1))+1) j (gO (rs,cs));rw [runT,be.out,hJ.out])
   by_cases hJ0:J.2=0
   ·have aN:=za (show ag=⟨0,f,⟨#[]⟩,j+1⟩ by rw [<- z.out,if_pos hJ0]);have av:=l.cell;have an:=l.frozen;have u:Blk (wE.setCell ⟨G+1,0,gP⟩ (0:Int)) (G+1) 42 #[.int kA 0,.int kA 0,fQ gP 0 0,fQ gP 0 0,kU ⟨#[]⟩,.int kA ((j:Int)+1)]:=by
     simpa using l.ab 0 (.int kA 0)
    have bA:Frm (fun b=>b=G+1) wE (wE.setCell ⟨G+1,0,gP⟩ (0:Int)):=dG wE _ 0 _;have S:=Q.frm bA oM;have aP:=U.aq l bA dM;have ak:=g.setCell (p:=⟨G+1,0,gP⟩) (by dsimp only;omega) (.int kA 0);clear z ad Q a2 a1 bA U l;go_upto_region 16 with fail
    generalize wE.setCell ⟨G+1,0,gP⟩ (0:Int)=wF at *;clear av an hJ0;have bP:=za (zfJ (c:=e1) (c':=D) aP.reads (zcP a0.out));have aw:=S.cell;go_upto_region 17 with (first
     |(go_at_call 165;refine bP.out.mono ?_;rintro e wG ⟨Z1,z1,y1,Z2,z2,y2,rfl,aQ,aa⟩;have av:=(u.ext aa).cell;have an:=(u.ext aa).frozen))
    have O:=u.ext aa;have af:=S.ext aa;have i:Frm (fun b=>b=G+1) wG (((wG.setCell ⟨G+1,1,gP⟩ f.al).setCell ⟨G+1,2,gP⟩ (fQ Z1 z1 y1)).setCell ⟨G+1,3,gP⟩ (fQ Z2 z2 y2)):=((dG wG _ 1 _).trans (dG _ _ 2 _)).trans (dG _ _ 3 _);have y:Blk (((wG.setCell ⟨G+1,1,gP⟩ f.al).setCell ⟨G+1,2,gP⟩ (fQ Z1 z1 y1)).setCell ⟨G+1,3,gP⟩ (fQ Z2 z2 y2)) (G+1) 42 #[.int kA 0,.int kA f.al,fQ Z1 z1 y1,fQ Z2 z2 y2,kU ⟨#[]⟩,.int kA ((j:Int)+1)]:=by
     simpa using ((O.ab 1 (.int kA f.al)).ab 2 (fQ Z1 z1 y1)).ab 3 (fQ Z2 z2 y2)
    have H:=af.frm i oM;have aR:=(aQ.aq O i dM).less (show w.heap.size<=wF.heap.size by have:=ak.size;have:=a.size;have:=aj.size;omega);have ab:=(ak.trans aa).frm i (fun k hk e=>oM);clear av an aw u S O af i aP aQ bP;generalize ((wG.setCell ⟨G+1,1,gP⟩ f.al).setCell ⟨G+1,2,gP⟩ (fQ Z1 z1 y1)).setCell ⟨G+1,3,gP⟩ (fQ Z2 z2 y2)=wH at *;have hxw:=aj.trans (a.trans ab);have hb8:=b8.ext (a.trans ab);have hb9':=b9.ext (a.trans ab);obtain⟨f1,f2,f3⟩:=zhu (v:=⟨0,f,⟨#[]⟩,j+1⟩) (x:=f.al) (X:=Y) (k1:=q1) (d1:=e1) (X':=Y') (k1':=I) (d1':=D) hxw hb8 hb9' rfl rfl oM aR;have F1:=za (zdJ.cast aN.out f1.out.drew);clear f1;simp only [gV,jR] at F1 f2 f3;have F2:=za f2;have F3:=za f3;clear f2 f3;have k8:=hb8.cell;have z8:=hb8.frozen;have k9:=hb9'.cell;have z9:=hb9'.frozen;have hne1:G+1≠Z:=oH a.size;have hne2:G+1+1≠Z:=oH a.size;have bI:∀ W,Frm (fun b=>b=Z) wH W->∀ q,W.cell? ⟨G+1,q,gP⟩=#[Value.int kA 0,.int kA f.al,fQ Z1 z1 y1,fQ Z2 z2 y2,kU ⟨#[]⟩,.int kA ((j:Int)+1)][q]?:=fun W hW=>(y.frm hW hne1).cell;have bJ:∀ W,Frm (fun b=>b=Z) wH W->∀ q,W.cell? ⟨G+1+1,q,gP⟩=#[Value.int kA f.al,fQ Y q1 e1,fQ Y' I D][q]?:=fun W hW=>(H.frm hW hne2).cell;have hS0:Frm (fun b=>b=Z) wH wH.drew:=⟨rfl,rfl,rfl,dD _,fun _ _ _=>rfl⟩;have hf8:=za (zdD wH Z (.int kA 0) (.int kA f.al) (fQ Z1 z1 y1) (fQ Z2 z2 y2) (.string ⟨#[]⟩) (.int kA ((j:Int)+1)));clear y H aR hb8 hb9' hxw hne1 hne2;go_wp2_with fail
    refine zbz (fun Y=>Frm (fun b=>b=Z) wH Y) [3] (zx.of [0,1,2,3]) kM kM kM kM kM (fun _ _ _ _ _ h=>h) hS0 ?_;refine zbL (v:=?_) rfl rfl rfl rfl (fun X hX=>?_) ?_
    rotate_left
    focus (go_simp<;>with_reducible rfl)
    refine pT ?_;refine zbL (v:=?_) rfl rfl rfl rfl (fun X hX=>?_) ?_
    rotate_left
    focus (go_simp<;>with_reducible rfl)
    refine pT ?_;refine ze fun K hK=>?_;go_simp;refine hK.out _ _ hf8.out.drew ?_;refine pT ?_;refine zb fun K hK=>?_;go_simp;refine hK.out _ _ ?_;refine zg ?_;go_wp2_with fail
    have cf2:=F2.out.cell;have cf3:=F3.out.cell;exact bodyPost_ret (v:=.tuple #[kO #[(0:Int),f.al,fQ Z1 z1 y1,fQ Z2 z2 y2,kU ⟨#[]⟩,((j:Int)+1:Int)],kO #[f.al,fQ Y q1 e1,fQ Y' I D]]) (by simp [results,Tryz.results112,go_sem,cf2,cf3]) rfl F1.out
   ·by_cases hJ1:J.2=1
    ·have aN:=za (show ag=⟨1,noA,zY [s,t] p,j+1⟩ by rw [<- z.out,if_neg hJ0,if_pos hJ1]);have HP:=za (bR.out wE (aj.trans (a.trans g)));have cS:=ct wE g;have cT:=bM wE g;have cP:∀ (v:Array kL) (q:Nat),(wE.alloc (.cells v 38)).cell? ⟨w.heap.size+1+1,q,gP⟩=_:=fun v q=>cq _ (g.trans ((dB wE).alloc _)) q;clear hJ0 z ad a2 a1 U;go_upto_region 20 with (first
      |(go_at_call 150;refine HP.out.mono (mQ fun wF ak=>?_);clear cS cT cP))
     have u:=l.ext ak;have S:=Q.ext ak;have ci:=g.trans ak;have av:=u.cell;have an:=u.frozen;clear HP l Q;go_upto_region 22 with fail
     have i:Frm (fun b=>b=G+1) wF ((wF.setCell ⟨G+1,0,gP⟩ (1:Int)).setCell ⟨G+1,4,gP⟩ (.string (zY [s,t] p))):=(dG wF _ 0 _).trans (dG _ _ 4 _);have y:Blk ((wF.setCell ⟨G+1,0,gP⟩ (1:Int)).setCell ⟨G+1,4,gP⟩ (.string (zY [s,t] p))) (G+1) 42 #[.int kA 1,.int kA 0,fQ gP 0 0,fQ gP 0 0,kU (zY [s,t] p),.int kA ((j:Int)+1)]:=by
      simpa using (u.ab 0 (.int kA 1)).ab 4 (.string (zY [s,t] p))
     have H:=S.frm i oM;have ab:=ci.frm i (fun k hk e=>oM);clear av an u S i hJ1;generalize (wF.setCell ⟨G+1,0,gP⟩ (1:Int)).setCell ⟨G+1,4,gP⟩ (.string (zY [s,t] p))=wH at *;have hxw:=aj.trans (a.trans ab);have hb8:=b8.ext (a.trans ab);have hb9':=b9.ext (a.trans ab);obtain⟨f1,f2,f3⟩:=zhu (v:=⟨1,noA,zY [s,t] p,j+1⟩) (A:=gP) (n:=0) (c:=0) (A':=gP) (n':=0) (c':=0) (x:=f.al) (X:=Y) (k1:=q1) (d1:=e1) (X':=Y') (k1':=I) (d1':=D) hxw hb8 hb9' rfl rfl oM (⟨⟨[],World.ownsRow_nil _ _ _ _,zC.nil _ _⟩,rfl,World.ownsRow_nil _ _ _ _,rfl⟩:zM wH w.heap.size gP 0 0 gP 0 0 noA);have F1:=za (zdJ.cast aN.out f1.out.drew);clear f1;simp only [noA,gV,jR] at F1 f2 f3;have F2:=za f2;have F3:=za f3;clear f2 f3;have k8:=hb8.cell;have z8:=hb8.frozen;have k9:=hb9'.cell;have z9:=hb9'.frozen;have hne1:G+1≠Z:=oH a.size;have hne2:G+1+1≠Z:=oH a.size;have bI:∀ W,Frm (fun b=>b=Z) wH W->∀ q,W.cell? ⟨G+1,q,gP⟩=#[Value.int kA 1,.int kA 0,fQ gP 0 0,fQ gP 0 0,kU (zY [s,t] p),.int kA ((j:Int)+1)][q]?:=fun W hW=>(y.frm hW hne1).cell;have bJ:∀ W,Frm (fun b=>b=Z) wH W->∀ q,W.cell? ⟨G+1+1,q,gP⟩=#[Value.int kA f.al,fQ Y q1 e1,fQ Y' I D][q]?:=fun W hW=>(H.frm hW hne2).cell;have hS0:Frm (fun b=>b=Z) wH wH.drew:=⟨rfl,rfl,rfl,dD _,fun _ _ _=>rfl⟩;have hf8:=za (zdD wH Z (.int kA 1) (.int kA 0) (fQ gP 0 0) (fQ gP 0 0) (.string (zY [s,t] p)) (.int kA ((j:Int)+1)));clear y H hb8 hb9' hxw hne1 hne2;go_wp2_with fail
     refine zbz (fun Y=>Frm (fun b=>b=Z) wH Y) [3] (zx.of [0,1,2,3]) kM kM kM kM kM (fun _ _ _ _ _ h=>h) hS0 ?_;refine zbL (v:=?_) rfl rfl rfl rfl (fun X hX=>?_) ?_
     rotate_left
     focus (go_simp<;>with_reducible rfl)
     refine pT ?_;refine zbL (v:=?_) rfl rfl rfl rfl (fun X hX=>?_) ?_
     rotate_left
     focus (go_simp<;>with_reducible rfl)
     refine pT ?_;refine ze fun K hK=>?_;go_simp;refine hK.out _ _ hf8.out.drew ?_;refine pT ?_;refine zb fun K hK=>?_;go_simp;refine hK.out _ _ ?_;refine zg ?_;go_wp2_with fail
     have cf2:=F2.out.cell;have cf3:=F3.out.cell;exact bodyPost_ret (v:=.tuple #[kO #[(1:Int),(0:Int),(),(),kU (zY [s,t] p),((j:Int)+1:Int)],kO #[f.al,fQ Y q1 e1,fQ Y' I D]]) (by simp [results,Tryz.results112,go_sem,cf2,cf3]) rfl F1.out
    ·have e0:(J.2==0)=false:=by simpa using hJ0
     have e2:(J.2==1)=false:=by simpa using hJ1
     have bC:=za (show runT s t p L (K - (j+1)) (j+1) (zaD L (zo s p L) rs cs J.1)=ag by
      have:=z.out;rw [if_neg hJ0,if_neg hJ1] at this;exact this)
     clear hJ0 hJ1 z;have bs:=bN wE g;have bE:=ad.cell;have br:=za (show TabAt wE R nr C nc rs cs from ⟨_,_,_,_,eQ a2,eQ a1⟩);go_upto_region 24 with (first
      |(go_at_call 64;refine (cw.out _ _ _ _ _ _ rs cs J.1 _ g br.out bu.out ai ah bf.out (oH bZ.out)).mono ?_;intro e wF hret;obtain⟨ak,aW,aV,R2,aI,C2,aH,rfl,b7,b6,bw⟩:=hret.fill (w0:=w2) g.size;clear hret))
     have cd:=za (zew.ao bu.out J.1);generalize zaD L (zo s p L) rs cs J.1=oL at *;generalize U0:wF.alloc _=wG at *;have aa:=Ext.al_ U0;have bV:=eM U0;clear U0;have aA:=ak.trans aa;have M:=ad.ext aA;have O:=l.ext aA;have af:=Q.ext aA;have cj:=g.trans aA;have cH:=bV.cell;have ck:=M.cell;have bX:=M.frozen;have i:Frm (fun b=>b=G) wG ((wG.setCell G (fQ R2 aW aI)).setCell ⟨G,1,gP⟩ (fQ C2 aV aH)):=(dG wG _ 0 _).trans (dG _ _ 1 _);have b0:TabM w2 ((wG.setCell G (fQ R2 aW aI)).setCell ⟨G,1,gP⟩ (fQ C2 aV aH)) G oL:=
      ⟨aW,aV,R2,aI,C2,aH,by simpa using (M.ab 0 (fQ R2 aW aI)).ab 1 (fQ C2 aV aH),b7,b6,fun rs' cs' e=>by
       have h1:=zh (bw rs' cs' e).1 aa;have h2:=zh (bw rs' cs' e).2 aa;exact⟨zf h1 i (fun b hv e'=>zq h1 M dM hv e'),zf h2 i (fun b hv e'=>zq h2 M dM hv e')⟩⟩
     have y:=O.frm i oM;have H:=af.frm i oM;have ab:=cj.frm i (fun k hk e=>oM);clear bs bE ad l Q a2 a1 U M O af i bV bw;go_upto_region 25 with fail
     generalize (wG.setCell G (fQ R2 aW aI)).setCell ⟨G,1,gP⟩ (fQ C2 aV aH)=wH at *;clear cH ck bX;have ca:((j:Int)+1)=((j+1:Nat):Int):=oM;rw [ca] at y;have bB:=za (roAt_blk y);clear ca;go_wp2_with fail
     go_roundw
     case rel=>exact⟨oL,j+1,f.al,Y,q1,e1,Y',I,D,rfl,oM,cd,bC,b0,y,H,ab⟩
     case measure=>have h1:=cb.out;have h2:=bB.out;omega
  ·have aN:=za (show ag=⟨2,noA,⟨#[]⟩,j⟩ by
    rw [<- bg.out];exact runT_end hgo)
   have hb8:=(b8.ext (a.trans aU));have hb9':=(b9.ext (a.trans aU));have hon:zM wr w.heap.size gP 0 0 gP 0 0 noA:=⟨⟨[],World.ownsRow_nil _ _ _ _,zC.nil _ _⟩,rfl,World.ownsRow_nil _ _ _ _,rfl⟩;have hflag:(o.isSome&&decide ((j:Int)<(K:Int)))=false:=by
    rw [fH];intro h;simp only [dI,decide_eq_true_eq] at h;exact hgo ⟨h.1,oM⟩
   have hxw:=aj.trans (a.trans aU);have hd:Ext wr wr.drew:=(dB wr).drew;obtain⟨f1,f2,f3⟩:=zhu (v:=⟨2,noA,⟨#[]⟩,j⟩) (x:=x) (X:=X) (k1:=k1) (d1:=d1) (X':=X') (k1':=k1') (d1':=d1') hxw hb8 hb9' rfl rfl oM hon;have F1:=za (zdJ.cast aN.out f1.out.drew);clear f1;simp only [noA] at F1 f2 f3;have F2:=za f2;have F3:=za f3;clear f2 f3;have k8:=hb8.cell;have z8:=hb8.frozen;have k9:=hb9'.cell;have z9:=hb9'.frozen;have dq:=aj.size;have hne1:G+1≠Z:=oH a.size;have hne2:G+1+1≠Z:=oH a.size;have bI:∀ W,Frm (fun b=>b=Z) wr W->∀ q,W.cell? ⟨G+1,q,gP⟩=#[Value.int kA 2,.int kA 0,fQ gP 0 0,fQ gP 0 0,kU ⟨#[]⟩,.int kA j][q]?:=fun W hW=>(E.frm hW hne1).cell;have bJ:∀ W,Frm (fun b=>b=Z) wr W->∀ q,W.cell? ⟨G+1+1,q,gP⟩=#[Value.int kA x,fQ X k1 d1,fQ X' k1' d1'][q]?:=fun W hW=>(ae.frm hW hne2).cell;have hS0:Frm (fun b=>b=Z) wr wr.drew:=⟨rfl,rfl,rfl,dD _,fun _ _ _=>rfl⟩;have hf8:=za (zdD wr (Z) (.int kA 2) (.int kA 0) (fQ gP 0 0) (fQ gP 0 0) (.string ⟨#[]⟩) (.int kA j));cases ho:o.isSome
   ·have Ho:=za ho;rw [ho] at hflag;exact yT13a1
   ·have cX:¬ ((j:Int)<(K:Int)):=fun h=>hgo ⟨ho,oM⟩;have Ho:=za ho;exact yT13a1
end
def zjt (w:kJ) (v:Vd) (e:Ending) (w':kJ):Prop:=
 ∃ (A:Option Addr) (n c:Nat) (A':Option Addr) (n' c':Nat),
  e=kP (kO #[v.code,v.asm.al,fQ A n c,fQ A' n' c',v.tr,v.ro])/\zM w' w.heap.size A n c A' n' c' v.asm/\Ext w w'
section
variable {w:kJ}{lo hi n c lo1 hi1 m d m' d' lo2 hi2 k c2:Nat}{A B B' C:Option Addr}{s t:Sys}{p:Aut}
theorem zdx {v:Vd}(HR:Hid (∀ W,Ext w W->kQ kN 112 #[kO #[s.al,s.st,fQ A n c],kO #[t.al,t.st,fQ C k c2],kO #[p.al,fQ B m d,fQ B' m' d'],(12:Int)] W (zdJ W v))) :
  kQ kN 42 #[kO #[s.al,s.st,fQ A n c],kO #[t.al,t.st,fQ C k c2],kO #[p.al,fQ B m d,fQ B' m' d']] w
   (zjt w v):=by
 obtain⟨I,U0⟩:∃ x,Hid ((((w.alloc (.cells #[s.al,s.st,fQ A n c] 38)).alloc (.cells #[t.al,t.st,fQ C k c2] 38)).alloc (.cells #[p.al,fQ B m d,fQ B' m' d'] 27)).alloc (.cells #[(0:Int),(0:Int),(),(),kU ⟨#[]⟩,(0:Int)] 42)=x):=⟨_,za rfl⟩;have j:Ext w I:=(((((dB _).alloc _).alloc _).alloc _).alloc _).trans (fV U0.out);obtain⟨L,M,O⟩:=zaa (((dB _).alloc _).trans (fV U0.out));have H:=eM U0.out;simp only [World.size_alloc] at H
 go_enter Tryz.func42,Tryz.ntmps42
 go_upto_region 1 with fail
 rw [U0.out] at *;have R:=L.cell;have D:=M.cell;have S:=O.cell;go_upto_region 2 with (first
  |(go_at_call 112;refine (HR.out I j).mono ?_;rintro e w1 ⟨b,h,k1,f,i,g,x,X,T,d1,X',G,d1',rfl,ho,y⟩;clear R D S))
 have Q:=(eO w1 42 #[v.code,v.asm.al,fQ b h k1,fQ f i g,v.tr,v.ro]).ext ((dB _).alloc (.cells #[x,fQ X T d1,fQ X' G d1'] 27));generalize U0:(w1.alloc _).alloc _=J at *;have l:=((dB w1).alloc (.cells #[v.code,v.asm.al,fQ b h k1,fQ f i g,v.tr,v.ro] 42)).trans (Ext.al_ U0);clear U0;have a:=H.ext (y.trans l);have Y:=Q.cell;have V:=a.cell;have U:=a.frozen;have q:=ho.ext l;have F:=zdD J (w.heap.size+1+1+1) (.int kA v.code) (.int kA v.asm.al) (fQ b h k1) (fQ f i g) (.string v.tr) (.int kA v.ro);have o:Blk ((((((J.setCell ⟨w.heap.size+1+1+1,0,gP⟩ v.code).setCell ⟨w.heap.size+1+1+1,1,gP⟩ v.asm.al).setCell ⟨w.heap.size+1+1+1,2,gP⟩ (fQ b h k1)).setCell ⟨w.heap.size+1+1+1,3,gP⟩ (fQ f i g)).setCell ⟨w.heap.size+1+1+1,4,gP⟩ v.tr).setCell ⟨w.heap.size+1+1+1,5,gP⟩ v.ro) (w.heap.size+1+1+1) 42 #[.int kA v.code,.int kA v.asm.al,fQ b h k1,fQ f i g,kU v.tr,.int kA v.ro]:=by
  simpa using (((((a.ab 0 (.int kA v.code)).ab 1 (.int kA v.asm.al)).ab 2 (fQ b h k1)).ab 3 (fQ f i g)).ab 4 (.string v.tr)).ab 5 (.int kA v.ro)
 have r:=(q.aq a F dM).less j.size;have z:=(j.trans (y.trans l)).frm F (fun k hk e=>oM);have u:=za (show zjt w v (kP (kO #[v.code,v.asm.al,fQ b h k1,fQ f i g,v.tr,v.ro])) _ from ⟨b,h,k1,f,i,g,rfl,r,z⟩);have E:=za o;clear a q ho r z F o;go_wp2_with fail
 have E:=E.out.cell;exact bodyPost_ret (v:=kO #[v.code,v.asm.al,fQ b h k1,fQ f i g,v.tr,v.ro]) (by simp [results,Tryz.results42,go_sem,E]) rfl u.out
theorem zia (hs:zR w lo hi A n s)(hp:zF w lo1 hi1 B m B' m' p)(ht:zR w lo2 hi2 C k t)(hif:iface s p t=(L:Int))(hn:n<=1000000)(hhi:hi<=w.heap.size) :
  kQ kN 42 #[kO #[s.al,s.st,fQ A n c],kO #[t.al,t.st,fQ C k c2],kO #[p.al,fQ B m d,fQ B' m' d']] w
   (zjt w (runT s t p L 12 0 ((zac L (zo s p L) [⟨#[]⟩] 11 [⟨#[]⟩]).map fun r=>(r,[⟨#[]⟩])))):=
 zdx (za (fun W (hW:Ext w W)=>spec_l12Run (K:=12) (hs.ext hW) (hp.ext hW) (ht.ext hW) hif hn (dW hhi hW.size) oM))
end
theorem runT_size (hL:L<64)(hst:zA [s,t]=kC)(hp:zj p=kC) (f:Nat):∀ (k:Nat) (o:Option (List ByteArray × List ByteArray)),zew L (zo s p L) o->(runT s t p L f k o).asm.size<=1048576/\(runT s t p L f k o).tr.size<=4000:=by
 induction f with
 |zero=>exact fun k o _=>⟨by show noA.size<=_;decide,dH _⟩
 |succ f ih =>
  intro k o ho
  match o with
  |none=>exact⟨by show noA.size<=_;decide,dH _⟩
  |some (rs,cs) =>
   obtain⟨b,a⟩:=ho rs cs rfl;rw [runT];split
   ·exact⟨zcP (zbe b a hL),dH _⟩
   ·split
    ·refine⟨by show noA.size<=_;decide,?_⟩;have h:=(zcW hst hp).2;have h2:16 ^ [s,t].length*12=3072:=sM;show (zY [s,t] p).size<=4000;omega
    ·exact ih _ _ (zew.ao b _)
theorem tot_cons (l:List Int) (r:List (List Int)):tot (l :: r)=l.length+tot r:=by simp [tot]
theorem zC.ab {w':kJ}{rows:List kL}{ls:List (List Int)}{l:List Int}(h:zC w base rows ls)(hr:rows[j]?=gO (fQ A l.length c))
  (hf:Frm (blk A) w w') (zkr:w'.ownsRow base 3 1 (fQ A l.length c) l.length (ints l)):zC w' base rows (ls.set j l):=by
 have d:j<rows.length:=(List.getElem?_eq_some_iff.1 hr).1;refine⟨by simp [h.1],fun i row m hi hm=>?_,h.2.2⟩
 by_cases hij:i=j
 ·subst hij;rw [hr] at hi;obtain rfl:=kS hi;rw [List.getElem?_set_self (by rw [<- h.1];exact d)] at hm;obtain rfl:=kS hm;exact zkr
 ·rw [List.getElem?_set_ne (fun e=>hij e.symm)] at hm;refine zf (h.2.1 i row m hi hm) hf (fun b hb hS=>?_);obtain⟨a,rfl,rfl⟩:=hS;exact h.2.2 i j row _ a.block hi hr hij hb rfl
def OwnLLh (w:kJ) (base hi:Nat) (v:kL) (ls:List (List Int)):Prop:=
 ∃ rows,w.ownsRow base 110 1 v ls.length rows/\zC w base rows ls/\∀ (i:Nat) (row:kL) (b:Nat),rows[i]?=gO row->row.ownBlock=gO b->b<hi
def AutH (w:kJ) (base hi:Nat) (A:Option Addr) (n c:Nat) (A':Option Addr) (n' c':Nat) (a:Aut):Prop:=
 OwnLLh w base hi (fQ A n c) a.next/\(∀ b,(fQ A n c).ownBlock=gO b->b<hi)/\n=a.next.length/\w.ownsRow base 4 1 (fQ A' n' c') n' (zae a.acc)/\(∀ b,(fQ A' n' c').ownBlock=gO b->b<hi)/\n'=a.acc.length
section
variable {w w':kJ}{base hi n c n' c':Nat}{A A':Option Addr}{a:Aut}
theorem zM.high (h:zM w base A n c A' n' c' a):AutH w base w.heap.size A n c A' n' c' a:=by
 obtain⟨⟨d,h1,h2⟩,g,f,j⟩:=h;exact⟨⟨d,h1,h2,fun i row b hr hb=>by
  obtain⟨l,_,ho⟩:=h2.row hr;exact (ho.lt b hb).2⟩,fun b hb=>(h1.lt b hb).2,g,f,fun b hb=>(f.lt b hb).2,j⟩
theorem AutH.own (h:AutH w base hi A n c A' n' c' a):zM w base A n c A' n' c' a:=by
 obtain⟨⟨b,h1,h2,_⟩,_,d,f,_,g⟩:=h;exact⟨⟨b,h1,h2⟩,d,f,g⟩
theorem AutH.frm (h:AutH w base hi A n c A' n' c' a)(hb:Frm S w w')(hS:∀ b,base<=b->b<hi->¬ S b):AutH w' base hi A n c A' n' c' a:=by
 obtain⟨⟨d,h1,h2,g⟩,j,m,f,k,o⟩:=h;exact⟨⟨d,zf h1 hb (fun b hb=>hS b (h1.lt b hb).1 (j b hb)),h2.frm hb (fun i row b hr hb=>by
  obtain⟨l,_,ho⟩:=h2.row hr;exact hS b (ho.lt b hb).1 (g i row b hr hb)),g⟩,j,m,zf f hb (fun b hb=>hS b (f.lt b hb).1 (k b hb)),k,o⟩
theorem AutH.ext (h:AutH w base hi A n c A' n' c' a)(hb:Ext w w'):AutH w' base hi A n c A' n' c' a:=h.frm hb (fun _ _ _ h=>h)
end
def aut0:Aut:=⟨0,[],[]⟩
theorem own_aut0 (w:kJ) (base:Nat):zM w base gP 0 0 gP 0 0 aut0:=⟨⟨[],World.ownsRow_nil _ _ _ _,zC.nil _ _⟩,rfl,World.ownsRow_nil _ _ _ _,rfl⟩
end Go.Proofs.YtckbjnndaaoddaaGreatDoor
