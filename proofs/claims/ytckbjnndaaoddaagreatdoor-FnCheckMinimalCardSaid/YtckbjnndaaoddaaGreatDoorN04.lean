/- spec.l6Chang -/
import Derived.Test.YtckbjnndaaoddaaGreatDoorN03
set_option maxHeartbeats 4000000
set_option maxRecDepth 100000
namespace Go.Proofs.YtckbjnndaaoddaaGreatDoor
open Go Go.RowKit
open Blk renaming new->dX
open Bool renaming and_eq_true->dI,and_false->iO,false_eq_true->iE
open Ext renaming drew->eV,refl->dB,trans->eJ
open Frm renaming setCell->dH
open List renaming all_eq_true->eH,cons_append->gP,eq_nil_of_length_eq_zero->dU,flatMap_cons->iJ,foldl_cons->iW,getD_eq_getElem?_getD->dF,getElem?_append_left->dJ,getElem?_append_right->dP,getElem?_eq_getElem->dD,getElem?_eq_none->eC,getElem?_of_mem->eB,getElem_mem->e9,length_append->dN,length_cons->fR,length_singleton->dZ,map_append->eK,map_cons->eY,mem_append->gZ,mem_of_getElem?->dC,mem_singleton->fF,replicate->dT,take_add_one->dO,take_length->eI
open Nat renaming add_mul->iL,div_div_eq_div_mul->iT,div_eq_of_lt->jD,le_refl->dE,le_trans->dL,lt_or_ge->eL,lt_trichotomy->eU,mul_assoc->iM,mul_comm->fO,mul_le_mul_right->jB,sub_self->fC,zero_add->dW,zero_le->dG
open Option renaming toList_some->eD
open Reads renaming af->eE
variable {A B B' C:Option Addr} {K L M N R c c2 d d' i k l m m' n p q x:Nat} {S:List Bool} {W w:World} {a:Aut} {ns start v:List Nat} {s t:Sys} {ss:List Sys}
theorem pickA (h:1<=(p:Int)->(x:Int)<p)(h0:(p:Int)<1->x=0):x<p+1:=by
 rcases eL 0 p with a|a
 ·have:=h oM;omega
 ·have:=h0 oM;omega
theorem e_filledA {M' E y:Nat} {w2 w4:World}(hb:Blk w4 E 117 #[(0:Int),(0:Int),(0:Int)])(hr:Rd w4 R M')(hd:Dr R w2 w4)(hE:w2.heap.size<=E)(hR:R<w2.heap.size)(hx:x<p+1)(hy:y<p+1)(hM:M'<=M) :
  ∃ E' x' y':Nat,Value.pointer (some E)=.pointer (some E')∧x'<p+1∧y'<p+1∧w2.heap.size<=E'∧Blk (((w4.setCell E x).setCell ⟨E,1,none⟩ (0:Int)).setCell ⟨E,2,none⟩ y) E' 117 #[x',(0:Int),y']∧Rd (((w4.setCell E x).setCell ⟨E,1,none⟩ (0:Int)).setCell ⟨E,2,none⟩ y) R M∧Dr R w2 (((w4.setCell E x).setCell ⟨E,1,none⟩ (0:Int)).setCell ⟨E,2,none⟩ y):=by
 have a:=zdW w4 E (.int .i64 x) (.int .i64 0) (.int .i64 y);refine⟨E,x,y,rfl,oM,oM,hE,by simpa using ((hb.ae 0 (.int .i64 x)).ae 1 (.int .i64 0)).ae 2 (.int .i64 y),(hr.frm a (fun k h1 h2=>oM)).more hM,?_⟩;exact ((hd.ag (p:=⟨E,0,none⟩) hE _).ag (p:=⟨E,1,none⟩) hE _).ag (p:=⟨E,2,none⟩) hE _
theorem zhH {a:Nat}  {es:List Edg} (h:Rd w R M)(hM:M<=900000000)(hs:zbt w R A n ⟨a,p,es⟩)(ha:a<64)(hp:p<=16)(hfew:Few (p+1) es)(hn:n<=L)(hL:L<=100000) :
  Calls Tryz.prog 182 #[.pointer (some R),.agg #[a,p,.slice A n c]] w (RetA R (M+10) (L+1) w):=by
 have bB:=h.lt;have bc:=hs.at_.2;have ce:=za hs.1;have aW:=za hfew;have bL:Sm a:=tM;obtain⟨w1,U0⟩:∃ x,Hid (((w.alloc (.cells #[a,p,.slice A n c] 38)).alloc (.cells #[(0:Int),(0:Int),()] 38)).alloc (.cells #[a,p,()] 38)=x):=⟨_,za rfl⟩;have bh:Ext w w1:=((((dB _).alloc _).alloc _).alloc _).trans (Ext.eq_ U0.out);obtain⟨bS,bZ,bG⟩:=zR (Ext.eq_ U0.out);have aU:=za bS;have aV:=za bZ;have aq:=za bG;have ar:=za bh;clear bS bZ bG bh hs hfew
 go_enter Tryz.func182,Tryz.ntmps182
 go_wp2_with fail
 rw [U0.out] at *;refine (zx (h.ext ar.out) oM).mono ?_;rintro e Y ⟨aa,rfl,-,-,V,aj⟩;have ck:=aq.out.lt;have aA:=aU.out.dr aj oM;have a2:=aV.out.dr aj oM;have ax:=aq.out.dr aj oM;have bf:=ar.out.dr.trans aj;have cS:∀ W,Dr R Y W->∀ q,W.cell? ⟨w.heap.size,q,none⟩=#[Value.int .i64 a,.int .i64 p,.slice A n c][q]?:=fun W hW=>(aA.dr hW oM).cell;go_upto_region 3 with fail
 go_cut [7] (fun s7 wx=>∃ E x y:Nat,s7=.pointer (some E)∧x<p+1∧y<p+1∧Y.heap.size<=E∧Blk wx E 117 #[x,(0:Int),y]∧Rd wx R (M+3)∧Dr R Y wx)
 case first =>
  refine tR (fun X=>Dr R Y X) [10] (Ord.app [0,1,2,4,5,6] (Ord.two 3 (Ord.two 7 (Ord.of [8,9,10]) 9 (Ord.of [7,8,10])) 9 (Ord.of [3,7,8,10]))) ?_;refine tQ ?_;refine zfC (fun K hK=>?_) (fun K hK=>?_)
  ·go_simp;refine (zx (n:=p) (V.ext ((dB _).drew)) oM).mono ?_;rintro e w3 ⟨x,rfl,hx,aQ,O,D⟩;have r:Dr R Y w3:=((Dr.refl R Y).drew).trans D;refine hK.out _ _ r ?_;refine pT ?_;refine zfC (fun K hK=>?_) (fun K hK=>?_)
   ·go_simp;refine (zx (n:=p) O oM).mono ?_;rintro e w4 ⟨y,rfl,hy,ak,G,T⟩;have j:=r.trans T;refine hK.out _ _ j ?_;refine pT ?_;refine tQ ?_;refine zB fun K hK=>?_;go_simp;refine hK.out _ _ (j.alloc _) ?_;refine pT ?_;refine tQ ?_;refine zN fun K hK=>?_;go_simp;refine hK.out _ _ ?_;refine zal ?_;go_wp2_with fail
    go_meet;exact⟨w4.heap.size,x,y,rfl,oM,oM,j.size,dX _ _ _,G.ext ((dB _).alloc _),j.alloc _⟩
   ·go_simp;have bj:=(dB w3).alloc (.cells #[(0:Int),(0:Int),(0:Int)] 117);have ab:=r.ext bj;have be:=O.ext bj;have a7:=O.lt;refine hK.out _ _ ab ?_;generalize U0:w3.alloc _=cp at *;have aJ:=Ext.bl_ U0;clear U0;refine pT ?_;refine zB fun K hK=>?_;go_simp;refine (zx (n:=p) be oM).mono ?_;rintro e w4 ⟨y,rfl,hy,ak,G,T⟩;have j:=ab.trans T;have S:=aJ.dr T oM;refine hK.out _ _ j ?_;refine pT ?_;refine tQ ?_;have cE:=S.cell;have fE:=S.frozen;refine zN fun K hK=>?_;go_simp;refine hK.out _ _ ?_;refine zal ?_;go_wp2_with fail
    go_meet;exact e_filledA S G j r.size V.lt (pickA hx aQ) (pickA hy ak) oM
  ·go_simp;have bi:=((dB Y).alloc (.cells #[(0:Int),(0:Int),(0:Int)] 117)).drew;have bC:Blk (Y.alloc (.cells #[(0:Int),(0:Int),(0:Int)] 117)).drew Y.heap.size 117 #[.int .i64 0,.int .i64 0,.int .i64 0]:=dX Y _ _;have bd:=V.ext bi;have a7:=V.lt;have am:Dr R Y (Y.alloc (.cells #[(0:Int),(0:Int),(0:Int)] 117)).drew:=bi.dr;refine hK.out _ _ am ?_;generalize (Y.alloc (.cells #[(0:Int),(0:Int),(0:Int)] 117)).drew=co at *;refine pT ?_;refine zB fun K hK=>?_;go_simp;refine (zx (n:=p) bd oM).mono ?_;rintro e w3 ⟨x,rfl,hx,aQ,O,D⟩;have r:=am.trans D;have aJ:=bC.dr D oM;refine hK.out _ _ r ?_;refine pT ?_;refine zB fun K hK=>?_;go_simp;refine (zx (n:=p) O oM).mono ?_;rintro e w4 ⟨y,rfl,hy,ak,G,T⟩;have j:=r.trans T;have S:=aJ.dr T oM;refine hK.out _ _ j ?_;refine pT ?_;refine tQ ?_;have cE:=S.cell;have fE:=S.frozen;refine zN fun K hK=>?_;go_simp;refine hK.out _ _ ?_;refine zal ?_;go_wp2_with fail
   go_meet;exact e_filledA S G j (dE _) a7 (pickA hx aQ) (pickA hy ak) oM
 case rest =>
  obtain⟨E,x,y,rfl,hx,hy,hE,aK,O,D⟩:=hcut;have bg:=bf.trans D;have aB:=aA.dr D oM;have a3:=a2.dr D oM;have aZ:=ax.dr D oM;have cl:=ax.lt;clear cS;have cS:=aB.cell;go_wp2_with fail
  refine (zY a bL _).mono ?_;rintro e w4 ⟨B,d,rfl,ae,Q⟩;have aN:=bg.ext Q;have aC:=aB.ext Q;have aE:=a3.ext Q;have ay:=aZ.ext Q;have au:=aK.ext Q;have G:=O.ext Q;have b9:=aK.lt;have bF:=zy a 6;have bb:=za (fun k (hk:k∈letters a 6)=>(zcd.1 hk).1);have an:=(eE ae);have b4:=D.size;have b5:=Q.size;have cb:=V.lt;clear cS ae Q aB a3 aZ aK O bg aU aV aq ar aA a2 ax bf V;generalize letters a 6=ls at *;go_upto_region 5 with fail
  go_cut [9] (fun s9 wx=>∃ b:Bool,s9=.bool b∧(b=true->0<ls.length)∧Rd wx R (M+4)∧Dr R w4 wx)
  case first =>
   by_cases hl:0<ls.length
   ·go_wp2_with fail
    refine (zx G oM).mono ?_;rintro e w5 ⟨z,rfl,-,-,af,J⟩;go_wp2_with fail
    go_meet;exact⟨_,rfl,fun _=>hl,af,J⟩
   ·go_wp2_with fail
    go_meet;exact⟨false,rfl,fun h=>by (first|cases h|omega),G.more oM,Dr.refl _ _⟩
  case rest =>
   obtain⟨b,rfl,aL,af,J⟩:=hcut;go_upto_if 42 with fail
   go_cut [] (fun wx=>∃ l:Nat,l<6∧Blk wx E 117 #[x,l,y]∧Blk wx w.heap.size 38 #[a,p,.slice A n c]∧Blk wx (w.heap.size+1) 38 #[(0:Int),(0:Int),()]∧Blk wx (w.heap.size+1+1) 38 #[a,p,()]∧Rd wx R (M+5)∧Dr R w wx)
   case first =>
    have aD:=aC.dr J oM;have aF:=aE.dr J oM;have az:=ay.dr J oM;have av:=au.dr J oM;have aO:=aN.trans J;clear aC aE ay au aN G;cases b
    ·go_wp2_with fail
     go_meet;exact⟨0,oM,av,aD,aF,az,af.more oM,aO⟩
    ·have cg:=aL rfl;have bD:(1:Int)<=(ls.length:Int):=oM;clear aL;go_wp2_with fail
     refine (zx af oM).mono ?_;rintro e w6 ⟨z,rfl,hz,-,bJ,U⟩;have cm:=hz bD;have bl:z<ls.length:=oM;obtain⟨ad,l,rfl,_,_,hl,ch⟩:=((an.dr J oM).dr U oM).nat bl;have ba:=bb.out l (dC hl.out);have bw:=aD.dr U oM;have bx:=aF.dr U oM;have bu:=az.dr U oM;have aw:=av.dr U oM;have bM:=aO.trans U;have cE:=aw.cell;have fE:=aw.frozen;have hf:=dH w6 E 1 (.int .i64 (l:Nat));clear hz aD aF az av aO;go_wp2_with fail
     go_meet;exact⟨l,ba,by simpa using aw.ae 1 (.int .i64 (l:Nat)),bw.frm hf oM,bx.frm hf oM,bu.frm hf oM,(bJ.frm hf (fun k h1 h2=>oM)),bM.ag (by dsimp only;omega) _⟩
   case rest =>
    obtain⟨l,hl,bE,bS,bZ,bG,bK,a8⟩:=hcut;clear aC aE ay au aN G J af bb an bF aL;obtain⟨wB,bN⟩:∃ wB,wB=wc:=⟨_,rfl⟩;subst bN;have f:Acc w wB wB R (w.heap.size+1+1) (M+5) a p (.slice none 0 0) []:=⟨bG,World.ownsRow_nil _ _ _ _,bK,a8,Frm.refl _ _,bB,a8.size,oM⟩;have ca:=bE.lt;have cc:=bG.lt;clear bG;go_wp2_with fail
    go_loopw [9,10] (fun v i wr=>∃ (b:Bool) (k:Nat),k<=n∧i=.int .i64 k∧v=.bool b∧∃ (u:Value) (m:List Edg),Acc w wB wr R (w.heap.size+1+1) (M+5) a p u m∧m.length+b.toNat<=k+1∧Hid (Few (p+1) m)) (fun _ i _=>n - (intOf i).toNat)
    case atStart=>exact⟨b,0,dG _,rfl,rfl,_,[],f,by cases b<;>decide,few_nil (p+1)⟩
    case round =>
     clear f;obtain⟨b,k,hk,rfl,rfl,u,m,f,o,F⟩:=hrel;have I:=bS.frm f.fr oM;have t:=bE.frm f.fr oM;have cS:=I.cell;have ao:(0<=(x:Int)∧(x:Int)<((p+1:Nat):Int))∧(0<=(l:Int)∧(l:Int)<6)∧(0<=(y:Int)∧(y:Int)<((p+1:Nat):Int)):=oM
     by_cases hlt:k<n
     ·obtain⟨b0,o0,C,rfl,ci,cf,he,c0,c1,c2⟩:=(bc.dr f.dr oM).az hlt;have a9:=za (aW.out C (dC he.out));go_upto_region 11 with fail
      clear cS
      go_cut [67] (fun s wx=>∃ q:Bool,s=.bool q∧(q=true->b=true)∧Ext wr wx)
      case first =>
       have cS:=I.cells;have cE:=t.cells;have C0:∀ W,Ext wr W->W.cell? ⟨b0,o0+k*3,none⟩=some (.int .i64 C.fr):=fun W hW=>hW.aa c0;have C1:∀ W,Ext wr W->W.cell? ⟨b0,o0+k*3+1,none⟩=some (.int .i64 C.le):=fun W hW=>hW.aa c1;have C2:∀ W,Ext wr W->W.cell? ⟨b0,o0+k*3+2,none⟩=some (.int .i64 C.ta):=fun W hW=>hW.aa c2;have bP:=dB wr;cases b
       ·go_wp2_with fail
        go_quiet (fail)
        go_wp2_with fail
        go_meet;exact⟨false,rfl,fun h=>h,(dB _).drewN _⟩
       ·go_wp2_with fail
        go_region_held3 (fun W=>Ext wr W) (first|assumption|(refine eV ?_;assumption)|(refine eJ ?_ aM;assumption)|(refine eJ ?_ aM;refine eV ?_;assumption)) ((go_at_call 261;refine (zdw (a:=⟨x,l,y⟩) (b:=C)).mono (mQ fun w5 cj=>?_)))
        go_wp2_with fail
        go_meet;exact⟨_,rfl,fun _=>by trivial,aM⟩
      case rest =>
       obtain⟨q,rfl,hq,H⟩:=hcut;replace f:=f.ext H;replace t:=t.ext H;go_upto_if 67 with fail
       go_cut [9] (fun s9 wx=>∃ (b:Bool) (u:Value) (m:List Edg),s9=.bool b∧Acc w wB wx R (w.heap.size+1+1) (M+5) a p u m∧m.length+b.toNat<=k+1∧Hid (Few (p+1) m))
       case first =>
        cases q
        ·go_wp2_with fail
         go_meet;exact⟨b,u,m,rfl,f,o,F⟩
        ·obtain rfl:=hq rfl;have cG:=f.blk.cell;have cE:=t.cell;simp only [Bool.toNat_true] at o;clear hq;go_wp2_with (at_builtin;refine zQ wB _ rfl _ _ _ rfl 117 _ 3 24 Tryz.underlying36 zbb rfl dM u m.length (zu m) _ _ rfl rfl f.fr.size f.own rfl (by simp [Value.oneCell']) lM oM ?_;intro g cap w3 zjp hg3 hat3 hlt3;obtain⟨h1,h2,h3⟩:=f.push (e:=⟨x,l,y⟩) zjp hg3 hat3;have a5:=h1.out)
         go_meet;exact⟨false,_,_,rfl,h3,by simp;omega,zgr F.out ao⟩
       case rest =>
        clear f o F I t c0 c1 c2 H hq;obtain⟨b,u,m,rfl,f,o,F⟩:=hcut;obtain⟨wr,aP⟩:∃ wr,wr=wc:=⟨_,rfl⟩;subst aP;have I:=bS.frm f.fr oM;have t:=bE.frm f.fr oM;obtain⟨c0,c1,c2⟩:=(bc.dr f.dr oM).edge2 he.out;go_upto_region 14 with fail
        go_cut [83] (fun s wx=>∃ q:Bool,s=.bool q∧Ext wr wx)
        case first =>
         have cS:=I.cells;have cE:=t.cells;have C0:∀ W,Ext wr W->W.cell? ⟨b0,o0+k*3,none⟩=some (.int .i64 C.fr):=fun W hW=>hW.aa c0;have C1:∀ W,Ext wr W->W.cell? ⟨b0,o0+k*3+1,none⟩=some (.int .i64 C.le):=fun W hW=>hW.aa c1;have C2:∀ W,Ext wr W->W.cell? ⟨b0,o0+k*3+2,none⟩=some (.int .i64 C.ta):=fun W hW=>hW.aa c2;have bP:=dB wr;cases b
         ·go_wp2_with fail
          go_quiet (fail)
          go_wp2_with fail
          go_meet;exact⟨false,rfl,(dB _).drewN _⟩
         ·go_wp2_with fail
          refine sR (fun X=>Ext wr X) [0,1,2,3,4,5,6,7,8,9] (fun hS=>?_);refine sQ ?_;have HE:=eq_edge (x:Int) (l:Int) (y:Int) C.fr C.le C.ta;refine seq_read (v:=.bool (((x:Int)==C.fr)&&(((l:Int)==C.le)&&((y:Int)==C.ta)))) rfl rfl rfl (fun X hX=>?_) aM ?_
          ·go_simp
          ·clear HE;refine pT ?_;generalize (((x:Int)==C.fr)&&(((l:Int)==C.le)&&((y:Int)==C.ta)))=q;refine sQ ?_;refine zcs ?_;go_wp2_with fail
           go_meet;exact⟨_,rfl,(dB _).drew⟩
        case rest =>
         obtain⟨q,rfl,H⟩:=hcut;replace f:=f.ext H;replace I:=I.ext H;replace c0:=H.aa c0;replace c1:=H.aa c1;replace c2:=H.aa c2;clear t H;go_upto_if 83 with fail
         go_cut [9] (fun s9 wx=>∃ b':Bool,s9=.bool b'∧b'.toNat<=b.toNat∧wc=wx)
         case first =>
          cases q
          ·go_wp2_with fail
           go_meet;exact⟨b,rfl,dE _,rfl⟩
          ·go_wp2_with fail
           go_meet;exact⟨false,rfl,dG _,rfl⟩
         case rest =>
          obtain⟨b',rfl,cd,bO⟩:=hcut;subst bO
          by_cases hgo:k=aa
          ·have bH:((k:Int) != (aa:Int))=false:=by simp [hgo]
           have b7:=za hgo;clear hgo;go_wp2_with fail
           go_roundw
           case rel=>exact⟨b',k+1,oM,gM,rfl,u,m,f,oM,F⟩
           case measure=>simp [intOf];omega
          ·have bH:((k:Int) != (aa:Int))=true:=by simp;omega
           clear hgo;obtain⟨wr,aP⟩:∃ wr,wr=wc:=⟨_,rfl⟩;subst aP;have cS:=I.cells;have cG:=fun W (hW:Ext wr W)=>(f.blk.ext hW).cell;have C0:∀ W,Ext wr W->W.cell? ⟨b0,o0+k*3,none⟩=some (.int .i64 C.fr):=fun W hW=>hW.aa c0;have C1:∀ W,Ext wr W->W.cell? ⟨b0,o0+k*3+1,none⟩=some (.int .i64 C.le):=fun W hW=>hW.aa c1;have C2:∀ W,Ext wr W->W.cell? ⟨b0,o0+k*3+2,none⟩=some (.int .i64 C.ta):=fun W hW=>hW.aa c2;go_wp2_with fail
           refine tR (fun X=>Ext wr X) [8,10] (Ord.of [0,1,2,3,4,5,6,7,8,9,10]) ?_;refine tQ ?_;refine zB fun K hK=>?_;go_simp;refine hK.out _ _ ((dB _).drew.alloc _) ?_;refine pT ?_;refine zN fun K hK=>?_;refine zaE wB wr.drew _ _ _ rfl 117 _ 3 24 Tryz.underlying36 zbb rfl dM u m.length (zu m) _ _ rfl rfl f.fr.size f.own rfl (by simp [Value.oneCell']) lM oM ?_;intro g cap w3 zjp hg3 hat3 hlt3;refine hK.out _ _ ?_;refine pT ?_;refine tQ ?_;obtain⟨h1,h2,h3⟩:=(f.ext ((dB _).drew)).push (e:=C) (W':=w3) zjp hg3 hat3;have a5:=h1.out;refine zN fun K hK=>?_;go_simp;refine hK.out _ _ ?_;refine zal ?_;go_wp2_with fail
           go_roundw
           case rel=>exact⟨b',k+1,oM,gM,rfl,_,_,h3,by simp;omega,zgr F.out a9.out⟩
           case measure=>simp [intOf];omega
     ·obtain rfl:k=n:=oM;go_upto_if 97 with fail
      go_cut [] (fun wx=>∃ (u:Value) (m:List Edg),Acc w wB wx R (w.heap.size+1+1) (M+5) a p u m∧m.length<=k+1∧Hid (Few (p+1) m))
      case first =>
       cases b
       ·go_wp2_with fail
        go_meet;exact⟨u,m,f,by simpa using o,F⟩
       ·have cG:=f.blk.cell;have cE:=t.cell;simp only [Bool.toNat_true] at o;go_wp2_with (at_builtin;refine zQ wB _ rfl _ _ _ rfl 117 _ 3 24 Tryz.underlying36 zbb rfl dM u m.length (zu m) _ _ rfl rfl f.fr.size f.own rfl (by simp [Value.oneCell']) lM oM ?_;intro g cap w3 zjp hg3 hat3 hlt3;obtain⟨h1,h2,h3⟩:=f.push (e:=⟨x,l,y⟩) zjp hg3 hat3;have a5:=h1.out)
        go_meet;exact⟨_,_,h3,by simp;omega,zgr F.out ao⟩
      case rest =>
       clear f o F cS I t;obtain⟨u,m,f,o,F⟩:=hcut;obtain⟨A',n',c',rfl⟩:=f.form;obtain⟨rfl,_⟩:=f.reads;have bY:=ziG f.own;have cG:=f.blk.cell;have a4:=bZ.frm f.fr oM;have cz:=a4.cell;have cn:=bZ.lt;have fz:=a4.frozen;obtain⟨f1,f2,f3⟩:=f.fin (Z:=w.heap.size+1) oM oM (.int .i64 a) (.int .i64 p) (.slice A' m.length c');have aX:=za (show RetA R (M+10) (L+1) w (.returned (.agg #[a,p,.slice A' m.length c'])) _ from ⟨⟨a,p,m⟩,A',m.length,c',rfl,f1,oM,f2.more oM,f3⟩);clear f1 f2 f3;go_wp2_with fail
       exact bodyPost_ret (v:=.agg #[a,p,.slice A' m.length c']) (by simp [results,Tryz.results182,go_sem,cz]) rfl aX.out
theorem zev (h:Rd w R M)(hM:M<=900000000)(hs:zbt w R A n s)(hf:Fair s)(hn:n<=L)(hL:L<=100000) :
  Calls Tryz.prog 182 #[.pointer (some R),.agg #[s.al,s.st,.slice A n c]] w (RetA R (M+10) (L+1) w):=by
 obtain⟨al,st,j⟩:=s;obtain⟨a,p,b,g,d,i,f⟩:=hf;simp only at b d f;subst b;subst d;exact zhH h hM hs g i f hn hL
theorem yN04a1 {P:Prop}(h:P:=by
 go_wp2_with (at_builtin;refine zU w wr rfl _ _ _ rfl 9 _ 1 16 Tryz.underlying88 zo rfl dM u5 _ _ _ _ rfl rfl zjg zje rfl (zck _) lM oM ?_;intro v' w1 hext1 zjn hg1 hat1)
 go_roundw
 case rel=>exact⟨k+1,k+1,l++[s.extract m k],oM,gM,oM,gM,by simp;omega,by simpa [zaa] using zjn,hall.out,aM⟩
 case measure=>simp [intOf];omega
 ):P:=h
theorem spec_l19CutC {s:ByteArray} (hs:s.size<=1000000) :
  Calls Tryz.prog 250 #[s,.int .u8 44] w (RetStrs s.size (s.size+1) w):=by
 go_enter Tryz.func250,Tryz.ntmps250
 go_wp2_with fail
 go_loopw [5,6,7] (fun v f i wr=>∃ (k m:Nat) (l:List ByteArray),k<=s.size+1∧i=.int .i64 k∧m<=k∧f=.int .i64 m∧l.length<=k∧wr.ownsRow w.heap.size 9 1 v l.length (zaa l)∧Hid (∀ x∈l,x.size<=s.size)∧Ext w wr) (fun _ _ i _=>s.size+1 - (intOf i).toNat)
 case atStart=>exact⟨0,0,[],dG _,rfl,dE _,rfl,dE _,World.ownsRow_lit w #[] 0 (dE _) lM rfl,(fun x hx=>by cases hx),(dB _).alloc _⟩
 case round =>
  obtain⟨k,m,l,q,rfl,t,rfl,r,zje,a,zjg⟩:=hrel
  by_cases hle:k<=s.size
  ·have j:(k:Int)<=(s.size:Int):=oM;have n:(m:Int)<=(k:Int):=oM;have g:=za (show (s.extract m k).size<=s.size by rw [ByteArray.size_extract];omega);have hall:=za (show ∀ x∈l++[s.extract m k],x.size<=s.size from fun x hx=>by
    rcases List.mem_append.1 hx with b|b
    ·exact a.out x b
    ·rw [List.mem_singleton.1 b];exact g.out)
   by_cases he:k=s.size
   ·have d:((k:Int)==(s.size:Int))=true:=by simp [he]
    have o:=za he;clear he;exact yN04a1
   ·have d:((k:Int)==(s.size:Int))=false:=by rw [beq_eq_false_iff_ne];omega
    have h:k<s.size:=oM;have p:=zcr s k h;cases hc:((s[k].toNat:Int)==44)
    ·go_wp2_with fail
     go_roundw
     case rel=>exact⟨k+1,m,l,oM,gM,oM,rfl,oM,zje,a,zjg⟩
     case measure=>simp [intOf];omega
    ·exact yN04a1
  ·obtain rfl:k=s.size+1:=oM;obtain⟨A,c,rfl⟩:=zg zje;go_wp2_with fail
   go_ret;exact⟨A,_,c,l,rfl,rfl,zje,a.out,oM,zjg⟩
def RetIntsS (N:Nat) (w:World) (e:Ending) (w':World):Prop:=∃ (A:Option Addr) (n c:Nat) (l:List Int) (ok:Bool),e=.returned (.tuple #[.slice A n c,.bool ok])∧n=l.length∧w'.ownsRow w.heap.size 3 1 (.slice A n c) n (ints l)∧n<=N∧Ext w w'
theorem spec_l3Parse {s:ByteArray} (hs:s.size<=1000) :
  Calls Tryz.prog 252 #[s] w (RetIntsS (s.size+1) w):=by
 have g:=World.ownsRow_lit (base:=w.heap.size) (e:=3) (size:=1) w #[] 0 (dE _) lM rfl
 go_enter Tryz.func252,Tryz.ntmps252
 go_upto_region 2 with fail
 obtain⟨K,hK⟩:∃ K,Hid (K=w.heap.size):=⟨_,za rfl⟩;rw [← hK.out] at g ⊢;generalize U0:w.alloc _=w1 at *;have r:=Ext.al_ U0;clear U0;cases he:s.toList.isEmpty
 ·go_wp2_with fail
  refine (spec_l19CutC (s:=s) oM).mono ?_;rintro e T ⟨B,m,d,l,rfl,o,t,n,J,c⟩;have q:=r.trans c;have h:=zh g c;have z:=za n;have M:=za o;have G:m<=s.size+1:=J;clear n o g he J;go_wp2_with fail
  go_loopw [4,6] (fun v iv wr=>∃ (k:Nat) (f:List Int),k<=m∧iv=.int .i64 (k:Nat)∧wr.ownsRow K 3 1 v k (ints f)∧Hid (f.length=k)∧wr.ownsRow w1.heap.size 9 1 (.slice B m d) m (zaa l)∧Ext w wr) (fun _ iv _=>m - (intOf iv).toNat)
  case atStart=>exact⟨0,[],dG _,rfl,h,za rfl,t,q⟩
  case round =>
   clear h t q c;obtain⟨k,f,S,rfl,p,i,a,u⟩:=hrel;obtain⟨y,C,rfl⟩:=zg p
   by_cases hlt:k<m
   ·obtain⟨R,rfl,-,-⟩:=zag a oM;obtain⟨Q,L,D,-,-,I,F⟩:=(eE a).str hlt;obtain rfl:=Option.some.inj D;rw [zX,dW] at F;have E:=za (z.out L (dC I.out));go_wp2_with fail
    refine (zdu (s:=L) (oH E.out)).mono ?_;rintro e U ⟨x,O,rfl,rfl⟩;cases O
    ·go_wp2_with fail
     exact bodyPost_ret (v:=.tuple #[(),.bool false]) (by simp [results,Tryz.results252,go_sem]) rfl ⟨none,0,0,[],false,rfl,rfl,World.ownsRow_nil _ _ _ _,oM,u⟩
    ·have H:=u.size;go_wp2_with (at_builtin;refine zQ w wr rfl _ _ _ rfl 3 _ 1 8 Tryz.underlying110 zS rfl dM (.slice y k C) k (ints f) _ _ rfl rfl H (by rw [← hK.out];exact p) rfl (by simp [Value.oneCell']) lM oM ?_;intro g5 cap5 w5 zjq hg5 hat5 hlt5)
     go_roundw
     case rel=>exact⟨k+1,f++[x],oM,gM,by rw [hK.out];simpa [ints] using zjq,za (by have:=i.out;simp;omega),zf a (Frm.ab hg5) (fun b hb hS=>zaI a p dM hb hS),u.grown hg5 (fun j hj=>by have:=(p.lt j hj).1;have:=hK.out;omega)⟩
     case measure=>simp [intOf];omega
   ·obtain rfl:k=m:=oM;go_wp2_with fail
    exact bodyPost_ret (v:=.tuple #[.slice y k C,.bool true]) (by simp [results,Tryz.results252,go_sem]) rfl ⟨y,k,C,f,true,rfl,i.out.symm,by rw [← hK.out];exact p,G,u⟩
 ·go_wp2_with fail
  exact bodyPost_ret (v:=.tuple #[.slice (some K) 0 0,.bool true]) (by simp [results,Tryz.results252,go_sem]) rfl ⟨some ⟨w.heap.size,0,none⟩,0,0,[],true,by rw [hK.out],rfl,by rw [hK.out] at g;exact g,oM,r⟩
def ziI (k n:Nat) (row:List Int):Bool:=decide (row.length=k)&&row.all fun q=>decide (0<=q∧q<n)
def zi (a:Aut):Bool:=
 decide (0<=a.al∧a.al<=63)&&(decide (1<=a.next.length∧a.next.length<=12)&&(decide (a.acc.length=a.next.length)&&a.next.all (ziI (letters a.al.toNat 6).length a.next.length)))
theorem zif (lo hi:Nat) (A:Option Addr) (n c:Nat) (l:List Int) (k m:Nat) (w:World)(h:Reads w lo hi 1 A n (ints l))(hk:k<=100) (_hm:m<=100) :
  Calls Tryz.prog 171 #[.slice A n c,k,m] w fun e w'=>e=.returned (.bool (ziI k m l))∧w=w':=by
 have j:=h.len;have f:l.length=n:=by have:=h.length;rw [zdq] at this;omega
 have a:=za f;clear f
 by_cases he:n=k
 ·subst he
  go_enter Tryz.func171,Tryz.ntmps171
  go_wp2
  go_loop [7] (fun i=>∃ k:Nat,k<=n∧i=.int .i64 k∧Hid ((l.take k).all (fun q=>decide (0<=q∧q<m))=true)) (fun i=>n - (intOf i).toNat)
  case atStart=>exact⟨0,dG _,rfl,rfl⟩
  case round =>
   obtain⟨k,hk,rfl,hall⟩:=hrel
   by_cases hlt:k<n
   ·obtain⟨g,x,rfl,_,_,d,b⟩:=h.int hlt
    by_cases h0:x<0
    ·go_wp2;go_ret;exact⟨zj (by rw [ziI,zaH d.out (by simp;omega),iO]),rfl⟩
    ·by_cases h1:(m:Int)<=x
     ·go_wp2;go_ret;exact⟨zj (by rw [ziI,zaH d.out (by simp;omega),iO]),rfl⟩
     ·go_wp2
      go_round
      case rel=>exact⟨k+1,oM,gM,zch d.out hall.out (by simp;omega)⟩
      case measure=>simp [intOf];omega
   ·obtain rfl:k=n:=oM;go_wp2;go_ret;exact⟨zj (by rw [ziI,zdF (oH a.out) hall.out,a.out];simp),rfl⟩
 ·go_enter Tryz.func171,Tryz.ntmps171
  go_wp2;go_ret;exact⟨zj (by rw [ziI,a.out];simp [he]),rfl⟩
theorem zI (lo hi:Nat) (A:Option Addr) (n c:Nat) (A':Option Addr) (n' c':Nat) (a:Aut) (w:World)(h:zH w lo hi A n A' n' a) :
  Calls Tryz.prog 79 #[.agg #[a.al,.slice A n c,.slice A' n' c']] w fun e w'=>e=.returned (.bool (zi a))∧Ext w w':=by
 have u:=h.n1;have v:=h.n2;have o:=za (show zi a=(decide (0<=a.al∧a.al<=63)&&(decide (1<=n∧n<=12)&&(decide (n'=n)&&a.next.all (ziI (letters a.al.toNat 6).length n)))) by unfold zi;rw [← u,← v]);have M:=h.1.len;have O:=h.2.2.len;clear u v
 by_cases hal:0<=a.al∧a.al<=63
 ·have g:=za (show decide (0<=a.al∧a.al<=63)=true by simp;omega)
  by_cases hn:1<=n∧n<=12
  ·have I:decide ((n:Int)<1)=false:=by simp;omega
   have J:decide (12<(n:Int))=false:=by simp;omega
   by_cases hn':n'=n
   ·subst hn';obtain⟨al,b⟩:∃ al:Nat,Hid (a.al=al):=⟨a.al.toNat,by unfold Hid;omega⟩;have r:Sm al:=by have:=b.out;unfold Sm;omega
    have Q:=zy al 6;rw [b.out];rw [b.out] at g;rw [b.out,Int.toNat_natCast] at o;clear hal;have x:=fun W (hW:Ext w W)=>h.1.ext hW;have D:=za x;clear x
    go_enter Tryz.func79,Tryz.ntmps79
    go_wp2_with (go_at_call 142;refine (zW _ _).mono ?_;rw [g.out];rintro e w' ⟨rfl,rfl⟩)
    go_loopw [4] (fun i wr=>∃ k:Nat,k<=n'∧i=.int .i64 k∧Hid ((a.next.take k).all (ziI (letters al 6).length n')=true)∧Ext (w.alloc (.cells #[Value.int .i64 al,Value.slice A n' c,Value.slice A' n' c'] 27)) wr)
     (fun i _=>n' - (intOf i).toNat)
    case atStart=>exact⟨0,dG _,rfl,rfl,dB _⟩
    case round =>
     obtain⟨k,X,rfl,hall,zjg⟩:=hrel;have y:∀ W,Ext wr W->∀ j,W.cell? ⟨w.heap.size,j,none⟩=#[Value.int .i64 al,Value.slice A n' c,Value.slice A' n' c'][j]?:=fun W hW=>zcz (zjg.trans hW)
     by_cases hlt:k<n'
     ·obtain⟨E,C,G,l,rfl,R,L,z,f,q⟩:=(D.out wr (((dB _).alloc _).trans zjg)).row hlt;have H:∀ W,Ext wr W->W.cell? (E.add k)=some (.slice C l.length G):=fun W hW=>hW.aa f;have T:=dB wr;have s:∀ W,Ext wr W->Ext w W:=fun W hW=>(((dB _).alloc _).trans zjg).trans hW;have p:=za s;clear s;cases hrb:ziI (letters al 6).length n' l
      ·have d:=za hrb;clear hrb;go_wp2_with fail
       go_region_held3 (fun W=>Ext wr W) (first|assumption|(refine eV ?_;assumption)|(refine eJ ?_ aM;assumption)|(refine eJ ?_ aM;refine eV ?_;assumption)) (first|(go_at_call 134;refine (zY _ r _).mono ?_;rintro e U ⟨B,F,rfl,t,m⟩)|(go_at_call 171;refine (zif _ _ _ _ _ _ _ _ _ (q.ext ?_) oM oM).mono ?_;assumption;rw [d.out];rintro e V ⟨rfl,rfl⟩))
       go_wp2;go_ret;exact⟨zj (by rw [o.out,zaH z.out d.out];simp),p.out _ aM⟩
      ·have d:=za hrb;clear hrb;go_wp2_with fail
       go_region_held3 (fun W=>Ext wr W) (first|assumption|(refine eV ?_;assumption)|(refine eJ ?_ aM;assumption)|(refine eJ ?_ aM;refine eV ?_;assumption)) (first|(go_at_call 134;refine (zY _ r _).mono ?_;rintro e U ⟨B,F,rfl,t,m⟩)|(go_at_call 171;refine (zif _ _ _ _ _ _ _ _ _ (q.ext ?_) oM oM).mono ?_;assumption;rw [d.out];rintro e V ⟨rfl,rfl⟩))
       go_wp2;go_roundw
       case rel=>exact⟨k+1,oM,gM,zch z.out hall.out d.out,zjg.trans aM⟩
       case measure=>simp [intOf];omega
     ·obtain rfl:k=n':=oM;go_wp2;go_ret;exact⟨zj (by rw [o.out,zdF (oH h.n1) hall.out,g.out];simp;omega),((dB _).alloc _).trans zjg⟩
   ·have S:((n':Int) != (n:Int))=true:=by simp;omega
    go_enter Tryz.func79,Tryz.ntmps79
    go_wp2_with (go_at_call 142;refine (zW _ _).mono ?_;rw [g.out];rintro e w' ⟨rfl,rfl⟩)
    go_ret;exact⟨zj (by rw [o.out];simp [hn']),(dB _).alloc _⟩
  ·go_enter Tryz.func79,Tryz.ntmps79
   go_wp2_with (go_at_call 142;refine (zW _ _).mono ?_;rw [g.out];rintro e w' ⟨rfl,rfl⟩)
   all_goals go_ret
   all_goals exact⟨zj (by rw [o.out];simp [hn]),(dB _).alloc _⟩
 ·go_enter Tryz.func79,Tryz.ntmps79
  have g:decide (0<=a.al∧a.al<=63)=false:=by simp;omega
  go_wp2_with (go_at_call 142;refine (zW _ _).mono ?_;rw [g];rintro e w' ⟨rfl,rfl⟩)
  go_ret;exact⟨zj (by rw [o.out];simp;omega),(dB _).alloc _⟩
theorem autValid_few (h:zi a=true):∃ al:Nat,a.al=al∧al<64∧1<=a.next.length∧a.next.length<=12∧a.acc.length=a.next.length∧∀ l∈a.next,l.length=(letters al 6).length∧∀ q∈l,0<=q∧q<a.next.length:=by
 simp only [zi,dI,decide_eq_true_eq,eH,ziI] at h;obtain⟨f,b,d,c⟩:=h;refine⟨a.al.toNat,oM,oM,b.1,b.2,d,fun l hl=>⟨(c l hl).1,fun q hq=>(c l hl).2 q hq⟩⟩
def RetFmtA (a:Aut) (w:World) (e:Ending) (w':World):Prop:=∃ t:ByteArray,e=.returned (.string t)∧(zi a=false->t.size=0)∧Ext w w'
theorem zen {lo hi:Nat}   {A':Option Addr} {n' c':Nat}  (h:zH w lo hi A n A' n' a) :
  Calls Tryz.prog 253 #[.agg #[a.al,.slice A n c,.slice A' n' c']] w (RetFmtA a w):=by
 have HV:=za (fun W (hW:Ext w W)=>zI lo hi A n c A' n' c' a W ⟨h.1.ext hW,h.2.1,h.2.2.ext hW⟩);cases h1:zi a
 ·have J:=za h1;clear h1 h
  go_enter Tryz.func253,Tryz.ntmps253
  go_wp2_with (go_at_call 79;refine (HV.out _ ((dB _).alloc _)).mono ?_;rw [J.out];rintro e w1 ⟨rfl,H⟩)
  go_ret;exact⟨_,rfl,fun _=>rfl,((dB _).alloc _).trans H⟩
 ·obtain⟨al,ha,L,R,S,M,b⟩:=autValid_few h1;have J:=za h1;have Hn:=za h.n1;have am:=za h.n2;have Ha:=za ha;have f:=za b;have HS:=za (fun W (hW:Ext w W)=>h.1.ext hW);have HB:=za (fun W (hW:Ext w W)=>h.2.2.ext hW);have e1:n=n':=by have:=h.n1;have:=h.n2;omega
  subst e1;have aw:n<=12:=oH h.n1;clear h1 ha R S M b h
  go_enter Tryz.func253,Tryz.ntmps253
  go_wp2_with fail
  refine (HV.out _ ((dB _).alloc _)).mono ?_;rw [J.out];rintro e w1 ⟨rfl,H⟩;have b1:=zbP H;rw [Ha.out] at b1;have o:=((dB w).alloc _).trans H;have cb:=b1.cells;have X:=dB w1;clear H;go_wp2_with fail
  refine (zbF L).mono ?_;rintro e w2 ⟨s,rfl,F,I⟩;go_wp2_with fail
  go_loopw [3,4] (fun v i wr=>∃ (k:Nat) (t:ByteArray),k<=n∧i=.int .i64 k∧v=.string t∧t.size<=20+100*k∧Ext w1 wr) (fun _ i _=>n - (intOf i).toNat)
  case atStart=>exact⟨0,s,dG _,rfl,rfl,oM,I⟩
  case round =>
   clear I F X;obtain⟨k,t,hk,rfl,rfl,ht,zjg⟩:=hrel;have C:=cb wr zjg
   by_cases hlt:k<n
   ·obtain⟨ad,Ak,ck,l,rfl,_,_,hl,g,E⟩:=(HS.out wr (o.trans zjg)).row hlt;obtain⟨an,x,rfl,_,_,-,O⟩:=(HB.out wr (o.trans zjg)).bool hlt;have hq:=za (f.out l (dC hl.out));have au:l.length<=6:=by have:=hq.out.1;have:=zy al 6;omega
    have B:=za (fun W (hW:Ext wr W)=>E.ext hW);have z:=za (fun W (hW:Ext wr W)=>hW.aa g);have y:=za (fun W (hW:Ext wr W)=>cb W (zjg.trans hW));have r:=dB wr;clear E;go_upto_if 24 with fail
    go_cut [5] (fun s5 wx=>∃ m:ByteArray,s5=.string m∧m.size=2∧Ext wr wx)
    case first =>
     cases x
     ·go_wp2_with fail
      go_meet;exact⟨{ data:=#[32,45] },rfl,rfl,r⟩
     ·go_wp2_with fail
      go_meet;exact⟨{ data:=#[32,43] },rfl,rfl,r⟩
    case rest =>
     clear g O C r;obtain⟨m,rfl,Q,p⟩:=hcut;obtain⟨Z,G⟩:∃ Z,Z=wr:=⟨_,rfl⟩;rw [← G] at B z y p zjg;clear G;have q0:¬ 9223372036854775807<t.size+m.size:=oM;have ax:(t++m).size=t.size+2:=by rw [ByteArray.size_append,Q]
     go_upto_region 11 with fail
     generalize t++m=t1 at *;clear q0;go_wp2_with fail
     go_loopw [3,6] (fun v jv wr=>∃ (j:Nat) (t:ByteArray),j<=l.length∧jv=.int .i64 j∧v=.string t∧t.size<=22+100*k+10*j∧Ext Z wr) (fun _ jv _=>l.length - (intOf jv).toNat)
     case atStart=>exact⟨0,t1,dG _,rfl,rfl,oM,p⟩
     case round =>
      clear p;obtain⟨j,s,hj,rfl,rfl,F,d⟩:=hrel;have C:=y.out wr d;have g:=z.out wr d
      by_cases hjl:j<l.length
      ·obtain⟨ao,q,rfl,-,-,V,aq⟩:=(B.out wr d).int hjl;obtain⟨T,U⟩:=hq.out.2 q (dC V.out);obtain⟨u,rfl⟩:∃ u:Nat,q=u:=⟨q.toNat,oM⟩;have hu:u<100:=oH Hn.out;clear T U;go_upto_if 39 with fail
       go_cut [3] (fun s3 wx=>∃ m:ByteArray,s3=.string m∧m.size<=s.size+1∧wx=wr)
       case first =>
        by_cases hj0:0<j
        ·have D:((j:Int)>0):=oM;have q1:¬ 9223372036854775807<s.size+1:=oM;go_wp2_with fail
         go_meet;exact⟨_,rfl,by rw [ByteArray.size_append];exact dE _,rfl⟩
        ·have D:¬ ((j:Int)>0):=oM;go_wp2_with fail
         go_meet;exact⟨s,rfl,oM,rfl⟩
       case rest =>
        obtain⟨m3,rfl,av,rfl⟩:=hcut;go_wp2_with fail
        refine (zdt (n:=u) hu).mono ?_;rintro e w4 ⟨t4,rfl,ay,Y⟩;have q2:¬ 9223372036854775807<m3.size+t4.size:=oM;go_wp2_with fail
        go_roundw
        case rel=>exact⟨j+1,_,oM,gM,rfl,by rw [ByteArray.size_append];omega,d.trans Y⟩
        case measure=>simp [intOf];omega
      ·obtain rfl:j=l.length:=oM;go_wp2_with fail
       go_roundw
       case rel=>exact⟨k+1,s,oM,gM,rfl,oM,zjg.trans d⟩
       case measure=>simp [intOf];omega
   ·obtain rfl:n=k:=oM;go_wp2_with fail
    go_ret;have hv:=J.out;exact⟨t,rfl,fun h=>absurd (hv.symm.trans h) dM,o.trans zjg⟩
def RetStrs1 (L N:Nat) (w:World) (e:Ending) (w':World):Prop:=∃ (A:Option Addr) (n c:Nat) (l:List ByteArray),e=.returned (.slice A n c)∧n=l.length∧0<n∧w'.ownsRow w.heap.size 9 1 (.slice A n c) n (zaa l)∧(∀ x∈l,x.size<=L)∧n<=N∧Ext w w'
theorem spec_l19Cut1 {s:ByteArray} (hs:s.size<=1000000) :
  Calls Tryz.prog 250 #[s,.int .u8 32] w (RetStrs1 s.size (s.size+1) w):=by
 go_enter Tryz.func250,Tryz.ntmps250
 go_wp2_with fail
 go_loopw [5,6,7] (fun v f i wr=>∃ (k m:Nat) (l:List ByteArray),k<=s.size+1∧i=.int .i64 k∧m<=k∧f=.int .i64 m∧l.length<=k∧wr.ownsRow w.heap.size 9 1 v l.length (zaa l)∧Hid (∀ x∈l,x.size<=s.size)∧Ext w wr∧Hid (s.size<k->0<l.length)) (fun _ _ i _=>s.size+1 - (intOf i).toNat)
 case atStart=>exact⟨0,0,[],dG _,rfl,dE _,rfl,dE _,World.ownsRow_lit w #[] 0 (dE _) lM rfl,(fun x hx=>by cases hx),(dB _).alloc _,za (fun hh=>absurd hh oM)⟩
 case round =>
  obtain⟨k,m,l,r,rfl,u,rfl,t,zje,a,zjg,b⟩:=hrel
  by_cases hle:k<=s.size
  ·have n:(k:Int)<=(s.size:Int):=oM;have o:(m:Int)<=(k:Int):=oM;have h:=za (show (s.extract m k).size<=s.size by rw [ByteArray.size_extract];omega);have hall:=za (show ∀ x∈l++[s.extract m k],x.size<=s.size from fun x hx=>by
    rcases List.mem_append.1 hx with d|d
    ·exact a.out x d
    ·rw [List.mem_singleton.1 d];exact h.out)
   by_cases he:k=s.size
   ·have g:((k:Int)==(s.size:Int))=true:=by simp [he]
    have p:=za he;clear he;go_wp2_with (at_builtin;refine zU w wr rfl _ _ _ rfl 9 _ 1 16 Tryz.underlying88 zo rfl dM u5 _ _ _ _ rfl rfl zjg zje rfl (zck _) lM oM ?_;intro v' w1 hext1 zjn hg1 hat1)
    go_roundw
    case rel=>exact⟨k+1,k+1,l++[s.extract m k],oM,gM,oM,gM,by simp;omega,by simpa [zaa] using zjn,hall.out,aM,za (fun _=>sM)⟩
    case measure=>simp [intOf];omega
   ·have g:((k:Int)==(s.size:Int))=false:=by rw [beq_eq_false_iff_ne];omega
    have j:k<s.size:=oM;have q:=zcr s k j;cases hc:((s[k].toNat:Int)==32)
    ·go_wp2_with fail
     go_roundw
     case rel=>exact⟨k+1,m,l,oM,gM,oM,rfl,oM,zje,a,zjg,za (fun hh=>absurd hh oM)⟩
     case measure=>simp [intOf];omega
    ·go_wp2_with (at_builtin;refine zU w wr rfl _ _ _ rfl 9 _ 1 16 Tryz.underlying88 zo rfl dM u5 _ _ _ _ rfl rfl zjg zje rfl (zck _) lM oM ?_;intro v' w1 hext1 zjn hg1 hat1)
     go_roundw
     case rel=>exact⟨k+1,k+1,l++[s.extract m k],oM,gM,oM,gM,by simp;omega,by simpa [zaa] using zjn,hall.out,aM,za (fun _=>sM)⟩
     case measure=>simp [intOf];omega
  ·obtain rfl:k=s.size+1:=oM;obtain⟨A,c,rfl⟩:=zg zje;go_wp2_with fail
   go_ret;exact⟨A,_,c,l,rfl,rfl,b.out oM,zje,a.out,oM,zjg⟩
def RetParA (R M L:Nat) (w:World) (e:Ending) (w':World):Prop:=
 ∃ (b:Aut) (A:Option Addr) (n c:Nat) (A':Option Addr) (n' c':Nat) (ok:Bool),e=.returned (.tuple #[.agg #[b.al,.slice A n c,.slice A' n' c'],.bool ok])∧zZ w' w.heap.size A n c A' n' c' b∧Hid (BdA L b)∧Rd w' R M∧Dr R w w'
theorem ziH {Z:Nat} (hR:R<w.heap.size)(h:Rd W R M)(hd:Dr R w W)(hZ:w.heap.size<=Z) :
  Hid (RetParA R M L w (.returned (.tuple #[.agg #[(0:Int),(),()],.bool false])) (((W.setCell Z (0:Int)).setCell ⟨Z,1,none⟩ ()).setCell ⟨Z,2,none⟩ ())):=
 za ⟨⟨0,[],[]⟩,none,0,0,none,0,0,false,rfl,⟨⟨[],World.ownsRow_nil _ _ _ _,zE.nil _ _⟩,rfl,World.ownsRow_nil _ _ _ _,rfl⟩,za ⟨dG _,dG _,fun l hl=>by simp at hl⟩,h.frm (zV W Z _ _ _) (fun k hk e=>oM),((hd.ag (p:=⟨Z,0,none⟩) hZ _).ag (p:=⟨Z,1,none⟩) hZ _).ag (p:=⟨Z,2,none⟩) hZ _⟩
theorem yN04a2 {P:Prop}(h:P:=by
 go_wp2_with fail
 have hfb:=zaq bz4 rfl (.int .i64 0) (.slice none 0 0) (.slice none 0 0);have cf:=hfb.cell;exact bodyPost_ret (v:=.tuple #[.agg #[(0:Int),(),()],.bool false]) (by simp [results,Tryz.results166,go_sem,cf]) rfl hno4.out
 ):P:=h
theorem yN04a3 {P:Prop}(h:P:=by
 have cf:=hfb.cell;exact bodyPost_ret (v:=.tuple #[.agg #[(0:Int),(),()],.bool false]) (by simp [results,Tryz.results166,go_sem,cf]) rfl hno.out
 ):P:=h
theorem zeT {x:ByteArray} (h:Rd w R M)(hx:x.size<=1000) :
  Calls Tryz.prog 166 #[x] w (RetParA R M (x.size+1) w):=by
 have E:=h.lt
 go_enter Tryz.func166,Tryz.ntmps166
 go_wp2_with fail
 generalize U0:w.alloc _=w0 at *;have o:=Ext.al_ U0;have bz:=Ext.bl_ U0;have a1:=bz.lt;clear U0;refine (spec_l19Cut1 (s:=x) oM).mono ?_;rintro e w1 ⟨B,m,d,l,rfl,au,ag,zjn,y,hm,a0⟩;have aI:=za y;have bn:=za au;have bN:m<=1001:=oM;clear y au;obtain⟨gB,rfl,bK,-⟩:=zag zjn ag;obtain⟨ad,x0,ab,-,-,bh,ao⟩:=(eE zjn).str (k:=0) ag;obtain rfl:=Option.some.inj ab;rw [zX,Nat.add_zero] at ao;have bg:(0:Int)<(m:Int):=oM;go_wp2_with fail
 refine (zcM (x:=x0)).mono ?_;rintro e w2 ⟨S,a3,rfl,ha,ay⟩;have u:=a0.trans ay;have aa:=bz.ext u;have aJ:=aa.cell;have aK:=aa.frozen;have hno:=ziH (L:=x.size+1) (M:=M) (Z:=w.heap.size) E (h.ext (o.trans u)) (o.trans u).dr (dE _);cases a3
 ·go_wp2_with fail
  have hfb:=zaq aa rfl (.int .i64 0) (.slice none 0 0) (.slice none 0 0);exact yN04a3
 ·have bG:=dX w2 27 #[S,(),()];have ah:=(dB w2).alloc (.cells #[S,(),()] 27);have aX:=u.size;have aD:=zh zjn ay;have bI:=za (show ∀ W,Ext w2 W->Ext w W from fun W hW=>(o.trans u).trans hW);go_upto_region 6 with fail
  have aE:=zh aD ah;have f:zbA w0 (w2.alloc (.cells #[S,(),()] 27)) R w2.heap.size M S (.slice none 0 0) [] [] (.slice none 0 0) []:=⟨bG,World.ownsRow_nil _ _ _ _,zE.nil _ _,World.ownsRow_nil _ _ _ _,(h.ext (o.trans u)).ext ah,(u.trans ah).dr,oM,aX⟩;generalize w2.alloc _=w3 at *;generalize w2.heap.size=G at *;clear hno aJ aK ao aD;go_wp2_with fail
  go_loopw [8] (fun iv wr=>∃ (i:Nat) (v:Value) (q:List Value) (n:List (List Int)) (vA:Value) (g:List Bool),1<=i∧i<=m∧iv=.int .i64 (i:Nat)∧zbA w0 wr R G M S v q n vA g∧Hid (n.length<=i - 1)∧Hid (g.length=n.length)∧Hid (∀ l∈n,l.length<=x.size+1)∧wr.ownsRow w0.heap.size 9 1 (.slice (some gB) m d) m (zaa l)) (fun iv _=>m - (intOf iv).toNat)
  case atStart=>exact⟨1,_,_,[],_,[],dE _,ag,rfl,f,za (dG _),za rfl,za (fun l hl=>by simp at hl),aE⟩
  case round =>
   clear f aE;obtain⟨i,v,q,n,vA,g,bL,hi,rfl,f,H,ae,y,I⟩:=hrel;have hno:=ziH (L:=x.size+1) (M:=M) (Z:=w.heap.size) E f.rd (o.dr.trans f.dr) (dE _);have D:=bz.dr f.dr oM
   by_cases hlt:i<m
   ·obtain⟨ad,C,ab,-,-,az,ap⟩:=(eE I).str hlt;obtain rfl:=Option.some.inj ab;rw [zX,dW] at ap;have bH:=aI.out C (dC az.out);cases he:C.toList.isEmpty
    ·have bD:1<=C.size:=by
      rcases Nat.eq_zero_or_pos C.size with h0|h0
      ·rw [ByteArray.toList_eq] at he;have e2:C.data.toList.length=C.size:=rfl;rw [dU (e2.trans h0)] at he;cases he
      ·exact h0
     have be:(1:Int)<=(C.size:Int):=oM;have bJ:(C.extract 1 C.size).size<=x.size:=by rw [ByteArray.size_extract];omega
     go_wp2_with fail
     refine (spec_l3Parse (s:=C.extract 1 C.size) oM).mono ?_;rintro e w4 ⟨Ar,nr,cr,lr,ok,rfl,aT,aw,bO,j⟩;cases ok
     ·have hno4:=ziH (L:=x.size+1) (M:=M) (Z:=w.heap.size) E (f.rd.ext j) ((o.dr.trans f.dr).ext j) (dE _);have bz4:=D.ext j;have cz:=bz4.cell;have fz:=bz4.frozen;exact yN04a2
     ·subst aT;have aq:=za f.low;have aW:=za f.dr.size;have c:=f.ext j;have r:=zh I j;have cG:=c.blk.cell;have aY:=c.dr.size;have bM:n.length<=1001:=oH H.out;have am:=za az.out;have av:=hno;clear f I ap hno av;go_upto_region 15 with (at_builtin;refine zQ w0 w4 rfl _ _ _ rfl 110 _ 1 24 Tryz.underlying24 zbw rfl dM v n.length q _ _ rfl rfl aY c.nx rfl (zaF _ _ _) lM oM ?_;intro g5 cap5 w6 hown6 hg6 hat6 hlt6;obtain⟨q1,q2,q3⟩:=c.aw aq.out aW.out aw hown6 hg6 hat6;have a4:=q1.out;have t:=(zf r (Frm.ab hg6) (fun b hb hS=>zaI r c.nx dM hb hS)))
      have J:=zf t (dH w6 G 1 (.slice (some g5) (n.length+1) cap5)) (fun b hb hS=>by
       have aP:Blk w6 G 27 #[.int .i64 S,v,vA]:=(hg6.block G c.blk.lt (fun e=>zq c.nx c.blk dM e.symm rfl)).trans c.blk;exact zq t aP dM hb hS)
      have V:=za (show (n++[lr]).length<=i by have:=H.out;simp;omega);have U:=za (show g.length+1=(n++[lr]).length by have:=ae.out;simp;omega);have ar:=za (show ∀ l'∈n++[lr],l'.length<=x.size+1 from fun l' hl'=>by
       rcases List.mem_append.1 hl' with h1|h1
       ·exact y.out l' h1
       ·rw [List.mem_singleton.1 h1];omega)
      clear q1 a4 q2 hown6 hg6 hat6 hlt6 t r c cG H ae y aw;generalize n++[lr]=a2 at *;generalize q++[.slice Ar lr.length cr]=a6 at *;generalize w6.setCell ⟨G,1,none⟩ (.slice (some g5) (n.length+1) cap5)=w7 at *;generalize Value.slice (some g5) (n.length+1) cap5=v7 at *;obtain⟨bp,z,an,-,-,Y,F⟩:=(eE J).str hlt;obtain rfl:=Option.some.inj an;rw [zX,dW] at F;obtain rfl:z=C:=Option.some.inj (Y.out.symm.trans am.out);have cG:=fun W (hW:Ext w7 W)=>(q3.blk.ext hW).cell;have cS:∀ W,Ext w7 W->W.cell? ⟨gB,i,none⟩=some (.string z):=fun W hW=>hW.aa F;have aN:0<z.size:=oM;have bd:(0:Int)<(z.size:Int):=oM;have bE:=zcr z 0 aN;obtain⟨bb,bF⟩:∃ bb,((z[0].toNat:Int)==43)=bb:=⟨_,rfl⟩;have aZ:=dB w7;clear F Y am;refine uR (fun X=>Ext w7 X) [9,11] (zw.of [0,1,2,3,4,5,6,7,8,9,10,11]) ?_;refine uQ ?_;have ai:=aZ.drew;refine zd fun K hK=>?_;go_simp;refine hK.out _ _ (ai.alloc _) ?_;refine pT ?_;refine zb fun K hK=>?_;have bP:=q3.dr.size;have p:=q3.ext ai;have bf:g.length<=1001:=by have:=U.out;have:=V.out;omega
      have O:=zh J ai;refine zaE w0 w7.drew _ _ _ rfl 4 _ 1 1 Tryz.underlying25 zaT rfl dM vA g.length (zaw g) _ _ rfl rfl p.dr.size p.acc rfl (by simp [Value.oneCell']) lM oM ?_;intro g8 cap8 w8 hown8 hg8 hat8 hlt8;refine hK.out _ _ ?_;refine pT ?_;refine uQ ?_;obtain⟨p1,p2,p3⟩:=p.aq (x:=bb) (W':=w8) hown8 hg8 hat8;have bU:=p1.out;have Q:=zf O (Frm.ab hg8) (fun b hb hS=>zaI O p.acc dM hb hS);have T:=zf Q (dH w8 G 2 (.slice (some g8) (g.length+1) cap8)) (fun b hb hS=>by
       have aQ:Blk w8 G 27 #[.int .i64 S,v7,vA]:=(hg8.block G p.blk.lt (fun e=>zq p.acc p.blk dM e.symm rfl)).trans p.blk;exact zq Q aQ dM hb hS)
      refine zb fun K hK=>?_;go_simp;refine hK.out _ _ ?_;refine ze ?_;go_wp2_with fail
      go_roundw
      case rel=>exact⟨i+1,_,_,a2,_,g++[bb],oM,oM,gM,p3,za (oH V.out),za (by have:=U.out;simp;omega),ar,T⟩
      case measure=>simp [intOf];omega
    ·have cz:=D.cell;have fz:=D.frozen;go_wp2_with fail
     have hfb:=zaq D rfl (.int .i64 0) (.slice none 0 0) (.slice none 0 0);exact yN04a3
   ·obtain⟨A5,c5,rfl⟩:=zg f.nx;obtain⟨B5,d5,rfl⟩:=zg f.acc;have aR:zH wr w0.heap.size wr.heap.size A5 n.length B5 g.length (⟨S,n,g⟩:Aut):=⟨zed.reads ⟨q,f.nx,f.rows⟩ rfl,rfl,eE f.acc⟩;have cG:=f.blk.cell;clear hno;go_wp2_with fail
    refine (zen (a:=⟨S,n,g⟩) aR).mono ?_;rintro e w4 ⟨tx,rfl,-,j⟩;have c:=f.ext j;have hno4:=ziH (L:=x.size+1) (M:=M) (Z:=w.heap.size) E (f.rd.ext j) ((o.dr.trans f.dr).ext j) (dE _);have bz4:=D.ext j;have cz:=bz4.cell;have fz:=bz4.frozen;have bu:=c.blk.cell;clear cG;cases hne:tx.toList==x.toList
    ·exact yN04a2
    ·obtain⟨f1,f2⟩:=c.fin (N:=M) (sh:=BdA (x.size+1)) o bz rfl E (dE _) a1 (dE _) ⟨by have:=H.out;show n.length<=_;omega,by have:=H.out;have:=ae.out;show g.length<=_;omega,y.out⟩;go_wp2_with fail
     have cf:=f2.cell;obtain⟨b,A6,n6,c6,A7,n7,c7,he,aU,ax,aV,aS⟩:=f1.out;exact bodyPost_ret (v:=.tuple #[.agg #[S,.slice A5 n.length c5,.slice B5 g.length d5],.bool true]) (by simp [results,Tryz.results166,go_sem,cf]) rfl ⟨b,A6,n6,c6,A7,n7,c7,true,by injection he with he;rw [he],aU,ax,aV,aS⟩
def Texts3 (W:World) (base g n:Nat):Prop:=
 ∀ k<n,∃ (b:Nat) (l:List ByteArray),W.cell? ⟨g,k,none⟩=some (.slice (some b) 3 3)∧l.length=3∧((∀ x∈l,x.size<=100)∧∀ x,l[2]?=some x->x.size<=40)∧W.ownsRow base 9 1 (.slice (some b) 3 3) 3 (zaa l)
def RetT3 (w:World) (e:Ending) (w':World):Prop:=∃ g,e=.returned (.slice (some ⟨g,0,none⟩) 9 9)∧w.heap.size<=g∧Texts3 w' w.heap.size g 9∧Ext w w'
def Sh3 (u:Array Value):Prop:=zaa (u.toList.map ziY)=u.toList∧u.size=3∧(∀ x∈u.toList.map ziY,x.size<=100)∧∀ x∈(u.toList.map ziY).drop 2,x.size<=40
theorem Sh3.ak {u:Array Value}(h:Sh3 u):(u.toList.map ziY).length=3∧(∀ x∈u.toList.map ziY,x.size<=100)∧∀ x,(u.toList.map ziY)[2]?=some x->x.size<=40:=by
 obtain⟨-,a,b,c⟩:=h;refine⟨by simp [a],b,fun x hx=>c x ?_⟩;have d:=(List.getElem?_eq_some_iff.1 hx).1;rw [List.mem_iff_getElem?];exact⟨0,by rw [List.getElem?_drop];exact hx⟩
theorem lit9 (w:World) {u1 u2 u3 u4 u5 u6 u7 u8 u9:Array Value}(h1:Sh3 u1)(h2:Sh3 u2)(h3:Sh3 u3)(h4:Sh3 u4)(h5:Sh3 u5)(h6:Sh3 u6)(h7:Sh3 u7)(h8:Sh3 u8)(h9:Sh3 u9) :
  RetT3 w (.returned (.slice (some ⟨w.heap.size+9,0,none⟩) 9 9)) ((((((((((w.alloc (.cells u1 9)).alloc (.cells u2 9)).alloc (.cells u3 9)).alloc (.cells u4 9)).alloc (.cells u5 9)).alloc (.cells u6 9)).alloc (.cells u7 9)).alloc (.cells u8 9)).alloc (.cells u9 9)).alloc (.cells #[.slice (some w.heap.size) 3 3,.slice (some ⟨w.heap.size+1,0,none⟩) 3 3,.slice (some ⟨w.heap.size+2,0,none⟩) 3 3,.slice (some ⟨w.heap.size+3,0,none⟩) 3 3,.slice (some ⟨w.heap.size+4,0,none⟩) 3 3,.slice (some ⟨w.heap.size+5,0,none⟩) 3 3,.slice (some ⟨w.heap.size+6,0,none⟩) 3 3,.slice (some ⟨w.heap.size+7,0,none⟩) 3 3,.slice (some ⟨w.heap.size+8,0,none⟩) 3 3] 88)):=by
 have R:=zbk w h1.1 h1.2.1 oM;have U:=(dB w).alloc (.cells u1 9);have v:(w.alloc (.cells u1 9)).heap.size=w.heap.size+1:=sM;generalize w.alloc (.cells u1 9)=w1 at *;have n:=zbk w1 h2.1 h2.2.1 oM;have V:=(dB w1).alloc (.cells u2 9);have x:(w1.alloc (.cells u2 9)).heap.size=w.heap.size+2:=by simp [v]
 rw [v] at n;generalize w1.alloc (.cells u2 9)=b at *;have o:=zbk b h3.1 h3.2.1 oM;have X:=(dB b).alloc (.cells u3 9);have y:(b.alloc (.cells u3 9)).heap.size=w.heap.size+3:=by simp [x]
 rw [x] at o;generalize b.alloc (.cells u3 9)=c at *;have p:=zbk c h4.1 h4.2.1 oM;have Y:=(dB c).alloc (.cells u4 9);have z:(c.alloc (.cells u4 9)).heap.size=w.heap.size+4:=by simp [y]
 rw [y] at p;generalize c.alloc (.cells u4 9)=d at *;have q:=zbk d h5.1 h5.2.1 oM;have Z:=(dB d).alloc (.cells u5 9);have B:(d.alloc (.cells u5 9)).heap.size=w.heap.size+5:=by simp [z]
 rw [z] at q;generalize d.alloc (.cells u5 9)=f at *;have r:=zbk f h6.1 h6.2.1 oM;have x6:=(dB f).alloc (.cells u6 9);have C:(f.alloc (.cells u6 9)).heap.size=w.heap.size+6:=by simp [B]
 rw [B] at r;generalize f.alloc (.cells u6 9)=g at *;have s:=zbk g h7.1 h7.2.1 oM;have x7:=(dB g).alloc (.cells u7 9);have D:(g.alloc (.cells u7 9)).heap.size=w.heap.size+7:=by simp [C]
 rw [C] at s;generalize g.alloc (.cells u7 9)=h at *;have t:=zbk h h8.1 h8.2.1 oM;have x8:=(dB h).alloc (.cells u8 9);have E:(h.alloc (.cells u8 9)).heap.size=w.heap.size+8:=by simp [D]
 rw [D] at t;generalize h.alloc (.cells u8 9)=i at *;have u:=zbk i h9.1 h9.2.1 oM;have x9:=(dB i).alloc (.cells u9 9);have S:(i.alloc (.cells u9 9)).heap.size=w.heap.size+9:=by simp [E]
 rw [E] at u;generalize i.alloc (.cells u9 9)=l at *;have a:=dX l 88 #[.slice (some w.heap.size) 3 3,.slice (some ⟨w.heap.size+1,0,none⟩) 3 3,.slice (some ⟨w.heap.size+2,0,none⟩) 3 3,.slice (some ⟨w.heap.size+3,0,none⟩) 3 3,.slice (some ⟨w.heap.size+4,0,none⟩) 3 3,.slice (some ⟨w.heap.size+5,0,none⟩) 3 3,.slice (some ⟨w.heap.size+6,0,none⟩) 3 3,.slice (some ⟨w.heap.size+7,0,none⟩) 3 3,.slice (some ⟨w.heap.size+8,0,none⟩) 3 3];have m:=(dB l).alloc (.cells #[.slice (some w.heap.size) 3 3,.slice (some ⟨w.heap.size+1,0,none⟩) 3 3,.slice (some ⟨w.heap.size+2,0,none⟩) 3 3,.slice (some ⟨w.heap.size+3,0,none⟩) 3 3,.slice (some ⟨w.heap.size+4,0,none⟩) 3 3,.slice (some ⟨w.heap.size+5,0,none⟩) 3 3,.slice (some ⟨w.heap.size+6,0,none⟩) 3 3,.slice (some ⟨w.heap.size+7,0,none⟩) 3 3,.slice (some ⟨w.heap.size+8,0,none⟩) 3 3] 88);rw [S] at a;generalize l.alloc _=T at *;have Q:=m;have O:=x9.trans Q;have M:=x8.trans O;have L:=x7.trans M;have J:=x6.trans L;have I:=Z.trans J;have H:=Y.trans I;have G:=X.trans H;have F:=V.trans G;refine⟨_,rfl,oM,fun k hk=>?_,U.trans F⟩;have j:k=0∨k=1∨k=2∨k=3∨k=4∨k=5∨k=6∨k=7∨k=8:=oM;rcases j with rfl|rfl|rfl|rfl|rfl|rfl|rfl|rfl|rfl
 ·exact⟨_,_,a.cell 0,h1.ak.1,h1.ak.2,zh R F⟩
 ·exact⟨_,_,a.cell 1,h2.ak.1,h2.ak.2,zn (zh n G) oM⟩
 ·exact⟨_,_,a.cell 2,h3.ak.1,h3.ak.2,zn (zh o H) oM⟩
 ·exact⟨_,_,a.cell 3,h4.ak.1,h4.ak.2,zn (zh p I) oM⟩
 ·exact⟨_,_,a.cell 4,h5.ak.1,h5.ak.2,zn (zh q J) oM⟩
 ·exact⟨_,_,a.cell 5,h6.ak.1,h6.ak.2,zn (zh r L) oM⟩
 ·exact⟨_,_,a.cell 6,h7.ak.1,h7.ak.2,zn (zh s M) oM⟩
 ·exact⟨_,_,a.cell 7,h8.ak.1,h8.ak.2,zn (zh t O) oM⟩
 ·exact⟨_,_,a.cell 8,h9.ak.1,h9.ak.2,zn (zh u Q) oM⟩
theorem ziQ :Calls Tryz.prog 180 #[] w (RetT3 w):=by
 go_enter Tryz.func180,Tryz.ntmps180
 go_wp2_with fail
 go_ret;exact lit9 w ⟨rfl,rfl,by decide +kernel,by decide +kernel⟩ ⟨rfl,rfl,by decide +kernel,by decide +kernel⟩ ⟨rfl,rfl,by decide +kernel,by decide +kernel⟩ ⟨rfl,rfl,by decide +kernel,by decide +kernel⟩ ⟨rfl,rfl,by decide +kernel,by decide +kernel⟩ ⟨rfl,rfl,by decide +kernel,by decide +kernel⟩ ⟨rfl,rfl,by decide +kernel,by decide +kernel⟩ ⟨rfl,rfl,by decide +kernel,by decide +kernel⟩ ⟨rfl,rfl,by decide +kernel,by decide +kernel⟩
theorem ziw {S:Nat->Prop} {w':World}(h:Frm S w w') {p:Addr} {v:Value}(hv:w.cell? p=some v)(hp:¬ S p.block):w'.cell? p=some v:=
 (World.cell?_of_block (w:=w) (h.block _ (World.block_lt_of_cell? w p hv) hp)).trans hv
theorem zbD.own {w0:World}   {p:Aut} (h:zbD w0 W R M L K s A n c t C k c2 p B m d B' m' d'):zbD W W R M L K s A n c t C k c2 p B m d B' m' d':={ h with dr:=Dr.refl _ _,hR:=h.rd.lt }
theorem spec_l9Spoil {p:Aut}  (h:zbD w w R M L K s A n c t C k c2 p B m d B' m' d')(hM:M<=600000000)(hL:L<=90000)(hK:K<=60) :
  Calls Tryz.prog 93 #[.pointer (some R),.agg #[s.al,s.st,.slice A n c],.agg #[p.al,.slice B m d,.slice B' m' d'],.agg #[t.al,t.st,.slice C k c2]] w (RetSPT R (M+100) (L+3) (K+39) w):=by
 have bo:=h.hR;have aj:Ext w ((((((w.alloc (.cells #[s.al,s.st,.slice A n c] 38)).alloc (.cells #[p.al,.slice B m d,.slice B' m' d'] 27)).alloc (.cells #[t.al,t.st,.slice C k c2] 38)).alloc (.cells #[(0:Int),(0:Int),()] 38)).alloc (.cells #[(0:Int),(),()] 27)).alloc (.cells #[(0:Int),(0:Int),()] 38)):=((((((dB _).alloc _).alloc _).alloc _).alloc _).alloc _).alloc _;obtain⟨b1,b2,b3⟩:=zR (dB (((w.alloc (.cells #[s.al,s.st,.slice A n c] 38)).alloc (.cells #[p.al,.slice B m d,.slice B' m' d'] 27)).alloc (.cells #[t.al,t.st,.slice C k c2] 38)))
 go_enter Tryz.func93,Tryz.ntmps93
 go_upto_region 1 with fail
 have aw:(((w.alloc (.cells #[s.al,s.st,.slice A n c] 38)).alloc (.cells #[p.al,.slice B m d,.slice B' m' d'] 27)).alloc (.cells #[t.al,t.st,.slice C k c2] 38)).heap.size=w.heap.size+3:=sM;generalize ((w.alloc _).alloc _).alloc _=w0 at *;generalize U0:((w0.alloc _).alloc _).alloc _=w1 at *;obtain⟨U,z1,z2,z3⟩:=Ext.x3_ U0;clear U0;simp only [aw] at z1 z2 z3;have ai:Tri w w1 R M L K (w.heap.size+1+1+1) (w.heap.size+1+1+1+1+1) (w.heap.size+1+1+1+1) w.heap.size (w.heap.size+1+1) (w.heap.size+1) s A n c t C k c2 p B m d B' m' d':=
  ⟨h.ext aj,z1,z3,z2,b1.ext U,b3.ext U,.inr (b2.ext U),oM,za (by unfold Ne6;omega)⟩
 have ax:=aj.size;clear z1 z2 z3 b1 b2 b3 aj U h aw;have av:=za (show w.heap.size+1≠0 by omega);have S:=za (show Ne6 (w.heap.size+1+1+1) (w.heap.size+1+1+1+1+1) (w.heap.size+1+1+1+1) w.heap.size (w.heap.size+1+1) (w.heap.size+1) by unfold Ne6;omega);generalize hZt:w.heap.size+1+1+1+1+1=Zt at *;generalize hZp:w.heap.size+1+1+1+1=l at *;generalize hZs:w.heap.size+1+1+1=o at *;generalize hGt:w.heap.size+1+1=Gt at *;generalize hGp:w.heap.size+1=Gp at *;generalize hGs:w.heap.size=Gs at *;have F:=za (show w.heap.size<=o∧w.heap.size<=Zt∧w.heap.size<=l by omega);clear hZt hZp hZs hGt hGp hGs ax;go_wp2_with fail
 refine (zx ai.at_.rd oM).mono ?_;rintro e w2 ⟨y,rfl,-,-,f,g⟩;have a:=ai.drawn g f;clear ai f g;go_upto_block 0 with fail
 go_cut [] (fun wx=>∃ (s:Sys) (A:Option Addr) (n c:Nat) (t:Sys) (C:Option Addr) (k c2:Nat) (p:Aut) (B:Option Addr) (m d:Nat) (B':Option Addr) (m' d':Nat),Tri w wx R (M+100) (L+3) (K+39) (o) (Zt) (l) Gs (Gt) (Gp) s A n c t C k c2 p B m d B' m' d')
 case first =>
  have Q:y=0∨y=1∨y=2∨3<=y:=oM;rcases Q with hy|hy|hy|hy
  ·subst hy;have az:True:=trivial;have Y:=a.bs.cell;go_wp2_with fail
   refine (zbK (L:=L) a.at_.rd oM a.at_.is a.at_.ns.1.1 oM).mono ?_;rintro e v1 ⟨s1,A1,n1,d1,rfl,af,ab,x,D⟩;have i:=a.drawn D x;clear Y;go_wp2_with fail
   refine (zbK (L:=L+1) i.at_.rd oM af ab.1 oM).mono ?_;rintro e v2 ⟨s2,A2,n2,d2,rfl,ag,ad,f,g⟩;have j:=i.drawn g f;go_wp2_with fail
   refine (zbK (L:=L+2) j.at_.rd oM ag ad.1 oM).mono ?_;rintro e v3 ⟨s3,A3,n3,d3,rfl,ah,ae,G,E⟩;have b:=(j.drawn E G).more (N:=M+100) (J:=L+3) (H:=K+39) oM oM oM;have Y:=b.bs.cell;have fG:=b.bs.frozen;have z:=b.setS ah ae;go_wp2_with fail
   go_meet;exact⟨_,_,_,_,_,_,_,_,_,_,_,_,_,_,_,z⟩
  ·subst hy;have az:True:=trivial;have u:=av.out;have Y:=(a.ay u).cell;go_wp2_with fail
   refine (zbL a.at_.rd oM a.at_.ip a.at_.bd.out oM).mono ?_;rintro e v1 ⟨b1,A1,n1,d1,B1,m1,e1,rfl,aK,aH,x,D⟩;have i:=a.drawn D x;have bp:=a.at_.rd.lt;have bq:=i.at_.rd.lt;clear Y;go_wp2_with fail
   refine (zbL x oM (aK.less oM) aH.out oM).mono ?_;rintro e v2 ⟨b2,A2,n2,d2,B2,m2,e2,rfl,aL,aI,f,g⟩;have j:=i.drawn g f;have br:=j.at_.rd.lt;go_wp2_with fail
   refine (zbL f oM (aL.less oM) aI.out oM).mono ?_;rintro e v3 ⟨b3,A3,n3,d3,B3,m3,e3,rfl,aN,aJ,G,E⟩;have b:=(j.drawn E G).more (N:=M+100) (J:=L+3) (H:=K+39) oM oM oM;have Y:=(b.ay u).cell;have fG:=(b.ay u).frozen;have z:=b.setP u (aN.less oM) (BdL.more aJ.out oM);go_wp2_with fail
   go_meet;exact⟨_,_,_,_,_,_,_,_,_,_,_,_,_,_,_,z⟩
  ·subst hy;have az:True:=trivial;have Y:=a.bt.cell;go_wp2_with fail
   refine (zbK (L:=L) a.at_.rd oM a.at_.it a.at_.ns.2.1 oM).mono ?_;rintro e v1 ⟨s1,A1,n1,d1,rfl,af,ab,x,D⟩;have i:=a.drawn D x;clear Y;go_wp2_with fail
   refine (zbK (L:=L+1) i.at_.rd oM af ab.1 oM).mono ?_;rintro e v2 ⟨s2,A2,n2,d2,rfl,ag,ad,f,g⟩;have j:=i.drawn g f;go_wp2_with fail
   refine (zbK (L:=L+2) j.at_.rd oM ag ad.1 oM).mono ?_;rintro e v3 ⟨s3,A3,n3,d3,rfl,ah,ae,G,E⟩;have b:=(j.drawn E G).more (N:=M+100) (J:=L+3) (H:=K+39) oM oM oM;have Y:=b.bt.cell;have fG:=b.bt.frozen;have z:=b.setT ah ae;go_wp2_with fail
   go_meet;exact⟨_,_,_,_,_,_,_,_,_,_,_,_,_,_,_,z⟩
  ·have h0:((y:Int)==0)=false:=by simp;omega
   have h1:((y:Int)==1)=false:=by simp;omega
   have h2:((y:Int)==2)=false:=by simp;omega
   go_wp2_with fail
   go_meet;exact⟨_,_,_,_,_,_,_,_,_,_,_,_,_,_,_,a.more oM oM oM⟩
 case rest =>
  clear a;obtain⟨s,A,n,c,t,C,k,c2,p,B,m,d,B',m',d',ht⟩:=hcut;have u:=av.out;obtain⟨O,aO⟩:∃ O,O=wc:=⟨_,rfl⟩;subst aO;have cS:∀ W,Frm (fun k=>k=o∨k=l) O W->∀ q,W.cell? ⟨Gs,q,none⟩=#[Value.int .i64 s.al,.int .i64 s.st,.slice A n c][q]?:=fun W hW=>(ht.bs.frm hW (by have:=S.out;unfold Ne6 at this;omega)).cell;have cT:∀ W,Frm (fun k=>k=o∨k=l) O W->∀ q,W.cell? ⟨Gt,q,none⟩=#[Value.int .i64 t.al,.int .i64 t.st,.slice C k c2][q]?:=fun W hW=>(ht.bt.frm hW (by have:=S.out;unfold Ne6 at this;omega)).cell;have cP:∀ W,Frm (fun k=>k=o∨k=l) O W->∀ q,W.cell? ⟨Gp,q,none⟩=#[Value.int .i64 p.al,.slice B m d,.slice B' m' d'][q]?:=fun W hW=>((ht.ay u).frm hW (by have:=S.out;unfold Ne6 at this;omega)).cell;have ar:Frm (fun k=>k=o∨k=l) O O.drew:=(dB O).drew.aj;have I:=ht.ext (dB O).drew;go_wp2_with fail
  refine tR (fun X=>Frm (fun k=>k=o∨k=l) O X) [5] (Ord.of [0,1,2,3,4,5]) ?_;refine tQ ?_;generalize hwD:O.drew=wD at *;clear hwD;have Z:=I.at_;have zs:=I.zs;have V:=I.zt;have zp:=I.zp;have cs:=zs.cell;have fs:=zs.frozen;have r:=za S.out;clear I ht;refine zB fun K hK=>?_;go_simp;have q1:=zaA zs rfl (.int .i64 s.al) (.int .i64 s.st) (.slice A n c);have e1:=zaj wD o (.int .i64 s.al) (.int .i64 s.st) (.slice A n c);replace Z:=Z.far zs e1 F.out.1 dM dM;replace V:=V.frm e1 (by have:=r.out;unfold Ne6 at this;omega);replace zp:=zp.frm e1 (by have:=r.out;unfold Ne6 at this;omega);have aa:=ar.trans (e1.mono (T:=fun k=>k=o∨k=l) (fun k _ hk=>.inl hk));refine hK.out _ _ aa ?_;refine pT ?_;clear cs fs zs e1;generalize ((wD.setCell o s.al).setCell ⟨o,1,none⟩ s.st).setCell ⟨o,2,none⟩ (.slice A n c)=wA at *;have cp:=zp.cell;have fp:=zp.frozen;refine zB fun K hK=>?_;go_simp;have q2:=zaA zp rfl (.int .i64 p.al) (.slice B m d) (.slice B' m' d');have e2:=zaj wA l (.int .i64 p.al) (.slice B m d) (.slice B' m' d');replace Z:=Z.far zp e2 F.out.2.2 dM dM;replace V:=V.frm e2 (by have:=r.out;unfold Ne6 at this;omega);replace q1:=q1.frm e2 (by have:=r.out;unfold Ne6 at this;omega);have au:=aa.trans (e2.mono (T:=fun k=>k=o∨k=l) (fun k _ hk=>.inr hk));refine hK.out _ _ au ?_;refine pT ?_;clear cp fp zp e2 aa;generalize ((wA.setCell l p.al).setCell ⟨l,1,none⟩ (.slice B m d)).setCell ⟨l,2,none⟩ (.slice B' m' d')=wB at *;have ct:=V.cell;have ft:=V.frozen;refine zN fun K hK=>?_;go_simp;have q3:=zaA V rfl (.int .i64 t.al) (.int .i64 t.st) (.slice C k c2);have e3:=zaj wB Zt (.int .i64 t.al) (.int .i64 t.st) (.slice C k c2);replace Z:=Z.far V e3 F.out.2.1 dM dM;replace q1:=q1.frm e3 (by have:=r.out;unfold Ne6 at this;omega);replace q2:=q2.frm e3 (by have:=r.out;unfold Ne6 at this;omega);refine hK.out _ _ ?_;refine zal ?_;clear ct ft V e3 au ar cS cT cP;generalize ((wB.setCell Zt t.al).setCell ⟨Zt,1,none⟩ t.st).setCell ⟨Zt,2,none⟩ (.slice C k c2)=wC at *;have aG:=za Z;clear Z;go_wp2_with fail
  have c1:=q1.cell;have aF:=q2.cell;have c3:=q3.cell;exact bodyPost_ret (v:=.tuple #[.agg #[s.al,s.st,.slice A n c],.agg #[p.al,.slice B m d,.slice B' m' d'],.agg #[t.al,t.st,.slice C k c2]]) (by simp [results,Tryz.results93,go_sem,c1,aF,c3]) rfl ⟨s,A,n,c,t,C,k,c2,p,B,m,d,B',m',d',rfl,aG.out⟩
theorem spec_l12Draw (h:Rd w R M)(hM:M<=500000000) :
  Calls Tryz.prog 90 #[.pointer (some R)] w (RetSTP R (M+200000) 30000 50 w):=by
 have aP:=h.lt
 go_enter Tryz.func90,Tryz.ntmps90
 go_upto_region 1 with fail
 generalize U0:((w.alloc _).alloc _).alloc _=w0 at *;obtain⟨aZ,z1,z2,z3⟩:=Ext.x3_ U0;have cw:w0.heap.size=w.heap.size+3:=by rw [← U0];simp
 clear U0;go_upto_region 2 with (first
  |(go_at_call 179;refine (spec_l9Three (h.ext aZ) oM).mono ?_;rintro e w1 ⟨s,A,n,c,t,C,k,E,p,B,m,d,D,Q,I,rfl,S⟩))
 have ab:Ext w1 (((w1.alloc (.cells #[s.al,s.st,.slice A n c] 38)).alloc (.cells #[p.al,.slice B m d,.slice D Q I] 27)).alloc (.cells #[t.al,t.st,.slice C k E] 38)):=(((dB _).alloc _).alloc _).alloc _;obtain⟨b1,b2,b3⟩:=zR (dB (((w1.alloc (.cells #[s.al,s.st,.slice A n c] 38)).alloc (.cells #[p.al,.slice B m d,.slice D Q I] 27)).alloc (.cells #[t.al,t.st,.slice C k E] 38)));have bu:=S.dr.size;have aG:Tri w (((w1.alloc (.cells #[s.al,s.st,.slice A n c] 38)).alloc (.cells #[p.al,.slice B m d,.slice D Q I] 27)).alloc (.cells #[t.al,t.st,.slice C k E] 38)) R (M+150000) 30000 50 w.heap.size (w.heap.size+1) (w.heap.size+1+1) w1.heap.size (w1.heap.size+1+1) (w1.heap.size+1) s A n c t C k E p B m d D Q I:=
  ⟨((S.less aZ.dr aP).ext ab).more oM oM oM,(z1.dr S.dr oM).ext ab,(z2.dr S.dr oM).ext ab,(z3.dr S.dr oM).ext ab,b1,b3,.inr b2,oM,za (by unfold Ne6;omega)⟩
 clear S b1 b2 b3 z1 z2 z3 ab;have Y:=za (show w.heap.size+3<=w1.heap.size by omega);have bg:(((w1.alloc (.cells #[s.al,s.st,.slice A n c] 38)).alloc (.cells #[p.al,.slice B m d,.slice D Q I] 27)).alloc (.cells #[t.al,t.st,.slice C k E] 38)).heap.size=w1.heap.size+3:=sM;clear bu;generalize hG:w1.heap.size=G at *;generalize ((w1.alloc _).alloc _).alloc _=w2 at *;clear hG w1;go_wp2_with fail
 refine (zx aG.at_.rd oM).mono ?_;rintro e w3 ⟨y,rfl,-,-,aW,aC⟩;have aa:=aG.drawn aC aW;have f:=za (show G+3<=w3.heap.size by have:=aC.size;omega);clear aG aW aC bg;go_upto_if 18 with fail
 go_cut [] (fun wx=>∃ (s:Sys) (A:Option Addr) (n c:Nat) (t:Sys) (C:Option Addr) (k E:Nat) (p:Aut) (B:Option Addr) (m d:Nat) (D:Option Addr) (Q I:Nat),Tri w wx R (M+200000) 30000 50 w.heap.size (w.heap.size+1) (w.heap.size+1+1) G (G+1+1) (G+1) s A n c t C k E p B m d D Q I)
 case first =>
  by_cases hy:y=0
  ·subst hy;have cy:True:=trivial;have r:G+1≠0:=oM;go_wp2_with fail
   refine (ziQ).mono ?_;rintro e w4 ⟨g,rfl,hg,hT,a0⟩;have aH:=aa.ext a0;have hq:=aa.at_.rd.lt;clear aa;have bN:=a0.size;go_wp2_with fail
   refine (zx aH.at_.rd oM).mono ?_;rintro e w5 ⟨j,rfl,hj,-,bp,aD⟩;have bl:j<9:=by have:=hj oM;omega
   have aI:=aH.drawn aD bp;obtain⟨bt,lt,aT,bm,ag,aV⟩:=hT j bl;have aN:=aD.aa aT (by dsimp only;omega);have x:=zbq aV aD (fun b h1 e=>oM);have bM:(j:Int)<9:=oM;clear hj hT aT aV aH;have co:w3.heap.size<=bt:=(x.lt bt rfl).1;obtain⟨b7,x0,e0,_,_,av,aO⟩:=(eE x).str (show 0<3 by omega);obtain⟨b8,x1,e1,_,_,aw,az⟩:=(eE x).str (show 1<3 by omega);obtain⟨b9,x2,e2,_,_,ax,aA⟩:=(eE x).str (show 2<3 by omega);obtain rfl:=Option.some.inj e0;obtain rfl:=Option.some.inj e1;obtain rfl:=Option.some.inj e2;have bO:=ag.1 x0 (dC av.out);have bP:=ag.1 x1 (dC aw.out);have bQ:=ag.2 x2 ax.out;rw [zX,dW] at aO az aA;clear e0 e1 e2 av aw ax ag bm x;go_wp2_with fail
   refine (zct aI.at_.rd oM).mono ?_;rintro e w6 ⟨s1,A1,n1,c1,ok,rfl,bq,⟨-,bj⟩,cq,aX,V⟩;have cn:=za (show R<w.heap.size from aP);have l:=aI.drawn V aX;have F:=l.bs.cell;have fG:=l.bs.frozen;have o:=l.setS bq (by omega:n1<=30000∧n1<=c1);have f1:=zaj w6 G (.int .i64 s1.al) (.int .i64 s1.st) (.slice A1 n1 c1);have a1:=(V.aa az (by have:=f.out;have:=Y.out;dsimp only;omega));have ad:=(V.aa aA (by have:=f.out;have:=Y.out;dsimp only;omega));have kt:=(V.aa aN (by have:=f.out;have:=Y.out;dsimp only;omega));have bx:=ziw f1 a1 (by have:=f.out;dsimp only;omega);have a2:=ziw f1 ad (by have:=f.out;dsimp only;omega);clear aO az aA aN a1 ad kt aI l f1 V aX;go_upto_region 6 with fail
   clear F fG;generalize ((w6.setCell G s1.al).setCell ⟨G,1,none⟩ s1.st).setCell ⟨G,2,none⟩ (.slice A1 n1 c1)=w7 at *;go_wp2_with fail
   refine (zct o.at_.rd oM).mono ?_;rintro e w8 ⟨s2,A2,n2,d2,cC,rfl,br,⟨-,bk⟩,cr,aY,aE⟩;have ah:=o.drawn aE aY;have F:=ah.bt.cell;have fG:=ah.bt.frozen;have O:=ah.setT br (by omega:n2<=30000∧n2<=d2);have f2:=zaj w8 (G+1+1) (.int .i64 s2.al) (.int .i64 s2.st) (.slice A2 n2 d2);have ad:=(aE.aa a2 (by have:=f.out;have:=Y.out;dsimp only;omega));have bz:=ziw f2 ad (by have:=f.out;dsimp only;omega);clear bx a2 ad o ah f2 aE aY;go_upto_region 7 with fail
   clear F fG;generalize ((w8.setCell ⟨G+1+1,0,none⟩ s2.al).setCell ⟨G+1+1,1,none⟩ s2.st).setCell ⟨G+1+1,2,none⟩ (.slice A2 n2 d2)=w9 at *;go_wp2_with fail
   refine (zeT O.at_.rd oM).mono ?_;rintro e bB ⟨b1,A3,n3,d3,A4,n4,d4,cD,rfl,aU,aS,ar,ap⟩;have cv:=O.at_.rd.lt;have ai:=O.drawn ap ar;have F:=(ai.ay r).cell;have fG:=(ai.ay r).frozen;have U:=ai.setP r (aU.less oM) (BdL.more aS.out oM);clear bz O ai ap ar aU;go_upto_region 8 with fail
   clear F fG;generalize ((bB.setCell ⟨G+1,0,none⟩ b1.al).setCell ⟨G+1,1,none⟩ (.slice A3 n3 d3)).setCell ⟨G+1,2,none⟩ (.slice A4 n4 d4)=cI at *;go_wp2_with fail
   refine (zx U.at_.rd oM).mono ?_;rintro e cJ ⟨y,rfl,-,-,au,aq⟩;have a:=U.drawn aq au;clear U au aq;have af:y=0∨y=1∨y=2∨3<=y:=oM;rcases af with hy|hy|hy|hy
   ·subst hy;have F:=a.bs.cell;go_wp2_with fail
    refine (zev (L:=1001) a.at_.rd oM a.at_.is bj oM oM).mono ?_;rintro e a4 ⟨s5,A5,n5,d5,rfl,aF,bn,z,u⟩;have i:=(a.drawn u z).more (N:=M+200000) (J:=30000) (H:=50) oM oM oM;clear F;have F:=i.bs.cell;have fG:=i.bs.frozen;have o:=i.setS aF (by omega:n5<=30000∧n5<=d5);go_wp2_with fail
    go_meet;exact⟨_,_,_,_,_,_,_,_,_,_,_,_,_,_,_,o⟩
   ·subst hy;have F:=a.bt.cell;go_wp2_with fail
    refine (zev (L:=1001) a.at_.rd oM a.at_.it bk oM oM).mono ?_;rintro e a4 ⟨s5,A5,n5,d5,rfl,aF,bn,z,u⟩;have i:=(a.drawn u z).more (N:=M+200000) (J:=30000) (H:=50) oM oM oM;clear F;have F:=i.bt.cell;have fG:=i.bt.frozen;have o:=i.setT aF (by omega:n5<=30000∧n5<=d5);go_wp2_with fail
    go_meet;exact⟨_,_,_,_,_,_,_,_,_,_,_,_,_,_,_,o⟩
   ·subst hy;have F:=(a.ay r).cell;go_wp2_with fail
    refine (zfy (L:=x2.size+1) a.at_.rd oM a.at_.ip aS.out oM).mono ?_;rintro e a4 ⟨b5,A5,n5,d5,A6,n6,d6,rfl,bo,bi,z,u⟩;have hq:=a.at_.rd.lt;have i:=(a.drawn u z).more (N:=M+200000) (J:=30000) (H:=50) oM oM oM;clear F;have F:=(i.ay r).cell;have fG:=(i.ay r).frozen;have o:=i.setP r (bo.less oM) (BdL.more bi.out oM);go_wp2_with fail
    go_meet;exact⟨_,_,_,_,_,_,_,_,_,_,_,_,_,_,_,o⟩
   ·have h0:((y:Int)==0)=false:=by simp;omega
    have h1:((y:Int)==1)=false:=by simp;omega
    have h2:((y:Int)==2)=false:=by simp;omega
    go_wp2_with fail
    go_meet;exact⟨_,_,_,_,_,_,_,_,_,_,_,_,_,_,_,a.more oM oM oM⟩
  ·have cx:((y:Int)==0)=false:=by simp;omega
   go_wp2_with fail
   go_meet;exact⟨_,_,_,_,_,_,_,_,_,_,_,_,_,_,_,aa.more oM oM oM⟩
 case rest =>
  clear aa;obtain⟨s,A,n,c,t,C,k,E,p,B,m,d,D,Q,I,S⟩:=hcut;have r:G+1≠0:=oM;have Z:Hid (G+3<=wc.heap.size∧w.heap.size+3<=G):=za ⟨by have:=(S.bt).lt;omega,Y.out⟩;obtain⟨wE,bw⟩:∃ wE,wE=wc:=⟨_,rfl⟩;subst bw;have cS:∀ W,Frm (fun k=>k=w.heap.size∨k=w.heap.size+1) wE W->∀ q,W.cell? ⟨G,q,none⟩=#[Value.int .i64 s.al,.int .i64 s.st,.slice A n c][q]?:=fun W hW=>(S.bs.frm hW (oH Z.out)).cell;have cT:∀ W,Frm (fun k=>k=w.heap.size∨k=w.heap.size+1) wE W->∀ q,W.cell? ⟨G+1+1,q,none⟩=#[Value.int .i64 t.al,.int .i64 t.st,.slice C k E][q]?:=fun W hW=>(S.bt.frm hW (oH Z.out)).cell;have cP:∀ W,Frm (fun k=>k=w.heap.size∨k=w.heap.size+1) wE W->∀ q,W.cell? ⟨G+1,q,none⟩=#[Value.int .i64 p.al,.slice B m d,.slice D Q I][q]?:=fun W hW=>((S.ay r).frm hW (oH Z.out)).cell;have aQ:Frm (fun k=>k=w.heap.size∨k=w.heap.size+1) wE wE.drew:=(dB wE).drew.aj;have l:=S.ext (dB wE).drew;go_wp2_with fail
  refine tR (fun X=>Frm (fun k=>k=w.heap.size∨k=w.heap.size+1) wE X) [5] (Ord.of [0,1,2,3,4,5]) ?_;refine tQ ?_;generalize hwD:wE.drew=wD at *;clear hwD;have ha:=l.at_;have zs:=l.zs;have zt:=l.zt;have zp:=l.zp;have cs:=zs.cell;have fs:=zs.frozen;clear l S;refine zB fun K hK=>?_;go_simp;have q1:=zaA zs rfl (.int .i64 s.al) (.int .i64 s.st) (.slice A n c);have e1:=zaj wD w.heap.size (.int .i64 s.al) (.int .i64 s.st) (.slice A n c);replace ha:=ha.far zs e1 oM dM dM;replace zt:=zt.frm e1 oM;replace zp:=zp.frm e1 oM;have aB:=aQ.trans (e1.mono (T:=fun k=>k=w.heap.size∨k=w.heap.size+1) (fun k _ hk=>.inl hk));refine hK.out _ _ aB ?_;refine pT ?_;clear cs fs zs e1;generalize ((wD.setCell w.heap.size s.al).setCell ⟨w.heap.size,1,none⟩ s.st).setCell ⟨w.heap.size,2,none⟩ (.slice A n c)=wA at *;have ct:=zt.cell;have ft:=zt.frozen;refine zB fun K hK=>?_;go_simp;have q2:=zaA zt rfl (.int .i64 t.al) (.int .i64 t.st) (.slice C k E);have e2:=zaj wA (w.heap.size+1) (.int .i64 t.al) (.int .i64 t.st) (.slice C k E);replace ha:=ha.far zt e2 oM dM dM;replace zp:=zp.frm e2 oM;replace q1:=q1.frm e2 oM;have aR:=aB.trans (e2.mono (T:=fun k=>k=w.heap.size∨k=w.heap.size+1) (fun k _ hk=>.inr hk));refine hK.out _ _ aR ?_;refine pT ?_;clear ct ft zt e2 aB;generalize ((wA.setCell ⟨w.heap.size+1,0,none⟩ t.al).setCell ⟨w.heap.size+1,1,none⟩ t.st).setCell ⟨w.heap.size+1,2,none⟩ (.slice C k E)=wB at *;have cp:=zp.cell;have fp:=zp.frozen;refine zN fun K hK=>?_;go_simp;have q3:=zaA zp rfl (.int .i64 p.al) (.slice B m d) (.slice D Q I);have e3:=zaj wB (w.heap.size+1+1) (.int .i64 p.al) (.slice B m d) (.slice D Q I);replace ha:=ha.far zp e3 oM dM dM;replace q1:=q1.frm e3 oM;replace q2:=q2.frm e3 oM;refine hK.out _ _ ?_;refine zal ?_;clear cp fp zp e3 aR aQ cS cT cP;generalize ((wB.setCell ⟨w.heap.size+1+1,0,none⟩ p.al).setCell ⟨w.heap.size+1+1,1,none⟩ (.slice B m d)).setCell ⟨w.heap.size+1+1,2,none⟩ (.slice D Q I)=wC at *;have bh:=za ha;clear ha;go_wp2_with fail
  have c1:=q1.cell;have bd:=q2.cell;have c3:=q3.cell;exact bodyPost_ret (v:=.tuple #[.agg #[s.al,s.st,.slice A n c],.agg #[t.al,t.st,.slice C k E],.agg #[p.al,.slice B m d,.slice D Q I]]) (by simp [results,Tryz.results90,go_sem,c1,bd,c3]) rfl ⟨s,A,n,c,t,C,k,E,p,B,m,d,D,Q,I,rfl,bh.out⟩
def zcx (w:List Nat):Nat:=w.foldl (fun v l=>v*7+(l+1)) 0
theorem zaG (w:List Nat) (l:Nat):zcx (w++[l])=zcx w*7+(l+1):=by simp [zcx]
theorem zfE:zcx []=0:=rfl
theorem zaf {α:Type} (w:List α):w=[]∨∃ u l,w=u++[l]:=by
 rcases List.eq_nil_or_concat w with h|⟨u,l,h⟩
 ·exact Or.inl h
 ·exact Or.inr ⟨u,l,by simpa using h⟩
theorem wval_inj:∀ (n:Nat) (u v:List Nat),u.length<=n->(∀ l∈u,l<6)->(∀ l∈v,l<6)->zcx u=zcx v->u=v:=by
 intro n
 induction n with
 |zero =>
  intro u v hu _ _ h;obtain rfl:u=[]:=dU oM;rcases zaf v with rfl|⟨v,m,rfl⟩
  ·rfl
  ·rw [zaG,zfE] at h;omega
 |succ n ih =>
  intro u v hu h1 h2 h;rcases zaf u with rfl|⟨u,l,rfl⟩
  ·rcases zaf v with rfl|⟨v,m,rfl⟩
   ·rfl
   ·rw [zaG,zfE] at h;omega
  ·rcases zaf v with rfl|⟨v,m,rfl⟩
   ·rw [zaG,zfE] at h;omega
   ·have c:=h1 l sM;have d:=h2 m sM;rw [zaG,zaG] at h;have a:l=m:=oM;have b:zcx u=zcx v:=oM;simp only [dN,dZ] at hu;rw [a,ih u v oM (fun x hx=>h1 x (by simp [hx])) (fun x hx=>h2 x (by simp [hx])) b]
inductive zbu (d:Nat->Nat->List Nat) (start:List Nat):List Nat->Nat->Prop where
 |nil {x:Nat} (h:x∈start):zbu d start [] x
 |snoc {w:List Nat} {l n x:Nat} (h:zbu d start w n) (hx:x∈d n l):zbu d start (w++[l]) x
theorem zbu.inv {d:Nat->Nat->List Nat} {w:List Nat} (h:zbu d start (w++[l]) x):∃ n,zbu d start w n∧x∈d n l:=by
 generalize hv:w++[l]=v at h;cases h with
 |nil _=>simp at hv
 |@snoc w' l' n _ h hx =>
  have:=List.append_inj' hv rfl;obtain⟨rfl,a⟩:=this;simp at a;subst a;exact⟨n,h,hx⟩
theorem zbu.ah {d:Nat->Nat->List Nat}  (h:zbu d start [] x):x∈start:=by
 generalize hv:([]:List Nat)=v at h;cases h with
 |nil h=>exact h
 |snoc _ _=>simp at hv
def visN (st:List Bool × List Nat) (n:Nat):List Bool × List Nat:=if st.1.getD n true then st else (st.1.set n true,st.2++[n])
def vis (S:List Bool) (ns:List Nat):List Bool × List Nat:=ns.foldl visN (S,[])
theorem vis_snoc (S:List Bool) (ns:List Nat) (n:Nat):vis S (ns++[n])=visN (vis S ns) n:=by simp [vis]
theorem zgD (S:List Bool) (ns:List Nat)(hn:∀ n∈ns,n<S.length) :
  (vis S ns).1.length=S.length∧(∀ x,x<S.length->((vis S ns).1.getD x true=true↔S.getD x true=true∨x∈ns))∧(∀ x,x∈(vis S ns).2↔x∈ns∧S.getD x true=false):=by
 have l:∀ k,k<=ns.length->(vis S (ns.take k)).1.length=S.length∧(∀ x,x<S.length->((vis S (ns.take k)).1.getD x true=true↔S.getD x true=true∨x∈ns.take k))∧(∀ x,x∈(vis S (ns.take k)).2↔x∈ns.take k∧S.getD x true=false):=by
  intro k
  induction k with
  |zero=>intro _;exact⟨rfl,fun x _=>by simp [vis],fun x=>by simp [vis]⟩
  |succ k ih =>
   intro hk;obtain⟨i,d,f⟩:=ih oM;have g:ns[k]?=some ns[k]:=dD oM;have c:=hn ns[k] (e9 _);rw [dO,g];simp only [eD];generalize ns[k]=n at *;rw [vis_snoc];generalize vis S (ns.take k)=o at *;obtain⟨T,p⟩:=o;simp only at i d f;unfold visN;simp only;cases hT:T.getD n true
   ·have a:=d n c;rw [hT] at a;have j:S.getD n true=false:=by cases h:S.getD n true<;>simp_all
    have m:n∉ns.take k:=fun h=>by simp [h] at a
    refine⟨by simp [i],fun x g=>?_,fun x=>?_⟩
    ·simp only [iE,if_false,dF,gZ,fF]
     by_cases e:x=n
     ·subst e;rw [List.getElem?_set_self oM];simp
     ·rw [List.getElem?_set_ne oM];have:=d x g;rw [dF,dF] at this;simp only [e,or_false];exact this
    ·simp only [iE,if_false,gZ,fF];constructor
     ·rintro (h|rfl)
      ·exact⟨Or.inl ((f x).1 h).1,((f x).1 h).2⟩
      ·exact⟨Or.inr rfl,j⟩
     ·rintro ⟨h|rfl,b⟩
      ·exact Or.inl ((f x).2 ⟨h,b⟩)
      ·exact Or.inr rfl
   ·refine⟨i,fun x g=>?_,fun x=>?_⟩
    ·simp only [if_true,gZ,fF];rw [d x g];have a:=(d n c).1 hT;constructor
     ·rintro (h|h)
      ·exact Or.inl h
      ·exact Or.inr (Or.inl h)
     ·rintro (h|h|rfl)
      ·exact Or.inl h
      ·exact Or.inr h
      ·exact a
    ·simp only [if_true,gZ,fF];rw [f x];have a:=(d n c).1 hT;constructor
     ·rintro ⟨h,b⟩;exact⟨Or.inl h,b⟩
     ·rintro ⟨h|rfl,b⟩
      ·exact⟨h,b⟩
      ·rcases a with h|h
       ·rw [h] at b;cases b
       ·exact⟨h,b⟩
 have:=l ns.length (dE _);rwa [eI] at this
structure Stp where
 parent:Int
 letter:Nat
 nodes:List Nat
structure Bfs (d:Nat->Nat->List Nat) (start:List Nat) (goal:Nat->Bool) (L:List Nat) (N:Nat) (S:List Bool) (st:List Stp) (ws:List (List Nat)) (i j:Nat):Prop where
 len:S.length=N
 wl:ws.length=st.length
 small:∀ (k:Nat) (p:Stp),st[k]?=some p->∀ x∈p.nodes,x<N
 some_:∀ (k:Nat) (p:Stp),st[k]?=some p->p.nodes≠[]
 word:∀ (k:Nat) (p:Stp),st[k]?=some p->(k=0∧p.parent = -1∧ws.getD k []=[])∨(∃ a b:Nat,p.parent=(a:Int)∧a<k∧(a<i∨a=i∧b<j)∧L[b]?=some p.letter∧ws.getD k []=ws.getD a []++[p.letter])
 goes:∀ (k:Nat) (p:Stp),st[k]?=some p->∀ x∈p.nodes,zbu d start (ws.getD k []) x
 incr:∀ a b:Nat,a<b->b<st.length->zcx (ws.getD a [])<zcx (ws.getD b [])
 seen:∀ x,x<N->(S.getD x true=true↔∃ (k:Nat) (p:Stp),st[k]?=some p∧x∈p.nodes)
 first:∀ x∈start,∃ (p:Stp),st[0]?=some p∧x∈p.nodes
 zero:∀ p,st[0]?=some p->ws.getD 0 []=[]
 proc:∀ (k:Nat) (p:Stp) (b l:Nat),st[k]?=some p->L[b]?=some l->(k<i∨k=i∧b<j)->∀ n∈p.nodes,∀ x∈d n l,∃ (k':Nat) (q:Stp),st[k']?=some q∧x∈q.nodes∧zcx (ws.getD k' [])<=zcx (ws.getD k []++[l])
 dull:∀ (k:Nat) (p:Stp),st[k]?=some p->∀ x∈p.nodes,goal x=false
section
variable {d:Nat->Nat->List Nat} {start:List Nat} {goal:Nat->Bool} {L:List Nat} {N:Nat} {S:List Bool} {st:List Stp} {ws:List (List Nat)} {i j:Nat}
def Rise (L:List Nat):Prop:=(∀ l∈L,l<6)∧∀ (a b x y:Nat),L[a]?=some x->L[b]?=some y->a<b->x<y
theorem Bfs.before (h:Bfs d start goal L N S st ws i j) {V:Nat}(hV:∀ (k:Nat) (p:Stp) (b l:Nat),st[k]?=some p->L[b]?=some l->zcx (ws.getD k []++[l])<V->(k<i∨k=i∧b<j)) :
  ∀ (m:Nat) (v:List Nat),v.length<=m->(∀ l∈v,l∈L)->zcx v<V->∀ x,zbu d start v x->∃ (k:Nat) (p:Stp),st[k]?=some p∧x∈p.nodes∧zcx (ws.getD k [])<=zcx v:=by
 intro m
 induction m with
 |zero =>
  intro v hv _ _ x hx;obtain rfl:v=[]:=dU oM;obtain⟨p,a,c⟩:=h.first x hx.ah
  exact⟨0,p,a,c,by rw [h.zero p a];exact dE _⟩
 |succ m ih =>
  intro v hv hl hlt x hx;rcases zaf v with rfl|⟨u,l,rfl⟩
  ·obtain⟨p,a,c⟩:=h.first x hx.ah
   exact⟨0,p,a,c,by rw [h.zero p a];exact dE _⟩
  ·obtain⟨n,z,s⟩:=hx.inv;simp only [dN,dZ] at hv;have o:=hl l sM;obtain⟨b,y⟩:=eB o;rw [zaG] at hlt;obtain⟨k,p,a,r,D⟩:=ih u oM (fun x hx=>hl x (by simp [hx])) oM n z;have f:zcx (ws.getD k []++[l])<V:=by rw [zaG];omega
   obtain⟨C,q,B,t,g⟩:=h.proc k p b l a y (hV k p b l a y f) n r x s;exact⟨C,q,B,t,by rw [zaG] at g ⊢;omega⟩
theorem Bfs.none (h:Bfs d start goal L N S st ws i j)(hend:st.length<=i) (hv:∀ l∈v,l∈L) (hx:zbu d start v x):goal x=false:=by
 by_cases hst:st=[]
 ·subst hst;exfalso;have:∀ (m:Nat) (v:List Nat),v.length<=m->∀ x,¬ zbu d start v x:=by
   intro m
   induction m with
   |zero =>
    intro v hv x hx;obtain rfl:v=[]:=dU oM;obtain⟨p,a,_⟩:=h.first x hx.ah
    simp at a
   |succ m ih =>
    intro v hv x hx;rcases zaf v with rfl|⟨u,l,rfl⟩
    ·obtain⟨p,a,_⟩:=h.first x hx.ah
     simp at a
    ·obtain⟨n,f,_⟩:=hx.inv;exact ih u (by simp at hv;omega) n f
  exact this v.length v (dE _) x hx
 ·obtain⟨k,p,a,c,_⟩:=h.before (V:=zcx v+1) (fun k p b l a hb _=>Or.inl (by have:=(List.getElem?_eq_some_iff.1 a).1;omega)) v.length v (dE _) hv oM x hx;exact h.dull k p a x c
theorem Bfs.ahead (h:Bfs d start goal L N S st ws i j)(hL:Rise L) (hi:i<st.length)(hl:L[j]?=some l) (hk:k<st.length):zcx (ws.getD k [])<zcx (ws.getD i []++[l]):=by
 rw [zaG];rcases h.word k _ (dD hk) with ⟨_,_,e⟩|⟨a,b,_,n,c,f,e⟩
 ·rw [e,zfE];omega
 ·rw [e,zaG];have o:=hL.1 _ (dC f);rcases c with g|⟨rfl,m⟩
  ·have:=h.incr a i g hi;omega
  ·have:=hL.2 b j _ _ f hl m;omega
theorem Bfs.taken (h:Bfs d start goal L N S st ws i j)(hL:Rise L) (hi:i<st.length)(hl:L[j]?=some l) (k:Nat) (p:Stp) (b m:Nat)(hp:st[k]?=some p)(hb:L[b]?=some m)(hlt:zcx (ws.getD k []++[m])<zcx (ws.getD i []++[l])):k<i∨k=i∧b<j:=by
 rw [zaG,zaG] at hlt;have f:=(List.getElem?_eq_some_iff.1 hp).1;have g:=hL.1 _ (dC hb);have n:=hL.1 _ (dC hl);rcases eU k i with a|a|a
 ·exact Or.inl a
 ·subst a;refine Or.inr ⟨rfl,?_⟩;rcases eU b j with c|c|c
  ·exact c
  ·subst c;rw [hb] at hl;have:=Option.some.inj hl;omega
  ·have:=hL.2 j b _ _ hl hb c;omega
 ·have:=h.incr i k a f;omega
theorem Bfs.found (h:Bfs d start goal L N S st ws i j)(hL:Rise L) (hi:i<st.length)(hl:L[j]?=some l) (hv:∀ x∈v,x∈L)(hlt:zcx v<zcx (ws.getD i []++[l])) (hx:zbu d start v x):goal x=false:=by
 obtain⟨k,p,a,c,_⟩:=h.before (fun k p b m a hb hlt=>h.taken hL hi hl k p b m a hb hlt) v.length v (dE _) hv hlt x hx;exact h.dull k p a x c
theorem Bfs.row (h:Bfs d start goal L N S st ws i j)(hj:L.length<=j):Bfs d start goal L N S st ws (i+1) 0:=
 { h with
  word:=fun k p hp=>by
   rcases h.word k p hp with h1|⟨a,b,h1,h2,h3,h4⟩
   ·exact Or.inl h1
   ·exact Or.inr ⟨a,b,h1,h2,oM,h4⟩
  proc:=fun k p b l hp hb hk=>by
   have hbl:=(List.getElem?_eq_some_iff.1 hb).1
   exact h.proc k p b l hp hb oM }
def addS (st:List Stp) (a:Int) (l:Nat) (fr:List Nat):List Stp:=if fr=[] then st else st++[⟨a,l,fr⟩]
def addW (ws:List (List Nat)) (w:List Nat) (fr:List Nat):List (List Nat):=if fr=[] then ws else ws++[w]
theorem zff {ws:List (List Nat)}  (w:List Nat)(hk:k<ws.length):(ws++[w]).getD k []=ws.getD k []:=by
 rw [dF,dF,dJ hk]
theorem zgN {ws:List (List Nat)} (w:List Nat):(ws++[w]).getD ws.length []=w:=by
 rw [dF,dP (dE _),fC];rfl
theorem Bfs.step (h:Bfs d start goal L N S st ws i j)(hL:Rise L)  {pi:Stp}(hi:st[i]?=some pi)(hl:L[j]?=some l) {rs:List Nat}(hrs:∀ x,x∈rs↔∃ n∈pi.nodes,x∈d n l)(hN:∀ x∈rs,x<N)(hg:∀ x∈(vis S rs).2,goal x=false) :
  Bfs d start goal L N (vis S rs).1 (addS st i l (vis S rs).2) (addW ws (ws.getD i []++[l]) (vis S rs).2) i (j+1):=by
 have M:=(List.getElem?_eq_some_iff.1 hi).1;obtain⟨Y,Z,Q⟩:=zgD S rs (fun n E=>by rw [h.len];exact hN n E);generalize (vis S rs).1=T at *;generalize (vis S rs).2=J at *;have s:=fun k v=>h.ahead hL M hl (k:=k) v
 by_cases hfr:J=[]
 ·subst hfr;rw [addS,if_pos rfl,addW,if_pos rfl];have I:∀ x∈rs,S.getD x true=true:=fun x hx=>by
   cases hS:S.getD x true
   ·have:=(Q x).2 ⟨hx,hS⟩;cases this
   ·rfl
  refine { h with len:=Y.trans h.len,word:=?_,seen:=?_,proc:=?_ }
  ·intro k p c;rcases h.word k p c with f|⟨a,b,f,h2,h3,h4⟩
   ·exact Or.inl f
   ·exact Or.inr ⟨a,b,f,h2,oM,h4⟩
  ·intro x hx;rw [Z x (by rw [h.len];exact hx)];constructor
   ·rintro (f|f)
    ·exact (h.seen x hx).1 f
    ·exact (h.seen x hx).1 (I x f)
   ·intro f;exact Or.inl ((h.seen x hx).2 f)
  ·intro k p b m c hb v n E x hx
   by_cases hkj:k=i∧b=j
   ·obtain⟨rfl,rfl⟩:=hkj;rw [hi] at c;obtain rfl:=Option.some.inj c;rw [hl] at hb;obtain rfl:=Option.some.inj hb;have z:=(hrs x).2 ⟨n,E,hx⟩;obtain⟨F,q,H,y⟩:=(h.seen x (hN x z)).1 (I x z);exact⟨F,q,H,y,Nat.le_of_lt (s F (List.getElem?_eq_some_iff.1 H).1)⟩
   ·exact h.proc k p b m c hb oM n E x hx
 ·rw [addS,if_neg hfr,addW,if_neg hfr];have g:∀ {k:Nat} {p:Stp},(st++[(⟨i,l,J⟩:Stp)])[k]?=some p->(k<st.length∧st[k]?=some p)∨(k=st.length∧p=⟨i,l,J⟩):=by
   intro k p c;rcases eU k st.length with v|v|v
   ·rw [dJ v] at c;exact Or.inl ⟨v,c⟩
   ·rw [dP oM,v,fC] at c;exact Or.inr ⟨v,(Option.some.inj c).symm⟩
   ·rw [eC (by simp;omega)] at c;cases c
  have r:∀ {k:Nat} {p:Stp},st[k]?=some p->(st++[(⟨i,l,J⟩:Stp)])[k]?=some p:=fun {k p} c=>by
   rw [dJ (List.getElem?_eq_some_iff.1 c).1];exact c
  have G:(st++[(⟨i,l,J⟩:Stp)])[st.length]?=some ⟨i,l,J⟩:=by rw [dP (dE _),fC];rfl
  have O:=h.wl;have o:∀ k,k<st.length->(ws++[ws.getD i []++[l]]).getD k []=ws.getD k []:=fun k v=>zff _ oM;have C:(ws++[ws.getD i []++[l]]).getD st.length []=ws.getD i []++[l]:=by rw [← O];exact zgN _
  have u:∀ x∈J,x∈rs∧S.getD x true=false:=fun x hx=>(Q x).1 hx;refine⟨Y.trans h.len,by simp [O],?_,?_,?_,?_,?_,?_,?_,?_,?_,?_⟩
  ·intro k p c x hx;rcases g c with ⟨_,f⟩|⟨_,rfl⟩
   ·exact h.small k p f x hx
   ·exact hN x (u x hx).1
  ·intro k p c;rcases g c with ⟨_,f⟩|⟨_,rfl⟩
   ·exact h.some_ k p f
   ·exact hfr
  ·intro k p c;rcases g c with ⟨B,f⟩|⟨rfl,rfl⟩
   ·rcases h.word k p f with ⟨e0,R,U⟩|⟨a,b,R,U,e3,e4,e5⟩
    ·exact Or.inl ⟨e0,R,by rw [o k B];exact U⟩
    ·exact Or.inr ⟨a,b,R,U,oM,e4,by rw [o k B,o a oM];exact e5⟩
   ·exact Or.inr ⟨i,j,rfl,M,Or.inr ⟨rfl,oM⟩,hl,by rw [C,o i M]⟩
  ·intro k p c x hx;rcases g c with ⟨B,f⟩|⟨rfl,rfl⟩
   ·rw [o k B];exact h.goes k p f x hx
   ·rw [C];obtain⟨n,E,X⟩:=(hrs x).1 (u x hx).1;exact .snoc (h.goes i pi hi n E) X
  ·intro a b hab hb;simp only [dN,dZ] at hb
   by_cases hbl:b<st.length
   ·rw [o a oM,o b hbl];exact h.incr a b hab hbl
   ·obtain rfl:b=st.length:=oM;rw [o a hab,C];exact s a hab
  ·intro x hx;rw [Z x (by rw [h.len];exact hx)];constructor
   ·rintro (f|f)
    ·obtain⟨k,p,c,t⟩:=(h.seen x hx).1 f;exact⟨k,p,r c,t⟩
    ·cases hS:S.getD x true
     ·exact⟨_,_,G,(Q x).2 ⟨f,hS⟩⟩
     ·obtain⟨k,p,c,t⟩:=(h.seen x hx).1 hS;exact⟨k,p,r c,t⟩
   ·rintro ⟨k,p,c,t⟩;rcases g c with ⟨_,f⟩|⟨_,rfl⟩
    ·exact Or.inl ((h.seen x hx).2 ⟨k,p,f,t⟩)
    ·exact Or.inr (u x t).1
  ·intro x hx;obtain⟨p,c,t⟩:=h.first x hx
   exact⟨p,r c,t⟩
  ·intro p c;rcases g c with ⟨B,f⟩|⟨B,_⟩
   ·rw [o 0 B];exact h.zero p f
   ·omega
  ·intro k p b m c hb v n E x hx;rcases g c with ⟨B,f⟩|⟨rfl,rfl⟩
   ·rw [o k B]
    by_cases hkj:k=i∧b=j
    ·obtain⟨rfl,rfl⟩:=hkj;rw [hi] at f;obtain rfl:=Option.some.inj f;rw [hl] at hb;obtain rfl:=Option.some.inj hb;have z:=(hrs x).2 ⟨n,E,hx⟩;cases hS:S.getD x true
     ·exact⟨_,_,G,(Q x).2 ⟨z,hS⟩,by rw [C];exact dE _⟩
     ·obtain⟨F,q,H,y⟩:=(h.seen x (hN x z)).1 hS;have D:=(List.getElem?_eq_some_iff.1 H).1;exact⟨F,q,r H,y,by rw [o F D];exact Nat.le_of_lt (s F D)⟩
    ·obtain⟨F,q,H,y,V⟩:=h.proc k p b m f hb oM n E x hx;have D:=(List.getElem?_eq_some_iff.1 H).1;exact⟨F,q,r H,y,by rw [o F D];exact V⟩
   ·omega
  ·intro k p c x hx;rcases g c with ⟨_,f⟩|⟨_,rfl⟩
   ·exact h.dull k p f x hx
   ·exact hg x hx
theorem Bfs.begin_ {d:Nat->Nat->List Nat}  {goal:Nat->Bool} {L:List Nat} (hN:∀ x∈start,x<N)(hg:∀ x∈(vis (dT N false) start).2,goal x=false) :
  Bfs d start goal L N (vis (dT N false) start).1 (addS [] (-1) 0 (vis (dT N false) start).2) (addW [] [] (vis (dT N false) start).2) 0 0:=by
 obtain⟨r,s,t⟩:=zgD (dT N false) start (fun n hn=>by simpa using hN n hn);have o:∀ x,x<N->(dT N false).getD x true=false:=fun x hx=>by simp [dF,hx]
 generalize (vis (dT N false) start).1=T at *;generalize (vis (dT N false) start).2=i at *;have g:∀ x,x∈i↔x∈start:=fun x=>(t x).trans ⟨fun h=>h.1,fun h=>⟨h,o x (hN x h)⟩⟩;have m:∀ x,x<N->(T.getD x true=true↔x∈start):=fun x hx=>by
  rw [s x (by simpa using hx),o x hx];simp
 by_cases he:i=[]
 ·subst he;rw [addS,if_pos rfl,addW,if_pos rfl];have q:∀ x,x∉start:=fun x hx=>by have:=(g x).2 hx;cases this
  refine⟨by simpa using r,rfl,fun k p c=>by simp at c,fun k p c=>by simp at c,fun k p c=>by simp at c,fun k p c=>by simp at c,fun a b _ hb=>by simp at hb,fun x hx=>?_,fun x hx=>absurd hx (q x),fun p c=>by simp at c,fun k p b l c=>by simp at c,fun k p c=>by simp at c⟩;rw [m x hx];exact⟨fun h=>absurd h (q x),fun ⟨k,p,c,_⟩=>by simp at c⟩
 ·rw [addS,if_neg he,addW,if_neg he];have f:∀ {k:Nat} {p:Stp},([]++[(⟨-1,0,i⟩:Stp)])[k]?=some p->k=0∧p=⟨-1,0,i⟩:=by
   intro k p c;cases k with
   |zero=>exact⟨rfl,by simpa using c.symm⟩
   |succ k=>simp at c
  refine⟨by simpa using r,rfl,?_,?_,?_,?_,?_,?_,?_,?_,?_,?_⟩
  ·intro k p c x hx;obtain⟨rfl,rfl⟩:=f c;exact hN x ((g x).1 hx)
  ·intro k p c;obtain⟨rfl,rfl⟩:=f c;exact he
  ·intro k p c;obtain⟨rfl,rfl⟩:=f c;exact Or.inl ⟨rfl,rfl,rfl⟩
  ·intro k p c x hx;obtain⟨rfl,rfl⟩:=f c;exact .nil ((g x).1 hx)
  ·intro a b hab hb;simp at hb;omega
  ·intro x hx;rw [m x hx];constructor
   ·intro h;exact⟨0,_,rfl,(g x).2 h⟩
   ·rintro ⟨k,p,c,j⟩;obtain⟨rfl,rfl⟩:=f c;exact (g x).1 j
  ·intro x hx;exact⟨_,rfl,(g x).2 hx⟩
  ·intro p _;rfl
  ·intro k p b l c _ hk;omega
  ·intro k p c x hx;obtain⟨rfl,rfl⟩:=f c;exact hg x hx
end
theorem visN_cnt (st:List Bool × List Nat) (n:Nat):(visN st n).1.count true+st.2.length=st.1.count true+(visN st n).2.length:=by
 unfold visN;cases h:st.1.getD n true
 ·have b:n<st.1.length:=by
   rcases eL n st.1.length with a|a
   ·exact a
   ·rw [dF,eC a] at h;cases h
  have c:st.1[n]=false:=by rw [dF,dD b] at h;exact h
  simp only [iE,if_false];rw [List.count_set b,c];simp;omega
 ·simp
theorem foldl_cnt (ns:List Nat) (st:List Bool × List Nat):(ns.foldl visN st).1.count true+st.2.length=st.1.count true+(ns.foldl visN st).2.length:=by
 induction ns generalizing st with
 |nil=>rfl
 |cons n r ih =>
  have a:=ih (visN st n);have b:=visN_cnt st n;rw [iW];omega
theorem vis_cnt (S:List Bool) (ns:List Nat):(vis S ns).1.count true=S.count true+(vis S ns).2.length:=by
 have:=foldl_cnt ns (S,[]);simpa [vis] using this
def Cnt (S:List Bool) (st:List Stp):Prop:=(st.map fun p=>p.nodes.length).sum=S.count true
theorem Cnt.add {st:List Stp}(h:Cnt S st) (a:Int) (l:Nat) (ns:List Nat):Cnt (vis S ns).1 (addS st a l (vis S ns).2):=by
 unfold Cnt at h ⊢;rw [vis_cnt,addS]
 by_cases he:(vis S ns).2=[]
 ·rw [if_pos he,he,h];rfl
 ·rw [if_neg he];simp [h]
theorem Cnt.nil (N:Nat):Cnt (dT N false) []:=by
 unfold Cnt;simp [List.count_replicate]
theorem sum_len {l:List Nat}(h:∀ x∈l,1<=x):l.length<=l.sum:=by
 induction l with
 |nil=>simp
 |cons x r ih =>
  have a:=ih (fun y hy=>h y (by simp [hy]));have b:=h x sM;simp;omega
theorem sum_mem {l:List Nat} (h:x∈l):x<=l.sum:=by
 induction l with
 |nil=>cases h
 |cons y r ih =>
  rcases List.mem_cons.1 h with rfl|h
  ·simp
  ·have:=ih h;simp;omega
theorem Cnt.steps {st:List Stp}(h:Cnt S st)(hs:∀ (k:Nat) (p:Stp),st[k]?=some p->p.nodes≠[]):st.length<=S.length:=by
 unfold Cnt at h;have a:(st.map fun p=>p.nodes.length).length<=(st.map fun p=>p.nodes.length).sum:=sum_len (fun x hx=>by
  obtain⟨p,c,rfl⟩:=List.mem_map.1 hx;obtain⟨k,b⟩:=eB c;have:=hs k p b;have:=List.length_pos_iff.2 this;omega)
 rw [List.length_map,h] at a;exact dL a List.count_le_length
theorem Cnt.nodes {st:List Stp}(h:Cnt S st)  {p:Stp}(hp:st[k]?=some p):p.nodes.length<=S.length:=by
 unfold Cnt at h;have a:=sum_mem (List.mem_map.2 ⟨p,dC hp,rfl⟩:p.nodes.length∈st.map fun p=>p.nodes.length);rw [h] at a;exact dL a List.count_le_length
def reach (d:Nat->Nat->List Nat) (l:Nat) (ns:List Nat):List Nat:=(ns.map fun n=>d n l).flatten
theorem zgV {d:Nat->Nat->List Nat}   :x∈reach d l ns↔∃ n∈ns,x∈d n l:=by
 unfold reach;rw [List.mem_flatten];exact⟨fun ⟨ys,h1,h2⟩=>by obtain⟨n,a,rfl⟩:=List.mem_map.1 h1;exact⟨n,a,h2⟩,fun ⟨n,a,h2⟩=>⟨_,List.mem_map.2 ⟨n,a,rfl⟩,h2⟩⟩
theorem reach_snoc (d:Nat->Nat->List Nat) (l:Nat) (ns:List Nat) (n:Nat):reach d l (ns++[n])=reach d l ns++d n l:=by simp [reach]
theorem reach_take {d:Nat->Nat->List Nat}  (h:ns[k]?=some n):reach d l (ns.take (k+1))=reach d l (ns.take k)++d n l:=by
 rw [dO,h];exact reach_snoc _ _ _ _
theorem reach_len {d:Nat->Nat->List Nat} {D:Nat} (h:∀ n∈ns,(d n l).length<=D):(reach d l ns).length<=ns.length*D:=by
 induction ns with
 |nil=>simp [reach]
 |cons n r ih =>
  have a:=ih (fun x hx=>h x (by simp [hx]));have b:=h n sM;simp only [reach,eY,List.flatten_cons,dN,fR,iL,Nat.one_mul] at a ⊢;omega
def Found (d:Nat->Nat->List Nat) (start:List Nat) (goal:Nat->Bool) (L:List Nat) (v:List Nat):Prop:=
 (∀ l∈v,l∈L)∧(∃ x,zbu d start v x∧goal x=true)∧∀ u,(∀ l∈u,l∈L)->zcx u<zcx v->∀ x,zbu d start u x->goal x=false
def Lost (d:Nat->Nat->List Nat) (start:List Nat) (goal:Nat->Bool) (L:List Nat):Prop:=∀ v,(∀ l∈v,l∈L)->∀ x,zbu d start v x->goal x=false
def cho (s:Sys) (i l:Nat):List Nat:=if s.al.toNat.testBit l then letters (succ s.edges i l) 32 else [i]
def nx:List Sys->Nat->Nat->List Nat × Nat × Nat
 |[],m,_=>([0],1,m)
 |s :: r,m,l=>((cho s ((nx r m l).2.2 % s.st.toNat) l).flatMap (fun q=>(nx r m l).1.map fun x=>q*(nx r m l).2.1+x),(nx r m l).2.1*s.st.toNat,(nx r m l).2.2 / s.st.toNat)
def Sml (s:Sys):Prop:=1<=s.st∧s.st<=16∧Few s.st.toNat s.edges∧0<=s.al∧s.al<=63
theorem zfp (a k:Nat):(letters a k).Nodup:=List.Pairwise.filter _ List.nodup_range
theorem zG {a:Nat}:x∈letters a k↔x<k∧a.testBit x=true:=by simp [letters,List.mem_filter]
theorem cho_lt (h:Sml s) (hi:i<s.st.toNat):∀ q∈cho s i l,q<s.st.toNat:=by
 intro q hq;unfold cho at hq
 split at hq
 ·have b:=(zG.1 hq).2;rcases eL q s.st.toNat with a|a
  ·exact a
  ·have:=Nat.testBit_lt_two_pow (Nat.lt_of_lt_of_le (succ_lt h.2.2.1 i l) (Nat.pow_le_pow_right oM a));rw [b] at this;cases this
 ·rw [List.mem_singleton.1 hq];exact hi
theorem cho_nodup (s:Sys) (i l:Nat):(cho s i l).Nodup:=by
 unfold cho;split
 ·exact zfp _ _
 ·simp
theorem zdb {l:List Nat}(h:l.Nodup) (hl:∀ x∈l,x<p):l.length<=p:=by
 have a:l ⊆ List.range p:=fun x hx=>List.mem_range.2 (hl x hx);have:=List.Nodup.length_le_of_subset h a;simpa using this
theorem cho_len (h:Sml s) (hi:i<s.st.toNat):(cho s i l).length<=s.st.toNat:=zdb (cho_nodup s i l) (cho_lt h hi)
theorem flat_nodup {l R:List Nat} {W:Nat}(hl:l.Nodup)(hR:R.Nodup)(hW:∀ x∈R,x<W):(l.flatMap fun q=>R.map fun x=>q*W+x).Nodup:=by
 induction l with
 |nil=>simp
 |cons a r ih =>
  rw [iJ];rw [List.nodup_cons] at hl;refine List.nodup_append.2 ⟨?_,ih hl.2,?_⟩
  ·exact List.Pairwise.map _ (fun a b h=>by simpa using h) hR
  ·intro x hx y c hxy;subst hxy;obtain⟨u,m,rfl⟩:=List.mem_map.1 hx;obtain⟨b,j,c⟩:=List.mem_flatMap.1 c;obtain⟨v,n,k⟩:=List.mem_map.1 c;have g:=hW u m;have i:=hW v n;have:a=b:=by
    have d:(a*W+u) / W=a:=by rw [Nat.add_comm,Nat.add_mul_div_right _ _ oM,jD g,dW]
    have f:(b*W+v) / W=b:=by rw [Nat.add_comm,Nat.add_mul_div_right _ _ oM,jD i,dW]
    rw [← d,← f,k]
   subst this;exact hl.1 j
theorem nx_facts (h:∀ s∈ss,Sml s) (m l:Nat):1<=(nx ss m l).2.1∧(nx ss m l).2.1<=16 ^ ss.length∧(∀ x∈(nx ss m l).1,x<(nx ss m l).2.1)∧(nx ss m l).1.Nodup∧(nx ss m l).2.2<=m:=by
 induction ss with
 |nil=>simp [nx]
 |cons s r ih =>
  obtain⟨g,i,f,j,k⟩:=ih fun s b=>h s (List.mem_cons_of_mem _ b);have b:=h s List.mem_cons_self;have a:1<=s.st.toNat∧s.st.toNat<=16:=by have:=b.1;have:=b.2.1;omega
  refine⟨Nat.mul_pos g a.1,?_,fun x c=>?_,flat_nodup (cho_nodup _ _ _) j f,dL (Nat.div_le_self _ _) k⟩
  ·rw [nx,fR,Nat.pow_succ];exact Nat.mul_le_mul i a.2
  ·rw [nx] at c ⊢;obtain⟨q,n,c⟩:=List.mem_flatMap.1 c;obtain⟨y,o,rfl⟩:=List.mem_map.1 c;have d:=cho_lt b (Nat.mod_lt _ a.1) q n;have p:=f y o
   calc q*(nx r m l).2.1+y<q*(nx r m l).2.1+(nx r m l).2.1:=oM
    _=(q+1)*(nx r m l).2.1:=by rw [iL,Nat.one_mul]
    _<=s.st.toNat*(nx r m l).2.1:=jB _ d
    _=(nx r m l).2.1*s.st.toNat:=fO _ _
theorem nx_len (h:∀ s∈ss,Sml s) (m l:Nat):(nx ss m l).1.length<=16 ^ ss.length:=by
 obtain⟨d,a,b,c,_⟩:=nx_facts h m l;exact dL (zdb c b) a
def place (a l:Nat):Nat:=(letters a l).length
def aGo (a:Aut) (q l:Nat):Nat:=if a.al.toNat.testBit l then ((a.next.getD q []).getD (place a.al.toNat l) 0).toNat else q
abbrev Mem:=Nat × (Nat->Nat->List Nat)
def zdA (s:Sys):Mem:=(s.st.toNat,cho s)
def zbW (a:Aut):Mem:=(a.next.length,fun q l=>[aGo a q l])
def zax:List Nat->Nat
 |[]=>1
 |m :: r=>m*zax r
def zJ (ms:List Mem):Nat:=zax (ms.map Prod.fst)
theorem zdd (m:Mem) (r:List Mem):zJ (m :: r)=m.1*zJ r:=rfl
theorem zcL (a b:List Nat):zax (a++b)=zax a*zax b:=by
 induction a with
 |nil=>simp [zax]
 |cons x r ih=>rw [gP,zax,zax,ih,iM]
theorem zbI (a b:List Mem):zJ (a++b)=zJ a*zJ b:=by
 unfold zJ;rw [eK,zcL]
theorem prodS_pos {l:List Nat}(h:∀ x∈l,1<=x):1<=zax l:=by
 induction l with
 |nil=>simp [zax]
 |cons x r ih=>exact Nat.mul_pos (h x sM) (ih fun y hy=>h y (by simp [hy]))
def dec:List Nat->Nat->List Nat
 |[],_=>[]
 |s :: r,x=>(x / zax r % s) :: dec r x
theorem zcX (l:List Nat) (x:Nat):(dec l x).length=l.length:=by
 induction l with
 |nil=>rfl
 |cons s r ih=>simp [dec,ih]
theorem zit {l:List Nat} {s:Nat}(h:l[k]?=some s):(dec l x)[k]?=some (x / zax (l.drop (k+1)) % s):=by
 induction l generalizing k with
 |nil=>simp at h
 |cons t r ih =>
  cases k with
  |zero=>simp at h;subst h;simp [dec]
  |succ k=>simp at h;simpa [dec] using ih h
def encF (acc:Nat):List Nat->List Nat->Nat
 |s :: r,x :: xs=>encF (acc*s+x) r xs
 |_,_=>acc
def pnx:List Mem->Nat->Nat->List Nat
 |[],_,_=>[0]
 |m :: r,x,l=>(m.2 (x / zJ r % m.1) l).flatMap fun q=>(pnx r x l).map fun y=>q*zJ r+y
def zec (m:Mem):Prop:=1<=m.1∧∀ q l,q<m.1->l<6->∀ x∈m.2 q l,x<m.1
theorem zfr {ms:List Mem}(h:∀ m∈ms,zec m):1<=zJ ms:=prodS_pos fun x hx=>by
 obtain⟨m,hm,rfl⟩:=List.mem_map.1 hx
 exact (h m hm).1
theorem zic {ms:List Mem}(h:∀ m∈ms,zec m) (hl:l<6):∀ y∈pnx ms x l,y<zJ ms:=by
 induction ms with
 |nil=>intro y a;simp [pnx] at a;subst a;simp [zJ,zax]
 |cons m r ih =>
  intro y a;rw [pnx] at a;obtain⟨q,c,a⟩:=List.mem_flatMap.1 a;obtain⟨z,d,rfl⟩:=List.mem_map.1 a;have b:=(h m sM).2 _ l (Nat.mod_lt _ (h m sM).1) hl q c;have f:=ih (fun m hm=>h m (by simp [hm])) z d;rw [zdd]
  calc q*zJ r+z<q*zJ r+zJ r:=oM
   _=(q+1)*zJ r:=by rw [iL,Nat.one_mul]
   _<=m.1*zJ r:=jB _ b
theorem zfM (a b:List Mem) (x l:Nat):pnx (a++b) x l=(pnx a (x / zJ b) l).flatMap fun q=>(pnx b x l).map fun y=>q*zJ b+y:=by
 induction a with
 |nil=>simp [pnx]
 |cons m r ih =>
  rw [gP,pnx,pnx,ih,zbI,List.flatMap_assoc];rw [iT,fO (zJ b) (zJ r)]
  congr 1
  funext q
  rw [List.map_flatMap,List.flatMap_map]
  congr 1
  funext z
  rw [List.map_map]
  congr 1
  funext y
  simp only [Function.comp];rw [iL,iM,Nat.add_assoc]
theorem nx_pnx (ss:List Sys) (m l:Nat):nx ss m l=(pnx (ss.map zdA) m l,zJ (ss.map zdA),m / zJ (ss.map zdA)):=by
 induction ss with
 |nil=>simp [nx,pnx,zJ,zax]
 |cons s r ih =>
  rw [nx,ih,eY,pnx,zdd];simp only [zdA];rw [iT,fO (zJ _) s.st.toNat]
theorem pnx_two (a p:Aut) (x l:Nat):pnx [zbW a,zbW p] x l=[aGo a (x / p.next.length % a.next.length) l*p.next.length+aGo p (x % p.next.length) l]:=by
 simp [pnx,zbW,zJ,zax]
theorem pnx_one (p:Aut) (x l:Nat):pnx [zbW p] x l=[aGo p (x % p.next.length) l]:=by
 simp [pnx,zbW,zJ,zax]
theorem pnx_under (ss:List Sys) (a p:Aut) (x l:Nat) :
  pnx (ss.map zdA++[zbW a,zbW p]) x l=(nx ss (x / p.next.length / a.next.length) l).1.map fun y=>y*a.next.length*p.next.length+(aGo a (x / p.next.length % a.next.length) l*p.next.length+aGo p (x % p.next.length) l):=by
 have b:zJ [zbW a,zbW p]=a.next.length*p.next.length:=by simp [zJ,zax,zbW]
 rw [zfM,pnx_two,nx_pnx,b,iT,fO p.next.length a.next.length];simp only [eY,List.map_nil,← List.map_eq_flatMap,iM]
def free:Aut:=⟨0,[[]],[true]⟩
theorem pnx_free (ss:List Sys) (p:Aut) (x l:Nat):pnx (ss.map zdA++[zbW free,zbW p]) x l=pnx (ss.map zdA++[zbW p]) x l:=by
 have a:∀ q l,aGo free q l=q:=fun q l=>by simp [aGo,free]
 rw [zfM,zfM,pnx_two,pnx_one,a];have b:zJ [zbW free,zbW p]=p.next.length:=by simp [zJ,zax,zbW,free]
 have c:zJ [zbW p]=p.next.length:=by simp [zJ,zax,zbW]
 rw [b,c];have d:free.next.length=1:=rfl;rw [d,Nat.mod_one,Nat.zero_mul,dW]
def fwd (cs:List (Nat × List Nat)):List Nat:=cs.foldl (fun out c=>out.flatMap fun o=>c.2.map fun x=>o*c.1+x) [0]
theorem zix (cs:List (Nat × List Nat)) (c:Nat × List Nat):fwd (cs++[c])=(fwd cs).flatMap fun o=>c.2.map fun x=>o*c.1+x:=by simp [fwd]
def chs:List Mem->Nat->Nat->List (Nat × List Nat)
 |[],_,_=>[]
 |m :: r,x,l=>(m.1,m.2 (x / zJ r % m.1) l) :: chs r x l
theorem zfJ (ms:List Mem) (x l:Nat):(chs ms x l).length=ms.length:=by
 induction ms with
 |nil=>rfl
 |cons m r ih=>simp [chs,ih]
theorem chs_get {ms:List Mem}  {m:Mem}(h:ms[k]?=some m):(chs ms x l)[k]?=some (m.1,m.2 (x / zJ (ms.drop (k+1)) % m.1) l):=by
 induction ms generalizing k with
 |nil=>simp at h
 |cons t r ih =>
  cases k with
  |zero=>simp at h;subst h;simp [chs]
  |succ k=>simp at h;simpa [chs] using ih h
theorem foldl_pnx (ms:List Mem) (x l:Nat) (out:List Nat):(chs ms x l).foldl (fun out c=>out.flatMap fun o=>c.2.map fun x=>o*c.1+x) out=out.flatMap fun o=>(pnx ms x l).map fun y=>o*zJ ms+y:=by
 induction ms generalizing out with
 |nil=>simp [chs,pnx,zJ,zax]
 |cons m r ih =>
  rw [chs,iW,ih,pnx,List.flatMap_assoc]
  congr 1
  funext o
  rw [List.flatMap_map,List.map_flatMap]
  congr 1
  funext q
  rw [List.map_map]
  congr 1
  funext y
  simp only [Function.comp,zdd];rw [iL,iM,Nat.add_assoc]
theorem fwd_pnx (ms:List Mem) (x l:Nat):fwd (chs ms x l)=pnx ms x l:=by
 have:=foldl_pnx ms x l [0];simpa [fwd] using this
theorem flat_len {α β:Type} {l:List α} {f:α->List β} (h:∀ x∈l,(f x).length<=k):(l.flatMap f).length<=l.length*k:=by
 induction l with
 |nil=>simp
 |cons x r ih =>
  have a:=ih fun y hy=>h y (by simp [hy]);have b:=h x sM;rw [iJ,dN,fR,iL,Nat.one_mul];omega
theorem fwd_len {cs:List (Nat × List Nat)}(h:∀ c∈cs,c.2.length<=c.1):(fwd cs).length<=zax (cs.map Prod.fst):=by
 have a:∀ n,n<=cs.length->(fwd (cs.take n)).length<=zax ((cs.take n).map Prod.fst):=by
  intro n
  induction n with
  |zero=>intro _;simp [fwd,zax]
  |succ n ih =>
   intro hn;have b:cs[n]?=some cs[n]:=dD oM;rw [dO,b];simp only [eD];rw [zix,eK,zcL];refine dL (flat_len (k:=(cs[n]).2.length) fun x _=>sM) ?_;refine Nat.mul_le_mul (ih oM) ?_;simpa [zax] using h cs[n] (e9 _)
 have:=a cs.length (dE _);rwa [eI] at this
theorem fwd_lt {cs:List (Nat × List Nat)}(h:∀ c∈cs,∀ x∈c.2,x<c.1):∀ y∈fwd cs,y<zax (cs.map Prod.fst):=by
 have b:∀ n,n<=cs.length->∀ y∈fwd (cs.take n),y<zax ((cs.take n).map Prod.fst):=by
  intro n
  induction n with
  |zero=>intro _ y a;simp [fwd] at a;subst a;simp [zax]
  |succ n ih =>
   intro hn y a;have f:cs[n]?=some cs[n]:=dD oM;rw [dO,f] at a ⊢;simp only [eD] at a ⊢;rw [zix] at a;rw [eK,zcL];obtain⟨o,g,a⟩:=List.mem_flatMap.1 a;obtain⟨x,i,rfl⟩:=List.mem_map.1 a;have d:=ih oM o g;have j:=h cs[n] (e9 _) x i;simp only [eY,List.map_nil,zax,Nat.mul_one]
   calc o*(cs[n]).1+x<o*(cs[n]).1+(cs[n]).1:=oM
    _=(o+1)*(cs[n]).1:=by rw [iL,Nat.one_mul]
    _<=_:=jB _ d
 have:=b cs.length (dE _);rwa [eI] at this
theorem zeO (h:Sml s):zec (zdA s):=⟨by have:=h.1;simp only [zdA];omega,fun q l hq hl x hx=>cho_lt h hq x hx⟩
theorem zl (h:zi a=true):(0<=a.al∧a.al<=63)∧(1<=a.next.length∧a.next.length<=12)∧a.acc.length=a.next.length∧∀ (q:Nat) (row:List Int),a.next[q]?=some row->row.length=(letters a.al.toNat 6).length∧∀ x∈row,0<=x∧x<a.next.length:=by
 simp only [zi,dI,decide_eq_true_eq,eH] at h;obtain⟨b,c,d,f⟩:=h;refine⟨b,c,d,fun q row hr=>?_⟩;have:=f row (dC hr);simp only [ziI,dI,decide_eq_true_eq,eH] at this;exact this
def Fit (N:Nat) (a:Aut):Prop:=(0<=a.al∧a.al<=63)∧(1<=a.next.length∧a.next.length<=N)∧a.acc.length=a.next.length∧∀ (q:Nat) (row:List Int),a.next[q]?=some row->row.length=(letters a.al.toNat 6).length∧∀ x∈row,0<=x∧x<a.next.length
theorem Fit.row (h:Fit N a):(0<=a.al∧a.al<=63)∧(1<=a.next.length∧a.next.length<=N)∧a.acc.length=a.next.length∧∀ (q:Nat) (row:List Int),a.next[q]?=some row->row.length=(letters a.al.toNat 6).length∧∀ x∈row,0<=x∧x<a.next.length:=h
theorem fit_of (h:zi a=true):Fit 12 a:=zl h
theorem Fit.valid (h:Fit N a)(hn:a.next.length<=12):zi a=true:=by
 obtain⟨b,c,d,f⟩:=h;simp only [zi,dI,decide_eq_true_eq,eH];refine⟨b,⟨c.1,hn⟩,d,fun row hr=>?_⟩;obtain⟨q,g⟩:=eB hr;have:=f q row g;simp only [ziI,dI,decide_eq_true_eq,eH];exact this
theorem place_lt {a:Nat}(hl:l<6)(hb:a.testBit l=true):place a l<(letters a 6).length:=by
 have b:∀ n,l+1<=n->place a l<(letters a n).length:=by
  intro n
  induction n with
  |zero=>intro h;omega
  |succ n ih =>
   intro h;rw [zaX,dN]
   by_cases e:n=l
   ·subst e;simp [place,hb]
   ·have:=ih oM;omega
 exact b 6 oM
theorem aGo_ltF (h:Fit N a) (hq:q<a.next.length)(hl:l<6):aGo a q l<a.next.length:=by
 obtain⟨_,_,_,g⟩:=h.row;unfold aGo;split
 ·rename_i hb;have b:a.next[q]?=some a.next[q]:=dD hq;obtain⟨d,f⟩:=g q _ b;have c:=place_lt hl hb;rw [← d] at c;have i:=f _ (e9 c);simp only [dF,b,Option.getD_some,dD c];omega
 ·exact hq
theorem zfS (h:zi a=true) (hq:q<a.next.length)(hl:l<6):aGo a q l<a.next.length:=aGo_ltF (fit_of h) hq hl
theorem zbN (h:zi a=true):zec (zbW a):=⟨(zl h).2.1.1,fun q l hq hl x hx=>by
 simp only [zbW,fF] at hx ⊢
 subst hx
 exact zfS h hq hl⟩
theorem zdV:zi free=true:=dM
def lst (x:Nat):Nat:=(letters x 32).headD 0
def clsOf (R:List Nat):Nat->List Nat × Nat
 |0=>([],0)
 |k+1=>if lst (R.getD k 0)=k then ((clsOf R k).1++[(clsOf R k).2],(clsOf R k).2+1) else ((clsOf R k).1++[(clsOf R k).1.getD (lst (R.getD k 0)) 0],(clsOf R k).2)
theorem or_same {a b:Nat}(h:∀ k,a.testBit k=true->b.testBit k=true):a|||b=b:=by
 apply Nat.eq_of_testBit_eq;intro k;rw [Nat.testBit_or];have:=h k;cases ha:a.testBit k<;>simp_all
def cl (R:List Nat) (i:Nat):Nat:=(clsOf R (i+1)).1.getD i 0
section
variable {es es':List Edg} {p q:Nat}
inductive Rch (es:List Edg):Nat->Prop where
 |zero:Rch es 0
 |step {i l k:Nat} (h:Rch es i) (hk:E es i l k):Rch es k
end
end Go.Proofs.YtckbjnndaaoddaaGreatDoor
