/- spec.l6Chang -/
import Derived.Test.YtckbjnndaaoddaaGreatDoorX16
set_option maxHeartbeats 4000000
set_option maxRecDepth 100000
namespace Go.Proofs.YtckbjnndaaoddaaGreatDoor
open Go Go.RowKit
open Blk renaming new->eB
open Bool renaming and_eq_true->dI,eq_iff_iff->gK,false->j3,true->jV
open Ext renaming eq_->eX,refl->cY
open Frm renaming setCell->dG
open Int renaming toNat_natCast->eN
open List renaming eq_nil_of_length_eq_zero->dQ,foldl_cons->iG,getD_eq_getElem?_getD->dF,getElem?_eq_getElem->dC,getElem?_map->dP,length_append->dN,length_singleton->dV,map_append->eI,mem_of_getElem?->dD,range->eU,take_length->eL,take_of_length_le->dK,getElem?_eq_some_iff->kB,mem_append->kF,mem_map->kE,mem_singleton->kI
open Nat renaming eq_zero_or_pos->gJ,le_of_lt_succ->eG,le_refl->dE,lt_or_eq_of_le->dY,pow_le_pow_right->eE,zero_add->dX,zero_le->dH
open Option renaming getD_some->eM,map_some->gY,ne_none_iff_exists'->kS,none->fW,some->fV
open Reads renaming af->eF
open Go renaming Calls->j8,Value->j6,World->j2
open Go.Ending renaming returned->j7
open Go.IntKind renaming i64->iX
open Go.Value renaming agg->j4,bool->j9,pointer->kD,slice->fF
open Option.some renaming inj->kA
open _root_.Go.Proofs.Tryz renaming prog->j5
variable {A A' A0 B B' C:Option Addr} {K L M R c c' c0 c2 d d' k l lo m m' n n' n0 p q:Nat} {S:Nat->Prop} {T U:List Nat} {W w:j2} {a:Aut} {f:ByteArray->Bool} {rows:List (List Int)} {s t:Sys} {x y:ByteArray}
theorem pickA {x:Nat}(h:1<=(p:Int)->(x:Int)<p)(h0:(p:Int)<1->x=0):x<p+1:=by
 rcases Nat.lt_or_ge 0 p with a|a
 ·have:=h oM;omega
 ·have:=h0 oM;omega
theorem e_filledA {M' E x y:Nat} {w2 w4:j2}(hb:Blk w4 E 117 #[(0:Int),(0:Int),(0:Int)])(hr:Rd w4 R M')(hd:Dr R w2 w4)(hE:w2.heap.size<=E)(hR:R<w2.heap.size)(hx:x<p+1)(hy:y<p+1)(hM:M'<=M) :
  ∃ E' x' y':Nat,Value.pointer (fV E)=.pointer (fV E')/\x'<p+1/\y'<p+1/\w2.heap.size<=E'/\Blk (((w4.setCell E x).setCell ⟨E,1,fW⟩ (0:Int)).setCell ⟨E,2,fW⟩ y) E' 117 #[x',(0:Int),y']/\Rd (((w4.setCell E x).setCell ⟨E,1,fW⟩ (0:Int)).setCell ⟨E,2,fW⟩ y) R M/\Dr R w2 (((w4.setCell E x).setCell ⟨E,1,fW⟩ (0:Int)).setCell ⟨E,2,fW⟩ y):=by
 have a:=zeS w4 E (.int iX x) (.int iX 0) (.int iX y);refine⟨E,x,y,rfl,oM,oM,hE,by simpa using ((hb.ae 0 (.int iX x)).ae 1 (.int iX 0)).ae 2 (.int iX y),(hr.frm a (fun k h1 h2=>oM)).more hM,?_⟩;exact ((hd.ag (p:=⟨E,0,fW⟩) hE _).ag (p:=⟨E,1,fW⟩) hE _).ag (p:=⟨E,2,fW⟩) hE _
theorem ziL {a:Nat}  {es:List Edg} (h:Rd w R M)(hM:M<=900000000)(hs:zbR w R A n ⟨a,p,es⟩)(ha:a<64)(hp:p<=16)(hfew:Few (p+1) es)(hn:n<=L)(hL:L<=100000) :
  j8 j5 182 #[kD (fV R),j4 #[a,p,fF A n c]] w (RetA R (M+10) (L+1) w):=by
 have bz:=h.lt;have bc:=hs.at_.2;have cc:=za hs.1;have aW:=za hfew;have bJ:Sm a:=tM;obtain⟨w1,U0⟩:∃ x,Hid (((w.alloc (.cells #[a,p,fF A n c] 38)).alloc (.cells #[(0:Int),(0:Int),()] 38)).alloc (.cells #[a,p,()] 38)=x):=⟨_,za rfl⟩;have bh:Ext w w1:=((((cY _).alloc _).alloc _).alloc _).trans (eX U0.out);obtain⟨bS,bZ,bG⟩:=zL (eX U0.out);have aU:=za bS;have aV:=za bZ;have aq:=za bG;have ar:=za bh;clear bS bZ bG bh hs hfew
 go_enter Tryz.func182,Tryz.ntmps182
 go_wp2_with fail
 rw [U0.out] at *;refine (zE (h.ext ar.out) oM).mono ?_;rintro e Y ⟨aa,rfl,-,-,V,aj⟩;have ci:=aq.out.lt;have aA:=aU.out.dr aj oM;have a2:=aV.out.dr aj oM;have ax:=aq.out.dr aj oM;have bf:=ar.out.dr.trans aj;have cS:∀ W,Dr R Y W->∀ q,W.cell? ⟨w.heap.size,q,fW⟩=#[Value.int iX a,.int iX p,fF A n c][q]?:=fun W hW=>(aA.dr hW oM).cell;go_upto_region 3 with fail
 go_cut [7] (fun s7 wx=>∃ E x y:Nat,s7=.pointer (fV E)/\x<p+1/\y<p+1/\Y.heap.size<=E/\Blk wx E 117 #[x,(0:Int),y]/\Rd wx R (M+3)/\Dr R Y wx)
 case first =>
  refine tR (fun X=>Dr R Y X) [10] (Ord.app [0,1,2,4,5,6] (Ord.two 3 (Ord.two 7 (Ord.of [8,9,10]) 9 (Ord.of [7,8,10])) 9 (Ord.of [3,7,8,10]))) ?_;refine tQ ?_;refine zgt (fun K hK=>?_) (fun K hK=>?_)
  ·go_simp;refine (zE (n:=p) (V.ext ((cY _).drew)) oM).mono ?_;rintro e w3 ⟨x,rfl,hx,aQ,O,D⟩;have r:Dr R Y w3:=((Dr.refl R Y).drew).trans D;refine hK.out _ _ r ?_;refine pT ?_;refine zgt (fun K hK=>?_) (fun K hK=>?_)
   ·go_simp;refine (zE (n:=p) O oM).mono ?_;rintro e w4 ⟨y,rfl,hy,ak,G,T⟩;have j:=r.trans T;refine hK.out _ _ j ?_;refine pT ?_;refine tQ ?_;refine zD fun K hK=>?_;go_simp;refine hK.out _ _ (j.alloc _) ?_;refine pT ?_;refine tQ ?_;refine zQ fun K hK=>?_;go_simp;refine hK.out _ _ ?_;refine zap ?_;go_wp2_with fail
    go_meet;exact⟨w4.heap.size,x,y,rfl,oM,oM,j.size,eB _ _ _,G.ext ((cY _).alloc _),j.alloc _⟩
   ·go_simp;have bj:=(cY w3).alloc (.cells #[(0:Int),(0:Int),(0:Int)] 117);have ab:=r.ext bj;have be:=O.ext bj;have a7:=O.lt;refine hK.out _ _ ab ?_;generalize U0:w3.alloc _=cn at *;have aJ:=Ext.bl_ U0;clear U0;refine pT ?_;refine zD fun K hK=>?_;go_simp;refine (zE (n:=p) be oM).mono ?_;rintro e w4 ⟨y,rfl,hy,ak,G,T⟩;have j:=ab.trans T;have S:=aJ.dr T oM;refine hK.out _ _ j ?_;refine pT ?_;refine tQ ?_;have cE:=S.cell;have fE:=S.frozen;refine zQ fun K hK=>?_;go_simp;refine hK.out _ _ ?_;refine zap ?_;go_wp2_with fail
    go_meet;exact e_filledA S G j r.size V.lt (pickA hx aQ) (pickA hy ak) oM
  ·go_simp;have bi:=((cY Y).alloc (.cells #[(0:Int),(0:Int),(0:Int)] 117)).drew;have bA:Blk (Y.alloc (.cells #[(0:Int),(0:Int),(0:Int)] 117)).drew Y.heap.size 117 #[.int iX 0,.int iX 0,.int iX 0]:=eB Y _ _;have bd:=V.ext bi;have a7:=V.lt;have am:Dr R Y (Y.alloc (.cells #[(0:Int),(0:Int),(0:Int)] 117)).drew:=bi.dr;refine hK.out _ _ am ?_;generalize (Y.alloc (.cells #[(0:Int),(0:Int),(0:Int)] 117)).drew=cm at *;refine pT ?_;refine zD fun K hK=>?_;go_simp;refine (zE (n:=p) bd oM).mono ?_;rintro e w3 ⟨x,rfl,hx,aQ,O,D⟩;have r:=am.trans D;have aJ:=bA.dr D oM;refine hK.out _ _ r ?_;refine pT ?_;refine zD fun K hK=>?_;go_simp;refine (zE (n:=p) O oM).mono ?_;rintro e w4 ⟨y,rfl,hy,ak,G,T⟩;have j:=r.trans T;have S:=aJ.dr T oM;refine hK.out _ _ j ?_;refine pT ?_;refine tQ ?_;have cE:=S.cell;have fE:=S.frozen;refine zQ fun K hK=>?_;go_simp;refine hK.out _ _ ?_;refine zap ?_;go_wp2_with fail
   go_meet;exact e_filledA S G j (dE _) a7 (pickA hx aQ) (pickA hy ak) oM
 case rest =>
  obtain⟨E,x,y,rfl,hx,hy,hE,aK,O,D⟩:=hcut;have bg:=bf.trans D;have aB:=aA.dr D oM;have a3:=a2.dr D oM;have aZ:=ax.dr D oM;have cj:=ax.lt;clear cS;have cS:=aB.cell;go_wp2_with fail
  refine (zak a bJ _).mono ?_;rintro e w4 ⟨B,d,rfl,ae,Q⟩;have aN:=bg.ext Q;have aC:=aB.ext Q;have aE:=a3.ext Q;have ay:=aZ.ext Q;have au:=aK.ext Q;have G:=O.ext Q;have b7:=aK.lt;have bC:=zA a 6;have bb:=za (fun k (hk:k∈letters a 6)=>(zej.1 hk).1);have an:=(eF ae);have b2:=D.size;have b3:=Q.size;have b9:=V.lt;clear cS ae Q aB a3 aZ aK O bg aU aV aq ar aA a2 ax bf V;generalize letters a 6=ls at *;go_upto_region 5 with fail
  go_cut [9] (fun s9 wx=>∃ b:Bool,s9=.bool b/\(b=jV->0<ls.length)/\Rd wx R (M+4)/\Dr R w4 wx)
  case first =>
   by_cases hl:0<ls.length
   ·go_wp2_with fail
    refine (zE G oM).mono ?_;rintro e w5 ⟨z,rfl,-,-,af,J⟩;go_wp2_with fail
    go_meet;exact⟨_,rfl,fun _=>hl,af,J⟩
   ·go_wp2_with fail
    go_meet;exact⟨j3,rfl,fun h=>by (first|cases h|omega),G.more oM,Dr.refl _ _⟩
  case rest =>
   obtain⟨b,rfl,aL,af,J⟩:=hcut;go_upto_if 42 with fail
   go_cut [] (fun wx=>∃ l:Nat,l<6/\Blk wx E 117 #[x,l,y]/\Blk wx w.heap.size 38 #[a,p,fF A n c]/\Blk wx (w.heap.size+1) 38 #[(0:Int),(0:Int),()]/\Blk wx (w.heap.size+1+1) 38 #[a,p,()]/\Rd wx R (M+5)/\Dr R w wx)
   case first =>
    have aD:=aC.dr J oM;have aF:=aE.dr J oM;have az:=ay.dr J oM;have av:=au.dr J oM;have aO:=aN.trans J;clear aC aE ay au aN G;cases b
    ·go_wp2_with fail
     go_meet;exact⟨0,oM,av,aD,aF,az,af.more oM,aO⟩
    ·have ce:=aL rfl;have bB:(1:Int)<=(ls.length:Int):=oM;clear aL;go_wp2_with fail
     refine (zE af oM).mono ?_;rintro e w6 ⟨z,rfl,hz,-,bH,U⟩;have ck:=hz bB;have bk:z<ls.length:=oM;obtain⟨ad,l,rfl,_,_,hl,cf⟩:=((an.dr J oM).dr U oM).nat bk;have ba:=bb.out l (dD hl.out);have bt:=aD.dr U oM;have bu:=aF.dr U oM;have bs:=az.dr U oM;have aw:=av.dr U oM;have bK:=aO.trans U;have cE:=aw.cell;have fE:=aw.frozen;have hf:=dG w6 E 1 (.int iX (l:Nat));clear hz aD aF az av aO;go_wp2_with fail
     go_meet;exact⟨l,ba,by simpa using aw.ae 1 (.int iX (l:Nat)),bt.frm hf oM,bu.frm hf oM,bs.frm hf oM,(bH.frm hf (fun k h1 h2=>oM)),bK.ag (by dsimp only;omega) _⟩
   case rest =>
    obtain⟨l,hl,bE,bS,bZ,bG,bI,a8⟩:=hcut;clear aC aE ay au aN G J af bb an bC aL;obtain⟨wB,bL⟩:∃ wB,wB=wc:=⟨_,rfl⟩;subst bL;have f:Acc w wB wB R (w.heap.size+1+1) (M+5) a p (fF fW 0 0) []:=⟨bG,World.ownsRow_nil _ _ _ _,bI,a8,Frm.refl _ _,bz,a8.size,oM⟩;have b8:=bE.lt;have ca:=bG.lt;clear bG;go_wp2_with fail
    go_loopw [9,10] (fun v i wr=>∃ (b:Bool) (k:Nat),k<=n/\i=.int iX k/\v=.bool b/\∃ (u:j6) (m:List Edg),Acc w wB wr R (w.heap.size+1+1) (M+5) a p u m/\m.length+b.toNat<=k+1/\Hid (Few (p+1) m)) (fun _ i _=>n - (intOf i).toNat)
    case atStart=>exact⟨b,0,dH _,rfl,rfl,_,[],f,by cases b<;>decide,few_nil (p+1)⟩
    case round =>
     clear f;obtain⟨b,k,hk,rfl,rfl,u,m,f,o,F⟩:=hrel;have I:=bS.frm f.fr oM;have t:=bE.frm f.fr oM;have cS:=I.cell;have ao:(0<=(x:Int)/\(x:Int)<((p+1:Nat):Int))/\(0<=(l:Int)/\(l:Int)<6)/\(0<=(y:Int)/\(y:Int)<((p+1:Nat):Int)):=oM
     by_cases hlt:k<n
     ·obtain⟨b0,o0,C,rfl,cg,cd,he,c0,c1,c2⟩:=(bc.dr f.dr oM).edge hlt;have a9:=za (aW.out C (dD he.out));go_upto_region 11 with fail
      clear cS
      go_cut [67] (fun s wx=>∃ q:Bool,s=.bool q/\(q=jV->b=jV)/\Ext wr wx)
      case first =>
       have cS:=I.cells;have cE:=t.cells;have C0:∀ W,Ext wr W->W.cell? ⟨b0,o0+k*3,fW⟩=fV (.int iX C.fr):=fun W hW=>hW.aa c0;have C1:∀ W,Ext wr W->W.cell? ⟨b0,o0+k*3+1,fW⟩=fV (.int iX C.le):=fun W hW=>hW.aa c1;have C2:∀ W,Ext wr W->W.cell? ⟨b0,o0+k*3+2,fW⟩=fV (.int iX C.ta):=fun W hW=>hW.aa c2;have bN:=cY wr;cases b
       ·go_wp2_with fail
        go_quiet (fail)
        go_wp2_with fail
        go_meet;exact⟨j3,rfl,fun h=>h,(cY _).drewN _⟩
       ·go_wp2_with fail
        go_region_held3 (fun W=>Ext wr W) (first|assumption|(refine Ext.drew ?_;assumption)|(refine Ext.trans ?_ aM;assumption)|(refine Ext.trans ?_ aM;refine Ext.drew ?_;assumption)) ((go_at_call 261;refine (zep (a:=⟨x,l,y⟩) (b:=C)).mono (mQ fun w5 ch=>?_)))
        go_wp2_with fail
        go_meet;exact⟨_,rfl,fun _=>by trivial,aM⟩
      case rest =>
       obtain⟨q,rfl,hq,H⟩:=hcut;replace f:=f.ext H;replace t:=t.ext H;go_upto_if 67 with fail
       go_cut [9] (fun s9 wx=>∃ (b:Bool) (u:j6) (m:List Edg),s9=.bool b/\Acc w wB wx R (w.heap.size+1+1) (M+5) a p u m/\m.length+b.toNat<=k+1/\Hid (Few (p+1) m))
       case first =>
        cases q
        ·go_wp2_with fail
         go_meet;exact⟨b,u,m,rfl,f,o,F⟩
        ·obtain rfl:=hq rfl;have cG:=f.blk.cell;have cE:=t.cell;simp only [Bool.toNat_true] at o;clear hq;go_wp2_with (at_builtin;refine zI wB _ rfl _ _ _ rfl 117 _ 3 24 Tryz.underlying36 zbm rfl dM u m.length (zw m) _ _ rfl rfl f.fr.size f.own rfl (by simp [Value.oneCell']) lM oM ?_;intro g cap w3 zkC hg3 hat3 hlt3;obtain⟨h1,h2,h3⟩:=f.push (e:=⟨x,l,y⟩) zkC hg3 hat3;have a5:=h1.out)
         go_meet;exact⟨j3,_,_,rfl,h3,by simp;omega,zhl F.out ao⟩
       case rest =>
        clear f o F I t c0 c1 c2 H hq;obtain⟨b,u,m,rfl,f,o,F⟩:=hcut;obtain⟨wr,aP⟩:∃ wr,wr=wc:=⟨_,rfl⟩;subst aP;have I:=bS.frm f.fr oM;have t:=bE.frm f.fr oM;obtain⟨c0,c1,c2⟩:=(bc.dr f.dr oM).edge2 he.out;go_upto_region 14 with fail
        go_cut [83] (fun s wx=>∃ q:Bool,s=.bool q/\Ext wr wx)
        case first =>
         have cS:=I.cells;have cE:=t.cells;have C0:∀ W,Ext wr W->W.cell? ⟨b0,o0+k*3,fW⟩=fV (.int iX C.fr):=fun W hW=>hW.aa c0;have C1:∀ W,Ext wr W->W.cell? ⟨b0,o0+k*3+1,fW⟩=fV (.int iX C.le):=fun W hW=>hW.aa c1;have C2:∀ W,Ext wr W->W.cell? ⟨b0,o0+k*3+2,fW⟩=fV (.int iX C.ta):=fun W hW=>hW.aa c2;have bN:=cY wr;cases b
         ·go_wp2_with fail
          go_quiet (fail)
          go_wp2_with fail
          go_meet;exact⟨j3,rfl,(cY _).drewN _⟩
         ·go_wp2_with fail
          refine sR (fun X=>Ext wr X) [0,1,2,3,4,5,6,7,8,9] (fun hS=>?_);refine sQ ?_;have HE:=eq_edge (x:Int) (l:Int) (y:Int) C.fr C.le C.ta;refine seq_read (v:=.bool (((x:Int)==C.fr)&&(((l:Int)==C.le)&&((y:Int)==C.ta)))) rfl rfl rfl (fun X hX=>?_) aM ?_
          ·go_simp
          ·clear HE;refine pT ?_;generalize (((x:Int)==C.fr)&&(((l:Int)==C.le)&&((y:Int)==C.ta)))=q;refine sQ ?_;refine zcP ?_;go_wp2_with fail
           go_meet;exact⟨_,rfl,(cY _).drew⟩
        case rest =>
         obtain⟨q,rfl,H⟩:=hcut;replace f:=f.ext H;replace I:=I.ext H;replace c0:=H.aa c0;replace c1:=H.aa c1;replace c2:=H.aa c2;clear t H;go_upto_if 83 with fail
         go_cut [9] (fun s9 wx=>∃ b':Bool,s9=.bool b'/\b'.toNat<=b.toNat/\wc=wx)
         case first =>
          cases q
          ·go_wp2_with fail
           go_meet;exact⟨b,rfl,dE _,rfl⟩
          ·go_wp2_with fail
           go_meet;exact⟨j3,rfl,dH _,rfl⟩
         case rest =>
          obtain⟨b',rfl,cb,bM⟩:=hcut;subst bM
          by_cases hgo:k=aa
          ·have bD:((k:Int) != (aa:Int))=j3:=by simp [hgo]
           have b5:=za hgo;clear hgo;go_wp2_with fail
           go_roundw
           case rel=>exact⟨b',k+1,oM,gM,rfl,u,m,f,oM,F⟩
           case measure=>exact uM
          ·have bD:((k:Int) != (aa:Int))=jV:=by simp;omega
           clear hgo;obtain⟨wr,aP⟩:∃ wr,wr=wc:=⟨_,rfl⟩;subst aP;have cS:=I.cells;have cG:=fun W (hW:Ext wr W)=>(f.blk.ext hW).cell;have C0:∀ W,Ext wr W->W.cell? ⟨b0,o0+k*3,fW⟩=fV (.int iX C.fr):=fun W hW=>hW.aa c0;have C1:∀ W,Ext wr W->W.cell? ⟨b0,o0+k*3+1,fW⟩=fV (.int iX C.le):=fun W hW=>hW.aa c1;have C2:∀ W,Ext wr W->W.cell? ⟨b0,o0+k*3+2,fW⟩=fV (.int iX C.ta):=fun W hW=>hW.aa c2;go_wp2_with fail
           refine tR (fun X=>Ext wr X) [8,10] (Ord.of [0,1,2,3,4,5,6,7,8,9,10]) ?_;refine tQ ?_;refine zD fun K hK=>?_;go_simp;refine hK.out _ _ ((cY _).drew.alloc _) ?_;refine pT ?_;refine zQ fun K hK=>?_;refine zaE wB wr.drew _ _ _ rfl 117 _ 3 24 Tryz.underlying36 zbm rfl dM u m.length (zw m) _ _ rfl rfl f.fr.size f.own rfl (by simp [Value.oneCell']) lM oM ?_;intro g cap w3 zkC hg3 hat3 hlt3;refine hK.out _ _ ?_;refine pT ?_;refine tQ ?_;obtain⟨h1,h2,h3⟩:=(f.ext ((cY _).drew)).push (e:=C) (W':=w3) zkC hg3 hat3;have a5:=h1.out;refine zQ fun K hK=>?_;go_simp;refine hK.out _ _ ?_;refine zap ?_;go_wp2_with fail
           go_roundw
           case rel=>exact⟨b',k+1,oM,gM,rfl,_,_,h3,by simp;omega,zhl F.out a9.out⟩
           case measure=>exact uM
     ·obtain rfl:k=n:=oM;go_upto_if 97 with fail
      go_cut [] (fun wx=>∃ (u:j6) (m:List Edg),Acc w wB wx R (w.heap.size+1+1) (M+5) a p u m/\m.length<=k+1/\Hid (Few (p+1) m))
      case first =>
       cases b
       ·go_wp2_with fail
        go_meet;exact⟨u,m,f,by simpa using o,F⟩
       ·have cG:=f.blk.cell;have cE:=t.cell;simp only [Bool.toNat_true] at o;go_wp2_with (at_builtin;refine zI wB _ rfl _ _ _ rfl 117 _ 3 24 Tryz.underlying36 zbm rfl dM u m.length (zw m) _ _ rfl rfl f.fr.size f.own rfl (by simp [Value.oneCell']) lM oM ?_;intro g cap w3 zkC hg3 hat3 hlt3;obtain⟨h1,h2,h3⟩:=f.push (e:=⟨x,l,y⟩) zkC hg3 hat3;have a5:=h1.out)
        go_meet;exact⟨_,_,h3,by simp;omega,zhl F.out ao⟩
      case rest =>
       clear f o F cS I t;obtain⟨u,m,f,o,F⟩:=hcut;obtain⟨A',n',c',rfl⟩:=f.form;obtain⟨rfl,_⟩:=f.reads;have bW:=zjU f.own;have cG:=f.blk.cell;have a4:=bZ.frm f.fr oM;have cz:=a4.cell;have cl:=bZ.lt;have fz:=a4.frozen;obtain⟨f1,f2,f3⟩:=f.fin (Z:=w.heap.size+1) oM oM (.int iX a) (.int iX p) (fF A' m.length c');have aX:=za (show RetA R (M+10) (L+1) w (j7 (j4 #[a,p,fF A' m.length c'])) _ from ⟨⟨a,p,m⟩,A',m.length,c',rfl,f1,oM,f2.more oM,f3⟩);clear f1 f2 f3;go_wp2_with fail
       exact bodyPost_ret (v:=j4 #[a,p,fF A' m.length c']) (by simp [results,Tryz.results182,go_sem,cz]) rfl aX.out
theorem zfs (h:Rd w R M)(hM:M<=900000000)(hs:zbR w R A n s)(hf:Fair s)(hn:n<=L)(hL:L<=100000) :
  j8 j5 182 #[kD (fV R),j4 #[s.al,s.st,fF A n c]] w (RetA R (M+10) (L+1) w):=by
 obtain⟨al,st,j⟩:=s;obtain⟨a,p,b,g,d,i,f⟩:=hf;simp only at b d f;subst b;subst d;exact ziL h hM hs g i f hn hL
theorem yX17a1 {P:Prop}(h:P:=by
 go_wp2_with (at_builtin;refine zX w wr rfl _ _ _ rfl 9 _ 1 16 Tryz.underlying88 zq rfl dM u5 _ _ _ _ rfl rfl zkt zkr rfl (zcF _) lM oM ?_;intro v' w1 hext1 zkA hg1 hat1)
 go_roundw
 case rel=>exact⟨k+1,k+1,l++[s.extract m k],oM,gM,oM,gM,by simp;omega,by simpa [zO] using zkA,hall.out,aM⟩
 case measure=>simp [intOf];omega
 ):P:=h
theorem spec_l19CutC {s:ByteArray} (hs:s.size<=1000000) :
  j8 j5 250 #[s,.int .u8 44] w (RetStrs s.size (s.size+1) w):=by
 go_enter Tryz.func250,Tryz.ntmps250
 go_wp2_with fail
 go_loopw [5,6,7] (fun v f i wr=>∃ (k m:Nat) (l:List ByteArray),k<=s.size+1/\i=.int iX k/\m<=k/\f=.int iX m/\l.length<=k/\wr.ownsRow w.heap.size 9 1 v l.length (zO l)/\Hid (∀ x∈l,x.size<=s.size)/\Ext w wr) (fun _ _ i _=>s.size+1 - (intOf i).toNat)
 case atStart=>exact⟨0,0,[],dH _,rfl,dE _,rfl,dE _,World.ownsRow_lit w #[] 0 (dE _) lM rfl,(fun x hx=>by cases hx),(cY _).alloc _⟩
 case round =>
  obtain⟨k,m,l,q,rfl,t,rfl,r,zkr,a,zkt⟩:=hrel
  by_cases hle:k<=s.size
  ·have j:(k:Int)<=(s.size:Int):=oM;have n:(m:Int)<=(k:Int):=oM;have g:=za (show (s.extract m k).size<=s.size by rw [ByteArray.size_extract];omega);have hall:=za (show ∀ x∈l++[s.extract m k],x.size<=s.size from fun x hx=>by
    rcases kF.1 hx with b|b
    ·exact a.out x b
    ·rw [kI.1 b];exact g.out)
   by_cases he:k=s.size
   ·have d:((k:Int)==(s.size:Int))=jV:=by simp [he]
    have o:=za he;clear he;exact yX17a1
   ·have d:((k:Int)==(s.size:Int))=j3:=by rw [beq_eq_false_iff_ne];omega
    have h:k<s.size:=oM;have p:=zcM s k h;cases hc:((s[k].toNat:Int)==44)
    ·go_wp2_with fail
     go_roundw
     case rel=>exact⟨k+1,m,l,oM,gM,oM,rfl,oM,zkr,a,zkt⟩
     case measure=>exact uM
    ·exact yX17a1
  ·obtain rfl:k=s.size+1:=oM;obtain⟨A,c,rfl⟩:=zh zkr;go_wp2_with fail
   go_ret;exact⟨A,_,c,l,rfl,rfl,zkr,a.out,oM,zkt⟩
def RetIntsS (N:Nat) (w:j2) (e:Ending) (w':j2):Prop:=∃ (A:Option Addr) (n c:Nat) (l:List Int) (ok:Bool),e=j7 (.tuple #[fF A n c,j9 ok])/\n=l.length/\w'.ownsRow w.heap.size 3 1 (fF A n c) n (ints l)/\n<=N/\Ext w w'
theorem spec_l3Parse {s:ByteArray} (hs:s.size<=1000) :
  j8 j5 252 #[s] w (RetIntsS (s.size+1) w):=by
 have g:=World.ownsRow_lit (base:=w.heap.size) (e:=3) (size:=1) w #[] 0 (dE _) lM rfl
 go_enter Tryz.func252,Tryz.ntmps252
 go_upto_region 2 with fail
 obtain⟨K,hK⟩:∃ K,Hid (K=w.heap.size):=⟨_,za rfl⟩;rw [<- hK.out] at g ⊢;generalize U0:w.alloc _=w1 at *;have r:=Ext.al_ U0;clear U0;cases he:s.toList.isEmpty
 ·go_wp2_with fail
  refine (spec_l19CutC (s:=s) oM).mono ?_;rintro e T ⟨B,m,d,l,rfl,o,t,n,J,c⟩;have q:=r.trans c;have h:=zi g c;have z:=za n;have M:=za o;have G:m<=s.size+1:=J;clear n o g he J;go_wp2_with fail
  go_loopw [4,6] (fun v iv wr=>∃ (k:Nat) (f:List Int),k<=m/\iv=.int iX (k:Nat)/\wr.ownsRow K 3 1 v k (ints f)/\Hid (f.length=k)/\wr.ownsRow w1.heap.size 9 1 (fF B m d) m (zO l)/\Ext w wr) (fun _ iv _=>m - (intOf iv).toNat)
  case atStart=>exact⟨0,[],dH _,rfl,h,za rfl,t,q⟩
  case round =>
   clear h t q c;obtain⟨k,f,S,rfl,p,i,a,u⟩:=hrel;obtain⟨y,C,rfl⟩:=zh p
   by_cases hlt:k<m
   ·obtain⟨R,rfl,-,-⟩:=zN a oM;obtain⟨Q,L,D,-,-,I,F⟩:=(eF a).str hlt;obtain rfl:=kA D;rw [zad,dX] at F;have E:=za (z.out L (dD I.out));go_wp2_with fail
    refine (zeo (s:=L) (oH E.out)).mono ?_;rintro e U ⟨x,O,rfl,rfl⟩;cases O
    ·go_wp2_with fail
     exact bodyPost_ret (v:=.tuple #[(),j9 j3]) (by simp [results,Tryz.results252,go_sem]) rfl ⟨fW,0,0,[],j3,rfl,rfl,World.ownsRow_nil _ _ _ _,oM,u⟩
    ·have H:=u.size;go_wp2_with (at_builtin;refine zI w wr rfl _ _ _ rfl 3 _ 1 8 Tryz.underlying110 zR rfl dM (fF y k C) k (ints f) _ _ rfl rfl H (by rw [<- hK.out];exact p) rfl (by simp [Value.oneCell']) lM oM ?_;intro g5 cap5 w5 zkD hg5 hat5 hlt5)
     go_roundw
     case rel=>exact⟨k+1,f++[x],oM,gM,by rw [hK.out];simpa [ints] using zkD,za (by have:=i.out;simp;omega),zf a (Frm.ab hg5) (fun b hb hS=>zat a p dM hb hS),u.grown hg5 (fun j hj=>by have:=(p.lt j hj).1;have:=hK.out;omega)⟩
     case measure=>exact uM
   ·obtain rfl:k=m:=oM;go_wp2_with fail
    exact bodyPost_ret (v:=.tuple #[fF y k C,j9 jV]) (by simp [results,Tryz.results252,go_sem]) rfl ⟨y,k,C,f,jV,rfl,i.out.symm,by rw [<- hK.out];exact p,G,u⟩
 ·go_wp2_with fail
  exact bodyPost_ret (v:=.tuple #[fF (fV K) 0 0,j9 jV]) (by simp [results,Tryz.results252,go_sem]) rfl ⟨fV ⟨w.heap.size,0,fW⟩,0,0,[],jV,by rw [hK.out],rfl,by rw [hK.out] at g;exact g,oM,r⟩
theorem autValid_few (h:zj a=jV):∃ al:Nat,a.al=al/\al<64/\1<=a.next.length/\a.next.length<=12/\a.acc.length=a.next.length/\∀ l∈a.next,l.length=(letters al 6).length/\∀ q∈l,0<=q/\q<a.next.length:=by
 simp only [zj,dI,decide_eq_true_eq,List.all_eq_true,zjW] at h;obtain⟨f,b,d,c⟩:=h;refine⟨a.al.toNat,oM,oM,b.1,b.2,d,fun l hl=>⟨(c l hl).1,fun q hq=>(c l hl).2 q hq⟩⟩
def RetFmtA (a:Aut) (w:j2) (e:Ending) (w':j2):Prop:=∃ t:ByteArray,e=j7 (.string t)/\(zj a=j3->t.size=0)/\Ext w w'
theorem zfj {hi:Nat}      (h:zK w lo hi A n A' n' a) :
  j8 j5 253 #[j4 #[a.al,fF A n c,fF A' n' c']] w (RetFmtA a w):=by
 have Z:=za (fun W (hW:Ext w W)=>zW lo hi A n c A' n' c' a W ⟨h.1.ext hW,h.2.1,h.2.2.ext hW⟩);cases h1:zj a
 ·have I:=za h1;clear h1 h
  go_enter Tryz.func253,Tryz.ntmps253
  go_wp2_with (go_at_call 79;refine (Z.out _ ((cY _).alloc _)).mono ?_;rw [I.out];rintro e w1 ⟨rfl,hx⟩)
  go_ret;exact⟨_,rfl,fun _=>rfl,((cY _).alloc _).trans hx⟩
 ·obtain⟨al,ha,J,Q,R,L,b⟩:=autValid_few h1;have I:=za h1;have Hn:=za h.n1;have ak:=za h.n2;have Ha:=za ha;have f:=za b;have HS:=za (fun W (hW:Ext w W)=>h.1.ext hW);have HB:=za (fun W (hW:Ext w W)=>h.2.2.ext hW);have e1:n=n':=by have:=h.n1;have:=h.n2;omega
  subst e1;have av:n<=12:=oH h.n1;clear h1 ha Q R L b h
  go_enter Tryz.func253,Tryz.ntmps253
  go_wp2_with fail
  refine (Z.out _ ((cY _).alloc _)).mono ?_;rw [I.out];rintro e w1 ⟨rfl,hx⟩;have b1:=zcC hx;rw [Ha.out] at b1;have o:=((cY w).alloc _).trans hx;have cb:=b1.cells;have V:=cY w1;clear hx;go_wp2_with fail
  refine (zbV J).mono ?_;rintro e w2 ⟨s,rfl,F,H⟩;go_wp2_with fail
  go_loopw [3,4] (fun v i wr=>∃ (k:Nat) (t:ByteArray),k<=n/\i=.int iX k/\v=.string t/\t.size<=20+100*k/\Ext w1 wr) (fun _ i _=>n - (intOf i).toNat)
  case atStart=>exact⟨0,s,dH _,rfl,rfl,oM,H⟩
  case round =>
   clear H F V;obtain⟨k,t,hk,rfl,rfl,ht,zkt⟩:=hrel;have C:=cb wr zkt
   by_cases hlt:k<n
   ·obtain⟨ad,Ak,ck,l,rfl,_,_,hl,g,E⟩:=(HS.out wr (o.trans zkt)).row hlt;obtain⟨am,x,rfl,_,_,-,M⟩:=(HB.out wr (o.trans zkt)).bool hlt;have hq:=za (f.out l (dD hl.out));have ar:l.length<=6:=by have:=hq.out.1;have:=zA al 6;omega
    have B:=za (fun W (hW:Ext wr W)=>E.ext hW);have z:=za (fun W (hW:Ext wr W)=>hW.aa g);have y:=za (fun W (hW:Ext wr W)=>cb W (zkt.trans hW));have r:=cY wr;clear E;go_upto_if 24 with fail
    go_cut [5] (fun s5 wx=>∃ m:ByteArray,s5=.string m/\m.size=2/\Ext wr wx)
    case first =>
     cases x
     ·go_wp2_with fail
      go_meet;exact⟨{ data:=#[32,45] },rfl,rfl,r⟩
     ·go_wp2_with fail
      go_meet;exact⟨{ data:=#[32,43] },rfl,rfl,r⟩
    case rest =>
     clear g M C r;obtain⟨m,rfl,O,p⟩:=hcut;obtain⟨Y,G⟩:∃ Y,Y=wr:=⟨_,rfl⟩;rw [<- G] at B z y p zkt;clear G;have q0:¬ 9223372036854775807<t.size+m.size:=oM;have aw:(t++m).size=t.size+2:=by rw [ByteArray.size_append,O]
     go_upto_region 11 with fail
     generalize t++m=t1 at *;clear q0;go_wp2_with fail
     go_loopw [3,6] (fun v jv wr=>∃ (j:Nat) (t:ByteArray),j<=l.length/\jv=.int iX j/\v=.string t/\t.size<=22+100*k+10*j/\Ext Y wr) (fun _ jv _=>l.length - (intOf jv).toNat)
     case atStart=>exact⟨0,t1,dH _,rfl,rfl,oM,p⟩
     case round =>
      clear p;obtain⟨j,s,hj,rfl,rfl,F,d⟩:=hrel;have C:=y.out wr d;have g:=z.out wr d
      by_cases hjl:j<l.length
      ·obtain⟨an,q,rfl,-,-,U,ap⟩:=(B.out wr d).int hjl;obtain⟨S,T⟩:=hq.out.2 q (dD U.out);obtain⟨u,rfl⟩:∃ u:Nat,q=u:=⟨q.toNat,oM⟩;have hu:u<100:=oH Hn.out;clear S T;go_upto_if 39 with fail
       go_cut [3] (fun s3 wx=>∃ m:ByteArray,s3=.string m/\m.size<=s.size+1/\wx=wr)
       case first =>
        by_cases hj0:0<j
        ·have D:((j:Int)>0):=oM;have q1:¬ 9223372036854775807<s.size+1:=oM;go_wp2_with fail
         go_meet;exact⟨_,rfl,by rw [ByteArray.size_append];exact dE _,rfl⟩
        ·have D:¬ ((j:Int)>0):=oM;go_wp2_with fail
         go_meet;exact⟨s,rfl,oM,rfl⟩
       case rest =>
        obtain⟨m3,rfl,au,rfl⟩:=hcut;go_wp2_with fail
        refine (zen (n:=u) hu).mono ?_;rintro e w4 ⟨t4,rfl,ax,X⟩;have q2:¬ 9223372036854775807<m3.size+t4.size:=oM;go_wp2_with fail
        go_roundw
        case rel=>exact⟨j+1,_,oM,gM,rfl,by rw [ByteArray.size_append];omega,d.trans X⟩
        case measure=>exact uM
      ·obtain rfl:j=l.length:=oM;go_wp2_with fail
       go_roundw
       case rel=>exact⟨k+1,s,oM,gM,rfl,oM,zkt.trans d⟩
       case measure=>exact uM
   ·obtain rfl:n=k:=oM;go_wp2_with fail
    go_ret;have hv:=I.out;exact⟨t,rfl,fun h=>absurd (hv.symm.trans h) dM,o.trans zkt⟩
def RetStrs1 (L N:Nat) (w:j2) (e:Ending) (w':j2):Prop:=∃ (A:Option Addr) (n c:Nat) (l:List ByteArray),e=j7 (fF A n c)/\n=l.length/\0<n/\w'.ownsRow w.heap.size 9 1 (fF A n c) n (zO l)/\(∀ x∈l,x.size<=L)/\n<=N/\Ext w w'
theorem spec_l19Cut1 {s:ByteArray} (hs:s.size<=1000000) :
  j8 j5 250 #[s,.int .u8 32] w (RetStrs1 s.size (s.size+1) w):=by
 go_enter Tryz.func250,Tryz.ntmps250
 go_wp2_with fail
 go_loopw [5,6,7] (fun v f i wr=>∃ (k m:Nat) (l:List ByteArray),k<=s.size+1/\i=.int iX k/\m<=k/\f=.int iX m/\l.length<=k/\wr.ownsRow w.heap.size 9 1 v l.length (zO l)/\Hid (∀ x∈l,x.size<=s.size)/\Ext w wr/\Hid (s.size<k->0<l.length)) (fun _ _ i _=>s.size+1 - (intOf i).toNat)
 case atStart=>exact⟨0,0,[],dH _,rfl,dE _,rfl,dE _,World.ownsRow_lit w #[] 0 (dE _) lM rfl,(fun x hx=>by cases hx),(cY _).alloc _,za (fun hh=>absurd hh oM)⟩
 case round =>
  obtain⟨k,m,l,r,rfl,u,rfl,t,zkr,a,zkt,b⟩:=hrel
  by_cases hle:k<=s.size
  ·have n:(k:Int)<=(s.size:Int):=oM;have o:(m:Int)<=(k:Int):=oM;have h:=za (show (s.extract m k).size<=s.size by rw [ByteArray.size_extract];omega);have hall:=za (show ∀ x∈l++[s.extract m k],x.size<=s.size from fun x hx=>by
    rcases kF.1 hx with d|d
    ·exact a.out x d
    ·rw [kI.1 d];exact h.out)
   by_cases he:k=s.size
   ·have g:((k:Int)==(s.size:Int))=jV:=by simp [he]
    have p:=za he;clear he;go_wp2_with (at_builtin;refine zX w wr rfl _ _ _ rfl 9 _ 1 16 Tryz.underlying88 zq rfl dM u5 _ _ _ _ rfl rfl zkt zkr rfl (zcF _) lM oM ?_;intro v' w1 hext1 zkA hg1 hat1)
    go_roundw
    case rel=>exact⟨k+1,k+1,l++[s.extract m k],oM,gM,oM,gM,by simp;omega,by simpa [zO] using zkA,hall.out,aM,za (fun _=>sM)⟩
    case measure=>exact uM
   ·have g:((k:Int)==(s.size:Int))=j3:=by rw [beq_eq_false_iff_ne];omega
    have j:k<s.size:=oM;have q:=zcM s k j;cases hc:((s[k].toNat:Int)==32)
    ·go_wp2_with fail
     go_roundw
     case rel=>exact⟨k+1,m,l,oM,gM,oM,rfl,oM,zkr,a,zkt,za (fun hh=>absurd hh oM)⟩
     case measure=>exact uM
    ·go_wp2_with (at_builtin;refine zX w wr rfl _ _ _ rfl 9 _ 1 16 Tryz.underlying88 zq rfl dM u5 _ _ _ _ rfl rfl zkt zkr rfl (zcF _) lM oM ?_;intro v' w1 hext1 zkA hg1 hat1)
     go_roundw
     case rel=>exact⟨k+1,k+1,l++[s.extract m k],oM,gM,oM,gM,by simp;omega,by simpa [zO] using zkA,hall.out,aM,za (fun _=>sM)⟩
     case measure=>exact uM
  ·obtain rfl:k=s.size+1:=oM;obtain⟨A,c,rfl⟩:=zh zkr;go_wp2_with fail
   go_ret;exact⟨A,_,c,l,rfl,rfl,b.out oM,zkr,a.out,oM,zkt⟩
def RetParA (R M L:Nat) (w:j2) (e:Ending) (w':j2):Prop:=
 ∃ (b:Aut) (A:Option Addr) (n c:Nat) (A':Option Addr) (n' c':Nat) (ok:Bool),e=j7 (.tuple #[j4 #[b.al,fF A n c,fF A' n' c'],j9 ok])/\zT w' w.heap.size A n c A' n' c' b/\Hid (BdA L b)/\Rd w' R M/\Dr R w w'
theorem zjV {Z:Nat} (hR:R<w.heap.size)(h:Rd W R M)(hd:Dr R w W)(hZ:w.heap.size<=Z) :
  Hid (RetParA R M L w (j7 (.tuple #[j4 #[(0:Int),(),()],j9 j3])) (((W.setCell Z (0:Int)).setCell ⟨Z,1,fW⟩ ()).setCell ⟨Z,2,fW⟩ ())):=
 za ⟨⟨0,[],[]⟩,fW,0,0,fW,0,0,j3,rfl,⟨⟨[],World.ownsRow_nil _ _ _ _,zB.nil _ _⟩,rfl,World.ownsRow_nil _ _ _ _,rfl⟩,za ⟨dH _,dH _,fun l hl=>by simp at hl⟩,h.frm (zU W Z _ _ _) (fun k hk e=>oM),((hd.ag (p:=⟨Z,0,fW⟩) hZ _).ag (p:=⟨Z,1,fW⟩) hZ _).ag (p:=⟨Z,2,fW⟩) hZ _⟩
theorem yX17a2 {P:Prop}(h:P:=by
 go_wp2_with fail
 have hfb:=zai bz4 rfl (.int .i64 0) (.slice none 0 0) (.slice none 0 0);have cf:=hfb.cell;exact bodyPost_ret (v:=.tuple #[.agg #[(0:Int),(),()],.bool false]) (by simp [results,Tryz.results166,go_sem,cf]) rfl hno4.out
 ):P:=h
theorem yX17a4 {P:Prop}(h:P:=by
 have cf:=hfb.cell;exact bodyPost_ret (v:=.tuple #[.agg #[(0:Int),(),()],.bool false]) (by simp [results,Tryz.results166,go_sem,cf]) rfl hno.out
 ):P:=h
theorem zfJ (h:Rd w R M)(hx:x.size<=1000) :
  j8 j5 166 #[x] w (RetParA R M (x.size+1) w):=by
 have E:=h.lt
 go_enter Tryz.func166,Tryz.ntmps166
 go_wp2_with fail
 generalize U0:w.alloc _=w0 at *;have o:=Ext.al_ U0;have bz:=Ext.bl_ U0;have a1:=bz.lt;clear U0;refine (spec_l19Cut1 (s:=x) oM).mono ?_;rintro e w1 ⟨B,m,d,l,rfl,au,ag,zkA,y,hm,a0⟩;have aI:=za y;have bn:=za au;have bN:m<=1001:=oM;clear y au;obtain⟨gB,rfl,bK,-⟩:=zN zkA ag;obtain⟨ad,x0,ab,-,-,bh,ao⟩:=(eF zkA).str (k:=0) ag;obtain rfl:=kA ab;rw [zad,Nat.add_zero] at ao;have bg:(0:Int)<(m:Int):=oM;go_wp2_with fail
 refine (zdB (x:=x0)).mono ?_;rintro e w2 ⟨S,a3,rfl,ha,ay⟩;have u:=a0.trans ay;have aa:=bz.ext u;have aJ:=aa.cell;have aK:=aa.frozen;have hno:=zjV (L:=x.size+1) (M:=M) (Z:=w.heap.size) E (h.ext (o.trans u)) (o.trans u).dr (dE _);cases a3
 ·go_wp2_with fail
  have hfb:=zai aa rfl (.int iX 0) (fF fW 0 0) (fF fW 0 0);exact yX17a4
 ·have bG:=eB w2 27 #[S,(),()];have ah:=(cY w2).alloc (.cells #[S,(),()] 27);have aX:=u.size;have aD:=zi zkA ay;have bI:=za (show ∀ W,Ext w2 W->Ext w W from fun W hW=>(o.trans u).trans hW);go_upto_region 6 with fail
  have aE:=zi aD ah;have f:zbO w0 (w2.alloc (.cells #[S,(),()] 27)) R w2.heap.size M S (fF fW 0 0) [] [] (fF fW 0 0) []:=⟨bG,World.ownsRow_nil _ _ _ _,zB.nil _ _,World.ownsRow_nil _ _ _ _,(h.ext (o.trans u)).ext ah,(u.trans ah).dr,oM,aX⟩;generalize w2.alloc _=w3 at *;generalize w2.heap.size=G at *;clear hno aJ aK ao aD;go_wp2_with fail
  go_loopw [8] (fun iv wr=>∃ (i:Nat) (v:j6) (q:List j6) (n:List (List Int)) (vA:j6) (g:List Bool),1<=i/\i<=m/\iv=.int iX (i:Nat)/\zbO w0 wr R G M S v q n vA g/\Hid (n.length<=i - 1)/\Hid (g.length=n.length)/\Hid (∀ l∈n,l.length<=x.size+1)/\wr.ownsRow w0.heap.size 9 1 (fF (fV gB) m d) m (zO l)) (fun iv _=>m - (intOf iv).toNat)
  case atStart=>exact⟨1,_,_,[],_,[],dE _,ag,rfl,f,za (dH _),za rfl,za (fun l hl=>by simp at hl),aE⟩
  case round =>
   clear f aE;obtain⟨i,v,q,n,vA,g,bL,hi,rfl,f,H,ae,y,I⟩:=hrel;have hno:=zjV (L:=x.size+1) (M:=M) (Z:=w.heap.size) E f.rd (o.dr.trans f.dr) (dE _);have D:=bz.dr f.dr oM
   by_cases hlt:i<m
   ·obtain⟨ad,C,ab,-,-,az,ap⟩:=(eF I).str hlt;obtain rfl:=kA ab;rw [zad,dX] at ap;have bH:=aI.out C (dD az.out);cases he:C.toList.isEmpty
    ·have bD:1<=C.size:=by
      rcases gJ C.size with h0|h0
      ·rw [ByteArray.toList_eq] at he;have e2:C.data.toList.length=C.size:=rfl;rw [dQ (e2.trans h0)] at he;cases he
      ·exact h0
     have be:(1:Int)<=(C.size:Int):=oM;have bJ:(C.extract 1 C.size).size<=x.size:=by rw [ByteArray.size_extract];omega
     go_wp2_with fail
     refine (spec_l3Parse (s:=C.extract 1 C.size) oM).mono ?_;rintro e w4 ⟨Ar,nr,cr,lr,ok,rfl,aT,aw,bO,j⟩;cases ok
     ·have hno4:=zjV (L:=x.size+1) (M:=M) (Z:=w.heap.size) E (f.rd.ext j) ((o.dr.trans f.dr).ext j) (dE _);have bz4:=D.ext j;have cz:=bz4.cell;have fz:=bz4.frozen;exact yX17a2
     ·subst aT;have aq:=za f.low;have aW:=za f.dr.size;have c:=f.ext j;have r:=zi I j;have cG:=c.blk.cell;have aY:=c.dr.size;have bM:n.length<=1001:=oH H.out;have am:=za az.out;have av:=hno;clear f I ap hno av;go_upto_region 15 with (at_builtin;refine zI w0 w4 rfl _ _ _ rfl 110 _ 1 24 Tryz.underlying24 zbs rfl dM v n.length q _ _ rfl rfl aY c.nx rfl (zaG _ _ _) lM oM ?_;intro g5 cap5 w6 hown6 hg6 hat6 hlt6;obtain⟨q1,q2,q3⟩:=c.ax aq.out aW.out aw hown6 hg6 hat6;have a4:=q1.out;have t:=(zf r (Frm.ab hg6) (fun b hb hS=>zat r c.nx dM hb hS)))
      have J:=zf t (dG w6 G 1 (fF (fV g5) (n.length+1) cap5)) (fun b hb hS=>by
       have aP:Blk w6 G 27 #[.int iX S,v,vA]:=(hg6.block G c.blk.lt (fun e=>zr c.nx c.blk dM e.symm rfl)).trans c.blk;exact zr t aP dM hb hS)
      have V:=za (show (n++[lr]).length<=i by have:=H.out;simp;omega);have U:=za (show g.length+1=(n++[lr]).length by have:=ae.out;simp;omega);have ar:=za (show ∀ l'∈n++[lr],l'.length<=x.size+1 from fun l' hl'=>by
       rcases kF.1 hl' with h1|h1
       ·exact y.out l' h1
       ·rw [kI.1 h1];omega)
      clear q1 a4 q2 hown6 hg6 hat6 hlt6 t r c cG H ae y aw;generalize n++[lr]=a2 at *;generalize q++[fF Ar lr.length cr]=a6 at *;generalize w6.setCell ⟨G,1,fW⟩ (fF (fV g5) (n.length+1) cap5)=w7 at *;generalize fF (fV g5) (n.length+1) cap5=v7 at *;obtain⟨bp,z,an,-,-,Y,F⟩:=(eF J).str hlt;obtain rfl:=kA an;rw [zad,dX] at F;obtain rfl:z=C:=kA (Y.out.symm.trans am.out);have cG:=fun W (hW:Ext w7 W)=>(q3.blk.ext hW).cell;have cS:∀ W,Ext w7 W->W.cell? ⟨gB,i,fW⟩=fV (.string z):=fun W hW=>hW.aa F;have aN:0<z.size:=oM;have bd:(0:Int)<(z.size:Int):=oM;have bE:=zcM z 0 aN;obtain⟨bb,bF⟩:∃ bb,((z[0].toNat:Int)==43)=bb:=⟨_,rfl⟩;have aZ:=cY w7;clear F Y am;refine uR (fun X=>Ext w7 X) [9,11] (zx.of [0,1,2,3,4,5,6,7,8,9,10,11]) ?_;refine uQ ?_;have ai:=aZ.drew;refine ze fun K hK=>?_;go_simp;refine hK.out _ _ (ai.alloc _) ?_;refine pT ?_;refine zb fun K hK=>?_;have bP:=q3.dr.size;have p:=q3.ext ai;have bf:g.length<=1001:=by have:=U.out;have:=V.out;omega
      have O:=zi J ai;refine zaE w0 w7.drew _ _ _ rfl 4 _ 1 1 Tryz.underlying25 zaK rfl dM vA g.length (zaa g) _ _ rfl rfl p.dr.size p.acc rfl (by simp [Value.oneCell']) lM oM ?_;intro g8 cap8 w8 hown8 hg8 hat8 hlt8;refine hK.out _ _ ?_;refine pT ?_;refine uQ ?_;obtain⟨p1,p2,p3⟩:=p.aq (x:=bb) (W':=w8) hown8 hg8 hat8;have bU:=p1.out;have Q:=zf O (Frm.ab hg8) (fun b hb hS=>zat O p.acc dM hb hS);have T:=zf Q (dG w8 G 2 (fF (fV g8) (g.length+1) cap8)) (fun b hb hS=>by
       have aQ:Blk w8 G 27 #[.int iX S,v7,vA]:=(hg8.block G p.blk.lt (fun e=>zr p.acc p.blk dM e.symm rfl)).trans p.blk;exact zr Q aQ dM hb hS)
      refine zb fun K hK=>?_;go_simp;refine hK.out _ _ ?_;refine zg ?_;go_wp2_with fail
      go_roundw
      case rel=>exact⟨i+1,_,_,a2,_,g++[bb],oM,oM,gM,p3,za (oH V.out),za (by have:=U.out;simp;omega),ar,T⟩
      case measure=>exact uM
    ·have cz:=D.cell;have fz:=D.frozen;go_wp2_with fail
     have hfb:=zai D rfl (.int iX 0) (fF fW 0 0) (fF fW 0 0);exact yX17a4
   ·obtain⟨A5,c5,rfl⟩:=zh f.nx;obtain⟨B5,d5,rfl⟩:=zh f.acc;have aR:zK wr w0.heap.size wr.heap.size A5 n.length B5 g.length (⟨S,n,g⟩:Aut):=⟨zfa.reads ⟨q,f.nx,f.rows⟩ rfl,rfl,eF f.acc⟩;have cG:=f.blk.cell;clear hno;go_wp2_with fail
    refine (zfj (a:=⟨S,n,g⟩) aR).mono ?_;rintro e w4 ⟨tx,rfl,-,j⟩;have c:=f.ext j;have hno4:=zjV (L:=x.size+1) (M:=M) (Z:=w.heap.size) E (f.rd.ext j) ((o.dr.trans f.dr).ext j) (dE _);have bz4:=D.ext j;have cz:=bz4.cell;have fz:=bz4.frozen;have bu:=c.blk.cell;clear cG;cases hne:tx.toList==x.toList
    ·exact yX17a2
    ·obtain⟨f1,f2⟩:=c.fin (N:=M) (sh:=BdA (x.size+1)) o bz rfl E (dE _) a1 (dE _) ⟨by have:=H.out;show n.length<=_;omega,by have:=H.out;have:=ae.out;show g.length<=_;omega,y.out⟩;go_wp2_with fail
     have cf:=f2.cell;obtain⟨b,A6,n6,c6,A7,n7,c7,he,aU,ax,aV,aS⟩:=f1.out;exact bodyPost_ret (v:=.tuple #[j4 #[S,fF A5 n.length c5,fF B5 g.length d5],j9 jV]) (by simp [results,Tryz.results166,go_sem,cf]) rfl ⟨b,A6,n6,c6,A7,n7,c7,jV,by injection he with he;rw [he],aU,ax,aV,aS⟩
def Texts3 (W:j2) (base g n:Nat):Prop:=
 ∀ k<n,∃ (b:Nat) (l:List ByteArray),W.cell? ⟨g,k,fW⟩=fV (fF (fV b) 3 3)/\l.length=3/\((∀ x∈l,x.size<=100)/\∀ x,l[2]?=fV x->x.size<=40)/\W.ownsRow base 9 1 (fF (fV b) 3 3) 3 (zO l)
def RetT3 (w:j2) (e:Ending) (w':j2):Prop:=∃ g,e=j7 (fF (fV ⟨g,0,fW⟩) 9 9)/\w.heap.size<=g/\Texts3 w' w.heap.size g 9/\Ext w w'
def Sh3 (u:Array j6):Prop:=zO (u.toList.map strOf)=u.toList/\u.size=3/\(∀ x∈u.toList.map strOf,x.size<=100)/\∀ x∈(u.toList.map strOf).drop 2,x.size<=40
theorem Sh3.ao {u:Array j6}(h:Sh3 u):(u.toList.map strOf).length=3/\(∀ x∈u.toList.map strOf,x.size<=100)/\∀ x,(u.toList.map strOf)[2]?=fV x->x.size<=40:=by
 obtain⟨-,a,b,c⟩:=h;refine⟨by simp [a],b,fun x hx=>c x ?_⟩;have d:=(kB.1 hx).1;rw [List.mem_iff_getElem?];exact⟨0,by rw [List.getElem?_drop];exact hx⟩
theorem lit9 (w:j2) {u1 u2 u3 u4 u5 u6 u7 u8 u9:Array j6}(h1:Sh3 u1)(h2:Sh3 u2)(h3:Sh3 u3)(h4:Sh3 u4)(h5:Sh3 u5)(h6:Sh3 u6)(h7:Sh3 u7)(h8:Sh3 u8)(h9:Sh3 u9) :
  RetT3 w (j7 (fF (fV ⟨w.heap.size+9,0,fW⟩) 9 9)) ((((((((((w.alloc (.cells u1 9)).alloc (.cells u2 9)).alloc (.cells u3 9)).alloc (.cells u4 9)).alloc (.cells u5 9)).alloc (.cells u6 9)).alloc (.cells u7 9)).alloc (.cells u8 9)).alloc (.cells u9 9)).alloc (.cells #[fF (fV w.heap.size) 3 3,fF (fV ⟨w.heap.size+1,0,fW⟩) 3 3,fF (fV ⟨w.heap.size+2,0,fW⟩) 3 3,fF (fV ⟨w.heap.size+3,0,fW⟩) 3 3,fF (fV ⟨w.heap.size+4,0,fW⟩) 3 3,fF (fV ⟨w.heap.size+5,0,fW⟩) 3 3,fF (fV ⟨w.heap.size+6,0,fW⟩) 3 3,fF (fV ⟨w.heap.size+7,0,fW⟩) 3 3,fF (fV ⟨w.heap.size+8,0,fW⟩) 3 3] 88)):=by
 have R:=zbK w h1.1 h1.2.1 oM;have U:=(cY w).alloc (.cells u1 9);have v:(w.alloc (.cells u1 9)).heap.size=w.heap.size+1:=sM;generalize w.alloc (.cells u1 9)=w1 at *;have n:=zbK w1 h2.1 h2.2.1 oM;have V:=(cY w1).alloc (.cells u2 9);have x:(w1.alloc (.cells u2 9)).heap.size=w.heap.size+2:=by simp [v]
 rw [v] at n;generalize w1.alloc (.cells u2 9)=b at *;have o:=zbK b h3.1 h3.2.1 oM;have X:=(cY b).alloc (.cells u3 9);have y:(b.alloc (.cells u3 9)).heap.size=w.heap.size+3:=by simp [x]
 rw [x] at o;generalize b.alloc (.cells u3 9)=c at *;have p:=zbK c h4.1 h4.2.1 oM;have Y:=(cY c).alloc (.cells u4 9);have z:(c.alloc (.cells u4 9)).heap.size=w.heap.size+4:=by simp [y]
 rw [y] at p;generalize c.alloc (.cells u4 9)=d at *;have q:=zbK d h5.1 h5.2.1 oM;have Z:=(cY d).alloc (.cells u5 9);have B:(d.alloc (.cells u5 9)).heap.size=w.heap.size+5:=by simp [z]
 rw [z] at q;generalize d.alloc (.cells u5 9)=f at *;have r:=zbK f h6.1 h6.2.1 oM;have x6:=(cY f).alloc (.cells u6 9);have C:(f.alloc (.cells u6 9)).heap.size=w.heap.size+6:=by simp [B]
 rw [B] at r;generalize f.alloc (.cells u6 9)=g at *;have s:=zbK g h7.1 h7.2.1 oM;have x7:=(cY g).alloc (.cells u7 9);have D:(g.alloc (.cells u7 9)).heap.size=w.heap.size+7:=by simp [C]
 rw [C] at s;generalize g.alloc (.cells u7 9)=h at *;have t:=zbK h h8.1 h8.2.1 oM;have x8:=(cY h).alloc (.cells u8 9);have E:(h.alloc (.cells u8 9)).heap.size=w.heap.size+8:=by simp [D]
 rw [D] at t;generalize h.alloc (.cells u8 9)=i at *;have u:=zbK i h9.1 h9.2.1 oM;have x9:=(cY i).alloc (.cells u9 9);have S:(i.alloc (.cells u9 9)).heap.size=w.heap.size+9:=by simp [E]
 rw [E] at u;generalize i.alloc (.cells u9 9)=l at *;have a:=eB l 88 #[fF (fV w.heap.size) 3 3,fF (fV ⟨w.heap.size+1,0,fW⟩) 3 3,fF (fV ⟨w.heap.size+2,0,fW⟩) 3 3,fF (fV ⟨w.heap.size+3,0,fW⟩) 3 3,fF (fV ⟨w.heap.size+4,0,fW⟩) 3 3,fF (fV ⟨w.heap.size+5,0,fW⟩) 3 3,fF (fV ⟨w.heap.size+6,0,fW⟩) 3 3,fF (fV ⟨w.heap.size+7,0,fW⟩) 3 3,fF (fV ⟨w.heap.size+8,0,fW⟩) 3 3];have m:=(cY l).alloc (.cells #[fF (fV w.heap.size) 3 3,fF (fV ⟨w.heap.size+1,0,fW⟩) 3 3,fF (fV ⟨w.heap.size+2,0,fW⟩) 3 3,fF (fV ⟨w.heap.size+3,0,fW⟩) 3 3,fF (fV ⟨w.heap.size+4,0,fW⟩) 3 3,fF (fV ⟨w.heap.size+5,0,fW⟩) 3 3,fF (fV ⟨w.heap.size+6,0,fW⟩) 3 3,fF (fV ⟨w.heap.size+7,0,fW⟩) 3 3,fF (fV ⟨w.heap.size+8,0,fW⟩) 3 3] 88);rw [S] at a;generalize l.alloc _=T at *;have Q:=m;have O:=x9.trans Q;have M:=x8.trans O;have L:=x7.trans M;have J:=x6.trans L;have I:=Z.trans J;have H:=Y.trans I;have G:=X.trans H;have F:=V.trans G;refine⟨_,rfl,oM,fun k hk=>?_,U.trans F⟩;have j:k=0\/k=1\/k=2\/k=3\/k=4\/k=5\/k=6\/k=7\/k=8:=oM;rcases j with rfl|rfl|rfl|rfl|rfl|rfl|rfl|rfl|rfl
 ·exact⟨_,_,a.cell 0,h1.ao.1,h1.ao.2,zi R F⟩
 ·exact⟨_,_,a.cell 1,h2.ao.1,h2.ao.2,zn (zi n G) oM⟩
 ·exact⟨_,_,a.cell 2,h3.ao.1,h3.ao.2,zn (zi o H) oM⟩
 ·exact⟨_,_,a.cell 3,h4.ao.1,h4.ao.2,zn (zi p I) oM⟩
 ·exact⟨_,_,a.cell 4,h5.ao.1,h5.ao.2,zn (zi q J) oM⟩
 ·exact⟨_,_,a.cell 5,h6.ao.1,h6.ao.2,zn (zi r L) oM⟩
 ·exact⟨_,_,a.cell 6,h7.ao.1,h7.ao.2,zn (zi s M) oM⟩
 ·exact⟨_,_,a.cell 7,h8.ao.1,h8.ao.2,zn (zi t O) oM⟩
 ·exact⟨_,_,a.cell 8,h9.ao.1,h9.ao.2,zn (zi u Q) oM⟩
theorem zkc :j8 j5 180 #[] w (RetT3 w):=by
 go_enter Tryz.func180,Tryz.ntmps180
 go_wp2_with fail
 go_ret;exact lit9 w ⟨rfl,rfl,by decide +kernel,by decide +kernel⟩ ⟨rfl,rfl,by decide +kernel,by decide +kernel⟩ ⟨rfl,rfl,by decide +kernel,by decide +kernel⟩ ⟨rfl,rfl,by decide +kernel,by decide +kernel⟩ ⟨rfl,rfl,by decide +kernel,by decide +kernel⟩ ⟨rfl,rfl,by decide +kernel,by decide +kernel⟩ ⟨rfl,rfl,by decide +kernel,by decide +kernel⟩ ⟨rfl,rfl,by decide +kernel,by decide +kernel⟩ ⟨rfl,rfl,by decide +kernel,by decide +kernel⟩
theorem zjH {w':j2}(h:Frm S w w') {p:Addr} {v:j6}(hv:w.cell? p=fV v)(hp:¬ S p.block):w'.cell? p=fV v:=
 (World.cell?_of_block (w:=w) (h.block _ (World.block_lt_of_cell? w p hv) hp)).trans hv
theorem zcd.own {w0:j2}   {p:Aut} (h:zcd w0 W R M L K s A n c t C k c2 p B m d B' m' d'):zcd W W R M L K s A n c t C k c2 p B m d B' m' d':={ h with dr:=Dr.refl _ _,hR:=h.rd.lt }
theorem spec_l9Spoil {p:Aut}  (h:zcd w w R M L K s A n c t C k c2 p B m d B' m' d')(hM:M<=600000000)(hL:L<=90000)(hK:K<=60) :
  j8 j5 93 #[kD (fV R),j4 #[s.al,s.st,fF A n c],j4 #[p.al,fF B m d,fF B' m' d'],j4 #[t.al,t.st,fF C k c2]] w (RetSPT R (M+100) (L+3) (K+39) w):=by
 have bn:=h.hR;have aj:Ext w ((((((w.alloc (.cells #[s.al,s.st,fF A n c] 38)).alloc (.cells #[p.al,fF B m d,fF B' m' d'] 27)).alloc (.cells #[t.al,t.st,fF C k c2] 38)).alloc (.cells #[(0:Int),(0:Int),()] 38)).alloc (.cells #[(0:Int),(),()] 27)).alloc (.cells #[(0:Int),(0:Int),()] 38)):=((((((cY _).alloc _).alloc _).alloc _).alloc _).alloc _).alloc _;obtain⟨b1,b2,b3⟩:=zL (cY (((w.alloc (.cells #[s.al,s.st,fF A n c] 38)).alloc (.cells #[p.al,fF B m d,fF B' m' d'] 27)).alloc (.cells #[t.al,t.st,fF C k c2] 38)))
 go_enter Tryz.func93,Tryz.ntmps93
 go_upto_region 1 with fail
 have av:(((w.alloc (.cells #[s.al,s.st,fF A n c] 38)).alloc (.cells #[p.al,fF B m d,fF B' m' d'] 27)).alloc (.cells #[t.al,t.st,fF C k c2] 38)).heap.size=w.heap.size+3:=sM;generalize ((w.alloc _).alloc _).alloc _=w0 at *;generalize U0:((w0.alloc _).alloc _).alloc _=w1 at *;obtain⟨U,z1,z2,z3⟩:=Ext.x3_ U0;clear U0;simp only [av] at z1 z2 z3;have ai:Tri w w1 R M L K (w.heap.size+1+1+1) (w.heap.size+1+1+1+1+1) (w.heap.size+1+1+1+1) w.heap.size (w.heap.size+1+1) (w.heap.size+1) s A n c t C k c2 p B m d B' m' d':=
  ⟨h.ext aj,z1,z3,z2,b1.ext U,b3.ext U,.inr (b2.ext U),oM,za (by unfold Ne6;omega)⟩
 have aw:=aj.size;clear z1 z2 z3 b1 b2 b3 aj U h av;have au:=za (show w.heap.size+1≠0 by omega);have S:=za (show Ne6 (w.heap.size+1+1+1) (w.heap.size+1+1+1+1+1) (w.heap.size+1+1+1+1) w.heap.size (w.heap.size+1+1) (w.heap.size+1) by unfold Ne6;omega);generalize hZt:w.heap.size+1+1+1+1+1=Zt at *;generalize hZp:w.heap.size+1+1+1+1=l at *;generalize hZs:w.heap.size+1+1+1=o at *;generalize hGt:w.heap.size+1+1=Gt at *;generalize hGp:w.heap.size+1=Gp at *;generalize hGs:w.heap.size=Gs at *;have F:=za (show w.heap.size<=o/\w.heap.size<=Zt/\w.heap.size<=l by omega);clear hZt hZp hZs hGt hGp hGs aw;go_wp2_with fail
 refine (zE ai.at_.rd oM).mono ?_;rintro e w2 ⟨y,rfl,-,-,f,g⟩;have a:=ai.drawn g f;clear ai f g;go_upto_block 0 with fail
 go_cut [] (fun wx=>∃ (s:Sys) (A:Option Addr) (n c:Nat) (t:Sys) (C:Option Addr) (k c2:Nat) (p:Aut) (B:Option Addr) (m d:Nat) (B':Option Addr) (m' d':Nat),Tri w wx R (M+100) (L+3) (K+39) (o) (Zt) (l) Gs (Gt) (Gp) s A n c t C k c2 p B m d B' m' d')
 case first =>
  have Q:y=0\/y=1\/y=2\/3<=y:=oM;rcases Q with hy|hy|hy|hy
  ·subst hy;have ay:True:=trivial;have Y:=a.bs.cell;go_wp2_with fail
   refine (zcc (L:=L) a.at_.rd oM a.at_.is a.at_.ns.1.1 oM).mono ?_;rintro e v1 ⟨s1,A1,n1,d1,rfl,af,ab,x,D⟩;have i:=a.drawn D x;clear Y;go_wp2_with fail
   refine (zcc (L:=L+1) i.at_.rd oM af ab.1 oM).mono ?_;rintro e v2 ⟨s2,A2,n2,d2,rfl,ag,ad,f,g⟩;have j:=i.drawn g f;go_wp2_with fail
   refine (zcc (L:=L+2) j.at_.rd oM ag ad.1 oM).mono ?_;rintro e v3 ⟨s3,A3,n3,d3,rfl,ah,ae,G,E⟩;have b:=(j.drawn E G).more (N:=M+100) (J:=L+3) (H:=K+39) oM oM oM;have Y:=b.bs.cell;have fG:=b.bs.frozen;have z:=b.setS ah ae;go_wp2_with fail
   go_meet;exact⟨_,_,_,_,_,_,_,_,_,_,_,_,_,_,_,z⟩
  ·subst hy;have ay:True:=trivial;have u:=au.out;have Y:=(a.az u).cell;go_wp2_with fail
   refine (zeO a.at_.rd oM a.at_.ip a.at_.bd.out oM).mono ?_;rintro e v1 ⟨b1,A1,n1,d1,B1,m1,e1,rfl,aJ,aG,x,D⟩;have i:=a.drawn D x;have bo:=a.at_.rd.lt;have bp:=i.at_.rd.lt;clear Y;go_wp2_with fail
   refine (zeO x oM (aJ.less oM) aG.out oM).mono ?_;rintro e v2 ⟨b2,A2,n2,d2,B2,m2,e2,rfl,aK,aH,f,g⟩;have j:=i.drawn g f;have bq:=j.at_.rd.lt;go_wp2_with fail
   refine (zeO f oM (aK.less oM) aH.out oM).mono ?_;rintro e v3 ⟨b3,A3,n3,d3,B3,m3,e3,rfl,aL,aI,G,E⟩;have b:=(j.drawn E G).more (N:=M+100) (J:=L+3) (H:=K+39) oM oM oM;have Y:=(b.az u).cell;have fG:=(b.az u).frozen;have z:=b.setP u (aL.less oM) (BdL.more aI.out oM);go_wp2_with fail
   go_meet;exact⟨_,_,_,_,_,_,_,_,_,_,_,_,_,_,_,z⟩
  ·subst hy;have ay:True:=trivial;have Y:=a.bt.cell;go_wp2_with fail
   refine (zcc (L:=L) a.at_.rd oM a.at_.it a.at_.ns.2.1 oM).mono ?_;rintro e v1 ⟨s1,A1,n1,d1,rfl,af,ab,x,D⟩;have i:=a.drawn D x;clear Y;go_wp2_with fail
   refine (zcc (L:=L+1) i.at_.rd oM af ab.1 oM).mono ?_;rintro e v2 ⟨s2,A2,n2,d2,rfl,ag,ad,f,g⟩;have j:=i.drawn g f;go_wp2_with fail
   refine (zcc (L:=L+2) j.at_.rd oM ag ad.1 oM).mono ?_;rintro e v3 ⟨s3,A3,n3,d3,rfl,ah,ae,G,E⟩;have b:=(j.drawn E G).more (N:=M+100) (J:=L+3) (H:=K+39) oM oM oM;have Y:=b.bt.cell;have fG:=b.bt.frozen;have z:=b.setT ah ae;go_wp2_with fail
   go_meet;exact⟨_,_,_,_,_,_,_,_,_,_,_,_,_,_,_,z⟩
  ·have h0:((y:Int)==0)=j3:=by simp;omega
   have h1:((y:Int)==1)=j3:=by simp;omega
   have h2:((y:Int)==2)=j3:=by simp;omega
   go_wp2_with fail
   go_meet;exact⟨_,_,_,_,_,_,_,_,_,_,_,_,_,_,_,a.more oM oM oM⟩
 case rest =>
  clear a;obtain⟨s,A,n,c,t,C,k,c2,p,B,m,d,B',m',d',ht⟩:=hcut;have u:=au.out;obtain⟨O,aN⟩:∃ O,O=wc:=⟨_,rfl⟩;subst aN;have cS:∀ W,Frm (fun k=>k=o\/k=l) O W->∀ q,W.cell? ⟨Gs,q,fW⟩=#[Value.int iX s.al,.int iX s.st,fF A n c][q]?:=fun W hW=>(ht.bs.frm hW (by have:=S.out;unfold Ne6 at this;omega)).cell;have cT:∀ W,Frm (fun k=>k=o\/k=l) O W->∀ q,W.cell? ⟨Gt,q,fW⟩=#[Value.int iX t.al,.int iX t.st,fF C k c2][q]?:=fun W hW=>(ht.bt.frm hW (by have:=S.out;unfold Ne6 at this;omega)).cell;have cP:∀ W,Frm (fun k=>k=o\/k=l) O W->∀ q,W.cell? ⟨Gp,q,fW⟩=#[Value.int iX p.al,fF B m d,fF B' m' d'][q]?:=fun W hW=>((ht.az u).frm hW (by have:=S.out;unfold Ne6 at this;omega)).cell;have aq:Frm (fun k=>k=o\/k=l) O O.drew:=(cY O).drew.ak;have I:=ht.ext (cY O).drew;go_wp2_with fail
  refine tR (fun X=>Frm (fun k=>k=o\/k=l) O X) [5] (Ord.of [0,1,2,3,4,5]) ?_;refine tQ ?_;generalize hwD:O.drew=wD at *;clear hwD;have Z:=I.at_;have zs:=I.zs;have V:=I.zt;have zp:=I.zp;have cs:=zs.cell;have fs:=zs.frozen;have r:=za S.out;clear I ht;refine zD fun K hK=>?_;go_simp;have q1:=zag zs rfl (.int iX s.al) (.int iX s.st) (fF A n c);have e1:=zV wD o (.int iX s.al) (.int iX s.st) (fF A n c);replace Z:=Z.far zs e1 F.out.1 dM dM;replace V:=V.frm e1 (by have:=r.out;unfold Ne6 at this;omega);replace zp:=zp.frm e1 (by have:=r.out;unfold Ne6 at this;omega);have aa:=aq.trans (e1.mono (T:=fun k=>k=o\/k=l) (fun k _ hk=>.inl hk));refine hK.out _ _ aa ?_;refine pT ?_;clear cs fs zs e1;generalize ((wD.setCell o s.al).setCell ⟨o,1,fW⟩ s.st).setCell ⟨o,2,fW⟩ (fF A n c)=wA at *;have cp:=zp.cell;have fp:=zp.frozen;refine zD fun K hK=>?_;go_simp;have q2:=zag zp rfl (.int iX p.al) (fF B m d) (fF B' m' d');have e2:=zV wA l (.int iX p.al) (fF B m d) (fF B' m' d');replace Z:=Z.far zp e2 F.out.2.2 dM dM;replace V:=V.frm e2 (by have:=r.out;unfold Ne6 at this;omega);replace q1:=q1.frm e2 (by have:=r.out;unfold Ne6 at this;omega);have ar:=aa.trans (e2.mono (T:=fun k=>k=o\/k=l) (fun k _ hk=>.inr hk));refine hK.out _ _ ar ?_;refine pT ?_;clear cp fp zp e2 aa;generalize ((wA.setCell l p.al).setCell ⟨l,1,fW⟩ (fF B m d)).setCell ⟨l,2,fW⟩ (fF B' m' d')=wB at *;have ct:=V.cell;have ft:=V.frozen;refine zQ fun K hK=>?_;go_simp;have q3:=zag V rfl (.int iX t.al) (.int iX t.st) (fF C k c2);have e3:=zV wB Zt (.int iX t.al) (.int iX t.st) (fF C k c2);replace Z:=Z.far V e3 F.out.2.1 dM dM;replace q1:=q1.frm e3 (by have:=r.out;unfold Ne6 at this;omega);replace q2:=q2.frm e3 (by have:=r.out;unfold Ne6 at this;omega);refine hK.out _ _ ?_;refine zap ?_;clear ct ft V e3 ar aq cS cT cP;generalize ((wB.setCell Zt t.al).setCell ⟨Zt,1,fW⟩ t.st).setCell ⟨Zt,2,fW⟩ (fF C k c2)=wC at *;have aF:=za Z;clear Z;go_wp2_with fail
  have c1:=q1.cell;have aE:=q2.cell;have c3:=q3.cell;exact bodyPost_ret (v:=.tuple #[j4 #[s.al,s.st,fF A n c],j4 #[p.al,fF B m d,fF B' m' d'],j4 #[t.al,t.st,fF C k c2]]) (by simp [results,Tryz.results93,go_sem,c1,aE,c3]) rfl ⟨s,A,n,c,t,C,k,c2,p,B,m,d,B',m',d',rfl,aF.out⟩
theorem spec_l12Draw (h:Rd w R M)(hM:M<=500000000) :
  j8 j5 90 #[kD (fV R)] w (RetSTP R (M+200000) 30000 50 w):=by
 have aO:=h.lt
 go_enter Tryz.func90,Tryz.ntmps90
 go_upto_region 1 with fail
 generalize U0:((w.alloc _).alloc _).alloc _=w0 at *;obtain⟨aY,z1,z2,z3⟩:=Ext.x3_ U0;have cv:w0.heap.size=w.heap.size+3:=by rw [<- U0];simp
 clear U0;go_upto_region 2 with (first
  |(go_at_call 179;refine (spec_l9Three (h.ext aY) oM).mono ?_;rintro e w1 ⟨s,A,n,c,t,C,k,E,p,B,m,d,D,Q,I,rfl,S⟩))
 have ab:Ext w1 (((w1.alloc (.cells #[s.al,s.st,fF A n c] 38)).alloc (.cells #[p.al,fF B m d,fF D Q I] 27)).alloc (.cells #[t.al,t.st,fF C k E] 38)):=(((cY _).alloc _).alloc _).alloc _;obtain⟨b1,b2,b3⟩:=zL (cY (((w1.alloc (.cells #[s.al,s.st,fF A n c] 38)).alloc (.cells #[p.al,fF B m d,fF D Q I] 27)).alloc (.cells #[t.al,t.st,fF C k E] 38)));have br:=S.dr.size;have aF:Tri w (((w1.alloc (.cells #[s.al,s.st,fF A n c] 38)).alloc (.cells #[p.al,fF B m d,fF D Q I] 27)).alloc (.cells #[t.al,t.st,fF C k E] 38)) R (M+150000) 30000 50 w.heap.size (w.heap.size+1) (w.heap.size+1+1) w1.heap.size (w1.heap.size+1+1) (w1.heap.size+1) s A n c t C k E p B m d D Q I:=
  ⟨((S.less aY.dr aO).ext ab).more oM oM oM,(z1.dr S.dr oM).ext ab,(z2.dr S.dr oM).ext ab,(z3.dr S.dr oM).ext ab,b1,b3,.inr b2,oM,za (by unfold Ne6;omega)⟩
 clear S b1 b2 b3 z1 z2 z3 ab;have Y:=za (show w.heap.size+3<=w1.heap.size by omega);have bf:(((w1.alloc (.cells #[s.al,s.st,fF A n c] 38)).alloc (.cells #[p.al,fF B m d,fF D Q I] 27)).alloc (.cells #[t.al,t.st,fF C k E] 38)).heap.size=w1.heap.size+3:=sM;clear br;generalize hG:w1.heap.size=G at *;generalize ((w1.alloc _).alloc _).alloc _=w2 at *;clear hG w1;go_wp2_with fail
 refine (zE aF.at_.rd oM).mono ?_;rintro e w3 ⟨y,rfl,-,-,aV,aB⟩;have aa:=aF.drawn aB aV;have f:=za (show G+3<=w3.heap.size by have:=aB.size;omega);clear aF aV aB bf;go_upto_if 18 with fail
 go_cut [] (fun wx=>∃ (s:Sys) (A:Option Addr) (n c:Nat) (t:Sys) (C:Option Addr) (k E:Nat) (p:Aut) (B:Option Addr) (m d:Nat) (D:Option Addr) (Q I:Nat),Tri w wx R (M+200000) 30000 50 w.heap.size (w.heap.size+1) (w.heap.size+1+1) G (G+1+1) (G+1) s A n c t C k E p B m d D Q I)
 case first =>
  by_cases hy:y=0
  ·subst hy;have cx:True:=trivial;have r:G+1≠0:=oM;go_wp2_with fail
   refine (zkc).mono ?_;rintro e w4 ⟨g,rfl,hg,hT,aZ⟩;have aG:=aa.ext aZ;have hq:=aa.at_.rd.lt;clear aa;have bM:=aZ.size;go_wp2_with fail
   refine (zE aG.at_.rd oM).mono ?_;rintro e w5 ⟨j,rfl,hj,-,bo,aC⟩;have bk:j<9:=by have:=hj oM;omega
   have aH:=aG.drawn aC bo;obtain⟨bt,lt,aS,bl,ag,aU⟩:=hT j bk;have aL:=aC.aa aS (by dsimp only;omega);have x:=zbA aU aC (fun b h1 e=>oM);have bL:(j:Int)<9:=oM;clear hj hT aS aU aG;have cn:w3.heap.size<=bt:=(x.lt bt rfl).1;obtain⟨b6,x0,e0,_,_,av,aN⟩:=(eF x).str (show 0<3 by omega);obtain⟨b7,x1,e1,_,_,aw,ay⟩:=(eF x).str (show 1<3 by omega);obtain⟨b8,x2,e2,_,_,ax,az⟩:=(eF x).str (show 2<3 by omega);obtain rfl:=kA e0;obtain rfl:=kA e1;obtain rfl:=kA e2;have bN:=ag.1 x0 (dD av.out);have bO:=ag.1 x1 (dD aw.out);have bP:=ag.2 x2 ax.out;rw [zad,dX] at aN ay az;clear e0 e1 e2 av aw ax ag bl x;go_wp2_with fail
   refine (zcQ aH.at_.rd oM).mono ?_;rintro e w6 ⟨s1,A1,n1,c1,ok,rfl,bp,⟨-,bi⟩,co,aW,V⟩;have cm:=za (show R<w.heap.size from aO);have l:=aH.drawn V aW;have F:=l.bs.cell;have fG:=l.bs.frozen;have o:=l.setS bp (by omega:n1<=30000/\n1<=c1);have f1:=zV w6 G (.int iX s1.al) (.int iX s1.st) (fF A1 n1 c1);have a0:=(V.aa ay (by have:=f.out;have:=Y.out;dsimp only;omega));have ad:=(V.aa az (by have:=f.out;have:=Y.out;dsimp only;omega));have kt:=(V.aa aL (by have:=f.out;have:=Y.out;dsimp only;omega));have bw:=zjH f1 a0 (by have:=f.out;dsimp only;omega);have a1:=zjH f1 ad (by have:=f.out;dsimp only;omega);clear aN ay az aL a0 ad kt aH l f1 V aW;go_upto_region 6 with fail
   clear F fG;generalize ((w6.setCell G s1.al).setCell ⟨G,1,fW⟩ s1.st).setCell ⟨G,2,fW⟩ (fF A1 n1 c1)=w7 at *;go_wp2_with fail
   refine (zcQ o.at_.rd oM).mono ?_;rintro e w8 ⟨s2,A2,n2,d2,cB,rfl,bq,⟨-,bj⟩,cq,aX,aD⟩;have ah:=o.drawn aD aX;have F:=ah.bt.cell;have fG:=ah.bt.frozen;have O:=ah.setT bq (by omega:n2<=30000/\n2<=d2);have f2:=zV w8 (G+1+1) (.int iX s2.al) (.int iX s2.st) (fF A2 n2 d2);have ad:=(aD.aa a1 (by have:=f.out;have:=Y.out;dsimp only;omega));have bx:=zjH f2 ad (by have:=f.out;dsimp only;omega);clear bw a1 ad o ah f2 aD aX;go_upto_region 7 with fail
   clear F fG;generalize ((w8.setCell ⟨G+1+1,0,fW⟩ s2.al).setCell ⟨G+1+1,1,fW⟩ s2.st).setCell ⟨G+1+1,2,fW⟩ (fF A2 n2 d2)=w9 at *;go_wp2_with fail
   refine (zfJ O.at_.rd oM).mono ?_;rintro e bA ⟨b1,A3,n3,d3,A4,n4,d4,cC,rfl,aT,aR,ar,ap⟩;have cu:=O.at_.rd.lt;have ai:=O.drawn ap ar;have F:=(ai.az r).cell;have fG:=(ai.az r).frozen;have U:=ai.setP r (aT.less oM) (BdL.more aR.out oM);clear bx O ai ap ar aT;go_upto_region 8 with fail
   clear F fG;generalize ((bA.setCell ⟨G+1,0,fW⟩ b1.al).setCell ⟨G+1,1,fW⟩ (fF A3 n3 d3)).setCell ⟨G+1,2,fW⟩ (fF A4 n4 d4)=cH at *;go_wp2_with fail
   refine (zE U.at_.rd oM).mono ?_;rintro e cI ⟨y,rfl,-,-,au,aq⟩;have a:=U.drawn aq au;clear U au aq;have af:y=0\/y=1\/y=2\/3<=y:=oM;rcases af with hy|hy|hy|hy
   ·subst hy;have F:=a.bs.cell;go_wp2_with fail
    refine (zfs (L:=1001) a.at_.rd oM a.at_.is bi oM oM).mono ?_;rintro e a3 ⟨s5,A5,n5,d5,rfl,aE,bm,z,u⟩;have i:=(a.drawn u z).more (N:=M+200000) (J:=30000) (H:=50) oM oM oM;clear F;have F:=i.bs.cell;have fG:=i.bs.frozen;have o:=i.setS aE (by omega:n5<=30000/\n5<=d5);go_wp2_with fail
    go_meet;exact⟨_,_,_,_,_,_,_,_,_,_,_,_,_,_,_,o⟩
   ·subst hy;have F:=a.bt.cell;go_wp2_with fail
    refine (zfs (L:=1001) a.at_.rd oM a.at_.it bj oM oM).mono ?_;rintro e a3 ⟨s5,A5,n5,d5,rfl,aE,bm,z,u⟩;have i:=(a.drawn u z).more (N:=M+200000) (J:=30000) (H:=50) oM oM oM;clear F;have F:=i.bt.cell;have fG:=i.bt.frozen;have o:=i.setT aE (by omega:n5<=30000/\n5<=d5);go_wp2_with fail
    go_meet;exact⟨_,_,_,_,_,_,_,_,_,_,_,_,_,_,_,o⟩
   ·subst hy;have F:=(a.az r).cell;go_wp2_with fail
    refine (zkd (L:=x2.size+1) a.at_.rd oM a.at_.ip aR.out oM).mono ?_;rintro e a3 ⟨b5,A5,n5,d5,A6,n6,d6,rfl,bn,bh,z,u⟩;have hq:=a.at_.rd.lt;have i:=(a.drawn u z).more (N:=M+200000) (J:=30000) (H:=50) oM oM oM;clear F;have F:=(i.az r).cell;have fG:=(i.az r).frozen;have o:=i.setP r (bn.less oM) (BdL.more bh.out oM);go_wp2_with fail
    go_meet;exact⟨_,_,_,_,_,_,_,_,_,_,_,_,_,_,_,o⟩
   ·have h0:((y:Int)==0)=j3:=by simp;omega
    have h1:((y:Int)==1)=j3:=by simp;omega
    have h2:((y:Int)==2)=j3:=by simp;omega
    go_wp2_with fail
    go_meet;exact⟨_,_,_,_,_,_,_,_,_,_,_,_,_,_,_,a.more oM oM oM⟩
  ·have cw:((y:Int)==0)=j3:=by simp;omega
   go_wp2_with fail
   go_meet;exact⟨_,_,_,_,_,_,_,_,_,_,_,_,_,_,_,aa.more oM oM oM⟩
 case rest =>
  clear aa;obtain⟨s,A,n,c,t,C,k,E,p,B,m,d,D,Q,I,S⟩:=hcut;have r:G+1≠0:=oM;have Z:Hid (G+3<=wc.heap.size/\w.heap.size+3<=G):=za ⟨by have:=(S.bt).lt;omega,Y.out⟩;obtain⟨wE,bu⟩:∃ wE,wE=wc:=⟨_,rfl⟩;subst bu;have cS:∀ W,Frm (fun k=>k=w.heap.size\/k=w.heap.size+1) wE W->∀ q,W.cell? ⟨G,q,fW⟩=#[Value.int iX s.al,.int iX s.st,fF A n c][q]?:=fun W hW=>(S.bs.frm hW (oH Z.out)).cell;have cT:∀ W,Frm (fun k=>k=w.heap.size\/k=w.heap.size+1) wE W->∀ q,W.cell? ⟨G+1+1,q,fW⟩=#[Value.int iX t.al,.int iX t.st,fF C k E][q]?:=fun W hW=>(S.bt.frm hW (oH Z.out)).cell;have cP:∀ W,Frm (fun k=>k=w.heap.size\/k=w.heap.size+1) wE W->∀ q,W.cell? ⟨G+1,q,fW⟩=#[Value.int iX p.al,fF B m d,fF D Q I][q]?:=fun W hW=>((S.az r).frm hW (oH Z.out)).cell;have aP:Frm (fun k=>k=w.heap.size\/k=w.heap.size+1) wE wE.drew:=(cY wE).drew.ak;have l:=S.ext (cY wE).drew;go_wp2_with fail
  refine tR (fun X=>Frm (fun k=>k=w.heap.size\/k=w.heap.size+1) wE X) [5] (Ord.of [0,1,2,3,4,5]) ?_;refine tQ ?_;generalize hwD:wE.drew=wD at *;clear hwD;have ha:=l.at_;have zs:=l.zs;have zt:=l.zt;have zp:=l.zp;have cs:=zs.cell;have fs:=zs.frozen;clear l S;refine zD fun K hK=>?_;go_simp;have q1:=zag zs rfl (.int iX s.al) (.int iX s.st) (fF A n c);have e1:=zV wD w.heap.size (.int iX s.al) (.int iX s.st) (fF A n c);replace ha:=ha.far zs e1 oM dM dM;replace zt:=zt.frm e1 oM;replace zp:=zp.frm e1 oM;have aA:=aP.trans (e1.mono (T:=fun k=>k=w.heap.size\/k=w.heap.size+1) (fun k _ hk=>.inl hk));refine hK.out _ _ aA ?_;refine pT ?_;clear cs fs zs e1;generalize ((wD.setCell w.heap.size s.al).setCell ⟨w.heap.size,1,fW⟩ s.st).setCell ⟨w.heap.size,2,fW⟩ (fF A n c)=wA at *;have ct:=zt.cell;have ft:=zt.frozen;refine zD fun K hK=>?_;go_simp;have q2:=zag zt rfl (.int iX t.al) (.int iX t.st) (fF C k E);have e2:=zV wA (w.heap.size+1) (.int iX t.al) (.int iX t.st) (fF C k E);replace ha:=ha.far zt e2 oM dM dM;replace zp:=zp.frm e2 oM;replace q1:=q1.frm e2 oM;have aQ:=aA.trans (e2.mono (T:=fun k=>k=w.heap.size\/k=w.heap.size+1) (fun k _ hk=>.inr hk));refine hK.out _ _ aQ ?_;refine pT ?_;clear ct ft zt e2 aA;generalize ((wA.setCell ⟨w.heap.size+1,0,fW⟩ t.al).setCell ⟨w.heap.size+1,1,fW⟩ t.st).setCell ⟨w.heap.size+1,2,fW⟩ (fF C k E)=wB at *;have cp:=zp.cell;have fp:=zp.frozen;refine zQ fun K hK=>?_;go_simp;have q3:=zag zp rfl (.int iX p.al) (fF B m d) (fF D Q I);have e3:=zV wB (w.heap.size+1+1) (.int iX p.al) (fF B m d) (fF D Q I);replace ha:=ha.far zp e3 oM dM dM;replace q1:=q1.frm e3 oM;replace q2:=q2.frm e3 oM;refine hK.out _ _ ?_;refine zap ?_;clear cp fp zp e3 aQ aP cS cT cP;generalize ((wB.setCell ⟨w.heap.size+1+1,0,fW⟩ p.al).setCell ⟨w.heap.size+1+1,1,fW⟩ (fF B m d)).setCell ⟨w.heap.size+1+1,2,fW⟩ (fF D Q I)=wC at *;have bg:=za ha;clear ha;go_wp2_with fail
  have c1:=q1.cell;have bc:=q2.cell;have c3:=q3.cell;exact bodyPost_ret (v:=.tuple #[j4 #[s.al,s.st,fF A n c],j4 #[t.al,t.st,fF C k E],j4 #[p.al,fF B m d,fF D Q I]]) (by simp [results,Tryz.results90,go_sem,c1,bc,c3]) rfl ⟨s,A,n,c,t,C,k,E,p,B,m,d,D,Q,I,rfl,bg.out⟩
theorem zT.at_new {base:Nat}     (h:zT w base A n c A' n' c' a)(hl:lo<=base):zK w lo w.heap.size A n A' n' a:=(h.less hl).reads
theorem zie (h:Rd w R M)(hM:M<=400000000) :
  j8 j5 102 #[kD (fV R)] w (RetSTP R (M+200100) 30003 89 w):=by
 have au:=h.lt
 go_enter Tryz.func102,Tryz.ntmps102
 go_upto_region 1 with fail
 generalize U0:((w.alloc _).alloc _).alloc _=w0 at *;obtain⟨ai,r,u,y⟩:=Ext.x3_ U0;have a2:w0.heap.size=w.heap.size+3:=by rw [<- U0];simp
 clear U0;go_upto_region 2 with (first
  |(go_at_call 90;refine (spec_l12Draw (h.ext ai) oM).mono ?_;rintro e w1 ⟨s,A,n,c,t,C,k,c2,p,B,m,d,B',m',d',rfl,ht⟩))
 obtain⟨w2,U0⟩:∃ x,Hid (((w1.alloc (.cells #[s.al,s.st,fF A n c] 38)).alloc (.cells #[t.al,t.st,fF C k c2] 38)).alloc (.cells #[p.al,fF B m d,fF B' m' d'] 27)=x):=⟨_,za rfl⟩;have H:Ext w1 w2:=((((cY _).alloc _).alloc _).alloc _).trans (eX U0.out);obtain⟨b1,z,I⟩:=zL (eX U0.out);have a3:=ht.dr.size;have zz:=za (And.intro ((r.dr ht.dr oM).ext H) (And.intro ((u.dr ht.dr oM).ext H) ((y.dr ht.dr oM).ext H)));have V:=(ht.less ai.dr au).ext H;have aE:w2.heap.size=w1.heap.size+3:=by rw [<- U0.out];simp
 have aB:w.heap.size+3<=w1.heap.size:=oM;clear ht H r u y ai;generalize hG:w1.heap.size=G at *;rw [U0.out] at *;clear hG;have cS:=b1.cell;have cT:=z.cell;have cP:=I.cell;have HS:=za (spec_l9Spoil V.own oM oM oM);go_wp2_with fail
 refine HS.out.mono ?_;rintro e w7 ⟨j,J,n7,Q,l,O,Y,S,p7,L,Z,U,b,g,f,rfl,ah⟩;have a1:=V.rd.lt;have o:=ah.dr;have i:=ah.less V.dr au;replace b1:=b1.dr o oM;replace z:=z.dr o oM;replace I:=I.dr o oM;obtain⟨r,u,y⟩:=zz.out;replace zz:=za (And.intro (r.dr o oM) (And.intro (u.dr o oM) (y.dr o oM)));clear V ah o r u y HS cS cT cP;have cS:=b1.cell;have fS:=b1.frozen;have cT:=z.cell;have fT:=z.frozen;have cP:=I.cell;have fP:=I.frozen;go_upto_region 3 with fail
 have a:=zV w7 G (.int iX j.al) (.int iX j.st) (fF J n7 Q);have D:=zag b1 rfl (.int iX j.al) (.int iX j.st) (fF J n7 Q);replace i:=i.far b1 a oM dM dM;replace z:=z.frm a oM;replace I:=I.frm a oM;obtain⟨r,u,y⟩:=zz.out;replace r:=r.frm a oM;replace u:=u.frm a oM;replace y:=y.frm a oM;clear zz a b1 cS fS cT fT cP fP;generalize ((w7.setCell G j.al).setCell ⟨G,1,fW⟩ j.st).setCell ⟨G,2,fW⟩ (fF J n7 Q)=w8 at *;have a:=zV w8 (G+1+1) (.int iX p7.al) (fF L Z U) (fF b g f);have q3:=zag I rfl (.int iX p7.al) (fF L Z U) (fF b g f);replace i:=i.far I a oM dM dM;replace z:=z.frm a oM;replace D:=D.frm a oM;replace r:=r.frm a oM;replace u:=u.frm a oM;replace y:=y.frm a oM;clear a I;generalize ((w8.setCell ⟨G+1+1,0,fW⟩ p7.al).setCell ⟨G+1+1,1,fW⟩ (fF L Z U)).setCell ⟨G+1+1,2,fW⟩ (fF b g f)=w9 at *;have a:=zV w9 (G+1) (.int iX l.al) (.int iX l.st) (fF O Y S);have q2:=zag z rfl (.int iX l.al) (.int iX l.st) (fF O Y S);replace i:=i.far z a oM dM dM;replace D:=D.frm a oM;replace q3:=q3.frm a oM;replace r:=r.frm a oM;replace u:=u.frm a oM;replace y:=y.frm a oM;clear a z;generalize ((w9.setCell ⟨G+1,0,fW⟩ l.al).setCell ⟨G+1,1,fW⟩ l.st).setCell ⟨G+1,2,fW⟩ (fF O Y S)=E at *;have F:Hid (w.heap.size+3<=G):=za aB;have cS:∀ W,Frm (fun k=>k=w.heap.size\/k=w.heap.size+1) E W->∀ q,W.cell? ⟨G,q,fW⟩=#[Value.int iX j.al,.int iX j.st,fF J n7 Q][q]?:=fun W hW=>(D.frm hW (oH F.out)).cell;have cT:∀ W,Frm (fun k=>k=w.heap.size\/k=w.heap.size+1) E W->∀ q,W.cell? ⟨G+1,q,fW⟩=#[Value.int iX l.al,.int iX l.st,fF O Y S][q]?:=fun W hW=>(q2.frm hW (oH F.out)).cell;have cP:∀ W,Frm (fun k=>k=w.heap.size\/k=w.heap.size+1) E W->∀ q,W.cell? ⟨G+1+1,q,fW⟩=#[Value.int iX p7.al,fF L Z U,fF b g f][q]?:=fun W hW=>(q3.frm hW (oH F.out)).cell;have av:Frm (fun k=>k=w.heap.size\/k=w.heap.size+1) E E.drew:=(cY E).drew.ak;have ha:=i.ext (cY E).drew;have zs:=r.ext (cY E).drew;have zt:=u.ext (cY E).drew;have zp:=y.ext (cY E).drew;clear D q2 q3 r u y i;go_wp2_with fail
 refine tR (fun X=>Frm (fun k=>k=w.heap.size\/k=w.heap.size+1) E X) [5] (Ord.of [0,1,2,3,4,5]) ?_;refine tQ ?_;generalize hwD:E.drew=wD at *;clear hwD;have cs:=zs.cell;have fs:=zs.frozen;refine zD fun K hK=>?_;go_simp;have D:=zag zs rfl (.int iX j.al) (.int iX j.st) (fF J n7 Q);have a:=zV wD w.heap.size (.int iX j.al) (.int iX j.st) (fF J n7 Q);replace ha:=ha.far zs a oM dM dM;replace zt:=zt.frm a oM;replace zp:=zp.frm a oM;have ag:=av.trans (a.mono (T:=fun k=>k=w.heap.size\/k=w.heap.size+1) (fun k _ hk=>.inl hk));refine hK.out _ _ ag ?_;refine pT ?_;clear cs fs zs a;generalize ((wD.setCell w.heap.size j.al).setCell ⟨w.heap.size,1,fW⟩ j.st).setCell ⟨w.heap.size,2,fW⟩ (fF J n7 Q)=wA at *;have ct:=zt.cell;have ft:=zt.frozen;refine zD fun K hK=>?_;go_simp;have q2:=zag zt rfl (.int iX l.al) (.int iX l.st) (fF O Y S);have e2:=zV wA (w.heap.size+1) (.int iX l.al) (.int iX l.st) (fF O Y S);replace ha:=ha.far zt e2 oM dM dM;replace zp:=zp.frm e2 oM;replace D:=D.frm e2 oM;have aw:=ag.trans (e2.mono (T:=fun k=>k=w.heap.size\/k=w.heap.size+1) (fun k _ hk=>.inr hk));refine hK.out _ _ aw ?_;refine pT ?_;clear ct ft zt e2 ag;generalize ((wA.setCell ⟨w.heap.size+1,0,fW⟩ l.al).setCell ⟨w.heap.size+1,1,fW⟩ l.st).setCell ⟨w.heap.size+1,2,fW⟩ (fF O Y S)=wB at *;have cp:=zp.cell;have fp:=zp.frozen;refine zQ fun K hK=>?_;go_simp;have q3:=zag zp rfl (.int iX p7.al) (fF L Z U) (fF b g f);have e3:=zV wB (w.heap.size+1+1) (.int iX p7.al) (fF L Z U) (fF b g f);replace ha:=ha.far zp e3 oM dM dM;replace D:=D.frm e3 oM;replace q2:=q2.frm e3 oM;refine hK.out _ _ ?_;refine zap ?_;clear cp fp zp e3 aw av cS cT cP;generalize ((wB.setCell ⟨w.heap.size+1+1,0,fW⟩ p7.al).setCell ⟨w.heap.size+1+1,1,fW⟩ (fF L Z U)).setCell ⟨w.heap.size+1+1,2,fW⟩ (fF b g f)=wC at *;have aC:=za ha;clear ha;go_wp2_with fail
 have c1:=D.cell;have aA:=q2.cell;have c3:=q3.cell;exact bodyPost_ret (v:=.tuple #[j4 #[j.al,j.st,fF J n7 Q],j4 #[l.al,l.st,fF O Y S],j4 #[p7.al,fF L Z U,fF b g f]]) (by simp [results,Tryz.results102,go_sem,c1,aA,c3]) rfl ⟨j,J,n7,Q,l,O,Y,S,p7,L,Z,U,b,g,f,rfl,aC.out⟩
def RetD3 (w:j2) (e:Ending) (w':j2):Prop:=
 ∃ (s:Sys) (A:Option Addr) (n c:Nat) (t:Sys) (C:Option Addr) (k c2:Nat) (p:Aut) (B:Option Addr) (m d:Nat) (B':Option Addr) (m' d':Nat),
  e=j7 (.tuple #[j4 #[s.al,s.st,fF A n c],j4 #[t.al,t.st,fF C k c2],j4 #[p.al,fF B m d,fF B' m' d']]) /\
  (zY w' w.heap.size w'.heap.size A n s/\zY w' w.heap.size w'.heap.size C k t/\zK w' w.heap.size w'.heap.size B m B' m' p) /\
  Hid ((n<=100000/\n<=c)/\(k<=100000/\k<=c2))/\Ext w w'
theorem draw_d3 {p:Aut}  {w1 W':j2} (hx:Ext w w1)(hR:w.heap.size<=R)(hT:zcd w1 W R M L K s A n c t C k c2 p B m d B' m' d')
  (hF:Frm S W W') (hS:∀ k,S k->w.heap.size<=k/\k<R) (hL:L<=100000) :
  RetD3 w (j7 (.tuple #[j4 #[s.al,s.st,fF A n c],j4 #[t.al,t.st,fF C k c2],j4 #[p.al,fF B m d,fF B' m' d']])) W':=by
 have a:Ext w W:=Dr.new hx hR hT.dr;have f:=hT.is.frm hF (fun k hk h1=>by have:=hS k hk;omega);have g:=hT.it.frm hF (fun k hk h1=>by have:=hS k hk;omega);have h:=hT.ip.keep hF (fun k h1 hk=>by have:=hS k hk;omega);have b:=hT.ns;exact⟨s,A,n,c,t,C,k,c2,p,B,m,d,B',m',d',rfl,⟨f.new hR,g.new hR,h.at_new oM⟩,za oM,a.frm hF (fun k hk hk2=>by have:=hS k hk2;omega)⟩
theorem spec_DrawVerifyPair (h:Bytes w A0 n0)(hn:n0<=9223372036854775807)(hc:n0<=c0)(hc2:c0<=9223372036854775807) :
  j8 j5 38 #[fF A0 n0 c0] w (RetD3 w):=by
 obtain⟨L,U0⟩:∃ x,Hid (((w.alloc (.cells #[(0:Int),(0:Int),()] 38)).alloc (.cells #[(0:Int),(0:Int),()] 38)).alloc (.cells #[(0:Int),(),()] 27)=x):=⟨_,za rfl⟩;have f:Ext w L:=((((cY _).alloc _).alloc _).alloc _).trans (eX U0.out);obtain⟨g,i,j⟩:=zL (eX U0.out);have Y:L.heap.size=w.heap.size+3:=by rw [<- U0.out];simp
 have X:=za (h.ext f);clear h
 go_enter Tryz.func38,Tryz.ntmps38
 go_wp2_with fail
 rw [U0.out] at *;refine (zgT X.out hn hc hc2).mono ?_;rintro e w1 ⟨R,rfl,hR,l,a⟩;have b:=f.trans a;have V:=l.lt;go_wp2_with fail
 refine (zie l oM).mono ?_;rintro e F ⟨s,A,n,c,t,C,k,o,p,B,m,d,z,E,D,rfl,y⟩;replace g:=(g.ext a).dr y.dr oM;replace i:=(i.ext a).dr y.dr oM;replace j:=(j.ext a).dr y.dr oM;have c1:=g.cell;have f1:=g.frozen;have U:=i.cell;have f2:=i.frozen;have c3:=j.cell;have f3:=j.frozen;have q:=zV F w.heap.size (.int iX s.al) (.int iX s.st) (fF A n c);have r:=zV (((F.setCell w.heap.size s.al).setCell ⟨w.heap.size,1,fW⟩ s.st).setCell ⟨w.heap.size,2,fW⟩ (fF A n c)) (w.heap.size+1) (.int iX t.al) (.int iX t.st) (fF C k o);have u:=zV ((((((F.setCell w.heap.size s.al).setCell ⟨w.heap.size,1,fW⟩ s.st).setCell ⟨w.heap.size,2,fW⟩ (fF A n c)).setCell ⟨w.heap.size+1,0,fW⟩ t.al).setCell ⟨w.heap.size+1,1,fW⟩ t.st).setCell ⟨w.heap.size+1,2,fW⟩ (fF C k o)) (w.heap.size+1+1) (.int iX p.al) (fF B m d) (fF z E D);have H:=((zag g rfl (.int iX s.al) (.int iX s.st) (fF A n c)).frm r oM).frm u oM;have I:=(zag (i.frm q oM) rfl (.int iX t.al) (.int iX t.st) (fF C k o)).frm u oM;have J:=zag ((j.frm q oM).frm r oM) rfl (.int iX p.al) (fF B m d) (fF z E D);have G:=((q.mono (T:=fun k=>k=w.heap.size\/k=w.heap.size+1\/k=w.heap.size+1+1) (fun k _ hk=>.inl hk)).trans (r.mono (T:=fun k=>k=w.heap.size\/k=w.heap.size+1\/k=w.heap.size+1+1) (fun k _ hk=>.inr (.inl hk)))).trans (u.mono (T:=fun k=>k=w.heap.size\/k=w.heap.size+1\/k=w.heap.size+1+1) (fun k _ hk=>.inr (.inr hk)));have M:=za (draw_d3 b oM y G (fun k hk=>oM) oM);have O:=za H;have Q:=za I;have S:=za J;clear q r u H I J G g i j f a b;go_wp2_with fail
 have Z:=O.out.cell;have r2:=Q.out.cell;have r3:=S.out.cell;exact bodyPost_ret (v:=.tuple #[j4 #[s.al,s.st,fF A n c],j4 #[t.al,t.st,fF C k o],j4 #[p.al,fF B m d,fF z E D]]) (by simp [results,Tryz.results38,go_sem,Z,r2,r3]) rfl M.out
theorem spec_DrawCertifyPair (h:Bytes w A0 n0)(hn:n0<=9223372036854775807)(hc:n0<=c0)(hc2:c0<=9223372036854775807) :
  j8 j5 43 #[fF A0 n0 c0] w (RetD3 w):=by
 obtain⟨L,U0⟩:∃ x,Hid (((w.alloc (.cells #[(0:Int),(0:Int),()] 38)).alloc (.cells #[(0:Int),(0:Int),()] 38)).alloc (.cells #[(0:Int),(),()] 27)=x):=⟨_,za rfl⟩;have f:Ext w L:=((((cY _).alloc _).alloc _).alloc _).trans (eX U0.out);obtain⟨g,i,j⟩:=zL (eX U0.out);have Y:L.heap.size=w.heap.size+3:=by rw [<- U0.out];simp
 have X:=za (h.ext f);clear h
 go_enter Tryz.func43,Tryz.ntmps43
 go_wp2_with fail
 rw [U0.out] at *;refine (zgT X.out hn hc hc2).mono ?_;rintro e w1 ⟨R,rfl,hR,l,a⟩;have b:=f.trans a;have V:=l.lt;go_wp2_with fail
 refine (zie l oM).mono ?_;rintro e F ⟨s,A,n,c,t,C,k,o,p,B,m,d,z,E,D,rfl,y⟩;replace g:=(g.ext a).dr y.dr oM;replace i:=(i.ext a).dr y.dr oM;replace j:=(j.ext a).dr y.dr oM;have c1:=g.cell;have f1:=g.frozen;have U:=i.cell;have f2:=i.frozen;have c3:=j.cell;have f3:=j.frozen;have q:=zV F w.heap.size (.int iX s.al) (.int iX s.st) (fF A n c);have r:=zV (((F.setCell w.heap.size s.al).setCell ⟨w.heap.size,1,fW⟩ s.st).setCell ⟨w.heap.size,2,fW⟩ (fF A n c)) (w.heap.size+1) (.int iX t.al) (.int iX t.st) (fF C k o);have u:=zV ((((((F.setCell w.heap.size s.al).setCell ⟨w.heap.size,1,fW⟩ s.st).setCell ⟨w.heap.size,2,fW⟩ (fF A n c)).setCell ⟨w.heap.size+1,0,fW⟩ t.al).setCell ⟨w.heap.size+1,1,fW⟩ t.st).setCell ⟨w.heap.size+1,2,fW⟩ (fF C k o)) (w.heap.size+1+1) (.int iX p.al) (fF B m d) (fF z E D);have H:=((zag g rfl (.int iX s.al) (.int iX s.st) (fF A n c)).frm r oM).frm u oM;have I:=(zag (i.frm q oM) rfl (.int iX t.al) (.int iX t.st) (fF C k o)).frm u oM;have J:=zag ((j.frm q oM).frm r oM) rfl (.int iX p.al) (fF B m d) (fF z E D);have G:=((q.mono (T:=fun k=>k=w.heap.size\/k=w.heap.size+1\/k=w.heap.size+1+1) (fun k _ hk=>.inl hk)).trans (r.mono (T:=fun k=>k=w.heap.size\/k=w.heap.size+1\/k=w.heap.size+1+1) (fun k _ hk=>.inr (.inl hk)))).trans (u.mono (T:=fun k=>k=w.heap.size\/k=w.heap.size+1\/k=w.heap.size+1+1) (fun k _ hk=>.inr (.inr hk)));have M:=za (draw_d3 b oM y G (fun k hk=>oM) oM);have O:=za H;have Q:=za I;have S:=za J;clear q r u H I J G g i j f a b;go_wp2_with fail
 have Z:=O.out.cell;have r2:=Q.out.cell;have r3:=S.out.cell;exact bodyPost_ret (v:=.tuple #[j4 #[s.al,s.st,fF A n c],j4 #[t.al,t.st,fF C k o],j4 #[p.al,fF B m d,fF z E D]]) (by simp [results,Tryz.results43,go_sem,Z,r2,r3]) rfl M.out
section
variable {lo hi lo' hi' n c m d n' c' m' d':Nat} {A B A' B':Option Addr} {w:j2}
theorem yX17a3 {P:Prop}(h:P:=by
 obtain rfl:x=y:=Option.some.inj (hx.out.symm.trans hy.out);go_wp2
 go_quiet (fail)
 go_wp2;go_roundw
 case rel=>exact⟨k+1,oM,gM,zkt.drewN _⟩
 case measure=>simp [intOf];omega
 ):P:=h
theorem agIntsI_same {l:List Int}(h:Reads w lo hi 1 A n (ints l))(h':Reads w lo' hi' 1 B m (ints l)) :
  j8 j5 201 #[fF A n c,fF B m d] w fun e w'=>e=j7 (.bool jV)/\Ext w w':=by
 have r:=h.len;have b:=h.length;have f:=h'.length;rw [zde] at b f;obtain rfl:n=m:=oM;clear b f;have g:=za (fun W (hW:Ext w W)=>h.ext hW);have a:=za (fun W (hW:Ext w W)=>h'.ext hW)
 go_enter Tryz.func201,Tryz.ntmps201
 go_wp2
 go_loopw [5] (fun v wr=>∃ k:Nat,k<=n/\v=.int iX k/\Ext w wr) (fun v _=>n - (intOf v).toNat)
 case atStart=>exact⟨0,dH _,rfl,cY _⟩
 case round =>
  obtain⟨k,q,rfl,zkt⟩:=hrel
  by_cases hlt:k<n
  ·obtain⟨o,x,rfl,_,_,hx,p⟩:=(g.out wr zkt).int hlt;obtain⟨i,y,rfl,_,_,hy,j⟩:=(a.out wr zkt).int hlt;exact yX17a3
  ·obtain rfl:k=n:=oM;go_wp2;go_ret;exact⟨rfl,zkt⟩
theorem agBools_same {l:List Bool}(h:Reads w lo hi 1 A n (zaa l))(h':Reads w lo' hi' 1 B m (zaa l)) :
  j8 j5 200 #[fF A n c,fF B m d] w fun e w'=>e=j7 (.bool jV)/\Ext w w':=by
 have r:=h.len;have b:=h.length;have f:=h'.length;rw [zbX] at b f;obtain rfl:n=m:=oM;clear b f;have g:=za (fun W (hW:Ext w W)=>h.ext hW);have a:=za (fun W (hW:Ext w W)=>h'.ext hW)
 go_enter Tryz.func200,Tryz.ntmps200
 go_wp2
 go_loopw [5] (fun v wr=>∃ k:Nat,k<=n/\v=.int iX k/\Ext w wr) (fun v _=>n - (intOf v).toNat)
 case atStart=>exact⟨0,dH _,rfl,cY _⟩
 case round =>
  obtain⟨k,q,rfl,zkt⟩:=hrel
  by_cases hlt:k<n
  ·obtain⟨o,x,rfl,_,_,hx,p⟩:=(g.out wr zkt).bool hlt;obtain⟨i,y,rfl,_,_,hy,j⟩:=(a.out wr zkt).bool hlt;exact yX17a3
  ·obtain rfl:k=n:=oM;go_wp2;go_ret;exact⟨rfl,zkt⟩
theorem zhB (h:zK w lo hi A n A' n' a)(h':zK w lo' hi' B m B' m' a) :
  j8 j5 111 #[j4 #[a.al,fF A n c,fF A' n' c'],j4 #[a.al,fF B m d,fF B' m' d']] w fun e w'=>e=j7 (.bool jV)/\Ext w w':=by
 have U:=h.1.len;obtain rfl:n=m:=h.1.1.trans h'.1.1.symm;have u:=za (fun W (hW:Ext w W)=>h.1.ext hW);have i:=za (fun W (hW:Ext w W)=>h'.1.ext hW);have s:=za (fun W (hW:Ext w W)=>agBools_same (c:=c') (d:=d') (h.2.2.ext hW) (h'.2.2.ext hW));clear h h'
 go_enter Tryz.func111,Tryz.ntmps111
 go_upto_region 1 with fail
 generalize U0:(w.alloc _).alloc _=r at *;obtain⟨b,y,z⟩:=Ext.x2_ U0;clear U0;have C:=y.cells;have E:=z.cells;have J:=cY r;go_wp2_with (first
  |(go_at_call 200;refine (s.out _ b).mono (mQ fun w1 o=>?_)))
 go_loopw [5] (fun v wr=>∃ k:Nat,k<=n/\v=.int iX k/\Ext r wr) (fun v _=>n - (intOf v).toNat)
 case atStart=>exact⟨0,dH _,rfl,o⟩
 case round =>
  obtain⟨k,T,rfl,zkt⟩:=hrel
  by_cases hlt:k<n
  ·obtain⟨Q,M,G,l,rfl,_,_,hx,I,q⟩:=(u.out wr (b.trans zkt)).row hlt;obtain⟨x,O,H,L,rfl,_,_,hy,j,f⟩:=(i.out wr (b.trans zkt)).row hlt;obtain rfl:l=L:=kA (hx.out.symm.trans hy.out);have t:=za (fun W (hW:Ext wr W)=>agIntsI_same (c:=G) (d:=H) (q.ext hW) (f.ext hW));clear q f;have g:=cY wr;have R:=fun W (hW:Ext wr W)=>hW.aa I;have S:=fun W (hW:Ext wr W)=>hW.aa j;have D:=fun W (hW:Ext wr W)=>C W (zkt.trans hW);have F:=fun W (hW:Ext wr W)=>E W (zkt.trans hW);go_upto_region 6 with fail
   refine uR (fun X=>Ext wr X) [10] (zx.of [0,1,2,3,4,5,6,7,8,9,10,11]) ?_;refine uQ ?_;refine zb fun K hK=>?_;go_simp;refine (t.out _ g.drew).mono (mQ fun V p=>?_);refine hK.out _ _ ?_;refine pT ?_;refine uQ ?_;refine zg ?_;go_wp2_with fail
   go_roundw
   case rel=>exact⟨k+1,oM,gM,zkt.trans (g.drew.trans p)⟩
   case measure=>exact uM
  ·obtain rfl:k=n:=oM;go_wp2_with fail
   go_ret;exact⟨rfl,b.trans zkt⟩
end
section
variable {lo hi lo' hi' lo1 hi1 lo2 hi2 n c m d n' c' m' d' k e k' e' q f0 q' f0':Nat} {A B A' B' C C' D D':Option Addr} {w:j2}
theorem agCertificates_same {hd:Bool}  (h:zK w lo hi A n A' n' a)(h':zK w lo' hi' B m B' m' a) :
  j8 j5 46 #[j4 #[j9 hd,a.al,fF A n c,fF A' n' c',x],j4 #[j9 hd,a.al,fF B m d,fF B' m' d',x]] w fun e w'=>e=j7 (.bool jV)/\Ext w w':=by
 have j:=za (fun W (hW:Ext w W)=>zhB (c:=c) (c':=c') (d:=d) (d':=d') (h.ext hW) (h'.ext hW));clear h h';have k:(hd==hd)=jV:=sM;have l:(!hd==hd)=j3:=by cases hd<;>rfl
 go_enter Tryz.func46,Tryz.ntmps46
 go_upto_region 1 with fail
 generalize U0:(w.alloc _).alloc _=p at *;obtain⟨b,g,i⟩:=Ext.x2_ U0;clear U0;have q:=g.cells;have r:=i.cells;have o:=cY p;clear g i;go_wp2_with (first
  |(go_at_call 111;with_reducible refine (j.out _ b).mono (mQ fun w1 f=>?_)))
 go_ret;exact⟨rfl,b.trans f⟩
end
theorem wl_app (x y:ByteArray):wl (x++y)=wl x++wl y:=by
 unfold wl;rw [ByteArray.data_append,Array.toList_append,eI]
theorem runA_app (p:Aut) (q:Nat) (u v:List Nat):zar p q (u++v)=zar p (zar p q u) v:=by simp [zar]
theorem inB_app (hx:inB x L=jV)(hy:inB y L=jV)(hs:x.size+y.size<=50000):inB (x++y) L=jV:=by
 unfold inB at hx hy ⊢;simp only [dI,decide_eq_true_eq] at hx hy ⊢;refine⟨by rw [ByteArray.size_append];exact hs,?_⟩;have a:=hx.2;have b:=hy.2;unfold zgl at a b ⊢;rw [ByteArray.data_append,Array.toList_append,List.all_append,a,b];rfl
theorem zjL (hx:inB x L=jV):ziv L (wl x):=by
 obtain⟨b,c⟩:=zeE.1 hx;refine fun l hl=>⟨zkq b l hl,?_⟩;have a:(alB (wl x)).testBit l=jV:=(zdE _ _).2 hl;rw [<- c,Nat.testBit_and,dI] at a;exact a.2
structure Dec (s:Sys) (p:Aut) (L:Nat) (D:Aut):Prop where
 valid:zj D=jV
 al:D.al=(L:Int)
 ok:∀ w,ziv L w->(zaw D (zar D 0 w)=jV↔SafeW s p L w)
section
variable {s t:Sys} {p D a:Aut} {L:Nat} {rows cols:List ByteArray}
theorem Dec.safe (h:Dec s p L D) (hx:inB x L=jV):zaw D (zar D 0 (wl x))=zu s p L x:=by
 rw [gK,h.ok _ (zjL hx),zdh];exact⟨fun k=>⟨hx,k⟩,fun k=>k.2⟩
theorem Dec.mark (h:Dec s p L D)(hI:zbG L (zu s p L) rows cols) (hx:inB x L=jV)(hxs:x.size<=1000)(hy:inB y L=jV)(hys:y.size<=1000)(he:zar D 0 (wl x)=zar D 0 (wl y)) :
  zbC (zu s p L) cols x=zbC (zu s p L) cols y:=by
 unfold zbC;refine List.map_congr_left fun c hc=>?_;obtain⟨a,b⟩:=hI.cin hc;rw [<- h.safe (inB_app hx a oM),<- h.safe (inB_app hy a oM),wl_app,wl_app,runA_app,runA_app,he]
theorem Dec.few (h:Dec s p L D)(hI:zbG L (zu s p L) rows cols) {ws:List ByteArray}(hw:∀ x∈ws,inB x L=jV/\x.size<=1000)(hn:(ws.map (zbC (zu s p L) cols)).Nodup):ws.length<=12:=by
 have b:=(zk h.valid).2.1;have a:(ws.map fun x=>zar D 0 (wl x)).Nodup:=by
  unfold List.Nodup at hn ⊢;rw [List.pairwise_map] at hn ⊢;refine List.Pairwise.imp_of_mem (fun {x y} hx hy hne he=>hne ?_) hn;exact h.mark hI (hw x hx).1 (hw x hx).2 (hw y hy).1 (hw y hy).2 he
 have c:(ws.map fun x=>zar D 0 (wl x)) ⊆ eU D.next.length:=by
  intro q hq;obtain⟨x,hx,rfl⟩:=kE.1 hq;exact List.mem_range.2 (zem h.valid (fun l hl=>(zjL (hw x hx).1 l hl).1) oM)
 have d:=List.Nodup.length_le_of_subset a c;rw [List.length_map,List.length_range] at d;omega
theorem Dec.close (h:Dec s p L D)(hI:zbG L (zu s p L) rows cols):zas L (zu s p L) cols (12 - rows.length) rows≠fW:=by
 intro hn;have n:=hI.r12;obtain⟨r,a,b,c⟩:=zhE (12 - rows.length) rows hI oM hn;obtain⟨z,k⟩:=kS.1 c;obtain⟨⟨m,l,d,f,g,rfl⟩,i⟩:=zjf k;have j:=a.rin d;have:=h.few a (ws:=r++[m++zbY l]) (fun x hx=>by
  rcases kF.1 hx with hx|hx
  ·exact⟨(a.rin hx).1,by have:=(a.rin hx).2;omega⟩
  ·obtain rfl:=kI.1 hx;exact⟨zjM j.1 oM f g,by rw [ByteArray.size_append,zcj];omega⟩) (by
  rw [eI,List.map_singleton,List.nodup_append];refine⟨a.nd,sM,fun x hx y hy e=>?_⟩;rw [List.mem_singleton] at hy;subst hy;subst e;exact i hx)
 rw [dN,dV,b] at this;omega
theorem open_same {col:ByteArray}(hc:col∈cols)(ho:zaH L f rows cols=fW):zaH L f rows (cols++[col])=fW:=by
 unfold zaH;rw [List.find?_eq_none];intro z hz;unfold candL at hz;obtain⟨r,g,c⟩:=List.mem_flatMap.1 hz;obtain⟨l,d,rfl⟩:=kE.1 c;have a:=zdT ho g d;unfold zaD at a;obtain⟨y,hy,e⟩:=kE.1 a;have e:=zjR e;have b:f (y++col)=f (r++zbY l++col):=by
  unfold zbC at e;exact (List.map_inj_left.1 e) col hc
 simp only [Bool.not_eq_true',Bool.not_eq_false];refine zau.2 ?_;unfold zaD;refine kE.2 ⟨y,hy,?_⟩;rw [zdV,zdV,e,b]
theorem split_some (hI:zbG L f rows cols)(ho:zaH L f rows cols=fW) (hx:inB x L=jV)(hne:zaw (zcV L f rows cols) (zar (zcV L f rows cols) 0 (wl x))≠f x):∃ col,zco L f rows cols x=fV col:=by
 have d:stT L f rows cols x x.size<rows.length:=by
  have i:∀ (ls:List Nat) (q:Nat),q<rows.length->ziv L ls->zar (zcV L f rows cols) q ls<rows.length:=by
   intro ls
   induction ls with
   |nil=>intro q hq _;exact hq
   |cons a r ih =>
    intro q hq h;obtain⟨m,n⟩:=h a List.mem_cons_self;obtain⟨y,hy,-⟩:=zjv ho (dC hq) m n;exact ih _ (kB.1 hy).1 (fun b hb=>h b (List.mem_cons_of_mem _ hb))
  exact i _ 0 hI.r1 fun a ha=>zjL hx a (List.mem_of_mem_take ha)
 have g:stT L f rows cols x x.size=zar (zcV L f rows cols) 0 (wl x):=by
  unfold stT;rw [dK (by rw [zft];exact dE _)]
 have c:zgL L f rows cols x x.size=zaw (zcV L f rows cols) (zar (zcV L f rows cols) 0 (wl x)):=by
  rw [<- g];have o:x.extract x.size x.size=⟨#[]⟩:=by
   apply ByteArray.ext;rw [ByteArray.data_extract];simp
  unfold zgL;rw [o,dF,dC d,eM];unfold zaw zcV;dsimp only;rw [dF,dP,dC d,gY,eM]
  congr 1
  apply ByteArray.ext;rw [ByteArray.data_append];simp
 have l:zgL L f rows cols x 0=f x:=by
  unfold zgL stT;rw [List.take_zero];show f (rows.getD 0 ⟨#[]⟩++_)=_;rw [dF,hI.r0,eM,zhI,empty_append]
 have j:0<x.size:=by
  rcases gJ x.size with h|h
  ·rw [h,l] at c;exact absurd c.symm hne
  ·exact h
 unfold zco;rw [if_neg hne];have s:((eU x.size).find? fun k=>zgL L f rows cols x (k+1) != f x).isSome=jV:=by
  rw [List.find?_isSome];refine⟨x.size - 1,List.mem_range.2 oM,?_⟩;rw [show x.size - 1+1=x.size by omega,c];simpa using hne
 obtain⟨k,p⟩:=Option.isSome_iff_exists.1 s;exact⟨_,by rw [p];rfl⟩
theorem Dec.ar (h:Dec s p L D)(hI:zbG L (zu s p L) rows cols)(ho:zaH L (zu s p L) rows cols=fW)(hc:cols.length<=rows.length) (hx:inB x L=jV)(h4:x.size<=4000)
  (hne:zaw (zcV L (zu s p L) rows cols) (zar (zcV L (zu s p L) rows cols) 0 (wl x))≠zu s p L x):∃ rs cs,zbd L (zu s p L) rows cols x=fV (rs,cs)/\cs.length<=rs.length:=by
 have k:=hI.r12;obtain⟨d,c⟩:=split_some hI ho hx hne;have a:=zjm hI hx h4;rw [c] at a;have i:=zjl hI ho a;have f:zcT cols d=j3:=by
  rw [zbZ];exact fun hm=>i (open_same hm ho)
 obtain⟨m,n⟩:=zil hx h4 c;have b:zfS L cols d=jV:=by
  unfold zfS;rw [m,decide_eq_true n,f,decide_eq_true (show cols.length≠20 by omega)];rfl
 have g:=h.close (hI.addC b);obtain⟨r,l⟩:=kS.1 g;have j:zbd L (zu s p L) rows cols x=fV (r,cols++[d]):=by
  unfold zbd;rw [a];dsimp only;rw [if_pos b,l];rfl
 obtain⟨o,q⟩:=zhR hI ho j;exact⟨r,_,j,oM⟩
theorem restB_len (L:Nat):(zbB x L).size<=x.size:=zeV x L
theorem judge_wrong (hs:zl s=jV)(hp:zj p=jV)(ha:zj a=jV)(hal:a.al=(L:Int))(h0:(zaN s p t L a).2≠0)(h1:(zaN s p t L a).2≠1) :
  inB (zaN s p t L a).1 L=jV/\(zaN s p t L a).1.size<=4000/\zaw a (zar a 0 (wl (zaN s p t L a).1))≠zu s p L (zaN s p t L a).1:=by
 have g:a.al.toNat=L:=by rw [hal];rfl
 have r:∀ v,zar a 0 (v.filter fun l=>L.testBit l)=zar a 0 v:=fun v=>by rw [<- g];exact runA_filter a v 0
 unfold zaN at h0 h1 ⊢;split
 ·rename_i hu;obtain⟨w1,u⟩:=zet hs ha hp;have i:zcs s a p=jV:=by unfold zcs;rw [hs,ha,hp];rfl
  have b:zkn [s] a p=jV:=by unfold zcK at hu;rw [i] at hu;simpa using hu
  have C:zbc s a p=vioW [s] a p:=by unfold zbc;rw [if_pos i]
  rcases zjq (ss:=[s]) (by simpa using hs) ha hp with ⟨-,v,f,q⟩|⟨f,-⟩
  ·obtain⟨n,⟨D,E,F⟩,-⟩:=q;have d:wl (zbc s a p)=v:=by rw [C,f];exact wl_wstr fun l hl=>(n l hl).1
   have h:wl (zbB (zbc s a p) L)=v.filter fun l=>L.testBit l:=by rw [zhx w1,d]
   have k:=zda w1 L;refine⟨k,by dsimp only;have:=restB_len (x:=zbc s a p) L;omega,?_⟩;dsimp only;have c:zu s p L (zbB (zbc s a p) L)=j3:=by
    rw [<- Bool.not_eq_true,zdh];rintro ⟨-,m⟩;have:=m _ (dE _);rw [eL,h] at this;refine this ((bad_iff (fun l hl=>?_)).2 ⟨v,fun l hl=>?_,rfl,D s sM,F⟩)
    ·obtain⟨o,j⟩:=List.mem_filter.1 hl;exact⟨(n l o).1,j⟩
    ·obtain⟨o,j⟩:=n l hl;rw [Nat.testBit_or,g,show zG [s]=s.al.toNat by simp [zG]] at j;exact⟨o,by simpa using j⟩
   rw [h,r,E,c];decide
  ·rw [b] at f;cases f
 ·rename_i hu;rw [if_neg hu] at h0 h1;split
  ·rename_i b;rw [if_pos b] at h0 h1;have c:zu s p L (zbB (zaq [t] a) L)=jV:=by
    apply Classical.byContradiction;intro hn;dsimp only at h1;rw [if_neg hn] at h1;exact h1 rfl
   obtain⟨y,z⟩:=zgy b;obtain⟨w1,u⟩:=zcu y z;obtain⟨v,i,f,⟨q,B⟩,-⟩:=ziQ b;have d:wl (zaq [t] a)=v:=by rw [i];exact wl_wstr fun l hl=>(f l hl).1
   refine⟨zda w1 L,by dsimp only;have:=restB_len (x:=zaq [t] a) L;simp at u;omega,?_⟩;dsimp only;rw [zhx w1,d,r,B,c];decide
  ·rename_i b;rw [if_neg b] at h0;exact absurd rfl h0
theorem Dec.run (h:Dec s p L D)(hs:zl s=jV)(hp:zj p=jV)(h64:L<64) :
  ∀ (g k:Nat) (rs cs:List ByteArray),LnOk L (zu s p L) k (fV (rs,cs))->cs.length<=rs.length->12<=g+k->(runT s t p L g k (fV (rs,cs))).code≠2:=by
 intro g
 induction g with
 |zero =>
  intro k rs cs ho hc hg;have c:=(ho.tab rs cs rfl).1.r12;have q:=ho.more rs cs rfl;omega
 |succ g ih =>
  intro k rs cs ho hc hg;obtain⟨d,a⟩:=ho.tab rs cs rfl;rw [runT];split
  ·intro e;cases e
  ·rename_i h0;split
   ·intro e;cases e
   ·rename_i c;obtain⟨l,m,n⟩:=judge_wrong hs hp (zct d a h64) rfl h0 c;obtain⟨o,i,j,b⟩:=h.ar d a hc l m n;have f:=ho.ar (zaN s p t L (zcV L (zu s p L) rs cs)).1;rw [j] at f ⊢;exact ih _ _ _ f b oM
theorem Dec.verdict (h:Dec s p L D)(hi:iface s p t=(L:Int)):((vpT s t p).code=0/\zbt [s,t] p=jV)\/((vpT s t p).code=1/\zbt [s,t] p=j3):=by
 obtain⟨j,k,l⟩:=zbk (s:=s) (p:=p) (t:=t) oM;have b:=vpT_ok hi;have f:(vpT s t p).code≠2:=by
  rw [zgJ hi];have a:=LnOk.start L (zu s p L);obtain⟨r,i⟩:=zhV L (zu s p L);rw [i] at a ⊢;exact h.run j k (iface_lt hi) 12 0 r [⟨#[]⟩] a (a.tab r _ rfl).1.r1 oM
 rcases b.code with c|d|g
 ·exact .inl ⟨c,faultA_sound (vpT_fault c)⟩
 ·exact .inr ⟨d,(b.fails d).1⟩
 ·exact absurd g f
end
theorem mask_of (P:Nat->Prop):∀ n,∃ x,x<2 ^ n/\∀ q,x.testBit q=jV↔q<n/\P q:=by
 intro n
 induction n with
 |zero=>exact⟨0,dM,fun q=>sM⟩
 |succ n ih =>
  obtain⟨x,f,c⟩:=ih;have d:x<2 ^ (n+1):=Nat.lt_of_lt_of_le f (eE dM (Nat.le_succ n))
  by_cases hP:P n
  ·refine⟨x|||2 ^ n,Nat.or_lt_two_pow d (Nat.pow_lt_pow_right dM (Nat.lt_succ_self n)),fun q=>?_⟩;rw [Nat.testBit_or,Bool.or_eq_true,c,Nat.testBit_two_pow];constructor
   ·rintro (⟨a,b⟩|e)
    ·exact⟨oM,b⟩
    ·have e:n=q:=by simpa using e
     subst e;exact⟨oM,hP⟩
   ·rintro ⟨a,b⟩;rcases dY (eG a) with h|rfl
    ·exact .inl ⟨h,b⟩
    ·exact .inr sM
  ·refine⟨x,d,fun q=>?_⟩;rw [c];constructor
   ·rintro ⟨a,b⟩;exact⟨oM,b⟩
   ·rintro ⟨a,b⟩;rcases dY (eG a) with h|rfl
    ·exact⟨h,b⟩
    ·exact absurd b hP
theorem stand_of (B:Nat->Nat->Prop)(hB:∀ q i,B q i->q<16/\i<12):∃ T,zaR T 12 B:=by
 have a:=fun i=>Classical.choose_spec (mask_of (fun q=>B q i) 16);refine⟨(eU 12).map fun i=>Classical.choose (mask_of (fun q=>B q i) 16),sM,fun x hx=>?_,fun i q=>?_⟩
 ·obtain⟨i,-,rfl⟩:=kE.1 hx;exact (a i).1
 ·unfold zdF
  by_cases hi:i<12
  ·rw [dF,dP,List.getElem?_range hi,gY,eM,(a i).2 q];exact⟨fun h=>h.2,fun h=>⟨(hB q i h).1,h⟩⟩
  ·rw [dF,List.getElem?_eq_none (by simp;omega),Option.getD_none,Nat.zero_testBit];exact⟨fun h=>(by cases h),fun h=>absurd (hB q i h).2 hi⟩
theorem zaR.uniq {B:Nat->Nat->Prop}(h:zaR T 12 B) (k:zaR U 12 B):T=U:=by
 refine List.ext_getElem (by rw [h.1,k.1]) fun i h1 h2=>Nat.eq_of_testBit_eq fun q=>?_;have a:=h.2.2 i q;have b:=k.2.2 i q;unfold zdF at a b;rw [dF,dC h1,eM] at a;rw [dF,dC h2,eM] at b;rw [gK,a,b]
theorem bit16 {x:Nat}(hx:x<65536)(h:x.testBit q=jV):q<16:=by
 apply Classical.byContradiction;intro hn;have a:2 ^ q<=x:=Nat.ge_two_pow_of_testBit h;have b:2 ^ 16<=2 ^ q:=eE dM oM;omega
theorem cho16 (hs:Sml s) {q':Nat}(hq:q<16)(h:q'∈cho s q l):q'<16:=by
 cases hb:s.al.toNat.testBit l
 ·unfold cho at h;rw [hb] at h;simp at h;omega
 ·have:=(zgq hs hb (2 ^ q) q').2 ⟨q,sM,h⟩;exact bit16 (zeY hs _ _) this
section
variable {s:Sys} {p:Aut} {L:Nat}
theorem cl16 (hs:Sml s) {B:Nat->Nat->Prop}(hB:∀ q i,B q i->q<16) {i:Nat}(h:Cl s p L B q i):q<16:=by
 induction h with
 |base h=>exact hB _ _ h
 |hid _ _ hq ih=>exact cho16 hs ih hq
theorem lead_ex (hs:Sml s)(hp:zj p=jV) (hl:l<6) (hT:WS p T):∃ U,Lead s p L l T U:=by
 have c:=(zk hp).2.1;refine stand_of _ fun q i h=>⟨cl16 hs (fun q i hb=>?_) h,?_⟩
 ·obtain⟨f,b,a,d,-⟩:=hb;exact cho16 hs (bit16 (zbF hT.lt b) a) d
 ·have:=ziR hp (fun q i ⟨_,b,a,_,h3⟩=>by rw [h3];exact zdL hp (hT.row _ _ a) hl) h;omega
theorem start_ex (hs:Sml s)(hp:zj p=jV):∃ U,zaR U 12 (PR s p L []):=by
 have a:=(zk hp).2.1;rw [PR_nil];refine stand_of _ fun q i h=>⟨cl16 hs (fun q i hb=>oM) h,?_⟩;have:=ziR hp (fun q i ⟨_,h3⟩=>by rw [h3];omega) h;omega
noncomputable def wkD (s:Sys) (p:Aut) (L:Nat) (x:Option (List Nat)) (l:Nat):Option (List Nat):=by
 classical exact match x with
 |none=>fW
 |some T=>if h:∃ U,Lead s p L l T U then (if zhk p (Classical.choose h)=jV then fW else fV (Classical.choose h)) else fW
noncomputable def wk0 (s:Sys) (p:Aut) (L:Nat):Option (List Nat):=by
 classical exact if h:∃ U,zaR U 12 (PR s p L []) then (if zhk p (Classical.choose h)=jV then fW else fV (Classical.choose h)) else fW
theorem wkD_none (l:Nat):wkD s p L fW l=fW:=rfl
theorem wkD_lead (h:Lead s p L l T U):wkD s p L (fV T) l=if zhk p U=jV then fW else fV U:=by
 have a:∃ U,Lead s p L l T U:=⟨U,h⟩;have e:Classical.choose a=U:=zaR.uniq (Classical.choose_spec a) h;unfold wkD;dsimp only;rw [dif_pos a,e]
theorem wk0_start (h:zaR U 12 (PR s p L [])):wk0 s p L=if zhk p U=jV then fW else fV U:=by
 have a:∃ U,zaR U 12 (PR s p L []):=⟨U,h⟩;have e:Classical.choose a=U:=zaR.uniq (Classical.choose_spec a) h;unfold wk0;rw [dif_pos a,e]
theorem wk_run (hs:Sml s)(hp:zj p=jV):∀ (n:Nat) (v:List Nat),v.length=n->ziv L v ->
  (∃ T,v.foldl (wkD s p L) (wk0 s p L)=fV T/\zaR T 12 (PR s p L v)/\WS p T/\SafeW s p L v)\/(v.foldl (wkD s p L) (wk0 s p L)=fW/\¬ SafeW s p L v):=by
 intro n
 induction n with
 |zero =>
  intro v hl _;obtain rfl:=dQ hl;obtain⟨U,b⟩:=start_ex (L:=L) hs hp;have c:=zfT b;have q:=(zk hp).2.1;rw [List.foldl_nil,wk0_start b]
  by_cases h:zhk p U=jV
  ·rw [if_pos h];exact .inr ⟨rfl,fun hsf=>hsf 0 (dH _) (c.1 h)⟩
  ·rw [if_neg h];refine .inl ⟨U,rfl,b,start_ws b hp oM,fun k a hbad=>h (c.2 ?_)⟩;rwa [List.take_nil] at hbad
 |succ n ih =>
  intro v hl hov;rcases zab v with rfl|⟨u,l,rfl⟩
  ·simp at hl
  have j:u.length=n:=by simpa using hl
  obtain⟨o,-⟩:=hov l sM;have f:∀ k,k<=u.length->(u++[l]).take k=u.take k:=fun k a=>List.take_append_of_le_length a;rw [List.foldl_append,iG,List.foldl_nil];rcases ih u j (fun k a=>hov k (by simp [a])) with ⟨T,g,i,m,r⟩|⟨g,i⟩
  ·rw [g];obtain⟨U,b⟩:=lead_ex (L:=L) hs hp o m;have d:=b.pr i;have c:=zfT d;rw [wkD_lead b]
   by_cases h:zhk p U=jV
   ·rw [if_pos h];refine .inr ⟨rfl,fun hsf=>hsf (u++[l]).length (dE _) ?_⟩;rw [eL];exact c.1 h
   ·rw [if_neg h];refine .inl ⟨U,rfl,d,b.ws hp o m,fun k a hbad=>?_⟩;rw [dN,dV] at a;rcases dY a with a|rfl
    ·rw [f k oM] at hbad;exact r k oM hbad
    ·rw [dK sM] at hbad;exact h (c.2 hbad)
  ·rw [g,wkD_none];refine .inr ⟨rfl,fun hsf=>i fun k a hbad=>hsf k (by simp;omega) ?_⟩;rw [f k a];exact hbad
def wkA (L:Nat) (xs:List (Option (List Nat))) (rows:List (List Int)):Aut:=⟨(L:Int),rows,xs.map Option.isSome⟩
theorem wkA_run {xs:List (Option (List Nat))} (h:NbI (wkD s p L) (letters L 6) (wk0 s p L) xs rows [])(hr:rows.length=xs.length) :
  ∀ (n:Nat) (v:List Nat),v.length=n->ziv L v->xs[zar (wkA L xs rows) 0 v]?=fV (v.foldl (wkD s p L) (wk0 s p L)):=by
 intro n
 induction n with
 |zero =>
  intro v hl _;obtain rfl:=dQ hl;exact h.x0
 |succ n ih =>
  intro v hl hov;rcases zab v with rfl|⟨u,l,rfl⟩
  ·simp at hl
  obtain⟨i,b⟩:=hov l sM;have a:=ih u (by simpa using hl) (fun k hk=>hov k (by simp [hk]));rw [zaO,List.foldl_append,iG,List.foldl_nil];generalize zar (wkA L xs rows) 0 u=q at *;have j:=(kB.1 a).1;obtain⟨r,c,-,d⟩:=h.done q _ oM a;obtain⟨m,f,g⟩:=d _ l (zei b 6 i);have e:aGo (wkA L xs rows) q l=m:=by
   unfold aGo wkA;simp only [eN];rw [if_pos b,dF,dF,c,eM,f,eM,eN]
  rw [e];exact g
theorem wkA_acc (hs:Sml s)(hp:zj p=jV) {xs:List (Option (List Nat))} (h:NbI (wkD s p L) (letters L 6) (wk0 s p L) xs rows [])(hr:rows.length=xs.length) {v:List Nat}(hv:ziv L v) :
  zaw (wkA L xs rows) (zar (wkA L xs rows) 0 v)=jV↔SafeW s p L v:=by
 have c:=wkA_run h hr _ v rfl hv;have e:zaw (wkA L xs rows) (zar (wkA L xs rows) 0 v)=(v.foldl (wkD s p L) (wk0 s p L)).isSome:=by
  generalize zar (wkA L xs rows) 0 v=q at *;unfold zaw wkA;dsimp only;rw [dF,dP,c];rfl
 rw [e];rcases wk_run (L:=L) hs hp _ v rfl hv with ⟨T,a,-,-,b⟩|⟨a,b⟩
 ·rw [a];exact⟨fun _=>b,fun _=>rfl⟩
 ·rw [a];exact⟨fun h=>(by cases h),fun h=>absurd h b⟩
theorem dec_of (hs:Sml s)(hp:zj p=jV) {xs:List (Option (List Nat))} (h:NbI (wkD s p L) (letters L 6) (wk0 s p L) xs rows [])(hr:rows.length=xs.length) {D:Aut}(hD:zj D=jV)(hal:D.al=(L:Int))
  (he:∀ v,ziv L v->zaw D (zar D 0 v)=zaw (wkA L xs rows) (zar (wkA L xs rows) 0 v)):Dec s p L D:=
 ⟨hD,hal,fun v hv=>by rw [he v hv];exact wkA_acc hs hp h hr hv⟩
end
end Go.Proofs.YtckbjnndaaoddaaGreatDoor
