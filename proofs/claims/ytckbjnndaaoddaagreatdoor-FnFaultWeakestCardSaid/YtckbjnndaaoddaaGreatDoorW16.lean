/- spec.l3Wrong -/
import Derived.Test.YtckbjnndaaoddaaGreatDoorW15
set_option maxHeartbeats 4000000
set_option maxRecDepth 100000
namespace Go.Proofs.YtckbjnndaaoddaaGreatDoor
open Go Go.RowKit
open Blk renaming new->dZ
open Ext renaming refl->cY
open Frm renaming setCell->dG
open List renaming getElem?_append_left->dI,getElem?_eq_getElem->dB,length_set->e9,mem_of_getElem?->dC,mem_or_eq_of_mem_set->e7,nil_append->eI,mem_append->kD,mem_singleton->kF
open Nat renaming le_refl->dD,zero_add->dW,zero_le->dF
open Reads renaming af->eE
open Bool renaming false->j1,true->jU
open Go renaming Calls->j6,Value->j4,World->jX
open Go.Ending renaming returned->j5
open Go.IntKind renaming i64->iX
open Go.Value renaming agg->j2,pointer->kB,slice->fC
open Option renaming none->fV,some->fU
open Option.some renaming inj->j8
open _root_.Go.Proofs.Tryz renaming prog->j3
variable {A A' A2:Option Addr}{L M R Z a c c' d2 n n' n2 p x:Nat}{W w w1 w2:jX}{b:Aut}{cs:Array j4}{s:ByteArray}{s2:Sys}
def lenAt (W:jX) (G:Nat):Nat:=match W.cell? ⟨G,1,fV⟩ with|some (fC _ n _)=>n|_=>0
theorem zbK.lenAt {w0:jX}{G:Nat}{al:Int}{vA:j4}{rows:List j4}{ls:List (List Int)}{acc:List Bool}(h:zbK w0 W R G M al (fC A n c) rows ls vA acc):Go.Proofs.YtckbjnndaaoddaaGreatDoor.lenAt W G=n:=by
 unfold Go.Proofs.YtckbjnndaaoddaaGreatDoor.lenAt;rw [h.blk.cell 1];rfl
theorem yW16a5 {P:Prop}(h:P:=by
 have hn1:m=0:=oM;clear hn0;have cG:=zki.blk.cell;go_wp2_with fail
 go_meet;exact⟨_,_,_,_,_,_,zki.more oM,za (Hb.out.more oM)⟩
 ):P:=h
theorem zeJ (h:Rd w R M)(hM:M<=900000000)(ho:zac w (R+1) A n c A' n' c' b)(hb:BdA L b)(hL:L<=100) :
  j6 j3 77 #[kB (fU R),j2 #[b.al,fC A n c,fC A' n' c']] w (zgM R (M+10) (BdA (L+13)) w):=by
 have hRl:=h.lt;have aG:=hb.size oM
 go_enter Tryz.func77,Tryz.ntmps77
 have u:=(cY w).alloc (.cells #[b.al,fC A n c,fC A' n' c'] 27);have b0:=dZ w 27 #[b.al,fC A n c,fC A' n' c'];have a3:(w.alloc (.cells #[b.al,fC A n c,fC A' n' c'] 27)).heap.size=w.heap.size+1:=sM;have Y:=u.alloc (.cells #[(0:Int),(),()] 27);have bz:=dZ (w.alloc (.cells #[b.al,fC A n c,fC A' n' c'] 27)) 27 #[(0:Int),(),()];replace b0:=b0.ext ((cY _).alloc (.cells #[(0:Int),(),()] 27));rw [a3] at bz;have c0:=b0.cell;go_upto_region 1 with fail
 generalize (w.alloc _).alloc _=w1 at *;have a7:=bz.lt;go_wp2_with fail
 refine (zen (ho.ext Y).reads aG).mono ?_;rintro e w2 ⟨B,m,d,B',m',d',rfl,zkh,ao⟩;obtain⟨a,zki⟩:=zbK.of (R:=R) (M:=M) zkh (h.ext (Y.trans ao)) ao.dr oM;have hG:=ao.size;have hm:m=b.next.length:=zkh.2.1;have bI:m<=100:=oH hb.1;have Hm:=za hm;have Hb:=za hb;clear zkh ho hm hb aG;go_upto_region 2 with fail
 generalize w2.alloc _=w3 at *;generalize w2.heap.size=G at *;have cG:=zki.blk.cell;go_wp2_with fail
 refine (zF zki.rd oM).mono ?_;rintro e w4 ⟨k,rfl,ay,-,aE,au⟩;replace zki:=zki.drawn au aE;have Hk:=za ay;clear au aE cG ay;go_wp2_with fail
 refine (zF zki.rd oM).mono ?_;rintro e D ⟨y,rfl,-,-,aF,av⟩;replace zki:=zki.drawn av aF;clear av aF;go_upto_block 0 with fail
 go_cut [] (fun wx=>∃ (al:Int) (v:j4) (a:List j4) (C:List (List Int)) (vA:j4) (o:List Bool),zbK w1 wx R G (M+10) al v a C vA o/\Hid (BdL (L+13) C o))
 case first =>
  have ae:y=0\/y=1\/y=2\/y=3\/y=4\/y=5\/6<=y:=oM;rcases ae with O|O|O|O|O|O|O
  ·subst O;have Z:True:=trivial;go_wp2_with fail
   refine (zaV [64,(-1),1,63,0] 5 #[(64:Int),.int iX (-1),(1:Int),(63:Int),(0:Int)] rfl rfl oM oM zki.rd oM).mono ?_;rintro e E ⟨x,-,rfl,hr6,hd6⟩;replace zki:=(zki.ext ((cY _).alloc _)).drawn hd6 hr6;have cG:=zki.blk.cell;have fG:=zki.blk.frozen;go_wp2_with fail
   go_meet;exact⟨_,_,_,_,_,_,(zki.setAl x).more oM,za (Hb.out.more oM)⟩
  ·subst O;have Z:True:=trivial;have cG:=zki.blk.cell;have H:=zki.dr.size;have aj:b.acc.length<=100:=oH Hb.out.2.1;go_wp2_with (at_builtin;refine zI w1 D rfl _ _ _ rfl 4 _ 1 1 Tryz.underlying25 zaJ rfl dM (fC B' m' d') b.acc.length (zY b.acc) _ _ rfl rfl H zki.acc rfl (by simp [Value.oneCell']) lM oM ?_;intro g6 cap6 E hown6 hg6 hat6 hlt6;obtain⟨q1,q2,q3⟩:=zki.aq (x:=jU) hown6 hg6 hat6;have a9:=q1.out)
   go_meet;exact⟨_,_,_,_,_,_,q3.more oM,za ⟨oH Hb.out.1,by have:=Hb.out.2.1;simp;omega,fun l z=>by have:=Hb.out.2.2 l z;omega⟩⟩
  ·subst O;have Z:True:=trivial
   by_cases hn0:0<m
   ·have hk:=Hk.out oM;have T:k<b.next.length:=oH Hm.out;obtain⟨l,z⟩:∃ l,b.next[k]?=fU l:=⟨_,dB T⟩;obtain⟨gN,rfl,aw,-⟩:=zM (show D.ownsRow w1.heap.size 110 1 (fC B m d) m a from by have:=zki.nx;rw [<- Hm.out] at this;exact this) hn0;obtain⟨Ar,Q,hr,f,t⟩:=zki.row z Hm.out;have am:l.length<=100:=by have:=Hb.out.2.2 l (dC z);omega
    have HL:=za z;have HR:=za hr;have H:=zki.dr.size;have cG:∀ W,Frm (fun b=>(fC Ar l.length Q).ownBlock=fU b) D W->∀ q,W.cell? ⟨G,q,fV⟩=#[Value.int iX b.al,fC (fU gN) m d,fC B' m' d'][q]?:=fun W hW=>(zki.blk.frm hW (fun e=>zq t zki.blk dM e rfl)).cell;have cN:∀ W,Frm (fun b=>(fC Ar l.length Q).ownBlock=fU b) D W->W.cell? ⟨gN,k,fV⟩=fU (fC Ar l.length Q):=fun W hW=>by
     have hx:W.ownsRow w1.heap.size 110 1 (fC (fU gN) m d) b.next.length a:=zf zki.nx hW (fun b hb hS=>zas zki.nx t dM hb hS);rw [<- Hm.out] at hx;rw [hx.cellAt k oM,HR.out]
    have br:Frm (fun b=>(fC Ar l.length Q).ownBlock=fU b) D D.drew:=(cY D).drew.ak;clear z hr f T;go_wp2_with fail
    refine tR (fun X=>Frm (fun b=>(fC Ar l.length Q).ownBlock=fU b) D X) [11] (Ord.of [0,1,2,3,4,5,6,7,8,9,10,11]) ?_;refine tQ ?_;refine zD fun K hK=>?_;go_simp;have af:=(cY D).drew;refine hK.out _ _ (af.alloc _).ak ?_;refine pT ?_;refine zD (fun K hK=>?_);refine zaC w1 D.drew _ _ _ rfl 3 _ 1 8 Tryz.underlying110 zS rfl dM (fC Ar l.length Q) l.length (ints l) _ _ rfl rfl H (zi t af) rfl (by simp [Value.oneCell']) lM oM ?_;intro g6 cap6 E hown6 hg6 hat6 hlt6;obtain⟨q1,q2,q3,q4⟩:=(zki.ext af).growRow (x:=0) Hm.out HR.out HL.out hown6 hg6 hat6;have bL:=q2.out;refine hK.out _ _ (af.ak.trans (Frm.ab hg6)) ?_;refine pT ?_;refine tQ ?_;refine zR fun K hK=>?_;go_simp;refine hK.out _ _ ?_;refine zap ?_;go_wp2_with fail
    go_meet;refine⟨_,_,_,_,_,_,q4.more oM,za ⟨by have:=Hb.out.1;rw [e9];omega,oH Hb.out.2.1,fun l' hl'=>?_⟩⟩;rcases e7 hl' with J|J
    ·have:=Hb.out.2.2 l' J;omega
    ·have:=Hb.out.2.2 l (dC HL.out);rw [J];simp;omega
   ·exact yW16a5
  ·subst O;have Z:True:=trivial
   by_cases hn0:0<m
   ·have hk:=Hk.out oM;have T:k<b.next.length:=oH Hm.out;obtain⟨l,z⟩:∃ l,b.next[k]?=fU l:=⟨_,dB T⟩;obtain⟨gN,rfl,aw,-⟩:=zM (show D.ownsRow w1.heap.size 110 1 (fC B m d) m a from by have:=zki.nx;rw [<- Hm.out] at this;exact this) hn0;obtain⟨Ar,Q,hr,f,t⟩:=zki.row z Hm.out;have am:l.length<=100:=by have:=Hb.out.2.2 l (dC z);omega
    have HL:=za z;have HR:=za hr;have aQ:=za (Hb.out.2.2 l (dC z));clear z hr T;have cG:=zki.blk.cell
    by_cases hl0:0<l.length
    ·obtain⟨gr,rfl,-,-⟩:=zM t hl0;go_wp2_with fail
     refine (zF (n:=l.length) zki.rd oM).mono ?_;rintro e E ⟨j,rfl,ax,-,hr6,hd6⟩;have bE:=ax oM;replace zki:=zki.drawn hd6 hr6;have bC:=zki.hR;have cN:∀ W,Dr R E W->W.cell? ⟨gN,k,fV⟩=fU (fC (fU gr) l.length Q):=fun W hW=>(hd6.trans hW).aa f (by simp;omega);have bJ:IntKind.i64.wrap ((m:Int) - 1)=(m:Int) - 1:=by rw [IntKind.wrap_i64];omega
     clear cG ax hr6 hd6 f t;have cG:∀ W,Dr R E W->∀ q,W.cell? ⟨G,q,fV⟩=#[Value.int iX b.al,fC (fU gN) m d,fC B' m' d'][q]?:=fun W hW=>(zki.blk.dr hW (oH zki.hG)).cell;go_wp2_with fail
     refine tR (fun X=>Dr R E X) [13] (Ord.of [0,1,2,3,4,5,6,7,8,9,10,11,12,13]) ?_;refine tQ ?_;refine zD fun K hK=>?_;go_simp;refine hK.out _ _ ((Dr.refl R E).drew.alloc _) ?_;refine pT ?_;refine zD fun K hK=>?_;go_simp;refine (zaV (w:=E.drew) [(-1),m,(m:Int) - 1,0] 4 #[.int iX (-1),m,.int iX ((m:Int) - 1),(0:Int)] rfl rfl oM oM (zki.rd.ext (cY _).drew) oM).mono ?_;rintro e w7 ⟨x,-,rfl,a2,aY⟩;have ag:Dr R E w7:=((Dr.refl R E).drew.alloc _).trans aY;have S:=zki.drawn ag a2;refine hK.out _ _ ag ?_;refine pT ?_;refine tQ ?_;have zkh:=S.rows.2.1 k _ l HR.out HL.out;obtain⟨o0,c0⟩:=zaF zkh j oM;have f0:=zkh.frozenAt j;have I:=S.setRow (k:=j) (x:=x) HR.out HL.out rfl;refine zR fun K hK=>?_;go_simp;refine hK.out _ _ ?_;refine zap ?_;go_wp2_with fail
     go_meet;refine⟨_,_,_,_,_,_,I.more oM,za ⟨by have:=Hb.out.1;rw [e9];omega,oH Hb.out.2.1,fun l' hl'=>?_⟩⟩;rcases e7 hl' with J|J
     ·have:=Hb.out.2.2 l' J;omega
     ·rw [J];simp;have:=aQ.out;omega
    ·have bF:l.length=0:=oM;have bG:¬ ((l.length:Int)>0):=oM;go_wp2_with fail
     go_meet;exact⟨_,_,_,_,_,_,zki.more oM,za (Hb.out.more oM)⟩
   ·exact yW16a5
  ·subst O;have Z:True:=trivial;have H:=zki.dr.size;have p:=zki.ext ((cY D).alloc (.cells #[] 110));have hn1:=World.ownsRow_lit (base:=w1.heap.size) (e:=110) (size:=1) D #[] 0 H lM rfl;have cG:=p.blk.cell;have fG:=p.blk.frozen;go_upto_region 18 with fail
   replace p:=p.setNext hn1;clear zki cG fG hn1;generalize (D.alloc (.cells #[] 110)).setCell ⟨G,1,fV⟩ (fC (fU D.heap.size) 0 0)=E at *;have a4:=p.dr.size;have F:=p.ext ((cY E).alloc (.cells #[] 4));have a1:=World.ownsRow_lit (base:=w1.heap.size) (e:=4) (size:=1) E #[] 0 a4 lM rfl;have cG:=F.blk.cell;have fG:=F.blk.frozen;go_wp2_with fail
   go_meet;exact⟨_,_,_,_,_,_,(F.setMarks a1).more oM,za ⟨sM,sM,fun l z=>by simp at z⟩⟩
  ·subst O;have Z:True:=trivial
   by_cases hn0:0<m
   ·have bd:((m:Int)>0):=oM;have aD:m=b.next.length:=Hm.out;have bH:m<=L:=oH Hb.out.1;have I:∃ (i:Nat) (v:j4) (a:List j4) (C:List (List Int)) (vA:j4) (o:List Bool),i<=13/\zbK w1 D R G (M+2) b.al v a C vA o/\Hid (C.length=m+i)/\Hid (i=0\/m+i<=13)/\Hid (o.length<=L+i)/\Hid (∀ l∈C,l.length<=L):=
     ⟨0,_,_,_,_,_,oM,zki,za aD.symm,za (.inl rfl),za Hb.out.2.1,za Hb.out.2.2⟩
    clear aD zki;go_wp2_with fail
    go_loopw [] (fun wr=>∃ (i:Nat) (v:j4) (a:List j4) (C:List (List Int)) (vA:j4) (o:List Bool),i<=13/\zbK w1 wr R G (M+2) b.al v a C vA o/\Hid (C.length=m+i)/\Hid (i=0\/m+i<=13)/\Hid (o.length<=L+i)/\Hid (∀ l∈C,l.length<=L)) (fun wr=>200 - lenAt wr G)
    case atStart=>exact I
    case round =>
     clear I;obtain⟨i,v,a,C,vA,o,hi,zki,s,aZ,aj,ak⟩:=hrel;obtain⟨gN,cN,rfl,aw⟩:∃ g c,v=fC (fU ⟨g,0,fV⟩) (m+i) c/\w1.heap.size<=g:=by
      obtain⟨A9,c9,rfl⟩:=zh zki.nx;obtain⟨g,rfl,hg,-⟩:=zM zki.nx (oH s.out);exact⟨g,c9,by rw [s.out],hg⟩
     have aC:=za zki.lenAt
     by_cases hlt:m+i<=12
     ·have aA:((m+i:Nat):Int)<=12:=oM;have ar:0<C.length:=oH s.out;obtain⟨l,z⟩:∃ l,C[0]?=fU l:=⟨_,dB ar⟩;obtain⟨Ar,Q,hr,f,t⟩:=zki.row z s.out.symm;have am:l.length<=L:=ak.out l (dC z);have aR:=za am;have az:=za zki.low;have H:=zki.dr.size;have ah:=eE t;have aS:=za (fun W (hW:Ext wr W)=>ah.ext hW);have cG:=fun W (hW:Ext wr W)=>(zki.blk.ext hW).cell;have aV:∀ W,Ext wr W->W.cell? gN=fU (fC Ar l.length Q):=fun W hW=>hW.aa f;have a6:=cY wr;have bs:(0:Int)<((m+i:Nat):Int):=oM;have bt:0<(m:Int)+(i:Int):=oM;clear z hr f t ah ar;go_upto_region 21 with fail
      refine uR (fun X=>Ext wr X) [9,11] (zy.of [0,1,3,4,5,6,2,7,8,9,10,11]) ?_;refine uQ ?_;have u:Ext wr wr.drew:=a6.drew;generalize wr.drew=wd at *;refine ze fun K hK=>?_;go_simp;have hm:=World.ownsRow_made (base:=wr.heap.size) (e:=3) (size:=1) wd #[] 0 u.size (dF _) rfl;have Y:=(cY wd).alloc (.cells #[] 3);replace u:=u.trans Y;refine hK.out _ _ u ?_;generalize wd.alloc _=wm at *;generalize wd.heap.size=MM at *;refine pT ?_;refine uQ ?_;refine ze (fun K hK=>?_);refine zx wm _ _ 110 rfl wr.heap.size 3 _ 1 8 Tryz.underlying110 zS rfl dM (fC (fU MM) 0 0) 0 [] rfl hm _ _ Ar l.length Q (ints l) rfl (aS.out _ u) (zhc _) lM oM u.size ?_;intro vR E hrow hgR hatR;rw [dW,eI] at hrow;obtain⟨BR,dR,rfl⟩:=zh hrow;have V:Ext wr E:=u.grown hgR (fun k hk=>(hm.lt k hk).1);refine hK.out _ _ V ?_;refine pT ?_;refine uQ ?_;refine ze fun K hK=>?_;go_simp;refine hK.out _ _ (V.alloc _) ?_;refine pT ?_;refine zb fun K hK=>?_;have r:=zki.ext V;have U:=r.nx;rw [s.out] at U;refine zaC w1 E _ _ _ rfl 110 _ 1 24 Tryz.underlying24 zbp rfl dM (fC (fU gN) (m+i) cN) (m+i) a _ _ rfl rfl r.dr.size U rfl (zaG _ _ _) lM oM ?_;intro g7 cap7 w7 hown7 hg7 hat7 hlt7;refine hK.out _ _ ?_;refine pT ?_;refine uQ ?_;obtain⟨p1,p2,p3⟩:=r.av (l:=l) (W':=w7) (g:=g7) (cap:=cap7) az.out H hrow (by rw [s.out];exact hown7) hg7 hat7;have a8:=p1.out;rw [s.out] at p3;refine zb fun K hK=>?_;go_simp;refine hK.out _ _ ?_;refine zg ?_;generalize w7.setCell ⟨G,1,fV⟩ (fC (fU g7) (m+i+1) cap7)=w8 at *;have bn:=p3.blk.cell;have a5:=p3.dr.size;have bc:=aj.out;clear p1 a8 p2 cG aV hown7 hg7 hat7 r zki U;go_wp2_with (at_builtin;refine zI w1 w8 rfl _ _ _ rfl 4 _ 1 1 Tryz.underlying25 zaJ rfl dM vA o.length (zY o) _ _ rfl rfl a5 p3.acc rfl (by simp [Value.oneCell']) lM oM ?_;intro g9 cap9 w9 hown9 hg9 hat9 hlt9;obtain⟨q1,q2,q3⟩:=p3.aq (x:=j1) hown9 hg9 hat9;have a9:=q1.out)
      go_roundw
      case rel=>exact⟨i+1,oM,_,_,C++[l],_,o++[j1],q3,za (by have:=s.out;simp;omega),za oM,za (by simp;omega),za (fun l' hl'=>by
       rcases kD.1 hl' with J|J
       ·exact ak.out l' J
       ·rw [kF.1 J];exact aR.out)⟩
      case measure=>have J:=q3.lenAt;have h2:=aC.out;omega
     ·have aA:¬ (((m+i:Nat):Int)<=12):=oM;have cG:=zki.blk.cell;go_wp2_with fail
      go_meet;exact⟨_,_,_,_,_,_,zki.more oM,za ⟨by have:=s.out;have:=aZ.out;omega,oH aj.out,fun l' hl'=>by have:=ak.out l' hl';omega⟩⟩
   ·have hn1:m=0:=oM;clear hn0;have cG:=zki.blk.cell;have I:=zki;clear zki;go_wp2_with fail
    go_loopw [] (fun wr=>zbK w1 wr R G (M+1+1) b.al (fC B m d) a b.next (fC B' m' d') b.acc) (fun wr=>0)
    case atStart=>exact I
    case round =>
     clear I cG;have cG:=hrel.blk.cell;go_wp2_with fail
     go_meet;exact⟨_,_,_,_,_,_,hrel.more oM,za (Hb.out.more oM)⟩
  ·have bq:((y:Int)==0)=j1:=by simp;omega
   have bu:((y:Int)==1)=j1:=by simp;omega
   have bw:((y:Int)==2)=j1:=by simp;omega
   have bx:((y:Int)==3)=j1:=by simp;omega
   have bA:((y:Int)==4)=j1:=by simp;omega
   have bB:((y:Int)==5)=j1:=by simp;omega
   go_wp2_with fail
   go_meet;exact⟨_,_,_,_,_,_,zki.more oM,za (Hb.out.more oM)⟩
 case rest =>
  clear zki;obtain⟨al,v,a,C,vA,o,zki,aX⟩:=hcut;obtain⟨A5,c5,rfl⟩:=zh zki.nx;obtain⟨B5,d5,rfl⟩:=zh zki.acc;obtain⟨f1,f2⟩:=zki.fin (N:=M+10) (sh:=BdA (L+13)) Y bz rfl hRl oM a7 oM aX.out;have bz5:=bz.dr zki.dr oM;have cG:=zki.blk.cell;have cZ:=bz5.cell;have fZ:=bz5.frozen;go_wp2_with fail
  have cf:=f2.cell;exact bodyPost_ret (v:=j2 #[al,fC A5 C.length c5,fC B5 o.length d5]) (by simp [results,Tryz.results77,go_sem,cf]) rfl f1.out
theorem zjT (h:Rd w R M)(hM:M<=900000000)(ho:zac w (R+1) A n c A' n' c' b)(hb:BdA L b)(hL:L<=100) :
  j6 j3 75 #[kB (fU R),j2 #[b.al,fC A n c,fC A' n' c']] w (zgM R (M+10) (BdA (L+1)) w):=by
 have hRl:=h.lt;have az:=hb.size oM
 go_enter Tryz.func75,Tryz.ntmps75
 have o:=(cY w).alloc (.cells #[b.al,fC A n c,fC A' n' c'] 27);have b0:=dZ w 27 #[b.al,fC A n c,fC A' n' c'];have a1:(w.alloc (.cells #[b.al,fC A n c,fC A' n' c'] 27)).heap.size=w.heap.size+1:=sM;have t:=o.alloc (.cells #[(0:Int),(),()] 27);have bz:=dZ (w.alloc (.cells #[b.al,fC A n c,fC A' n' c'] 27)) 27 #[(0:Int),(),()];replace b0:=b0.ext ((cY _).alloc (.cells #[(0:Int),(),()] 27));rw [a1] at bz;have c0:=b0.cell;go_upto_region 1 with fail
 generalize (w.alloc _).alloc _=w1 at *;have aC:=bz.lt;go_wp2_with fail
 refine (zen (ho.ext t).reads az).mono ?_;rintro e w2 ⟨B,m,d,B',m',d',rfl,zkh,ad⟩;obtain⟨f,zki⟩:=zbK.of (R:=R) (M:=M) zkh (h.ext (t.trans ad)) ad.dr oM;have hG:=ad.size;have hm:m=b.next.length:=zkh.2.1;have aY:m'=b.acc.length:=zkh.2.2.2;have bE:m<=100:=oH hb.1;have J:=za hm;have Hb:=za hb;subst aY;clear zkh ho hm hb az;go_upto_region 2 with fail
 generalize w2.alloc _=w3 at *;generalize w2.heap.size=G at *;have cG:=zki.blk.cell
 by_cases hm0:m=0
 ·subst hm0;have ag:=zki;rw [show (fC B' b.acc.length d')=Value.slice B' b.acc.length d' from rfl] at ag;obtain⟨f1,f2⟩:=ag.fin (N:=M+10) (sh:=BdA (L+1)) t bz rfl hRl oM aC oM (Hb.out.more oM);have bz5:=bz.dr zki.dr oM;have cZ:=bz5.cell;have fZ:=bz5.frozen;clear ag;go_wp2_with fail
  have cf:=f2.cell;exact bodyPost_ret (v:=j2 #[b.al,fC B 0 d,fC B' b.acc.length d']) (by simp [results,Tryz.results75,go_sem,cf]) rfl f1.out
 have aZ:((m:Int)==0)=j1:=by simp;omega
 go_wp2_with fail
 refine (zF zki.rd oM).mono ?_;rintro e w4 ⟨k,rfl,ap,-,ax,an⟩;replace zki:=zki.drawn an ax;have bA:k<m:=by have:=ap oM;omega
 clear an ax cG ap aZ;go_wp2_with fail
 refine (zF zki.rd oM).mono ?_;rintro e a ⟨y,rfl,-,-,ay,ao⟩;replace zki:=zki.drawn ao ay;clear ao ay;go_upto_block 0 with fail
 go_cut [] (fun wx=>∃ (v:j4) (f:List j4) (ls:List (List Int)) (vA:j4) (O:List Bool),zbK w1 wx R G (M+10) b.al v f ls vA O/\Hid (BdL (L+1) ls O))
 case first =>
  have ar:k<b.next.length:=oH J.out;obtain⟨l,hl⟩:∃ l,b.next[k]?=fU l:=⟨_,dB ar⟩;obtain⟨gN,rfl,bw,-⟩:=zM (show a.ownsRow w1.heap.size 110 1 (fC B m d) m f from by have:=zki.nx;rw [<- J.out] at this;exact this) oM;obtain⟨Ar,cr,hr,s,F⟩:=zki.row hl J.out;have bD:l.length<=100:=by have:=Hb.out.2.2 l (dC hl);omega
  have HL:=za hl;have HR:=za hr;have Z:=za (Hb.out.2.2 l (dC hl));have a2:=zki.dr.size;clear hl hr ar;have S:y=0\/y=1\/y=2\/3<=y:=oM;rcases S with hy|hy|hy|hy
  ·subst hy;have aB:True:=trivial;have cG:=fun W (hW:Ext a W)=>(zki.blk.ext hW).cell
   by_cases hka:k<b.acc.length
   ·obtain⟨gA,rfl,aV,-⟩:=zM zki.acc oM;obtain⟨x,hx⟩:∃ x,b.acc[k]?=fU x:=⟨_,dB hka⟩;have D:a.cell? ⟨gA,k,fV⟩=fU (.bool x):=by rw [zki.acc.cellAt k oM];simp [zY,hx]
    have cA:∀ W,Ext a W->W.cell? ⟨gA,k,fV⟩=fU (.bool x):=fun W hW=>hW.aa D;have fA:∀ W,Ext a W->W.frozen? ⟨gA,k,fV⟩=j1:=fun W hW=>(zi zki.acc hW).frozenAt k;have H:=(zki.ext (cY a).drew).setAcc (i:=k) (x:=!x) rfl;have aq:(k:Int)<(b.acc.length:Int):=oM;have I:=cY a;clear D hx;go_wp2_with fail
    refine tR (fun X=>Ext a X) [10] (Ord.of [0,1,2,3,4,5,6,7,8,9,10]) ?_;refine tQ ?_;refine zR fun K hK=>?_;go_simp;refine hK.out _ _ ?_;refine zap ?_;go_wp2_with fail
    go_meet;exact⟨_,_,_,_,_,H.more oM,za ⟨oH Hb.out.1,by have:=Hb.out.2.1;rw [e9];omega,fun l' hl'=>by have:=Hb.out.2.2 l' hl';omega⟩⟩
   ·have aq:¬ ((b.acc.length:Int)>(k:Int)):=oM;have I:=cY a;go_wp2_with fail
    go_meet;exact⟨_,_,_,_,_,zki.more oM,za (Hb.out.more oM)⟩
  ·subst hy;have aB:True:=trivial
   by_cases hl0:0<l.length
   ·obtain⟨gr,rfl,-,-⟩:=zM F hl0;have bt:=zki.hR;have cN:∀ W,Dr R a W->W.cell? ⟨gN,k,fV⟩=fU (fC (fU gr) l.length cr):=fun W hW=>hW.aa s (by simp;omega);have cG:∀ W,Dr R a W->∀ q,W.cell? ⟨G,q,fV⟩=#[Value.int iX b.al,fC (fU gN) m d,fC B' b.acc.length d'][q]?:=fun W hW=>(zki.blk.dr hW (oH zki.hG)).cell;have bu:=Dr.refl R a;clear s F;go_wp2_with fail
    refine tR (fun X=>Dr R a X) [17] (Ord.of [0,1,2,3,4,5,6,7,8,9,10,11,13,14,12,15,16,17]) ?_;refine tQ ?_;refine zD fun K hK=>?_;go_simp;refine (zF (n:=l.length) (zki.rd.ext (cY _).drew) oM).mono ?_;rintro e w6 ⟨j,rfl,aW,-,hr6,hd6⟩;have bx:=aW oM;have T:Dr R a w6:=(Dr.refl R a).drew.trans hd6;refine hK.out _ _ T ?_;refine pT ?_;refine tQ ?_;refine zD fun K hK=>?_;go_simp;refine (zF (n:=m) hr6 oM).mono ?_;rintro e w7 ⟨x,rfl,bd,-,a0,aU⟩;have U:Dr R a w7:=T.trans aU;have C:=zki.drawn U a0;refine hK.out _ _ U ?_;refine pT ?_;refine tQ ?_;have zkh:=C.rows.2.1 k _ l HR.out HL.out;obtain⟨o0,c0⟩:=zaF zkh j oM;have f0:=zkh.frozenAt j;have H:=C.setRow (k:=j) (x:=x) HR.out HL.out rfl;refine zR fun K hK=>?_;go_simp;refine hK.out _ _ ?_;refine zap ?_;go_wp2_with fail
    go_meet;refine⟨_,_,_,_,_,H.more oM,za ⟨by have:=Hb.out.1;rw [e9];omega,oH Hb.out.2.1,fun l' hl'=>?_⟩⟩;rcases e7 hl' with z|z
    ·have:=Hb.out.2.2 l' z;omega
    ·rw [z];simp;have:=Z.out;omega
   ·have bB:l.length=0:=oM;have bC:¬ ((l.length:Int)>0):=oM;have cG:=zki.blk.cell;go_wp2_with fail
    go_meet;exact⟨_,_,_,_,_,zki.more oM,za (Hb.out.more oM)⟩
  ·subst hy;have aB:True:=trivial;have cG:=fun W (hW:Ext a W)=>(zki.blk.ext hW).cell;have aR:∀ W,Ext a W->W.cell? ⟨gN,k,fV⟩=fU (fC Ar l.length cr):=fun W hW=>hW.aa s;have I:=cY a
   by_cases z:12<=m
   ·have ak:¬ ((m:Int)<12):=oM;go_wp2_with fail
    go_meet;exact⟨_,_,_,_,_,zki.more oM,za (Hb.out.more oM)⟩
   have ak:(m:Int)<12:=oM
   by_cases h2:b.acc.length<=k
   ·have am:¬ ((b.acc.length:Int)>(k:Int)):=oM;go_wp2_with fail
    go_meet;exact⟨_,_,_,_,_,zki.more oM,za (Hb.out.more oM)⟩
   have am:(b.acc.length:Int)>(k:Int):=oM
   by_cases h3:l.length<=0
   ·have bs:¬ ((l.length:Int)>0):=oM;have a9:l.length=0:=oM;go_wp2_with fail
    go_meet;exact⟨_,_,_,_,_,zki.more oM,za (Hb.out.more oM)⟩
   have ba:=za zki.lenAt;have V:=eE F;have aO:=za (fun W (hW:Ext a W)=>V.ext hW);have av:=za zki.low;have bb:=za F;clear s F V;go_upto_region 15 with fail
   refine uR (fun X=>Ext a X) [10,12] (zy.of [0,1,3,4,5,6,7,2,8,9,10,11,12]) ?_;refine uQ ?_;have o:Ext a a.drew:=I.drew;generalize a.drew=wd at *;refine ze fun K hK=>?_;go_simp;have hm:=World.ownsRow_made (base:=a.heap.size) (e:=3) (size:=1) wd #[] 0 o.size (dF _) rfl;have t:=(cY wd).alloc (.cells #[] 3);replace o:=o.trans t;refine hK.out _ _ o ?_;generalize wd.alloc _=wm at *;generalize wd.heap.size=MM at *;refine pT ?_;refine uQ ?_;refine ze (fun K hK=>?_);refine zx wm _ _ 110 rfl a.heap.size 3 _ 1 8 Tryz.underlying110 zS rfl dM (fC (fU MM) 0 0) 0 [] rfl hm _ _ Ar l.length cr (ints l) rfl (aO.out _ o) (zhc _) lM oM o.size ?_;intro vR w6 hrow hgR hatR;rw [dW,eI] at hrow;obtain⟨BR,dR,rfl⟩:=zh hrow;have u:Ext a w6:=o.grown hgR (fun k hk=>(hm.lt k hk).1);refine hK.out _ _ u ?_;refine pT ?_;refine uQ ?_;refine ze fun K hK=>?_;go_simp;refine hK.out _ _ (u.alloc _) ?_;refine pT ?_;refine zb fun K hK=>?_;have p:=zki.ext u;have E:=p.nx;rw [<- J.out] at E;refine zaC w1 w6 _ _ _ rfl 110 _ 1 24 Tryz.underlying24 zbp rfl dM (fC (fU gN) m d) m f _ _ rfl rfl p.dr.size E rfl (zaG _ _ _) lM oM ?_;intro g7 cap7 w7 hown7 hg7 hat7 hlt7;refine hK.out _ _ ?_;refine pT ?_;refine uQ ?_;obtain⟨p1,p2,p3⟩:=p.av (l:=l) (W':=w7) (g:=g7) (cap:=cap7) av.out a2 hrow (by rw [<- J.out];exact hown7) hg7 hat7;have a3:=p1.out;rw [<- J.out] at p3;refine zb fun K hK=>?_;go_simp;refine hK.out _ _ ?_;refine zg ?_;generalize w7.setCell ⟨G,1,fV⟩ (fC (fU g7) (m+1) cap7)=Y at *;have bF:=p3.dr.size;clear p1 a3 p2 cG aR hown7 hg7 hat7 p zki E u o t;obtain⟨gA,rfl,aV,-⟩:=zM p3.acc oM;obtain⟨x,hx⟩:∃ x,b.acc[k]?=fU x:=⟨_,dB oM⟩;have D:Y.cell? ⟨gA,k,fV⟩=fU (.bool x):=by rw [p3.acc.cellAt k oM];simp [zY,hx]
   have cA:∀ W,Ext Y W->W.cell? ⟨gA,k,fV⟩=fU (.bool x):=fun W hW=>hW.aa D;have aQ:=fun W (hW:Ext Y W)=>(p3.blk.ext hW).cell;have I:=cY Y;clear D hx;go_upto_region 16 with fail
   refine uR (fun X=>Ext Y X) [8,10] (zy.of [0,1,2,3,4,5,6,7,8,9,10]) ?_;refine uQ ?_;have ae:Ext Y Y.drew:=I.drew;generalize Y.drew=a6 at *;refine ze fun K hK=>?_;go_simp;refine hK.out _ _ (ae.alloc _) ?_;refine pT ?_;refine zb fun K hK=>?_;have r:=p3.ext ae;refine zaC w1 a6 _ _ _ rfl 4 _ 1 1 Tryz.underlying25 zaJ rfl dM (fC (fU gA) b.acc.length d') b.acc.length (zY b.acc) _ _ rfl rfl r.dr.size r.acc rfl (by simp [Value.oneCell']) (by unfold maxLen;have:=Hb.out.2.1;omega) (oH Hb.out.2.1) ?_;intro g9 cap9 w9 hown9 hg9 hat9 hlt9;refine hK.out _ _ ?_;refine pT ?_;refine uQ ?_;obtain⟨q1,q2,q3⟩:=r.aq (x:=x) hown9 hg9 hat9;have a4:=q1.out;refine zb fun K hK=>?_;go_simp;refine hK.out _ _ ?_;refine zg ?_;generalize w9.setCell ⟨G,2,fV⟩ (fC (fU g9) (b.acc.length+1) cap9)=a5 at *;clear q1 a4 q2 aQ cA r p3 hown9 hg9 hat9 ae;have aX:k<f.length:=by have:=q3.rows.1;simp at this;have:=J.out;omega
   have Q:(f++[fC BR l.length dR])[k]?=fU (fC Ar l.length cr):=by rw [dI aX];exact HR.out
   have ab:(b.next++[l])[k]?=fU l:=by rw [dI (oH J.out)];exact HL.out
   have zkh:=q3.rows.2.1 k _ l Q ab;obtain⟨gr,rfl,-,-⟩:=zM zkh oM;obtain⟨o0,c0⟩:=zaF zkh 0 oM;have f0:=zkh.frozenAt 0;have H:=q3.setRow (k:=0) (x:=m) Q ab rfl;have cG:=q3.blk.cell;have cN:a5.cell? ⟨g7,k,fV⟩=fU (fC (fU gr) l.length cr):=by
    have:=q3.nx;rw [List.length_append,List.length_singleton,<- J.out] at this;rw [this.cellAt k oM];exact Q
   clear zkh Q ab;go_wp2_with fail
   go_meet;refine⟨_,_,_,_,_,H.more oM,za ⟨by have:=Hb.out.1;rw [e9];simp;omega,by have:=Hb.out.2.1;simp;omega,fun l' hl'=>?_⟩⟩;rcases e7 hl' with z|z
   ·rcases kD.1 z with z|z
    ·have:=Hb.out.2.2 l' z;omega
    ·rw [kF.1 z];have:=Z.out;omega
   ·rw [z];simp;have:=Z.out;omega
  ·have br:((y:Int)==0)=j1:=by simp;omega
   have ak:((y:Int)==1)=j1:=by simp;omega
   have am:((y:Int)==2)=j1:=by simp;omega
   go_wp2_with fail
   go_meet;exact⟨_,_,_,_,_,zki.more oM,za (Hb.out.more oM)⟩
 case rest =>
  clear zki;obtain⟨v,f,ls,vA,O,zki,aT⟩:=hcut;obtain⟨A5,c5,rfl⟩:=zh zki.nx;obtain⟨B5,d5,rfl⟩:=zh zki.acc;obtain⟨f1,f2⟩:=zki.fin (N:=M+10) (sh:=BdA (L+1)) t bz rfl hRl oM aC oM aT.out;have bz5:=bz.dr zki.dr oM;have cG:=zki.blk.cell;have cZ:=bz5.cell;have fZ:=bz5.frozen;go_wp2_with fail
  have cf:=f2.cell;exact bodyPost_ret (v:=j2 #[b.al,fC A5 ls.length c5,fC B5 O.length d5]) (by simp [results,Tryz.results75,go_sem,cf]) rfl f1.out
theorem Dr.far {a b c:jX}(h:Dr R a b)(hf:Frm (fun k=>k=Z) b c)(hZ:a.heap.size<=Z):Dr R a c:=
 ⟨hf.os.trans h.os,hf.tape.trans h.tape,hf.output.trans h.output,Nat.le_trans h.size hf.size,fun k hk hn=>(hf.block k (Nat.lt_of_lt_of_le hk h.size) (fun e=>oM)).trans (h.block k hk hn)⟩
theorem zae (W:jX) (Z:Nat) (u0 u1 u2:j4):Frm (fun k=>k=Z) W (((W.setCell Z u0).setCell ⟨Z,1,fV⟩ u1).setCell ⟨Z,2,fV⟩ u2):=
 ((dG W Z 0 u0).trans (dG _ Z 1 u1)).trans (dG _ Z 2 u2)
theorem zao {t:TypeId}(h:Blk w Z t cs)(hc:cs.size=3) (u0 u1 u2:j4):Blk (((w.setCell Z u0).setCell ⟨Z,1,fV⟩ u1).setCell ⟨Z,2,fV⟩ u2) Z t #[u0,u1,u2]:=by
 obtain⟨l⟩:=cs
 match l,hc with
 |[a,b,c],_=>simpa using ((h.ae 0 u0).ae 1 u1).ae 2 u2
def autZ:Aut:=⟨0,[],[]⟩
theorem own_autZ (w:jX) (base:Nat):zac w base fV 0 0 fV 0 0 autZ:=⟨⟨[],World.ownsRow_nil _ _ _ _,zB.nil _ _⟩,rfl,World.ownsRow_nil _ _ _ _,rfl⟩
theorem bd_autZ (K:Nat):BdA K autZ:=⟨dF _,dF _,fun l hl=>by simp [autZ] at hl⟩
structure zcb (w0 W:jX) (R M L K:Nat) (s:Sys) (A:Option Addr) (n c:Nat) (t:Sys) (C:Option Addr) (k c2:Nat) (p:Aut) (B:Option Addr) (m d:Nat) (B':Option Addr) (m' d':Nat):Prop where
 is:zbN W R A n s
 it:zbN W R C k t
 ip:zac W (R+1) B m d B' m' d' p
 ns:(n<=L/\n<=c)/\(k<=L/\k<=c2)
 bd:Hid (BdA K p)
 rd:Rd W R M
 dr:Dr R w0 W
 hR:R<w0.heap.size
section
variable {w0 W W':jX}{R M L K N J H Z n c k c2 m d m' d':Nat}{s t:Sys}{p:Aut}{A B B' C:Option Addr}
theorem zcb.drawn (h:zcb w0 W R M L K s A n c t C k c2 p B m d B' m' d')(hd:Dr R W W')(hr:Rd W' R N):zcb w0 W' R N L K s A n c t C k c2 p B m d B' m' d':=
 ⟨h.is.dr hd,h.it.dr hd,h.ip.keep hd (fun b h1 e=>oM),h.ns,h.bd,hr,h.dr.trans hd,h.hR⟩
theorem zcb.ext (h:zcb w0 W R M L K s A n c t C k c2 p B m d B' m' d')(hx:Ext W W'):zcb w0 W' R M L K s A n c t C k c2 p B m d B' m' d':=h.drawn hx.dr (h.rd.ext hx)
theorem zcb.more (h:zcb w0 W R M L K s A n c t C k c2 p B m d B' m' d')(hM:M<=N)(hL:L<=J)(hK:K<=H):zcb w0 W R N J H s A n c t C k c2 p B m d B' m' d':=
 ⟨h.is,h.it,h.ip,oH h.ns,za (BdL.more h.bd.out hK),h.rd.more hM,h.dr,h.hR⟩
theorem zcb.far {ty:TypeId}(h:zcb w0 W R M L K s A n c t C k c2 p B m d B' m' d')(hB:Blk W Z ty cs)(hf:Frm (fun k=>k=Z) W W')(hZ:w0.heap.size<=Z)(h1:ty≠117)(h2:ty≠3/\ty≠110/\ty≠4):zcb w0 W' R M L K s A n c t C k c2 p B m d B' m' d':=
 ⟨h.is.far hB h1 hf,h.it.far hB h1 hf,h.ip.ay hB hf h2,h.ns,h.bd,h.rd.frm hf (fun k hk e=>oH h.hR),h.dr.far hf hZ,h.hR⟩
theorem zcb.less (h:zcb w0 W R M L K s A n c t C k c2 p B m d B' m' d')(hd:Dr R w1 w0)(hR:R<w1.heap.size):zcb w1 W R M L K s A n c t C k c2 p B m d B' m' d':=
 ⟨h.is,h.it,h.ip,h.ns,h.bd,h.rd,hd.trans h.dr,hR⟩
end
def Ne6 (a b c d e f:Nat):Prop:=(a≠b/\a≠c/\a≠d/\a≠e/\a≠f)/\(b≠c/\b≠d/\b≠e/\b≠f)/\(c≠d/\c≠e/\c≠f)/\(d≠e/\d≠f)/\e≠f
structure Tri (w0 W:jX) (R M L K:Nat) (Zs Zt Zp Gs Gt Gp:Nat) (s:Sys) (A:Option Addr) (n c:Nat) (t:Sys) (C:Option Addr) (k c2:Nat) (p:Aut) (B:Option Addr) (m d:Nat) (B':Option Addr) (m' d':Nat):Prop where
 at_:zcb w0 W R M L K s A n c t C k c2 p B m d B' m' d'
 zs:Blk W Zs 38 #[(0:Int),(0:Int),()]
 zt:Blk W Zt 38 #[(0:Int),(0:Int),()]
 zp:Blk W Zp 27 #[(0:Int),(),()]
 bs:Blk W Gs 38 #[s.al,s.st,fC A n c]
 bt:Blk W Gt 38 #[t.al,t.st,fC C k c2]
 bp:Gp=0\/Blk W Gp 27 #[p.al,fC B m d,fC B' m' d']
 ge:w0.heap.size<=Zs/\w0.heap.size<=Zt/\w0.heap.size<=Zp/\w0.heap.size<=Gs/\w0.heap.size<=Gt/\(Gp=0\/w0.heap.size<=Gp)
 ne:Hid (Ne6 Zs Zt Zp Gs Gt Gp)
section
variable {w0 W W':jX}{R M L K N J H n c k c2 m d m' d' Zs Zt Zp Gs Gt Gp:Nat}{s t:Sys}{p:Aut}{A B B' C:Option Addr}
theorem Tri.drawn (h:Tri w0 W R M L K Zs Zt Zp Gs Gt Gp s A n c t C k c2 p B m d B' m' d')(hd:Dr R W W')(hr:Rd W' R N):Tri w0 W' R N L K Zs Zt Zp Gs Gt Gp s A n c t C k c2 p B m d B' m' d':=by
 have f:=h.at_.hR;have a:=h.ge;exact⟨h.at_.drawn hd hr,h.zs.dr hd oM,h.zt.dr hd oM,h.zp.dr hd oM,h.bs.dr hd oM,h.bt.dr hd oM,by
  rcases a.2.2.2.2.2 with e|e
  ·exact .inl e
  ·exact h.bp.imp id (fun b=>b.dr hd oM),a,h.ne⟩
theorem Tri.ext (h:Tri w0 W R M L K Zs Zt Zp Gs Gt Gp s A n c t C k c2 p B m d B' m' d')(hx:Ext W W'):Tri w0 W' R M L K Zs Zt Zp Gs Gt Gp s A n c t C k c2 p B m d B' m' d':=h.drawn hx.dr (h.at_.rd.ext hx)
theorem Tri.more (h:Tri w0 W R M L K Zs Zt Zp Gs Gt Gp s A n c t C k c2 p B m d B' m' d')(hM:M<=N)(hL:L<=J)(hK:K<=H):Tri w0 W R N J H Zs Zt Zp Gs Gt Gp s A n c t C k c2 p B m d B' m' d':={ h with at_:=h.at_.more hM hL hK }
theorem Tri.ax (h:Tri w0 W R M L K Zs Zt Zp Gs Gt Gp s A n c t C k c2 p B m d B' m' d')(hG:Gp≠0):Blk W Gp 27 #[.int iX p.al,fC B m d,fC B' m' d']:=h.bp.resolve_left hG
theorem Tri.setS (h:Tri w0 W R M L K Zs Zt Zp Gs Gt Gp s A n c t C k c2 p B m d B' m' d')(hs:zbN W R A2 n2 s2)(hn:n2<=L/\n2<=d2) :
  Tri w0 (((W.setCell Gs s2.al).setCell ⟨Gs,1,fV⟩ s2.st).setCell ⟨Gs,2,fV⟩ (fC A2 n2 d2)) R M L K Zs Zt Zp Gs Gt Gp s2 A2 n2 d2 t C k c2 p B m d B' m' d':=by
 have a:=zae W Gs (.int iX s2.al) (.int iX s2.st) (fC A2 n2 d2);obtain⟨⟨i,j,l,o,q⟩,⟨r,u,v,x⟩,⟨y,c2,z⟩,⟨D,g⟩,E⟩:=h.ne.out;have f:=h.at_.far h.bs a h.ge.2.2.2.1 dM dM;exact⟨{ f with is:=hs.far h.bs dM a,ns:=⟨hn,f.ns.2⟩ },h.zs.frm a oM,h.zt.frm a oM,h.zp.frm a oM,zao h.bs rfl _ _ _,h.bt.frm a oM,h.bp.imp id (fun b=>b.frm a oM),h.ge,h.ne⟩
theorem Tri.setT (h:Tri w0 W R M L K Zs Zt Zp Gs Gt Gp s A n c t C k c2 p B m d B' m' d')(hs:zbN W R A2 n2 s2)(hn:n2<=L/\n2<=d2) :
  Tri w0 (((W.setCell Gt s2.al).setCell ⟨Gt,1,fV⟩ s2.st).setCell ⟨Gt,2,fV⟩ (fC A2 n2 d2)) R M L K Zs Zt Zp Gs Gt Gp s A n c s2 A2 n2 d2 p B m d B' m' d':=by
 have a:=zae W Gt (.int iX s2.al) (.int iX s2.st) (fC A2 n2 d2);obtain⟨⟨i,j,l,o,q⟩,⟨r,u,v,x⟩,⟨y,c2,z⟩,⟨D,g⟩,E⟩:=h.ne.out;have f:=h.at_.far h.bt a h.ge.2.2.2.2.1 dM dM;exact⟨{ f with it:=hs.far h.bt dM a,ns:=⟨f.ns.1,hn⟩ },h.zs.frm a oM,h.zt.frm a oM,h.zp.frm a oM,h.bs.frm a oM,zao h.bt rfl _ _ _,h.bp.imp id (fun b=>b.frm a oM),h.ge,h.ne⟩
theorem Tri.setP {p2:Aut}{A3:Option Addr}{n3 d3:Nat}(h:Tri w0 W R M L K Zs Zt Zp Gs Gt Gp s A n c t C k c2 p B m d B' m' d')(hG:Gp≠0)(hp:zac W (R+1) A2 n2 d2 A3 n3 d3 p2)(hb:BdA K p2) :
  Tri w0 (((W.setCell Gp p2.al).setCell ⟨Gp,1,fV⟩ (fC A2 n2 d2)).setCell ⟨Gp,2,fV⟩ (fC A3 n3 d3)) R M L K Zs Zt Zp Gs Gt Gp s A n c t C k c2 p2 A2 n2 d2 A3 n3 d3:=by
 have a:=zae W Gp (.int iX p2.al) (fC A2 n2 d2) (fC A3 n3 d3);obtain⟨⟨i,j,l,o,q⟩,⟨r,u,v,x⟩,⟨y,c2,z⟩,⟨D,f⟩,E⟩:=h.ne.out;have b:=h.ax hG;have g:=h.at_.far b a (h.ge.2.2.2.2.2.resolve_left hG) dM dM;exact⟨{ g with ip:=hp.ay b a dM,bd:=za hb },h.zs.frm a oM,h.zt.frm a oM,h.zp.frm a oM,h.bs.frm a oM,h.bt.frm a oM,.inr (zao b rfl _ _ _),h.ge,h.ne⟩
end
def RetSTP (R M L K:Nat) (w:jX) (e:Ending) (w':jX):Prop:=
 ∃ (s:Sys) (A:Option Addr) (n c:Nat) (t:Sys) (C:Option Addr) (k c2:Nat) (p:Aut) (B:Option Addr) (m d:Nat) (B':Option Addr) (m' d':Nat),
  e=j5 (.tuple #[j2 #[s.al,s.st,fC A n c],j2 #[t.al,t.st,fC C k c2],j2 #[p.al,fC B m d,fC B' m' d']])/\zcb w w' R M L K s A n c t C k c2 p B m d B' m' d'
def RetSPT (R M L K:Nat) (w:jX) (e:Ending) (w':jX):Prop:=
 ∃ (s:Sys) (A:Option Addr) (n c:Nat) (t:Sys) (C:Option Addr) (k c2:Nat) (p:Aut) (B:Option Addr) (m d:Nat) (B':Option Addr) (m' d':Nat),
  e=j5 (.tuple #[j2 #[s.al,s.st,fC A n c],j2 #[p.al,fC B m d,fC B' m' d'],j2 #[t.al,t.st,fC C k c2]])/\zcb w w' R M L K s A n c t C k c2 p B m d B' m' d'
section
variable {w0 W:jX}{R M L K N J H n c k c2 m d m' d' Zs Zt Zp:Nat}{s t:Sys}{p:Aut}{A B B' C:Option Addr}{us ut up:Array j4}
theorem zcb.finSTP (h:zcb w0 W R M L K s A n c t C k c2 p B m d B' m' d') (zs:Blk W Zs 38 us) (zt:Blk W Zt 38 ut) (zp:Blk W Zp 27 up)(h1:us.size=3)(h2:ut.size=3)(h3:up.size=3)(hz1:w0.heap.size<=Zs)(hz2:w0.heap.size<=Zt)(hz3:w0.heap.size<=Zp) (e1:Zs≠Zt) (e2:Zs≠Zp) (e3:Zt≠Zp) :
  Hid (zcb w0 (((((((((W.setCell Zs s.al).setCell ⟨Zs,1,fV⟩ s.st).setCell ⟨Zs,2,fV⟩ (fC A n c)).setCell Zt t.al).setCell ⟨Zt,1,fV⟩ t.st).setCell ⟨Zt,2,fV⟩ (fC C k c2)).setCell Zp p.al).setCell ⟨Zp,1,fV⟩ (fC B m d)).setCell ⟨Zp,2,fV⟩ (fC B' m' d')) R M L K s A n c t C k c2 p B m d B' m' d') /\
  Hid (Blk (((((((((W.setCell Zs s.al).setCell ⟨Zs,1,fV⟩ s.st).setCell ⟨Zs,2,fV⟩ (fC A n c)).setCell Zt t.al).setCell ⟨Zt,1,fV⟩ t.st).setCell ⟨Zt,2,fV⟩ (fC C k c2)).setCell Zp p.al).setCell ⟨Zp,1,fV⟩ (fC B m d)).setCell ⟨Zp,2,fV⟩ (fC B' m' d')) Zs 38 #[s.al,s.st,fC A n c] /\
  Blk (((((((((W.setCell Zs s.al).setCell ⟨Zs,1,fV⟩ s.st).setCell ⟨Zs,2,fV⟩ (fC A n c)).setCell Zt t.al).setCell ⟨Zt,1,fV⟩ t.st).setCell ⟨Zt,2,fV⟩ (fC C k c2)).setCell Zp p.al).setCell ⟨Zp,1,fV⟩ (fC B m d)).setCell ⟨Zp,2,fV⟩ (fC B' m' d')) Zt 38 #[t.al,t.st,fC C k c2] /\
  Blk (((((((((W.setCell Zs s.al).setCell ⟨Zs,1,fV⟩ s.st).setCell ⟨Zs,2,fV⟩ (fC A n c)).setCell Zt t.al).setCell ⟨Zt,1,fV⟩ t.st).setCell ⟨Zt,2,fV⟩ (fC C k c2)).setCell Zp p.al).setCell ⟨Zp,1,fV⟩ (fC B m d)).setCell ⟨Zp,2,fV⟩ (fC B' m' d')) Zp 27 #[p.al,fC B m d,fC B' m' d']):=by
 have f1:=zae W Zs (.int iX s.al) (.int iX s.st) (fC A n c);have b:=zao zs h1 (.int iX s.al) (.int iX s.st) (fC A n c);replace h:=h.far zs f1 hz1 dM dM;replace zt:=zt.frm f1 oM;replace zp:=zp.frm f1 oM;clear f1 zs;generalize ((W.setCell Zs s.al).setCell ⟨Zs,1,fV⟩ s.st).setCell ⟨Zs,2,fV⟩ (fC A n c)=f at *;have f2:=zae f Zt (.int iX t.al) (.int iX t.st) (fC C k c2);have i:=zao zt h2 (.int iX t.al) (.int iX t.st) (fC C k c2);replace h:=h.far zt f2 hz2 dM dM;replace b:=b.frm f2 oM;replace zp:=zp.frm f2 oM;clear f2 zt;generalize ((f.setCell Zt t.al).setCell ⟨Zt,1,fV⟩ t.st).setCell ⟨Zt,2,fV⟩ (fC C k c2)=g at *;have a:=zae g Zp (.int iX p.al) (fC B m d) (fC B' m' d');exact⟨za (h.far zp a hz3 dM dM),za ⟨b.frm a oM,i.frm a oM,zao zp h3 _ _ _⟩⟩
theorem zcb.finSPT (h:zcb w0 W R M L K s A n c t C k c2 p B m d B' m' d') (zs:Blk W Zs 38 us) (zt:Blk W Zt 38 ut) (zp:Blk W Zp 27 up)(h1:us.size=3)(h2:ut.size=3)(h3:up.size=3)(hz1:w0.heap.size<=Zs)(hz2:w0.heap.size<=Zt)(hz3:w0.heap.size<=Zp) (e1:Zs≠Zt) (e2:Zs≠Zp) (e3:Zt≠Zp) :
  Hid (zcb w0 (((((((((W.setCell Zs s.al).setCell ⟨Zs,1,fV⟩ s.st).setCell ⟨Zs,2,fV⟩ (fC A n c)).setCell Zp p.al).setCell ⟨Zp,1,fV⟩ (fC B m d)).setCell ⟨Zp,2,fV⟩ (fC B' m' d')).setCell Zt t.al).setCell ⟨Zt,1,fV⟩ t.st).setCell ⟨Zt,2,fV⟩ (fC C k c2)) R M L K s A n c t C k c2 p B m d B' m' d') /\
  Hid (Blk (((((((((W.setCell Zs s.al).setCell ⟨Zs,1,fV⟩ s.st).setCell ⟨Zs,2,fV⟩ (fC A n c)).setCell Zp p.al).setCell ⟨Zp,1,fV⟩ (fC B m d)).setCell ⟨Zp,2,fV⟩ (fC B' m' d')).setCell Zt t.al).setCell ⟨Zt,1,fV⟩ t.st).setCell ⟨Zt,2,fV⟩ (fC C k c2)) Zs 38 #[s.al,s.st,fC A n c] /\
  Blk (((((((((W.setCell Zs s.al).setCell ⟨Zs,1,fV⟩ s.st).setCell ⟨Zs,2,fV⟩ (fC A n c)).setCell Zp p.al).setCell ⟨Zp,1,fV⟩ (fC B m d)).setCell ⟨Zp,2,fV⟩ (fC B' m' d')).setCell Zt t.al).setCell ⟨Zt,1,fV⟩ t.st).setCell ⟨Zt,2,fV⟩ (fC C k c2)) Zt 38 #[t.al,t.st,fC C k c2] /\
  Blk (((((((((W.setCell Zs s.al).setCell ⟨Zs,1,fV⟩ s.st).setCell ⟨Zs,2,fV⟩ (fC A n c)).setCell Zp p.al).setCell ⟨Zp,1,fV⟩ (fC B m d)).setCell ⟨Zp,2,fV⟩ (fC B' m' d')).setCell Zt t.al).setCell ⟨Zt,1,fV⟩ t.st).setCell ⟨Zt,2,fV⟩ (fC C k c2)) Zp 27 #[p.al,fC B m d,fC B' m' d']):=by
 have f1:=zae W Zs (.int iX s.al) (.int iX s.st) (fC A n c);have b:=zao zs h1 (.int iX s.al) (.int iX s.st) (fC A n c);replace h:=h.far zs f1 hz1 dM dM;replace zt:=zt.frm f1 oM;replace zp:=zp.frm f1 oM;clear f1 zs;generalize ((W.setCell Zs s.al).setCell ⟨Zs,1,fV⟩ s.st).setCell ⟨Zs,2,fV⟩ (fC A n c)=f at *;have f2:=zae f Zp (.int iX p.al) (fC B m d) (fC B' m' d');have i:=zao zp h3 (.int iX p.al) (fC B m d) (fC B' m' d');replace h:=h.far zp f2 hz3 dM dM;replace b:=b.frm f2 oM;replace zt:=zt.frm f2 oM;clear f2 zp;generalize ((f.setCell Zp p.al).setCell ⟨Zp,1,fV⟩ (fC B m d)).setCell ⟨Zp,2,fV⟩ (fC B' m' d')=g at *;have a:=zae g Zt (.int iX t.al) (.int iX t.st) (fC C k c2);exact⟨za (h.far zt a hz2 dM dM),za ⟨b.frm a oM,zao zt h2 _ _ _,i.frm a oM⟩⟩
end
theorem bits_all (y:Nat)(hy:y<64):bits .and iX (-1) (y:Int)=(y:Int):=
 (show ∀ y:Fin 64,bits .and iX (-1) ((y.val:Nat):Int)=((y.val:Nat):Int) by decide +kernel) ⟨y,hy⟩
theorem yW16a2 {P:Prop}(h:P:=by
 obtain⟨f1,f2⟩:=zjj (N:=M+600) (sh:=zgL) hxz zkh hsh.out hr6 hd6 bz rfl hRl (Nat.le_refl _) (Nat.le_refl _);have bz5:=bz.dr hd6 oM;have cZ:=bz5.cell;have fZ:=bz5.frozen;go_wp2_with fail
 have cf:=f2.cell;exact bodyPost_ret (v:=.agg #[b.al,.slice A n c,.slice A' n' c']) (by simp [results,Tryz.results205,go_sem,cf]) rfl f1.out
 ):P:=h
theorem zgS {zz:Int}(h:Rd w R M)(hM:M<=700000000)(ha:(∃ a:Nat,zz=(a:Int)/\a<64)\/zz = -1) :
  j6 j3 205 #[kB (fU R),zz] w (zgM R (M+600) zgL w):=by
 have hRl:=h.lt
 go_enter Tryz.func205,Tryz.ntmps205
 have hxz:=(cY w).alloc (.cells #[(0:Int),(),()] 27);have bz:=dZ w 27 #[(0:Int),(),()];have B:(w.alloc (.cells #[(0:Int),(),()] 27)).heap.size=w.heap.size+1:=sM;go_wp2_with fail
 rw [<- B];generalize w.alloc _=w1 at *;refine (zaV [63,63,5,3,6] 5 #[(63:Int),(63:Int),(5:Int),(3:Int),(6:Int)] rfl rfl oM oM (h.ext hxz) oM).mono ?_;rintro e H ⟨x,j,rfl,r,k⟩;obtain⟨y,C,rfl⟩:∃ y:Nat,y<64/\x=(y:Int):=⟨x.toNat,by simp at j;omega,by simp at j;omega⟩;clear j;replace k:=((Dr.refl R w1).alloc _).trans k;obtain⟨d,m,s⟩:∃ d:Nat,bits .and iX zz (y:Int)=(d:Int)/\d<64:=by
  rcases ha with ⟨a,rfl,ha⟩|rfl
  ·exact⟨a&&&y,zdi tM tM,Nat.lt_of_le_of_lt Nat.and_le_left ha⟩
  ·exact⟨y,bits_all y C,C⟩
 go_upto_region 2 with fail
 clear m;go_wp2_with fail
 refine (zF r oM).mono ?_;rintro e I ⟨z,rfl,-,-,i,f⟩;replace f:=k.trans f;clear k r;go_upto_if 13 with fail
 go_cut [5] (fun s5 wx=>∃ d:Nat,d<64/\s5=.int iX (d:Nat)/\Rd wx R (M+10)/\Dr R w1 wx)
 case first =>
  by_cases hz:z=0
  ·subst hz;go_wp2_with fail
   refine (spec_l1Some i oM).mono ?_;rintro e G ⟨x,j,rfl,l,g⟩;go_wp2_with fail
   go_meet;exact⟨x,j,rfl,l.more oM,f.trans g⟩
  ·have F:((z:Int)==0)=j1:=by simp;omega
   go_wp2_with fail
   go_meet;exact⟨d,s,rfl,i.more oM,f⟩
 case rest =>
  clear i f s;obtain⟨d,t,rfl,i,f⟩:=hcut;go_wp2_with fail
  refine (zF i oM).mono ?_;rintro e G ⟨y,rfl,-,-,l,g⟩;replace g:=f.trans g
  by_cases C:0<y
  ·have D:((y:Int)>0):=oM;go_wp2_with fail
   refine (zaV [3,2,4,1] 4 #[(3:Int),(2:Int),(4:Int),(1:Int)] rfl rfl oM oM l oM).mono ?_;rintro e J ⟨x,j,rfl,v,u⟩;obtain⟨p,q,E,rfl⟩:∃ y:Nat,1<=y/\y<=4/\x=(y:Int):=⟨x.toNat,by simp at j;omega,by simp at j;omega,by simp at j;omega⟩;clear j;have o:=(g.alloc _).trans u;go_wp2_with fail
   refine (zhU v oM t q oM).mono ?_;intro e w6 hret;obtain⟨b,A,n,c,A',n',c',rfl,zkh,hsh,hr6,hd6⟩:=hret.mono (N:=M+600) (sh':=zgL) o oM (fun b hb=>⟨d,p,t,q,oM,hb⟩);exact yW16a2
  ·have D:¬ ((y:Int)>0):=oM;go_wp2_with fail
   refine (spec_l3Over l oM t).mono ?_;intro e w6 hret;obtain⟨b,A,n,c,A',n',c',rfl,zkh,hsh,hr6,hd6⟩:=hret.mono (N:=M+600) (sh':=zgL) g oM (fun b hb=>hb);exact yW16a2
theorem zhW (h:Rd w R M)(hM:M<=700000000)(ha:a<64) :
  j6 j3 205 #[kB (fU R),a] w (zgM R (M+600) zgL w):=zgS h hM (.inl ⟨a,rfl,ha⟩)
theorem Dr.new (h:Ext w w1)(hR:w.heap.size<=R)(hd:Dr R w1 w2):Ext w w2:=
 h.frm hd (fun k hk he=>oM)
theorem zbN.new {s:Sys}(h:zbN W R A n s)(hR:w.heap.size<=R):zU W w.heap.size W.heap.size A n s:=
 h.at_.more oM (dD _)
theorem zgH (h:Rd w R M)(hM:M<=800000000) :
  j6 j3 116 #[kB (fU R)] w (RetG R (M+30000) 20000 w):=by
 have hRl:=h.lt;have l:=(cY w).alloc (.cells #[(0:Int),(0:Int),()] 38);have bz5:=dZ w 38 #[(0:Int),(0:Int),()];have u:=h.ext l;have C:=l.dr (R:=R);have U:=bz5.lt
 go_enter Tryz.func116,Tryz.ntmps116
 go_wp2_with fail
 have G:=(zaV [3,6,7,5,2] 5 #[(3:Int),(6:Int),(7:Int),(5:Int),(2:Int)] rfl rfl oM oM u oM);simp only [World.size_alloc] at G;refine G.mono ?_;rintro e Y ⟨al,f,rfl,hr6,hd6⟩;have D:=(C.ext ((cY _).alloc _)).trans hd6;have m:=(bz5.ext ((cY _).alloc _)).dr hd6 oM;go_wp2_with fail
 refine (zaV [2,3,1,3] 4 #[(2:Int),(3:Int),(1:Int),(3:Int)] rfl rfl oM oM hr6 oM).mono ?_;rintro e Z ⟨J,b,rfl,x,i⟩;have E:=(D.ext ((cY _).alloc _)).trans i;have n:=(m.ext ((cY _).alloc _)).dr i oM;go_wp2_with fail
 refine (zaV [2,3,4] 3 #[(2:Int),(3:Int),(4:Int)] rfl rfl oM oM x oM).mono ?_;rintro e w8 ⟨X,_,rfl,y,j⟩;have F:=(E.ext ((cY _).alloc _)).trans j;have o:=(n.ext ((cY _).alloc _)).dr j oM;obtain⟨a,rfl,S⟩:∃ a:Nat,al=a/\a<64:=⟨al.toNat,by simp at f;omega,by simp at f;omega⟩;obtain⟨p,rfl,t,T⟩:∃ p:Nat,J=p/\1<=p/\p<=16:=⟨J.toNat,by simp at b;omega,by simp at b;omega,by simp at b;omega⟩;clear f b;go_wp2_with fail
 refine (zem y oM S t T).mono ?_;rintro e w9 ⟨I,O,V,H,rfl,B,r,s,z,k⟩;have d:=o.dr k oM;have g:=za (zhf (R:=R) (M:=M+30000) (L:=20000) (c:=H) B r s (z.more oM) (F.trans k) d hRl (dD _));have q:=d.cell;have Q:=d.frozen;go_wp2_with fail
 exact bodyPost_ret (v:=j2 #[I.al,I.st,fC O V H]) (by simp [results,Tryz.results116,go_sem,q]) rfl g.out
theorem or_al {b:Nat}(ha:a<64)(hb:b<64):bits .or iX (a:Int) (b:Int)=((a|||b:Nat):Int)/\a|||b<64:=by
 have h:=Nat.or_lt_two_pow (n:=6) (x:=a) (y:=b) oM oM;exact⟨zcd tM tM,oM⟩
theorem spec_l9Three (h:Rd w R M)(hM:M<=600000000) :
  j6 j3 179 #[kB (fU R)] w (RetSPT R (M+150000) 20000 16 w):=by
 have hRl:=h.lt
 go_enter Tryz.func179,Tryz.ntmps179
 go_upto_region 1 with fail
 generalize U0:((w.alloc _).alloc _).alloc _=w0 at *;obtain⟨an,z1,z2,z3⟩:=Ext.x3_ U0;have a0:w0.heap.size=w.heap.size+3:=by rw [<- U0];simp
 clear U0;go_wp2_with fail
 refine (zgH (h.ext an) oM).mono ?_;rintro e w1 ⟨s,A,n,c,rfl,F,hg1,hn1,E,j⟩;have aE:=j.size;have o:=(cY w1).alloc (.cells #[s.al,s.st,fC A n c] 38);have bs:=dZ w1 38 #[s.al,s.st,fC A n c];have aD:(w1.alloc (.cells #[s.al,s.st,fC A n c] 38)).heap.size=w1.heap.size+1:=sM;have ag:Dr R w (w1.alloc (.cells #[s.al,s.st,fC A n c] 38)):=(an.dr.trans j).alloc _;replace F:=F.ext o;replace E:=E.ext o;replace z1:=(z1.dr j oM).ext o;replace z2:=(z2.dr j oM).ext o;replace z3:=(z3.dr j oM).ext o;go_upto_region 2 with fail
 generalize hGs:w1.heap.size=Z at *;generalize w1.alloc _=w2 at *;clear o;go_wp2_with fail
 refine (zgH E oM).mono ?_;rintro e w3 ⟨t,C,k,u,rfl,am,D,ai,ak,g⟩;have aF:=g.size;have f:=(cY w3).alloc (.cells #[t.al,t.st,fC C k u] 38);have bt:=dZ w3 38 #[t.al,t.st,fC C k u];have Y:Tri w (w3.alloc (.cells #[t.al,t.st,fC C k u] 38)) R (M+60000) 20000 16 w.heap.size (w.heap.size+1+1) (w.heap.size+1) Z w3.heap.size 0 s A n c t C k u autZ fV 0 0 fV 0 0:=
  ⟨⟨(F.dr g).ext f,am.ext f,own_autZ _ _,⟨hn1,ai⟩,za (bd_autZ _),(ak.ext f).more oM,(ag.trans g).ext f,hRl⟩,(z1.dr g oM).ext f,(z3.dr g oM).ext f,(z2.dr g oM).ext f,(bs.dr g oM).ext f,bt,.inl rfl,oM,za (by unfold Ne6;omega)⟩
 clear F E z1 z2 z3 bs bt am f ag;go_upto_region 3 with fail
 generalize hGt:w3.heap.size=Gt at *;generalize w3.alloc _=w4 at *;have aj:Hid (Z<Gt/\w.heap.size+3<=Z):=za oM;clear aE aF j g ak hn1 ai aD hGs hGt;go_wp2_with fail
 refine (zF Y.at_.rd oM).mono ?_;rintro e w5 ⟨y,rfl,-,-,l,z⟩;have i:=(Y.drawn z l).more (N:=M+60001) (J:=20000) (H:=16) oM oM oM;clear Y;go_upto_if 13 with fail
 go_cut [] (fun wx=>∃ (s:Sys) (A:Option Addr) (n c:Nat),Good s/\Tri w wx R (M+60001+30000) 20000 16 w.heap.size (w.heap.size+1+1) (w.heap.size+1) Z Gt 0 s A n c t C k u autZ fV 0 0 fV 0 0)
 case first =>
  by_cases hy:y=0
  ·subst hy;go_wp2_with fail
   refine (zhS l oM).mono ?_;rintro e w6 ⟨s',A',n',c',rfl,V,S,U,hr6,hd6⟩;have a:=(i.drawn hd6 hr6).more (N:=M+60001+30000) (J:=20000) (H:=16) oM oM oM;have cG:=a.bs.cell;have fG:=a.bs.frozen;have L:=a.setS V U;go_wp2_with fail
   go_meet;exact⟨_,_,_,_,S,L⟩
  ·have aH:((y:Int)==0)=j1:=by simp;omega
   go_wp2_with fail
   go_meet;exact⟨_,_,_,_,hg1,i.more oM oM oM⟩
 case rest =>
  clear i l z hg1;obtain⟨s,A,n,c,hg1,i⟩:=hcut;go_wp2_with fail
  refine (zF i.at_.rd oM).mono ?_;rintro e w5 ⟨y,rfl,-,-,l,z⟩;have a:=(i.drawn z l).more (N:=M+100000) (J:=20000) (H:=16) oM oM oM;clear i;go_upto_if 18 with fail
  go_cut [] (fun wx=>∃ (t:Sys) (C:Option Addr) (k u:Nat),Good t/\Tri w wx R (M+100000+30000) 20000 16 w.heap.size (w.heap.size+1+1) (w.heap.size+1) Z Gt 0 s A n c t C k u autZ fV 0 0 fV 0 0)
  case first =>
   by_cases hy:y=0
   ·subst hy;go_wp2_with fail
    refine (zhS a.at_.rd oM).mono ?_;rintro e w6 ⟨s',A',n',c',rfl,V,S,U,hr6,hd6⟩;have b:=(a.drawn hd6 hr6).more (N:=M+100000+30000) (J:=20000) (H:=16) oM oM oM;have cG:=b.bt.cell;have fG:=b.bt.frozen;have L:=b.setT V U;go_wp2_with fail
    go_meet;exact⟨_,_,_,_,S,L⟩
   ·have aH:((y:Int)==0)=j1:=by simp;omega
    go_wp2_with fail
    go_meet;exact⟨_,_,_,_,D,a.more oM oM oM⟩
  case rest =>
   clear a l z D;obtain⟨t,C,k,u,D,a⟩:=hcut;obtain⟨a1,p1,O,ae,-⟩:=hg1;obtain⟨a2,p2,Q,af,-⟩:=D;obtain⟨aY,aB⟩:=or_al ae af;obtain⟨r,aG⟩:∃ r,r=wc:=⟨_,rfl⟩;subst aG;have ah:=za a.ge;have aW:=a.at_.hR;have cS:∀ W,Frm (fun k=>k=R\/k=w.heap.size\/k=w.heap.size+1) r W->∀ q,W.cell? ⟨Z,q,fV⟩=#[Value.int iX a1,.int iX s.st,fC A n c][q]?:=fun W hW=>by rw [<- O];exact (a.bs.frm hW (by have:=ah.out;have:=aj.out;omega)).cell
   have cT:∀ W,Frm (fun k=>k=R\/k=w.heap.size\/k=w.heap.size+1) r W->∀ q,W.cell? ⟨Gt,q,fV⟩=#[Value.int iX a2,.int iX t.st,fC C k u][q]?:=fun W hW=>by rw [<- Q];exact (a.bt.frm hW (by have:=ah.out;have:=aj.out;omega)).cell
   have aX:Frm (fun k=>k=R\/k=w.heap.size\/k=w.heap.size+1) r r.drew:=(cY r).drew.ak;have G:=za O;have I:=za Q;clear O Q;go_wp2_with fail
   refine tR (fun X=>Frm (fun k=>k=R\/k=w.heap.size\/k=w.heap.size+1) r X) [11] (Ord.of [0,1,2,3,4,5,6,8,7,9,10,11]) ?_;refine tQ ?_;refine zD fun K hK=>?_;go_simp;refine (zhW (a.at_.rd.ext (cY r).drew) oM aB).mono ?_;rintro e w7 ⟨p,B,m,d,B',m',d',rfl,hp,aA,aC,az⟩;have x:Dr R r w7:=(Dr.refl R r).drew.trans az;have b:=(a.drawn x aC).more (N:=M+150000) (J:=20000) (H:=16) oM oM oM;have ab:Frm (fun k=>k=R\/k=w.heap.size\/k=w.heap.size+1) r w7:=x.mono (fun k _ hk=>.inl hk);refine hK.out _ _ ab ?_;refine pT ?_;refine tQ ?_;have aO:=x.size;have aV:=a.at_.rd.lt;have cs:=b.zs.cell;have ct:=b.zt.cell;have cp:=b.zp.cell;have fs:=b.zs.frozen;have ft:=b.zt.frozen;have fp:=b.zp.frozen;obtain⟨f1,f2⟩:=zcb.finSPT ({ b.at_ with ip:=hp.less (by simp;omega),bd:=za (BdA.of aA.out) }) b.zs b.zt b.zp rfl rfl rfl oM oM oM oM oM oM
   rw [G.out,I.out] at f1 f2;refine zD fun K hK=>?_;go_simp;have ad:=ab.trans ((zae w7 w.heap.size (.int iX a1) (.int iX s.st) (fC A n c)).mono (T:=fun k=>k=R\/k=w.heap.size\/k=w.heap.size+1) (fun k _ hk=>.inr (.inl hk)));refine hK.out _ _ ad ?_;refine pT ?_;refine zD fun K hK=>?_;go_simp;have ay:=ad.trans ((zae _ (w.heap.size+1) (.int iX p.al) (fC B m d) (fC B' m' d')).mono (T:=fun k=>k=R\/k=w.heap.size\/k=w.heap.size+1) (fun k _ hk=>.inr (.inr hk)));refine hK.out _ _ ay ?_;refine pT ?_;refine zR fun K hK=>?_;go_simp;refine hK.out _ _ ?_;refine zap ?_;go_wp2_with fail
   obtain⟨g1,g2,g3⟩:=f2.out;have c1:=g1.cell;have aw:=g2.cell;have c3:=g3.cell;exact bodyPost_ret (v:=.tuple #[j2 #[a1,s.st,fC A n c],j2 #[p.al,fC B m d,fC B' m' d'],j2 #[a2,t.st,fC C k u]]) (by simp [results,Tryz.results179,go_sem,c1,aw,c3]) rfl ⟨s,A,n,c,t,C,k,u,p,B,m,d,B',m',d',by rw [G.out,I.out],f1.out⟩
theorem pickA (h:1<=(p:Int)->(x:Int)<p)(h0:(p:Int)<1->x=0):x<p+1:=by
 rcases Nat.lt_or_ge 0 p with a|a
 ·have:=h oM;omega
 ·have:=h0 oM;omega
theorem e_filledA {M' E y:Nat}{w4:jX}(hb:Blk w4 E 117 #[(0:Int),(0:Int),(0:Int)])(hr:Rd w4 R M')(hd:Dr R w2 w4)(hE:w2.heap.size<=E)(hR:R<w2.heap.size)(hx:x<p+1)(hy:y<p+1)(hM:M'<=M) :
  ∃ E' x' y':Nat,Value.pointer (fU E)=.pointer (fU E')/\x'<p+1/\y'<p+1/\w2.heap.size<=E'/\Blk (((w4.setCell E x).setCell ⟨E,1,fV⟩ (0:Int)).setCell ⟨E,2,fV⟩ y) E' 117 #[x',(0:Int),y']/\Rd (((w4.setCell E x).setCell ⟨E,1,fV⟩ (0:Int)).setCell ⟨E,2,fV⟩ y) R M/\Dr R w2 (((w4.setCell E x).setCell ⟨E,1,fV⟩ (0:Int)).setCell ⟨E,2,fV⟩ y):=by
 have a:=zeO w4 E (.int iX x) (.int iX 0) (.int iX y);refine⟨E,x,y,rfl,oM,oM,hE,by simpa using ((hb.ae 0 (.int iX x)).ae 1 (.int iX 0)).ae 2 (.int iX y),(hr.frm a (fun k h1 h2=>oM)).more hM,?_⟩;exact ((hd.ag (p:=⟨E,0,fV⟩) hE _).ag (p:=⟨E,1,fV⟩) hE _).ag (p:=⟨E,2,fV⟩) hE _
theorem zix {es:List Edg}(h:Rd w R M)(hM:M<=900000000)(hs:zbN w R A n ⟨a,p,es⟩)(ha:a<64)(hp:p<=16)(hfew:Few (p+1) es)(hn:n<=L)(hL:L<=100000) :
  j6 j3 182 #[kB (fU R),j2 #[a,p,fC A n c]] w (RetA R (M+10) (L+1) w):=by
 have hRl:=h.lt;have ba:=hs.at_.2;have b5:=za hs.1;have aU:=za hfew;have bC:Sm a:=tM;obtain⟨w1,U0⟩:∃ x,Hid (((w.alloc (.cells #[a,p,fC A n c] 38)).alloc (.cells #[(0:Int),(0:Int),()] 38)).alloc (.cells #[a,p,()] 38)=x):=⟨_,za rfl⟩;have bf:Ext w w1:=((((cY _).alloc _).alloc _).alloc _).trans (Ext.eq_ U0.out);obtain⟨bS,bZ,bG⟩:=zK (Ext.eq_ U0.out);have aS:=za bS;have aT:=za bZ;have ao:=za bG;have ap:=za bf;clear bS bZ bG bf hs hfew
 go_enter Tryz.func182,Tryz.ntmps182
 go_wp2_with fail
 rw [U0.out] at *;refine (zF (h.ext ap.out) oM).mono ?_;rintro e U ⟨V,rfl,-,-,T,ah⟩;have cb:=ao.out.lt;have ay:=aS.out.dr ah oM;have a0:=aT.out.dr ah oM;have av:=ao.out.dr ah oM;have bd:=ap.out.dr.trans ah;have cS:∀ W,Dr R U W->∀ q,W.cell? ⟨w.heap.size,q,fV⟩=#[Value.int iX a,.int iX p,fC A n c][q]?:=fun W hW=>(ay.dr hW oM).cell;go_upto_region 3 with fail
 go_cut [7] (fun s7 wx=>∃ E x y:Nat,s7=.pointer (fU E)/\x<p+1/\y<p+1/\U.heap.size<=E/\Blk wx E 117 #[x,(0:Int),y]/\Rd wx R (M+3)/\Dr R U wx)
 case first =>
  refine tR (fun X=>Dr R U X) [10] (Ord.app [0,1,2,4,5,6] (Ord.two 3 (Ord.two 7 (Ord.of [8,9,10]) 9 (Ord.of [7,8,10])) 9 (Ord.of [3,7,8,10]))) ?_;refine tQ ?_;refine zgi (fun K hK=>?_) (fun K hK=>?_)
  ·go_simp;refine (zF (n:=p) (T.ext ((cY _).drew)) oM).mono ?_;rintro e w3 ⟨x,rfl,hx,aO,J,C⟩;have o:Dr R U w3:=((Dr.refl R U).drew).trans C;refine hK.out _ _ o ?_;refine pT ?_;refine zgi (fun K hK=>?_) (fun K hK=>?_)
   ·go_simp;refine (zF (n:=p) J oM).mono ?_;rintro e w4 ⟨y,rfl,hy,ai,F,S⟩;have f:=o.trans S;refine hK.out _ _ f ?_;refine pT ?_;refine tQ ?_;refine zD fun K hK=>?_;go_simp;refine hK.out _ _ (f.alloc _) ?_;refine pT ?_;refine tQ ?_;refine zR fun K hK=>?_;go_simp;refine hK.out _ _ ?_;refine zap ?_;go_wp2_with fail
    go_meet;exact⟨w4.heap.size,x,y,rfl,oM,oM,f.size,dZ _ _ _,F.ext ((cY _).alloc _),f.alloc _⟩
   ·go_simp;have bh:=(cY w3).alloc (.cells #[(0:Int),(0:Int),(0:Int)] 117);have Y:=o.ext bh;have bc:=J.ext bh;have a5:=J.lt;refine hK.out _ _ Y ?_;generalize U0:w3.alloc _=cg at *;have aH:=Ext.bl_ U0;clear U0;refine pT ?_;refine zD fun K hK=>?_;go_simp;refine (zF (n:=p) bc oM).mono ?_;rintro e w4 ⟨y,rfl,hy,ai,F,S⟩;have f:=Y.trans S;have Q:=aH.dr S oM;refine hK.out _ _ f ?_;refine pT ?_;refine tQ ?_;have cE:=Q.cell;have fE:=Q.frozen;refine zR fun K hK=>?_;go_simp;refine hK.out _ _ ?_;refine zap ?_;go_wp2_with fail
    go_meet;exact e_filledA Q F f o.size T.lt (pickA hx aO) (pickA hy ai) oM
  ·go_simp;have bg:=((cY U).alloc (.cells #[(0:Int),(0:Int),(0:Int)] 117)).drew;have bu:Blk (U.alloc (.cells #[(0:Int),(0:Int),(0:Int)] 117)).drew U.heap.size 117 #[.int iX 0,.int iX 0,.int iX 0]:=dZ U _ _;have bb:=T.ext bg;have a5:=T.lt;have ak:Dr R U (U.alloc (.cells #[(0:Int),(0:Int),(0:Int)] 117)).drew:=bg.dr;refine hK.out _ _ ak ?_;generalize (U.alloc (.cells #[(0:Int),(0:Int),(0:Int)] 117)).drew=cf at *;refine pT ?_;refine zD fun K hK=>?_;go_simp;refine (zF (n:=p) bb oM).mono ?_;rintro e w3 ⟨x,rfl,hx,aO,J,C⟩;have o:=ak.trans C;have aH:=bu.dr C oM;refine hK.out _ _ o ?_;refine pT ?_;refine zD fun K hK=>?_;go_simp;refine (zF (n:=p) J oM).mono ?_;rintro e w4 ⟨y,rfl,hy,ai,F,S⟩;have f:=o.trans S;have Q:=aH.dr S oM;refine hK.out _ _ f ?_;refine pT ?_;refine tQ ?_;have cE:=Q.cell;have fE:=Q.frozen;refine zR fun K hK=>?_;go_simp;refine hK.out _ _ ?_;refine zap ?_;go_wp2_with fail
   go_meet;exact e_filledA Q F f (dD _) a5 (pickA hx aO) (pickA hy ai) oM
 case rest =>
  obtain⟨E,x,y,rfl,hx,hy,hE,aI,J,C⟩:=hcut;have be:=bd.trans C;have az:=ay.dr C oM;have a1:=a0.dr C oM;have aX:=av.dr C oM;have cc:=av.lt;clear cS;have cS:=az.cell;go_wp2_with fail
  refine (zai a bC _).mono ?_;rintro e w4 ⟨B,d,rfl,aa,O⟩;have aK:=be.ext O;have aA:=az.ext O;have aC:=a1.ext O;have aw:=aX.ext O;have aq:=aI.ext O;have F:=J.ext O;have bY:=aI.lt;have bx:=zA a 6;have a9:=za (fun k (hk:k∈letters a 6)=>(zee.1 hk).1);have al:=(eE aa);have bT:=C.size;have bU:=O.size;have b2:=T.lt;clear cS aa O az a1 aX aI J be aS aT ao ap ay a0 av bd T;generalize letters a 6=ls at *;go_upto_region 5 with fail
  go_cut [9] (fun s9 wx=>∃ b:Bool,s9=.bool b/\(b=jU->0<ls.length)/\Rd wx R (M+4)/\Dr R w4 wx)
  case first =>
   by_cases hl:0<ls.length
   ·go_wp2_with fail
    refine (zF F oM).mono ?_;rintro e w5 ⟨z,rfl,-,-,ab,I⟩;go_wp2_with fail
    go_meet;exact⟨_,rfl,fun _=>hl,ab,I⟩
   ·go_wp2_with fail
    go_meet;exact⟨j1,rfl,fun h=>by (first|cases h|omega),F.more oM,Dr.refl _ _⟩
  case rest =>
   obtain⟨b,rfl,aJ,ab,I⟩:=hcut;go_upto_if 42 with fail
   go_cut [] (fun wx=>∃ l:Nat,l<6/\Blk wx E 117 #[x,l,y]/\Blk wx w.heap.size 38 #[a,p,fC A n c]/\Blk wx (w.heap.size+1) 38 #[(0:Int),(0:Int),()]/\Blk wx (w.heap.size+1+1) 38 #[a,p,()]/\Rd wx R (M+5)/\Dr R w wx)
   case first =>
    have aB:=aA.dr I oM;have aD:=aC.dr I oM;have ax:=aw.dr I oM;have ar:=aq.dr I oM;have aL:=aK.trans I;clear aA aC aw aq aK F;cases b
    ·go_wp2_with fail
     go_meet;exact⟨0,oM,ar,aB,aD,ax,ab.more oM,aL⟩
    ·have b7:=aJ rfl;have bw:(1:Int)<=(ls.length:Int):=oM;clear aJ;go_wp2_with fail
     refine (zF ab oM).mono ?_;rintro e w6 ⟨z,rfl,hz,-,hr6,hd6⟩;have cd:=hz bw;have bj:z<ls.length:=oM;obtain⟨ad,l,rfl,_,_,hl,b8⟩:=((al.dr I oM).dr hd6 oM).nat bj;have a8:=a9.out l (dC hl.out);have br:=aB.dr hd6 oM;have bs:=aD.dr hd6 oM;have bq:=ax.dr hd6 oM;have au:=ar.dr hd6 oM;have bD:=aL.trans hd6;have cE:=au.cell;have fE:=au.frozen;have hf:=dG w6 E 1 (.int iX (l:Nat));clear hz aB aD ax ar aL;go_wp2_with fail
     go_meet;exact⟨l,a8,by simpa using au.ae 1 (.int iX (l:Nat)),br.frm hf oM,bs.frm hf oM,bq.frm hf oM,(hr6.frm hf (fun k h1 h2=>oM)),bD.ag (by dsimp only;omega) _⟩
   case rest =>
    obtain⟨l,hl,bE,bS,bZ,bG,bB,a6⟩:=hcut;clear aA aC aw aq aK F I ab a9 al bx aJ;obtain⟨wB,bF⟩:∃ wB,wB=wc:=⟨_,rfl⟩;subst bF;have zki:Acc w wB wB R (w.heap.size+1+1) (M+5) a p (fC fV 0 0) []:=⟨bG,World.ownsRow_nil _ _ _ _,bB,a6,Frm.refl _ _,hRl,a6.size,oM⟩;have b1:=bE.lt;have b3:=bG.lt;clear bG;go_wp2_with fail
    go_loopw [9,10] (fun v i wr=>∃ (b:Bool) (k:Nat),k<=n/\i=.int iX k/\v=.bool b/\∃ (u:j4) (j:List Edg),Acc w wB wr R (w.heap.size+1+1) (M+5) a p u j/\j.length+b.toNat<=k+1/\Hid (Few (p+1) j)) (fun _ i _=>n - (intOf i).toNat)
    case atStart=>exact⟨b,0,dF _,rfl,rfl,_,[],zki,by cases b<;>decide,few_nil (p+1)⟩
    case round =>
     clear zki;obtain⟨b,k,hk,rfl,rfl,u,j,zki,m,D⟩:=hrel;have H:=bS.frm zki.fr oM;have r:=bE.frm zki.fr oM;have cS:=H.cell;have am:(0<=(x:Int)/\(x:Int)<((p+1:Nat):Int))/\(0<=(l:Int)/\(l:Int)<6)/\(0<=(y:Int)/\(y:Int)<((p+1:Nat):Int)):=oM
     by_cases hlt:k<n
     ·obtain⟨b0,o0,t,rfl,b9,b6,he,c0,c1,c2⟩:=(ba.dr zki.dr oM).edge hlt;have a7:=za (aU.out t (dC he.out));go_upto_region 11 with fail
      clear cS
      go_cut [67] (fun s wx=>∃ q:Bool,s=.bool q/\(q=jU->b=jU)/\Ext wr wx)
      case first =>
       have cS:=H.cells;have cE:=r.cells;have C0:∀ W,Ext wr W->W.cell? ⟨b0,o0+k*3,fV⟩=fU (.int iX t.fr):=fun W hW=>hW.aa c0;have C1:∀ W,Ext wr W->W.cell? ⟨b0,o0+k*3+1,fV⟩=fU (.int iX t.le):=fun W hW=>hW.aa c1;have C2:∀ W,Ext wr W->W.cell? ⟨b0,o0+k*3+2,fV⟩=fU (.int iX t.ta):=fun W hW=>hW.aa c2;have bI:=cY wr;cases b
       ·go_wp2_with fail
        go_quiet (fail)
        go_wp2_with fail
        go_meet;exact⟨j1,rfl,fun h=>h,(cY _).drewN _⟩
       ·go_wp2_with fail
        go_region_held3 (fun W=>Ext wr W) (first|assumption|(refine Ext.drew ?_;assumption)|(refine Ext.trans ?_ aM;assumption)|(refine Ext.trans ?_ aM;refine Ext.drew ?_;assumption)) ((go_at_call 261;refine (zek (a:=⟨x,l,y⟩) (b:=t)).mono (mQ fun w5 ca=>?_)))
        go_wp2_with fail
        go_meet;exact⟨_,rfl,fun _=>by trivial,aM⟩
      case rest =>
       obtain⟨q,rfl,hq,G⟩:=hcut;replace zki:=zki.ext G;replace r:=r.ext G;go_upto_if 67 with fail
       go_cut [9] (fun s9 wx=>∃ (b:Bool) (u:j4) (j:List Edg),s9=.bool b/\Acc w wB wx R (w.heap.size+1+1) (M+5) a p u j/\j.length+b.toNat<=k+1/\Hid (Few (p+1) j))
       case first =>
        cases q
        ·go_wp2_with fail
         go_meet;exact⟨b,u,j,rfl,zki,m,D⟩
        ·obtain rfl:=hq rfl;have cG:=zki.blk.cell;have cE:=r.cell;simp only [Bool.toNat_true] at m;clear hq;go_wp2_with (at_builtin;refine zI wB _ rfl _ _ _ rfl 117 _ 3 24 Tryz.underlying36 zbf rfl dM u j.length (zw j) _ _ rfl rfl zki.fr.size zki.own rfl (by simp [Value.oneCell']) lM oM ?_;intro g cap w3 zks hg3 hat3 hlt3;obtain⟨h1,h2,h3⟩:=zki.push (e:=⟨x,l,y⟩) zks hg3 hat3;have a3:=h1.out)
         go_meet;exact⟨j1,_,_,rfl,h3,by simp;omega,zgZ D.out am⟩
       case rest =>
        clear zki m D H r c0 c1 c2 G hq;obtain⟨b,u,j,rfl,zki,m,D⟩:=hcut;obtain⟨wr,aN⟩:∃ wr,wr=wc:=⟨_,rfl⟩;subst aN;have H:=bS.frm zki.fr oM;have r:=bE.frm zki.fr oM;obtain⟨c0,c1,c2⟩:=(ba.dr zki.dr oM).edge2 he.out;go_upto_region 14 with fail
        go_cut [83] (fun s wx=>∃ q:Bool,s=.bool q/\Ext wr wx)
        case first =>
         have cS:=H.cells;have cE:=r.cells;have C0:∀ W,Ext wr W->W.cell? ⟨b0,o0+k*3,fV⟩=fU (.int iX t.fr):=fun W hW=>hW.aa c0;have C1:∀ W,Ext wr W->W.cell? ⟨b0,o0+k*3+1,fV⟩=fU (.int iX t.le):=fun W hW=>hW.aa c1;have C2:∀ W,Ext wr W->W.cell? ⟨b0,o0+k*3+2,fV⟩=fU (.int iX t.ta):=fun W hW=>hW.aa c2;have bI:=cY wr;cases b
         ·go_wp2_with fail
          go_quiet (fail)
          go_wp2_with fail
          go_meet;exact⟨j1,rfl,(cY _).drewN _⟩
         ·go_wp2_with fail
          refine sR (fun X=>Ext wr X) [0,1,2,3,4,5,6,7,8,9] (fun hS=>?_);refine sQ ?_;have HE:=eq_edge (x:Int) (l:Int) (y:Int) t.fr t.le t.ta;refine seq_read (v:=.bool (((x:Int)==t.fr)&&(((l:Int)==t.le)&&((y:Int)==t.ta)))) rfl rfl rfl (fun X hX=>?_) aM ?_
          ·go_simp
          ·clear HE;refine pT ?_;generalize (((x:Int)==t.fr)&&(((l:Int)==t.le)&&((y:Int)==t.ta)))=q;refine sQ ?_;refine zcF ?_;go_wp2_with fail
           go_meet;exact⟨_,rfl,(cY _).drew⟩
        case rest =>
         obtain⟨q,rfl,G⟩:=hcut;replace zki:=zki.ext G;replace H:=H.ext G;replace c0:=G.aa c0;replace c1:=G.aa c1;replace c2:=G.aa c2;clear r G;go_upto_if 83 with fail
         go_cut [9] (fun s9 wx=>∃ b':Bool,s9=.bool b'/\b'.toNat<=b.toNat/\wc=wx)
         case first =>
          cases q
          ·go_wp2_with fail
           go_meet;exact⟨b,rfl,dD _,rfl⟩
          ·go_wp2_with fail
           go_meet;exact⟨j1,rfl,dF _,rfl⟩
         case rest =>
          obtain⟨b',rfl,b4,bH⟩:=hcut;subst bH
          by_cases hgo:k=V
          ·have bz:((k:Int) != (V:Int))=j1:=by simp [hgo]
           have bW:=za hgo;clear hgo;go_wp2_with fail
           go_roundw
           case rel=>exact⟨b',k+1,oM,gM,rfl,u,j,zki,oM,D⟩
           case measure=>exact uM
          ·have bz:((k:Int) != (V:Int))=jU:=by simp;omega
           clear hgo;obtain⟨wr,aN⟩:∃ wr,wr=wc:=⟨_,rfl⟩;subst aN;have cS:=H.cells;have cG:=fun W (hW:Ext wr W)=>(zki.blk.ext hW).cell;have C0:∀ W,Ext wr W->W.cell? ⟨b0,o0+k*3,fV⟩=fU (.int iX t.fr):=fun W hW=>hW.aa c0;have C1:∀ W,Ext wr W->W.cell? ⟨b0,o0+k*3+1,fV⟩=fU (.int iX t.le):=fun W hW=>hW.aa c1;have C2:∀ W,Ext wr W->W.cell? ⟨b0,o0+k*3+2,fV⟩=fU (.int iX t.ta):=fun W hW=>hW.aa c2;go_wp2_with fail
           refine tR (fun X=>Ext wr X) [8,10] (Ord.of [0,1,2,3,4,5,6,7,8,9,10]) ?_;refine tQ ?_;refine zD fun K hK=>?_;go_simp;refine hK.out _ _ ((cY _).drew.alloc _) ?_;refine pT ?_;refine zR fun K hK=>?_;refine zaC wB wr.drew _ _ _ rfl 117 _ 3 24 Tryz.underlying36 zbf rfl dM u j.length (zw j) _ _ rfl rfl zki.fr.size zki.own rfl (by simp [Value.oneCell']) lM oM ?_;intro g cap w3 zks hg3 hat3 hlt3;refine hK.out _ _ ?_;refine pT ?_;refine tQ ?_;obtain⟨h1,h2,h3⟩:=(zki.ext ((cY _).drew)).push (e:=t) (W':=w3) zks hg3 hat3;have a3:=h1.out;refine zR fun K hK=>?_;go_simp;refine hK.out _ _ ?_;refine zap ?_;go_wp2_with fail
           go_roundw
           case rel=>exact⟨b',k+1,oM,gM,rfl,_,_,h3,by simp;omega,zgZ D.out a7.out⟩
           case measure=>exact uM
     ·obtain rfl:k=n:=oM;go_upto_if 97 with fail
      go_cut [] (fun wx=>∃ (u:j4) (j:List Edg),Acc w wB wx R (w.heap.size+1+1) (M+5) a p u j/\j.length<=k+1/\Hid (Few (p+1) j))
      case first =>
       cases b
       ·go_wp2_with fail
        go_meet;exact⟨u,j,zki,by simpa using m,D⟩
       ·have cG:=zki.blk.cell;have cE:=r.cell;simp only [Bool.toNat_true] at m;go_wp2_with (at_builtin;refine zI wB _ rfl _ _ _ rfl 117 _ 3 24 Tryz.underlying36 zbf rfl dM u j.length (zw j) _ _ rfl rfl zki.fr.size zki.own rfl (by simp [Value.oneCell']) lM oM ?_;intro g cap w3 zks hg3 hat3 hlt3;obtain⟨h1,h2,h3⟩:=zki.push (e:=⟨x,l,y⟩) zks hg3 hat3;have a3:=h1.out)
        go_meet;exact⟨_,_,h3,by simp;omega,zgZ D.out am⟩
      case rest =>
       clear zki m D cS H r;obtain⟨u,j,zki,m,D⟩:=hcut;obtain⟨A',n',c',rfl⟩:=zki.form;obtain⟨rfl,_⟩:=zki.reads;have bO:=zjK zki.own;have cG:=zki.blk.cell;have a2:=bZ.frm zki.fr oM;have cz:=a2.cell;have ce:=bZ.lt;have fz:=a2.frozen;obtain⟨f1,f2,f3⟩:=zki.fin (Z:=w.heap.size+1) oM oM (.int iX a) (.int iX p) (fC A' j.length c');have aV:=za (show RetA R (M+10) (L+1) w (j5 (j2 #[a,p,fC A' j.length c'])) _ from ⟨⟨a,p,j⟩,A',j.length,c',rfl,f1,oM,f2.more oM,f3⟩);clear f1 f2 f3;go_wp2_with fail
       exact bodyPost_ret (v:=j2 #[a,p,fC A' j.length c']) (by simp [results,Tryz.results182,go_sem,cz]) rfl aV.out
theorem zfk {s:Sys}(h:Rd w R M)(hM:M<=900000000)(hs:zbN w R A n s)(hf:Fair s)(hn:n<=L)(hL:L<=100000) :
  j6 j3 182 #[kB (fU R),j2 #[s.al,s.st,fC A n c]] w (RetA R (M+10) (L+1) w):=by
 obtain⟨al,st,j⟩:=s;obtain⟨a,p,b,g,d,i,f⟩:=hf;simp only at b d f;subst b;subst d;exact zix h hM hs g i f hn hL
theorem yW16a1 {P:Prop}(h:P:=by
 go_wp2_with (at_builtin;refine zW w wr rfl _ _ _ rfl 9 _ 1 16 Tryz.underlying88 zo rfl dM u5 _ _ _ _ rfl rfl zkj zkh rfl (zcx _) lM oM ?_;intro v' w1 hext1 zkq hg1 hat1)
 go_roundw
 case rel=>exact⟨k+1,k+1,l++[s.extract m k],oM,gM,oM,gM,by simp;omega,by simpa [zO] using zkq,hall.out,aM⟩
 case measure=>simp [intOf];omega
 ):P:=h
theorem spec_l19CutC (hs:s.size<=1000000) :
  j6 j3 250 #[s,.int .u8 44] w (RetStrs s.size (s.size+1) w):=by
 go_enter Tryz.func250,Tryz.ntmps250
 go_wp2_with fail
 go_loopw [5,6,7] (fun v f i wr=>∃ (k m:Nat) (l:List ByteArray),k<=s.size+1/\i=.int iX k/\m<=k/\f=.int iX m/\l.length<=k/\wr.ownsRow w.heap.size 9 1 v l.length (zO l)/\Hid (∀ x∈l,x.size<=s.size)/\Ext w wr) (fun _ _ i _=>s.size+1 - (intOf i).toNat)
 case atStart=>exact⟨0,0,[],dF _,rfl,dD _,rfl,dD _,World.ownsRow_lit w #[] 0 (dD _) lM rfl,(fun x hx=>by cases hx),(cY _).alloc _⟩
 case round =>
  obtain⟨k,m,l,q,rfl,t,rfl,r,zkh,a,zkj⟩:=hrel
  by_cases hle:k<=s.size
  ·have j:(k:Int)<=(s.size:Int):=oM;have n:(m:Int)<=(k:Int):=oM;have g:=za (show (s.extract m k).size<=s.size by rw [ByteArray.size_extract];omega);have hall:=za (show ∀ x∈l++[s.extract m k],x.size<=s.size from fun x hx=>by
    rcases kD.1 hx with b|b
    ·exact a.out x b
    ·rw [kF.1 b];exact g.out)
   by_cases he:k=s.size
   ·have d:((k:Int)==(s.size:Int))=jU:=by simp [he]
    have o:=za he;clear he;exact yW16a1
   ·have d:((k:Int)==(s.size:Int))=j1:=by rw [beq_eq_false_iff_ne];omega
    have h:k<s.size:=oM;have p:=zcB s k h;cases hc:((s[k].toNat:Int)==44)
    ·go_wp2_with fail
     go_roundw
     case rel=>exact⟨k+1,m,l,oM,gM,oM,rfl,oM,zkh,a,zkj⟩
     case measure=>exact uM
    ·exact yW16a1
  ·obtain rfl:k=s.size+1:=oM;obtain⟨A,c,rfl⟩:=zh zkh;go_wp2_with fail
   go_ret;exact⟨A,_,c,l,rfl,rfl,zkh,a.out,oM,zkj⟩
def RetIntsS (N:Nat) (w:jX) (e:Ending) (w':jX):Prop:=∃ (A:Option Addr) (n c:Nat) (l:List Int) (ok:Bool),e=j5 (.tuple #[fC A n c,.bool ok])/\n=l.length/\w'.ownsRow w.heap.size 3 1 (fC A n c) n (ints l)/\n<=N/\Ext w w'
theorem spec_l3Parse (hs:s.size<=1000) :
  j6 j3 252 #[s] w (RetIntsS (s.size+1) w):=by
 have g:=World.ownsRow_lit (base:=w.heap.size) (e:=3) (size:=1) w #[] 0 (dD _) lM rfl
 go_enter Tryz.func252,Tryz.ntmps252
 go_upto_region 2 with fail
 obtain⟨K,hK⟩:∃ K,Hid (K=w.heap.size):=⟨_,za rfl⟩;rw [<- hK.out] at g ⊢;generalize U0:w.alloc _=w1 at *;have r:=Ext.al_ U0;clear U0;cases he:s.toList.isEmpty
 ·go_wp2_with fail
  refine (spec_l19CutC (s:=s) oM).mono ?_;rintro e T ⟨B,m,d,l,rfl,o,t,n,J,c⟩;have q:=r.trans c;have h:=zi g c;have z:=za n;have M:=za o;have G:m<=s.size+1:=J;clear n o g he J;go_wp2_with fail
  go_loopw [4,6] (fun v iv wr=>∃ (k:Nat) (f:List Int),k<=m/\iv=.int iX (k:Nat)/\wr.ownsRow K 3 1 v k (ints f)/\Hid (f.length=k)/\wr.ownsRow w1.heap.size 9 1 (fC B m d) m (zO l)/\Ext w wr) (fun _ iv _=>m - (intOf iv).toNat)
  case atStart=>exact⟨0,[],dF _,rfl,h,za rfl,t,q⟩
  case round =>
   clear h t q c;obtain⟨k,f,S,rfl,p,i,a,u⟩:=hrel;obtain⟨y,C,rfl⟩:=zh p
   by_cases hlt:k<m
   ·obtain⟨R,rfl,-,-⟩:=zM a oM;obtain⟨Q,L,D,-,-,I,F⟩:=(eE a).str hlt;obtain rfl:=j8 D;rw [zad,dW] at F;have E:=za (z.out L (dC I.out));go_wp2_with fail
    refine (zej (s:=L) (oH E.out)).mono ?_;rintro e U ⟨x,O,rfl,rfl⟩;cases O
    ·go_wp2_with fail
     exact bodyPost_ret (v:=.tuple #[(),.bool j1]) (by simp [results,Tryz.results252,go_sem]) rfl ⟨fV,0,0,[],j1,rfl,rfl,World.ownsRow_nil _ _ _ _,oM,u⟩
    ·have H:=u.size;go_wp2_with (at_builtin;refine zI w wr rfl _ _ _ rfl 3 _ 1 8 Tryz.underlying110 zS rfl dM (fC y k C) k (ints f) _ _ rfl rfl H (by rw [<- hK.out];exact p) rfl (by simp [Value.oneCell']) lM oM ?_;intro g5 cap5 w5 zkt hg5 hat5 hlt5)
     go_roundw
     case rel=>exact⟨k+1,f++[x],oM,gM,by rw [hK.out];simpa [ints] using zkt,za (by have:=i.out;simp;omega),zf a (Frm.ab hg5) (fun b hb hS=>zas a p dM hb hS),u.grown hg5 (fun j hj=>by have:=(p.lt j hj).1;have:=hK.out;omega)⟩
     case measure=>exact uM
   ·obtain rfl:k=m:=oM;go_wp2_with fail
    exact bodyPost_ret (v:=.tuple #[fC y k C,.bool jU]) (by simp [results,Tryz.results252,go_sem]) rfl ⟨y,k,C,f,jU,rfl,i.out.symm,by rw [<- hK.out];exact p,G,u⟩
 ·go_wp2_with fail
  exact bodyPost_ret (v:=.tuple #[fC (fU K) 0 0,.bool jU]) (by simp [results,Tryz.results252,go_sem]) rfl ⟨fU ⟨w.heap.size,0,fV⟩,0,0,[],jU,by rw [hK.out],rfl,by rw [hK.out] at g;exact g,oM,r⟩
theorem autValid_few {a:Aut}(h:zj a=jU):∃ al:Nat,a.al=al/\al<64/\1<=a.next.length/\a.next.length<=12/\a.acc.length=a.next.length/\∀ l∈a.next,l.length=(letters al 6).length/\∀ q∈l,0<=q/\q<a.next.length:=by
 simp only [zj,Bool.and_eq_true,decide_eq_true_eq,List.all_eq_true,zjM] at h;obtain⟨f,b,d,c⟩:=h;refine⟨a.al.toNat,oM,oM,b.1,b.2,d,fun l hl=>⟨(c l hl).1,fun q hq=>(c l hl).2 q hq⟩⟩
def RetFmtA (a:Aut) (w:jX) (e:Ending) (w':jX):Prop:=∃ t:ByteArray,e=j5 (.string t)/\(zj a=j1->t.size=0)/\Ext w w'
theorem zfb {lo hi:Nat}{a:Aut}(h:zJ w lo hi A n A' n' a) :
  j6 j3 253 #[j2 #[a.al,fC A n c,fC A' n' c']] w (RetFmtA a w):=by
 have Z:=za (fun W (hW:Ext w W)=>zQ lo hi A n c A' n' c' a W ⟨h.1.ext hW,h.2.1,h.2.2.ext hW⟩);cases h1:zj a
 ·have J:=za h1;clear h1 h
  go_enter Tryz.func253,Tryz.ntmps253
  go_wp2_with (go_at_call 79;refine (Z.out _ ((cY _).alloc _)).mono ?_;rw [J.out];rintro e w1 ⟨rfl,H⟩)
  go_ret;exact⟨_,rfl,fun _=>rfl,((cY _).alloc _).trans H⟩
 ·obtain⟨al,ha,L,hn1,R,M,b⟩:=autValid_few h1;have J:=za h1;have Hn:=za h.n1;have ak:=za h.n2;have Ha:=za ha;have f:=za b;have HS:=za (fun W (hW:Ext w W)=>h.1.ext hW);have HB:=za (fun W (hW:Ext w W)=>h.2.2.ext hW);have e1:n=n':=by have:=h.n1;have:=h.n2;omega
  subst e1;have av:n<=12:=oH h.n1;clear h1 ha hn1 R M b h
  go_enter Tryz.func253,Tryz.ntmps253
  go_wp2_with fail
  refine (Z.out _ ((cY _).alloc _)).mono ?_;rw [J.out];rintro e w1 ⟨rfl,H⟩;have b1:=zcf H;rw [Ha.out] at b1;have o:=((cY w).alloc _).trans H;have cb:=b1.cells;have V:=cY w1;clear H;go_wp2_with fail
  refine (zbQ L).mono ?_;rintro e w2 ⟨s,rfl,F,I⟩;go_wp2_with fail
  go_loopw [3,4] (fun v i wr=>∃ (k:Nat) (t:ByteArray),k<=n/\i=.int iX k/\v=.string t/\t.size<=20+100*k/\Ext w1 wr) (fun _ i _=>n - (intOf i).toNat)
  case atStart=>exact⟨0,s,dF _,rfl,rfl,oM,I⟩
  case round =>
   clear I F V;obtain⟨k,t,hk,rfl,rfl,ht,zkj⟩:=hrel;have C:=cb wr zkj
   by_cases hlt:k<n
   ·obtain⟨ad,Ak,ck,l,rfl,_,_,hl,g,E⟩:=(HS.out wr (o.trans zkj)).row hlt;obtain⟨am,x,rfl,_,_,-,O⟩:=(HB.out wr (o.trans zkj)).bool hlt;have hq:=za (f.out l (dC hl.out));have ar:l.length<=6:=by have:=hq.out.1;have:=zA al 6;omega
    have B:=za (fun W (hW:Ext wr W)=>E.ext hW);have z:=za (fun W (hW:Ext wr W)=>hW.aa g);have y:=za (fun W (hW:Ext wr W)=>cb W (zkj.trans hW));have r:=cY wr;clear E;go_upto_if 24 with fail
    go_cut [5] (fun s5 wx=>∃ m:ByteArray,s5=.string m/\m.size=2/\Ext wr wx)
    case first =>
     cases x
     ·go_wp2_with fail
      go_meet;exact⟨{ data:=#[32,45] },rfl,rfl,r⟩
     ·go_wp2_with fail
      go_meet;exact⟨{ data:=#[32,43] },rfl,rfl,r⟩
    case rest =>
     clear g O C r;obtain⟨m,rfl,Q,p⟩:=hcut;obtain⟨Y,G⟩:∃ Y,Y=wr:=⟨_,rfl⟩;rw [<- G] at B z y p zkj;clear G;have q0:¬ 9223372036854775807<t.size+m.size:=oM;have aw:(t++m).size=t.size+2:=by rw [ByteArray.size_append,Q]
     go_upto_region 11 with fail
     generalize t++m=t1 at *;clear q0;go_wp2_with fail
     go_loopw [3,6] (fun v jv wr=>∃ (j:Nat) (t:ByteArray),j<=l.length/\jv=.int iX j/\v=.string t/\t.size<=22+100*k+10*j/\Ext Y wr) (fun _ jv _=>l.length - (intOf jv).toNat)
     case atStart=>exact⟨0,t1,dF _,rfl,rfl,oM,p⟩
     case round =>
      clear p;obtain⟨j,s,hj,rfl,rfl,F,d⟩:=hrel;have C:=y.out wr d;have g:=z.out wr d
      by_cases hjl:j<l.length
      ·obtain⟨an,q,rfl,-,-,U,ap⟩:=(B.out wr d).int hjl;obtain⟨S,T⟩:=hq.out.2 q (dC U.out);obtain⟨u,rfl⟩:∃ u:Nat,q=u:=⟨q.toNat,oM⟩;have hu:u<100:=oH Hn.out;clear S T;go_upto_if 39 with fail
       go_cut [3] (fun s3 wx=>∃ m:ByteArray,s3=.string m/\m.size<=s.size+1/\wx=wr)
       case first =>
        by_cases hj0:0<j
        ·have D:((j:Int)>0):=oM;have q1:¬ 9223372036854775807<s.size+1:=oM;go_wp2_with fail
         go_meet;exact⟨_,rfl,by rw [ByteArray.size_append];exact dD _,rfl⟩
        ·have D:¬ ((j:Int)>0):=oM;go_wp2_with fail
         go_meet;exact⟨s,rfl,oM,rfl⟩
       case rest =>
        obtain⟨m3,rfl,au,rfl⟩:=hcut;go_wp2_with fail
        refine (zei (n:=u) hu).mono ?_;rintro e w4 ⟨t4,rfl,ax,X⟩;have q2:¬ 9223372036854775807<m3.size+t4.size:=oM;go_wp2_with fail
        go_roundw
        case rel=>exact⟨j+1,_,oM,gM,rfl,by rw [ByteArray.size_append];omega,d.trans X⟩
        case measure=>exact uM
      ·obtain rfl:j=l.length:=oM;go_wp2_with fail
       go_roundw
       case rel=>exact⟨k+1,s,oM,gM,rfl,oM,zkj.trans d⟩
       case measure=>exact uM
   ·obtain rfl:n=k:=oM;go_wp2_with fail
    go_ret;have hv:=J.out;exact⟨t,rfl,fun h=>absurd (hv.symm.trans h) dM,o.trans zkj⟩
def RetStrs1 (L N:Nat) (w:jX) (e:Ending) (w':jX):Prop:=∃ (A:Option Addr) (n c:Nat) (l:List ByteArray),e=j5 (fC A n c)/\n=l.length/\0<n/\w'.ownsRow w.heap.size 9 1 (fC A n c) n (zO l)/\(∀ x∈l,x.size<=L)/\n<=N/\Ext w w'
theorem spec_l19Cut1 (hs:s.size<=1000000) :
  j6 j3 250 #[s,.int .u8 32] w (RetStrs1 s.size (s.size+1) w):=by
 go_enter Tryz.func250,Tryz.ntmps250
 go_wp2_with fail
 go_loopw [5,6,7] (fun v f i wr=>∃ (k m:Nat) (l:List ByteArray),k<=s.size+1/\i=.int iX k/\m<=k/\f=.int iX m/\l.length<=k/\wr.ownsRow w.heap.size 9 1 v l.length (zO l)/\Hid (∀ x∈l,x.size<=s.size)/\Ext w wr/\Hid (s.size<k->0<l.length)) (fun _ _ i _=>s.size+1 - (intOf i).toNat)
 case atStart=>exact⟨0,0,[],dF _,rfl,dD _,rfl,dD _,World.ownsRow_lit w #[] 0 (dD _) lM rfl,(fun x hx=>by cases hx),(cY _).alloc _,za (fun hh=>absurd hh oM)⟩
 case round =>
  obtain⟨k,m,l,r,rfl,u,rfl,t,zkh,a,zkj,b⟩:=hrel
  by_cases hle:k<=s.size
  ·have n:(k:Int)<=(s.size:Int):=oM;have o:(m:Int)<=(k:Int):=oM;have h:=za (show (s.extract m k).size<=s.size by rw [ByteArray.size_extract];omega);have hall:=za (show ∀ x∈l++[s.extract m k],x.size<=s.size from fun x hx=>by
    rcases kD.1 hx with d|d
    ·exact a.out x d
    ·rw [kF.1 d];exact h.out)
   by_cases he:k=s.size
   ·have g:((k:Int)==(s.size:Int))=jU:=by simp [he]
    have p:=za he;clear he;go_wp2_with (at_builtin;refine zW w wr rfl _ _ _ rfl 9 _ 1 16 Tryz.underlying88 zo rfl dM u5 _ _ _ _ rfl rfl zkj zkh rfl (zcx _) lM oM ?_;intro v' w1 hext1 zkq hg1 hat1)
    go_roundw
    case rel=>exact⟨k+1,k+1,l++[s.extract m k],oM,gM,oM,gM,by simp;omega,by simpa [zO] using zkq,hall.out,aM,za (fun _=>sM)⟩
    case measure=>exact uM
   ·have g:((k:Int)==(s.size:Int))=j1:=by rw [beq_eq_false_iff_ne];omega
    have j:k<s.size:=oM;have q:=zcB s k j;cases hc:((s[k].toNat:Int)==32)
    ·go_wp2_with fail
     go_roundw
     case rel=>exact⟨k+1,m,l,oM,gM,oM,rfl,oM,zkh,a,zkj,za (fun hh=>absurd hh oM)⟩
     case measure=>exact uM
    ·go_wp2_with (at_builtin;refine zW w wr rfl _ _ _ rfl 9 _ 1 16 Tryz.underlying88 zo rfl dM u5 _ _ _ _ rfl rfl zkj zkh rfl (zcx _) lM oM ?_;intro v' w1 hext1 zkq hg1 hat1)
     go_roundw
     case rel=>exact⟨k+1,k+1,l++[s.extract m k],oM,gM,oM,gM,by simp;omega,by simpa [zO] using zkq,hall.out,aM,za (fun _=>sM)⟩
     case measure=>exact uM
  ·obtain rfl:k=s.size+1:=oM;obtain⟨A,c,rfl⟩:=zh zkh;go_wp2_with fail
   go_ret;exact⟨A,_,c,l,rfl,rfl,b.out oM,zkh,a.out,oM,zkj⟩
def RetParA (R M L:Nat) (w:jX) (e:Ending) (w':jX):Prop:=
 ∃ (b:Aut) (A:Option Addr) (n c:Nat) (A':Option Addr) (n' c':Nat) (ok:Bool),e=j5 (.tuple #[j2 #[b.al,fC A n c,fC A' n' c'],.bool ok])/\zac w' w.heap.size A n c A' n' c' b/\Hid (BdA L b)/\Rd w' R M/\Dr R w w'
theorem zjL (hR:R<w.heap.size)(h:Rd W R M)(hd:Dr R w W)(hZ:w.heap.size<=Z) :
  Hid (RetParA R M L w (j5 (.tuple #[j2 #[(0:Int),(),()],.bool j1])) (((W.setCell Z (0:Int)).setCell ⟨Z,1,fV⟩ ()).setCell ⟨Z,2,fV⟩ ())):=
 za ⟨⟨0,[],[]⟩,fV,0,0,fV,0,0,j1,rfl,⟨⟨[],World.ownsRow_nil _ _ _ _,zB.nil _ _⟩,rfl,World.ownsRow_nil _ _ _ _,rfl⟩,za ⟨dF _,dF _,fun l hl=>by simp at hl⟩,h.frm (zV W Z _ _ _) (fun k hk e=>oM),((hd.ag (p:=⟨Z,0,fV⟩) hZ _).ag (p:=⟨Z,1,fV⟩) hZ _).ag (p:=⟨Z,2,fV⟩) hZ _⟩
theorem yW16a3 {P:Prop}(h:P:=by
 go_wp2_with fail
 have hfb:=zah bz4 rfl (.int .i64 0) (.slice none 0 0) (.slice none 0 0);have cf:=hfb.cell;exact bodyPost_ret (v:=.tuple #[.agg #[(0:Int),(),()],.bool false]) (by simp [results,Tryz.results166,go_sem,cf]) rfl hno4.out
 ):P:=h
theorem yW16a4 {P:Prop}(h:P:=by
 have cf:=hfb.cell;exact bodyPost_ret (v:=.tuple #[.agg #[(0:Int),(),()],.bool false]) (by simp [results,Tryz.results166,go_sem,cf]) rfl hno.out
 ):P:=h
theorem zfx {x:ByteArray}(h:Rd w R M)(hx:x.size<=1000) :
  j6 j3 166 #[x] w (RetParA R M (x.size+1) w):=by
 have hRl:=h.lt
 go_enter Tryz.func166,Tryz.ntmps166
 go_wp2_with fail
 generalize U0:w.alloc _=w0 at *;have n:=Ext.al_ U0;have bz:=Ext.bl_ U0;have aU:=bz.lt;clear U0;refine (spec_l19Cut1 (s:=x) oM).mono ?_;rintro e w1 ⟨B,m,d,l,rfl,ap,ab,zkq,u,hm,aT⟩;have aD:=za u;have bg:=za ap;have bD:m<=1001:=oM;clear u ap;obtain⟨gB,rfl,bA,-⟩:=zM zkq ab;obtain⟨ad,x0,V,-,-,a9,ak⟩:=(eE zkq).str (k:=0) ab;obtain rfl:=j8 V;rw [zad,Nat.add_zero] at ak;have a8:(0:Int)<(m:Int):=oM;go_wp2_with fail
 refine (zdt (x:=x0)).mono ?_;rintro e w2 ⟨al,aW,rfl,ha,av⟩;have t:=aT.trans av;have U:=bz.ext t;have aE:=U.cell;have aF:=U.frozen;have hno:=zjL (L:=x.size+1) (M:=M) (Z:=w.heap.size) hRl (h.ext (n.trans t)) (n.trans t).dr (dD _);cases aW
 ·go_wp2_with fail
  have hfb:=zah U rfl (.int iX 0) (fC fV 0 0) (fC fV 0 0);exact yW16a4
 ·have bG:=dZ w2 27 #[al,(),()];have ae:=(cY w2).alloc (.cells #[al,(),()] 27);have aQ:=t.size;have aA:=zi zkq av;have bw:=za (show ∀ W,Ext w2 W->Ext w W from fun W hW=>(n.trans t).trans hW);go_upto_region 6 with fail
  have aB:=zi aA ae;have zki:zbK w0 (w2.alloc (.cells #[al,(),()] 27)) R w2.heap.size M al (fC fV 0 0) [] [] (fC fV 0 0) []:=⟨bG,World.ownsRow_nil _ _ _ _,zB.nil _ _,World.ownsRow_nil _ _ _ _,(h.ext (n.trans t)).ext ae,(t.trans ae).dr,oM,aQ⟩;generalize w2.alloc _=w3 at *;generalize w2.heap.size=G at *;clear hno aE aF ak aA;go_wp2_with fail
  go_loopw [8] (fun iv wr=>∃ (i:Nat) (v:j4) (p:List j4) (j:List (List Int)) (vA:j4) (f:List Bool),1<=i/\i<=m/\iv=.int iX (i:Nat)/\zbK w0 wr R G M al v p j vA f/\Hid (j.length<=i - 1)/\Hid (f.length=j.length)/\Hid (∀ l∈j,l.length<=x.size+1)/\wr.ownsRow w0.heap.size 9 1 (fC (fU gB) m d) m (zO l)) (fun iv _=>m - (intOf iv).toNat)
  case atStart=>exact⟨1,_,_,[],_,[],dD _,ab,rfl,zki,za (dF _),za rfl,za (fun l hl=>by simp at hl),aB⟩
  case round =>
   clear zki aB;obtain⟨i,v,p,j,vA,f,bB,hi,rfl,zki,E,Y,u,F⟩:=hrel;have hno:=zjL (L:=x.size+1) (M:=M) (Z:=w.heap.size) hRl zki.rd (n.dr.trans zki.dr) (dD _);have C:=bz.dr zki.dr oM
   by_cases hlt:i<m
   ·obtain⟨ad,z,V,-,-,aw,am⟩:=(eE F).str hlt;obtain rfl:=j8 V;rw [zad,dW] at am;have bu:=aD.out z (dC aw.out);cases he:z.toList.isEmpty
    ·have br:1<=z.size:=by
      rcases Nat.eq_zero_or_pos z.size with h0|h0
      ·rw [ByteArray.toList_eq] at he;have e2:z.data.toList.length=z.size:=rfl;rw [List.eq_nil_of_length_eq_zero (e2.trans h0)] at he;cases he
      ·exact h0
     have a6:(1:Int)<=(z.size:Int):=oM;have bx:(z.extract 1 z.size).size<=x.size:=by rw [ByteArray.size_extract];omega
     go_wp2_with fail
     refine (spec_l3Parse (s:=z.extract 1 z.size) oM).mono ?_;rintro e w4 ⟨Ar,nr,cr,lr,ok,rfl,aN,ar,bE,g⟩;cases ok
     ·have hno4:=zjL (L:=x.size+1) (M:=M) (Z:=w.heap.size) hRl (zki.rd.ext g) ((n.dr.trans zki.dr).ext g) (dD _);have bz4:=C.ext g;have cz:=bz4.cell;have fz:=bz4.frozen;exact yW16a3
     ·subst aN;have an:=za zki.low;have aP:=za zki.dr.size;have c:=zki.ext g;have q:=zi F g;have cG:=c.blk.cell;have aR:=c.dr.size;have bC:j.length<=1001:=oH E.out;have ai:=za aw.out;have aq:=hno;clear zki F am hno aq;go_upto_region 15 with (at_builtin;refine zI w0 w4 rfl _ _ _ rfl 110 _ 1 24 Tryz.underlying24 zbp rfl dM v j.length p _ _ rfl rfl aR c.nx rfl (zaG _ _ _) lM oM ?_;intro g5 cap5 w6 hown6 hg6 hat6 hlt6;obtain⟨q1,q2,q3⟩:=c.av an.out aP.out ar hown6 hg6 hat6;have aX:=q1.out;have r:=(zf q (Frm.ab hg6) (fun b hb hS=>zas q c.nx dM hb hS)))
      have H:=zf r (dG w6 G 1 (fC (fU g5) (j.length+1) cap5)) (fun b hb hS=>by
       have aJ:Blk w6 G 27 #[.int iX al,v,vA]:=(hg6.block G c.blk.lt (fun e=>zq c.nx c.blk dM e.symm rfl)).trans c.blk;exact zq r aJ dM hb hS)
      have S:=za (show (j++[lr]).length<=i by have:=E.out;simp;omega);have Q:=za (show f.length+1=(j++[lr]).length by have:=Y.out;simp;omega);have ao:=za (show ∀ l'∈j++[lr],l'.length<=x.size+1 from fun l' hl'=>by
       rcases kD.1 hl' with h1|h1
       ·exact u.out l' h1
       ·rw [kF.1 h1];omega)
      clear q1 aX q2 hown6 hg6 hat6 hlt6 r q c cG E Y u ar;generalize j++[lr]=aV at *;generalize p++[fC Ar lr.length cr]=aZ at *;generalize w6.setCell ⟨G,1,fV⟩ (fC (fU g5) (j.length+1) cap5)=w7 at *;generalize fC (fU g5) (j.length+1) cap5=v7 at *;obtain⟨bi,y,aj,-,-,T,D⟩:=(eE H).str hlt;obtain rfl:=j8 aj;rw [zad,dW] at D;obtain rfl:y=z:=j8 (T.out.symm.trans ai.out);have cG:=fun W (hW:Ext w7 W)=>(q3.blk.ext hW).cell;have cS:∀ W,Ext w7 W->W.cell? ⟨gB,i,fV⟩=fU (.string y):=fun W hW=>hW.aa D;have aH:0<y.size:=oM;have a5:(0:Int)<(y.size:Int):=oM;have bs:=zcB y 0 aH;obtain⟨bb,bt⟩:∃ bb,((y[0].toNat:Int)==43)=bb:=⟨_,rfl⟩;have aS:=cY w7;clear D T ai;refine uR (fun X=>Ext w7 X) [9,11] (zy.of [0,1,2,3,4,5,6,7,8,9,10,11]) ?_;refine uQ ?_;have af:=aS.drew;refine ze fun K hK=>?_;go_simp;refine hK.out _ _ (af.alloc _) ?_;refine pT ?_;refine zb fun K hK=>?_;have bF:=q3.dr.size;have o:=q3.ext af;have a7:f.length<=1001:=by have:=Q.out;have:=S.out;omega
      have I:=zi H af;refine zaC w0 w7.drew _ _ _ rfl 4 _ 1 1 Tryz.underlying25 zaJ rfl dM vA f.length (zY f) _ _ rfl rfl o.dr.size o.acc rfl (by simp [Value.oneCell']) lM oM ?_;intro g8 cap8 w8 hown8 hg8 hat8 hlt8;refine hK.out _ _ ?_;refine pT ?_;refine uQ ?_;obtain⟨p1,p2,p3⟩:=o.aq (x:=bb) (W':=w8) hown8 hg8 hat8;have bL:=p1.out;have J:=zf I (Frm.ab hg8) (fun b hb hS=>zas I o.acc dM hb hS);have O:=zf J (dG w8 G 2 (fC (fU g8) (f.length+1) cap8)) (fun b hb hS=>by
       have aK:Blk w8 G 27 #[.int iX al,v7,vA]:=(hg8.block G o.blk.lt (fun e=>zq o.acc o.blk dM e.symm rfl)).trans o.blk;exact zq J aK dM hb hS)
      refine zb fun K hK=>?_;go_simp;refine hK.out _ _ ?_;refine zg ?_;go_wp2_with fail
      go_roundw
      case rel=>exact⟨i+1,_,_,aV,_,f++[bb],oM,oM,gM,p3,za (oH S.out),za (by have:=Q.out;simp;omega),ao,O⟩
      case measure=>exact uM
    ·have cz:=C.cell;have fz:=C.frozen;go_wp2_with fail
     have hfb:=zah C rfl (.int iX 0) (fC fV 0 0) (fC fV 0 0);exact yW16a4
   ·obtain⟨A5,c5,rfl⟩:=zh zki.nx;obtain⟨B5,d5,rfl⟩:=zh zki.acc;have aL:zJ wr w0.heap.size wr.heap.size A5 j.length B5 f.length (⟨al,j,f⟩:Aut):=⟨zeY.reads ⟨p,zki.nx,zki.rows⟩ rfl,rfl,eE zki.acc⟩;have cG:=zki.blk.cell;clear hno;go_wp2_with fail
    refine (zfb (a:=⟨al,j,f⟩) aL).mono ?_;rintro e w4 ⟨tx,rfl,-,g⟩;have c:=zki.ext g;have hno4:=zjL (L:=x.size+1) (M:=M) (Z:=w.heap.size) hRl (zki.rd.ext g) ((n.dr.trans zki.dr).ext g) (dD _);have bz4:=C.ext g;have cz:=bz4.cell;have fz:=bz4.frozen;have bn:=c.blk.cell;clear cG;cases hne:tx.toList==x.toList
    ·exact yW16a3
    ·obtain⟨f1,f2⟩:=c.fin (N:=M) (sh:=BdA (x.size+1)) n bz rfl hRl (dD _) aU (dD _) ⟨by have:=E.out;show j.length<=_;omega,by have:=E.out;have:=Y.out;show f.length<=_;omega,u.out⟩;go_wp2_with fail
     have cf:=f2.cell;obtain⟨b,A6,n6,c6,A7,n7,c7,he,aO,au,hr6,hd6⟩:=f1.out;exact bodyPost_ret (v:=.tuple #[j2 #[al,fC A5 j.length c5,fC B5 f.length d5],.bool jU]) (by simp [results,Tryz.results166,go_sem,cf]) rfl ⟨b,A6,n6,c6,A7,n7,c7,jU,by injection he with he;rw [he],aO,au,hr6,hd6⟩
def Texts3 (W:jX) (base g n:Nat):Prop:=
 ∀ k<n,∃ (b:Nat) (l:List ByteArray),W.cell? ⟨g,k,fV⟩=fU (fC (fU b) 3 3)/\l.length=3/\((∀ x∈l,x.size<=100)/\∀ x,l[2]?=fU x->x.size<=40)/\W.ownsRow base 9 1 (fC (fU b) 3 3) 3 (zO l)
def RetT3 (w:jX) (e:Ending) (w':jX):Prop:=∃ g,e=j5 (fC (fU ⟨g,0,fV⟩) 9 9)/\w.heap.size<=g/\Texts3 w' w.heap.size g 9/\Ext w w'
def Sh3 (u:Array j4):Prop:=zO (u.toList.map strOf)=u.toList/\u.size=3/\(∀ x∈u.toList.map strOf,x.size<=100)/\∀ x∈(u.toList.map strOf).drop 2,x.size<=40
theorem Sh3.ao {u:Array j4}(h:Sh3 u):(u.toList.map strOf).length=3/\(∀ x∈u.toList.map strOf,x.size<=100)/\∀ x,(u.toList.map strOf)[2]?=fU x->x.size<=40:=by
 obtain⟨-,a,b,c⟩:=h;refine⟨by simp [a],b,fun x hx=>c x ?_⟩;have d:=(List.getElem?_eq_some_iff.1 hx).1;rw [List.mem_iff_getElem?];exact⟨0,by rw [List.getElem?_drop];exact hx⟩
theorem lit9 (w:jX){u1 u2 u3 u4 u5 u6 u7 u8 u9:Array j4}(h1:Sh3 u1)(h2:Sh3 u2)(h3:Sh3 u3)(h4:Sh3 u4)(h5:Sh3 u5)(h6:Sh3 u6)(h7:Sh3 u7)(h8:Sh3 u8)(h9:Sh3 u9) :
  RetT3 w (j5 (fC (fU ⟨w.heap.size+9,0,fV⟩) 9 9)) ((((((((((w.alloc (.cells u1 9)).alloc (.cells u2 9)).alloc (.cells u3 9)).alloc (.cells u4 9)).alloc (.cells u5 9)).alloc (.cells u6 9)).alloc (.cells u7 9)).alloc (.cells u8 9)).alloc (.cells u9 9)).alloc (.cells #[fC (fU w.heap.size) 3 3,fC (fU ⟨w.heap.size+1,0,fV⟩) 3 3,fC (fU ⟨w.heap.size+2,0,fV⟩) 3 3,fC (fU ⟨w.heap.size+3,0,fV⟩) 3 3,fC (fU ⟨w.heap.size+4,0,fV⟩) 3 3,fC (fU ⟨w.heap.size+5,0,fV⟩) 3 3,fC (fU ⟨w.heap.size+6,0,fV⟩) 3 3,fC (fU ⟨w.heap.size+7,0,fV⟩) 3 3,fC (fU ⟨w.heap.size+8,0,fV⟩) 3 3] 88)):=by
 have R:=zbH w h1.1 h1.2.1 oM;have U:=(cY w).alloc (.cells u1 9);have v:(w.alloc (.cells u1 9)).heap.size=w.heap.size+1:=sM;generalize w.alloc (.cells u1 9)=w1 at *;have n:=zbH w1 h2.1 h2.2.1 oM;have V:=(cY w1).alloc (.cells u2 9);have x:(w1.alloc (.cells u2 9)).heap.size=w.heap.size+2:=by simp [v]
 rw [v] at n;generalize w1.alloc (.cells u2 9)=b at *;have o:=zbH b h3.1 h3.2.1 oM;have X:=(cY b).alloc (.cells u3 9);have y:(b.alloc (.cells u3 9)).heap.size=w.heap.size+3:=by simp [x]
 rw [x] at o;generalize b.alloc (.cells u3 9)=c at *;have p:=zbH c h4.1 h4.2.1 oM;have Y:=(cY c).alloc (.cells u4 9);have z:(c.alloc (.cells u4 9)).heap.size=w.heap.size+4:=by simp [y]
 rw [y] at p;generalize c.alloc (.cells u4 9)=d at *;have q:=zbH d h5.1 h5.2.1 oM;have Z:=(cY d).alloc (.cells u5 9);have B:(d.alloc (.cells u5 9)).heap.size=w.heap.size+5:=by simp [z]
 rw [z] at q;generalize d.alloc (.cells u5 9)=f at *;have r:=zbH f h6.1 h6.2.1 oM;have x6:=(cY f).alloc (.cells u6 9);have C:(f.alloc (.cells u6 9)).heap.size=w.heap.size+6:=by simp [B]
 rw [B] at r;generalize f.alloc (.cells u6 9)=g at *;have s:=zbH g h7.1 h7.2.1 oM;have x7:=(cY g).alloc (.cells u7 9);have D:(g.alloc (.cells u7 9)).heap.size=w.heap.size+7:=by simp [C]
 rw [C] at s;generalize g.alloc (.cells u7 9)=h at *;have t:=zbH h h8.1 h8.2.1 oM;have x8:=(cY h).alloc (.cells u8 9);have E:(h.alloc (.cells u8 9)).heap.size=w.heap.size+8:=by simp [D]
 rw [D] at t;generalize h.alloc (.cells u8 9)=i at *;have u:=zbH i h9.1 h9.2.1 oM;have x9:=(cY i).alloc (.cells u9 9);have S:(i.alloc (.cells u9 9)).heap.size=w.heap.size+9:=by simp [E]
 rw [E] at u;generalize i.alloc (.cells u9 9)=l at *;have a:=dZ l 88 #[fC (fU w.heap.size) 3 3,fC (fU ⟨w.heap.size+1,0,fV⟩) 3 3,fC (fU ⟨w.heap.size+2,0,fV⟩) 3 3,fC (fU ⟨w.heap.size+3,0,fV⟩) 3 3,fC (fU ⟨w.heap.size+4,0,fV⟩) 3 3,fC (fU ⟨w.heap.size+5,0,fV⟩) 3 3,fC (fU ⟨w.heap.size+6,0,fV⟩) 3 3,fC (fU ⟨w.heap.size+7,0,fV⟩) 3 3,fC (fU ⟨w.heap.size+8,0,fV⟩) 3 3];have m:=(cY l).alloc (.cells #[fC (fU w.heap.size) 3 3,fC (fU ⟨w.heap.size+1,0,fV⟩) 3 3,fC (fU ⟨w.heap.size+2,0,fV⟩) 3 3,fC (fU ⟨w.heap.size+3,0,fV⟩) 3 3,fC (fU ⟨w.heap.size+4,0,fV⟩) 3 3,fC (fU ⟨w.heap.size+5,0,fV⟩) 3 3,fC (fU ⟨w.heap.size+6,0,fV⟩) 3 3,fC (fU ⟨w.heap.size+7,0,fV⟩) 3 3,fC (fU ⟨w.heap.size+8,0,fV⟩) 3 3] 88);rw [S] at a;generalize l.alloc _=T at *;have Q:=m;have O:=x9.trans Q;have M:=x8.trans O;have L:=x7.trans M;have J:=x6.trans L;have I:=Z.trans J;have H:=Y.trans I;have G:=X.trans H;have F:=V.trans G;refine⟨_,rfl,oM,fun k hk=>?_,U.trans F⟩;have j:k=0\/k=1\/k=2\/k=3\/k=4\/k=5\/k=6\/k=7\/k=8:=oM;rcases j with rfl|rfl|rfl|rfl|rfl|rfl|rfl|rfl|rfl
 ·exact⟨_,_,a.cell 0,h1.ao.1,h1.ao.2,zi R F⟩
 ·exact⟨_,_,a.cell 1,h2.ao.1,h2.ao.2,zm (zi n G) oM⟩
 ·exact⟨_,_,a.cell 2,h3.ao.1,h3.ao.2,zm (zi o H) oM⟩
 ·exact⟨_,_,a.cell 3,h4.ao.1,h4.ao.2,zm (zi p I) oM⟩
 ·exact⟨_,_,a.cell 4,h5.ao.1,h5.ao.2,zm (zi q J) oM⟩
 ·exact⟨_,_,a.cell 5,h6.ao.1,h6.ao.2,zm (zi r L) oM⟩
 ·exact⟨_,_,a.cell 6,h7.ao.1,h7.ao.2,zm (zi s M) oM⟩
 ·exact⟨_,_,a.cell 7,h8.ao.1,h8.ao.2,zm (zi t O) oM⟩
 ·exact⟨_,_,a.cell 8,h9.ao.1,h9.ao.2,zm (zi u Q) oM⟩
theorem zjS :j6 j3 180 #[] w (RetT3 w):=by
 go_enter Tryz.func180,Tryz.ntmps180
 go_wp2_with fail
 go_ret;exact lit9 w ⟨rfl,rfl,by decide +kernel,by decide +kernel⟩ ⟨rfl,rfl,by decide +kernel,by decide +kernel⟩ ⟨rfl,rfl,by decide +kernel,by decide +kernel⟩ ⟨rfl,rfl,by decide +kernel,by decide +kernel⟩ ⟨rfl,rfl,by decide +kernel,by decide +kernel⟩ ⟨rfl,rfl,by decide +kernel,by decide +kernel⟩ ⟨rfl,rfl,by decide +kernel,by decide +kernel⟩ ⟨rfl,rfl,by decide +kernel,by decide +kernel⟩ ⟨rfl,rfl,by decide +kernel,by decide +kernel⟩
end Go.Proofs.YtckbjnndaaoddaaGreatDoor
