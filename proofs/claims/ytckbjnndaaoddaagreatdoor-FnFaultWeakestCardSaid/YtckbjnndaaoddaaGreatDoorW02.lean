/- Validity of -/
import Derived.Test.YtckbjnndaaoddaaGreatDoorW01
import Derived.Deep.DeepCutAuto
import Derived.Deep.CutBlock
set_option maxHeartbeats 4000000
set_option maxRecDepth 100000
namespace Go.Proofs.YtckbjnndaaoddaaGreatDoor
open Go Go.RowKit
open Bool renaming and_eq_true->dH,or_eq_true->fM,false->j1,true->jU
open Ext renaming drew->fB,refl->cY,trans->eN
open Frm renaming setCell->dG
open Int renaming toNat_natCast->eM
open List renaming all_eq_true->eK,drop_eq_getElem_cons->fL,drop_of_length_le->gP,getD_eq_getElem?_getD->dE,getElem?_append_left->dI,getElem?_append_right->dT,getElem?_eq_getElem->dB,getElem?_eq_none->dV,getElem?_of_mem->dY,getElem?_range->fJ,getElem?_toArray->eO,length_append->dK,length_singleton->dU,map_append->eH,mem_of_getElem?->dC,mem_range->iY,range->eT,take_add_one->dN,take_of_length_le->dJ,getElem?_eq_some_iff->j9,mem_map->kC
open Nat renaming add_sub_cancel->gY,le_refl->dD,le_trans->dL,lt_or_ge->eR,lt_trichotomy->e8,sub_self->fR,zero_add->dW,zero_le->dF
open Reads renaming af->eE
open Go renaming Calls->j6,Value->j4,World->jX
open Go.Ending renaming returned->j5
open Go.IntKind renaming i64->iX
open Go.Value renaming agg->j2,slice->fC
open Option renaming none->fV,some->fU
open Option.some renaming inj->j8
open _root_.Go.Proofs.Tryz renaming prog->j3
variable {A AA B PA:Option Addr}{G ac an b base c cap d g hi hi' i id j k lo lo' m n o pc pn q size x:Nat}{K L st:Int}{S:Nat->Prop}{W W' W1 w w' w0:jX}{a:Act}{bs l sz xs:List Nat}{cs:Array j4}{e t:TypeId}{r sv v:j4}{rows:List j4}{s:Sys}{ss:List Sys}
def zjp (x y:Int):Int:=if x<y then -1 else if y<x then 1 else 0
theorem cmp_isNaN (x:Int) (w:jX):j6 j3 249 #[x] w fun e w'=>e=j5 (.bool j1)/\w=w':=by
 have h:(x != x)=j1:=sM
 go_enter Tryz.func249,Tryz.ntmps249
 go_wp2;go_ret;exact⟨zr sM,rfl⟩
theorem cmp_Compare (x y:Int) (w:jX):j6 j3 160 #[x,y] w fun e w'=>e=j5 (.int iX (zjp x y))/\w=w':=by
 by_cases h:x<y
 ·go_enter Tryz.func160,Tryz.ntmps160
  go_wp2_with (go_at_call 249;refine (cmp_isNaN _ _).mono ?_;rintro e w' ⟨rfl,rfl⟩)
  go_ret;exact⟨zaa (by unfold zjp;split<;>omega),rfl⟩
 ·by_cases h':y<x
  all_goals
   go_enter Tryz.func160,Tryz.ntmps160
   go_wp2_with (go_at_call 249;refine (cmp_isNaN _ _).mono ?_;rintro e w' ⟨rfl,rfl⟩)
   go_ret;exact⟨zaa (by unfold zjp;(repeat' split)<;>omega),rfl⟩
def orI:List Int->Int
 |[]=>0
 |x :: r=>if x=0 then orI r else x
theorem orI_stop {l:List Int}{x:Int}(h:l[k]?=fU x)(hk:∀ y∈l.take k,y=0)(hx:x≠0):orI l=x:=by
 induction l generalizing k with
 |nil=>simp at h
 |cons a r ih =>
  cases k with
  |zero=>simp at h;subst h;rw [orI,if_neg hx]
  |succ k =>
   have b:a=0:=hk a sM;rw [orI,if_pos b];exact ih (by simpa using h) (fun y hy=>hk y (by simp [hy]))
theorem orI_end {l:List Int}(hk:∀ y∈l,y=0):orI l=0:=by
 induction l with
 |nil=>rfl
 |cons a r ih=>rw [orI,if_pos (hk a sM),ih fun y hy=>hk y (by simp [hy])]
theorem cmp_Or {l:List Int}(h:Reads w lo hi 1 A n (ints l)) :
  j6 j3 159 #[fC A n c] w fun e w'=>e=j5 (.int iX (orI l))/\w=w':=by
 have q:=h.len;have g:=za (show l.length=n by have:=h.length;rw [zcX] at this;omega)
 go_enter Tryz.func159,Tryz.ntmps159
 go_wp2
 go_loop [8] (fun i=>∃ k:Nat,k<=n/\i=.int iX k/\Hid (∀ y∈l.take k,y=0)) (fun i=>n - (intOf i).toNat)
 case atStart=>exact⟨0,dF _,rfl,za sM⟩
 case round =>
  obtain⟨k,p,rfl,b⟩:=hrel
  by_cases hlt:k<n
  ·obtain⟨m,x,rfl,_,_,d,o⟩:=h.int hlt
   by_cases h0:x=0
   ·have j:((x:Int) != 0)=j1:=by simp [h0]
    have f:=za h0;clear h0;go_wp2
    go_round
    case rel=>exact⟨k+1,oM,gM,za (by rw [dN,d.out];intro y a;simp at a;rcases a with a|a;exact b.out y a;rw [a,f.out])⟩
    case measure=>exact uM
   ·have j:((x:Int) != 0)=jU:=by simp [h0]
    go_wp2;go_ret;exact⟨zaa (orI_stop d.out b.out h0).symm,rfl⟩
  ·obtain rfl:k=n:=oM;go_wp2;go_ret;have:=b.out;rw [dJ (oH g.out)] at this;exact⟨zaa (orI_end this).symm,rfl⟩
def cmpE (a b:Edg):Int:=orI [zjp a.fr b.fr,zjp a.le b.le,zjp a.ta b.ta]
def ltE (a b:Edg):Bool:=if a.fr=b.fr then if a.le=b.le then decide (a.ta<b.ta) else decide (a.le<b.le) else decide (a.fr<b.fr)
theorem cmpE_lt (a b:Edg):cmpE a b<0↔ltE a b=jU:=by
 have c:∀ x y:Int,(zjp x y=0↔x=y)/\(zjp x y<0↔x<y):=fun x y=>by unfold zjp;constructor<;>(repeat' split)<;>omega
 have h1:=c a.fr b.fr;have h2:=c a.le b.le;have d:=c a.ta b.ta;have f:cmpE a b=if zjp a.fr b.fr=0 then if zjp a.le b.le=0 then if zjp a.ta b.ta=0 then 0 else zjp a.ta b.ta else zjp a.le b.le else zjp a.fr b.fr:=rfl;rw [f,ltE]
 by_cases e1:a.fr=b.fr
 ·rw [if_pos (h1.1.2 e1),if_pos e1]
  by_cases e2:a.le=b.le
  ·rw [if_pos (h2.1.2 e2),if_pos e2]
   by_cases e3:zjp a.ta b.ta=0
   ·rw [if_pos e3];have:=d.1.1 e3;simp;omega
   ·rw [if_neg e3,d.2];simp
  ·rw [if_neg (fun h=>e2 (h2.1.1 h)),if_neg e2,h2.2];simp
 ·rw [if_neg (fun h=>e1 (h1.1.1 h)),if_neg e1,h1.2];simp
theorem reads_lit (n:Nat) (l:List Int)(hc:cs.toList=ints l)(hl:l.length=n)(hn:n<=1000)(h:Ext (w.alloc (.cells cs t)) w'):Reads w' 0 w'.heap.size 1 (fU ⟨w.heap.size,0,fV⟩) n (ints l):=by
 have a:=zcf h;refine⟨by rw [zcX];omega,oM,fun _=>⟨_,rfl,dF _,a.lt,fun j u hu=>?_⟩⟩;rw [zad,dW,a.cell,<- Array.getElem?_toList,hc];exact hu
theorem zdK {a b:Edg}  :
  j6 j3 71 #[j2 #[a.fr,a.le,a.ta],j2 #[b.fr,b.le,b.ta]] w fun e w'=>e=j5 (.int iX (cmpE a b))/\Ext w w':=by
 go_enter Tryz.func71,Tryz.ntmps71
 go_wp2_with fail
 obtain⟨W,hW⟩:∃ W:jX,W=(w.alloc (.cells #[Value.int iX a.fr,a.le,a.ta] 117)).alloc (.cells #[Value.int iX b.fr,b.le,b.ta] 117):=⟨_,rfl⟩;have c:Ext w W:=by rw [hW];exact ((cY _).alloc _).alloc _
 have h2:=zN (show Ext ((w.alloc (.cells #[Value.int iX a.fr,a.le,a.ta] 117)).alloc (.cells #[Value.int iX b.fr,b.le,b.ta] 117)) W by rw [hW];exact cY _);have d:∀ X,Ext W X->∀ j,X.cell? ⟨w.heap.size,j,fV⟩=#[Value.int iX a.fr,.int iX a.le,.int iX a.ta][j]?:=fun X hX=>(h2.1.ext hX).cell;have f:∀ X,Ext W X->∀ j,X.cell? ⟨w.heap.size+1,j,fV⟩=#[Value.int iX b.fr,.int iX b.le,.int iX b.ta][j]?:=fun X hX=>(h2.2.ext hX).cell;rw [<- hW];have g:=cY W;clear hW h2
 go_region_held3 (fun X=>Ext W X) (first|assumption|(refine fB ?_;assumption)|(refine Ext.alloc ?_ _;assumption)|(refine fB ?_;refine Ext.alloc ?_ _;assumption)|(refine eN ?_ aM;assumption)) (first|(go_at_call 160;refine (cmp_Compare _ _ _).mono ?_;rintro e w' ⟨rfl,rfl⟩)|(go_at_call 159;refine (cmp_Or (reads_lit 3 [zjp a.fr b.fr,zjp a.le b.le,zjp a.ta b.ta] rfl rfl oM ((cY _).drew))).mono ?_;rintro e w' ⟨rfl,rfl⟩))
 all_goals (go_wp2_with fail;go_ret;exact⟨rfl,c.trans (by first|assumption|(refine fB ?_;assumption)|(refine Ext.alloc ?_ _;assumption)|(refine fB ?_;refine Ext.alloc ?_ _;assumption))⟩)
theorem zan {al:Int}{q:Int}  :
  j6 j3 153 #[j2 #[al,st,fC A n c],q] w fun e w'=>e=j5 (.bool (decide (0<=q)&&decide (q<st)))/\Ext w w':=by
 by_cases h0:0<=q
 all_goals
  go_enter Tryz.func153,Tryz.ntmps153
  go_wp2;go_ret;exact⟨zr (by simp;try omega),(cY _).alloc _⟩
def edgB (al:Nat) (st:Int) (e:Edg):Bool:=(decide (0<=e.fr)&&decide (e.fr<st))&&((decide (0<=e.ta)&&decide (e.ta<st))&&(decide (e.le<6)&&hasB al e.le))
def zbn (al:Nat) (st:Int) (l:List Edg) (k:Nat):Bool:=
 match l[k]? with
 |some e=>edgB al st e&&(decide (k=0) || match l[k - 1]? with
  |some p=>ltE p e
  |none=>j1)
 |none=>j1
def zk (s:Sys):Bool:=
 decide (0<=s.al/\s.al<=63)&&(decide (1<=s.st/\s.st<=16)&&(eT s.edges.length).all (zbn s.al.toNat s.st s.edges))
theorem zaH (h:zU w lo hi A n s) :
  j6 j3 65 #[j2 #[s.al,s.st,fC A n c]] w fun e w'=>e=j5 (.bool (zk s))/\Ext w w':=by
 have y:=za (show zk s=(decide (0<=s.al/\s.al<=63)&&(decide (1<=s.st/\s.st<=16)&&(eT n).all (zbn s.al.toNat s.st s.edges))) by unfold zk;rw [<- h.1]);have hn:=h.2.len
 by_cases hal:0<=s.al/\s.al<=63
 ·by_cases hst:1<=s.st/\s.st<=16
  ·obtain⟨al,u⟩:∃ al:Nat,Hid (s.al=al):=⟨s.al.toNat,by unfold Hid;omega⟩;have B:Sm al:=by have:=u.out;unfold Sm;omega
   have H:=za (show decide (0<=(al:Int)/\(al:Int)<=63)=jU by have:=u.out;simp;omega);rw [u.out];rw [u.out,eM] at y;clear hal;have ab:decide (s.st<1)=j1:=by simp;omega
   have ad:decide (16<s.st)=j1:=by simp;omega
   obtain⟨st,T,au,av⟩:∃ st:Int,Hid (s.st=st)/\1<=st/\st<=16:=⟨s.st,za rfl,hst.1,hst.2⟩;rw [T.out] at ab ad y ⊢;clear hst;have hR:=fun W (hW:Ext w W)=>h.2.ext hW;have HR:=za hR;clear hR
   go_enter Tryz.func65,Tryz.ntmps65
   go_wp2_with (go_at_call 82;refine (zaD _ _).mono ?_;rw [H.out];rintro e w' ⟨rfl,rfl⟩)
   go_loopw [22] (fun i wr=>∃ k:Nat,k<=n/\i=.int iX k/\Hid (((eT n).take k).all (zbn al st s.edges)=jU)/\Ext (w.alloc (.cells #[Value.int iX al,st,fC A n c] 38)) wr)
    (fun i _=>n - (intOf i).toNat)
   case atStart=>exact⟨0,dF _,rfl,rfl,cY _⟩
   case round =>
    obtain⟨k,hk,rfl,x,m⟩:=hrel
    by_cases hlt:k<n
    ·obtain⟨b,o,e,rfl,ar,an,D,c0,c1,c2⟩:=(HR.out wr (((cY _).alloc _).trans m)).edge hlt;have Z:=zew m;go_wp2_with fail
     obtain⟨W,hW⟩:∃ W:jX,W=wr.alloc (.cells #[Value.int iX e.fr,e.le,e.ta] 117):=⟨_,rfl⟩;have F:Ext wr W:=by rw [hW];exact (cY _).alloc _
     have h1:=zcf (show Ext (wr.alloc (.cells #[Value.int iX e.fr,e.le,e.ta] 117)) W by rw [hW];exact cY _);have e0:∀ X,Ext W X->∀ j,X.cell? ⟨w.heap.size,j,fV⟩=#[Value.int iX al,.int iX st,fC (fU ⟨b,o,fV⟩) n c][j]?:=fun X hX=>zew ((m.trans F).trans hX);have e1:∀ X,Ext W X->∀ j,X.cell? ⟨wr.heap.size,j,fV⟩=#[Value.int iX e.fr,.int iX e.le,.int iX e.ta][j]?:=fun X hX=>(h1.ext hX).cell;rw [<- hW];have hr:=cY W;clear hW h1 Z c0 c1 c2;have V:∀ X,Ext W X->Ext w X:=fun X hX=>((((cY _).alloc _).trans m).trans F).trans hX;have l:=za V;clear V;have Q:(eT n)[k]?=fU k:=by rw [fJ hlt]
     have t:=za Q;clear Q;cases g:(decide (0<=e.fr)&&decide (e.fr<st))
     ·have J:=za g;clear g;have g:=J;clear J;refine zak (fun X=>Ext W X) [0,1,2,3,4,5,6,7,8,9,10,11,12,13,14,15,16,17,18,19,20,21,22,23,24,25,26,27,28,29,30,31,32,33,34,35,36,37,38,39] kM rfl kM kM (fun _ _ _ _ _ h=>h) ((cY _).drew) (fun hS=>?_);refine sQ ?_;refine zaj (fun K hK=>?_);go_simp;refine (zan).mono ?_;rw [g.out];rintro r I ⟨rfl,d⟩;refine hK.out _ _ (eN aM d) (fun hS=>?_);refine pT ?_;refine sQ ?_;refine zcF ?_;go_wp2_with fail
      go_ret;exact⟨zr (by rw [y.out,zaR t.out (by rw [zbn,D.out];dsimp only;rw [edgB,g.out];simp)];simp),l.out _ aM⟩
     ·have J:=za g;clear g;have g:=J;clear J;cases q:(decide (0<=e.ta)&&decide (e.ta<st))
      ·have L:=za q;clear q;have q:=L;clear L;refine zak (fun X=>Ext W X) [0,1,2,3,4,5,6,7,8,9,10,11,12,13,14,15,16,17,18,19,20,21,22,23,24,25,26,27,28,29,30,31,32,33,34,35,36,37,38,39] kM rfl kM kM (fun _ _ _ _ _ h=>h) ((cY _).drew) (fun hS=>?_);refine sQ ?_;refine zaj (fun K hK=>?_);go_simp;refine (zan).mono ?_;rw [g.out];rintro r I ⟨rfl,d⟩;refine hK.out _ _ (eN aM d) (fun hS=>?_);refine pT ?_;refine sQ ?_;refine zaj (fun K hK=>?_);go_simp;refine (zan).mono ?_;rw [q.out];rintro r U ⟨rfl,f⟩;refine hK.out _ _ (eN aM f) (fun hS=>?_);refine pT ?_;refine sQ ?_;refine zcF ?_;go_wp2_with fail
       go_ret;exact⟨zr (by rw [y.out,zaR t.out (by rw [zbn,D.out];dsimp only;rw [edgB,g.out,q.out];simp)];simp),l.out _ aM⟩
      ·have L:=za q;clear q;have q:=L;clear L
       by_cases hle:6<=e.le
       ·have hL:decide (6<=e.le)=jU:=by simp;omega
        refine zak (fun X=>Ext W X) [0,1,2,3,4,5,6,7,8,9,10,11,12,13,14,15,16,17,18,19,20,21,22,23,24,25,26,27,28,29,30,31,32,33,34,35,36,37,38,39] kM rfl kM kM (fun _ _ _ _ _ h=>h) ((cY _).drew) (fun hS=>?_);refine sQ ?_;refine zaj (fun K hK=>?_);go_simp;refine (zan).mono ?_;rw [g.out];rintro r I ⟨rfl,d⟩;refine hK.out _ _ (eN aM d) (fun hS=>?_);refine pT ?_;refine sQ ?_;refine zaj (fun K hK=>?_);go_simp;refine (zan).mono ?_;rw [q.out];rintro r U ⟨rfl,f⟩;refine hK.out _ _ (eN aM f) (fun hS=>?_);refine pT ?_;refine sQ ?_;refine zcF ?_;go_wp2_with fail
        go_ret;exact⟨zr (by rw [y.out,zaR t.out (by rw [zbn,D.out];dsimp only;rw [edgB,g.out,q.out];simp;omega)];simp),l.out _ aM⟩
       ·have hL:decide (6<=e.le)=j1:=by simp;omega
        have R:=za (show decide (e.le<6)=jU by simp;omega);cases v:hasB al e.le
        ·have M:=za v;clear v;have v:=M;clear M;refine zak (fun X=>Ext W X) [0,1,2,3,4,5,6,7,8,9,10,11,12,13,14,15,16,17,18,19,20,21,22,23,24,25,26,27,28,29,30,31,32,33,34,35,36,37,38,39] kM rfl kM kM (fun _ _ _ _ _ h=>h) ((cY _).drew) (fun hS=>?_);refine sQ ?_;refine zaj (fun K hK=>?_);go_simp;refine (zan).mono ?_;rw [g.out];rintro r I ⟨rfl,d⟩;refine hK.out _ _ (eN aM d) (fun hS=>?_);refine pT ?_;refine sQ ?_;refine zaj (fun K hK=>?_);go_simp;refine (zan).mono ?_;rw [q.out];rintro r U ⟨rfl,f⟩;refine hK.out _ _ (eN aM f) (fun hS=>?_);refine pT ?_;refine sQ ?_;refine zaj (fun K hK=>?_);go_simp;refine (zcv _ _ B _).mono ?_;rw [v.out];rintro r w4 ⟨rfl,rfl⟩;refine hK.out _ _ aM (fun hS=>?_);refine pT ?_;refine sQ ?_;refine zcF ?_;go_wp2_with fail
         go_ret;exact⟨zr (by rw [y.out,zaR t.out (by rw [zbn,D.out];dsimp only;rw [edgB,g.out,q.out,v.out];simp)];simp),l.out _ aM⟩
        ·have M:=za v;clear v;have v:=M;clear M;have C:=za (show edgB al st e=jU by rw [edgB,g.out,q.out,v.out,R.out];rfl)
         by_cases hk0:k=0
         ·subst hk0;refine zak (fun X=>Ext W X) [0,1,2,3,4,5,6,7,8,9,10,11,12,13,14,15,16,17,18,19,20,21,22,23,24,25,26,27,28,29,30,31,32,33,34,35,36,37,38,39] kM rfl kM kM (fun _ _ _ _ _ h=>h) ((cY _).drew) (fun hS=>?_);refine sQ ?_;refine zaj (fun K hK=>?_);go_simp;refine (zan).mono ?_;rw [g.out];rintro r I ⟨rfl,d⟩;refine hK.out _ _ (eN aM d) (fun hS=>?_);refine pT ?_;refine sQ ?_;refine zaj (fun K hK=>?_);go_simp;refine (zan).mono ?_;rw [q.out];rintro r U ⟨rfl,f⟩;refine hK.out _ _ (eN aM f) (fun hS=>?_);refine pT ?_;refine sQ ?_;refine zaj (fun K hK=>?_);go_simp;refine (zcv _ _ B _).mono ?_;rw [v.out];rintro r w4 ⟨rfl,rfl⟩;refine hK.out _ _ aM (fun hS=>?_);refine pT ?_;refine sQ ?_;refine zcF ?_;go_wp2_with fail
          go_roundw
          case rel=>exact⟨0+1,oM,gM,zcL t.out x.out (by rw [zbn,D.out];dsimp only;rw [C.out];simp),(m.trans F).trans aM⟩
          case measure=>exact uM
         ·obtain⟨j,rfl⟩:∃ j,k=j+1:=⟨k - 1,oM⟩;have hp:s.edges[j]?=fU (s.edges[j]'(oH h.1)):=dB _;generalize s.edges[j]'(oH h.1)=p at hp;have Y:=za hp;clear hp;have z:=(HR.out wr (((cY _).alloc _).trans m)).edge2 Y.out;have p0:∀ X,Ext W X->X.cell? ⟨b,o+j*3,fV⟩=fU (.int iX p.fr):=fun X hX=>(F.trans hX).aa z.1;have p1:∀ X,Ext W X->X.cell? ⟨b,o+j*3+1,fV⟩=fU (.int iX p.le):=fun X hX=>(F.trans hX).aa z.2.1;have p2:∀ X,Ext W X->X.cell? ⟨b,o+j*3+2,fV⟩=fU (.int iX p.ta):=fun X hX=>(F.trans hX).aa z.2.2;clear z;have aq:decide ((0:Int)<(j:Int)+1)=jU:=decide_eq_true oM;have aw:IntKind.i64.wrap ((j:Int)+1 - 1)=(j:Int):=by rw [IntKind.wrap_i64];omega
          have ax:IntKind.i64.wrap (j:Int)=(j:Int):=by rw [IntKind.wrap_i64];omega
          have ao:(0:Int)<=(j:Int):=oM;have ap:(j:Int)<(n:Int):=oM;have S:=cmpE_lt p e;have O:=za S;clear S
          by_cases hc:0<=cmpE p e
          ·have aa:decide (0<=cmpE p e)=jU:=by simpa using hc
           have E:=za (show ltE p e=j1 by rw [Bool.eq_false_iff];intro hh;have:=O.out.2 hh;omega);refine zak (fun X=>Ext W X) [0,1,2,3,4,5,6,7,8,9,10,11,12,13,14,15,16,17,18,19,20,21,22,23,24,25,26,27,28,29,30,31,32,33,34,35,36,37,38,39] kM rfl kM kM (fun _ _ _ _ _ h=>h) ((cY _).drew) (fun hS=>?_);refine sQ ?_;refine zaj (fun K hK=>?_);go_simp;refine (zan).mono ?_;rw [g.out];rintro r I ⟨rfl,d⟩;refine hK.out _ _ (eN aM d) (fun hS=>?_);refine pT ?_;refine sQ ?_;refine zaj (fun K hK=>?_);go_simp;refine (zan).mono ?_;rw [q.out];rintro r U ⟨rfl,f⟩;refine hK.out _ _ (eN aM f) (fun hS=>?_);refine pT ?_;refine sQ ?_;refine zaj (fun K hK=>?_);go_simp;refine (zcv _ _ B _).mono ?_;rw [v.out];rintro r w4 ⟨rfl,rfl⟩;refine hK.out _ _ aM (fun hS=>?_);refine pT ?_;refine sQ ?_;refine zaj (fun K hK=>?_);go_simp;refine (zdK (a:=p) (b:=e)).mono ?_;rintro r w5 ⟨rfl,G⟩;refine hK.out _ _ (eN aM G) (fun hS=>?_);refine pT ?_;refine sQ ?_;refine zcF ?_;go_wp2_with fail
           go_ret;exact⟨zr (by rw [y.out,zaR t.out (by rw [zbn,D.out];dsimp only;rw [gY,Y.out];simp [E.out])];simp),l.out _ aM⟩
          ·have aa:decide (0<=cmpE p e)=j1:=by simp;omega
           have E:=za (show ltE p e=jU from O.out.1 oM);refine zak (fun X=>Ext W X) [0,1,2,3,4,5,6,7,8,9,10,11,12,13,14,15,16,17,18,19,20,21,22,23,24,25,26,27,28,29,30,31,32,33,34,35,36,37,38,39] kM rfl kM kM (fun _ _ _ _ _ h=>h) ((cY _).drew) (fun hS=>?_);refine sQ ?_;refine zaj (fun K hK=>?_);go_simp;refine (zan).mono ?_;rw [g.out];rintro r I ⟨rfl,d⟩;refine hK.out _ _ (eN aM d) (fun hS=>?_);refine pT ?_;refine sQ ?_;refine zaj (fun K hK=>?_);go_simp;refine (zan).mono ?_;rw [q.out];rintro r U ⟨rfl,f⟩;refine hK.out _ _ (eN aM f) (fun hS=>?_);refine pT ?_;refine sQ ?_;refine zaj (fun K hK=>?_);go_simp;refine (zcv _ _ B _).mono ?_;rw [v.out];rintro r w4 ⟨rfl,rfl⟩;refine hK.out _ _ aM (fun hS=>?_);refine pT ?_;refine sQ ?_;refine zaj (fun K hK=>?_);go_simp;refine (zdK (a:=p) (b:=e)).mono ?_;rintro r w5 ⟨rfl,G⟩;refine hK.out _ _ (eN aM G) (fun hS=>?_);refine pT ?_;refine sQ ?_;refine zcF ?_;go_wp2_with fail
           go_roundw
           case rel=>exact⟨j+1+1,oM,gM,zcL t.out x.out (by rw [zbn,D.out];dsimp only;rw [gY,Y.out,C.out];simp [E.out]),(m.trans F).trans aM⟩
           case measure=>exact uM
    ·obtain rfl:k=n:=oM;go_wp2;go_ret;exact⟨zr (by rw [y.out,zfo sM x.out,H.out];simp;omega),((cY _).alloc _).trans m⟩
  ·go_enter Tryz.func65,Tryz.ntmps65
   have H:=za (show decide (0<=s.al/\s.al<=63)=jU by simp;omega);go_wp2_with (go_at_call 82;refine (zaD _ _).mono ?_;rw [H.out];rintro e w' ⟨rfl,rfl⟩)
   all_goals go_ret
   all_goals exact⟨zr (by rw [y.out];simp [hst]),(cY _).alloc _⟩
 ·go_enter Tryz.func65,Tryz.ntmps65
  have H:=za (show decide (0<=s.al/\s.al<=63)=j1 by simp;omega);go_wp2_with (go_at_call 82;refine (zaD _ _).mono ?_;rw [H.out];rintro e w' ⟨rfl,rfl⟩)
  go_ret;exact⟨zr (by rw [y.out];simp;omega),(cY _).alloc _⟩
theorem zel {al:Nat}{e:Edg}(hsm:Sm al) :
  j6 j3 262 #[al,st,j2 #[e.fr,e.le,e.ta]] w fun r w'=>r=j5 (.bool (edgB al st e))/\Ext w w':=by
 have a:=za (show edgB al st e=((decide (0<=e.fr)&&decide (e.fr<st))&&((decide (0<=e.ta)&&decide (e.ta<st))&&(decide (e.le<6)&&hasB al e.le))) from rfl)
 by_cases h0:e.fr<0
 ·go_enter Tryz.func262,Tryz.ntmps262
  go_wp2;go_ret;exact⟨zr (by rw [a.out];simp;omega),(cY _).alloc _⟩
 ·by_cases h1:st<=e.fr
  ·go_enter Tryz.func262,Tryz.ntmps262
   go_wp2;go_ret;exact⟨zr (by rw [a.out];simp;omega),(cY _).alloc _⟩
  ·by_cases h2:e.ta<0
   ·go_enter Tryz.func262,Tryz.ntmps262
    go_wp2;go_ret;exact⟨zr (by rw [a.out];simp;omega),(cY _).alloc _⟩
   ·by_cases h3:st<=e.ta
    ·go_enter Tryz.func262,Tryz.ntmps262
     go_wp2;go_ret;exact⟨zr (by rw [a.out];simp;omega),(cY _).alloc _⟩
    ·by_cases h4:0<=e.le
     ·by_cases h5:e.le<6
      ·obtain⟨le,b⟩:∃ le:Nat,Hid (e.le=le):=⟨e.le.toNat,by unfold Hid;omega⟩;have c:(le:Int)<6:=oH b.out;clear h4 h5;rw [b.out]
       go_enter Tryz.func262,Tryz.ntmps262
       go_wp2_with (go_at_call 143;refine (zav al le hsm _ oM).mono ?_;rintro r w' ⟨rfl,rfl⟩)
       go_ret;exact⟨zr (by rw [a.out,b.out,decide_eq_true (show 0<=e.fr by omega),decide_eq_true (show e.fr<st by omega),decide_eq_true (show 0<=e.ta by omega),decide_eq_true (show e.ta<st by omega),decide_eq_true c];simp [hasB]),(cY _).alloc _⟩
      ·go_enter Tryz.func262,Tryz.ntmps262
       go_wp2_with fail
       go_ret;exact⟨zr (by rw [a.out];simp;omega),(cY _).alloc _⟩
     ·go_enter Tryz.func262,Tryz.ntmps262
      go_wp2_with fail
      go_ret;exact⟨zr (by rw [a.out];simp [hasB];omega),(cY _).alloc _⟩
theorem zek {a b:Edg}  :
  j6 j3 261 #[j2 #[a.fr,a.le,a.ta],j2 #[b.fr,b.le,b.ta]] w fun e w'=>e=j5 (.bool (ltE a b))/\Ext w w':=by
 have c:=za (show ltE a b=if a.fr=b.fr then if a.le=b.le then decide (a.ta<b.ta) else decide (a.le<b.le) else decide (a.fr<b.fr) from rfl);have g:Ext w ((w.alloc (.cells #[Value.int iX a.fr,a.le,a.ta] 117)).alloc (.cells #[Value.int iX b.fr,b.le,b.ta] 117)):=((cY _).alloc _).alloc _;have d:=za g;clear g
 by_cases h0:a.fr=b.fr
 ·have i:(a.fr != b.fr)=j1:=by simp [h0]
  have f:=za h0;clear h0
  by_cases h1:a.le=b.le
  ·have j:(a.le != b.le)=j1:=by simp [h1]
   have h:=za h1;clear h1
   go_enter Tryz.func261,Tryz.ntmps261
   go_wp2;go_ret;exact⟨zr (by rw [c.out,if_pos f.out,if_pos h.out]),d.out⟩
  ·have j:(a.le != b.le)=jU:=by simp [h1]
   go_enter Tryz.func261,Tryz.ntmps261
   go_wp2;go_ret;exact⟨zr (by rw [c.out,if_pos f.out,if_neg h1]),d.out⟩
 ·have i:(a.fr != b.fr)=jU:=by simp [h0]
  go_enter Tryz.func261,Tryz.ntmps261
  go_wp2;go_ret;exact⟨zr (by rw [c.out,if_neg h0]),d.out⟩
theorem zax (h:zU w lo hi A n s) :
  j6 j3 185 #[j2 #[s.al,s.st,fC A n c]] w fun e w'=>e=j5 (.bool (zk s))/\Ext w w':=by
 have y:=za (show zk s=(decide (0<=s.al/\s.al<=63)&&(decide (1<=s.st/\s.st<=16)&&(eT n).all (zbn s.al.toNat s.st s.edges))) by unfold zk;rw [<- h.1]);have hn:=h.2.len
 by_cases hal:0<=s.al/\s.al<=63
 ·by_cases hst:1<=s.st/\s.st<=16
  ·obtain⟨al,g⟩:∃ al:Nat,Hid (s.al=al):=⟨s.al.toNat,by unfold Hid;omega⟩;have u:Sm al:=by have:=g.out;unfold Sm;omega
   have B:=za (show decide (0<=(al:Int)/\(al:Int)<=63)=jU by have:=g.out;simp;omega);rw [g.out];rw [g.out,eM] at y;clear hal;have I:decide (s.st<1)=j1:=by simp;omega
   have J:decide (16<s.st)=j1:=by simp;omega
   obtain⟨st,D,ah,ai⟩:∃ st:Int,Hid (s.st=st)/\1<=st/\st<=16:=⟨s.st,za rfl,hst.1,hst.2⟩;rw [D.out] at I J y ⊢;clear hst;have T:=fun W (hW:Ext w W)=>h.2.ext hW;have O:=za T;clear T
   go_enter Tryz.func185,Tryz.ntmps185
   go_wp2_with (go_at_call 142;refine (zX _ _).mono ?_;rw [B.out];rintro e w' ⟨rfl,rfl⟩)
   go_loopw [3] (fun i wr=>∃ k:Nat,k<=n/\i=.int iX k/\Hid (((eT n).take k).all (zbn al st s.edges)=jU)/\Ext (w.alloc (.cells #[Value.int iX al,st,fC A n c] 38)) wr)
    (fun i _=>n - (intOf i).toNat)
   case atStart=>exact⟨0,dF _,rfl,rfl,cY _⟩
   case round =>
    obtain⟨k,hk,rfl,l,d⟩:=hrel;have H:=zew d
    by_cases hlt:k<n
    ·obtain⟨b,o,e,rfl,ag,Y,F,Q,R,S⟩:=(O.out wr (((cY _).alloc _).trans d)).edge hlt;go_wp2_with fail
     clear H;have e0:∀ X,Ext wr X->∀ j,X.cell? ⟨w.heap.size,j,fV⟩=#[Value.int iX al,.int iX st,fC (fU ⟨b,o,fV⟩) n c][j]?:=fun X hX=>zew (d.trans hX);have q0:∀ X,Ext wr X->X.cell? ⟨b,o+k*3,fV⟩=fU (.int iX e.fr):=fun X hX=>hX.aa Q;have q1:∀ X,Ext wr X->X.cell? ⟨b,o+k*3+1,fV⟩=fU (.int iX e.le):=fun X hX=>hX.aa R;have q2:∀ X,Ext wr X->X.cell? ⟨b,o+k*3+2,fV⟩=fU (.int iX e.ta):=fun X hX=>hX.aa S;have hr:=cY wr;clear Q R S;have E:∀ X,Ext wr X->Ext w X:=fun X hX=>(((cY _).alloc _).trans d).trans hX;have v:=za E;clear E;have U:(0:Int)<=(k:Int):=oM;have V:(k:Int)<(n:Int):=oM;have C:(eT n)[k]?=fU k:=by rw [fJ hlt]
     have q:=za C;clear C;cases hA':edgB al st e
     ·have x:=za hA';clear hA';refine zak (fun X=>Ext wr X) [0,1,2,3,4,5,6,7,8,9,10,11,12,13,14,15,16,17,18,19,20,21,22,23,24,25,26,27,28,29] kM rfl kM kM (fun _ _ _ _ _ h=>h) ((cY _).drew) (fun hS=>?_);refine sQ ?_;refine zaj (fun K hK=>?_);go_simp;refine (zel (e:=e) u).mono ?_;rw [x.out];rintro r M ⟨rfl,f⟩;refine hK.out _ _ (eN aM f) (fun hS=>?_);refine pT ?_;refine sQ ?_;refine zcF ?_;go_wp2_with fail
      go_ret;exact⟨zr (by rw [y.out,zaR q.out (by rw [zbn,F.out];dsimp only;rw [x.out];simp)];simp),v.out _ aM⟩
     ·have x:=za hA';clear hA'
      by_cases hk0:k=0
      ·subst hk0;simp only [Nat.zero_mul,Nat.add_zero] at q0 q1 q2;refine zak (fun X=>Ext wr X) [0,1,2,3,4,5,6,7,8,9,10,11,12,13,14,15,16,17,18,19,20,21,22,23,24,25,26,27,28,29] kM rfl kM kM (fun _ _ _ _ _ h=>h) ((cY _).drew) (fun hS=>?_);refine sQ ?_;refine zaj (fun K hK=>?_);go_simp;refine (zel (e:=e) u).mono ?_;rw [x.out];rintro r M ⟨rfl,f⟩;refine hK.out _ _ (eN aM f) (fun hS=>?_);refine pT ?_;refine sQ ?_;refine zcF ?_;go_wp2_with fail
       go_roundw
       case rel=>exact⟨0+1,oM,gM,zcL q.out l.out (by rw [zbn,F.out];dsimp only;rw [x.out];simp),d.trans aM⟩
       case measure=>exact uM
      ·obtain⟨j,rfl⟩:∃ j,k=j+1:=⟨k - 1,oM⟩;have L:s.edges[j]?=fU (s.edges[j]'(oH h.1)):=dB _;generalize s.edges[j]'(oH h.1)=p at L;have G:=za L;clear L;have t:=(O.out wr (((cY _).alloc _).trans d)).edge2 G.out;have p0:∀ X,Ext wr X->X.cell? ⟨b,o+j*3,fV⟩=fU (.int iX p.fr):=fun X hX=>hX.aa t.1;have p1:∀ X,Ext wr X->X.cell? ⟨b,o+j*3+1,fV⟩=fU (.int iX p.le):=fun X hX=>hX.aa t.2.1;have p2:∀ X,Ext wr X->X.cell? ⟨b,o+j*3+2,fV⟩=fU (.int iX p.ta):=fun X hX=>hX.aa t.2.2;clear t;have af:decide ((0:Int)<(j:Int)+1)=jU:=decide_eq_true oM;have aj:IntKind.i64.wrap ((j:Int)+1 - 1)=(j:Int):=by rw [IntKind.wrap_i64];omega
       have ak:IntKind.i64.wrap (j:Int)=(j:Int):=by rw [IntKind.wrap_i64];omega
       have Z:(0:Int)<=(j:Int):=oM;have aa:(j:Int)<(n:Int):=oM;have ab:(0:Int)<=(j:Int)+1:=oM;have ad:(j:Int)+1<(n:Int):=oM;have ae:((j:Int)+1).toNat=j+1:=oM;cases hnl':ltE p e
       ·have m:=za hnl';clear hnl';refine zak (fun X=>Ext wr X) [0,1,2,3,4,5,6,7,8,9,10,11,12,13,14,15,16,17,18,19,20,21,22,23,24,25,26,27,28,29] kM rfl kM kM (fun _ _ _ _ _ h=>h) ((cY _).drew) (fun hS=>?_);refine sQ ?_;refine zaj (fun K hK=>?_);go_simp;refine (zel (e:=e) u).mono ?_;rw [x.out];rintro r M ⟨rfl,f⟩;refine hK.out _ _ (eN aM f) (fun hS=>?_);refine pT ?_;refine sQ ?_;refine zaj (fun K hK=>?_);go_simp;refine (zek (a:=p) (b:=e)).mono ?_;rw [m.out];rintro r w3 ⟨rfl,z⟩;refine hK.out _ _ (eN aM z) (fun hS=>?_);refine pT ?_;refine sQ ?_;refine zcF ?_;go_wp2_with fail
        go_ret;exact⟨zr (by rw [y.out,zaR q.out (by rw [zbn,F.out];dsimp only;rw [gY,G.out];simp [m.out])];simp),v.out _ aM⟩
       ·have m:=za hnl';clear hnl';refine zak (fun X=>Ext wr X) [0,1,2,3,4,5,6,7,8,9,10,11,12,13,14,15,16,17,18,19,20,21,22,23,24,25,26,27,28,29] kM rfl kM kM (fun _ _ _ _ _ h=>h) ((cY _).drew) (fun hS=>?_);refine sQ ?_;refine zaj (fun K hK=>?_);go_simp;refine (zel (e:=e) u).mono ?_;rw [x.out];rintro r M ⟨rfl,f⟩;refine hK.out _ _ (eN aM f) (fun hS=>?_);refine pT ?_;refine sQ ?_;refine zaj (fun K hK=>?_);go_simp;refine (zek (a:=p) (b:=e)).mono ?_;rw [m.out];rintro r w3 ⟨rfl,z⟩;refine hK.out _ _ (eN aM z) (fun hS=>?_);refine pT ?_;refine sQ ?_;refine zcF ?_;go_wp2_with fail
        go_roundw
        case rel=>exact⟨j+1+1,oM,gM,zcL q.out l.out (by rw [zbn,F.out];dsimp only;rw [gY,G.out,x.out];simp [m.out]),d.trans aM⟩
        case measure=>exact uM
    ·obtain rfl:k=n:=oM;go_wp2;go_ret;exact⟨zr (by rw [y.out,zfo sM l.out,B.out];simp;omega),((cY _).alloc _).trans d⟩
  ·go_enter Tryz.func185,Tryz.ntmps185
   have B:=za (show decide (0<=s.al/\s.al<=63)=jU by simp;omega);go_wp2_with (go_at_call 142;refine (zX _ _).mono ?_;rw [B.out];rintro e w' ⟨rfl,rfl⟩)
   all_goals go_ret
   all_goals exact⟨zr (by rw [y.out];simp [hst]),(cY _).alloc _⟩
 ·go_enter Tryz.func185,Tryz.ntmps185
  have B:=za (show decide (0<=s.al/\s.al<=63)=j1 by simp;omega);go_wp2_with (go_at_call 142;refine (zX _ _).mono ?_;rw [B.out];rintro e w' ⟨rfl,rfl⟩)
  go_ret;exact⟨zr (by rw [y.out];simp;omega),(cY _).alloc _⟩
theorem zdg (h:zk s=jU):∃ p:Nat,s.st=p/\1<=p/\p<=16/\Few p s.edges:=by
 simp only [zk,dH,decide_eq_true_eq,eK,iY] at h;obtain⟨_,⟨h1,h2⟩,b⟩:=h;refine⟨s.st.toNat,oM,oM,oM,fun e he=>?_⟩;obtain⟨k,a⟩:=dY he;have:=b k (j9.1 a).1;rw [zbn,a] at this;simp only [dH,edgB,decide_eq_true_eq,hasB] at this;omega
theorem zM {xs:List j4}(h:w.ownsRow base e size (fC A n c) n xs)(hn:0<n):∃ g,A=fU ⟨g,0,fV⟩/\base<=g/\g<w.heap.size:=by
 rcases h.2 with ⟨_,j⟩|⟨g,a,b,i,d,f,_⟩
 ·omega
 ·injection i with h1 h2 h3
  exact⟨g,h1,d,(Array.getElem?_eq_some_iff.1 f).1⟩
def blk (A:Option Addr) (b:Nat):Prop:=∃ a,A=fU a/\a.block=b
def lst (x:Nat):Nat:=(letters x 32).headD 0
def clsOf (R:List Nat):Nat->List Nat × Nat
 |0=>([],0)
 |k+1=>if lst (R.getD k 0)=k then ((clsOf R k).1++[(clsOf R k).2],(clsOf R k).2+1) else ((clsOf R k).1++[(clsOf R k).1.getD (lst (R.getD k 0)) 0],(clsOf R k).2)
def cl (R:List Nat) (i:Nat):Nat:=(clsOf R (i+1)).1.getD i 0
theorem ltE_trans {a b c:Edg}(h:ltE a b=jU)(h':ltE b c=jU):ltE a c=jU:=by
 unfold ltE at *
 (repeat' split at h)<;>(repeat' split at h')<;>(repeat' split)<;>simp only [decide_eq_true_eq] at*<;> omega
theorem ltE_iff {a b:Edg}:ltE a b=jU↔a.fr<b.fr\/a.fr=b.fr/\(a.le<b.le\/a.le=b.le/\a.ta<b.ta):=by
 unfold ltE
 (repeat' split)<;>simp only [decide_eq_true_eq]<;>omega
def Rising (es:List Edg):Prop:=∀ (a b:Nat) (x y:Edg),es[a]?=fU x->es[b]?=fU y->a<b->ltE x y=jU
theorem rising_of {es:List Edg}(h:∀ k x y,es[k]?=fU x->es[k+1]?=fU y->ltE x y=jU):Rising es:=by
 intro a b x y hx hy hab
 induction b generalizing y with
 |zero=>omega
 |succ b ih =>
  have d:=(j9.1 hy).1;obtain⟨z,c⟩:∃ z,es[b]?=fU z:=⟨_,dB oM⟩;have h1:=h b z y c hy;rcases eR a b with h2|h2
  ·exact ltE_trans (ih z c h2) h1
  ·obtain rfl:a=b:=oM;rw [hx] at c;obtain rfl:=j8 c;exact h1
theorem valid_iff :zk s=jU↔(0<=s.al/\s.al<=63)/\(1<=s.st/\s.st<=16)/\(∀ e∈s.edges,edgB s.al.toNat s.st e=jU)/\Rising s.edges:=by
 simp only [zk,dH,decide_eq_true_eq,eK,iY];constructor
 ·rintro ⟨h1,h2,c⟩;refine⟨h1,h2,fun e he=>?_,rising_of fun k x y d b=>?_⟩
  ·obtain⟨k,a⟩:=dY he;have:=c k (j9.1 a).1;rw [zbn,a] at this;simp only [dH] at this;exact this.1
  ·have:=c (k+1) (j9.1 b).1;unfold zbn at this;rw [b] at this;simp only [gY,d,dH,fM,decide_eq_true_eq] at this;rcases this.2 with h|h
   ·omega
   ·exact h
 ·rintro ⟨h1,h2,c,f⟩;refine⟨h1,h2,fun k a=>?_⟩;have d:s.edges[k]?=fU s.edges[k]:=dB a;unfold zbn;rw [d];simp only [dH,fM,decide_eq_true_eq];refine⟨c _ (List.getElem_mem a),?_⟩;cases k with
  |zero=>exact Or.inl rfl
  |succ k =>
   have b:s.edges[k]?=fU s.edges[k]:=dB oM;simp only [gY,b];exact Or.inr (f k (k+1) _ _ b d oM)
def ALAt (w:jX) (lo hi:Nat) (A:Option Addr) (n:Nat) (us:List Aut):Prop:=
 n=us.length/\∃ cells,Reads w lo hi 3 A n cells/\∀ (k:Nat) (a:Aut),us[k]?=fU a->∃ (B:Option Addr) (m c:Nat) (B':Option Addr) (m' c':Nat),cells[k*3]?=fU (.int iX a.al)/\cells[k*3+1]?=fU (fC B m c)/\cells[k*3+2]?=fU (fC B' m' c')/\zJ w lo hi B m B' m' a
section
variable {w w':jX}{lo hi n k:Nat}{A:Option Addr}{us:List Aut}
theorem ALAt.ext (h:ALAt w lo hi A n us)(hb:Ext w w'):ALAt w' lo hi A n us:=by
 obtain⟨e,a,i,j⟩:=h;refine⟨e,a,i.ext hb,fun k s hs=>?_⟩;obtain⟨B,m,c,b,l,d,f,h1,h2,g⟩:=j k s hs;exact⟨B,m,c,b,l,d,f,h1,h2,g.ext hb⟩
theorem ALAt.len (h:ALAt w lo hi A n us):n<=9223372036854775807:=by
 obtain⟨_,a,b,_⟩:=h;exact b.len
theorem ALAt.aut (h:ALAt w lo hi A n us)(hk:k<n):∃ b o a B m c B' m' c',A=fU ⟨b,o,fV⟩/\Hid (us[k]?=fU a)/\w.cell? ⟨b,o+k*3,fV⟩=fU (.int iX a.al)/\w.cell? ⟨b,o+k*3+1,fV⟩=fU (fC B m c)/\w.cell? ⟨b,o+k*3+2,fV⟩=fU (fC B' m' c')/\zJ w lo hi B m B' m' a:=by
 obtain⟨e,d,q,j⟩:=h;have f:us[0]?=fU (us[0]' oM):=dB _;obtain⟨_,_,_,_,_,_,l,_⟩:=j 0 _ f;rw [Nat.zero_mul] at l;obtain⟨b,o,rfl,s,r,g⟩:=ziV q oM l;have i:us[k]?=fU (us[k]' oM):=dB _;obtain⟨B,m,c,B',m',c',f,h1,h2,p⟩:=j k _ i;exact⟨b,o,_,B,m,c,B',m',c',rfl,i,g _ _ f,by rw [Nat.add_assoc];exact g _ _ h1,by rw [Nat.add_assoc];exact g _ _ h2,p⟩
end
structure zfB (w:jX) (PA:Option Addr) (pn:Nat) (AA:Option Addr) (an:Nat) (ss:List Sys) (us:List Aut):Prop where
 sys:∃ lo hi,zhl w lo hi PA pn ss
 aut:∃ lo hi,ALAt w lo hi AA an us
theorem zfB.ext {us:List Aut}(h:zfB w PA pn AA an ss us)(hx:Ext w w'):zfB w' PA pn AA an ss us:=by
 obtain⟨⟨d,c,h1⟩,b,a,h2⟩:=h;exact⟨⟨d,c,h1.ext hx⟩,b,a,h2.ext hx⟩
def zbh (ss:List Sys) (us:List Aut):List Mem:=ss.map zdY++us.map zbz
def szs (ss:List Sys) (us:List Aut):List Nat:=ss.map (fun s=>s.st.toNat)++us.map fun a=>a.next.length
theorem zfW (ss:List Sys) (us:List Aut):(zbh ss us).map Prod.fst=szs ss us:=by
 simp [zbh,szs,zdY,zbz,Function.comp_def]
structure zdZ (ss:List Sys) (us:List Aut):Prop where
 sys:∀ s∈ss,zk s=jU
 aut:∀ a∈us,zj a=jU
 few:ss.length<=3
 few':us.length<=2
theorem zcj (h:zk s=jU):Sml s:=by
 obtain⟨h1,h2,c,d⟩:=valid_iff.1 h;obtain⟨p,b,_,_,a⟩:=zdg h;refine⟨h2.1,h2.2,?_,h1.1,h1.2⟩;rw [b];exact a
theorem zdZ.ok {us:List Aut}(h:zdZ ss us):∀ m∈zbh ss us,zeu m:=by
 intro m hm;rcases List.mem_append.1 hm with h1|h1
 ·obtain⟨s,c,rfl⟩:=kC.1 h1;exact zeD (zcj (h.sys s c))
 ·obtain⟨a,b,rfl⟩:=kC.1 h1;exact zbA (h.aut a b)
theorem prodS_le (h:∀ x∈l,x<=b):zaz l<=b ^ l.length:=by
 induction l with
 |nil=>simp [zaz]
 |cons x r ih =>
  rw [zaz,List.length_cons,Nat.pow_succ,Nat.mul_comm];exact Nat.mul_le_mul (ih fun y hy=>h y (by simp [hy])) (h x sM)
theorem zdZ.le16 {us:List Aut}(h:zdZ ss us):∀ x∈szs ss us,1<=x/\x<=16:=by
 intro x hx;rcases List.mem_append.1 hx with h1|h1
 ·obtain⟨s,d,rfl⟩:=kC.1 h1;have b:=zcj (h.sys s d);have:=b.1;have:=b.2.1;omega
 ·obtain⟨a,c,rfl⟩:=kC.1 h1;have:=(zl (h.aut a c)).2.1;omega
theorem zdZ.len {us:List Aut}(h:zdZ ss us):(szs ss us).length<=5:=by
 have:=h.few;have:=h.few';simp [szs];omega
theorem zdZ.total {us:List Aut}(h:zdZ ss us) (l:List Nat)(hl:l.Sublist (szs ss us)):1<=zaz l/\zaz l<=1048576:=by
 refine⟨prodS_pos fun x hx=>(h.le16 x (hl.subset hx)).1,?_⟩;have h1:=prodS_le (l:=l) (b:=16) fun x hx=>(h.le16 x (hl.subset hx)).2;have h2:=hl.length_le;have a:=h.len
 calc zaz l<=16 ^ l.length:=h1
  _<=16 ^ 5:=Nat.pow_le_pow_right oM oM
  _=1048576:=dM
theorem place_succ (a k:Nat):place a (k+1)=place a k+if a.testBit k then 1 else 0:=by
 unfold place;rw [zbq,dK];cases a.testBit k<;>simp
theorem spec_l1Place (a l:Nat)(ha:Sm a)(hl:l<=6) (w:jX) :
  j6 j3 279 #[a,l] w fun e w'=>e=j5 (.int iX (place a l:Nat))/\w=w':=by
 go_enter Tryz.func279,Tryz.ntmps279
 go_wp2
 go_loop [5,6] (fun v i=>∃ k y:Nat,k<=l/\i=.int iX k/\v=.int iX y/\y<=k/\Hid (y=place a k)) (fun _ i=>l - (intOf i).toNat)
 case atStart=>exact⟨0,0,dF _,rfl,rfl,dD _,rfl⟩
 case round =>
  obtain⟨k,y,f,rfl,rfl,g,b⟩:=hrel
  by_cases hlt:k<l
  ·cases hb:a.testBit k
   all_goals
    have c:=za hb;have d:=za (place_succ a k);clear hb;go_wp2_with (go_at_call 143;refine (zav a k ha _ oM).mono ?_;rw [c.out];rintro e w' ⟨rfl,rfl⟩)
    go_round
    case rel=>first|exact⟨k+1,y,oM,gM,rfl,oM,by unfold Hid;rw [d.out,c.out,<- b.out];rfl⟩|exact⟨k+1,y+1,oM,gM,gM,oM,by unfold Hid;rw [d.out,c.out,<- b.out];rfl⟩
    case measure=>exact uM
  ·obtain rfl:l=k:=oM;go_wp2;go_ret;exact⟨zaa (by rw [b.out]),rfl⟩
theorem zdT {B':Option Addr}{m' d':Nat}{a:Aut}{l:Nat}(h:zJ w lo hi B m B' m' a)(hv:zj a=jU)(hq:q<a.next.length)(hl:l<6) :
  j6 j3 225 #[j2 #[a.al,fC B m d,fC B' m' d'],q,l] w fun e w'=>e=j5 (.int iX (aGo a q l:Nat))/\Ext w w':=by
 obtain⟨⟨s,t⟩,_,_,f⟩:=zl hv;obtain⟨al,g⟩:∃ al:Nat,Hid (a.al=al):=⟨a.al.toNat,by unfold Hid;omega⟩;have n:Sm al:=by have:=g.out;unfold Sm;omega
 have o:a.al.toNat=al:=oH g.out;have Hn:=za h.n1;have T:=za (fun W (hW:Ext w W)=>h.1.ext hW);have L:q<m:=by rw [h.n1];exact hq
 have Q:=za (show aGo a q l=if al.testBit l then ((a.next.getD q []).getD (place al l) 0).toNat else q by unfold aGo;rw [o]);have c:a.next[q]?=fU a.next[q]:=dB hq;obtain⟨k,v⟩:=f q _ c;rw [o] at k;have i:=za c;have G:=za v;have F:=za k;have Y:=h.1.len;clear k v c o f h;generalize a.next[q]=row at *;cases hb:al.testBit l
 ·have r:=za hb;clear hb;rw [g.out];clear s t
  go_enter Tryz.func225,Tryz.ntmps225
  go_wp2_with (go_at_call 143;refine (zav al l n _ oM).mono ?_;rw [r.out];rintro e w' ⟨rfl,rfl⟩)
  go_ret;exact⟨zaa (by rw [Q.out,r.out];rfl),(cY _).alloc _⟩
 ·have Z:=za (place_lt hl hb);have r:=za hb;clear hb;rw [g.out];clear s t;have u:place al l<row.length:=by rw [F.out];exact Z.out
  obtain⟨x,M⟩:∃ x,Hid (row[place al l]?=fU x):=⟨_,dB u⟩;obtain⟨x0,x1⟩:=G.out x (dC M.out);obtain⟨y,rfl⟩:∃ y:Nat,x=y:=⟨x.toNat,oM⟩;have O:=za (show aGo a q l=y by rw [Q.out,r.out,if_pos rfl];simp only [dE,i.out,Option.getD_some,M.out];rfl)
  go_enter Tryz.func225,Tryz.ntmps225
  go_wp2_with (go_at_call 143;refine (zav al l n _ oM).mono ?_;rw [r.out];rintro e w' ⟨rfl,rfl⟩)
  generalize U0:w.alloc _=p at *;obtain⟨D,H⟩:=Ext.x1_ U0;clear U0;obtain⟨U,S,X,l',rfl,_,_,J,R,C⟩:=(T.out p D).row L;obtain rfl:row=l':=by have h1:=i.out;have h2:=J.out;rw [h1] at h2;exact j8 h2
  have j:∀ W,Ext p W->∃ b,S=fU b/\W.cell? (b.add (place al l))=fU (.int iX (y:Nat)):=fun W hW=>by
   obtain⟨b,z,e,_,_,hz,I⟩:=(C.ext hW).int u;have h1:=M.out;have h2:=hz.out;rw [h1] at h2;obtain rfl:=j8 h2;exact⟨b,e,I⟩
  obtain⟨b,rfl,_⟩:=j p (cY _);have c2:∀ W,Ext p W->W.cell? (b.add (place al l))=fU (.int iX (y:Nat)):=fun W hW=>by
   obtain⟨V,e,h⟩:=j W hW;injection e with e
   subst e;exact h
  have c1:∀ W,Ext p W->W.cell? (U.add q)=fU (fC (fU b) row.length X):=fun W hW=>hW.aa R;have c0:=H.cells;clear j R C;have aa:(place al l:Int)<(row.length:Int):=oM;have ab:=cY p;generalize hpp:place al l=pl at *;have E:=za hpp;clear hpp;go_wp2_with fail
  go_region_held3 (fun W=>Ext p W) (first|assumption|(refine fB ?_;assumption)|(refine eN ?_ aM;assumption)|(refine eN ?_ aM;refine fB ?_;assumption)) ((go_at_call 279;refine (spec_l1Place al l n oM _).mono ?_;rw [E.out];rintro e w' ⟨rfl,rfl⟩))
  go_wp2;go_ret;exact⟨zaa (by rw [O.out]),D.trans aM⟩
abbrev Lay (α:Type):=jX->Nat->Nat->j4->α->Prop
structure Lay.Ok {α:Type}(P:Lay α):Prop where
 frm:∀ {S:Nat->Prop} {W W':jX} {lo hi:Nat} {r:j4} {x:α},P W lo hi r x->Frm S W W'->(∀ k,lo<=k->k<hi->¬ S k)->P W' lo hi r x
 more:∀ {W:jX} {lo hi lo' hi':Nat} {r:j4} {x:α},P W lo hi r x->lo'<=lo->hi<=hi'->P W lo' hi' r x
def zbs:Lay Nat:=fun _ _ _ r n=>r=.int iX (n:Nat)
theorem zbs.ok:Lay.Ok zbs:=⟨fun h _ _=>h,fun h _ _=>h⟩
def Lst {α:Type}(P:Lay α) (W:jX) (lo hi:Nat) (A:Option Addr) (xs:List α):Prop:=
 ∃ rows,Reads W lo hi 1 A xs.length rows/\∀ (i:Nat) (r:j4) (x:α),rows[i]?=fU r->xs[i]?=fU x->P W lo hi r x
def LstP {α:Type}(P:Lay α):Lay (List α):=fun W lo hi r xs=>∃ A c,r=fC A xs.length c/\Lst P W lo hi A xs
section
variable {α:Type}{P:Lay α}{W W':jX}{lo hi:Nat}{A:Option Addr}{xs:List α}
theorem Lst.frm (hP:Lay.Ok P) (h:Lst P W lo hi A xs)(hx:Frm S W W')(hS:∀ k,lo<=k->k<hi->¬ S k):Lst P W' lo hi A xs:=by
 obtain⟨a,h1,h2⟩:=h;exact⟨a,h1.frm hx hS,fun i r x hr hx'=>hP.frm (h2 i r x hr hx') hx hS⟩
theorem Lst.ext (hP:Lay.Ok P)(h:Lst P W lo hi A xs)(hx:Ext W W'):Lst P W' lo hi A xs:=h.frm hP hx (fun _ _ _ h=>h)
theorem Lst.more (hP:Lay.Ok P) (h:Lst P W lo hi A xs)(h1:lo'<=lo)(h2:hi<=hi'):Lst P W lo' hi' A xs:=by
 obtain⟨a,b,c⟩:=h;exact⟨a,b.more h1 h2,fun i r x hr hx'=>hP.more (c i r x hr hx') h1 h2⟩
theorem LstP.ok (hP:Lay.Ok P):Lay.Ok (LstP P):=by
 refine⟨fun h hx hS=>?_,fun h h1 h2=>?_⟩
 ·obtain⟨A,c,e,h⟩:=h;exact⟨A,c,e,h.frm hP hx hS⟩
 ·obtain⟨A,c,e,h⟩:=h;exact⟨A,c,e,h.more hP h1 h2⟩
theorem Lst.len (h:Lst P W lo hi A xs):xs.length<=9223372036854775807:=by
 obtain⟨a,h1,_⟩:=h;exact h1.len
theorem Lst.get (h:Lst P W lo hi A xs)(hk:k<xs.length):∃ b o r x,A=fU ⟨b,o,fV⟩/\lo<=b/\b<hi/\Hid (xs[k]?=fU x)/\W.cell? ⟨b,o+k,fV⟩=fU r/\P W lo hi r x:=by
 obtain⟨a,h1,h2⟩:=h;have n:=h1.length;rw [Nat.mul_one] at n;obtain⟨f,e,l,m,g⟩:=h1.at_ hk;have d:a[0]?=fU (a[0]' oM):=dB _;have c:a[k]?=fU (a[k]' oM):=dB _;have j:=zdF (g 0 _ d);have i:=g k _ c;rw [j,zad] at i;exact⟨f.block,f.off,_,_,by rw [e,<- j],l,m,dB hk,i,h2 k _ _ c (dB hk)⟩
theorem Lst.get2 {x:α}(h:Lst P W lo hi (fU ⟨b,o,fV⟩) xs)(hx:xs[k]?=fU x):∃ r,W.cell? ⟨b,o+k,fV⟩=fU r/\P W lo hi r x:=by
 obtain⟨f,g,r,y,e,_,_,a,c,d⟩:=h.get (j9.1 hx).1;injection e with e
 injection e with e1 e2
 subst e1;subst e2;rw [hx] at a;have:=j8 a.out;subst this;exact⟨r,c,d⟩
end
theorem Lst.bf (h:Reads W lo hi 1 A xs.length (zag xs)):Lst zbs W lo hi A xs:=⟨zag xs,h,fun i r x hr hx=>by
 simp only [zag,List.getElem?_map,hx,Option.map_some] at hr
 exact (j8 hr).symm⟩
theorem Lst.ai (h:W.ownsRow base 3 1 (fC A xs.length c) xs.length (zag xs)):Lst zbs W base W.heap.size A xs:=Lst.bf (eE h)
theorem Lst.num (h:Lst zbs W lo hi A xs)(hk:k<xs.length):∃ b o x,A=fU ⟨b,o,fV⟩/\lo<=b/\b<hi/\Hid (xs[k]?=fU x)/\W.cell? ⟨b,o+k,fV⟩=fU (.int iX (x:Nat)):=by
 obtain⟨b,o,r,x,e,h1,h2,a,c,d⟩:=h.get hk;exact⟨b,o,x,e,h1,h2,a,by rw [c,d]⟩
theorem Lst.num2 (h:Lst zbs W lo hi (fU ⟨b,o,fV⟩) xs)(hx:xs[k]?=fU x):W.cell? ⟨b,o+k,fV⟩=fU (.int iX (x:Nat)):=by
 obtain⟨r,h1,h2⟩:=h.get2 hx;rw [h1,h2]
def Grl {α:Type}(P:Lay α) (W:jX) (base:Nat) (e:TypeId) (v:j4) (xs:List α):Prop:=
 ∃ rows:List j4,W.ownsRow base e 1 v xs.length rows/\∀ (i:Nat) (r:j4) (x:α),rows[i]?=fU r->xs[i]?=fU x->∃ lo hi,base<=lo/\hi<=W.heap.size/\P W lo hi r x/\∀ b,v.ownBlock=fU b->b<lo\/hi<=b
section
variable {α:Type}{P:Lay α}{W W':jX}{base:Nat}{e:TypeId}{v:j4}{xs:List α}
theorem Grl.form (h:Grl P W base e v xs):∃ A c,v=fC A xs.length c:=by
 obtain⟨a,h1,_⟩:=h;exact zh h1
theorem Grl.lst (hP:Lay.Ok P)  (h:Grl P W base e (fC A n c) xs):Lst P W base W.heap.size A xs:=by
 obtain⟨a,h1,h2⟩:=h;have j:n=xs.length:=by
  obtain⟨k,l,g⟩:=zh h1;injection g
 subst j;refine⟨a,eE h1,fun i r x hr hx=>?_⟩;obtain⟨o,m,b,d,f,_⟩:=h2 i r x hr hx;exact hP.more f b d
theorem Grl.push (hP:Lay.Ok P){v':j4}{x:α}(h2:∀ (i:Nat) (r:j4) (x:α),rows[i]?=fU r->xs[i]?=fU x->∃ lo hi,base<=lo/\hi<=W.heap.size/\P W lo hi r x/\∀ b,v.ownBlock=fU b->b<lo\/hi<=b)(h1:W.ownsRow base e 1 v xs.length rows)
  (hx:Ext W W1) (hr:P W1 lo hi r x) (hlo:W.heap.size<=lo) (hb:base<=lo) (hhi:hi<=W1.heap.size) (zkh:W'.ownsRow base e 1 v' (xs.length+1) (rows++[r])) (hg:W1.grownBy W' v.ownBlock) (hat:v'.ownBlock=v.ownBlock\/v'.ownBlock=fU (W1.heap.size+1)):Grl P W' base e v' (xs++[x]):=by
 have g:rows.length=xs.length:=by have:=zcE h1;omega
 have c:Frm (fun k=>v.ownBlock=fU k) W1 W':=Frm.ab hg;refine⟨rows++[r],by rw [dK,dU];exact zkh,fun i s y hs hy=>?_⟩;rcases e8 i rows.length with a | a | a
 ·rw [dI a] at hs;rw [dI oM] at hy;obtain⟨j,f,m,n,o,l⟩:=h2 i s y hs hy;refine⟨j,f,m,dL n (dL hx.size c.size),hP.frm (hP.frm o hx (fun _ _ _ h=>h)) c (fun k hk1 hk2 hk=>by have:=l k hk;omega),fun b hb'=>?_⟩;rcases hat with d|d
  ·rw [d] at hb';exact l b hb'
  ·rw [d] at hb';have:=j8 hb';have:=hx.size;omega
 ·rw [dT oM,a,fR] at hs;rw [dT oM,a,g,fR] at hy;simp at hs hy;subst hs;subst hy;refine⟨lo,hi,hb,dL hhi c.size,hP.frm hr c (fun k hk1 hk2 hk=>by have:=(h1.lt k hk).2;omega),fun b hb'=>?_⟩;rcases hat with d|d
  ·rw [d] at hb';have:=(h1.lt b hb').2;omega
  ·rw [d] at hb';have:=j8 hb';omega
 ·rw [dV (by simp;omega)] at hs;cases hs
theorem Grl.push2 (hP:Lay.Ok P){x:α}(h2:∀ (i:Nat) (r:j4) (x:α),rows[i]?=fU r->xs[i]?=fU x->∃ lo hi,base<=lo/\hi<=W.heap.size/\P W lo hi r x/\∀ b,v.ownBlock=fU b->b<lo\/hi<=b)(h1:W.ownsRow base e 1 v xs.length rows)
  (hx:Ext W W1) (hr:P W1 lo hi r x) (hlo:W.heap.size<=lo) (hb:base<=lo) (hhi:hi<=W1.heap.size) (zkh:W'.ownsRow base e 1 (fC (fU g) (xs.length+1) cap) (xs.length+1) (rows++[r])) (hg:W1.grownBy W' v.ownBlock) (hat:v.ownBlock=fU g\/g=W1.heap.size+1):Grl P W' base e (fC (fU g) (xs.length+1) cap) (xs++[x]):=
 Grl.push hP h2 h1 hx hr hlo hb hhi zkh hg (by
  rcases hat with h|h
  ·exact Or.inl h.symm
  ·exact Or.inr (by rw [h];rfl))
end
section
variable {P:Program}{ops:Array Oper}{Q:Exit->Act->jX->Prop}{md:Region.Mode}{S:Array Bool->jX->Prop}
def wpAnyL (P:Program) (md:Region.Mode) (ops:Array Oper) (Q:Exit->Act->jX->Prop) (S:Array Bool->jX->Prop):Nat->Array Bool->Act->jX->Prop
 |0,listed,a,w=>Region.ready md ops listed=[]/\Q .normal a w
 |fuel+1,listed,a,w =>
  (Region.ready md ops listed=[]->Q .normal a w) /\
  ∀ i∈Region.ready md ops listed,wpOp P ops Q i (fun a' w'=>S (listed.setIfInBounds i jU) w'/\wpAnyL P md ops Q S fuel (listed.setIfInBounds i jU) a' w') a w
theorem zgx:∀ (fuel:Nat) (listed:Array Bool) (a:Act) (w:jX),wpAnyL P md ops Q S fuel listed a w->wpAny P md ops Q fuel listed a w
 |0,_,_,_,h=>h
 |fuel+1,_,_,_,h=>⟨h.1,fun i hi=>wpOp_mono (fun a' w' h'=>zgx fuel _ a' w' h'.2) (h.2 i hi)⟩
theorem wpAnyL_first {oi:Oper}{Si:jX->Prop}{G:Array Bool->Prop}(hi:ops[i]?=fU oi)(hsel:∀ (j:Nat) (o:Oper) cs b,ops[j]?=fU o->o.op≠.select cs b)
  (hQ:∀ c a w,Q (.panic c) (a.put oi.dst v) w->Q (.panic c) a w)
  (hG:∀ listed j,j∈Region.ready md ops listed->G listed->G (listed.setIfInBounds j jU))
  (hSi:∀ listed w,G listed->listed.getD i jU=j1->S listed w->Si w)
  (hup:∀ listed w,S listed w->S (listed.setIfInBounds i jU) w) (hdn:∀ listed w,listed.getD i jU=j1->S (listed.setIfInBounds i jU) w->S listed w) :
  ∀ (fuel:Nat) (listed:Array Bool) (a:Act) (w:jX),G listed ->
   (∀ j oj,ops[j]?=fU oj->j≠i->listed.getD j jU=j1->(∀ e∈oj.after,Region.binds md e=jU->e.on≠i)->oi.apart ops oj=jU) ->
   i∈Region.ready md ops listed->YieldsIf P ops Si oi v a->S listed w ->
   wpAnyL P md ops Q S fuel (listed.setIfInBounds i jU) (a.put oi.dst v) w->wpAnyL P md ops Q S (fuel+1) listed a w:=by
 intro fuel
 induction fuel with
 |zero =>
  intro listed a w hg _ hr hy hS H;refine⟨fun h=>(by rw [h] at hr;cases hr),fun j hj=>?_⟩
  by_cases hji:j=i
  ·subst hji;exact hy.wpOp hi (hSi _ _ hg (mem_ready.1 hr).1 hS) ⟨hup _ _ hS,H⟩
  ·have:=ready_mono hj hji;rw [H.1] at this;cases this
 |succ fuel ih =>
  intro listed a w hg hfree hr hy hS H;refine⟨fun h=>(by rw [h] at hr;cases hr),fun j hj=>?_⟩
  by_cases hji:j=i
  ·subst hji;exact hy.wpOp hi (hSi _ _ hg (mem_ready.1 hr).1 hS) ⟨hup _ _ hS,H⟩
  ·have h1:=H.2 j (ready_mono hj hji);obtain⟨f,oj,g,l⟩:=mem_ready.1 hj;have n:∀ e∈oj.after,Region.binds md e=jU->e.on≠i:=fun e he hb heq=>by
    have h1:=l e he hb;have q:=(mem_ready.1 hr).1;rw [heq] at h1;rcases eR i listed.size with p | p
    ·simp [p] at q h1;rw [q] at h1;cases h1
    ·simp [Array.getElem?_eq_none p] at h1
   have h2:=wpOp_putIf g (hfree j oj g hji f n) (fun cs b=>hsel i oi cs b hi) (fun cs b=>hsel j oj cs b g) hQ hy h1;have d:∀ k ok,ops[k]?=fU ok->k≠i->(listed.setIfInBounds j jU).getD k jU=j1 ->
     (∀ e∈ok.after,Region.binds md e=jU->e.on≠i)->oi.apart ops ok=jU:=fun k ok hk hki hun hno=>by
    refine hfree k ok hk hki ?_ hno
    by_cases hjk:j=k
    ·subst hjk;exact f
    ·rw [getD_set_ne jU hjk] at hun;exact hun
   have m:(listed.setIfInBounds j jU).getD i jU=j1:=by
    rw [getD_set_ne jU hji];exact (mem_ready.1 hr).1
   refine wpOp_mono (fun a' w' h3=>?_) h2;have r:S (listed.setIfInBounds j jU) w':=hdn _ _ m (by rw [Array.setIfInBounds_comm _ _ hji];exact h3.2.1);refine⟨r,ih (listed.setIfInBounds j jU) a' w' (hG _ _ hj hg) d (ready_mono hr (Ne.symm hji)) h3.1 r ?_⟩;rw [Array.setIfInBounds_comm _ _ hji];exact h3.2.2
end
def Clo (l:List Oper) (listed:Array Bool):Prop:=∀ j,listed.getD j j1=jU->∀ o,l[j]?=fU o->∀ e∈o.after,Region.binds .any e=jU->listed.getD e.on j1=jU
def below (l:List Oper):Nat->Nat->Nat->Bool
 |0,_,_=>j1
 |f+1,t,i=>match l[t]? with
  |some o=>o.after.any fun e=>Region.binds .any e&&(e.on==i || below l f e.on i)
  |none=>j1
theorem zgn {l:List Oper}{listed:Array Bool}(hc:Clo l listed):∀ (f t i:Nat),below l f t i=jU->listed.getD t j1=jU->listed.getD i j1=jU
 |0,_,_,h,_=>by simp [below] at h
 |f+1,t,i,h,ht=>by
  unfold below at h
  cases ho:l[t]? with
  |none=>simp [ho] at h
  |some o =>
   simp only [ho] at h
   obtain⟨e,he,hb⟩:=Array.any_eq_true'.1 h
   simp only [dH,fM,beq_iff_eq] at hb
   have h1:=hc t ht o ho e he hb.1
   rcases hb.2 with h2|h2
   ·rw [<- h2];exact h1
   ·exact zgn hc f e.on i h2 h1
theorem zbu {l:List Oper}{listed:Array Bool}(hj:j∈Region.ready .any l.toArray listed)(h:Clo l listed):Clo l (listed.setIfInBounds j jU):=by
 intro k hk o ho e he hb
 by_cases hkj:j=k
 ·subst hkj;obtain⟨_,b,ho',a⟩:=mem_ready.1 hj;have:b=o:=by
   have h1:l[j]?=fU b:=by simpa using ho'
   rw [ho] at h1;exact (j8 h1).symm
  subst this;exact getD_set_true (a e he hb)
 ·rw [getD_set_ne j1 hkj] at hk;exact getD_set_true (h k hk o ho e he hb)
def pureOp:Op->Bool
 |.move _ | .assign _ | .pick _ _ _ | .binOp _ _ _ _ _ | .unOp _ _ _ | .fieldAddr _ _ _ | .field _ _ _ | .extract _ _ | .build _ _=>jU
 |_=>j1
inductive Ord where
 |nil:Ord
 |one:Nat->Ord->Ord
 |two:Nat->Ord->Nat->Ord->Ord
def Ord.of:List Nat->Ord
 |[]=>.nil
 |i :: r=>.one i (Ord.of r)
def Ord.app:List Nat->Ord->Ord
 |[],o=>o
 |i :: r,o=>.one i (Ord.app r o)
def zfh (l:List Oper) (T:List Nat):Ord->Array Bool->Bool
 |.nil,listed=>(Region.ready .any l.toArray listed).isEmpty
 |.one i rest,listed =>
  (match l[i]? with
   |some o=>if zct o.op then Region.free .any l.toArray listed i&&(Region.ready .any l.toArray listed).contains i&&!T.contains i&&(pureOp o.op || T.all fun t=>below l l.length t i)
    else Region.ready .any l.toArray listed==[i]
   |none=>j1)&&zfh l T rest (listed.setIfInBounds i jU)
 |.two i r j r',listed=>(i<l.length&&j<l.length&&Region.ready .any l.toArray listed==[i,j])&&(zfh l T r (listed.setIfInBounds i jU)&&zfh l T r' (listed.setIfInBounds j jU))
def zaX (P:Program) (l:List Oper) (T:List Nat) (Q:Exit->Act->jX->Prop) (S:jX->Prop):Ord->Act->jX->Prop
 |.nil,a,w=>Q .normal a w
 |.one i rest,a,w=>match l[i]? with
  |some o=>if zct o.op then ∃ v,YieldsIf P l.toArray (if pureOp o.op then fun _=>True else S) o v a/\zaX P l T Q S rest (a.put o.dst v) w
   else wpOp P l.toArray Q i (fun a' w'=>(T.contains i=j1->S w')/\zaX P l T Q S rest a' w') a w
  |none=>False
 |.two i r j r',a,w=>wpOp P l.toArray Q i (fun a' w'=>(T.contains i=j1->S w')/\zaX P l T Q S r a' w') a w/\wpOp P l.toArray Q j (fun a' w'=>(T.contains j=j1->S w')/\zaX P l T Q S r' a' w') a w
def Ord.len:Ord->Nat
 |.nil=>0
 |.one _ r=>r.len+1
 |.two _ r _ r'=>(if r.len=r'.len then r.len else 0)+1
def Ord.even:Ord->Bool
 |.nil=>jU
 |.one _ r=>r.even
 |.two _ r _ r'=>r.len==r'.len&&(r.even&&r'.even)
section
variable {P:Program}{l:List Oper}{Q:Exit->Act->jX->Prop}{S:jX->Prop}{T:List Nat}
def zdV (T:List Nat) (listed:Array Bool):Prop:=∃ t∈T,listed.getD t j1=jU
theorem zdQ (hs:Region.noSelect l.toArray=jU)(hQ:∀ (c:List PanicEntry) (a:Act) (d:Tmp) (v:j4) (w:jX),Q (.panic c) (a.put (fU d) v) w->Q (.panic c) a w) :
  ∀ (ord:Ord) (listed:Array Bool) (a:Act) (w:jX),listed.size=l.length->Clo l listed->ord.even=jU->zfh l T ord listed=jU->(zdV T listed\/S w)->zaX P l T Q S ord a w ->
   wpAnyL P .any l.toArray Q (fun listed w=>zdV T listed\/S w) ord.len listed a w
 |.nil,listed,a,w,_,_,_,hok,_,h=>by
  simp only [zfh,List.isEmpty_iff] at hok;exact⟨hok,h⟩
 |.one i rest,listed,a,w,hsz,hc,hev,hok,hS,h=>by
  cases ho:l[i]? with
  |none=>simp [zfh,ho] at hok
  |some o =>
   have hil:i<l.length:=(j9.1 ho).1;simp only [zfh,ho,dH] at hok;simp only [zaX,ho] at h
   by_cases hq:zct o.op=jU
   ·rw [if_pos hq] at hok h;simp only [dH] at hok;obtain⟨⟨⟨⟨hf,hrd⟩,hnT⟩,hpure⟩,hrest⟩:=hok;obtain⟨v,hy,hr⟩:=h;have hmem:i∈Region.ready .any l.toArray listed:=by simpa using hrd
    have u:i∉T:=by simpa using hnT
    have g:∀ listed:Array Bool,zdV T (listed.setIfInBounds i jU)↔zdV T listed:=fun listed=>by
     constructor
     ·rintro ⟨t,p,q⟩;refine⟨t,p,?_⟩;rwa [getD_set_ne j1 (by rintro rfl;exact u p)] at q
     ·rintro ⟨t,p,q⟩;exact⟨t,p,getD_set_true q⟩
    refine wpAnyL_first (G:=fun listed=>Clo l listed/\listed.size=l.length) (by simpa using ho) (Region.noSelect_spec hs)
     (fun c a w h=>by cases hd:o.dst with|none=>rw [hd] at h;exact h|some d=>rw [hd] at h;exact hQ c a d v w h)
     (fun li j m hg=>⟨zbu m hg.1,by simpa using hg.2⟩) ?_ (fun li w h=>h.imp (fun x=>(g li).2 x) id) (fun li w _ h=>h.imp (fun x=>(g li).1 x) id)
     rest.len listed a w ⟨hc,hsz⟩ (Region.free_spec (by simpa using ho) hf) hmem hy hS ?_
    ·intro li w' hg hun h
     by_cases hp:pureOp o.op=jU
     ·rw [if_pos hp];trivial
     ·rw [if_neg hp];rcases h with ⟨t,p,q⟩|h
      ·exfalso;simp only [hp,Bool.false_or] at hpure;have C:=List.all_eq_true.1 hpure t p;have h1:=zgn hg.1 _ _ _ C q;have h2:i<li.size:=by rw [hg.2];exact hil
       simp [h2] at hun h1;rw [h1] at hun;cases hun
      ·exact h
    ·exact zdQ hs hQ rest _ _ _ (by simpa using hsz) (zbu hmem hc) hev hrest (hS.imp (fun x=>(g _).2 x) id) hr
   ·rw [if_neg hq] at hok h;have b:Region.ready .any l.toArray listed=[i]:=by simpa using hok.1
    have hmem:i∈Region.ready .any l.toArray listed:=by rw [b];simp
    refine⟨fun h0=>(by rw [h0] at b;cases b),fun j m=>?_⟩;rw [b] at m;rw [List.mem_singleton.1 m];refine wpOp_mono (fun a' w' h=>?_) h;have f:zdV T (listed.setIfInBounds i jU)\/S w':=by
     cases hT:T.contains i
     ·exact Or.inr (h.1 hT)
     ·refine Or.inl ⟨i,by simpa using hT,?_⟩;have:i<listed.size:=oM;simp [this]
    exact⟨f,zdQ hs hQ rest _ _ _ (by simpa using hsz) (zbu hmem hc) hev hok.2 f h.2⟩
 |.two i r j r',listed,a,w,hsz,hc,hev,hok,hS,h=>by
  simp only [Ord.even,dH,beq_iff_eq] at hev;simp only [zfh,dH,decide_eq_true_eq,beq_iff_eq] at hok;simp only [zaX] at h;obtain⟨⟨⟨B,m⟩,b⟩,y,z⟩:=hok;have s:(Ord.two i r j r').len=r.len+1:=by simp [Ord.len,hev.1]
  rw [s];have D:∀ k,k∈Region.ready .any l.toArray listed↔k=i\/k=j:=fun k=>by rw [b];simp
  have f:∀ k w',k<l.length->(T.contains k=j1->S w')->zdV T (listed.setIfInBounds k jU)\/S w':=fun k w' hk hx=>by
   cases hT:T.contains k
   ·exact Or.inr (hx hT)
   ·refine Or.inl ⟨k,by simpa using hT,?_⟩;have:k<listed.size:=oM;simp [this]
  refine⟨fun h0=>(by rw [h0] at b;cases b),fun k hk=>?_⟩;rcases (D k).1 hk with n | n
  ·rw [n] at hk ⊢;refine wpOp_mono (fun a' w' h=>?_) h.1;exact⟨f _ _ B h.1,zdQ hs hQ r _ _ _ (by simpa using hsz) (zbu hk hc) hev.2.1 y (f _ _ B h.1) h.2⟩
  ·rw [n] at hk ⊢;refine wpOp_mono (fun a' w' h=>?_) h.2;have:=zdQ hs hQ r' _ _ _ (by simpa using hsz) (zbu hk hc) hev.2.2 z (f _ _ m h.1) h.2;rw [<- hev.1] at this;exact⟨f _ _ m h.1,this⟩
theorem clo_start (l:List Oper):Clo l (Array.replicate l.length j1):=by
 intro j hj;exfalso;rcases eR j l.length with h|h
 ·simp [h] at hj
 ·simp [Nat.not_lt.2 h] at hj
theorem ziA (S:jX->Prop) (T:List Nat) (ord:Ord)(hm:P.follows .mixedOrders=jU)(hlen:ord.len=l.length)(hev:ord.even=jU)(hs:Region.noSelect l.toArray=jU)(hok:zfh l T ord (Array.replicate l.length j1)=jU)
  (hQ:∀ (c:List PanicEntry) (a:Act) (d:Tmp) (v:j4) (w:jX),Q (.panic c) (a.put (fU d) v) w->Q (.panic c) a w) (hS:S w.drew) (h:zaX P l T Q S ord a w.drew):(Code.region id l.toArray jU).wp P Q a w:=by
 refine wp_region_any hm ?_;have:=zgx _ _ _ _ (zdQ hs hQ ord _ a w.drew sM (clo_start l) hev hok (Or.inr hS) h);rw [hlen] at this;simpa using this
theorem zap (h:Q .normal a w):zaX P l T Q S .nil a w:=h
theorem tseq_pure {rest:Ord}{o:Oper}(ho:l[i]?=fU o)(hq:zct o.op=jU) (_hp:pureOp o.op=jU)(hw:Region.wanted o (yielded l.toArray a.tmps)=jU)
  (hy:∀ W,(execOp a.eval o).run P W=.ok (.value v) W) (h:zaX P l T Q S rest (a.put o.dst v) w):zaX P l T Q S (.one i rest) a w:=by
 simp only [zaX,ho,hq,if_true];exact⟨v,.inl ⟨hw,fun W _=>hy W⟩,h⟩
theorem tseq_read {rest:Ord}{o:Oper}(ho:l[i]?=fU o)(hq:zct o.op=jU)(hp:pureOp o.op=j1)(hw:Region.wanted o (yielded l.toArray a.tmps)=jU)
  (hy:∀ W,S W->(execOp a.eval o).run P W=.ok (.value v) W) (h:zaX P l T Q S rest (a.put o.dst v) w):zaX P l T Q S (.one i rest) a w:=by
 simp only [zaX,ho,hq,hp,if_true];exact⟨v,.inl ⟨hw,hy⟩,h⟩
theorem yW02a2 {P:Prop}(h:P:=by
 split
 ·exact⟨undef,.inr ⟨hw,rfl⟩,h⟩
 ·unfold wpOp;simp only [List.getElem?_toArray,ho,hw,Bool.false_eq_true,if_false];exact⟨fun _=>hS,h⟩
 ):P:=h
theorem tseq_skip {rest:Ord}{o:Oper}(ho:l[i]?=fU o)(hw:Region.wanted o (yielded l.toArray a.tmps)=j1)
  (hS:S w) (h:zaX P l T Q S rest (a.put o.dst undef) w):zaX P l T Q S (.one i rest) a w:=by
 simp only [zaX,ho];exact yW02a2
theorem zD {rest:Ord}{o:Oper}  
  (h:∀ K:Act->World->Prop,Shut (∀ a w,S w->zaX P l T Q S rest a w->K a w)->o.wp P a w K Q) (ho:l[i]?=some o:=by rfl) (hq:zct o.op=false:=by rfl) (hw:Region.wanted o (yielded l.toArray a.tmps)=true:=by rfl):zaX P l T Q S (.one i rest) a w:=by
 simp only [zaX,ho,hq];unfold wpOp;simp only [eO,ho,hw,if_true];exact .inl (h _ fun a w hS hW=>⟨fun _=>hS,hW⟩)
theorem zR {rest:Ord}{o:Oper}  
  (h:∀ K:Act->World->Prop,Shut (∀ a w,zaX P l T Q S rest a w->K a w)->o.wp P a w K Q) (ho:l[i]?=some o:=by rfl) (hq:zct o.op=false:=by rfl) (hT:T.contains i=true:=by rfl) (hw:Region.wanted o (yielded l.toArray a.tmps)=true:=by rfl):zaX P l T Q S (.one i rest) a w:=by
 simp only [zaX,ho,hq];unfold wpOp;simp only [eO,ho,hw,if_true];exact .inl (h _ fun a w hW=>⟨fun hn=>absurd (hn.symm.trans hT) dM,hW⟩)
end
section
variable {P:Program}{l:List Oper}{Q:Exit->Act->jX->Prop}{S:jX->Prop}{T:List Nat}
theorem yW02a1 {P:Prop}(h:P:=by
 constructor
 ·unfold wpOp;simp only [List.getElem?_toArray,ho,hw,if_true];exact .inl (h1 _ fun a w hS hW=>⟨fun _=>hS,hW⟩)
 ·unfold wpOp;simp only [List.getElem?_toArray,ho',hw',if_true];exact .inl (h2 _ fun a w hS hW=>⟨fun _=>hS,hW⟩)
 ):P:=h
theorem zgi {j:Nat}{r r':Ord}{o o':Oper}  
  (h1:∀ K:Act->World->Prop,Shut (∀ a w,S w->zaX P l T Q S r a w->K a w)->o.wp P a w K Q) (h2:∀ K:Act->World->Prop,Shut (∀ a w,S w->zaX P l T Q S r' a w->K a w)->o'.wp P a w K Q) (ho:l[i]?=some o:=by rfl) (ho':l[j]?=some o':=by rfl) (hw:Region.wanted o (yielded l.toArray a.tmps)=true:=by rfl) (hw':Region.wanted o' (yielded l.toArray a.tmps)=true:=by rfl):zaX P l T Q S (.two i r j r') a w:=by
 exact yW02a1
end
theorem zaC {P:Program}(wb w:jX){o:Oper}{K:Act->jX->Prop}{Q:Exit->Act->jX->Prop}(s x:Operand) (t:TypeId)
  (ho:o.op=.call { callee:=.builtin .append,args:=#[s,x],argTypes:=#[t,t] })
  (e:TypeId) (z:j4) (size bytes:Nat) (ht:P.underlying t=fU (.slice e)) (hi:(P.info? e).map (fun i=>(i.zero,i.size,i.bytes))=fU (fU z,size,bytes)) (hzs:z.cells.size=size) (hsz:0<size)
  (v:j4) (n:Nat) (xs:List j4) (us:Array j4) (e':TypeId) (hs:a.eval s=v) (hx:a.eval x=fC (fU w.heap.size) 1 1)
  (zkj:wb.heap.size<=w.heap.size) (zkh:w.ownsRow wb.heap.size e size v n xs) (hus:us.size=size) (h1:∀ u∈us.toList,u.oneCell'=jU)
  (h63:n+1<=maxLen) (hbytes:(n+1)*bytes<=140737488355328)
  (h:∀ g cap w',w'.ownsRow wb.heap.size e size (fC (fU ⟨g,0,fV⟩) (n+1) cap) (n+1) (xs++us.toList)->w.grownBy w' v.ownBlock->(v.ownBlock=fU g\/g=w.heap.size+1)->g<w'.heap.size->K (a.put o.dst (fC (fU ⟨g,0,fV⟩) (n+1) cap)) w') :
  o.wp P a (w.alloc (.cells us e')) K Q:=by
 obtain⟨i,c,d,f,l⟩:=info_parts hi;refine wp_append_lies (w.alloc (.cells us e')) s x t ho wb.heap.size e i z size bytes ht c d f l hzs hsz v n xs hs (zkh.alloc _) ⟨w.heap.size,0,fV⟩ 1 1 us.toList hx (by simpa using hus) ?_ h1 oM h63 hbytes (by simp;omega) (w.heap.size+1) sM ?_
 ·intro j u hu;rw [zad,dW,(Blk.new w e' us).cell];simpa using hu
 ·intro g cap w' hown' hg hat hlt;have b:w.grownBy w' v.ownBlock:=⟨hg.os,hg.tape,hg.output,dL sM hg.size,fun k hk hne=>(hg.block k (by simp;omega) hne).trans (Below.heap_alloc w _ k hk)⟩;exact h g cap w' hown' b hat hlt
theorem zI {P:Program}(wb w:jX){ops:Array Oper}{rest:List Oper}{o:Oper}{Q:Exit->Act->jX->Prop}(hgd:o.guard=fV) (s x:Operand) (t:TypeId)
  (ho:o.op=.call { callee:=.builtin .append,args:=#[s,x],argTypes:=#[t,t] })
  (e:TypeId) (z:j4) (size bytes:Nat) (ht:P.underlying t=fU (.slice e)) (hi:(P.info? e).map (fun i=>(i.zero,i.size,i.bytes))=fU (fU z,size,bytes)) (hzs:z.cells.size=size) (hsz:0<size)
  (v:j4) (n:Nat) (xs:List j4) (us:Array j4) (e':TypeId) (hs:a.eval s=v) (hx:a.eval x=fC (fU w.heap.size) 1 1)
  (zkj:wb.heap.size<=w.heap.size) (zkh:w.ownsRow wb.heap.size e size v n xs) (hus:us.size=size) (h1:∀ u∈us.toList,u.oneCell'=jU)
  (h63:n+1<=maxLen) (hbytes:(n+1)*bytes<=140737488355328)
  (h:∀ g cap w',w'.ownsRow wb.heap.size e size (fC (fU ⟨g,0,fV⟩) (n+1) cap) (n+1) (xs++us.toList)->w.grownBy w' v.ownBlock->(v.ownBlock=fU g\/g=w.heap.size+1)->g<w'.heap.size->wpList P ops Q rest (a.put o.dst (fC (fU ⟨g,0,fV⟩) (n+1) cap)) w') :
  wpList P ops Q (o :: rest) a (w.alloc (.cells us e')):=
 wpList_plain hgd fun _ hK=>zaC wb w s x t ho e z size bytes ht hi hzs hsz v n xs us e' hs hx zkj zkh hus h1 h63 hbytes fun g cap w' h2 h3 h4 h5=>hK _ _ (h g cap w' h2 h3 h4 h5)
theorem tQ {A B:Prop}(h:B) (k:Bx B->A:=by
 intro h0
 repeat (first|(refine tseq_skip rfl rfl aM ?_;simp only [Act.put,List.setIfInBounds_toArray,List.set_cons_zero,List.set_cons_succ])|(refine tseq_pure (v:=?_) rfl rfl rfl rfl (fun X=>?_) ?_;rotate_left;(focus (go_simp<;>with_reducible rfl));simp only [Act.put,List.setIfInBounds_toArray,List.set_cons_zero,List.set_cons_succ])|(refine tseq_read (v:=?_) rfl rfl rfl rfl (fun X hX=>?_) ?_;rotate_left;(focus (go_simp<;>with_reducible rfl));simp only [Act.put,List.setIfInBounds_toArray,List.set_cons_zero,List.set_cons_succ]))
 exact h0.out):A:=k ⟨h⟩
theorem tR {P:Program}{l:List Oper}{Q:Exit->Act->World->Prop}{id:Nat}(S:World->Prop) (T:List Nat) (ord:Ord)(h:zaX P l T Q S ord a w.drew)(hm:P.follows .mixedOrders=true:=by kernel_rfl)(hlen:ord.len=l.length:=by rfl)(hev:ord.even=true:=by kernel_rfl)(hs:Region.noSelect l.toArray=true:=by kernel_rfl)(hok:zfh l T ord (Array.replicate l.length false)=true:=by kernel_rfl)
  (hQ:∀ (c:List PanicEntry) (a:Act) (d:Tmp) (v:Value) (w:World),Q (.panic c) (a.put (some d) v) w->Q (.panic c) a w:=by exact fun _ _ _ _ _ h=>h) (hS:S w.drew:=by first|assumption|exact (cY _).drew|exact (Dr.refl _ _).drew|(refine fB ?_;assumption)):(Code.region id l.toArray true).wp P Q a w:=
 ziA S T ord hm hlen hev hs hok hQ hS h
def zgt:Op->Bool
 |.makeFunc _ _ _ | .move _ | .assign _ | .pick _ _ _ | .binOp _ _ _ _ _ | .unOp _ _ _ | .fieldAddr _ _ _ | .field _ _ _ | .extract _ _ | .build _ _=>jU
 |_=>j1
def zds:Op->Bool
 |.makeFunc _ _ _=>jU
 |o=>zct o
inductive zy where
 |nil:zy
 |one:Nat->zy->zy
 |two:Nat->zy->Nat->zy->zy
 |three:Nat->zy->Nat->zy->Nat->zy->zy
def zy.of:List Nat->zy
 |[]=>.nil
 |i :: r=>.one i (zy.of r)
def zy.app:List Nat->zy->zy
 |[],o=>o
 |i :: r,o=>.one i (zy.app r o)
def zdn (l:List Oper) (T:List Nat):zy->Array Bool->Bool
 |.nil,listed=>(Region.ready .any l.toArray listed).isEmpty
 |.one i rest,listed =>
  (match l[i]? with
   |some o=>if zds o.op then Region.free .any l.toArray listed i&&(Region.ready .any l.toArray listed).contains i&&!T.contains i&&(zgt o.op || T.all fun t=>below l l.length t i)
    else Region.ready .any l.toArray listed==[i]
   |none=>j1)&&zdn l T rest (listed.setIfInBounds i jU)
 |.two i r j r',listed=>(i<l.length&&j<l.length&&Region.ready .any l.toArray listed==[i,j])&&(zdn l T r (listed.setIfInBounds i jU)&&zdn l T r' (listed.setIfInBounds j jU))
 |.three i r j r' k r'',listed=>(i<l.length&&j<l.length&&k<l.length&&Region.ready .any l.toArray listed==[i,j,k])&&(zdn l T r (listed.setIfInBounds i jU)&&zdn l T r' (listed.setIfInBounds j jU)&&zdn l T r'' (listed.setIfInBounds k jU))
def zay (P:Program) (l:List Oper) (T:List Nat) (Q:Exit->Act->jX->Prop) (S:jX->Prop):zy->Act->jX->Prop
 |.nil,a,w=>Q .normal a w
 |.one i rest,a,w=>match l[i]? with
  |some o=>if zds o.op then ∃ v,YieldsIf P l.toArray (if zgt o.op then fun _=>True else S) o v a/\zay P l T Q S rest (a.put o.dst v) w
   else wpOp P l.toArray Q i (fun a' w'=>(T.contains i=j1->S w')/\zay P l T Q S rest a' w') a w
  |none=>False
 |.two i r j r',a,w=>wpOp P l.toArray Q i (fun a' w'=>(T.contains i=j1->S w')/\zay P l T Q S r a' w') a w/\wpOp P l.toArray Q j (fun a' w'=>(T.contains j=j1->S w')/\zay P l T Q S r' a' w') a w
 |.three i r j r' k r'',a,w=>wpOp P l.toArray Q i (fun a' w'=>(T.contains i=j1->S w')/\zay P l T Q S r a' w') a w/\wpOp P l.toArray Q j (fun a' w'=>(T.contains j=j1->S w')/\zay P l T Q S r' a' w') a w/\wpOp P l.toArray Q k (fun a' w'=>(T.contains k=j1->S w')/\zay P l T Q S r'' a' w') a w
def zy.len:zy->Nat
 |.nil=>0
 |.one _ r=>r.len+1
 |.two _ r _ _=>r.len+1
 |.three _ r _ _ _ _=>r.len+1
def zy.even:zy->Bool
 |.nil=>jU
 |.one _ r=>r.even
 |.two _ r _ r'=>r.len==r'.len&&(r.even&&r'.even)
 |.three _ r _ r' _ r''=>(r.len==r'.len&&r.len==r''.len)&&(r.even&&r'.even&&r''.even)
section
variable {P:Program}{l:List Oper}{Q:Exit->Act->jX->Prop}{S:jX->Prop}{T:List Nat}
theorem zbY (hs:Region.noSelect l.toArray=jU)(hQ:∀ (c:List PanicEntry) (a:Act) (d:Tmp) (v:j4) (w:jX),Q (.panic c) (a.put (fU d) v) w->Q (.panic c) a w) :
  ∀ (ord:zy) (listed:Array Bool) (a:Act) (w:jX),listed.size=l.length->Clo l listed->ord.even=jU->zdn l T ord listed=jU->(zdV T listed\/S w)->zay P l T Q S ord a w ->
   wpAnyL P .any l.toArray Q (fun listed w=>zdV T listed\/S w) ord.len listed a w
 |.nil,listed,a,w,_,_,_,hok,_,h=>by
  simp only [zdn,List.isEmpty_iff] at hok;exact⟨hok,h⟩
 |.one i rest,listed,a,w,hsz,hc,hev,hok,hS,h=>by
  cases ho:l[i]? with
  |none=>simp [zdn,ho] at hok
  |some o =>
   have hil:i<l.length:=(j9.1 ho).1;simp only [zdn,ho,dH] at hok;simp only [zay,ho] at h
   by_cases hq:zds o.op=jU
   ·rw [if_pos hq] at hok h;simp only [dH] at hok;obtain⟨⟨⟨⟨hf,hrd⟩,hnT⟩,hpure⟩,hrest⟩:=hok;obtain⟨v,hy,hr⟩:=h;have hmem:i∈Region.ready .any l.toArray listed:=by simpa using hrd
    have D:i∉T:=by simpa using hnT
    have p:∀ listed:Array Bool,zdV T (listed.setIfInBounds i jU)↔zdV T listed:=fun listed=>by
     constructor
     ·rintro ⟨t,z,C⟩;refine⟨t,z,?_⟩;rwa [getD_set_ne j1 (by rintro rfl;exact D z)] at C
     ·rintro ⟨t,z,C⟩;exact⟨t,z,getD_set_true C⟩
    refine wpAnyL_first (G:=fun listed=>Clo l listed/\listed.size=l.length) (by simpa using ho) (Region.noSelect_spec hs)
     (fun c a w h=>by cases hd:o.dst with|none=>rw [hd] at h;exact h|some d=>rw [hd] at h;exact hQ c a d v w h)
     (fun li j s hg=>⟨zbu s hg.1,by simpa using hg.2⟩) ?_ (fun li w h=>h.imp (fun x=>(p li).2 x) id) (fun li w _ h=>h.imp (fun x=>(p li).1 x) id)
     rest.len listed a w ⟨hc,hsz⟩ (Region.free_spec (by simpa using ho) hf) hmem hy hS ?_
    ·intro li w' hg hun h
     by_cases hp:zgt o.op=jU
     ·rw [if_pos hp];trivial
     ·rw [if_neg hp];rcases h with ⟨t,z,C⟩|h
      ·exfalso;simp only [hp,Bool.false_or] at hpure;have J:=List.all_eq_true.1 hpure t z;have h1:=zgn hg.1 _ _ _ J C;have h2:i<li.size:=by rw [hg.2];exact hil
       simp [h2] at hun h1;rw [h1] at hun;cases hun
      ·exact h
    ·exact zbY hs hQ rest _ _ _ (by simpa using hsz) (zbu hmem hc) hev hrest (hS.imp (fun x=>(p _).2 x) id) hr
   ·rw [if_neg hq] at hok h;have b:Region.ready .any l.toArray listed=[i]:=by simpa using hok.1
    have hmem:i∈Region.ready .any l.toArray listed:=by rw [b];simp
    refine⟨fun h0=>(by rw [h0] at b;cases b),fun j s=>?_⟩;rw [b] at s;rw [List.mem_singleton.1 s];refine wpOp_mono (fun a' w' h=>?_) h;have f:zdV T (listed.setIfInBounds i jU)\/S w':=by
     cases hT:T.contains i
     ·exact Or.inr (h.1 hT)
     ·refine Or.inl ⟨i,by simpa using hT,?_⟩;have:i<listed.size:=oM;simp [this]
    exact⟨f,zbY hs hQ rest _ _ _ (by simpa using hsz) (zbu hmem hc) hev hok.2 f h.2⟩
 |.two i r j r',listed,a,w,hsz,hc,hev,hok,hS,h=>by
  simp only [zy.even,dH,beq_iff_eq] at hev;simp only [zdn,dH,decide_eq_true_eq,beq_iff_eq] at hok;simp only [zay] at h;obtain⟨⟨⟨B,s⟩,b⟩,m,n⟩:=hok;have g:(zy.two i r j r').len=r.len+1:=rfl;rw [g];have F:∀ k,k∈Region.ready .any l.toArray listed↔k=i\/k=j:=fun k=>by rw [b];simp
  have f:∀ k w',k<l.length->(T.contains k=j1->S w')->zdV T (listed.setIfInBounds k jU)\/S w':=fun k w' u hx=>by
   cases hT:T.contains k
   ·exact Or.inr (hx hT)
   ·refine Or.inl ⟨k,by simpa using hT,?_⟩;have:k<listed.size:=oM;simp [this]
  refine⟨fun h0=>(by rw [h0] at b;cases b),fun k u=>?_⟩;rcases (F k).1 u with y | y
  ·rw [y] at u ⊢;refine wpOp_mono (fun a' w' h=>?_) h.1;exact⟨f _ _ B h.1,zbY hs hQ r _ _ _ (by simpa using hsz) (zbu u hc) hev.2.1 m (f _ _ B h.1) h.2⟩
  ·rw [y] at u ⊢;refine wpOp_mono (fun a' w' h=>?_) h.2;have:=zbY hs hQ r' _ _ _ (by simpa using hsz) (zbu u hc) hev.2.2 n (f _ _ s h.1) h.2;rw [<- hev.1] at this;exact⟨f _ _ s h.1,this⟩
 |.three i r j r' k r'',listed,a,w,hsz,hc,hev,hok,hS,h=>by
  simp only [zy.even,dH,beq_iff_eq] at hev;simp only [zdn,dH,decide_eq_true_eq,beq_iff_eq] at hok;simp only [zay] at h;obtain⟨⟨⟨⟨B,s⟩,u⟩,b⟩,⟨m,n⟩,E⟩:=hok;obtain⟨⟨H,I⟩,⟨L,M⟩,O⟩:=hev;have g:(zy.three i r j r' k r'').len=r.len+1:=rfl;rw [g];have F:∀ x,x∈Region.ready .any l.toArray listed↔x=i\/x=j\/x=k:=fun x=>by rw [b];simp
  have f:∀ k w',k<l.length->(T.contains k=j1->S w')->zdV T (listed.setIfInBounds k jU)\/S w':=fun k w' u hx=>by
   cases hT:T.contains k
   ·exact Or.inr (hx hT)
   ·refine Or.inl ⟨k,by simpa using hT,?_⟩;have:k<listed.size:=oM;simp [this]
  refine⟨fun h0=>(by rw [h0] at b;cases b),fun x hx=>?_⟩;rcases (F x).1 hx with q | q | q
  ·rw [q] at hx ⊢;refine wpOp_mono (fun a' w' h=>?_) h.1;exact⟨f _ _ B h.1,zbY hs hQ r _ _ _ (by simpa using hsz) (zbu hx hc) L m (f _ _ B h.1) h.2⟩
  ·rw [q] at hx ⊢;refine wpOp_mono (fun a' w' h=>?_) h.2.1;have:=zbY hs hQ r' _ _ _ (by simpa using hsz) (zbu hx hc) M n (f _ _ s h.1) h.2;rw [<- H] at this;exact⟨f _ _ s h.1,this⟩
  ·rw [q] at hx ⊢;refine wpOp_mono (fun a' w' h=>?_) h.2.2;have:=zbY hs hQ r'' _ _ _ (by simpa using hsz) (zbu hx hc) O E (f _ _ u h.1) h.2;rw [<- I] at this;exact⟨f _ _ u h.1,this⟩
theorem zbr (S:jX->Prop) (T:List Nat) (ord:zy)(hm:P.follows .mixedOrders=jU)(hlen:ord.len=l.length)(hev:ord.even=jU)(hs:Region.noSelect l.toArray=jU)(hok:zdn l T ord (Array.replicate l.length j1)=jU)
  (hQ:∀ (c:List PanicEntry) (a:Act) (d:Tmp) (v:j4) (w:jX),Q (.panic c) (a.put (fU d) v) w->Q (.panic c) a w) (hS:S w.drew) (h:zay P l T Q S ord a w.drew):(Code.region id l.toArray jU).wp P Q a w:=by
 refine wp_region_any hm ?_;have:=zgx _ _ _ _ (zbY hs hQ ord _ a w.drew sM (clo_start l) hev hok (Or.inr hS) h);rw [hlen] at this;simpa using this
theorem zg (h:Q .normal a w):zay P l T Q S .nil a w:=h
theorem useq_pure {rest:zy}{o:Oper}(ho:l[i]?=fU o)(hq:zds o.op=jU) (_hp:zgt o.op=jU)(hw:Region.wanted o (yielded l.toArray a.tmps)=jU)
  (hy:∀ W,(execOp a.eval o).run P W=.ok (.value v) W) (h:zay P l T Q S rest (a.put o.dst v) w):zay P l T Q S (.one i rest) a w:=by
 simp only [zay,ho,hq,if_true];exact⟨v,.inl ⟨hw,fun W _=>hy W⟩,h⟩
theorem zbI {rest:zy}{o:Oper}(ho:l[i]?=fU o)(hq:zds o.op=jU)(hp:zgt o.op=j1)(hw:Region.wanted o (yielded l.toArray a.tmps)=jU)
  (hy:∀ W,S W->(execOp a.eval o).run P W=.ok (.value v) W) (h:zay P l T Q S rest (a.put o.dst v) w):zay P l T Q S (.one i rest) a w:=by
 simp only [zay,ho,hq,hp,if_true];exact⟨v,.inl ⟨hw,hy⟩,h⟩
theorem useq_skip {rest:zy}{o:Oper}(ho:l[i]?=fU o)(hw:Region.wanted o (yielded l.toArray a.tmps)=j1)
  (hS:S w) (h:zay P l T Q S rest (a.put o.dst undef) w):zay P l T Q S (.one i rest) a w:=by
 simp only [zay,ho];exact yW02a2
theorem ze {rest:zy}{o:Oper}  
  (h:∀ K:Act->World->Prop,Shut (∀ a w,S w->zay P l T Q S rest a w->K a w)->o.wp P a w K Q) (ho:l[i]?=some o:=by rfl) (hq:zds o.op=false:=by rfl) (hw:Region.wanted o (yielded l.toArray a.tmps)=true:=by rfl):zay P l T Q S (.one i rest) a w:=by
 simp only [zay,ho,hq];unfold wpOp;simp only [eO,ho,hw,if_true];exact .inl (h _ fun a w hS hW=>⟨fun _=>hS,hW⟩)
theorem zb {rest:zy}{o:Oper}  
  (h:∀ K:Act->World->Prop,Shut (∀ a w,zay P l T Q S rest a w->K a w)->o.wp P a w K Q) (ho:l[i]?=some o:=by rfl) (hq:zds o.op=false:=by rfl) (hT:T.contains i=true:=by rfl) (hw:Region.wanted o (yielded l.toArray a.tmps)=true:=by rfl):zay P l T Q S (.one i rest) a w:=by
 simp only [zay,ho,hq];unfold wpOp;simp only [eO,ho,hw,if_true];exact .inl (h _ fun a w hW=>⟨fun hn=>absurd (hn.symm.trans hT) dM,hW⟩)
end
section
variable {P:Program}{l:List Oper}{Q:Exit->Act->jX->Prop}{S:jX->Prop}{T:List Nat}
theorem zn {j:Nat}{r r':zy}{o o':Oper}  
  (h1:∀ K:Act->World->Prop,Shut (∀ a w,S w->zay P l T Q S r a w->K a w)->o.wp P a w K Q) (h2:∀ K:Act->World->Prop,Shut (∀ a w,S w->zay P l T Q S r' a w->K a w)->o'.wp P a w K Q) (ho:l[i]?=some o:=by rfl) (ho':l[j]?=some o':=by rfl) (hw:Region.wanted o (yielded l.toArray a.tmps)=true:=by rfl) (hw':Region.wanted o' (yielded l.toArray a.tmps)=true:=by rfl):zay P l T Q S (.two i r j r') a w:=by
 exact yW02a1
theorem zaQ {j k:Nat}{r r' r'':zy}{o o' o'':Oper}  
  (h1:∀ K:Act->World->Prop,Shut (∀ a w,S w->zay P l T Q S r a w->K a w)->o.wp P a w K Q) (h2:∀ K:Act->World->Prop,Shut (∀ a w,S w->zay P l T Q S r' a w->K a w)->o'.wp P a w K Q) (h3:∀ K:Act->World->Prop,Shut (∀ a w,S w->zay P l T Q S r'' a w->K a w)->o''.wp P a w K Q) (ho:l[i]?=some o:=by rfl) (ho':l[j]?=some o':=by rfl) (ho'':l[k]?=some o'':=by rfl) (hw:Region.wanted o (yielded l.toArray a.tmps)=true:=by rfl) (hw':Region.wanted o' (yielded l.toArray a.tmps)=true:=by rfl) (hw'':Region.wanted o'' (yielded l.toArray a.tmps)=true:=by rfl):zay P l T Q S (.three i r j r' k r'') a w:=by
 refine⟨?_,?_,?_⟩
 ·unfold wpOp;simp only [eO,ho,hw,if_true];exact .inl (h1 _ fun a w hS hW=>⟨fun _=>hS,hW⟩)
 ·unfold wpOp;simp only [eO,ho',hw',if_true];exact .inl (h2 _ fun a w hS hW=>⟨fun _=>hS,hW⟩)
 ·unfold wpOp;simp only [eO,ho'',hw'',if_true];exact .inl (h3 _ fun a w hS hW=>⟨fun _=>hS,hW⟩)
end
theorem uQ {A B:Prop}(h:B) (k:Bx B->A:=by
 intro h0
 repeat (first|(refine useq_skip rfl rfl aM ?_;simp only [Act.put,List.setIfInBounds_toArray,List.set_cons_zero,List.set_cons_succ])|(refine useq_pure (v:=?_) rfl rfl rfl rfl (fun X=>?_) ?_;rotate_left;(focus (go_simp<;>with_reducible rfl));simp only [Act.put,List.setIfInBounds_toArray,List.set_cons_zero,List.set_cons_succ])|(refine zbI (v:=?_) rfl rfl rfl rfl (fun X hX=>?_) ?_;rotate_left;(focus (go_simp<;>with_reducible rfl));simp only [Act.put,List.setIfInBounds_toArray,List.set_cons_zero,List.set_cons_succ]))
 exact h0.out):A:=k ⟨h⟩
theorem uR {P:Program}{l:List Oper}{Q:Exit->Act->World->Prop}{id:Nat}(S:World->Prop) (T:List Nat) (ord:zy)(h:zay P l T Q S ord a w.drew)(hm:P.follows .mixedOrders=true:=by kernel_rfl)(hlen:ord.len=l.length:=by kernel_rfl)(hev:ord.even=true:=by kernel_rfl)(hs:Region.noSelect l.toArray=true:=by kernel_rfl)(hok:zdn l T ord (Array.replicate l.length false)=true:=by kernel_rfl)
  (hQ:∀ (c:List PanicEntry) (a:Act) (d:Tmp) (v:Value) (w:World),Q (.panic c) (a.put (some d) v) w->Q (.panic c) a w:=by exact fun _ _ _ _ _ h=>h) (hS:S w.drew:=by first|assumption|exact (cY _).drew|(refine fB ?_;assumption)):(Code.region id l.toArray true).wp P Q a w:=
 zbr S T ord hm hlen hev hs hok hQ hS h
theorem info_pmov:(j3.info? 147).map (fun i=>(i.zero,i.size,i.bytes))=fU (fU (.pointer fV),1,8):=kM
def ptrs (bs:List Nat):List j4:=bs.map fun b=>.pointer (fU ⟨b,0,fV⟩)
def MovL (w:jX) (bs:List Nat) (ss:List Sys):Prop:=bs.length=ss.length/\∀ (i b:Nat) (s:Sys),bs[i]?=fU b->ss[i]?=fU s->MovB w b s.edges
theorem MovL.ext (h:MovL w bs ss)(hx:Ext w w'):MovL w' bs ss:=⟨h.1,fun i b s hb hs=>(h.2 i b s hb hs).ext hx⟩
theorem MovL.snoc (h:MovL w bs ss)(hx:Ext w w')(hb:MovB w' b s.edges):MovL w' (bs++[b]) (ss++[s]):=by
 have c:=h.1;refine⟨by simp [c],fun i b' s' hb' hs'=>?_⟩;rcases e8 i bs.length with a|a|a
 ·rw [dI a] at hb';rw [dI oM] at hs';exact (h.2 i b' s' hb' hs').ext hx
 ·rw [dT oM,a,fR] at hb';rw [dT oM,a,c,fR] at hs';simp at hb' hs';subst hb';subst hs';exact hb
 ·rw [dV (by simp;omega)] at hb';cases hb'
theorem MovL.frm (h:MovL w bs ss)(hx:Frm S w w')(hS:∀ (b:Nat) (cs:Array j4),Blk w b 249 cs->¬ S b):MovL w' bs ss:=
 ⟨h.1,fun i b s hb hs=>by
  obtain⟨cs,hB,hc⟩:=h.2 i b s hb hs
  exact⟨cs,hB.frm hx (hS b cs hB),hc⟩⟩
structure PtAt (w:jX) (lo hi:Nat) (A:Option Addr) (k lo' hi':Nat) (M:Option Addr) (ss:List Sys):Prop where
 sys:zhl w lo hi A k ss
 mov:∃ bs,Reads w lo' hi' 1 M k (ptrs bs)/\MovL w bs ss
theorem PtAt.ext {M:Option Addr}(h:PtAt w lo hi A k lo' hi' M ss)(hx:Ext w w'):PtAt w' lo hi A k lo' hi' M ss:=by
 obtain⟨a,c,b⟩:=h.mov;exact⟨h.sys.ext hx,a,c.ext hx,b.ext hx⟩
structure Grp (w0 W:jX) (G:Nat) (a v:j4) (bs:List Nat) (ss:List Sys):Prop where
 blk:Blk W G 108 #[a,v]
 own:W.ownsRow w0.heap.size 147 1 v bs.length (ptrs bs)
 mov:MovL W bs ss
 ext:Ext w0 W
 hG:w0.heap.size<=G
theorem Grp.aw {a:j4}(h:Grp w0 W G a v bs ss)(hb:Ext W W'):Grp w0 W' G a v bs ss:=⟨h.blk.ext hb,zi h.own hb,h.mov.ext hb,h.ext.trans hb,h.hG⟩
theorem zL {xs:List j4}(h:w.ownsRow base e size v n xs)(hB:Blk w G t cs)(hne:e≠t) (hv:v.ownBlock=fU b):b≠G:=by
 rintro rfl;rcases h.2 with ⟨rfl,_⟩|⟨g,a,c,rfl,_,f,_⟩
 ·simp [Value.ownBlock] at hv
 ·have d:g=b:=by simpa [Value.ownBlock] using hv
  subst d;unfold Blk at hB;rw [f] at hB;injection hB with hB
  injection hB with _ ht
  exact absurd ht hne
theorem Grp.push {a:j4}(h:Grp w0 W G a v bs ss)(hb:MovB W b s.edges)
  (zkh:W'.ownsRow w0.heap.size 147 1 (fC (fU g) (bs.length+1) cap) (bs.length+1) (ptrs bs++[.pointer (fU b)]))
  (hg:W.grownBy W' v.ownBlock) (hat:v.ownBlock=fU g\/g=W.heap.size+1) :
  Hid (W'.cell? ⟨G,1,fV⟩=fU v)/\W'.frozen? ⟨G,1,fV⟩=j1/\Grp w0 (W'.setCell ⟨G,1,fV⟩ (fC (fU g) (bs.length+1) cap)) G a (fC (fU g) (bs.length+1) cap) (bs++[b]) (ss++[s]):=by
 have d:Blk W' G 108 #[a,v]:=(hg.block G h.blk.lt (fun e=>zL h.own h.blk dM e.symm rfl)).trans h.blk;have l:g≠G:=by
  rcases hat with h1|h1
  ·exact zL h.own h.blk dM h1
  ·have:=h.blk.lt;omega
 have m:Ext w0 W':=h.ext.grown hg (fun k hk=>(h.own.lt k hk).1);have f:=dG W' G 1 (fC (fU g) (bs.length+1) cap);have i:Frm (fun k=>v.ownBlock=fU k) W W':=Frm.ab hg;have j:MovL W' (bs++[b]) (ss++[s]):=(h.mov.snoc (cY W) hb).frm i (fun c cs hc hS=>zL h.own hc dM hS rfl);refine⟨d.cell 1,d.frozen 1,⟨by simpa using d.ae 1 _,?_,j.frm f (fun c cs hc hS=>?_),m.setCell (p:=⟨G,1,fV⟩) h.hG _,h.hG⟩⟩
 ·rw [dK,dU,show ptrs (bs++[b])=ptrs bs++[.pointer (fU b)] by simp [ptrs]];exact zf zkh f (fun c hv hS=>by
   have:g=c:=by simpa [Value.ownBlock] using hv
   omega)
 ·subst hS;unfold Blk at hc d;rw [hc] at d;injection d with d
  injection d with _ ht
  exact absurd ht dM
theorem zfQ (h:zhl w lo hi A n ss)(hf:∀ s∈ss,Few 16 s.edges)(hn4:n<=1000) :
  j6 j3 66 #[fC A n c] w fun e w'=>∃ M d,e=j5 (j2 #[fC A n c,fC M n d])/\PtAt w' lo hi A n w.heap.size w'.heap.size M ss/\Ext w w':=by
 have HS:=za (fun W (hW:Ext w W)=>h.ext hW);have hL:=za h.1;have Hf:=za hf;have ad:=h.len;clear hf
 go_enter Tryz.func66,Tryz.ntmps66
 obtain⟨l,bG⟩:=zN (cY ((w.alloc (.cells #[(),()] 108)).alloc (.cells #[fC A n c,()] 108)));have D:Ext w ((w.alloc (.cells #[(),()] 108)).alloc (.cells #[fC A n c,()] 108)):=((cY w).alloc _).alloc _;go_upto_region 2 with fail
 have ag:w.heap.size<=(w.alloc (.cells #[(),()] 108)).heap.size:=sM;have C:(w.alloc (.cells #[(),()] 108)).heap.size=w.heap.size+1:=sM;have j:Grp (w.alloc (.cells #[(),()] 108)) ((w.alloc (.cells #[(),()] 108)).alloc (.cells #[fC A n c,()] 108)) (w.heap.size+1) (fC A n c) (fC fV 0 0) [] []:=
  ⟨bG,World.ownsRow_nil _ _ _ _,⟨rfl,fun i b s hb=>by simp at hb⟩,(cY _).alloc _,by rw [C];exact dD _⟩
 clear bG;generalize (w.alloc _).alloc _=w2 at *;generalize w.alloc _=w1 at *;go_wp2_with fail
 go_loopw [10] (fun i wr=>∃ (k:Nat) (v:j4) (t:List Nat),k<=n/\i=.int iX k/\Grp w1 wr (w.heap.size+1) (fC A n c) v t (ss.take k)/\Hid (t.length=k)/\Blk wr w.heap.size 108 #[(),()]/\Ext w wr) (fun i _=>n - (intOf i).toNat)
 case atStart=>exact⟨0,_,[],dF _,rfl,by simpa using j,za rfl,l,D⟩
 case round =>
  clear j l D w2;obtain⟨k,v,t,hk,rfl,j,r,l,hw⟩:=hrel
  by_cases hlt:k<n
  ·obtain⟨g,o,s,B,m,c',rfl,_,_,hs,c0,c1,c2,R⟩:=(HS.out wr hw).sys hlt;have O:=za (Hf.out s (dC hs.out));have G:=za (show ss.take (k+1)=ss.take k++[s] by rw [dN,hs.out];rfl);have u:=(cY wr).alloc (.cells #[s.al,s.st,fC B m c'] 38);have f:=j.aw u;have S:=hw.trans u;have x:=l.ext u;have z:=R.ext u;clear j;go_upto_region 5 with fail
   clear c0 c1 c2;generalize U0:wr.alloc _=Y at *;have L:=Ext.bl_ U0;clear U0;have c5:=L.cells;have cG:=fun W (hW:Ext Y W)=>(f.blk.ext hW).cell;have E:=cY Y;refine uR (fun X=>Ext Y X) [5,7] (zy.of [0,1,2,3,4,5,6,7]) ?_;refine uQ ?_;refine ze fun K hK=>?_;go_simp;refine (zex (z.ext E.drew) O.out).mono ?_;rintro e w4 ⟨b,rfl,ar,Q,V⟩;have a:=E.drew.trans V;refine hK.out _ _ a ?_;refine pT ?_;refine uQ ?_;refine ze fun K hK=>?_;go_simp;refine hK.out _ _ (a.alloc _) ?_;refine pT ?_;refine zb fun K hK=>?_;refine zaC w1 w4 _ _ _ rfl 147 _ 1 8 Tryz.underlying106 info_pmov rfl dM v t.length (ptrs t) _ _ rfl rfl (f.ext.trans a).size (zi f.own a) rfl (by simp [Value.oneCell']) (by unfold maxLen;have:=r.out;omega) (oH r.out) ?_;intro g5 cap5 w5 zkt hg5 hat5 hlt5;refine hK.out _ _ ?_;refine pT ?_;refine uQ ?_;obtain⟨p1,p2,p3⟩:=(f.aw a).push (s:=s) Q (W':=w5) zkt hg5 hat5;have aw:=p1.out;have H:Blk w5 w.heap.size 108 #[fC fV 0 0,fC fV 0 0]:=(hg5.block _ (x.ext a).lt (fun e=>zL (zi f.own a) (x.ext a) dM e.symm rfl)).trans (x.ext a);have T:Ext w w5:=(S.trans a).grown hg5 (fun q hq=>by have:=(zi f.own a).lt q hq;omega);have I:=H.far (p:=⟨w.heap.size+1,1,fV⟩) sM (fC (fU g5) (t.length+1) cap5);have U:=T.setCell (p:=⟨w.heap.size+1,1,fV⟩) sM (fC (fU g5) (t.length+1) cap5);refine zb fun K hK=>?_;go_simp;refine hK.out _ _ ?_;refine zg ?_;go_wp2_with fail
   go_roundw
   case rel=>exact⟨k+1,_,t++[b],oM,gM,by rw [G.out];exact p3,za (by rw [dK,r.out];rfl),I,U⟩
   case measure=>exact uM
  ·obtain rfl:n=k:=oM;obtain⟨M,d,rfl⟩:∃ M d,v=fC M n d:=by
    have ho:=j.own;rw [r.out] at ho;exact zh ho
   have cG:=j.blk.cell;have cZ:=l.cell;have fZ:=l.frozen;have y:Frm (fun k=>k=w.heap.size) wr ((wr.setCell w.heap.size (fC A n c)).setCell ⟨w.heap.size,1,fV⟩ (fC M n d)):=(dG wr _ 0 _).trans (dG _ _ 1 _);have J:Blk ((wr.setCell w.heap.size (fC A n c)).setCell ⟨w.heap.size,1,fV⟩ (fC M n d)) w.heap.size 108 #[fC A n c,fC M n d]:=by simpa using (l.ae 0 (fC A n c)).ae 1 (fC M n d)
   have F:=hw.frm y (fun k hk e=>oM);have Z:=za (show ∃ M' d',j5 (j2 #[fC A n c,fC M n d])=j5 (j2 #[fC A n c,fC M' n d'])/\PtAt ((wr.setCell w.heap.size (fC A n c)).setCell ⟨w.heap.size,1,fV⟩ (fC M n d)) lo hi A n w.heap.size ((wr.setCell w.heap.size (fC A n c)).setCell ⟨w.heap.size,1,fV⟩ (fC M n d)).heap.size M' ss/\Ext w ((wr.setCell w.heap.size (fC A n c)).setCell ⟨w.heap.size,1,fV⟩ (fC M n d)) from by
    refine⟨M,d,rfl,⟨HS.out _ F,t,?_,?_⟩,F⟩
    ·have ho:=zbw j.own y (fun b h1 e=>oM);rw [r.out] at ho;exact (eE ho).more oM (dD _)
    ·have hm:=j.mov;rw [dJ (oH hL.out)] at hm;exact hm.frm y (fun b cs hc hS=>by
      subst hS;unfold Blk at hc l;rw [hc] at l;injection l with l
      injection l with _ ht
      exact absurd ht dM))
   go_wp2_with fail
   generalize (wr.setCell w.heap.size (fC A n c)).setCell ⟨w.heap.size,1,fV⟩ (fC M n d)=wf at *;have cf:=J.cell;exact bodyPost_ret (v:=j2 #[fC A n c,fC M n d]) (by simp [results,Tryz.results66,go_sem,cf]) rfl Z.out
theorem zeB (l:List Nat) (x:Nat):zag (l++[x])=zag l++[.int iX (x:Nat)]:=by simp [zag]
theorem spec_l4Sizes {G:Int}{us:List Aut}(h:zfB w PA pn AA an ss us)(hok:zdZ ss us) :
  j6 j3 215 #[j2 #[fC PA pn pc,fC AA an ac,sv,L,K,G]] w (zcc w (szs ss us)):=by
 have J:=za (fun W (hW:Ext w W)=>h.ext hW);have z:Hid (pn=ss.length):=by obtain⟨_,_,h1⟩:=h.sys;exact h1.1
 have x:Hid (an=us.length):=by obtain⟨_,_,h1⟩:=h.aut;exact h1.1
 have ad:pn<=3:=by rw [z.out];exact hok.few
 have X:an<=2:=by rw [x.out];exact hok.few'
 have u:=za hok;clear h hok
 go_enter Tryz.func215,Tryz.ntmps215
 have I:Ext w (w.alloc (.cells #[fC PA pn pc,fC AA an ac,sv,L,K,G] 185)):=(cY w).alloc _;have E:=Blk.new w 185 #[fC PA pn pc,fC AA an ac,sv,L,K,G];go_wp2
 go_loopw [3,4] (fun v i wr=>∃ k:Nat,k<=pn/\i=.int iX k/\wr.ownsRow w.heap.size 3 1 v k (zag ((ss.take k).map fun s=>s.st.toNat))/\Ext w wr/\Blk wr w.heap.size 185 #[fC PA pn pc,fC AA an ac,sv,L,K,G])
  (fun _ i _=>pn - (intOf i).toNat)
 case atStart=>exact⟨0,dF _,rfl,(by have V:=World.ownsRow_lit (base:=w.heap.size) (e:=3) (size:=1) (w.alloc (.cells #[fC PA pn pc,fC AA an ac,sv,L,K,G] 185)) #[] 0 sM lM rfl;simpa [zag] using V),I.alloc _,E.ext ((cY _).alloc _)⟩
 case round =>
  obtain⟨k,hk,rfl,j,l,g⟩:=hrel;have M:=g.cell
  by_cases hlt:k<pn
  ·obtain⟨lo,Z,r⟩:=(J.out wr l).sys;obtain⟨b,o,s,B,q,d,rfl,ab,Y,C,T,O,U,H⟩:=r.sys hlt;have D:=zcj (u.out.sys s (dC C.out));obtain⟨p,S⟩:∃ p:Nat,Hid (s.st=p):=⟨s.st.toNat,by have:=D.1;unfold Hid;omega⟩;rw [S.out] at O;have t:=za (show (ss.take (k+1)).map (fun s=>s.st.toNat)=(ss.take k).map (fun s=>s.st.toNat)++[p] by rw [dN,C.out];simp [S.out]);clear D r H;go_wp2_with (at_builtin;refine zW w wr rfl _ _ _ rfl 3 _ 1 8 Tryz.underlying110 zS rfl dM u3 _ _ _ _ rfl rfl l j rfl (zaL _) lM oM ?_;intro v' w1 hext1 zkq hg1 hat1)
   have n:Blk w1 w.heap.size 185 #[fC (fU ⟨b,o,fV⟩) pn pc,fC AA an ac,sv,.int iX L,.int iX K,.int iX G]:=(hg1.block _ g.lt (fun e=>zL j g dM e.symm rfl)).trans g;go_roundw
   case rel=>exact⟨k+1,oM,gM,by rw [t.out,zeB];exact zkq,hext1,n⟩
   case measure=>exact uM
  ·obtain rfl:pn=k:=oM;have f:wr.ownsRow w.heap.size 3 1 u3 pn (zag (ss.map fun s=>s.st.toNat)):=by rw [dJ (oH z.out)] at j;exact j
   clear j;go_wp2
   go_loopw [3,5] (fun v i wr=>∃ k:Nat,k<=an/\i=.int iX k/\wr.ownsRow w.heap.size 3 1 v (pn+k) (zag (ss.map (fun s=>s.st.toNat)++(us.take k).map fun a=>a.next.length))/\Ext w wr/\Blk wr w.heap.size 185 #[fC PA pn pc,fC AA an ac,sv,L,K,G])
    (fun _ i _=>an - (intOf i).toNat)
   case atStart=>exact⟨0,dF _,rfl,by simpa using f,l,g⟩
   case round =>
    clear f l g M;obtain⟨k,hk,rfl,j,l,g⟩:=hrel;have M:=g.cell
    by_cases hlt:k<an
    ·obtain⟨lo,Z,r⟩:=(J.out wr l).aut;obtain⟨b,o,a,B,m,c,B',m',c',rfl,C,T,O,U,y⟩:=r.aut hlt;have Q:=za y.n1;have R:m<=12:=by have:=(zl (u.out.aut a (dC C.out))).2.1;rw [<- Q.out] at this;omega
     have t:=za (show ss.map (fun s=>s.st.toNat)++(us.take (k+1)).map (fun a=>a.next.length)=(ss.map (fun s=>s.st.toNat)++(us.take k).map (fun a=>a.next.length))++[m] by rw [dN,C.out];simp [Q.out]);clear r y;go_wp2_with (at_builtin;refine zW w wr rfl _ _ _ rfl 3 _ 1 8 Tryz.underlying110 zS rfl dM u3 _ _ _ _ rfl rfl l j rfl (zaL _) lM oM ?_;intro v' w1 hext1 zkq hg1 hat1)
     have n:Blk w1 w.heap.size 185 #[fC PA pn pc,fC (fU ⟨b,o,fV⟩) an ac,sv,.int iX L,.int iX K,.int iX G]:=(hg1.block _ g.lt (fun e=>zL j g dM e.symm rfl)).trans g;go_roundw
     case rel=>exact⟨k+1,oM,gM,by rw [t.out,zeB];exact zkq,hext1,n⟩
     case measure=>exact uM
    ·obtain rfl:an=k:=oM;have f:wr.ownsRow w.heap.size 3 1 u3 (pn+an) (zag (szs ss us)):=by rw [dJ (oH x.out)] at j;exact j
     have F:pn+an=(szs ss us).length:=by have:=zcE f;simp [zag] at this;omega
     rw [F] at f;obtain⟨A5,c5,rfl⟩:=zh f;clear j;go_wp2;go_ret;exact⟨_,_,rfl,f,l⟩
theorem zjV {st:List Nat}(h:Lst zbs w lo hi A sz)(h':Lst zbs w lo' hi' B st)(hl:sz.length=st.length)(hb:∀ k,k<=sz.length->encF 0 (sz.take k) (st.take k)<=1048576)(hz:∀ x∈sz,x<=16)(hs:∀ x∈st,x<=16) :
  j6 j3 220 #[fC A sz.length c,fC B st.length d] w fun e w'=>e=j5 (.int iX (encF 0 sz st:Nat))/\Ext w w':=by
 have L:=za (fun W (hW:Ext w W)=>h.ext zbs.ok hW);have M:=za (fun W (hW:Ext w W)=>h'.ext zbs.ok hW);have O:=za hb;have R:=za hz;have Q:=za hs;have m:=h.len;have T:∃ n:Nat,Hid (sz.length=n)/\Hid (st.length=n):=⟨sz.length,rfl,hl.symm⟩;obtain⟨n,a,g⟩:=T;rw [a.out] at m;rw [a.out,g.out];clear hb hz hs hl h h'
 go_enter Tryz.func220,Tryz.ntmps220
 go_wp2
 go_loopw [5,6] (fun v i wr=>∃ k y:Nat,k<=n/\i=.int iX k/\v=.int iX y/\Hid (y=encF 0 (sz.take k) (st.take k))/\y<=1048576/\Ext w wr) (fun _ i _=>n - (intOf i).toNat)
 case atStart=>exact⟨0,0,dF _,rfl,rfl,rfl,oM,cY _⟩
 case round =>
  obtain⟨k,y,hk,rfl,rfl,H,V,r⟩:=hrel
  by_cases hlt:k<n
  ·obtain⟨b,o,s,rfl,_,_,hs,D⟩:=(L.out wr r).num (show k<sz.length by rw [a.out];exact hlt);obtain⟨S,X,t,rfl,_,_,F,l⟩:=(M.out wr r).num (show k<st.length by rw [g.out];exact hlt);have E:=R.out s (dC hs.out);have G:=Q.out t (dC F.out);have Y:∀ W,Ext wr W->W.cell? ⟨b,o+k,fV⟩=fU (.int iX (s:Nat)):=fun W hW=>hW.aa D;have Z:∀ W,Ext wr W->W.cell? ⟨S,X+k,fV⟩=fU (.int iX (t:Nat)):=fun W hW=>hW.aa l;have j:=za (show encF 0 (sz.take (k+1)) (st.take (k+1))=y*s+t by
    have u:∀ (k acc:Nat) (sz st:List Nat),sz[k]?=fU s->st[k]?=fU t->encF acc (sz.take (k+1)) (st.take (k+1))=encF acc (sz.take k) (st.take k)*s+t:=by
     intro k
     induction k with
     |zero =>
      intro acc sz st h1 h2;cases sz<;>cases st<;>simp at h1 h2
      subst h1;subst h2;simp [encF]
     |succ k ih =>
      intro acc sz st h1 h2;cases sz<;>cases st<;>simp at h1 h2
      simpa [encF] using ih _ _ _ h1 h2
    rw [u k 0 sz st hs.out F.out,H.out])
   have f:=O.out (k+1) (by rw [a.out];omega);rw [j.out] at f;have p:y*s<=1048576:=oM;obtain⟨J,q⟩:∃ z:Nat,Hid (y*s=z):=⟨_,rfl⟩;have I:(y:Int)*(s:Int)=(J:Int):=by rw [<- q.out];exact (Int.natCast_mul y s).symm
   rw [q.out] at p f j;have U:=cY wr;clear D l;go_wp2_with fail
   go_quiet (fail)
   go_wp2_with fail
   go_roundw
   case rel=>exact⟨k+1,J+t,oM,gM,gM,by unfold Hid;rw [j.out],f,r.drewN _⟩
   case measure=>exact uM
  ·obtain rfl:n=k:=oM;have C:=za (show y=encF 0 sz st by rw [H.out,dJ (by rw [a.out];exact dD _),dJ (by rw [g.out];exact dD _)]);go_wp2;go_ret;exact⟨zaa (by rw [C.out]),r⟩
def decV (sz:List Nat) (x k:Nat):List Nat:=List.replicate k 0++dec (sz.drop k) x
theorem decV_set {s:Nat}(h:sz[k]?=fU s):(zag (decV sz x (k+1))).set k (.int iX ((x / zaz (sz.drop (k+1)) % s:Nat):Int))=zag (decV sz x k):=by
 have a:sz.drop k=s :: sz.drop (k+1):=by
  obtain⟨b,rfl⟩:=j9.1 h;exact fL b
 unfold decV zag;rw [a,dec,List.replicate_succ',List.append_assoc,eH,eH,List.set_append_right _ _ sM];simp
theorem zge {y0:Nat}(h:Lst zbs w lo hi A sz)(hn:sz.length=n)(hn5:n<=1000)(hz:∀ x∈sz,1<=x/\x<=16)(hy:y0<=4611686018427387904) :
  j6 j3 218 #[fC A n c,y0] w (zcc w (dec sz y0)):=by
 have F:=za (fun W (hW:Ext w W)=>h.ext zbs.ok hW);have H:=za hz;have d:=za hn;clear hz h hn
 go_enter Tryz.func218,Tryz.ntmps218
 go_wp2_with (at_make;refine zbd w w rfl _ _ 110 rfl 3 _ 1 8 Tryz.underlying110 zS _ _ n rfl rfl (cY _) oM lM ?_;intro w3 hw3 zks hx23 hsz3)
 generalize hg:w.heap.size=g at *;have G:=za hg;clear hg hx23 hsz3
 go_loopw [1,6] (fun v i wr=>∃ k y:Nat,k<=n/\i=.int iX ((k:Int) - 1)/\v=.int iX y/\y<=4611686018427387904/\Hid (y=y0 / zaz (sz.drop k))/\wr.ownsRow g 3 1 (fC (fU g) n n) n (zag (decV sz y0 k))/\Ext w wr) (fun _ i _=>(intOf i+1).toNat)
 case atStart=>exact⟨n,y0,dD _,gM,rfl,hy,by unfold Hid;rw [gP (oH d.out)];simp [zaz],by rw [decV,gP (oH d.out)];simpa [zag,dec,Value.cells,toList_madeCells_one] using zks,hw3⟩
 case round =>
  clear zks hw3;obtain⟨k,y,U,rfl,rfl,D,f,a,t⟩:=hrel
  by_cases hlt:0<k
  ·obtain⟨j,rfl⟩:∃ j,k=j+1:=⟨k - 1,oM⟩;obtain⟨b,o,s,rfl,_,_,r,T⟩:=(F.out wr t).num (show j<sz.length by have:=d.out;omega);obtain⟨X,O⟩:=H.out s (dC r.out);obtain⟨V,S⟩:=zaF a j oM;have R:=a.frozenAt j;have L:(y:Int) % (s:Int)=((y % s:Nat):Int):=(Int.natCast_emod y s).symm;have J:(y:Int) / (s:Int)=((y / s:Nat):Int):=(Int.natCast_ediv y s).symm;have q:=a.stored j (.int iX ((y % s:Nat):Int));rw [f.out,decV_set r.out,<- f.out] at q;have u:=za (show y / s=y0 / zaz (sz.drop j) by
    rw [f.out,Nat.div_div_eq_div_mul,fL (show j<sz.length by have:=d.out;omega),zaz];have:sz[j]'(oH d.out)=s:=by
     obtain⟨h1,h2⟩:=j9.1 r.out;exact h2
    rw [this,Nat.mul_comm])
   have B:y / s<=4611686018427387904:=dL (Nat.div_le_self _ _) D;have M:¬ (s=0):=oM;have l:w.heap.size<=g:=oH G.out;have z:((j+1:Nat):Int) - 1=(j:Int):=oM;rw [z];have I:=(F.out _ (t.setCell (p:=⟨g,j,fV⟩) l (.int iX ((y % s:Nat):Int)))).num2 r.out;generalize y % s=Y at *;generalize y / s=Q at *;go_wp2;go_roundw
   case rel=>exact⟨j,Q,oM,rfl,rfl,B,u,q.1,t.setCell (p:=⟨g,j,fV⟩) l _⟩
   case measure=>simp [intOf]
  ·obtain rfl:k=0:=oM;have m:=zdH sz y0;have E:=za (show wr.ownsRow w.heap.size 3 1 (.slice (fU g) (dec sz y0).length n) (dec sz y0).length (zag (dec sz y0)) by
    rw [m,d.out,G.out];simpa [decV] using a)
   have C:(dec sz y0).length=n:=oH d.out;go_wp2;go_ret;exact⟨fU ⟨g,0,fV⟩,n,by rw [C];rfl,E.out,t⟩
theorem spec_l4In (h:Lst zbs w lo hi A xs)(hn:xs.length=n) :
  j6 j3 278 #[fC A n c,x] w fun e w'=>e=j5 (.bool (decide (x∈xs)))/\w=w':=by
 have l:=za hn;have a:=h.len;rw [hn] at a;clear hn
 go_enter Tryz.func278,Tryz.ntmps278
 go_wp2
 go_loop [5] (fun i=>∃ k:Nat,k<=n/\i=.int iX k/\Hid (∀ (j z:Nat),j<k->xs[j]?=fU z->z≠x)) (fun i=>n - (intOf i).toNat)
 case atStart=>exact⟨0,dF _,rfl,(show Hid _ from fun j z f=>oM)⟩
 case round =>
  obtain⟨k,r,rfl,d⟩:=hrel
  by_cases hlt:k<n
  ·obtain⟨b,o,z,rfl,_,_,m,q⟩:=h.num (show k<xs.length by rw [l.out];exact hlt)
   by_cases hzx:z=x
   ·subst hzx;have g:=za (dC m.out);go_wp2;go_ret;exact⟨zr (by rw [decide_eq_true g.out]),rfl⟩
   ·have p:((z:Int)==(x:Int))=j1:=by simp;omega
    go_wp2
    go_round
    case rel=>exact⟨k+1,oM,gM,(show Hid _ from fun j y f hy=>by
     by_cases e:j=k
     ·subst e;have:=m.out;rw [hy] at this;injection this with this
      subst this;exact hzx
     ·exact d.out j y oM hy)⟩
    case measure=>exact uM
  ·obtain rfl:n=k:=oM;have g:=za (show ¬ x∈xs from fun hx=>by
    obtain⟨j,f⟩:=dY hx;exact d.out j x (by have:=(j9.1 f).1;rw [l.out] at this;exact this) f rfl)
   go_wp2;go_ret;exact⟨zr (by rw [decide_eq_false g.out]),rfl⟩
def zat (a:Aut) (q:Nat):Bool:=a.acc.getD q j1
theorem zhV {G:Int}{us:List Aut}{SA:Option Addr}{sn sc hi:Nat}{st:List Nat}{a:Aut}(h:zfB w PA pn AA an ss us)(h':Lst zbs w lo hi SA st)(hsn:st.length=sn)(hi:us[i]?=fU a)(hq:st[pn+i]?=fU q)(hqa:q<a.acc.length) :
  j6 j3 276 #[j2 #[fC PA pn pc,fC AA an ac,sv,L,K,G],fC SA sn sc,i] w fun e w'=>e=j5 (.bool (zat a q))/\Ext w w':=by
 have r:i<an:=by obtain⟨_,_,h1⟩:=h.aut;rw [h1.1];exact (j9.1 hi).1
 have u:pn+i<sn:=by rw [<- hsn];exact (j9.1 hq).1
 obtain⟨aa,U,g⟩:=h.aut;have J:=g.len;have s:pn<=9223372036854775807:=by obtain⟨_,_,h1⟩:=h.sys;exact h1.len
 have j:=h'.len;rw [hsn] at j;obtain⟨b,o,O,B,m,c,B',v,R,rfl,k,S,T,H,d⟩:=g.aut r;obtain rfl:a=O:=by have:=k.out;rw [hi] at this;exact j8 this
 obtain⟨Q,os,q',rfl,_,_,n,I⟩:=h'.num (show pn+i<st.length by rw [hsn];exact u);obtain rfl:q=q':=by have:=n.out;rw [hq] at this;exact j8 this
 have t:q<v:=by rw [d.n2];exact hqa
 obtain⟨C,x,rfl,_,_,M,l⟩:=d.2.2.bool t;have z:=za (show zat a q=x by unfold zat;rw [dE,M.out];rfl);have X:=d.2.2.len;have D:∀ W,Ext w W->W.cell? ⟨b,o+i*3+2,fV⟩=fU (fC (fU C) v R):=fun W hW=>hW.aa H;have E:∀ W,Ext w W->W.cell? ⟨Q,os+(pn+i),fV⟩=fU (.int iX (q:Nat)):=fun W hW=>hW.aa I;have F:∀ W,Ext w W->W.cell? (C.add q)=fU (.bool x):=fun W hW=>hW.aa l;clear g d h h' S T H I l M n k hi hq hqa
 go_enter Tryz.func276,Tryz.ntmps276
 go_wp2_with fail
 generalize U0:w.alloc _=y at *;obtain⟨f,p⟩:=Ext.x1_ U0;clear U0;have c0:=p.cell;have D:=D y f;have E:=E y f;have F:=F y f;have Y:(pn:Int)+(i:Int)<(sn:Int):=oM;have V:(i:Int)<(an:Int):=oM;have Z:(q:Int)<(v:Int):=oM
 go_quiet (fail)
 go_wp2_with fail
 go_ret;exact⟨zr (by rw [z.out]),f.drewN _⟩
def zaw (w:jX) (A:Option Addr) (m:Nat) (l:List Nat):Prop:=
 m=l.length/\m<=9223372036854775807/\(0<m->∃ (g o:Nat) (cs:Array j4),A=fU ⟨g,o,fV⟩/\w.heap[g]?=fU (.cells cs 3 (0,0))/\∀ j x,l[j]?=fU x->w.cell? ⟨g,o+j,fV⟩=fU (.int iX (x:Nat)))
theorem zaw.frm (h:zaw w A m l)(hb:Frm S w w')(hS:∀ k,S k->∀ cs,w.heap[k]?≠fU (.cells cs 3 (0,0))):zaw w' A m l:=by
 refine⟨h.1,h.2.1,fun h0=>?_⟩;obtain⟨g,o,cs,e,b,d⟩:=h.2.2 h0;have a:=(Array.getElem?_eq_some_iff.1 b).1;have c:¬ S g:=fun hs=>hS g hs cs b;exact⟨g,o,cs,e,(hb.block g a c).trans b,fun j x hx=>(World.cell?_of_block (w:=w) (hb.block g a c)).trans (d j x hx)⟩
theorem zaw.ext (h:zaw w A m l)(hb:Ext w w'):zaw w' A m l:=h.frm (S:=fun _=>False) hb (fun _ hk=>hk.elim)
theorem zaw.at_ (h:zaw w A m l)(hk:k<m):∃ (g o x:Nat),A=fU ⟨g,o,fV⟩/\Hid (l[k]?=fU x)/\w.cell? ⟨g,o+k,fV⟩=fU (.int iX (x:Nat)):=by
 obtain⟨g,o,c,e,_,b⟩:=h.2.2 oM;have a:l[k]?=fU (l[k]'(oH h.1)):=dB _;exact⟨g,o,_,e,a,b k _ a⟩
theorem zaw.own (h:w.ownsRow base 3 1 (fC A n c) n (zag l)):zaw w A n l:=by
 have i:=h.1;rw [nats_length] at i;refine⟨oM,(eE h).len,fun h0=>?_⟩;rcases h.2 with ⟨_,h1⟩|⟨g,b,a,k,_,f,_⟩
 ·omega
 ·have d:A=fU ⟨g,0,fV⟩:=by injection k
  subst d;refine⟨g,0,a,rfl,f,fun j x hx=>?_⟩;have m:=(j9.1 hx).1;rw [dW,h.cellAt j oM];simp [zag,hx]
theorem info_step:(j3.info? 272).map (fun i=>(i.zero,i.size,i.bytes))=fU (fU (j2 #[(0:Int),(0:Int),()]),3,40):=kM
def zcm:List (Stp × j4)->List j4
 |[]=>[]
 |(p,v) :: r=>.int iX p.parent :: .int iX (p.letter:Nat) :: v :: zcm r
theorem ziy (l m:List (Stp × j4)):zcm (l++m)=zcm l++zcm m:=by
 induction l with
 |nil=>rfl
 |cons x r ih=>obtain⟨p,v⟩:=x;simp [zcm,ih]
theorem zhZ {l:List (Stp × j4)}{p:Stp}(h:l[k]?=fU (p,v)):(zcm l)[k*3]?=fU (.int iX p.parent)/\(zcm l)[k*3+1]?=fU (.int iX (p.letter:Nat))/\(zcm l)[k*3+2]?=fU v:=by
 induction l generalizing k with
 |nil=>simp at h
 |cons a r ih =>
  cases k with
  |zero=>simp at h;subst h;exact⟨rfl,rfl,rfl⟩
  |succ k =>
   obtain⟨c,d⟩:=a;have:=ih (k:=k) (by simpa using h);have b:(k+1)*3=k*3+1+1+1:=oM;refine⟨?_,?_,?_⟩<;>rw [b]<;>simp only [zcm,List.getElem?_cons_succ]
   ·exact this.1
   ·exact this.2.1
   ·exact this.2.2
def Nodes (w:jX) (sts:List (Stp × j4)):Prop:=∀ (k:Nat) (p:Stp) (v:j4),sts[k]?=fU (p,v)->∃ A c,v=fC A p.nodes.length c/\zaw w A p.nodes.length p.nodes
theorem Nodes.frm {sts:List (Stp × j4)}(h:Nodes w sts)(hb:Frm S w w')(hS:∀ k,S k->∀ cs,w.heap[k]?≠fU (.cells cs 3 (0,0))):Nodes w' sts:=fun k p v hk=>by
 obtain⟨A,c,e,hx⟩:=h k p v hk
 exact⟨A,c,e,hx.frm hb hS⟩
structure Sea (w0 w:jX) (bs bg bt gs N cs:Nat) (fg:j4) (S:List Bool) (vst:j4) (sts:List (Stp × j4)):Prop where
 ext:Ext w0 w
 vs:Blk w bs 25 #[fC (fU gs) N cs]
 ds:w.ownsRow w0.heap.size 4 1 (fC (fU gs) N cs) N (zY S)
 vg:∃ t,Blk w bg t #[fg]
 vt:Blk w bt 270 #[vst]
 dt:w.ownsRow w0.heap.size 272 3 vst sts.length (zcm sts)
 nd:Nodes w sts
 hs:w0.heap.size<=bs
 hg:w0.heap.size<=bg
 ht:w0.heap.size<=bt
 hgt:bg≠bt
 hgg:bg≠gs
 hgv:∀ b,vst.ownBlock=fU b->b≠bg
section
variable {w0 w w':jX}{bs bg bt gs N cs:Nat}{fg vst:j4}{S:List Bool}{sts:List (Stp × j4)}
theorem Sea.far {T:Nat->Prop}{H:Nat}(h:Sea w0 w bs bg bt gs N cs fg S vst sts)(hb:Frm T w w')(hT:∀ k,T k->H<=k)(h1:bs<H)(h2:bg<H)(h3:bt<H)(h4:gs<H)(h5:∀ b,vst.ownBlock=fU b->b<H)(h0:w0.heap.size<=H)(hn:Nodes w' sts):Sea w0 w' bs bg bt gs N cs fg S vst sts:=by
 obtain⟨t,a⟩:=h.vg;refine⟨h.ext.frm hb (fun k hk hS=>by have:=hT k hS;omega),h.vs.frm hb (fun hS=>by have:=hT _ hS;omega),zf h.ds hb (fun b hv hS=>?_),⟨t,a.frm hb (fun hS=>by have:=hT _ hS;omega)⟩,h.vt.frm hb (fun hS=>by have:=hT _ hS;omega),zf h.dt hb (fun b hv hS=>by have:=hT _ hS;have:=h5 b hv;omega),hn,h.hs,h.hg,h.ht,h.hgt,h.hgg,h.hgv⟩;have c:gs=b:=by simpa [Value.ownBlock] using hv
 have:=hT _ hS;omega
theorem Sea.aw (h:Sea w0 w bs bg bt gs N cs fg S vst sts)(hx:Ext w w'):Sea w0 w' bs bg bt gs N cs fg S vst sts:=by
 obtain⟨t,a⟩:=h.vg;exact⟨h.ext.trans hx,h.vs.ext hx,zi h.ds hx,⟨t,a.ext hx⟩,h.vt.ext hx,zi h.dt hx,h.nd.frm (S:=fun _=>False) hx (fun _ hk=>hk.elim),h.hs,h.hg,h.ht,h.hgt,h.hgg,h.hgv⟩
theorem Sea.gs_lt (h:Sea w0 w bs bg bt gs N cs fg S vst sts):w0.heap.size<=gs/\gs<w.heap.size:=h.ds.lt gs rfl
theorem Sea.gs_row (h:Sea w0 w bs bg bt gs N cs fg S vst sts):∃ cur,w.heap[gs]?=fU (.cells cur 4 (0,0)):=by
 rcases h.ds.2 with ⟨a,_⟩|⟨g,b,cur,a,_,c,_⟩
 ·injection a with h1;cases h1
 ·have:gs=g:=by injection a with h1;injection h1 with h1;injection h1
  subst this;exact⟨cur,c⟩
theorem Sea.vst_row (h:Sea w0 w bs bg bt gs N cs fg S vst sts) (hb:vst.ownBlock=fU b):∃ cur,w.heap[b]?=fU (.cells cur 272 (0,0)):=by
 rcases h.dt.2 with ⟨rfl,_⟩|⟨g,a,cur,rfl,_,d,_⟩
 ·simp [Value.ownBlock] at hb
 ·have c:g=b:=by simpa [Value.ownBlock] using hb
  subst c;exact⟨cur,d⟩
theorem Sea.mark (h:Sea w0 w bs bg bt gs N cs fg S vst sts) :Sea w0 (w.setCell ⟨gs,n,fV⟩ (.bool jU)) bs bg bt gs N cs fg (S.set n jU) vst sts:=by
 obtain⟨t,j⟩:=h.vg;obtain⟨m,o⟩:=h.gs_row;have d:=dG w gs n (.bool jU);have a:∀ {b:Nat} {t:TypeId} {cs:Array j4},w.heap[b]?=fU (.cells cs t (0,0))->t≠4->b≠gs:=by
  rintro b t cs g p rfl;rw [o] at g;injection g with g
  injection g with _ h2
  exact p h2.symm
 have f:(zY S).set n (.bool jU)=zY (S.set n jU):=by simp [zY,List.map_set]
 have c:=(h.ds.stored n (.bool jU)).1;rw [f] at c;refine⟨h.ext.setCell h.gs_lt.1 _,h.vs.frm d (a h.vs dM),c,⟨t,j.frm d h.hgg⟩,h.vt.frm d (a h.vt dM),zf h.dt d (fun b hv=>?_),h.nd.frm d (fun k hk cs hc=>?_),h.hs,h.hg,h.ht,h.hgt,h.hgg,h.hgv⟩
 ·obtain⟨l,i⟩:=h.vst_row hv;exact a i dM
 ·exact a hc dM hk
theorem Sea.push {l c':Nat}{A':Option Addr}{p:Stp}(h:Sea w0 w bs bg bt gs N cs fg S vst sts) (zkh:w'.ownsRow w0.heap.size 272 3 (fC (fU g) (sts.length+1) cap) (sts.length+1) (zcm sts++[.int iX p.parent,.int iX (p.letter:Nat),fC A' l c']))
  (hg:w.grownBy w' vst.ownBlock) (hat:vst.ownBlock=fU g\/g=w.heap.size+1) (hl:l=p.nodes.length) (hA:zaw w A' l p.nodes) :
  Hid (w'.cell? bt=fU vst)/\w'.frozen? bt=j1/\Sea w0 (w'.setCell bt (fC (fU g) (sts.length+1) cap)) bs bg bt gs N cs fg S (fC (fU g) (sts.length+1) cap) (sts++[(p,fC A' l c')]):=by
 obtain⟨t,v⟩:=h.vg;have n:=Frm.ab hg;have a:∀ {b:Nat} {t:TypeId} {cs:Array j4},w.heap[b]?=fU (.cells cs t (0,0))->t≠272->¬ (vst.ownBlock=fU b):=by
  intro b t cs c G d;obtain⟨f,E⟩:=h.vst_row d;rw [E] at c;injection c with c
  injection c with _ h2
  exact G h2.symm
 obtain⟨f,q⟩:=h.gs_row;have m:Blk w' bt 270 #[vst]:=h.vt.frm n (a h.vt dM);have y:=h.vs.frm n (a h.vs dM);have C:=zf h.ds n (fun b d=>by
  have c:gs=b:=by simpa [Value.ownBlock] using d
  subst c;exact a q dM)
 have x:=v.frm n (fun d=>h.hgv _ d rfl);have F:=h.nd.frm n (fun k hk cs hc=>a hc dM hk);have z:=hA.frm n (fun k hk cs hc=>a hc dM hk);have s:w'.heap[gs]?=fU (.cells f 4 (0,0)):=(n.block gs h.gs_lt.2 (a q dM)).trans q;have L:Ext w0 w':=h.ext.frm n (fun k hk d=>by have:=(h.dt.lt k d).1;omega);have r:g≠bg:=by
  rcases hat with h1|h1
  ·exact h.hgv g h1
  ·have:=v.lt;omega
 have o:∃ f,w'.heap[g]?=fU (.cells f 272 (0,0)):=by
  rcases zkh.2 with ⟨d,_⟩|⟨J,H,f,d,_,E,_⟩
  ·injection d with h1;cases h1
  ·have:g=J:=by injection d with h1;injection h1 with h1;injection h1
   subst this;exact⟨f,E⟩
 obtain⟨I,o⟩:=o;have i:=dG w' bt 0 (fC (fU g) (sts.length+1) cap);have j:∀ {b:Nat} {t:TypeId} {cs:Array j4},w'.heap[b]?=fU (.cells cs t (0,0))->t≠270->b≠bt:=by
  rintro b t cs c G rfl;unfold Blk at m;rw [m] at c;injection c with c
  injection c with _ h2
  exact G h2.symm
 have D:=zf zkh i (fun b d=>by
  have c:g=b:=by simpa [Value.ownBlock] using d
  subst c;exact j o dM)
 have u:=F.frm i (fun k hk cs hc=>j hc dM hk);have B:=z.frm i (fun k hk cs hc=>j hc dM hk);refine⟨m.cell 0,m.frozen 0,L.setCell h.ht _,y.frm i (j y dM),zf C i (fun b d=>by
  have c:gs=b:=by simpa [Value.ownBlock] using d
  subst c;exact j s dM),⟨t,x.frm i h.hgt⟩,by simpa using m.ae 0 _,?_,?_,h.hs,h.hg,h.ht,h.hgt,h.hgg,fun b d=>?_⟩
 ·rw [ziy];simpa [zcm] using D
 ·intro k p' v' hk;rcases e8 k sts.length with h1|h1|h1
  ·rw [dI h1] at hk;exact u k p' v' hk
  ·rw [dT oM,h1,fR] at hk;have:=j8 hk;injection this with e1 e2
   subst e1;subst e2;subst hl;exact⟨A',c',rfl,B⟩
  ·rw [dV (by simp;omega)] at hk;cases hk
 ·have c:g=b:=by simpa [Value.ownBlock] using d
  subst c;exact r
end
end Go.Proofs.YtckbjnndaaoddaaGreatDoor
