/- Validity of -/
import Derived.Test.YtckbjnndaaoddaaGreatDoorT01
import Derived.Deep.DeepCutAuto
import Derived.Deep.CutBlock
set_option maxHeartbeats 4000000
set_option maxRecDepth 100000
namespace Go.Proofs.YtckbjnndaaoddaaGreatDoor
open Go Go.RowKit
open Bool renaming and_eq_true->dI,or_eq_true->gS,false->kK,true->kC
open Ext renaming drew->fP,refl->dB,trans->e6
open Frm renaming setCell->dG
open Int renaming toNat_natCast->eT
open List renaming all_eq_true->eV,drop_eq_getElem_cons->gG,drop_of_length_le->iC,getD_eq_getElem?_getD->dF,getElem?_append_left->dJ,getElem?_append_right->eD,getElem?_eq_getElem->dE,getElem?_eq_none->eJ,getElem?_of_mem->eN,getElem?_range->gQ,getElem?_toArray->e8,getElem_mem->fY,length_append->eA,length_singleton->eH,map_append->eU,mem_of_getElem?->dC,mem_range->jN,pairwise_iff_getElem->j8,range->fM,take_add_one->eB,take_of_length_le->dK,getElem?_eq_some_iff->kT,mem_filter->lF,mem_map->kW
open Nat renaming add_sub_cancel->iL,le_refl->dD,le_trans->dW,lt_of_lt_of_le->eI,lt_or_ge->e7,lt_trichotomy->fI,pow_le_pow_right->eL,sub_self->gK,testBit_lt_two_pow->iF,zero_le->dH
open Reads renaming af->eQ
open Go renaming Calls->kQ,Value->kL,World->kJ
open Go.Ending renaming returned->kP
open Go.IntKind renaming i64->kA
open Go.Value renaming agg->kO,slice->fQ
open Option renaming none->gP,some->gO
open Option.some renaming inj->kS
open _root_.Go.Proofs.Tryz renaming prog->kN
variable {A AA B PA:Option Addr}{G R ac an b base c cap d g hi hi' i id j k lo lo' n o pc pn q size x:Nat}{K L st:Int}{S:Nat->Prop}{W W' W1 w w' w0:kJ}{a:Act}{bs sz xs:List Nat}{cs:Array kL}{e t:TypeId}{l:List Int}{r sv v:kL}{rows:List kL}{s:Sys}{ss:List Sys}
def zjC (x y:Int):Int:=if x<y then -1 else if y<x then 1 else 0
theorem cmp_isNaN (x:Int) (w:kJ):kQ kN 249 #[x] w fun e w'=>e=kP (.bool kK)/\w=w':=by
 have h:(x != x)=kK:=sM
 go_enter Tryz.func249,Tryz.ntmps249
 go_wp2;go_ret;exact⟨zu sM,rfl⟩
theorem cmp_Compare (x y:Int) (w:kJ):kQ kN 160 #[x,y] w fun e w'=>e=kP (.int kA (zjC x y))/\w=w':=by
 by_cases h:x<y
 ·go_enter Tryz.func160,Tryz.ntmps160
  go_wp2_with (go_at_call 249;refine (cmp_isNaN _ _).mono ?_;rintro e w' ⟨rfl,rfl⟩)
  go_ret;exact⟨zao (by unfold zjC;split<;>omega),rfl⟩
 ·by_cases h':y<x
  all_goals
   go_enter Tryz.func160,Tryz.ntmps160
   go_wp2_with (go_at_call 249;refine (cmp_isNaN _ _).mono ?_;rintro e w' ⟨rfl,rfl⟩)
   go_ret;exact⟨zao (by unfold zjC;(repeat' split)<;>omega),rfl⟩
def orI:List Int->Int
 |[]=>0
 |x :: r=>if x=0 then orI r else x
theorem orI_stop {x:Int}(h:l[k]?=gO x)(hk:∀ y∈l.take k,y=0)(hx:x≠0):orI l=x:=by
 induction l generalizing k with
 |nil=>simp at h
 |cons a r ih =>
  cases k with
  |zero=>simp at h;subst h;rw [orI,if_neg hx]
  |succ k =>
   have b:a=0:=hk a sM;rw [orI,if_pos b];exact ih (by simpa using h) (fun y hy=>hk y (by simp [hy]))
theorem orI_end (hk:∀ y∈l,y=0):orI l=0:=by
 induction l with
 |nil=>rfl
 |cons a r ih=>rw [orI,if_pos (hk a sM),ih fun y hy=>hk y (by simp [hy])]
theorem cmp_Or (h:Reads w lo hi 1 A n (ints l)) :
  kQ kN 159 #[fQ A n c] w fun e w'=>e=kP (.int kA (orI l))/\w=w':=by
 have q:=h.len;have g:=za (show l.length=n by have:=h.length;rw [zdb] at this;omega)
 go_enter Tryz.func159,Tryz.ntmps159
 go_wp2
 go_loop [8] (fun i=>∃ k:Nat,k<=n/\i=.int kA k/\Hid (∀ y∈l.take k,y=0)) (fun i=>n - (intOf i).toNat)
 case atStart=>exact⟨0,dH _,rfl,za sM⟩
 case round =>
  obtain⟨k,p,rfl,b⟩:=hrel
  by_cases hlt:k<n
  ·obtain⟨m,x,rfl,_,_,d,o⟩:=h.int hlt
   by_cases h0:x=0
   ·have j:((x:Int) != 0)=kK:=by simp [h0]
    have f:=za h0;clear h0;go_wp2
    go_round
    case rel=>exact⟨k+1,oM,gM,za (by rw [eB,d.out];intro y a;simp at a;rcases a with a|a;exact b.out y a;rw [a,f.out])⟩
    case measure=>exact uM
   ·have j:((x:Int) != 0)=kC:=by simp [h0]
    go_wp2;go_ret;exact⟨zao (orI_stop d.out b.out h0).symm,rfl⟩
  ·obtain rfl:k=n:=oM;go_wp2;go_ret;have:=b.out;rw [dK (oH g.out)] at this;exact⟨zao (orI_end this).symm,rfl⟩
def cmpE (a b:Edg):Int:=orI [zjC a.fr b.fr,zjC a.le b.le,zjC a.ta b.ta]
def ltE (a b:Edg):Bool:=if a.fr=b.fr then if a.le=b.le then decide (a.ta<b.ta) else decide (a.le<b.le) else decide (a.fr<b.fr)
theorem cmpE_lt (a b:Edg):cmpE a b<0↔ltE a b=kC:=by
 have c:∀ x y:Int,(zjC x y=0↔x=y)/\(zjC x y<0↔x<y):=fun x y=>by unfold zjC;constructor<;>(repeat' split)<;>omega
 have h1:=c a.fr b.fr;have h2:=c a.le b.le;have d:=c a.ta b.ta;have f:cmpE a b=if zjC a.fr b.fr=0 then if zjC a.le b.le=0 then if zjC a.ta b.ta=0 then 0 else zjC a.ta b.ta else zjC a.le b.le else zjC a.fr b.fr:=rfl;rw [f,ltE]
 by_cases e1:a.fr=b.fr
 ·rw [if_pos (h1.1.2 e1),if_pos e1]
  by_cases e2:a.le=b.le
  ·rw [if_pos (h2.1.2 e2),if_pos e2]
   by_cases e3:zjC a.ta b.ta=0
   ·rw [if_pos e3];have:=d.1.1 e3;simp;omega
   ·rw [if_neg e3,d.2];simp
  ·rw [if_neg (fun h=>e2 (h2.1.1 h)),if_neg e2,h2.2];simp
 ·rw [if_neg (fun h=>e1 (h1.1.1 h)),if_neg e1,h1.2];simp
theorem reads_lit (n:Nat) (l:List Int)(hc:cs.toList=ints l)(hl:l.length=n)(hn:n<=1000)(h:Ext (w.alloc (.cells cs t)) w'):Reads w' 0 w'.heap.size 1 (gO ⟨w.heap.size,0,gP⟩) n (ints l):=by
 have a:=zcA h;refine⟨by rw [zdb];omega,oM,fun _=>⟨_,rfl,dH _,a.lt,fun j u hu=>?_⟩⟩;rw [zZ,Nat.zero_add,a.cell,<- Array.getElem?_toList,hc];exact hu
theorem zdQ {a b:Edg}  :
  kQ kN 71 #[kO #[a.fr,a.le,a.ta],kO #[b.fr,b.le,b.ta]] w fun e w'=>e=kP (.int kA (cmpE a b))/\Ext w w':=by
 go_enter Tryz.func71,Tryz.ntmps71
 go_wp2_with fail
 obtain⟨W,hW⟩:∃ W:kJ,W=(w.alloc (.cells #[Value.int kA a.fr,a.le,a.ta] 117)).alloc (.cells #[Value.int kA b.fr,b.le,b.ta] 117):=⟨_,rfl⟩;have c:Ext w W:=by rw [hW];exact ((dB _).alloc _).alloc _
 have h2:=zG (show Ext ((w.alloc (.cells #[Value.int kA a.fr,a.le,a.ta] 117)).alloc (.cells #[Value.int kA b.fr,b.le,b.ta] 117)) W by rw [hW];exact dB _);have d:∀ X,Ext W X->∀ j,X.cell? ⟨w.heap.size,j,gP⟩=#[Value.int kA a.fr,.int kA a.le,.int kA a.ta][j]?:=fun X hX=>(h2.1.ext hX).cell;have f:∀ X,Ext W X->∀ j,X.cell? ⟨w.heap.size+1,j,gP⟩=#[Value.int kA b.fr,.int kA b.le,.int kA b.ta][j]?:=fun X hX=>(h2.2.ext hX).cell;rw [<- hW];have g:=dB W;clear hW h2
 go_region_held3 (fun X=>Ext W X) (first|assumption|(refine fP ?_;assumption)|(refine Ext.alloc ?_ _;assumption)|(refine fP ?_;refine Ext.alloc ?_ _;assumption)|(refine e6 ?_ aM;assumption)) (first|(go_at_call 160;refine (cmp_Compare _ _ _).mono ?_;rintro e w' ⟨rfl,rfl⟩)|(go_at_call 159;refine (cmp_Or (reads_lit 3 [zjC a.fr b.fr,zjC a.le b.le,zjC a.ta b.ta] rfl rfl oM ((dB _).drew))).mono ?_;rintro e w' ⟨rfl,rfl⟩))
 all_goals (go_wp2_with fail;go_ret;exact⟨rfl,c.trans (by first|assumption|(refine fP ?_;assumption)|(refine Ext.alloc ?_ _;assumption)|(refine fP ?_;refine Ext.alloc ?_ _;assumption))⟩)
theorem zam {al:Int}{q:Int}  :
  kQ kN 153 #[kO #[al,st,fQ A n c],q] w fun e w'=>e=kP (.bool (decide (0<=q)&&decide (q<st)))/\Ext w w':=by
 by_cases h0:0<=q
 all_goals
  go_enter Tryz.func153,Tryz.ntmps153
  go_wp2;go_ret;exact⟨zu (by simp;try omega),(dB _).alloc _⟩
def edgB (al:Nat) (st:Int) (e:Edg):Bool:=(decide (0<=e.fr)&&decide (e.fr<st))&&((decide (0<=e.ta)&&decide (e.ta<st))&&(decide (e.le<6)&&hasB al e.le))
def zbw (al:Nat) (st:Int) (l:List Edg) (k:Nat):Bool:=
 match l[k]? with
 |some e=>edgB al st e&&(decide (k=0) || match l[k - 1]? with
  |some p=>ltE p e
  |none=>kK)
 |none=>kK
def zk (s:Sys):Bool:=
 decide (0<=s.al/\s.al<=63)&&(decide (1<=s.st/\s.st<=16)&&(fM s.edges.length).all (zbw s.al.toNat s.st s.edges))
theorem zaG (h:zR w lo hi A n s) :
  kQ kN 65 #[kO #[s.al,s.st,fQ A n c]] w fun e w'=>e=kP (.bool (zk s))/\Ext w w':=by
 have y:=za (show zk s=(decide (0<=s.al/\s.al<=63)&&(decide (1<=s.st/\s.st<=16)&&(fM n).all (zbw s.al.toNat s.st s.edges))) by unfold zk;rw [<- h.1]);have hn:=h.2.len
 by_cases hal:0<=s.al/\s.al<=63
 ·by_cases hst:1<=s.st/\s.st<=16
  ·obtain⟨al,u⟩:∃ al:Nat,Hid (s.al=al):=⟨s.al.toNat,by unfold Hid;omega⟩;have B:Sm al:=by have:=u.out;unfold Sm;omega
   have H:=za (show decide (0<=(al:Int)/\(al:Int)<=63)=kC by have:=u.out;simp;omega);rw [u.out];rw [u.out,eT] at y;clear hal;have ab:decide (s.st<1)=kK:=by simp;omega
   have ad:decide (16<s.st)=kK:=by simp;omega
   obtain⟨st,T,au,av⟩:∃ st:Int,Hid (s.st=st)/\1<=st/\st<=16:=⟨s.st,za rfl,hst.1,hst.2⟩;rw [T.out] at ab ad y ⊢;clear hst;have hR:=fun W (hW:Ext w W)=>h.2.ext hW;have HR:=za hR;clear hR
   go_enter Tryz.func65,Tryz.ntmps65
   go_wp2_with (go_at_call 82;refine (zaz _ _).mono ?_;rw [H.out];rintro e w' ⟨rfl,rfl⟩)
   go_loopw [22] (fun i wr=>∃ k:Nat,k<=n/\i=.int kA k/\Hid (((fM n).take k).all (zbw al st s.edges)=kC)/\Ext (w.alloc (.cells #[Value.int kA al,st,fQ A n c] 38)) wr)
    (fun i _=>n - (intOf i).toNat)
   case atStart=>exact⟨0,dH _,rfl,rfl,dB _⟩
   case round =>
    obtain⟨k,hk,rfl,x,m⟩:=hrel
    by_cases hlt:k<n
    ·obtain⟨b,o,e,rfl,ar,an,D,c0,c1,c2⟩:=(HR.out wr (((dB _).alloc _).trans m)).aw hlt;have Z:=zcs m;go_wp2_with fail
     obtain⟨W,hW⟩:∃ W:kJ,W=wr.alloc (.cells #[Value.int kA e.fr,e.le,e.ta] 117):=⟨_,rfl⟩;have F:Ext wr W:=by rw [hW];exact (dB _).alloc _
     have h1:=zcA (show Ext (wr.alloc (.cells #[Value.int kA e.fr,e.le,e.ta] 117)) W by rw [hW];exact dB _);have e0:∀ X,Ext W X->∀ j,X.cell? ⟨w.heap.size,j,gP⟩=#[Value.int kA al,.int kA st,fQ (gO ⟨b,o,gP⟩) n c][j]?:=fun X hX=>zcs ((m.trans F).trans hX);have e1:∀ X,Ext W X->∀ j,X.cell? ⟨wr.heap.size,j,gP⟩=#[Value.int kA e.fr,.int kA e.le,.int kA e.ta][j]?:=fun X hX=>(h1.ext hX).cell;rw [<- hW];have hr:=dB W;clear hW h1 Z c0 c1 c2;have V:∀ X,Ext W X->Ext w X:=fun X hX=>((((dB _).alloc _).trans m).trans F).trans hX;have l:=za V;clear V;have Q:(fM n)[k]?=gO k:=by rw [gQ hlt]
     have t:=za Q;clear Q;cases g:(decide (0<=e.fr)&&decide (e.fr<st))
     ·have J:=za g;clear g;have g:=J;clear J;refine zak (fun X=>Ext W X) [0,1,2,3,4,5,6,7,8,9,10,11,12,13,14,15,16,17,18,19,20,21,22,23,24,25,26,27,28,29,30,31,32,33,34,35,36,37,38,39] kM rfl kM kM (fun _ _ _ _ _ h=>h) ((dB _).drew) (fun hS=>?_);refine sQ ?_;refine zaj (fun K hK=>?_);go_simp;refine (zam).mono ?_;rw [g.out];rintro r I ⟨rfl,d⟩;refine hK.out _ _ (e6 aM d) (fun hS=>?_);refine pT ?_;refine sQ ?_;refine zcK ?_;go_wp2_with fail
      go_ret;exact⟨zu (by rw [y.out,zaT t.out (by rw [zbw,D.out];dsimp only;rw [edgB,g.out];simp)];simp),l.out _ aM⟩
     ·have J:=za g;clear g;have g:=J;clear J;cases q:(decide (0<=e.ta)&&decide (e.ta<st))
      ·have L:=za q;clear q;have q:=L;clear L;refine zak (fun X=>Ext W X) [0,1,2,3,4,5,6,7,8,9,10,11,12,13,14,15,16,17,18,19,20,21,22,23,24,25,26,27,28,29,30,31,32,33,34,35,36,37,38,39] kM rfl kM kM (fun _ _ _ _ _ h=>h) ((dB _).drew) (fun hS=>?_);refine sQ ?_;refine zaj (fun K hK=>?_);go_simp;refine (zam).mono ?_;rw [g.out];rintro r I ⟨rfl,d⟩;refine hK.out _ _ (e6 aM d) (fun hS=>?_);refine pT ?_;refine sQ ?_;refine zaj (fun K hK=>?_);go_simp;refine (zam).mono ?_;rw [q.out];rintro r U ⟨rfl,f⟩;refine hK.out _ _ (e6 aM f) (fun hS=>?_);refine pT ?_;refine sQ ?_;refine zcK ?_;go_wp2_with fail
       go_ret;exact⟨zu (by rw [y.out,zaT t.out (by rw [zbw,D.out];dsimp only;rw [edgB,g.out,q.out];simp)];simp),l.out _ aM⟩
      ·have L:=za q;clear q;have q:=L;clear L
       by_cases hle:6<=e.le
       ·have hL:decide (6<=e.le)=kC:=by simp;omega
        refine zak (fun X=>Ext W X) [0,1,2,3,4,5,6,7,8,9,10,11,12,13,14,15,16,17,18,19,20,21,22,23,24,25,26,27,28,29,30,31,32,33,34,35,36,37,38,39] kM rfl kM kM (fun _ _ _ _ _ h=>h) ((dB _).drew) (fun hS=>?_);refine sQ ?_;refine zaj (fun K hK=>?_);go_simp;refine (zam).mono ?_;rw [g.out];rintro r I ⟨rfl,d⟩;refine hK.out _ _ (e6 aM d) (fun hS=>?_);refine pT ?_;refine sQ ?_;refine zaj (fun K hK=>?_);go_simp;refine (zam).mono ?_;rw [q.out];rintro r U ⟨rfl,f⟩;refine hK.out _ _ (e6 aM f) (fun hS=>?_);refine pT ?_;refine sQ ?_;refine zcK ?_;go_wp2_with fail
        go_ret;exact⟨zu (by rw [y.out,zaT t.out (by rw [zbw,D.out];dsimp only;rw [edgB,g.out,q.out];simp;omega)];simp),l.out _ aM⟩
       ·have hL:decide (6<=e.le)=kK:=by simp;omega
        have R:=za (show decide (e.le<6)=kC by simp;omega);cases v:hasB al e.le
        ·have M:=za v;clear v;have v:=M;clear M;refine zak (fun X=>Ext W X) [0,1,2,3,4,5,6,7,8,9,10,11,12,13,14,15,16,17,18,19,20,21,22,23,24,25,26,27,28,29,30,31,32,33,34,35,36,37,38,39] kM rfl kM kM (fun _ _ _ _ _ h=>h) ((dB _).drew) (fun hS=>?_);refine sQ ?_;refine zaj (fun K hK=>?_);go_simp;refine (zam).mono ?_;rw [g.out];rintro r I ⟨rfl,d⟩;refine hK.out _ _ (e6 aM d) (fun hS=>?_);refine pT ?_;refine sQ ?_;refine zaj (fun K hK=>?_);go_simp;refine (zam).mono ?_;rw [q.out];rintro r U ⟨rfl,f⟩;refine hK.out _ _ (e6 aM f) (fun hS=>?_);refine pT ?_;refine sQ ?_;refine zaj (fun K hK=>?_);go_simp;refine (zbN _ _ B _).mono ?_;rw [v.out];rintro r w4 ⟨rfl,rfl⟩;refine hK.out _ _ aM (fun hS=>?_);refine pT ?_;refine sQ ?_;refine zcK ?_;go_wp2_with fail
         go_ret;exact⟨zu (by rw [y.out,zaT t.out (by rw [zbw,D.out];dsimp only;rw [edgB,g.out,q.out,v.out];simp)];simp),l.out _ aM⟩
        ·have M:=za v;clear v;have v:=M;clear M;have C:=za (show edgB al st e=kC by rw [edgB,g.out,q.out,v.out,R.out];rfl)
         by_cases hk0:k=0
         ·subst hk0;refine zak (fun X=>Ext W X) [0,1,2,3,4,5,6,7,8,9,10,11,12,13,14,15,16,17,18,19,20,21,22,23,24,25,26,27,28,29,30,31,32,33,34,35,36,37,38,39] kM rfl kM kM (fun _ _ _ _ _ h=>h) ((dB _).drew) (fun hS=>?_);refine sQ ?_;refine zaj (fun K hK=>?_);go_simp;refine (zam).mono ?_;rw [g.out];rintro r I ⟨rfl,d⟩;refine hK.out _ _ (e6 aM d) (fun hS=>?_);refine pT ?_;refine sQ ?_;refine zaj (fun K hK=>?_);go_simp;refine (zam).mono ?_;rw [q.out];rintro r U ⟨rfl,f⟩;refine hK.out _ _ (e6 aM f) (fun hS=>?_);refine pT ?_;refine sQ ?_;refine zaj (fun K hK=>?_);go_simp;refine (zbN _ _ B _).mono ?_;rw [v.out];rintro r w4 ⟨rfl,rfl⟩;refine hK.out _ _ aM (fun hS=>?_);refine pT ?_;refine sQ ?_;refine zcK ?_;go_wp2_with fail
          go_roundw
          case rel=>exact⟨0+1,oM,gM,zcO t.out x.out (by rw [zbw,D.out];dsimp only;rw [C.out];simp),(m.trans F).trans aM⟩
          case measure=>exact uM
         ·obtain⟨j,rfl⟩:∃ j,k=j+1:=⟨k - 1,oM⟩;have hp:s.edges[j]?=gO (s.edges[j]'(oH h.1)):=dE _;generalize s.edges[j]'(oH h.1)=p at hp;have Y:=za hp;clear hp;have z:=(HR.out wr (((dB _).alloc _).trans m)).edge2 Y.out;have p0:∀ X,Ext W X->X.cell? ⟨b,o+j*3,gP⟩=gO (.int kA p.fr):=fun X hX=>(F.trans hX).aa z.1;have p1:∀ X,Ext W X->X.cell? ⟨b,o+j*3+1,gP⟩=gO (.int kA p.le):=fun X hX=>(F.trans hX).aa z.2.1;have p2:∀ X,Ext W X->X.cell? ⟨b,o+j*3+2,gP⟩=gO (.int kA p.ta):=fun X hX=>(F.trans hX).aa z.2.2;clear z;have aq:decide ((0:Int)<(j:Int)+1)=kC:=decide_eq_true oM;have aw:IntKind.i64.wrap ((j:Int)+1 - 1)=(j:Int):=by rw [IntKind.wrap_i64];omega
          have ax:IntKind.i64.wrap (j:Int)=(j:Int):=by rw [IntKind.wrap_i64];omega
          have ao:(0:Int)<=(j:Int):=oM;have ap:(j:Int)<(n:Int):=oM;have S:=cmpE_lt p e;have O:=za S;clear S
          by_cases hc:0<=cmpE p e
          ·have aa:decide (0<=cmpE p e)=kC:=by simpa using hc
           have E:=za (show ltE p e=kK by rw [Bool.eq_false_iff];intro hh;have:=O.out.2 hh;omega);refine zak (fun X=>Ext W X) [0,1,2,3,4,5,6,7,8,9,10,11,12,13,14,15,16,17,18,19,20,21,22,23,24,25,26,27,28,29,30,31,32,33,34,35,36,37,38,39] kM rfl kM kM (fun _ _ _ _ _ h=>h) ((dB _).drew) (fun hS=>?_);refine sQ ?_;refine zaj (fun K hK=>?_);go_simp;refine (zam).mono ?_;rw [g.out];rintro r I ⟨rfl,d⟩;refine hK.out _ _ (e6 aM d) (fun hS=>?_);refine pT ?_;refine sQ ?_;refine zaj (fun K hK=>?_);go_simp;refine (zam).mono ?_;rw [q.out];rintro r U ⟨rfl,f⟩;refine hK.out _ _ (e6 aM f) (fun hS=>?_);refine pT ?_;refine sQ ?_;refine zaj (fun K hK=>?_);go_simp;refine (zbN _ _ B _).mono ?_;rw [v.out];rintro r w4 ⟨rfl,rfl⟩;refine hK.out _ _ aM (fun hS=>?_);refine pT ?_;refine sQ ?_;refine zaj (fun K hK=>?_);go_simp;refine (zdQ (a:=p) (b:=e)).mono ?_;rintro r w5 ⟨rfl,G⟩;refine hK.out _ _ (e6 aM G) (fun hS=>?_);refine pT ?_;refine sQ ?_;refine zcK ?_;go_wp2_with fail
           go_ret;exact⟨zu (by rw [y.out,zaT t.out (by rw [zbw,D.out];dsimp only;rw [iL,Y.out];simp [E.out])];simp),l.out _ aM⟩
          ·have aa:decide (0<=cmpE p e)=kK:=by simp;omega
           have E:=za (show ltE p e=kC from O.out.1 oM);refine zak (fun X=>Ext W X) [0,1,2,3,4,5,6,7,8,9,10,11,12,13,14,15,16,17,18,19,20,21,22,23,24,25,26,27,28,29,30,31,32,33,34,35,36,37,38,39] kM rfl kM kM (fun _ _ _ _ _ h=>h) ((dB _).drew) (fun hS=>?_);refine sQ ?_;refine zaj (fun K hK=>?_);go_simp;refine (zam).mono ?_;rw [g.out];rintro r I ⟨rfl,d⟩;refine hK.out _ _ (e6 aM d) (fun hS=>?_);refine pT ?_;refine sQ ?_;refine zaj (fun K hK=>?_);go_simp;refine (zam).mono ?_;rw [q.out];rintro r U ⟨rfl,f⟩;refine hK.out _ _ (e6 aM f) (fun hS=>?_);refine pT ?_;refine sQ ?_;refine zaj (fun K hK=>?_);go_simp;refine (zbN _ _ B _).mono ?_;rw [v.out];rintro r w4 ⟨rfl,rfl⟩;refine hK.out _ _ aM (fun hS=>?_);refine pT ?_;refine sQ ?_;refine zaj (fun K hK=>?_);go_simp;refine (zdQ (a:=p) (b:=e)).mono ?_;rintro r w5 ⟨rfl,G⟩;refine hK.out _ _ (e6 aM G) (fun hS=>?_);refine pT ?_;refine sQ ?_;refine zcK ?_;go_wp2_with fail
           go_roundw
           case rel=>exact⟨j+1+1,oM,gM,zcO t.out x.out (by rw [zbw,D.out];dsimp only;rw [iL,Y.out,C.out];simp [E.out]),(m.trans F).trans aM⟩
           case measure=>exact uM
    ·obtain rfl:k=n:=oM;go_wp2;go_ret;exact⟨zu (by rw [y.out,zfw sM x.out,H.out];simp;omega),((dB _).alloc _).trans m⟩
  ·go_enter Tryz.func65,Tryz.ntmps65
   have H:=za (show decide (0<=s.al/\s.al<=63)=kC by simp;omega);go_wp2_with (go_at_call 82;refine (zaz _ _).mono ?_;rw [H.out];rintro e w' ⟨rfl,rfl⟩)
   all_goals go_ret
   all_goals exact⟨zu (by rw [y.out];simp [hst]),(dB _).alloc _⟩
 ·go_enter Tryz.func65,Tryz.ntmps65
  have H:=za (show decide (0<=s.al/\s.al<=63)=kK by simp;omega);go_wp2_with (go_at_call 82;refine (zaz _ _).mono ?_;rw [H.out];rintro e w' ⟨rfl,rfl⟩)
  go_ret;exact⟨zu (by rw [y.out];simp;omega),(dB _).alloc _⟩
theorem zem {al:Nat}{e:Edg}(hsm:Sm al) :
  kQ kN 262 #[al,st,kO #[e.fr,e.le,e.ta]] w fun r w'=>r=kP (.bool (edgB al st e))/\Ext w w':=by
 have a:=za (show edgB al st e=((decide (0<=e.fr)&&decide (e.fr<st))&&((decide (0<=e.ta)&&decide (e.ta<st))&&(decide (e.le<6)&&hasB al e.le))) from rfl)
 by_cases h0:e.fr<0
 ·go_enter Tryz.func262,Tryz.ntmps262
  go_wp2;go_ret;exact⟨zu (by rw [a.out];simp;omega),(dB _).alloc _⟩
 ·by_cases h1:st<=e.fr
  ·go_enter Tryz.func262,Tryz.ntmps262
   go_wp2;go_ret;exact⟨zu (by rw [a.out];simp;omega),(dB _).alloc _⟩
  ·by_cases h2:e.ta<0
   ·go_enter Tryz.func262,Tryz.ntmps262
    go_wp2;go_ret;exact⟨zu (by rw [a.out];simp;omega),(dB _).alloc _⟩
   ·by_cases h3:st<=e.ta
    ·go_enter Tryz.func262,Tryz.ntmps262
     go_wp2;go_ret;exact⟨zu (by rw [a.out];simp;omega),(dB _).alloc _⟩
    ·by_cases h4:0<=e.le
     ·by_cases h5:e.le<6
      ·obtain⟨le,b⟩:∃ le:Nat,Hid (e.le=le):=⟨e.le.toNat,by unfold Hid;omega⟩;have c:(le:Int)<6:=oH b.out;clear h4 h5;rw [b.out]
       go_enter Tryz.func262,Tryz.ntmps262
       go_wp2_with (go_at_call 143;refine (zaq al le hsm _ oM).mono ?_;rintro r w' ⟨rfl,rfl⟩)
       go_ret;exact⟨zu (by rw [a.out,b.out,decide_eq_true (show 0<=e.fr by omega),decide_eq_true (show e.fr<st by omega),decide_eq_true (show 0<=e.ta by omega),decide_eq_true (show e.ta<st by omega),decide_eq_true c];simp [hasB]),(dB _).alloc _⟩
      ·go_enter Tryz.func262,Tryz.ntmps262
       go_wp2_with fail
       go_ret;exact⟨zu (by rw [a.out];simp;omega),(dB _).alloc _⟩
     ·go_enter Tryz.func262,Tryz.ntmps262
      go_wp2_with fail
      go_ret;exact⟨zu (by rw [a.out];simp [hasB];omega),(dB _).alloc _⟩
theorem zel {a b:Edg}  :
  kQ kN 261 #[kO #[a.fr,a.le,a.ta],kO #[b.fr,b.le,b.ta]] w fun e w'=>e=kP (.bool (ltE a b))/\Ext w w':=by
 have c:=za (show ltE a b=if a.fr=b.fr then if a.le=b.le then decide (a.ta<b.ta) else decide (a.le<b.le) else decide (a.fr<b.fr) from rfl);have g:Ext w ((w.alloc (.cells #[Value.int kA a.fr,a.le,a.ta] 117)).alloc (.cells #[Value.int kA b.fr,b.le,b.ta] 117)):=((dB _).alloc _).alloc _;have d:=za g;clear g
 by_cases h0:a.fr=b.fr
 ·have i:(a.fr != b.fr)=kK:=by simp [h0]
  have f:=za h0;clear h0
  by_cases h1:a.le=b.le
  ·have j:(a.le != b.le)=kK:=by simp [h1]
   have h:=za h1;clear h1
   go_enter Tryz.func261,Tryz.ntmps261
   go_wp2;go_ret;exact⟨zu (by rw [c.out,if_pos f.out,if_pos h.out]),d.out⟩
  ·have j:(a.le != b.le)=kC:=by simp [h1]
   go_enter Tryz.func261,Tryz.ntmps261
   go_wp2;go_ret;exact⟨zu (by rw [c.out,if_pos f.out,if_neg h1]),d.out⟩
 ·have i:(a.fr != b.fr)=kC:=by simp [h0]
  go_enter Tryz.func261,Tryz.ntmps261
  go_wp2;go_ret;exact⟨zu (by rw [c.out,if_neg h0]),d.out⟩
theorem zas (h:zR w lo hi A n s) :
  kQ kN 185 #[kO #[s.al,s.st,fQ A n c]] w fun e w'=>e=kP (.bool (zk s))/\Ext w w':=by
 have y:=za (show zk s=(decide (0<=s.al/\s.al<=63)&&(decide (1<=s.st/\s.st<=16)&&(fM n).all (zbw s.al.toNat s.st s.edges))) by unfold zk;rw [<- h.1]);have hn:=h.2.len
 by_cases hal:0<=s.al/\s.al<=63
 ·by_cases hst:1<=s.st/\s.st<=16
  ·obtain⟨al,g⟩:∃ al:Nat,Hid (s.al=al):=⟨s.al.toNat,by unfold Hid;omega⟩;have u:Sm al:=by have:=g.out;unfold Sm;omega
   have B:=za (show decide (0<=(al:Int)/\(al:Int)<=63)=kC by have:=g.out;simp;omega);rw [g.out];rw [g.out,eT] at y;clear hal;have I:decide (s.st<1)=kK:=by simp;omega
   have J:decide (16<s.st)=kK:=by simp;omega
   obtain⟨st,D,ah,ai⟩:∃ st:Int,Hid (s.st=st)/\1<=st/\st<=16:=⟨s.st,za rfl,hst.1,hst.2⟩;rw [D.out] at I J y ⊢;clear hst;have T:=fun W (hW:Ext w W)=>h.2.ext hW;have O:=za T;clear T
   go_enter Tryz.func185,Tryz.ntmps185
   go_wp2_with (go_at_call 142;refine (zX _ _).mono ?_;rw [B.out];rintro e w' ⟨rfl,rfl⟩)
   go_loopw [3] (fun i wr=>∃ k:Nat,k<=n/\i=.int kA k/\Hid (((fM n).take k).all (zbw al st s.edges)=kC)/\Ext (w.alloc (.cells #[Value.int kA al,st,fQ A n c] 38)) wr)
    (fun i _=>n - (intOf i).toNat)
   case atStart=>exact⟨0,dH _,rfl,rfl,dB _⟩
   case round =>
    obtain⟨k,hk,rfl,l,d⟩:=hrel;have H:=zcs d
    by_cases hlt:k<n
    ·obtain⟨b,o,e,rfl,ag,Y,F,Q,R,S⟩:=(O.out wr (((dB _).alloc _).trans d)).aw hlt;go_wp2_with fail
     clear H;have e0:∀ X,Ext wr X->∀ j,X.cell? ⟨w.heap.size,j,gP⟩=#[Value.int kA al,.int kA st,fQ (gO ⟨b,o,gP⟩) n c][j]?:=fun X hX=>zcs (d.trans hX);have q0:∀ X,Ext wr X->X.cell? ⟨b,o+k*3,gP⟩=gO (.int kA e.fr):=fun X hX=>hX.aa Q;have q1:∀ X,Ext wr X->X.cell? ⟨b,o+k*3+1,gP⟩=gO (.int kA e.le):=fun X hX=>hX.aa R;have q2:∀ X,Ext wr X->X.cell? ⟨b,o+k*3+2,gP⟩=gO (.int kA e.ta):=fun X hX=>hX.aa S;have hr:=dB wr;clear Q R S;have E:∀ X,Ext wr X->Ext w X:=fun X hX=>(((dB _).alloc _).trans d).trans hX;have v:=za E;clear E;have U:(0:Int)<=(k:Int):=oM;have V:(k:Int)<(n:Int):=oM;have C:(fM n)[k]?=gO k:=by rw [gQ hlt]
     have q:=za C;clear C;cases hA':edgB al st e
     ·have x:=za hA';clear hA';refine zak (fun X=>Ext wr X) [0,1,2,3,4,5,6,7,8,9,10,11,12,13,14,15,16,17,18,19,20,21,22,23,24,25,26,27,28,29] kM rfl kM kM (fun _ _ _ _ _ h=>h) ((dB _).drew) (fun hS=>?_);refine sQ ?_;refine zaj (fun K hK=>?_);go_simp;refine (zem (e:=e) u).mono ?_;rw [x.out];rintro r M ⟨rfl,f⟩;refine hK.out _ _ (e6 aM f) (fun hS=>?_);refine pT ?_;refine sQ ?_;refine zcK ?_;go_wp2_with fail
      go_ret;exact⟨zu (by rw [y.out,zaT q.out (by rw [zbw,F.out];dsimp only;rw [x.out];simp)];simp),v.out _ aM⟩
     ·have x:=za hA';clear hA'
      by_cases hk0:k=0
      ·subst hk0;simp only [Nat.zero_mul,Nat.add_zero] at q0 q1 q2;refine zak (fun X=>Ext wr X) [0,1,2,3,4,5,6,7,8,9,10,11,12,13,14,15,16,17,18,19,20,21,22,23,24,25,26,27,28,29] kM rfl kM kM (fun _ _ _ _ _ h=>h) ((dB _).drew) (fun hS=>?_);refine sQ ?_;refine zaj (fun K hK=>?_);go_simp;refine (zem (e:=e) u).mono ?_;rw [x.out];rintro r M ⟨rfl,f⟩;refine hK.out _ _ (e6 aM f) (fun hS=>?_);refine pT ?_;refine sQ ?_;refine zcK ?_;go_wp2_with fail
       go_roundw
       case rel=>exact⟨0+1,oM,gM,zcO q.out l.out (by rw [zbw,F.out];dsimp only;rw [x.out];simp),d.trans aM⟩
       case measure=>exact uM
      ·obtain⟨j,rfl⟩:∃ j,k=j+1:=⟨k - 1,oM⟩;have L:s.edges[j]?=gO (s.edges[j]'(oH h.1)):=dE _;generalize s.edges[j]'(oH h.1)=p at L;have G:=za L;clear L;have t:=(O.out wr (((dB _).alloc _).trans d)).edge2 G.out;have p0:∀ X,Ext wr X->X.cell? ⟨b,o+j*3,gP⟩=gO (.int kA p.fr):=fun X hX=>hX.aa t.1;have p1:∀ X,Ext wr X->X.cell? ⟨b,o+j*3+1,gP⟩=gO (.int kA p.le):=fun X hX=>hX.aa t.2.1;have p2:∀ X,Ext wr X->X.cell? ⟨b,o+j*3+2,gP⟩=gO (.int kA p.ta):=fun X hX=>hX.aa t.2.2;clear t;have af:decide ((0:Int)<(j:Int)+1)=kC:=decide_eq_true oM;have aj:IntKind.i64.wrap ((j:Int)+1 - 1)=(j:Int):=by rw [IntKind.wrap_i64];omega
       have ak:IntKind.i64.wrap (j:Int)=(j:Int):=by rw [IntKind.wrap_i64];omega
       have Z:(0:Int)<=(j:Int):=oM;have aa:(j:Int)<(n:Int):=oM;have ab:(0:Int)<=(j:Int)+1:=oM;have ad:(j:Int)+1<(n:Int):=oM;have ae:((j:Int)+1).toNat=j+1:=oM;cases hnl':ltE p e
       ·have m:=za hnl';clear hnl';refine zak (fun X=>Ext wr X) [0,1,2,3,4,5,6,7,8,9,10,11,12,13,14,15,16,17,18,19,20,21,22,23,24,25,26,27,28,29] kM rfl kM kM (fun _ _ _ _ _ h=>h) ((dB _).drew) (fun hS=>?_);refine sQ ?_;refine zaj (fun K hK=>?_);go_simp;refine (zem (e:=e) u).mono ?_;rw [x.out];rintro r M ⟨rfl,f⟩;refine hK.out _ _ (e6 aM f) (fun hS=>?_);refine pT ?_;refine sQ ?_;refine zaj (fun K hK=>?_);go_simp;refine (zel (a:=p) (b:=e)).mono ?_;rw [m.out];rintro r w3 ⟨rfl,z⟩;refine hK.out _ _ (e6 aM z) (fun hS=>?_);refine pT ?_;refine sQ ?_;refine zcK ?_;go_wp2_with fail
        go_ret;exact⟨zu (by rw [y.out,zaT q.out (by rw [zbw,F.out];dsimp only;rw [iL,G.out];simp [m.out])];simp),v.out _ aM⟩
       ·have m:=za hnl';clear hnl';refine zak (fun X=>Ext wr X) [0,1,2,3,4,5,6,7,8,9,10,11,12,13,14,15,16,17,18,19,20,21,22,23,24,25,26,27,28,29] kM rfl kM kM (fun _ _ _ _ _ h=>h) ((dB _).drew) (fun hS=>?_);refine sQ ?_;refine zaj (fun K hK=>?_);go_simp;refine (zem (e:=e) u).mono ?_;rw [x.out];rintro r M ⟨rfl,f⟩;refine hK.out _ _ (e6 aM f) (fun hS=>?_);refine pT ?_;refine sQ ?_;refine zaj (fun K hK=>?_);go_simp;refine (zel (a:=p) (b:=e)).mono ?_;rw [m.out];rintro r w3 ⟨rfl,z⟩;refine hK.out _ _ (e6 aM z) (fun hS=>?_);refine pT ?_;refine sQ ?_;refine zcK ?_;go_wp2_with fail
        go_roundw
        case rel=>exact⟨j+1+1,oM,gM,zcO q.out l.out (by rw [zbw,F.out];dsimp only;rw [iL,G.out,x.out];simp [m.out]),d.trans aM⟩
        case measure=>exact uM
    ·obtain rfl:k=n:=oM;go_wp2;go_ret;exact⟨zu (by rw [y.out,zfw sM l.out,B.out];simp;omega),((dB _).alloc _).trans d⟩
  ·go_enter Tryz.func185,Tryz.ntmps185
   have B:=za (show decide (0<=s.al/\s.al<=63)=kC by simp;omega);go_wp2_with (go_at_call 142;refine (zX _ _).mono ?_;rw [B.out];rintro e w' ⟨rfl,rfl⟩)
   all_goals go_ret
   all_goals exact⟨zu (by rw [y.out];simp [hst]),(dB _).alloc _⟩
 ·go_enter Tryz.func185,Tryz.ntmps185
  have B:=za (show decide (0<=s.al/\s.al<=63)=kK by simp;omega);go_wp2_with (go_at_call 142;refine (zX _ _).mono ?_;rw [B.out];rintro e w' ⟨rfl,rfl⟩)
  go_ret;exact⟨zu (by rw [y.out];simp;omega),(dB _).alloc _⟩
theorem zcq (h:zk s=kC):∃ p:Nat,s.st=p/\1<=p/\p<=16/\Few p s.edges:=by
 simp only [zk,dI,decide_eq_true_eq,eV,jN] at h;obtain⟨_,⟨h1,h2⟩,b⟩:=h;refine⟨s.st.toNat,oM,oM,oM,fun e he=>?_⟩;obtain⟨k,a⟩:=eN he;have:=b k (kT.1 a).1;rw [zbw,a] at this;simp only [dI,edgB,decide_eq_true_eq,hasB] at this;omega
theorem zW {xs:List kL}(h:w.ownsRow base e size (fQ A n c) n xs)(hn:0<n):∃ g,A=gO ⟨g,0,gP⟩/\base<=g/\g<w.heap.size:=by
 rcases h.2 with ⟨_,j⟩|⟨g,a,b,i,d,f,_⟩
 ·omega
 ·injection i with h1 h2 h3
  exact⟨g,h1,d,(Array.getElem?_eq_some_iff.1 f).1⟩
def blk (A:Option Addr) (b:Nat):Prop:=∃ a,A=gO a/\a.block=b
def lst (x:Nat):Nat:=(letters x 32).headD 0
def clsOf (R:List Nat):Nat->List Nat × Nat
 |0=>([],0)
 |k+1=>if lst (R.getD k 0)=k then ((clsOf R k).1++[(clsOf R k).2],(clsOf R k).2+1) else ((clsOf R k).1++[(clsOf R k).1.getD (lst (R.getD k 0)) 0],(clsOf R k).2)
theorem or_same {a:Nat}(h:∀ k,a.testBit k=kC->b.testBit k=kC):a|||b=b:=by
 apply Nat.eq_of_testBit_eq;intro k;rw [Nat.testBit_or];have:=h k;cases ha:a.testBit k<;>simp_all
def cl (R:List Nat) (i:Nat):Nat:=(clsOf R (i+1)).1.getD i 0
section
variable {es es':List Edg}{p q:Nat}
inductive Rch (es:List Edg):Nat->Prop where
 |zero:Rch es 0
 |step {i l k:Nat} (h:Rch es i) (hk:E es i l k):Rch es k
end
theorem ltE_trans {a b c:Edg}(h:ltE a b=kC)(h':ltE b c=kC):ltE a c=kC:=by
 unfold ltE at *
 (repeat' split at h)<;>(repeat' split at h')<;>(repeat' split)<;>simp only [decide_eq_true_eq] at*<;> omega
theorem ltE_iff {a b:Edg}:ltE a b=kC↔a.fr<b.fr\/a.fr=b.fr/\(a.le<b.le\/a.le=b.le/\a.ta<b.ta):=by
 unfold ltE
 (repeat' split)<;>simp only [decide_eq_true_eq]<;>omega
def zhC (es:List Edg):Prop:=∀ (a b:Nat) (x y:Edg),es[a]?=gO x->es[b]?=gO y->a<b->ltE x y=kC
theorem rising_of {es:List Edg}(h:∀ k x y,es[k]?=gO x->es[k+1]?=gO y->ltE x y=kC):zhC es:=by
 intro a b x y hx hy hab
 induction b generalizing y with
 |zero=>omega
 |succ b ih =>
  have d:=(kT.1 hy).1;obtain⟨z,c⟩:∃ z,es[b]?=gO z:=⟨_,dE oM⟩;have h1:=h b z y c hy;rcases e7 a b with h2|h2
  ·exact ltE_trans (ih z c h2) h1
  ·obtain rfl:a=b:=oM;rw [hx] at c;obtain rfl:=kS c;exact h1
theorem zeR :zk s=kC↔(0<=s.al/\s.al<=63)/\(1<=s.st/\s.st<=16)/\(∀ e∈s.edges,edgB s.al.toNat s.st e=kC)/\zhC s.edges:=by
 simp only [zk,dI,decide_eq_true_eq,eV,jN];constructor
 ·rintro ⟨h1,h2,c⟩;refine⟨h1,h2,fun e he=>?_,rising_of fun k x y d b=>?_⟩
  ·obtain⟨k,a⟩:=eN he;have:=c k (kT.1 a).1;rw [zbw,a] at this;simp only [dI] at this;exact this.1
  ·have:=c (k+1) (kT.1 b).1;unfold zbw at this;rw [b] at this;simp only [iL,d,dI,gS,decide_eq_true_eq] at this;rcases this.2 with h|h
   ·omega
   ·exact h
 ·rintro ⟨h1,h2,c,f⟩;refine⟨h1,h2,fun k a=>?_⟩;have d:s.edges[k]?=gO s.edges[k]:=dE a;unfold zbw;rw [d];simp only [dI,gS,decide_eq_true_eq];refine⟨c _ (fY a),?_⟩;cases k with
  |zero=>exact Or.inl rfl
  |succ k =>
   have b:s.edges[k]?=gO s.edges[k]:=dE oM;simp only [iL,b];exact Or.inr (f k (k+1) _ _ b d oM)
def rk (R n:Nat):Nat:=(letters R n).length
theorem zdC (R n:Nat):rk R (n+1)=rk R n+if R.testBit n then 1 else 0:=by
 unfold rk;rw [zbk,eA];cases R.testBit n<;>simp
theorem rk_le (R n:Nat):rk R n<=n:=zB R n
theorem rk_mono {a:Nat}(h:a<=b):rk R a<=rk R b:=by
 induction b with
 |zero=>rw [show a=0 by omega];exact dD _
 |succ b ih =>
  rcases e7 a (b+1) with h1|h1
  ·rw [zdC];have:=ih oM;omega
  ·rw [show a=b+1 by omega];exact dD _
theorem rk_lt {a:Nat}(h:a<b)(ha:R.testBit a=kC):rk R a<rk R b:=by
 have h1:=rk_mono (R:=R) (show a+1<=b by omega);rw [zdC,ha] at h1;simp at h1;omega
theorem rk_inj {a:Nat}(ha:R.testBit a=kC)(hb:R.testBit b=kC)(h:rk R a=rk R b):a=b:=by
 rcases fI a b with h1|h1|h1
 ·have:=rk_lt h1 ha;omega
 ·exact h1
 ·have:=rk_lt h1 hb;omega
def subI (R:Nat) (e:Edg):Bool:=hasB R e.fr&&hasB R e.ta
def subJ (R:Nat) (e:Edg):Edg:=⟨rk R e.fr.toNat,e.le,rk R e.ta.toNat⟩
def subE (R:Nat) (es:List Edg):List Edg:=(es.filter (subI R)).map (subJ R)
theorem zii (R:Nat) (es:List Edg) (e:Edg):subE R (es++[e])=if subI R e then subE R es++[subJ R e] else subE R es:=by
 unfold subE;rw [List.filter_append,eU];cases h:subI R e<;>simp [h]
def ziM (s:Sys) (R:Nat):Sys:=⟨s.al,rk R 32,subE R s.edges⟩
def zhA (es:List Edg) (p R:Nat):Prop:=R<2 ^ p/\∀ i,R.testBit i=kC↔Rch es i
section
variable {es:List Edg}{p R:Nat}
theorem subE_E {a l:Nat}:E (subE R es) a l b↔∃ i k,R.testBit i=kC/\R.testBit k=kC/\E es i l k/\rk R i=a/\rk R k=b:=by
 unfold E subE;constructor
 ·rintro ⟨e,g,h1,h2,d⟩;obtain⟨x,f,rfl⟩:=kW.1 g;rw [List.mem_filter] at f;obtain⟨f,c⟩:=f;simp only [subI,hasB,dI,decide_eq_true_eq] at c;simp only [subJ] at h1 h2 d;exact⟨x.fr.toNat,x.ta.toNat,c.1.2,c.2.2,⟨x,f,oM,h2,oM⟩,oM,oM⟩
 ·rintro ⟨i,k,c,m,⟨e,g,h1,h2,d⟩,h,j⟩;refine⟨subJ R e,kW.2 ⟨e,lF.2 ⟨g,?_⟩,rfl⟩,?_,h2,?_⟩
  ·simp only [subI,hasB,dI,decide_eq_true_eq];rw [h1,d];exact⟨⟨oM,c⟩,⟨oM,m⟩⟩
  ·simp only [subJ];rw [h1,show ((i:Nat):Int).toNat=i from rfl,h]
  ·simp only [subJ];rw [d,show ((k:Nat):Int).toNat=k from rfl,j]
theorem subE_rising (hr:zhC es):zhC (subE R es):=by
 have n:es.Pairwise (fun x y=>ltE x y=kC):=by
  rw [j8];intro i j hi hj hij;exact hr i j _ _ (dE hi) (dE hj) hij
 have h2:(subE R es).Pairwise (fun x y=>ltE x y=kC):=by
  unfold subE;rw [List.pairwise_map];have f:=n.filter (subI R);have k:(es.filter (subI R)).Pairwise (fun x y=>subI R x=kC/\subI R y=kC/\ltE x y=kC):=by
   rw [j8] at f ⊢;intro i j hi hj hij;exact⟨(lF.1 (fY hi)).2,(lF.1 (fY hj)).2,f i j hi hj hij⟩
  refine k.imp ?_;rintro x y ⟨c,d,h⟩;simp only [subI,hasB,dI,decide_eq_true_eq] at c d;rw [ltE_iff] at h ⊢;simp only [subJ];have o:x.fr<y.fr->rk R x.fr.toNat<rk R y.fr.toNat:=fun h=>rk_lt oM c.1.2;have p:x.ta<y.ta->rk R x.ta.toNat<rk R y.ta.toNat:=fun h=>rk_lt oM c.2.2;have g:x.fr=y.fr->rk R x.fr.toNat=rk R y.fr.toNat:=fun h=>by rw [h]
  rcases h with h|⟨h1,h|⟨h2,h⟩⟩
  ·have:=o h;omega
  ·have:=g h1;omega
  ·have:=g h1;have:=p h;omega
 intro a b x y c d hab;obtain⟨l,rfl⟩:=kT.1 c;obtain⟨m,rfl⟩:=kT.1 d;exact List.pairwise_iff_getElem.1 h2 a b l m hab
end
theorem sub_valid {p:Nat}(h:zk s=kC)(hp:s.st=p)(hR:zhA s.edges p R):zk (ziM s R)=kC:=by
 obtain⟨h1,h2,f,g⟩:=zeR.1 h;have l:rk R 32<=16:=by
  have:∀ d,rk R (16+d)<=16:=by
   intro d
   induction d with
   |zero=>exact rk_le R 16
   |succ d ih =>
    rw [show 16+(d+1)=16+d+1 by omega,zdC];have j:R.testBit (16+d)=kK:=iF (eI hR.1 (eL oM oM));rw [j];simpa using ih
  exact this 16
 have k:0<rk R 32:=by
  have:=rk_lt (R:=R) (show 0<32 by omega) ((hR.2 0).2 .zero);omega
 have b:∀ i,R.testBit i=kC->rk R i<rk R 32:=fun i a=>by
  refine rk_lt ?_ a;rcases e7 i 32 with h|h
  ·exact h
  ·have:R.testBit i=kK:=iF (eI hR.1 (eL oM oM));rw [this] at a;cases a
 refine zeR.2 ⟨h1,⟨by simp only [ziM];omega,by simp only [ziM];omega⟩,fun e he=>?_,subE_rising g⟩;obtain⟨x,c,rfl⟩:=kW.1 he;obtain⟨c,a⟩:=lF.1 c;have:=f x c;simp only [subI,edgB,ziM,subJ,hasB,dI,decide_eq_true_eq] at a this ⊢;have m:=b _ a.1.2;have n:=b _ a.2.2;exact⟨⟨decide_eq_true oM,decide_eq_true oM⟩,⟨decide_eq_true oM,decide_eq_true oM⟩,decide_eq_true this.2.2.1,decide_eq_true this.2.2.2.1,this.2.2.2.2⟩
def ALAt (w:kJ) (lo hi:Nat) (A:Option Addr) (n:Nat) (us:List Aut):Prop:=
 n=us.length/\∃ cells,Reads w lo hi 3 A n cells/\∀ (k:Nat) (a:Aut),us[k]?=gO a->∃ (B:Option Addr) (m c:Nat) (B':Option Addr) (m' c':Nat),cells[k*3]?=gO (.int kA a.al)/\cells[k*3+1]?=gO (fQ B m c)/\cells[k*3+2]?=gO (fQ B' m' c')/\zF w lo hi B m B' m' a
section
variable {w w':kJ}{lo hi n k:Nat}{A:Option Addr}{us:List Aut}
theorem ALAt.ext (h:ALAt w lo hi A n us)(hb:Ext w w'):ALAt w' lo hi A n us:=by
 obtain⟨e,a,i,j⟩:=h;refine⟨e,a,i.ext hb,fun k s hs=>?_⟩;obtain⟨B,m,c,b,l,d,f,h1,h2,g⟩:=j k s hs;exact⟨B,m,c,b,l,d,f,h1,h2,g.ext hb⟩
theorem ALAt.len (h:ALAt w lo hi A n us):n<=9223372036854775807:=by
 obtain⟨_,a,b,_⟩:=h;exact b.len
theorem ALAt.aut (h:ALAt w lo hi A n us)(hk:k<n):∃ b o a B m c B' m' c',A=gO ⟨b,o,gP⟩/\Hid (us[k]?=gO a)/\w.cell? ⟨b,o+k*3,gP⟩=gO (.int kA a.al)/\w.cell? ⟨b,o+k*3+1,gP⟩=gO (fQ B m c)/\w.cell? ⟨b,o+k*3+2,gP⟩=gO (fQ B' m' c')/\zF w lo hi B m B' m' a:=by
 obtain⟨e,d,q,j⟩:=h;have f:us[0]?=gO (us[0]' oM):=dE _;obtain⟨_,_,_,_,_,_,l,_⟩:=j 0 _ f;rw [Nat.zero_mul] at l;obtain⟨b,o,rfl,s,r,g⟩:=zjj q oM l;have i:us[k]?=gO (us[k]' oM):=dE _;obtain⟨B,m,c,B',m',c',f,h1,h2,p⟩:=j k _ i;exact⟨b,o,_,B,m,c,B',m',c',rfl,i,g _ _ f,by rw [Nat.add_assoc];exact g _ _ h1,by rw [Nat.add_assoc];exact g _ _ h2,p⟩
end
structure zfL (w:kJ) (PA:Option Addr) (pn:Nat) (AA:Option Addr) (an:Nat) (ss:List Sys) (us:List Aut):Prop where
 sys:∃ lo hi,zeo w lo hi PA pn ss
 aut:∃ lo hi,ALAt w lo hi AA an us
theorem zfL.ext {us:List Aut}(h:zfL w PA pn AA an ss us)(hx:Ext w w'):zfL w' PA pn AA an ss us:=by
 obtain⟨⟨d,c,h1⟩,b,a,h2⟩:=h;exact⟨⟨d,c,h1.ext hx⟩,b,a,h2.ext hx⟩
def zbt (ss:List Sys) (us:List Aut):List Mem:=ss.map zec++us.map zbE
def szs (ss:List Sys) (us:List Aut):List Nat:=ss.map (fun s=>s.st.toNat)++us.map fun a=>a.next.length
theorem zge (ss:List Sys) (us:List Aut):(zbt ss us).map Prod.fst=szs ss us:=by
 simp [zbt,szs,zec,zbE,Function.comp_def]
structure zed (ss:List Sys) (us:List Aut):Prop where
 sys:∀ s∈ss,zk s=kC
 aut:∀ a∈us,zj a=kC
 few:ss.length<=3
 few':us.length<=2
theorem zbx (h:zk s=kC):Sml s:=by
 obtain⟨h1,h2,c,d⟩:=zeR.1 h;obtain⟨p,b,_,_,a⟩:=zcq h;refine⟨h2.1,h2.2,?_,h1.1,h1.2⟩;rw [b];exact a
theorem zed.ok {us:List Aut}(h:zed ss us):∀ m∈zbt ss us,zev m:=by
 intro m hm;rcases List.mem_append.1 hm with h1|h1
 ·obtain⟨s,c,rfl⟩:=kW.1 h1;exact zeI (zbx (h.sys s c))
 ·obtain⟨a,b,rfl⟩:=kW.1 h1;exact zbF (h.aut a b)
theorem prodS_le {l:List Nat}(h:∀ x∈l,x<=b):zau l<=b ^ l.length:=by
 induction l with
 |nil=>simp [zau]
 |cons x r ih =>
  rw [zau,List.length_cons,Nat.pow_succ,Nat.mul_comm];exact Nat.mul_le_mul (ih fun y hy=>h y (by simp [hy])) (h x sM)
theorem zed.le16 {us:List Aut}(h:zed ss us):∀ x∈szs ss us,1<=x/\x<=16:=by
 intro x hx;rcases List.mem_append.1 hx with h1|h1
 ·obtain⟨s,d,rfl⟩:=kW.1 h1;have b:=zbx (h.sys s d);have:=b.1;have:=b.2.1;omega
 ·obtain⟨a,c,rfl⟩:=kW.1 h1;have:=(zl (h.aut a c)).2.1;omega
theorem zed.len {us:List Aut}(h:zed ss us):(szs ss us).length<=5:=by
 have:=h.few;have:=h.few';simp [szs];omega
theorem zed.total {us:List Aut}(h:zed ss us) (l:List Nat)(hl:l.Sublist (szs ss us)):1<=zau l/\zau l<=1048576:=by
 refine⟨prodS_pos fun x hx=>(h.le16 x (hl.subset hx)).1,?_⟩;have h1:=prodS_le (l:=l) (b:=16) fun x hx=>(h.le16 x (hl.subset hx)).2;have h2:=hl.length_le;have a:=h.len
 calc zau l<=16 ^ l.length:=h1
  _<=16 ^ 5:=eL oM oM
  _=1048576:=dM
theorem place_succ (a k:Nat):place a (k+1)=place a k+if a.testBit k then 1 else 0:=by
 unfold place;rw [zbk,eA];cases a.testBit k<;>simp
theorem spec_l1Place (a l:Nat)(ha:Sm a)(hl:l<=6) (w:kJ) :
  kQ kN 279 #[a,l] w fun e w'=>e=kP (.int kA (place a l:Nat))/\w=w':=by
 go_enter Tryz.func279,Tryz.ntmps279
 go_wp2
 go_loop [5,6] (fun v i=>∃ k y:Nat,k<=l/\i=.int kA k/\v=.int kA y/\y<=k/\Hid (y=place a k)) (fun _ i=>l - (intOf i).toNat)
 case atStart=>exact⟨0,0,dH _,rfl,rfl,dD _,rfl⟩
 case round =>
  obtain⟨k,y,f,rfl,rfl,g,b⟩:=hrel
  by_cases hlt:k<l
  ·cases hb:a.testBit k
   all_goals
    have c:=za hb;have d:=za (place_succ a k);clear hb;go_wp2_with (go_at_call 143;refine (zaq a k ha _ oM).mono ?_;rw [c.out];rintro e w' ⟨rfl,rfl⟩)
    go_round
    case rel=>first|exact⟨k+1,y,oM,gM,rfl,oM,by unfold Hid;rw [d.out,c.out,<- b.out];rfl⟩|exact⟨k+1,y+1,oM,gM,gM,oM,by unfold Hid;rw [d.out,c.out,<- b.out];rfl⟩
    case measure=>exact uM
  ·obtain rfl:l=k:=oM;go_wp2;go_ret;exact⟨zao (by rw [b.out]),rfl⟩
theorem zdZ {m:Nat}{B':Option Addr}{m' d':Nat}{a:Aut}{l:Nat}(h:zF w lo hi B m B' m' a)(hv:zj a=kC)(hq:q<a.next.length)(hl:l<6) :
  kQ kN 225 #[kO #[a.al,fQ B m d,fQ B' m' d'],q,l] w fun e w'=>e=kP (.int kA (aGo a q l:Nat))/\Ext w w':=by
 obtain⟨⟨s,t⟩,_,_,f⟩:=zl hv;obtain⟨al,g⟩:∃ al:Nat,Hid (a.al=al):=⟨a.al.toNat,by unfold Hid;omega⟩;have n:Sm al:=by have:=g.out;unfold Sm;omega
 have o:a.al.toNat=al:=oH g.out;have Hn:=za h.n1;have T:=za (fun W (hW:Ext w W)=>h.1.ext hW);have L:q<m:=by rw [h.n1];exact hq
 have Q:=za (show aGo a q l=if al.testBit l then ((a.next.getD q []).getD (place al l) 0).toNat else q by unfold aGo;rw [o]);have c:a.next[q]?=gO a.next[q]:=dE hq;obtain⟨k,v⟩:=f q _ c;rw [o] at k;have i:=za c;have G:=za v;have F:=za k;have Y:=h.1.len;clear k v c o f h;generalize a.next[q]=row at *;cases hb:al.testBit l
 ·have r:=za hb;clear hb;rw [g.out];clear s t
  go_enter Tryz.func225,Tryz.ntmps225
  go_wp2_with (go_at_call 143;refine (zaq al l n _ oM).mono ?_;rw [r.out];rintro e w' ⟨rfl,rfl⟩)
  go_ret;exact⟨zao (by rw [Q.out,r.out];rfl),(dB _).alloc _⟩
 ·have Z:=za (place_lt hl hb);have r:=za hb;clear hb;rw [g.out];clear s t;have u:place al l<row.length:=by rw [F.out];exact Z.out
  obtain⟨x,M⟩:∃ x,Hid (row[place al l]?=gO x):=⟨_,dE u⟩;obtain⟨x0,x1⟩:=G.out x (dC M.out);obtain⟨y,rfl⟩:∃ y:Nat,x=y:=⟨x.toNat,oM⟩;have O:=za (show aGo a q l=y by rw [Q.out,r.out,if_pos rfl];simp only [dF,i.out,Option.getD_some,M.out];rfl)
  go_enter Tryz.func225,Tryz.ntmps225
  go_wp2_with (go_at_call 143;refine (zaq al l n _ oM).mono ?_;rw [r.out];rintro e w' ⟨rfl,rfl⟩)
  generalize U0:w.alloc _=p at *;obtain⟨D,H⟩:=Ext.x1_ U0;clear U0;obtain⟨U,S,X,l',rfl,_,_,J,R,C⟩:=(T.out p D).row L;obtain rfl:row=l':=by have h1:=i.out;have h2:=J.out;rw [h1] at h2;exact kS h2
  have j:∀ W,Ext p W->∃ b,S=gO b/\W.cell? (b.add (place al l))=gO (.int kA (y:Nat)):=fun W hW=>by
   obtain⟨b,z,e,_,_,hz,I⟩:=(C.ext hW).int u;have h1:=M.out;have h2:=hz.out;rw [h1] at h2;obtain rfl:=kS h2;exact⟨b,e,I⟩
  obtain⟨b,rfl,_⟩:=j p (dB _);have c2:∀ W,Ext p W->W.cell? (b.add (place al l))=gO (.int kA (y:Nat)):=fun W hW=>by
   obtain⟨V,e,h⟩:=j W hW;injection e with e
   subst e;exact h
  have c1:∀ W,Ext p W->W.cell? (U.add q)=gO (fQ (gO b) row.length X):=fun W hW=>hW.aa R;have c0:=H.cells;clear j R C;have aa:(place al l:Int)<(row.length:Int):=oM;have ab:=dB p;generalize hpp:place al l=pl at *;have E:=za hpp;clear hpp;go_wp2_with fail
  go_region_held3 (fun W=>Ext p W) (first|assumption|(refine fP ?_;assumption)|(refine e6 ?_ aM;assumption)|(refine e6 ?_ aM;refine fP ?_;assumption)) ((go_at_call 279;refine (spec_l1Place al l n oM _).mono ?_;rw [E.out];rintro e w' ⟨rfl,rfl⟩))
  go_wp2;go_ret;exact⟨zao (by rw [O.out]),D.trans aM⟩
abbrev Lay (α:Type):=kJ->Nat->Nat->kL->α->Prop
structure Lay.Ok {α:Type}(P:Lay α):Prop where
 frm:∀ {S:Nat->Prop} {W W':kJ} {lo hi:Nat} {r:kL} {x:α},P W lo hi r x->Frm S W W'->(∀ k,lo<=k->k<hi->¬ S k)->P W' lo hi r x
 more:∀ {W:kJ} {lo hi lo' hi':Nat} {r:kL} {x:α},P W lo hi r x->lo'<=lo->hi<=hi'->P W lo' hi' r x
def zbA:Lay Nat:=fun _ _ _ r n=>r=.int kA (n:Nat)
theorem zbA.ok:Lay.Ok zbA:=⟨fun h _ _=>h,fun h _ _=>h⟩
def Lst {α:Type}(P:Lay α) (W:kJ) (lo hi:Nat) (A:Option Addr) (xs:List α):Prop:=
 ∃ rows,Reads W lo hi 1 A xs.length rows/\∀ (i:Nat) (r:kL) (x:α),rows[i]?=gO r->xs[i]?=gO x->P W lo hi r x
def LstP {α:Type}(P:Lay α):Lay (List α):=fun W lo hi r xs=>∃ A c,r=fQ A xs.length c/\Lst P W lo hi A xs
section
variable {α:Type}{P:Lay α}{W W':kJ}{lo hi:Nat}{A:Option Addr}{xs:List α}
theorem Lst.frm (hP:Lay.Ok P) (h:Lst P W lo hi A xs)(hx:Frm S W W')(hS:∀ k,lo<=k->k<hi->¬ S k):Lst P W' lo hi A xs:=by
 obtain⟨a,h1,h2⟩:=h;exact⟨a,h1.frm hx hS,fun i r x hr hx'=>hP.frm (h2 i r x hr hx') hx hS⟩
theorem Lst.ext (hP:Lay.Ok P)(h:Lst P W lo hi A xs)(hx:Ext W W'):Lst P W' lo hi A xs:=h.frm hP hx (fun _ _ _ h=>h)
theorem Lst.more (hP:Lay.Ok P) (h:Lst P W lo hi A xs)(h1:lo'<=lo)(h2:hi<=hi'):Lst P W lo' hi' A xs:=by
 obtain⟨a,b,c⟩:=h;exact⟨a,b.more h1 h2,fun i r x hr hx'=>hP.more (c i r x hr hx') h1 h2⟩
theorem LstP.ok (hP:Lay.Ok P):Lay.Ok (LstP P):=by
 refine⟨fun h hx hS=>?_,fun h h1 h2=>?_⟩
 ·obtain⟨A,c,e,h⟩:=h;exact⟨A,c,e,h.frm hP hx hS⟩
 ·obtain⟨A,c,e,h⟩:=h;exact⟨A,c,e,h.more hP h1 h2⟩
theorem Lst.len (h:Lst P W lo hi A xs):xs.length<=9223372036854775807:=by
 obtain⟨a,h1,_⟩:=h;exact h1.len
theorem Lst.get (h:Lst P W lo hi A xs)(hk:k<xs.length):∃ b o r x,A=gO ⟨b,o,gP⟩/\lo<=b/\b<hi/\Hid (xs[k]?=gO x)/\W.cell? ⟨b,o+k,gP⟩=gO r/\P W lo hi r x:=by
 obtain⟨a,h1,h2⟩:=h;have n:=h1.length;rw [Nat.mul_one] at n;obtain⟨f,e,l,m,g⟩:=h1.at_ hk;have d:a[0]?=gO (a[0]' oM):=dE _;have c:a[k]?=gO (a[k]' oM):=dE _;have j:=zdK (g 0 _ d);have i:=g k _ c;rw [j,zZ] at i;exact⟨f.block,f.off,_,_,by rw [e,<- j],l,m,dE hk,i,h2 k _ _ c (dE hk)⟩
theorem Lst.get2 {x:α}(h:Lst P W lo hi (gO ⟨b,o,gP⟩) xs)(hx:xs[k]?=gO x):∃ r,W.cell? ⟨b,o+k,gP⟩=gO r/\P W lo hi r x:=by
 obtain⟨f,g,r,y,e,_,_,a,c,d⟩:=h.get (kT.1 hx).1;injection e with e
 injection e with e1 e2
 subst e1;subst e2;rw [hx] at a;have:=kS a.out;subst this;exact⟨r,c,d⟩
end
theorem Lst.ay (h:Reads W lo hi 1 A xs.length (zag xs)):Lst zbA W lo hi A xs:=⟨zag xs,h,fun i r x hr hx=>by
 simp only [zag,List.getElem?_map,hx,Option.map_some] at hr
 exact (kS hr).symm⟩
theorem Lst.ai (h:W.ownsRow base 3 1 (fQ A xs.length c) xs.length (zag xs)):Lst zbA W base W.heap.size A xs:=Lst.ay (eQ h)
theorem Lst.num (h:Lst zbA W lo hi A xs)(hk:k<xs.length):∃ b o x,A=gO ⟨b,o,gP⟩/\lo<=b/\b<hi/\Hid (xs[k]?=gO x)/\W.cell? ⟨b,o+k,gP⟩=gO (.int kA (x:Nat)):=by
 obtain⟨b,o,r,x,e,h1,h2,a,c,d⟩:=h.get hk;exact⟨b,o,x,e,h1,h2,a,by rw [c,d]⟩
theorem Lst.num2 (h:Lst zbA W lo hi (gO ⟨b,o,gP⟩) xs)(hx:xs[k]?=gO x):W.cell? ⟨b,o+k,gP⟩=gO (.int kA (x:Nat)):=by
 obtain⟨r,h1,h2⟩:=h.get2 hx;rw [h1,h2]
def Grl {α:Type}(P:Lay α) (W:kJ) (base:Nat) (e:TypeId) (v:kL) (xs:List α):Prop:=
 ∃ rows:List kL,W.ownsRow base e 1 v xs.length rows/\∀ (i:Nat) (r:kL) (x:α),rows[i]?=gO r->xs[i]?=gO x->∃ lo hi,base<=lo/\hi<=W.heap.size/\P W lo hi r x/\∀ b,v.ownBlock=gO b->b<lo\/hi<=b
section
variable {α:Type}{P:Lay α}{W W':kJ}{base:Nat}{e:TypeId}{v:kL}{xs:List α}
theorem Grl.form (h:Grl P W base e v xs):∃ A c,v=fQ A xs.length c:=by
 obtain⟨a,h1,_⟩:=h;exact zi h1
theorem Grl.lst (hP:Lay.Ok P)  (h:Grl P W base e (fQ A n c) xs):Lst P W base W.heap.size A xs:=by
 obtain⟨a,h1,h2⟩:=h;have j:n=xs.length:=by
  obtain⟨k,l,g⟩:=zi h1;injection g
 subst j;refine⟨a,eQ h1,fun i r x hr hx=>?_⟩;obtain⟨o,m,b,d,f,_⟩:=h2 i r x hr hx;exact hP.more f b d
theorem Grl.push (hP:Lay.Ok P){v':kL}{x:α}(h2:∀ (i:Nat) (r:kL) (x:α),rows[i]?=gO r->xs[i]?=gO x->∃ lo hi,base<=lo/\hi<=W.heap.size/\P W lo hi r x/\∀ b,v.ownBlock=gO b->b<lo\/hi<=b)(h1:W.ownsRow base e 1 v xs.length rows)
  (hx:Ext W W1) (hr:P W1 lo hi r x) (hlo:W.heap.size<=lo) (hb:base<=lo) (hhi:hi<=W1.heap.size) (zkr:W'.ownsRow base e 1 v' (xs.length+1) (rows++[r])) (hg:W1.grownBy W' v.ownBlock) (hat:v'.ownBlock=v.ownBlock\/v'.ownBlock=gO (W1.heap.size+1)):Grl P W' base e v' (xs++[x]):=by
 have g:rows.length=xs.length:=by have:=zdc h1;omega
 have c:Frm (fun k=>v.ownBlock=gO k) W1 W':=Frm.ae hg;refine⟨rows++[r],by rw [eA,eH];exact zkr,fun i s y hs hy=>?_⟩;rcases fI i rows.length with a | a | a
 ·rw [dJ a] at hs;rw [dJ oM] at hy;obtain⟨j,f,m,n,o,l⟩:=h2 i s y hs hy;refine⟨j,f,m,dW n (dW hx.size c.size),hP.frm (hP.frm o hx (fun _ _ _ h=>h)) c (fun k hk1 hk2 hk=>by have:=l k hk;omega),fun b hb'=>?_⟩;rcases hat with d|d
  ·rw [d] at hb';exact l b hb'
  ·rw [d] at hb';have:=kS hb';have:=hx.size;omega
 ·rw [eD oM,a,gK] at hs;rw [eD oM,a,g,gK] at hy;simp at hs hy;subst hs;subst hy;refine⟨lo,hi,hb,dW hhi c.size,hP.frm hr c (fun k hk1 hk2 hk=>by have:=(h1.lt k hk).2;omega),fun b hb'=>?_⟩;rcases hat with d|d
  ·rw [d] at hb';have:=(h1.lt b hb').2;omega
  ·rw [d] at hb';have:=kS hb';omega
 ·rw [eJ (by simp;omega)] at hs;cases hs
theorem Grl.push2 (hP:Lay.Ok P){x:α}(h2:∀ (i:Nat) (r:kL) (x:α),rows[i]?=gO r->xs[i]?=gO x->∃ lo hi,base<=lo/\hi<=W.heap.size/\P W lo hi r x/\∀ b,v.ownBlock=gO b->b<lo\/hi<=b)(h1:W.ownsRow base e 1 v xs.length rows)
  (hx:Ext W W1) (hr:P W1 lo hi r x) (hlo:W.heap.size<=lo) (hb:base<=lo) (hhi:hi<=W1.heap.size) (zkr:W'.ownsRow base e 1 (fQ (gO g) (xs.length+1) cap) (xs.length+1) (rows++[r])) (hg:W1.grownBy W' v.ownBlock) (hat:v.ownBlock=gO g\/g=W1.heap.size+1):Grl P W' base e (fQ (gO g) (xs.length+1) cap) (xs++[x]):=
 Grl.push hP h2 h1 hx hr hlo hb hhi zkr hg (by
  rcases hat with h|h
  ·exact Or.inl h.symm
  ·exact Or.inr (by rw [h];rfl))
end
section
variable {P:Program}{ops:Array Oper}{Q:Exit->Act->kJ->Prop}{md:Region.Mode}{S:Array Bool->kJ->Prop}
def wpAnyL (P:Program) (md:Region.Mode) (ops:Array Oper) (Q:Exit->Act->kJ->Prop) (S:Array Bool->kJ->Prop):Nat->Array Bool->Act->kJ->Prop
 |0,listed,a,w=>Region.ready md ops listed=[]/\Q .normal a w
 |fuel+1,listed,a,w =>
  (Region.ready md ops listed=[]->Q .normal a w) /\
  ∀ i∈Region.ready md ops listed,wpOp P ops Q i (fun a' w'=>S (listed.setIfInBounds i kC) w'/\wpAnyL P md ops Q S fuel (listed.setIfInBounds i kC) a' w') a w
theorem zgN:∀ (fuel:Nat) (listed:Array Bool) (a:Act) (w:kJ),wpAnyL P md ops Q S fuel listed a w->wpAny P md ops Q fuel listed a w
 |0,_,_,_,h=>h
 |fuel+1,_,_,_,h=>⟨h.1,fun i hi=>wpOp_mono (fun a' w' h'=>zgN fuel _ a' w' h'.2) (h.2 i hi)⟩
theorem wpAnyL_first {oi:Oper}{Si:kJ->Prop}{G:Array Bool->Prop}(hi:ops[i]?=gO oi)(hsel:∀ (j:Nat) (o:Oper) cs b,ops[j]?=gO o->o.op≠.select cs b)
  (hQ:∀ c a w,Q (.panic c) (a.put oi.dst v) w->Q (.panic c) a w)
  (hG:∀ listed j,j∈Region.ready md ops listed->G listed->G (listed.setIfInBounds j kC))
  (hSi:∀ listed w,G listed->listed.getD i kC=kK->S listed w->Si w)
  (hup:∀ listed w,S listed w->S (listed.setIfInBounds i kC) w) (hdn:∀ listed w,listed.getD i kC=kK->S (listed.setIfInBounds i kC) w->S listed w) :
  ∀ (fuel:Nat) (listed:Array Bool) (a:Act) (w:kJ),G listed ->
   (∀ j oj,ops[j]?=gO oj->j≠i->listed.getD j kC=kK->(∀ e∈oj.after,Region.binds md e=kC->e.on≠i)->oi.apart ops oj=kC) ->
   i∈Region.ready md ops listed->YieldsIf P ops Si oi v a->S listed w ->
   wpAnyL P md ops Q S fuel (listed.setIfInBounds i kC) (a.put oi.dst v) w->wpAnyL P md ops Q S (fuel+1) listed a w:=by
 intro fuel
 induction fuel with
 |zero =>
  intro listed a w hg _ hr hy hS H;refine⟨fun h=>(by rw [h] at hr;cases hr),fun j hj=>?_⟩
  by_cases hji:j=i
  ·subst hji;exact hy.wpOp hi (hSi _ _ hg (mem_ready.1 hr).1 hS) ⟨hup _ _ hS,H⟩
  ·have:=ready_mono hj hji;rw [H.1] at this;cases this
 |succ fuel ih =>
  intro listed a w hg hfree hr hy hS H;refine⟨fun h=>(by rw [h] at hr;cases hr),fun j hj=>?_⟩
  by_cases hji:j=i
  ·subst hji;exact hy.wpOp hi (hSi _ _ hg (mem_ready.1 hr).1 hS) ⟨hup _ _ hS,H⟩
  ·have h1:=H.2 j (ready_mono hj hji);obtain⟨f,oj,g,l⟩:=mem_ready.1 hj;have n:∀ e∈oj.after,Region.binds md e=kC->e.on≠i:=fun e he hb heq=>by
    have h1:=l e he hb;have q:=(mem_ready.1 hr).1;rw [heq] at h1;rcases e7 i listed.size with p | p
    ·simp [p] at q h1;rw [q] at h1;cases h1
    ·simp [Array.getElem?_eq_none p] at h1
   have h2:=wpOp_putIf g (hfree j oj g hji f n) (fun cs b=>hsel i oi cs b hi) (fun cs b=>hsel j oj cs b g) hQ hy h1;have d:∀ k ok,ops[k]?=gO ok->k≠i->(listed.setIfInBounds j kC).getD k kC=kK ->
     (∀ e∈ok.after,Region.binds md e=kC->e.on≠i)->oi.apart ops ok=kC:=fun k ok hk hki hun hno=>by
    refine hfree k ok hk hki ?_ hno
    by_cases hjk:j=k
    ·subst hjk;exact f
    ·rw [getD_set_ne kC hjk] at hun;exact hun
   have m:(listed.setIfInBounds j kC).getD i kC=kK:=by
    rw [getD_set_ne kC hji];exact (mem_ready.1 hr).1
   refine wpOp_mono (fun a' w' h3=>?_) h2;have r:S (listed.setIfInBounds j kC) w':=hdn _ _ m (by rw [Array.setIfInBounds_comm _ _ hji];exact h3.2.1);refine⟨r,ih (listed.setIfInBounds j kC) a' w' (hG _ _ hj hg) d (ready_mono hr (Ne.symm hji)) h3.1 r ?_⟩;rw [Array.setIfInBounds_comm _ _ hji];exact h3.2.2
end
def Clo (l:List Oper) (listed:Array Bool):Prop:=∀ j,listed.getD j kK=kC->∀ o,l[j]?=gO o->∀ e∈o.after,Region.binds .any e=kC->listed.getD e.on kK=kC
def below (l:List Oper):Nat->Nat->Nat->Bool
 |0,_,_=>kK
 |f+1,t,i=>match l[t]? with
  |some o=>o.after.any fun e=>Region.binds .any e&&(e.on==i || below l f e.on i)
  |none=>kK
theorem zgA {l:List Oper}{listed:Array Bool}(hc:Clo l listed):∀ (f t i:Nat),below l f t i=kC->listed.getD t kK=kC->listed.getD i kK=kC
 |0,_,_,h,_=>by simp [below] at h
 |f+1,t,i,h,ht=>by
  unfold below at h
  cases ho:l[t]? with
  |none=>simp [ho] at h
  |some o =>
   simp only [ho] at h
   obtain⟨e,he,hb⟩:=Array.any_eq_true'.1 h
   simp only [dI,gS,beq_iff_eq] at hb
   have h1:=hc t ht o ho e he hb.1
   rcases hb.2 with h2|h2
   ·rw [<- h2];exact h1
   ·exact zgA hc f e.on i h2 h1
theorem zbD {l:List Oper}{listed:Array Bool}(hj:j∈Region.ready .any l.toArray listed)(h:Clo l listed):Clo l (listed.setIfInBounds j kC):=by
 intro k hk o ho e he hb
 by_cases hkj:j=k
 ·subst hkj;obtain⟨_,b,ho',a⟩:=mem_ready.1 hj;have:b=o:=by
   have h1:l[j]?=gO b:=by simpa using ho'
   rw [ho] at h1;exact (kS h1).symm
  subst this;exact getD_set_true (a e he hb)
 ·rw [getD_set_ne kK hkj] at hk;exact getD_set_true (h k hk o ho e he hb)
def pureOp:Op->Bool
 |.move _ | .assign _ | .pick _ _ _ | .binOp _ _ _ _ _ | .unOp _ _ _ | .fieldAddr _ _ _ | .field _ _ _ | .extract _ _ | .build _ _=>kC
 |_=>kK
inductive Ord where
 |nil:Ord
 |one:Nat->Ord->Ord
 |two:Nat->Ord->Nat->Ord->Ord
def Ord.of:List Nat->Ord
 |[]=>.nil
 |i :: r=>.one i (Ord.of r)
def Ord.app:List Nat->Ord->Ord
 |[],o=>o
 |i :: r,o=>.one i (Ord.app r o)
def zfq (l:List Oper) (T:List Nat):Ord->Array Bool->Bool
 |.nil,listed=>(Region.ready .any l.toArray listed).isEmpty
 |.one i rest,listed =>
  (match l[i]? with
   |some o=>if zcx o.op then Region.free .any l.toArray listed i&&(Region.ready .any l.toArray listed).contains i&&!T.contains i&&(pureOp o.op || T.all fun t=>below l l.length t i)
    else Region.ready .any l.toArray listed==[i]
   |none=>kK)&&zfq l T rest (listed.setIfInBounds i kC)
 |.two i r j r',listed=>(i<l.length&&j<l.length&&Region.ready .any l.toArray listed==[i,j])&&(zfq l T r (listed.setIfInBounds i kC)&&zfq l T r' (listed.setIfInBounds j kC))
def zbc (P:Program) (l:List Oper) (T:List Nat) (Q:Exit->Act->kJ->Prop) (S:kJ->Prop):Ord->Act->kJ->Prop
 |.nil,a,w=>Q .normal a w
 |.one i rest,a,w=>match l[i]? with
  |some o=>if zcx o.op then ∃ v,YieldsIf P l.toArray (if pureOp o.op then fun _=>True else S) o v a/\zbc P l T Q S rest (a.put o.dst v) w
   else wpOp P l.toArray Q i (fun a' w'=>(T.contains i=kK->S w')/\zbc P l T Q S rest a' w') a w
  |none=>False
 |.two i r j r',a,w=>wpOp P l.toArray Q i (fun a' w'=>(T.contains i=kK->S w')/\zbc P l T Q S r a' w') a w/\wpOp P l.toArray Q j (fun a' w'=>(T.contains j=kK->S w')/\zbc P l T Q S r' a' w') a w
def Ord.len:Ord->Nat
 |.nil=>0
 |.one _ r=>r.len+1
 |.two _ r _ r'=>(if r.len=r'.len then r.len else 0)+1
def Ord.even:Ord->Bool
 |.nil=>kC
 |.one _ r=>r.even
 |.two _ r _ r'=>r.len==r'.len&&(r.even&&r'.even)
section
variable {P:Program}{l:List Oper}{Q:Exit->Act->kJ->Prop}{S:kJ->Prop}{T:List Nat}
def zea (T:List Nat) (listed:Array Bool):Prop:=∃ t∈T,listed.getD t kK=kC
theorem zdW (hs:Region.noSelect l.toArray=kC)(hQ:∀ (c:List PanicEntry) (a:Act) (d:Tmp) (v:kL) (w:kJ),Q (.panic c) (a.put (gO d) v) w->Q (.panic c) a w) :
  ∀ (ord:Ord) (listed:Array Bool) (a:Act) (w:kJ),listed.size=l.length->Clo l listed->ord.even=kC->zfq l T ord listed=kC->(zea T listed\/S w)->zbc P l T Q S ord a w ->
   wpAnyL P .any l.toArray Q (fun listed w=>zea T listed\/S w) ord.len listed a w
 |.nil,listed,a,w,_,_,_,hok,_,h=>by
  simp only [zfq,List.isEmpty_iff] at hok;exact⟨hok,h⟩
 |.one i rest,listed,a,w,hsz,hc,hev,hok,hS,h=>by
  cases ho:l[i]? with
  |none=>simp [zfq,ho] at hok
  |some o =>
   have hil:i<l.length:=(kT.1 ho).1;simp only [zfq,ho,dI] at hok;simp only [zbc,ho] at h
   by_cases hq:zcx o.op=kC
   ·rw [if_pos hq] at hok h;simp only [dI] at hok;obtain⟨⟨⟨⟨hf,hrd⟩,hnT⟩,hpure⟩,hrest⟩:=hok;obtain⟨v,hy,hr⟩:=h;have hmem:i∈Region.ready .any l.toArray listed:=by simpa using hrd
    have u:i∉T:=by simpa using hnT
    have g:∀ listed:Array Bool,zea T (listed.setIfInBounds i kC)↔zea T listed:=fun listed=>by
     constructor
     ·rintro ⟨t,p,q⟩;refine⟨t,p,?_⟩;rwa [getD_set_ne kK (by rintro rfl;exact u p)] at q
     ·rintro ⟨t,p,q⟩;exact⟨t,p,getD_set_true q⟩
    refine wpAnyL_first (G:=fun listed=>Clo l listed/\listed.size=l.length) (by simpa using ho) (Region.noSelect_spec hs)
     (fun c a w h=>by cases hd:o.dst with|none=>rw [hd] at h;exact h|some d=>rw [hd] at h;exact hQ c a d v w h)
     (fun li j m hg=>⟨zbD m hg.1,by simpa using hg.2⟩) ?_ (fun li w h=>h.imp (fun x=>(g li).2 x) id) (fun li w _ h=>h.imp (fun x=>(g li).1 x) id)
     rest.len listed a w ⟨hc,hsz⟩ (Region.free_spec (by simpa using ho) hf) hmem hy hS ?_
    ·intro li w' hg hun h
     by_cases hp:pureOp o.op=kC
     ·rw [if_pos hp];trivial
     ·rw [if_neg hp];rcases h with ⟨t,p,q⟩|h
      ·exfalso;simp only [hp,Bool.false_or] at hpure;have C:=List.all_eq_true.1 hpure t p;have h1:=zgA hg.1 _ _ _ C q;have h2:i<li.size:=by rw [hg.2];exact hil
       simp [h2] at hun h1;rw [h1] at hun;cases hun
      ·exact h
    ·exact zdW hs hQ rest _ _ _ (by simpa using hsz) (zbD hmem hc) hev hrest (hS.imp (fun x=>(g _).2 x) id) hr
   ·rw [if_neg hq] at hok h;have b:Region.ready .any l.toArray listed=[i]:=by simpa using hok.1
    have hmem:i∈Region.ready .any l.toArray listed:=by rw [b];simp
    refine⟨fun h0=>(by rw [h0] at b;cases b),fun j m=>?_⟩;rw [b] at m;rw [List.mem_singleton.1 m];refine wpOp_mono (fun a' w' h=>?_) h;have f:zea T (listed.setIfInBounds i kC)\/S w':=by
     cases hT:T.contains i
     ·exact Or.inr (h.1 hT)
     ·refine Or.inl ⟨i,by simpa using hT,?_⟩;have:i<listed.size:=oM;simp [this]
    exact⟨f,zdW hs hQ rest _ _ _ (by simpa using hsz) (zbD hmem hc) hev hok.2 f h.2⟩
 |.two i r j r',listed,a,w,hsz,hc,hev,hok,hS,h=>by
  simp only [Ord.even,dI,beq_iff_eq] at hev;simp only [zfq,dI,decide_eq_true_eq,beq_iff_eq] at hok;simp only [zbc] at h;obtain⟨⟨⟨B,m⟩,b⟩,y,z⟩:=hok;have s:(Ord.two i r j r').len=r.len+1:=by simp [Ord.len,hev.1]
  rw [s];have D:∀ k,k∈Region.ready .any l.toArray listed↔k=i\/k=j:=fun k=>by rw [b];simp
  have f:∀ k w',k<l.length->(T.contains k=kK->S w')->zea T (listed.setIfInBounds k kC)\/S w':=fun k w' hk hx=>by
   cases hT:T.contains k
   ·exact Or.inr (hx hT)
   ·refine Or.inl ⟨k,by simpa using hT,?_⟩;have:k<listed.size:=oM;simp [this]
  refine⟨fun h0=>(by rw [h0] at b;cases b),fun k hk=>?_⟩;rcases (D k).1 hk with n | n
  ·rw [n] at hk ⊢;refine wpOp_mono (fun a' w' h=>?_) h.1;exact⟨f _ _ B h.1,zdW hs hQ r _ _ _ (by simpa using hsz) (zbD hk hc) hev.2.1 y (f _ _ B h.1) h.2⟩
  ·rw [n] at hk ⊢;refine wpOp_mono (fun a' w' h=>?_) h.2;have:=zdW hs hQ r' _ _ _ (by simpa using hsz) (zbD hk hc) hev.2.2 z (f _ _ m h.1) h.2;rw [<- hev.1] at this;exact⟨f _ _ m h.1,this⟩
theorem clo_start (l:List Oper):Clo l (Array.replicate l.length kK):=by
 intro j hj;exfalso;rcases e7 j l.length with h|h
 ·simp [h] at hj
 ·simp [Nat.not_lt.2 h] at hj
theorem ziO (S:kJ->Prop) (T:List Nat) (ord:Ord)(hm:P.follows .mixedOrders=kC)(hlen:ord.len=l.length)(hev:ord.even=kC)(hs:Region.noSelect l.toArray=kC)(hok:zfq l T ord (Array.replicate l.length kK)=kC)
  (hQ:∀ (c:List PanicEntry) (a:Act) (d:Tmp) (v:kL) (w:kJ),Q (.panic c) (a.put (gO d) v) w->Q (.panic c) a w) (hS:S w.drew) (h:zbc P l T Q S ord a w.drew):(Code.region id l.toArray kC).wp P Q a w:=by
 refine wp_region_any hm ?_;have:=zgN _ _ _ _ (zdW hs hQ ord _ a w.drew sM (clo_start l) hev hok (Or.inr hS) h);rw [hlen] at this;simpa using this
theorem zaF (h:Q .normal a w):zbc P l T Q S .nil a w:=h
theorem tseq_pure {rest:Ord}{o:Oper}(ho:l[i]?=gO o)(hq:zcx o.op=kC) (_hp:pureOp o.op=kC)(hw:Region.wanted o (yielded l.toArray a.tmps)=kC)
  (hy:∀ W,(execOp a.eval o).run P W=.ok (.value v) W) (h:zbc P l T Q S rest (a.put o.dst v) w):zbc P l T Q S (.one i rest) a w:=by
 simp only [zbc,ho,hq,if_true];exact⟨v,.inl ⟨hw,fun W _=>hy W⟩,h⟩
theorem tseq_read {rest:Ord}{o:Oper}(ho:l[i]?=gO o)(hq:zcx o.op=kC)(hp:pureOp o.op=kK)(hw:Region.wanted o (yielded l.toArray a.tmps)=kC)
  (hy:∀ W,S W->(execOp a.eval o).run P W=.ok (.value v) W) (h:zbc P l T Q S rest (a.put o.dst v) w):zbc P l T Q S (.one i rest) a w:=by
 simp only [zbc,ho,hq,hp,if_true];exact⟨v,.inl ⟨hw,hy⟩,h⟩
theorem yT02a2 {P:Prop}(h:P:=by
 split
 ·exact⟨undef,.inr ⟨hw,rfl⟩,h⟩
 ·unfold wpOp;simp only [List.getElem?_toArray,ho,hw,Bool.false_eq_true,if_false];exact⟨fun _=>hS,h⟩
 ):P:=h
theorem tseq_skip {rest:Ord}{o:Oper}(ho:l[i]?=gO o)(hw:Region.wanted o (yielded l.toArray a.tmps)=kK)
  (hS:S w) (h:zbc P l T Q S rest (a.put o.dst undef) w):zbc P l T Q S (.one i rest) a w:=by
 simp only [zbc,ho];exact yT02a2
theorem zK {rest:Ord}{o:Oper}  
  (h:∀ K:Act->World->Prop,Shut (∀ a w,S w->zbc P l T Q S rest a w->K a w)->o.wp P a w K Q) (ho:l[i]?=some o:=by rfl) (hq:zcx o.op=false:=by rfl) (hw:Region.wanted o (yielded l.toArray a.tmps)=true:=by rfl):zbc P l T Q S (.one i rest) a w:=by
 simp only [zbc,ho,hq];unfold wpOp;simp only [e8,ho,hw,if_true];exact .inl (h _ fun a w hS hW=>⟨fun _=>hS,hW⟩)
theorem zad {rest:Ord}{o:Oper}  
  (h:∀ K:Act->World->Prop,Shut (∀ a w,zbc P l T Q S rest a w->K a w)->o.wp P a w K Q) (ho:l[i]?=some o:=by rfl) (hq:zcx o.op=false:=by rfl) (hT:T.contains i=true:=by rfl) (hw:Region.wanted o (yielded l.toArray a.tmps)=true:=by rfl):zbc P l T Q S (.one i rest) a w:=by
 simp only [zbc,ho,hq];unfold wpOp;simp only [e8,ho,hw,if_true];exact .inl (h _ fun a w hW=>⟨fun hn=>absurd (hn.symm.trans hT) dM,hW⟩)
end
section
variable {P:Program}{l:List Oper}{Q:Exit->Act->kJ->Prop}{S:kJ->Prop}{T:List Nat}
theorem yT02a1 {P:Prop}(h:P:=by
 constructor
 ·unfold wpOp;simp only [List.getElem?_toArray,ho,hw,if_true];exact .inl (h1 _ fun a w hS hW=>⟨fun _=>hS,hW⟩)
 ·unfold wpOp;simp only [List.getElem?_toArray,ho',hw',if_true];exact .inl (h2 _ fun a w hS hW=>⟨fun _=>hS,hW⟩)
 ):P:=h
theorem zgt {j:Nat}{r r':Ord}{o o':Oper}  
  (h1:∀ K:Act->World->Prop,Shut (∀ a w,S w->zbc P l T Q S r a w->K a w)->o.wp P a w K Q) (h2:∀ K:Act->World->Prop,Shut (∀ a w,S w->zbc P l T Q S r' a w->K a w)->o'.wp P a w K Q) (ho:l[i]?=some o:=by rfl) (ho':l[j]?=some o':=by rfl) (hw:Region.wanted o (yielded l.toArray a.tmps)=true:=by rfl) (hw':Region.wanted o' (yielded l.toArray a.tmps)=true:=by rfl):zbc P l T Q S (.two i r j r') a w:=by
 exact yT02a1
end
theorem zaB {P:Program}(wb w:kJ){o:Oper}{K:Act->kJ->Prop}{Q:Exit->Act->kJ->Prop}(s x:Operand) (t:TypeId)
  (ho:o.op=.call { callee:=.builtin .append,args:=#[s,x],argTypes:=#[t,t] })
  (e:TypeId) (z:kL) (size bytes:Nat) (ht:P.underlying t=gO (.slice e)) (hi:(P.info? e).map (fun i=>(i.zero,i.size,i.bytes))=gO (gO z,size,bytes)) (hzs:z.cells.size=size) (hsz:0<size)
  (v:kL) (n:Nat) (xs:List kL) (us:Array kL) (e':TypeId) (hs:a.eval s=v) (hx:a.eval x=fQ (gO w.heap.size) 1 1)
  (zkt:wb.heap.size<=w.heap.size) (zkr:w.ownsRow wb.heap.size e size v n xs) (hus:us.size=size) (h1:∀ u∈us.toList,u.oneCell'=kC)
  (h63:n+1<=maxLen) (hbytes:(n+1)*bytes<=140737488355328)
  (h:∀ g cap w',w'.ownsRow wb.heap.size e size (fQ (gO ⟨g,0,gP⟩) (n+1) cap) (n+1) (xs++us.toList)->w.grownBy w' v.ownBlock->(v.ownBlock=gO g\/g=w.heap.size+1)->g<w'.heap.size->K (a.put o.dst (fQ (gO ⟨g,0,gP⟩) (n+1) cap)) w') :
  o.wp P a (w.alloc (.cells us e')) K Q:=by
 obtain⟨i,c,d,f,l⟩:=info_parts hi;refine wp_append_lies (w.alloc (.cells us e')) s x t ho wb.heap.size e i z size bytes ht c d f l hzs hsz v n xs hs (zkr.alloc _) ⟨w.heap.size,0,gP⟩ 1 1 us.toList hx (by simpa using hus) ?_ h1 oM h63 hbytes (by simp;omega) (w.heap.size+1) sM ?_
 ·intro j u hu;rw [zZ,Nat.zero_add,(Blk.new w e' us).cell];simpa using hu
 ·intro g cap w' hown' hg hat hlt;have b:w.grownBy w' v.ownBlock:=⟨hg.os,hg.tape,hg.output,dW sM hg.size,fun k hk hne=>(hg.block k (by simp;omega) hne).trans (Below.heap_alloc w _ k hk)⟩;exact h g cap w' hown' b hat hlt
theorem zL {P:Program}(wb w:kJ){ops:Array Oper}{rest:List Oper}{o:Oper}{Q:Exit->Act->kJ->Prop}(hgd:o.guard=gP) (s x:Operand) (t:TypeId)
  (ho:o.op=.call { callee:=.builtin .append,args:=#[s,x],argTypes:=#[t,t] })
  (e:TypeId) (z:kL) (size bytes:Nat) (ht:P.underlying t=gO (.slice e)) (hi:(P.info? e).map (fun i=>(i.zero,i.size,i.bytes))=gO (gO z,size,bytes)) (hzs:z.cells.size=size) (hsz:0<size)
  (v:kL) (n:Nat) (xs:List kL) (us:Array kL) (e':TypeId) (hs:a.eval s=v) (hx:a.eval x=fQ (gO w.heap.size) 1 1)
  (zkt:wb.heap.size<=w.heap.size) (zkr:w.ownsRow wb.heap.size e size v n xs) (hus:us.size=size) (h1:∀ u∈us.toList,u.oneCell'=kC)
  (h63:n+1<=maxLen) (hbytes:(n+1)*bytes<=140737488355328)
  (h:∀ g cap w',w'.ownsRow wb.heap.size e size (fQ (gO ⟨g,0,gP⟩) (n+1) cap) (n+1) (xs++us.toList)->w.grownBy w' v.ownBlock->(v.ownBlock=gO g\/g=w.heap.size+1)->g<w'.heap.size->wpList P ops Q rest (a.put o.dst (fQ (gO ⟨g,0,gP⟩) (n+1) cap)) w') :
  wpList P ops Q (o :: rest) a (w.alloc (.cells us e')):=
 wpList_plain hgd fun _ hK=>zaB wb w s x t ho e z size bytes ht hi hzs hsz v n xs us e' hs hx zkt zkr hus h1 h63 hbytes fun g cap w' h2 h3 h4 h5=>hK _ _ (h g cap w' h2 h3 h4 h5)
theorem tQ {A B:Prop}(h:B) (k:Bx B->A:=by
 intro h0
 repeat (first|(refine tseq_skip rfl rfl aM ?_;simp only [Act.put,List.setIfInBounds_toArray,List.set_cons_zero,List.set_cons_succ])|(refine tseq_pure (v:=?_) rfl rfl rfl rfl (fun X=>?_) ?_;rotate_left;(focus (go_simp<;>with_reducible rfl));simp only [Act.put,List.setIfInBounds_toArray,List.set_cons_zero,List.set_cons_succ])|(refine tseq_read (v:=?_) rfl rfl rfl rfl (fun X hX=>?_) ?_;rotate_left;(focus (go_simp<;>with_reducible rfl));simp only [Act.put,List.setIfInBounds_toArray,List.set_cons_zero,List.set_cons_succ]))
 exact h0.out):A:=k ⟨h⟩
theorem tR {P:Program}{l:List Oper}{Q:Exit->Act->World->Prop}{id:Nat}(S:World->Prop) (T:List Nat) (ord:Ord)(h:zbc P l T Q S ord a w.drew)(hm:P.follows .mixedOrders=true:=by kernel_rfl)(hlen:ord.len=l.length:=by rfl)(hev:ord.even=true:=by kernel_rfl)(hs:Region.noSelect l.toArray=true:=by kernel_rfl)(hok:zfq l T ord (Array.replicate l.length false)=true:=by kernel_rfl)
  (hQ:∀ (c:List PanicEntry) (a:Act) (d:Tmp) (v:Value) (w:World),Q (.panic c) (a.put (some d) v) w->Q (.panic c) a w:=by exact fun _ _ _ _ _ h=>h) (hS:S w.drew:=by first|assumption|exact (dB _).drew|exact (Dr.refl _ _).drew|(refine fP ?_;assumption)):(Code.region id l.toArray true).wp P Q a w:=
 ziO S T ord hm hlen hev hs hok hQ hS h
def zgG:Op->Bool
 |.makeFunc _ _ _ | .move _ | .assign _ | .pick _ _ _ | .binOp _ _ _ _ _ | .unOp _ _ _ | .fieldAddr _ _ _ | .field _ _ _ | .extract _ _ | .build _ _=>kC
 |_=>kK
def zdv:Op->Bool
 |.makeFunc _ _ _=>kC
 |o=>zcx o
inductive zx where
 |nil:zx
 |one:Nat->zx->zx
 |two:Nat->zx->Nat->zx->zx
 |three:Nat->zx->Nat->zx->Nat->zx->zx
def zx.of:List Nat->zx
 |[]=>.nil
 |i :: r=>.one i (zx.of r)
def zx.app:List Nat->zx->zx
 |[],o=>o
 |i :: r,o=>.one i (zx.app r o)
def zdp (l:List Oper) (T:List Nat):zx->Array Bool->Bool
 |.nil,listed=>(Region.ready .any l.toArray listed).isEmpty
 |.one i rest,listed =>
  (match l[i]? with
   |some o=>if zdv o.op then Region.free .any l.toArray listed i&&(Region.ready .any l.toArray listed).contains i&&!T.contains i&&(zgG o.op || T.all fun t=>below l l.length t i)
    else Region.ready .any l.toArray listed==[i]
   |none=>kK)&&zdp l T rest (listed.setIfInBounds i kC)
 |.two i r j r',listed=>(i<l.length&&j<l.length&&Region.ready .any l.toArray listed==[i,j])&&(zdp l T r (listed.setIfInBounds i kC)&&zdp l T r' (listed.setIfInBounds j kC))
 |.three i r j r' k r'',listed=>(i<l.length&&j<l.length&&k<l.length&&Region.ready .any l.toArray listed==[i,j,k])&&(zdp l T r (listed.setIfInBounds i kC)&&zdp l T r' (listed.setIfInBounds j kC)&&zdp l T r'' (listed.setIfInBounds k kC))
def zat (P:Program) (l:List Oper) (T:List Nat) (Q:Exit->Act->kJ->Prop) (S:kJ->Prop):zx->Act->kJ->Prop
 |.nil,a,w=>Q .normal a w
 |.one i rest,a,w=>match l[i]? with
  |some o=>if zdv o.op then ∃ v,YieldsIf P l.toArray (if zgG o.op then fun _=>True else S) o v a/\zat P l T Q S rest (a.put o.dst v) w
   else wpOp P l.toArray Q i (fun a' w'=>(T.contains i=kK->S w')/\zat P l T Q S rest a' w') a w
  |none=>False
 |.two i r j r',a,w=>wpOp P l.toArray Q i (fun a' w'=>(T.contains i=kK->S w')/\zat P l T Q S r a' w') a w/\wpOp P l.toArray Q j (fun a' w'=>(T.contains j=kK->S w')/\zat P l T Q S r' a' w') a w
 |.three i r j r' k r'',a,w=>wpOp P l.toArray Q i (fun a' w'=>(T.contains i=kK->S w')/\zat P l T Q S r a' w') a w/\wpOp P l.toArray Q j (fun a' w'=>(T.contains j=kK->S w')/\zat P l T Q S r' a' w') a w/\wpOp P l.toArray Q k (fun a' w'=>(T.contains k=kK->S w')/\zat P l T Q S r'' a' w') a w
def zx.len:zx->Nat
 |.nil=>0
 |.one _ r=>r.len+1
 |.two _ r _ _=>r.len+1
 |.three _ r _ _ _ _=>r.len+1
def zx.even:zx->Bool
 |.nil=>kC
 |.one _ r=>r.even
 |.two _ r _ r'=>r.len==r'.len&&(r.even&&r'.even)
 |.three _ r _ r' _ r''=>(r.len==r'.len&&r.len==r''.len)&&(r.even&&r'.even&&r''.even)
section
variable {P:Program}{l:List Oper}{Q:Exit->Act->kJ->Prop}{S:kJ->Prop}{T:List Nat}
theorem zcd (hs:Region.noSelect l.toArray=kC)(hQ:∀ (c:List PanicEntry) (a:Act) (d:Tmp) (v:kL) (w:kJ),Q (.panic c) (a.put (gO d) v) w->Q (.panic c) a w) :
  ∀ (ord:zx) (listed:Array Bool) (a:Act) (w:kJ),listed.size=l.length->Clo l listed->ord.even=kC->zdp l T ord listed=kC->(zea T listed\/S w)->zat P l T Q S ord a w ->
   wpAnyL P .any l.toArray Q (fun listed w=>zea T listed\/S w) ord.len listed a w
 |.nil,listed,a,w,_,_,_,hok,_,h=>by
  simp only [zdp,List.isEmpty_iff] at hok;exact⟨hok,h⟩
 |.one i rest,listed,a,w,hsz,hc,hev,hok,hS,h=>by
  cases ho:l[i]? with
  |none=>simp [zdp,ho] at hok
  |some o =>
   have hil:i<l.length:=(kT.1 ho).1;simp only [zdp,ho,dI] at hok;simp only [zat,ho] at h
   by_cases hq:zdv o.op=kC
   ·rw [if_pos hq] at hok h;simp only [dI] at hok;obtain⟨⟨⟨⟨hf,hrd⟩,hnT⟩,hpure⟩,hrest⟩:=hok;obtain⟨v,hy,hr⟩:=h;have hmem:i∈Region.ready .any l.toArray listed:=by simpa using hrd
    have D:i∉T:=by simpa using hnT
    have p:∀ listed:Array Bool,zea T (listed.setIfInBounds i kC)↔zea T listed:=fun listed=>by
     constructor
     ·rintro ⟨t,z,C⟩;refine⟨t,z,?_⟩;rwa [getD_set_ne kK (by rintro rfl;exact D z)] at C
     ·rintro ⟨t,z,C⟩;exact⟨t,z,getD_set_true C⟩
    refine wpAnyL_first (G:=fun listed=>Clo l listed/\listed.size=l.length) (by simpa using ho) (Region.noSelect_spec hs)
     (fun c a w h=>by cases hd:o.dst with|none=>rw [hd] at h;exact h|some d=>rw [hd] at h;exact hQ c a d v w h)
     (fun li j s hg=>⟨zbD s hg.1,by simpa using hg.2⟩) ?_ (fun li w h=>h.imp (fun x=>(p li).2 x) id) (fun li w _ h=>h.imp (fun x=>(p li).1 x) id)
     rest.len listed a w ⟨hc,hsz⟩ (Region.free_spec (by simpa using ho) hf) hmem hy hS ?_
    ·intro li w' hg hun h
     by_cases hp:zgG o.op=kC
     ·rw [if_pos hp];trivial
     ·rw [if_neg hp];rcases h with ⟨t,z,C⟩|h
      ·exfalso;simp only [hp,Bool.false_or] at hpure;have J:=List.all_eq_true.1 hpure t z;have h1:=zgA hg.1 _ _ _ J C;have h2:i<li.size:=by rw [hg.2];exact hil
       simp [h2] at hun h1;rw [h1] at hun;cases hun
      ·exact h
    ·exact zcd hs hQ rest _ _ _ (by simpa using hsz) (zbD hmem hc) hev hrest (hS.imp (fun x=>(p _).2 x) id) hr
   ·rw [if_neg hq] at hok h;have b:Region.ready .any l.toArray listed=[i]:=by simpa using hok.1
    have hmem:i∈Region.ready .any l.toArray listed:=by rw [b];simp
    refine⟨fun h0=>(by rw [h0] at b;cases b),fun j s=>?_⟩;rw [b] at s;rw [List.mem_singleton.1 s];refine wpOp_mono (fun a' w' h=>?_) h;have f:zea T (listed.setIfInBounds i kC)\/S w':=by
     cases hT:T.contains i
     ·exact Or.inr (h.1 hT)
     ·refine Or.inl ⟨i,by simpa using hT,?_⟩;have:i<listed.size:=oM;simp [this]
    exact⟨f,zcd hs hQ rest _ _ _ (by simpa using hsz) (zbD hmem hc) hev hok.2 f h.2⟩
 |.two i r j r',listed,a,w,hsz,hc,hev,hok,hS,h=>by
  simp only [zx.even,dI,beq_iff_eq] at hev;simp only [zdp,dI,decide_eq_true_eq,beq_iff_eq] at hok;simp only [zat] at h;obtain⟨⟨⟨B,s⟩,b⟩,m,n⟩:=hok;have g:(zx.two i r j r').len=r.len+1:=rfl;rw [g];have F:∀ k,k∈Region.ready .any l.toArray listed↔k=i\/k=j:=fun k=>by rw [b];simp
  have f:∀ k w',k<l.length->(T.contains k=kK->S w')->zea T (listed.setIfInBounds k kC)\/S w':=fun k w' u hx=>by
   cases hT:T.contains k
   ·exact Or.inr (hx hT)
   ·refine Or.inl ⟨k,by simpa using hT,?_⟩;have:k<listed.size:=oM;simp [this]
  refine⟨fun h0=>(by rw [h0] at b;cases b),fun k u=>?_⟩;rcases (F k).1 u with y | y
  ·rw [y] at u ⊢;refine wpOp_mono (fun a' w' h=>?_) h.1;exact⟨f _ _ B h.1,zcd hs hQ r _ _ _ (by simpa using hsz) (zbD u hc) hev.2.1 m (f _ _ B h.1) h.2⟩
  ·rw [y] at u ⊢;refine wpOp_mono (fun a' w' h=>?_) h.2;have:=zcd hs hQ r' _ _ _ (by simpa using hsz) (zbD u hc) hev.2.2 n (f _ _ s h.1) h.2;rw [<- hev.1] at this;exact⟨f _ _ s h.1,this⟩
 |.three i r j r' k r'',listed,a,w,hsz,hc,hev,hok,hS,h=>by
  simp only [zx.even,dI,beq_iff_eq] at hev;simp only [zdp,dI,decide_eq_true_eq,beq_iff_eq] at hok;simp only [zat] at h;obtain⟨⟨⟨⟨B,s⟩,u⟩,b⟩,⟨m,n⟩,E⟩:=hok;obtain⟨⟨H,I⟩,⟨L,M⟩,O⟩:=hev;have g:(zx.three i r j r' k r'').len=r.len+1:=rfl;rw [g];have F:∀ x,x∈Region.ready .any l.toArray listed↔x=i\/x=j\/x=k:=fun x=>by rw [b];simp
  have f:∀ k w',k<l.length->(T.contains k=kK->S w')->zea T (listed.setIfInBounds k kC)\/S w':=fun k w' u hx=>by
   cases hT:T.contains k
   ·exact Or.inr (hx hT)
   ·refine Or.inl ⟨k,by simpa using hT,?_⟩;have:k<listed.size:=oM;simp [this]
  refine⟨fun h0=>(by rw [h0] at b;cases b),fun x hx=>?_⟩;rcases (F x).1 hx with q | q | q
  ·rw [q] at hx ⊢;refine wpOp_mono (fun a' w' h=>?_) h.1;exact⟨f _ _ B h.1,zcd hs hQ r _ _ _ (by simpa using hsz) (zbD hx hc) L m (f _ _ B h.1) h.2⟩
  ·rw [q] at hx ⊢;refine wpOp_mono (fun a' w' h=>?_) h.2.1;have:=zcd hs hQ r' _ _ _ (by simpa using hsz) (zbD hx hc) M n (f _ _ s h.1) h.2;rw [<- H] at this;exact⟨f _ _ s h.1,this⟩
  ·rw [q] at hx ⊢;refine wpOp_mono (fun a' w' h=>?_) h.2.2;have:=zcd hs hQ r'' _ _ _ (by simpa using hsz) (zbD hx hc) O E (f _ _ u h.1) h.2;rw [<- I] at this;exact⟨f _ _ u h.1,this⟩
theorem zbz (S:kJ->Prop) (T:List Nat) (ord:zx)(hm:P.follows .mixedOrders=kC)(hlen:ord.len=l.length)(hev:ord.even=kC)(hs:Region.noSelect l.toArray=kC)(hok:zdp l T ord (Array.replicate l.length kK)=kC)
  (hQ:∀ (c:List PanicEntry) (a:Act) (d:Tmp) (v:kL) (w:kJ),Q (.panic c) (a.put (gO d) v) w->Q (.panic c) a w) (hS:S w.drew) (h:zat P l T Q S ord a w.drew):(Code.region id l.toArray kC).wp P Q a w:=by
 refine wp_region_any hm ?_;have:=zgN _ _ _ _ (zcd hs hQ ord _ a w.drew sM (clo_start l) hev hok (Or.inr hS) h);rw [hlen] at this;simpa using this
theorem zg (h:Q .normal a w):zat P l T Q S .nil a w:=h
theorem useq_pure {rest:zx}{o:Oper}(ho:l[i]?=gO o)(hq:zdv o.op=kC) (_hp:zgG o.op=kC)(hw:Region.wanted o (yielded l.toArray a.tmps)=kC)
  (hy:∀ W,(execOp a.eval o).run P W=.ok (.value v) W) (h:zat P l T Q S rest (a.put o.dst v) w):zat P l T Q S (.one i rest) a w:=by
 simp only [zat,ho,hq,if_true];exact⟨v,.inl ⟨hw,fun W _=>hy W⟩,h⟩
theorem zbL {rest:zx}{o:Oper}(ho:l[i]?=gO o)(hq:zdv o.op=kC)(hp:zgG o.op=kK)(hw:Region.wanted o (yielded l.toArray a.tmps)=kC)
  (hy:∀ W,S W->(execOp a.eval o).run P W=.ok (.value v) W) (h:zat P l T Q S rest (a.put o.dst v) w):zat P l T Q S (.one i rest) a w:=by
 simp only [zat,ho,hq,hp,if_true];exact⟨v,.inl ⟨hw,hy⟩,h⟩
theorem useq_skip {rest:zx}{o:Oper}(ho:l[i]?=gO o)(hw:Region.wanted o (yielded l.toArray a.tmps)=kK)
  (hS:S w) (h:zat P l T Q S rest (a.put o.dst undef) w):zat P l T Q S (.one i rest) a w:=by
 simp only [zat,ho];exact yT02a2
theorem ze {rest:zx}{o:Oper}  
  (h:∀ K:Act->World->Prop,Shut (∀ a w,S w->zat P l T Q S rest a w->K a w)->o.wp P a w K Q) (ho:l[i]?=some o:=by rfl) (hq:zdv o.op=false:=by rfl) (hw:Region.wanted o (yielded l.toArray a.tmps)=true:=by rfl):zat P l T Q S (.one i rest) a w:=by
 simp only [zat,ho,hq];unfold wpOp;simp only [e8,ho,hw,if_true];exact .inl (h _ fun a w hS hW=>⟨fun _=>hS,hW⟩)
theorem zb {rest:zx}{o:Oper}  
  (h:∀ K:Act->World->Prop,Shut (∀ a w,zat P l T Q S rest a w->K a w)->o.wp P a w K Q) (ho:l[i]?=some o:=by rfl) (hq:zdv o.op=false:=by rfl) (hT:T.contains i=true:=by rfl) (hw:Region.wanted o (yielded l.toArray a.tmps)=true:=by rfl):zat P l T Q S (.one i rest) a w:=by
 simp only [zat,ho,hq];unfold wpOp;simp only [e8,ho,hw,if_true];exact .inl (h _ fun a w hW=>⟨fun hn=>absurd (hn.symm.trans hT) dM,hW⟩)
end
section
variable {P:Program}{l:List Oper}{Q:Exit->Act->kJ->Prop}{S:kJ->Prop}{T:List Nat}
theorem zm {j:Nat}{r r':zx}{o o':Oper}  
  (h1:∀ K:Act->World->Prop,Shut (∀ a w,S w->zat P l T Q S r a w->K a w)->o.wp P a w K Q) (h2:∀ K:Act->World->Prop,Shut (∀ a w,S w->zat P l T Q S r' a w->K a w)->o'.wp P a w K Q) (ho:l[i]?=some o:=by rfl) (ho':l[j]?=some o':=by rfl) (hw:Region.wanted o (yielded l.toArray a.tmps)=true:=by rfl) (hw':Region.wanted o' (yielded l.toArray a.tmps)=true:=by rfl):zat P l T Q S (.two i r j r') a w:=by
 exact yT02a1
theorem zaR {j k:Nat}{r r' r'':zx}{o o' o'':Oper}  
  (h1:∀ K:Act->World->Prop,Shut (∀ a w,S w->zat P l T Q S r a w->K a w)->o.wp P a w K Q) (h2:∀ K:Act->World->Prop,Shut (∀ a w,S w->zat P l T Q S r' a w->K a w)->o'.wp P a w K Q) (h3:∀ K:Act->World->Prop,Shut (∀ a w,S w->zat P l T Q S r'' a w->K a w)->o''.wp P a w K Q) (ho:l[i]?=some o:=by rfl) (ho':l[j]?=some o':=by rfl) (ho'':l[k]?=some o'':=by rfl) (hw:Region.wanted o (yielded l.toArray a.tmps)=true:=by rfl) (hw':Region.wanted o' (yielded l.toArray a.tmps)=true:=by rfl) (hw'':Region.wanted o'' (yielded l.toArray a.tmps)=true:=by rfl):zat P l T Q S (.three i r j r' k r'') a w:=by
 refine⟨?_,?_,?_⟩
 ·unfold wpOp;simp only [e8,ho,hw,if_true];exact .inl (h1 _ fun a w hS hW=>⟨fun _=>hS,hW⟩)
 ·unfold wpOp;simp only [e8,ho',hw',if_true];exact .inl (h2 _ fun a w hS hW=>⟨fun _=>hS,hW⟩)
 ·unfold wpOp;simp only [e8,ho'',hw'',if_true];exact .inl (h3 _ fun a w hS hW=>⟨fun _=>hS,hW⟩)
end
theorem uQ {A B:Prop}(h:B) (k:Bx B->A:=by
 intro h0
 repeat (first|(refine useq_skip rfl rfl aM ?_;simp only [Act.put,List.setIfInBounds_toArray,List.set_cons_zero,List.set_cons_succ])|(refine useq_pure (v:=?_) rfl rfl rfl rfl (fun X=>?_) ?_;rotate_left;(focus (go_simp<;>with_reducible rfl));simp only [Act.put,List.setIfInBounds_toArray,List.set_cons_zero,List.set_cons_succ])|(refine zbL (v:=?_) rfl rfl rfl rfl (fun X hX=>?_) ?_;rotate_left;(focus (go_simp<;>with_reducible rfl));simp only [Act.put,List.setIfInBounds_toArray,List.set_cons_zero,List.set_cons_succ]))
 exact h0.out):A:=k ⟨h⟩
theorem uR {P:Program}{l:List Oper}{Q:Exit->Act->World->Prop}{id:Nat}(S:World->Prop) (T:List Nat) (ord:zx)(h:zat P l T Q S ord a w.drew)(hm:P.follows .mixedOrders=true:=by kernel_rfl)(hlen:ord.len=l.length:=by kernel_rfl)(hev:ord.even=true:=by kernel_rfl)(hs:Region.noSelect l.toArray=true:=by kernel_rfl)(hok:zdp l T ord (Array.replicate l.length false)=true:=by kernel_rfl)
  (hQ:∀ (c:List PanicEntry) (a:Act) (d:Tmp) (v:Value) (w:World),Q (.panic c) (a.put (some d) v) w->Q (.panic c) a w:=by exact fun _ _ _ _ _ h=>h) (hS:S w.drew:=by first|assumption|exact (dB _).drew|(refine fP ?_;assumption)):(Code.region id l.toArray true).wp P Q a w:=
 zbz S T ord hm hlen hev hs hok hQ hS h
theorem info_pmov:(kN.info? 147).map (fun i=>(i.zero,i.size,i.bytes))=gO (gO (.pointer gP),1,8):=kM
def ptrs (bs:List Nat):List kL:=bs.map fun b=>.pointer (gO ⟨b,0,gP⟩)
def MovL (w:kJ) (bs:List Nat) (ss:List Sys):Prop:=bs.length=ss.length/\∀ (i b:Nat) (s:Sys),bs[i]?=gO b->ss[i]?=gO s->MovB w b s.edges
theorem MovL.ext (h:MovL w bs ss)(hx:Ext w w'):MovL w' bs ss:=⟨h.1,fun i b s hb hs=>(h.2 i b s hb hs).ext hx⟩
theorem MovL.snoc (h:MovL w bs ss)(hx:Ext w w')(hb:MovB w' b s.edges):MovL w' (bs++[b]) (ss++[s]):=by
 have c:=h.1;refine⟨by simp [c],fun i b' s' hb' hs'=>?_⟩;rcases fI i bs.length with a|a|a
 ·rw [dJ a] at hb';rw [dJ oM] at hs';exact (h.2 i b' s' hb' hs').ext hx
 ·rw [eD oM,a,gK] at hb';rw [eD oM,a,c,gK] at hs';simp at hb' hs';subst hb';subst hs';exact hb
 ·rw [eJ (by simp;omega)] at hb';cases hb'
theorem MovL.frm (h:MovL w bs ss)(hx:Frm S w w')(hS:∀ (b:Nat) (cs:Array kL),Blk w b 249 cs->¬ S b):MovL w' bs ss:=
 ⟨h.1,fun i b s hb hs=>by
  obtain⟨cs,hB,hc⟩:=h.2 i b s hb hs
  exact⟨cs,hB.frm hx (hS b cs hB),hc⟩⟩
structure PtAt (w:kJ) (lo hi:Nat) (A:Option Addr) (k lo' hi':Nat) (M:Option Addr) (ss:List Sys):Prop where
 sys:zeo w lo hi A k ss
 mov:∃ bs,Reads w lo' hi' 1 M k (ptrs bs)/\MovL w bs ss
theorem PtAt.ext {M:Option Addr}(h:PtAt w lo hi A k lo' hi' M ss)(hx:Ext w w'):PtAt w' lo hi A k lo' hi' M ss:=by
 obtain⟨a,c,b⟩:=h.mov;exact⟨h.sys.ext hx,a,c.ext hx,b.ext hx⟩
structure Grp (w0 W:kJ) (G:Nat) (a v:kL) (bs:List Nat) (ss:List Sys):Prop where
 blk:Blk W G 108 #[a,v]
 own:W.ownsRow w0.heap.size 147 1 v bs.length (ptrs bs)
 mov:MovL W bs ss
 ext:Ext w0 W
 hG:w0.heap.size<=G
theorem Grp.av {a:kL}(h:Grp w0 W G a v bs ss)(hb:Ext W W'):Grp w0 W' G a v bs ss:=⟨h.blk.ext hb,zh h.own hb,h.mov.ext hb,h.ext.trans hb,h.hG⟩
theorem zN {xs:List kL}(h:w.ownsRow base e size v n xs)(hB:Blk w G t cs)(hne:e≠t) (hv:v.ownBlock=gO b):b≠G:=by
 rintro rfl;rcases h.2 with ⟨rfl,_⟩|⟨g,a,c,rfl,_,f,_⟩
 ·simp [Value.ownBlock] at hv
 ·have d:g=b:=by simpa [Value.ownBlock] using hv
  subst d;unfold Blk at hB;rw [f] at hB;injection hB with hB
  injection hB with _ ht
  exact absurd ht hne
theorem Grp.push {a:kL}(h:Grp w0 W G a v bs ss)(hb:MovB W b s.edges)
  (zkr:W'.ownsRow w0.heap.size 147 1 (fQ (gO g) (bs.length+1) cap) (bs.length+1) (ptrs bs++[.pointer (gO b)]))
  (hg:W.grownBy W' v.ownBlock) (hat:v.ownBlock=gO g\/g=W.heap.size+1) :
  Hid (W'.cell? ⟨G,1,gP⟩=gO v)/\W'.frozen? ⟨G,1,gP⟩=kK/\Grp w0 (W'.setCell ⟨G,1,gP⟩ (fQ (gO g) (bs.length+1) cap)) G a (fQ (gO g) (bs.length+1) cap) (bs++[b]) (ss++[s]):=by
 have d:Blk W' G 108 #[a,v]:=(hg.block G h.blk.lt (fun e=>zN h.own h.blk dM e.symm rfl)).trans h.blk;have l:g≠G:=by
  rcases hat with h1|h1
  ·exact zN h.own h.blk dM h1
  ·have:=h.blk.lt;omega
 have m:Ext w0 W':=h.ext.grown hg (fun k hk=>(h.own.lt k hk).1);have f:=dG W' G 1 (fQ (gO g) (bs.length+1) cap);have i:Frm (fun k=>v.ownBlock=gO k) W W':=Frm.ae hg;have j:MovL W' (bs++[b]) (ss++[s]):=(h.mov.snoc (dB W) hb).frm i (fun c cs hc hS=>zN h.own hc dM hS rfl);refine⟨d.cell 1,d.frozen 1,⟨by simpa using d.ab 1 _,?_,j.frm f (fun c cs hc hS=>?_),m.setCell (p:=⟨G,1,gP⟩) h.hG _,h.hG⟩⟩
 ·rw [eA,eH,show ptrs (bs++[b])=ptrs bs++[.pointer (gO b)] by simp [ptrs]];exact zf zkr f (fun c hv hS=>by
   have:g=c:=by simpa [Value.ownBlock] using hv
   omega)
 ·subst hS;unfold Blk at hc d;rw [hc] at d;injection d with d
  injection d with _ ht
  exact absurd ht dM
theorem zga (h:zeo w lo hi A n ss)(hf:∀ s∈ss,Few 16 s.edges)(hn4:n<=1000) :
  kQ kN 66 #[fQ A n c] w fun e w'=>∃ M d,e=kP (kO #[fQ A n c,fQ M n d])/\PtAt w' lo hi A n w.heap.size w'.heap.size M ss/\Ext w w':=by
 have HS:=za (fun W (hW:Ext w W)=>h.ext hW);have hL:=za h.1;have Hf:=za hf;have ad:=h.len;clear hf
 go_enter Tryz.func66,Tryz.ntmps66
 obtain⟨l,bG⟩:=zG (dB ((w.alloc (.cells #[(),()] 108)).alloc (.cells #[fQ A n c,()] 108)));have D:Ext w ((w.alloc (.cells #[(),()] 108)).alloc (.cells #[fQ A n c,()] 108)):=((dB w).alloc _).alloc _;go_upto_region 2 with fail
 have ag:w.heap.size<=(w.alloc (.cells #[(),()] 108)).heap.size:=sM;have C:(w.alloc (.cells #[(),()] 108)).heap.size=w.heap.size+1:=sM;have j:Grp (w.alloc (.cells #[(),()] 108)) ((w.alloc (.cells #[(),()] 108)).alloc (.cells #[fQ A n c,()] 108)) (w.heap.size+1) (fQ A n c) (fQ gP 0 0) [] []:=
  ⟨bG,World.ownsRow_nil _ _ _ _,⟨rfl,fun i b s hb=>by simp at hb⟩,(dB _).alloc _,by rw [C];exact dD _⟩
 clear bG;generalize (w.alloc _).alloc _=w2 at *;generalize w.alloc _=w1 at *;go_wp2_with fail
 go_loopw [10] (fun i wr=>∃ (k:Nat) (v:kL) (t:List Nat),k<=n/\i=.int kA k/\Grp w1 wr (w.heap.size+1) (fQ A n c) v t (ss.take k)/\Hid (t.length=k)/\Blk wr w.heap.size 108 #[(),()]/\Ext w wr) (fun i _=>n - (intOf i).toNat)
 case atStart=>exact⟨0,_,[],dH _,rfl,by simpa using j,za rfl,l,D⟩
 case round =>
  clear j l D w2;obtain⟨k,v,t,hk,rfl,j,r,l,hw⟩:=hrel
  by_cases hlt:k<n
  ·obtain⟨g,o,s,B,m,c',rfl,_,_,hs,c0,c1,c2,R⟩:=(HS.out wr hw).sys hlt;have O:=za (Hf.out s (dC hs.out));have G:=za (show ss.take (k+1)=ss.take k++[s] by rw [eB,hs.out];rfl);have u:=(dB wr).alloc (.cells #[s.al,s.st,fQ B m c'] 38);have f:=j.av u;have S:=hw.trans u;have x:=l.ext u;have z:=R.ext u;clear j;go_upto_region 5 with fail
   clear c0 c1 c2;generalize U0:wr.alloc _=Y at *;have L:=Ext.bl_ U0;clear U0;have c5:=L.cells;have cG:=fun W (hW:Ext Y W)=>(f.blk.ext hW).cell;have E:=dB Y;refine uR (fun X=>Ext Y X) [5,7] (zx.of [0,1,2,3,4,5,6,7]) ?_;refine uQ ?_;refine ze fun K hK=>?_;go_simp;refine (zdn (z.ext E.drew) O.out).mono ?_;rintro e w4 ⟨b,rfl,ar,Q,V⟩;have a:=E.drew.trans V;refine hK.out _ _ a ?_;refine pT ?_;refine uQ ?_;refine ze fun K hK=>?_;go_simp;refine hK.out _ _ (a.alloc _) ?_;refine pT ?_;refine zb fun K hK=>?_;refine zaB w1 w4 _ _ _ rfl 147 _ 1 8 Tryz.underlying106 info_pmov rfl dM v t.length (ptrs t) _ _ rfl rfl (f.ext.trans a).size (zh f.own a) rfl (by simp [Value.oneCell']) (by unfold maxLen;have:=r.out;omega) (oH r.out) ?_;intro g5 cap5 w5 zkD hg5 hat5 hlt5;refine hK.out _ _ ?_;refine pT ?_;refine uQ ?_;obtain⟨p1,p2,p3⟩:=(f.av a).push (s:=s) Q (W':=w5) zkD hg5 hat5;have aw:=p1.out;have H:Blk w5 w.heap.size 108 #[fQ gP 0 0,fQ gP 0 0]:=(hg5.block _ (x.ext a).lt (fun e=>zN (zh f.own a) (x.ext a) dM e.symm rfl)).trans (x.ext a);have T:Ext w w5:=(S.trans a).grown hg5 (fun q hq=>by have:=(zh f.own a).lt q hq;omega);have I:=H.far (p:=⟨w.heap.size+1,1,gP⟩) sM (fQ (gO g5) (t.length+1) cap5);have U:=T.setCell (p:=⟨w.heap.size+1,1,gP⟩) sM (fQ (gO g5) (t.length+1) cap5);refine zb fun K hK=>?_;go_simp;refine hK.out _ _ ?_;refine zg ?_;go_wp2_with fail
   go_roundw
   case rel=>exact⟨k+1,_,t++[b],oM,gM,by rw [G.out];exact p3,za (by rw [eA,r.out];rfl),I,U⟩
   case measure=>exact uM
  ·obtain rfl:n=k:=oM;obtain⟨M,d,rfl⟩:∃ M d,v=fQ M n d:=by
    have ho:=j.own;rw [r.out] at ho;exact zi ho
   have cG:=j.blk.cell;have cZ:=l.cell;have fZ:=l.frozen;have y:Frm (fun k=>k=w.heap.size) wr ((wr.setCell w.heap.size (fQ A n c)).setCell ⟨w.heap.size,1,gP⟩ (fQ M n d)):=(dG wr _ 0 _).trans (dG _ _ 1 _);have J:Blk ((wr.setCell w.heap.size (fQ A n c)).setCell ⟨w.heap.size,1,gP⟩ (fQ M n d)) w.heap.size 108 #[fQ A n c,fQ M n d]:=by simpa using (l.ab 0 (fQ A n c)).ab 1 (fQ M n d)
   have F:=hw.frm y (fun k hk e=>oM);have Z:=za (show ∃ M' d',kP (kO #[fQ A n c,fQ M n d])=kP (kO #[fQ A n c,fQ M' n d'])/\PtAt ((wr.setCell w.heap.size (fQ A n c)).setCell ⟨w.heap.size,1,gP⟩ (fQ M n d)) lo hi A n w.heap.size ((wr.setCell w.heap.size (fQ A n c)).setCell ⟨w.heap.size,1,gP⟩ (fQ M n d)).heap.size M' ss/\Ext w ((wr.setCell w.heap.size (fQ A n c)).setCell ⟨w.heap.size,1,gP⟩ (fQ M n d)) from by
    refine⟨M,d,rfl,⟨HS.out _ F,t,?_,?_⟩,F⟩
    ·have ho:=zaN j.own y (fun b h1 e=>oM);rw [r.out] at ho;exact (eQ ho).more oM (dD _)
    ·have hm:=j.mov;rw [dK (oH hL.out)] at hm;exact hm.frm y (fun b cs hc hS=>by
      subst hS;unfold Blk at hc l;rw [hc] at l;injection l with l
      injection l with _ ht
      exact absurd ht dM))
   go_wp2_with fail
   generalize (wr.setCell w.heap.size (fQ A n c)).setCell ⟨w.heap.size,1,gP⟩ (fQ M n d)=wf at *;have cf:=J.cell;exact bodyPost_ret (v:=kO #[fQ A n c,fQ M n d]) (by simp [results,Tryz.results66,go_sem,cf]) rfl Z.out
theorem zeD (l:List Nat) (x:Nat):zag (l++[x])=zag l++[.int kA (x:Nat)]:=by simp [zag]
theorem spec_l4Sizes {G:Int}{us:List Aut}(h:zfL w PA pn AA an ss us)(hok:zed ss us) :
  kQ kN 215 #[kO #[fQ PA pn pc,fQ AA an ac,sv,L,K,G]] w (zci w (szs ss us)):=by
 have J:=za (fun W (hW:Ext w W)=>h.ext hW);have z:Hid (pn=ss.length):=by obtain⟨_,_,h1⟩:=h.sys;exact h1.1
 have x:Hid (an=us.length):=by obtain⟨_,_,h1⟩:=h.aut;exact h1.1
 have ad:pn<=3:=by rw [z.out];exact hok.few
 have X:an<=2:=by rw [x.out];exact hok.few'
 have u:=za hok;clear h hok
 go_enter Tryz.func215,Tryz.ntmps215
 have I:Ext w (w.alloc (.cells #[fQ PA pn pc,fQ AA an ac,sv,L,K,G] 185)):=(dB w).alloc _;have E:=Blk.new w 185 #[fQ PA pn pc,fQ AA an ac,sv,L,K,G];go_wp2
 go_loopw [3,4] (fun v i wr=>∃ k:Nat,k<=pn/\i=.int kA k/\wr.ownsRow w.heap.size 3 1 v k (zag ((ss.take k).map fun s=>s.st.toNat))/\Ext w wr/\Blk wr w.heap.size 185 #[fQ PA pn pc,fQ AA an ac,sv,L,K,G])
  (fun _ i _=>pn - (intOf i).toNat)
 case atStart=>exact⟨0,dH _,rfl,(by have V:=World.ownsRow_lit (base:=w.heap.size) (e:=3) (size:=1) (w.alloc (.cells #[fQ PA pn pc,fQ AA an ac,sv,L,K,G] 185)) #[] 0 sM lM rfl;simpa [zag] using V),I.alloc _,E.ext ((dB _).alloc _)⟩
 case round =>
  obtain⟨k,hk,rfl,j,l,g⟩:=hrel;have M:=g.cell
  by_cases hlt:k<pn
  ·obtain⟨lo,Z,r⟩:=(J.out wr l).sys;obtain⟨b,o,s,B,q,d,rfl,ab,Y,C,T,O,U,H⟩:=r.sys hlt;have D:=zbx (u.out.sys s (dC C.out));obtain⟨p,S⟩:∃ p:Nat,Hid (s.st=p):=⟨s.st.toNat,by have:=D.1;unfold Hid;omega⟩;rw [S.out] at O;have t:=za (show (ss.take (k+1)).map (fun s=>s.st.toNat)=(ss.take k).map (fun s=>s.st.toNat)++[p] by rw [eB,C.out];simp [S.out]);clear D r H;go_wp2_with (at_builtin;refine zV w wr rfl _ _ _ rfl 3 _ 1 8 Tryz.underlying110 zT rfl dM u3 _ _ _ _ rfl rfl l j rfl (zaJ _) lM oM ?_;intro v' w1 hext1 zkA hg1 hat1)
   have n:Blk w1 w.heap.size 185 #[fQ (gO ⟨b,o,gP⟩) pn pc,fQ AA an ac,sv,.int kA L,.int kA K,.int kA G]:=(hg1.block _ g.lt (fun e=>zN j g dM e.symm rfl)).trans g;go_roundw
   case rel=>exact⟨k+1,oM,gM,by rw [t.out,zeD];exact zkA,hext1,n⟩
   case measure=>exact uM
  ·obtain rfl:pn=k:=oM;have f:wr.ownsRow w.heap.size 3 1 u3 pn (zag (ss.map fun s=>s.st.toNat)):=by rw [dK (oH z.out)] at j;exact j
   clear j;go_wp2
   go_loopw [3,5] (fun v i wr=>∃ k:Nat,k<=an/\i=.int kA k/\wr.ownsRow w.heap.size 3 1 v (pn+k) (zag (ss.map (fun s=>s.st.toNat)++(us.take k).map fun a=>a.next.length))/\Ext w wr/\Blk wr w.heap.size 185 #[fQ PA pn pc,fQ AA an ac,sv,L,K,G])
    (fun _ i _=>an - (intOf i).toNat)
   case atStart=>exact⟨0,dH _,rfl,by simpa using f,l,g⟩
   case round =>
    clear f l g M;obtain⟨k,hk,rfl,j,l,g⟩:=hrel;have M:=g.cell
    by_cases hlt:k<an
    ·obtain⟨lo,Z,r⟩:=(J.out wr l).aut;obtain⟨b,o,a,B,m,c,B',m',c',rfl,C,T,O,U,y⟩:=r.aut hlt;have Q:=za y.n1;have R:m<=12:=by have:=(zl (u.out.aut a (dC C.out))).2.1;rw [<- Q.out] at this;omega
     have t:=za (show ss.map (fun s=>s.st.toNat)++(us.take (k+1)).map (fun a=>a.next.length)=(ss.map (fun s=>s.st.toNat)++(us.take k).map (fun a=>a.next.length))++[m] by rw [eB,C.out];simp [Q.out]);clear r y;go_wp2_with (at_builtin;refine zV w wr rfl _ _ _ rfl 3 _ 1 8 Tryz.underlying110 zT rfl dM u3 _ _ _ _ rfl rfl l j rfl (zaJ _) lM oM ?_;intro v' w1 hext1 zkA hg1 hat1)
     have n:Blk w1 w.heap.size 185 #[fQ PA pn pc,fQ (gO ⟨b,o,gP⟩) an ac,sv,.int kA L,.int kA K,.int kA G]:=(hg1.block _ g.lt (fun e=>zN j g dM e.symm rfl)).trans g;go_roundw
     case rel=>exact⟨k+1,oM,gM,by rw [t.out,zeD];exact zkA,hext1,n⟩
     case measure=>exact uM
    ·obtain rfl:an=k:=oM;have f:wr.ownsRow w.heap.size 3 1 u3 (pn+an) (zag (szs ss us)):=by rw [dK (oH x.out)] at j;exact j
     have F:pn+an=(szs ss us).length:=by have:=zdc f;simp [zag] at this;omega
     rw [F] at f;obtain⟨A5,c5,rfl⟩:=zi f;clear j;go_wp2;go_ret;exact⟨_,_,rfl,f,l⟩
theorem zkh {st:List Nat}(h:Lst zbA w lo hi A sz)(h':Lst zbA w lo' hi' B st)(hl:sz.length=st.length)(hb:∀ k,k<=sz.length->encF 0 (sz.take k) (st.take k)<=1048576)(hz:∀ x∈sz,x<=16)(hs:∀ x∈st,x<=16) :
  kQ kN 220 #[fQ A sz.length c,fQ B st.length d] w fun e w'=>e=kP (.int kA (encF 0 sz st:Nat))/\Ext w w':=by
 have L:=za (fun W (hW:Ext w W)=>h.ext zbA.ok hW);have M:=za (fun W (hW:Ext w W)=>h'.ext zbA.ok hW);have O:=za hb;have R:=za hz;have Q:=za hs;have m:=h.len;have T:∃ n:Nat,Hid (sz.length=n)/\Hid (st.length=n):=⟨sz.length,rfl,hl.symm⟩;obtain⟨n,a,g⟩:=T;rw [a.out] at m;rw [a.out,g.out];clear hb hz hs hl h h'
 go_enter Tryz.func220,Tryz.ntmps220
 go_wp2
 go_loopw [5,6] (fun v i wr=>∃ k y:Nat,k<=n/\i=.int kA k/\v=.int kA y/\Hid (y=encF 0 (sz.take k) (st.take k))/\y<=1048576/\Ext w wr) (fun _ i _=>n - (intOf i).toNat)
 case atStart=>exact⟨0,0,dH _,rfl,rfl,rfl,oM,dB _⟩
 case round =>
  obtain⟨k,y,hk,rfl,rfl,H,V,r⟩:=hrel
  by_cases hlt:k<n
  ·obtain⟨b,o,s,rfl,_,_,hs,D⟩:=(L.out wr r).num (show k<sz.length by rw [a.out];exact hlt);obtain⟨S,X,t,rfl,_,_,F,l⟩:=(M.out wr r).num (show k<st.length by rw [g.out];exact hlt);have E:=R.out s (dC hs.out);have G:=Q.out t (dC F.out);have Y:∀ W,Ext wr W->W.cell? ⟨b,o+k,gP⟩=gO (.int kA (s:Nat)):=fun W hW=>hW.aa D;have Z:∀ W,Ext wr W->W.cell? ⟨S,X+k,gP⟩=gO (.int kA (t:Nat)):=fun W hW=>hW.aa l;have j:=za (show encF 0 (sz.take (k+1)) (st.take (k+1))=y*s+t by
    have u:∀ (k acc:Nat) (sz st:List Nat),sz[k]?=gO s->st[k]?=gO t->encF acc (sz.take (k+1)) (st.take (k+1))=encF acc (sz.take k) (st.take k)*s+t:=by
     intro k
     induction k with
     |zero =>
      intro acc sz st h1 h2;cases sz<;>cases st<;>simp at h1 h2
      subst h1;subst h2;simp [encF]
     |succ k ih =>
      intro acc sz st h1 h2;cases sz<;>cases st<;>simp at h1 h2
      simpa [encF] using ih _ _ _ h1 h2
    rw [u k 0 sz st hs.out F.out,H.out])
   have f:=O.out (k+1) (by rw [a.out];omega);rw [j.out] at f;have p:y*s<=1048576:=oM;obtain⟨J,q⟩:∃ z:Nat,Hid (y*s=z):=⟨_,rfl⟩;have I:(y:Int)*(s:Int)=(J:Int):=by rw [<- q.out];exact (Int.natCast_mul y s).symm
   rw [q.out] at p f j;have U:=dB wr;clear D l;go_wp2_with fail
   go_quiet (fail)
   go_wp2_with fail
   go_roundw
   case rel=>exact⟨k+1,J+t,oM,gM,gM,by unfold Hid;rw [j.out],f,r.drewN _⟩
   case measure=>exact uM
  ·obtain rfl:n=k:=oM;have C:=za (show y=encF 0 sz st by rw [H.out,dK (by rw [a.out];exact dD _),dK (by rw [g.out];exact dD _)]);go_wp2;go_ret;exact⟨zao (by rw [C.out]),r⟩
def decV (sz:List Nat) (x k:Nat):List Nat:=List.replicate k 0++dec (sz.drop k) x
theorem decV_set {s:Nat}(h:sz[k]?=gO s):(zag (decV sz x (k+1))).set k (.int kA ((x / zau (sz.drop (k+1)) % s:Nat):Int))=zag (decV sz x k):=by
 have a:sz.drop k=s :: sz.drop (k+1):=by
  obtain⟨b,rfl⟩:=kT.1 h;exact gG b
 unfold decV zag;rw [a,dec,List.replicate_succ',List.append_assoc,eU,eU,List.set_append_right _ _ sM];simp
theorem zgp {y0:Nat}(h:Lst zbA w lo hi A sz)(hn:sz.length=n)(hn5:n<=1000)(hz:∀ x∈sz,1<=x/\x<=16)(hy:y0<=4611686018427387904) :
  kQ kN 218 #[fQ A n c,y0] w (zci w (dec sz y0)):=by
 have F:=za (fun W (hW:Ext w W)=>h.ext zbA.ok hW);have H:=za hz;have d:=za hn;clear hz h hn
 go_enter Tryz.func218,Tryz.ntmps218
 go_wp2_with (at_make;refine zbo w w rfl _ _ 110 rfl 3 _ 1 8 Tryz.underlying110 zT _ _ n rfl rfl (dB _) oM lM ?_;intro w3 hw3 zkC hx23 hsz3)
 generalize hg:w.heap.size=g at *;have G:=za hg;clear hg hx23 hsz3
 go_loopw [1,6] (fun v i wr=>∃ k y:Nat,k<=n/\i=.int kA ((k:Int) - 1)/\v=.int kA y/\y<=4611686018427387904/\Hid (y=y0 / zau (sz.drop k))/\wr.ownsRow g 3 1 (fQ (gO g) n n) n (zag (decV sz y0 k))/\Ext w wr) (fun _ i _=>(intOf i+1).toNat)
 case atStart=>exact⟨n,y0,dD _,gM,rfl,hy,by unfold Hid;rw [iC (oH d.out)];simp [zau],by rw [decV,iC (oH d.out)];simpa [zag,dec,Value.cells,toList_madeCells_one] using zkC,hw3⟩
 case round =>
  clear zkC hw3;obtain⟨k,y,U,rfl,rfl,D,f,a,t⟩:=hrel
  by_cases hlt:0<k
  ·obtain⟨j,rfl⟩:∃ j,k=j+1:=⟨k - 1,oM⟩;obtain⟨b,o,s,rfl,_,_,r,T⟩:=(F.out wr t).num (show j<sz.length by have:=d.out;omega);obtain⟨X,O⟩:=H.out s (dC r.out);obtain⟨V,S⟩:=zaM a j oM;have R:=a.frozenAt j;have L:(y:Int) % (s:Int)=((y % s:Nat):Int):=(Int.natCast_emod y s).symm;have J:(y:Int) / (s:Int)=((y / s:Nat):Int):=(Int.natCast_ediv y s).symm;have q:=a.stored j (.int kA ((y % s:Nat):Int));rw [f.out,decV_set r.out,<- f.out] at q;have u:=za (show y / s=y0 / zau (sz.drop j) by
    rw [f.out,Nat.div_div_eq_div_mul,gG (show j<sz.length by have:=d.out;omega),zau];have:sz[j]'(oH d.out)=s:=by
     obtain⟨h1,h2⟩:=kT.1 r.out;exact h2
    rw [this,Nat.mul_comm])
   have B:y / s<=4611686018427387904:=dW (Nat.div_le_self _ _) D;have M:¬ (s=0):=oM;have l:w.heap.size<=g:=oH G.out;have z:((j+1:Nat):Int) - 1=(j:Int):=oM;rw [z];have I:=(F.out _ (t.setCell (p:=⟨g,j,gP⟩) l (.int kA ((y % s:Nat):Int)))).num2 r.out;generalize y % s=Y at *;generalize y / s=Q at *;go_wp2;go_roundw
   case rel=>exact⟨j,Q,oM,rfl,rfl,B,u,q.1,t.setCell (p:=⟨g,j,gP⟩) l _⟩
   case measure=>simp [intOf]
  ·obtain rfl:k=0:=oM;have m:=zdN sz y0;have E:=za (show wr.ownsRow w.heap.size 3 1 (.slice (gO g) (dec sz y0).length n) (dec sz y0).length (zag (dec sz y0)) by
    rw [m,d.out,G.out];simpa [decV] using a)
   have C:(dec sz y0).length=n:=oH d.out;go_wp2;go_ret;exact⟨gO ⟨g,0,gP⟩,n,by rw [C];rfl,E.out,t⟩
theorem spec_l4In (h:Lst zbA w lo hi A xs)(hn:xs.length=n) :
  kQ kN 278 #[fQ A n c,x] w fun e w'=>e=kP (.bool (decide (x∈xs)))/\w=w':=by
 have l:=za hn;have a:=h.len;rw [hn] at a;clear hn
 go_enter Tryz.func278,Tryz.ntmps278
 go_wp2
 go_loop [5] (fun i=>∃ k:Nat,k<=n/\i=.int kA k/\Hid (∀ (j z:Nat),j<k->xs[j]?=gO z->z≠x)) (fun i=>n - (intOf i).toNat)
 case atStart=>exact⟨0,dH _,rfl,(show Hid _ from fun j z f=>oM)⟩
 case round =>
  obtain⟨k,r,rfl,d⟩:=hrel
  by_cases hlt:k<n
  ·obtain⟨b,o,z,rfl,_,_,m,q⟩:=h.num (show k<xs.length by rw [l.out];exact hlt)
   by_cases hzx:z=x
   ·subst hzx;have g:=za (dC m.out);go_wp2;go_ret;exact⟨zu (by rw [decide_eq_true g.out]),rfl⟩
   ·have p:((z:Int)==(x:Int))=kK:=by simp;omega
    go_wp2
    go_round
    case rel=>exact⟨k+1,oM,gM,(show Hid _ from fun j y f hy=>by
     by_cases e:j=k
     ·subst e;have:=m.out;rw [hy] at this;injection this with this
      subst this;exact hzx
     ·exact d.out j y oM hy)⟩
    case measure=>exact uM
  ·obtain rfl:n=k:=oM;have g:=za (show ¬ x∈xs from fun hx=>by
    obtain⟨j,f⟩:=eN hx;exact d.out j x (by have:=(kT.1 f).1;rw [l.out] at this;exact this) f rfl)
   go_wp2;go_ret;exact⟨zu (by rw [decide_eq_false g.out]),rfl⟩
def zaC (a:Aut) (q:Nat):Bool:=a.acc.getD q kK
theorem zie {G:Int}{us:List Aut}{SA:Option Addr}{sn sc hi:Nat}{st:List Nat}{a:Aut}(h:zfL w PA pn AA an ss us)(h':Lst zbA w lo hi SA st)(hsn:st.length=sn)(hi:us[i]?=gO a)(hq:st[pn+i]?=gO q)(hqa:q<a.acc.length) :
  kQ kN 276 #[kO #[fQ PA pn pc,fQ AA an ac,sv,L,K,G],fQ SA sn sc,i] w fun e w'=>e=kP (.bool (zaC a q))/\Ext w w':=by
 have r:i<an:=by obtain⟨_,_,h1⟩:=h.aut;rw [h1.1];exact (kT.1 hi).1
 have u:pn+i<sn:=by rw [<- hsn];exact (kT.1 hq).1
 obtain⟨aa,U,g⟩:=h.aut;have J:=g.len;have s:pn<=9223372036854775807:=by obtain⟨_,_,h1⟩:=h.sys;exact h1.len
 have j:=h'.len;rw [hsn] at j;obtain⟨b,o,O,B,m,c,B',v,R,rfl,k,S,T,H,d⟩:=g.aut r;obtain rfl:a=O:=by have:=k.out;rw [hi] at this;exact kS this
 obtain⟨Q,os,q',rfl,_,_,n,I⟩:=h'.num (show pn+i<st.length by rw [hsn];exact u);obtain rfl:q=q':=by have:=n.out;rw [hq] at this;exact kS this
 have t:q<v:=by rw [d.n2];exact hqa
 obtain⟨C,x,rfl,_,_,M,l⟩:=d.2.2.bool t;have z:=za (show zaC a q=x by unfold zaC;rw [dF,M.out];rfl);have X:=d.2.2.len;have D:∀ W,Ext w W->W.cell? ⟨b,o+i*3+2,gP⟩=gO (fQ (gO C) v R):=fun W hW=>hW.aa H;have E:∀ W,Ext w W->W.cell? ⟨Q,os+(pn+i),gP⟩=gO (.int kA (q:Nat)):=fun W hW=>hW.aa I;have F:∀ W,Ext w W->W.cell? (C.add q)=gO (.bool x):=fun W hW=>hW.aa l;clear g d h h' S T H I l M n k hi hq hqa
 go_enter Tryz.func276,Tryz.ntmps276
 go_wp2_with fail
 generalize U0:w.alloc _=y at *;obtain⟨f,p⟩:=Ext.x1_ U0;clear U0;have c0:=p.cell;have D:=D y f;have E:=E y f;have F:=F y f;have Y:(pn:Int)+(i:Int)<(sn:Int):=oM;have V:(i:Int)<(an:Int):=oM;have Z:(q:Int)<(v:Int):=oM
 go_quiet (fail)
 go_wp2_with fail
 go_ret;exact⟨zu (by rw [z.out]),f.drewN _⟩
end Go.Proofs.YtckbjnndaaoddaaGreatDoor
