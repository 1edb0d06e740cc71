/- Validity of -/
import Derived.Test.YtckbjnndaaoddaaGreatDoorY01
import Derived.Deep.DeepCutAuto
import Derived.Deep.CutBlock
set_option maxHeartbeats 4000000
set_option maxRecDepth 100000
namespace Go.Proofs.YtckbjnndaaoddaaGreatDoor
open Go Go.RowKit
open Bool renaming and_eq_true->eD,or_eq_true->iC
open Ext renaming drew->gG,refl->dE,trans->fI
open Frm renaming setCell->eB
open Int renaming toNat_natCast->fF
open List renaming all_eq_true->fH,drop_eq_getElem_cons->gV,drop_of_length_le->gW,getD_eq_getElem?_getD->eE,getElem?_append_left->eH,getElem?_append_right->eN,getElem?_eq_getElem->dH,getElem?_eq_none->eR,getElem?_of_mem->eU,getElem?_range->iB,getElem?_toArray->fJ,length_append->eK,length_singleton->eY,map_append->fO,mem_of_getElem?->dG,mem_range->jN,range->fW,take_add_one->eG,take_of_length_le->eF
open Nat renaming add_sub_cancel->iX,le_refl->dI,le_trans->eI,lt_or_ge->fM,lt_trichotomy->fQ,sub_self->iI,zero_add->eO,zero_le->eC
open Reads renaming af->eW
variable {A AA B PA:Option Addr} {G ac an b base c cap d g hi hi' i id j k lo lo' m n o pc pn q size x:Nat} {K L st:Int} {S:Nat->Prop} {W W' W1 w w' w0:World} {a:Act} {bs l sz xs:List Nat} {cs:Array Value} {e t:TypeId} {r sv v:Value} {rows:List Value} {s:Sys} {ss:List Sys}
def zio (x y:Int):Int:=if x<y then -1 else if y<x then 1 else 0
theorem cmp_isNaN (x:Int) (w:World):Calls Tryz.prog 249 #[x] w fun e w'=>e=.returned (.bool false)∧w=w':=by
 have h:(x != x)=false:=sM
 go_enter Tryz.func249,Tryz.ntmps249
 go_wp2;go_ret;exact⟨zu sM,rfl⟩
theorem zhv (x y:Int) (w:World):Calls Tryz.prog 160 #[x,y] w fun e w'=>e=.returned (.int .i64 (zio x y))∧w=w':=by
 by_cases h:x<y
 ·go_enter Tryz.func160,Tryz.ntmps160
  go_wp2_with (go_at_call 249;refine (cmp_isNaN _ _).mono ?_;rintro e w' ⟨rfl,rfl⟩)
  go_ret;exact⟨zap (by unfold zio;split<;>omega),rfl⟩
 ·by_cases h':y<x
  all_goals
   go_enter Tryz.func160,Tryz.ntmps160
   go_wp2_with (go_at_call 249;refine (cmp_isNaN _ _).mono ?_;rintro e w' ⟨rfl,rfl⟩)
   go_ret;exact⟨zap (by unfold zio;(repeat' split)<;>omega),rfl⟩
def orI:List Int->Int
 |[]=>0
 |x :: r=>if x=0 then orI r else x
theorem orI_stop {l:List Int}  {x:Int}(h:l[k]?=some x)(hk:∀ y∈l.take k,y=0)(hx:x≠0):orI l=x:=by
 induction l generalizing k with
 |nil=>simp at h
 |cons a r ih =>
  cases k with
  |zero=>simp at h;subst h;rw [orI,if_neg hx]
  |succ k =>
   have b:a=0:=hk a sM;rw [orI,if_pos b];exact ih (by simpa using h) (fun y hy=>hk y (by simp [hy]))
theorem orI_end {l:List Int}(hk:∀ y∈l,y=0):orI l=0:=by
 induction l with
 |nil=>rfl
 |cons a r ih=>rw [orI,if_pos (hk a sM),ih fun y hy=>hk y (by simp [hy])]
theorem cmp_Or {l:List Int} (h:Reads w lo hi 1 A n (ints l)) :
  Calls Tryz.prog 159 #[.slice A n c] w fun e w'=>e=.returned (.int .i64 (orI l))∧w=w':=by
 have q:=h.len;have g:=za (show l.length=n by have:=h.length;rw [zdc] at this;omega)
 go_enter Tryz.func159,Tryz.ntmps159
 go_wp2
 go_loop [8] (fun i=>∃ k:Nat,k<=n∧i=.int .i64 k∧Hid (∀ y∈l.take k,y=0)) (fun i=>n - (intOf i).toNat)
 case atStart=>exact⟨0,eC _,rfl,za sM⟩
 case round =>
  obtain⟨k,p,rfl,b⟩:=hrel
  by_cases hlt:k<n
  ·obtain⟨m,x,rfl,_,_,d,o⟩:=h.int hlt
   by_cases h0:x=0
   ·have j:((x:Int) != 0)=false:=by simp [h0]
    have f:=za h0;clear h0;go_wp2
    go_round
    case rel=>exact⟨k+1,oM,gM,za (by rw [eG,d.out];intro y a;simp at a;rcases a with a|a;exact b.out y a;rw [a,f.out])⟩
    case measure=>simp [intOf];omega
   ·have j:((x:Int) != 0)=true:=by simp [h0]
    go_wp2;go_ret;exact⟨zap (orI_stop d.out b.out h0).symm,rfl⟩
  ·obtain rfl:k=n:=oM;go_wp2;go_ret;have:=b.out;rw [eF (oH g.out)] at this;exact⟨zap (orI_end this).symm,rfl⟩
def cmpE (a b:Edg):Int:=orI [zio a.fr b.fr,zio a.le b.le,zio a.ta b.ta]
def ltE (a b:Edg):Bool:=if a.fr=b.fr then if a.le=b.le then decide (a.ta<b.ta) else decide (a.le<b.le) else decide (a.fr<b.fr)
theorem cmpE_lt (a b:Edg):cmpE a b<0↔ltE a b=true:=by
 have c:∀ x y:Int,(zio x y=0↔x=y)∧(zio x y<0↔x<y):=fun x y=>by unfold zio;constructor<;>(repeat' split)<;>omega
 have h1:=c a.fr b.fr;have h2:=c a.le b.le;have d:=c a.ta b.ta;have f:cmpE a b=if zio a.fr b.fr=0 then if zio a.le b.le=0 then if zio a.ta b.ta=0 then 0 else zio a.ta b.ta else zio a.le b.le else zio a.fr b.fr:=rfl;rw [f,ltE]
 by_cases e1:a.fr=b.fr
 ·rw [if_pos (h1.1.2 e1),if_pos e1]
  by_cases e2:a.le=b.le
  ·rw [if_pos (h2.1.2 e2),if_pos e2]
   by_cases e3:zio a.ta b.ta=0
   ·rw [if_pos e3];have:=d.1.1 e3;simp;omega
   ·rw [if_neg e3,d.2];simp
  ·rw [if_neg (fun h=>e2 (h2.1.1 h)),if_neg e2,h2.2];simp
 ·rw [if_neg (fun h=>e1 (h1.1.1 h)),if_neg e1,h1.2];simp
theorem reads_lit (n:Nat) (l:List Int)(hc:cs.toList=ints l)(hl:l.length=n)(hn:n<=1000)(h:Ext (w.alloc (.cells cs t)) w'):Reads w' 0 w'.heap.size 1 (some ⟨w.heap.size,0,none⟩) n (ints l):=by
 have a:=zcv h;refine⟨by rw [zdc];omega,oM,fun _=>⟨_,rfl,eC _,a.lt,fun j u hu=>?_⟩⟩;rw [zT,eO,a.cell,← Array.getElem?_toList,hc];exact hu
theorem zdM {a b:Edg}  :
  Calls Tryz.prog 71 #[.agg #[a.fr,a.le,a.ta],.agg #[b.fr,b.le,b.ta]] w fun e w'=>e=.returned (.int .i64 (cmpE a b))∧Ext w w':=by
 go_enter Tryz.func71,Tryz.ntmps71
 go_wp2_with fail
 obtain⟨W,hW⟩:∃ W:World,W=(w.alloc (.cells #[Value.int .i64 a.fr,a.le,a.ta] 117)).alloc (.cells #[Value.int .i64 b.fr,b.le,b.ta] 117):=⟨_,rfl⟩;have c:Ext w W:=by rw [hW];exact ((dE _).alloc _).alloc _
 have h2:=zJ (show Ext ((w.alloc (.cells #[Value.int .i64 a.fr,a.le,a.ta] 117)).alloc (.cells #[Value.int .i64 b.fr,b.le,b.ta] 117)) W by rw [hW];exact dE _);have d:∀ X,Ext W X->∀ j,X.cell? ⟨w.heap.size,j,none⟩=#[Value.int .i64 a.fr,.int .i64 a.le,.int .i64 a.ta][j]?:=fun X hX=>(h2.1.ext hX).cell;have f:∀ X,Ext W X->∀ j,X.cell? ⟨w.heap.size+1,j,none⟩=#[Value.int .i64 b.fr,.int .i64 b.le,.int .i64 b.ta][j]?:=fun X hX=>(h2.2.ext hX).cell;rw [← hW];have g:=dE W;clear hW h2
 go_region_held3 (fun X=>Ext W X) (first|assumption|(refine gG ?_;assumption)|(refine Ext.alloc ?_ _;assumption)|(refine gG ?_;refine Ext.alloc ?_ _;assumption)|(refine fI ?_ aM;assumption)) (first|(go_at_call 160;refine (zhv _ _ _).mono ?_;rintro e w' ⟨rfl,rfl⟩)|(go_at_call 159;refine (cmp_Or (reads_lit 3 [zio a.fr b.fr,zio a.le b.le,zio a.ta b.ta] rfl rfl oM ((dE _).drew))).mono ?_;rintro e w' ⟨rfl,rfl⟩))
 all_goals (go_wp2_with fail;go_ret;exact⟨rfl,c.trans (by first|assumption|(refine gG ?_;assumption)|(refine Ext.alloc ?_ _;assumption)|(refine gG ?_;refine Ext.alloc ?_ _;assumption))⟩)
theorem zam {al:Int}   {q:Int}  :
  Calls Tryz.prog 153 #[.agg #[al,st,.slice A n c],q] w fun e w'=>e=.returned (.bool (decide (0<=q)&&decide (q<st)))∧Ext w w':=by
 by_cases h0:0<=q
 all_goals
  go_enter Tryz.func153,Tryz.ntmps153
  go_wp2;go_ret;exact⟨zu (by simp;try omega),(dE _).alloc _⟩
def edgB (al:Nat) (st:Int) (e:Edg):Bool:=(decide (0<=e.fr)&&decide (e.fr<st))&&((decide (0<=e.ta)&&decide (e.ta<st))&&(decide (e.le<6)&&hasB al e.le))
def zbn (al:Nat) (st:Int) (l:List Edg) (k:Nat):Bool:=
 match l[k]? with
 |some e=>edgB al st e&&(decide (k=0) || match l[k - 1]? with
  |some p=>ltE p e
  |none=>false)
 |none=>false
def zk (s:Sys):Bool:=
 decide (0<=s.al∧s.al<=63)&&(decide (1<=s.st∧s.st<=16)&&(fW s.edges.length).all (zbn s.al.toNat s.st s.edges))
theorem zaE (h:zV w lo hi A n s) :
  Calls Tryz.prog 65 #[.agg #[s.al,s.st,.slice A n c]] w fun e w'=>e=.returned (.bool (zk s))∧Ext w w':=by
 have y:=za (show zk s=(decide (0<=s.al∧s.al<=63)&&(decide (1<=s.st∧s.st<=16)&&(fW n).all (zbn s.al.toNat s.st s.edges))) by unfold zk;rw [← h.1]);have hn:=h.2.len
 by_cases hal:0<=s.al∧s.al<=63
 ·by_cases hst:1<=s.st∧s.st<=16
  ·obtain⟨al,u⟩:∃ al:Nat,Hid (s.al=al):=⟨s.al.toNat,by unfold Hid;omega⟩;have B:Sm al:=by have:=u.out;unfold Sm;omega
   have H:=za (show decide (0<=(al:Int)∧(al:Int)<=63)=true by have:=u.out;simp;omega);rw [u.out];rw [u.out,fF] at y;clear hal;have ab:decide (s.st<1)=false:=by simp;omega
   have ad:decide (16<s.st)=false:=by simp;omega
   obtain⟨st,T,au,av⟩:∃ st:Int,Hid (s.st=st)∧1<=st∧st<=16:=⟨s.st,za rfl,hst.1,hst.2⟩;rw [T.out] at ab ad y ⊢;clear hst;have hR:=fun W (hW:Ext w W)=>h.2.ext hW;have HR:=za hR;clear hR
   go_enter Tryz.func65,Tryz.ntmps65
   go_wp2_with (go_at_call 82;refine (zaz _ _).mono ?_;rw [H.out];rintro e w' ⟨rfl,rfl⟩)
   go_loopw [22] (fun i wr=>∃ k:Nat,k<=n∧i=.int .i64 k∧Hid (((fW n).take k).all (zbn al st s.edges)=true)∧Ext (w.alloc (.cells #[Value.int .i64 al,st,Value.slice A n c] 38)) wr)
    (fun i _=>n - (intOf i).toNat)
   case atStart=>exact⟨0,eC _,rfl,rfl,dE _⟩
   case round =>
    obtain⟨k,hk,rfl,x,m⟩:=hrel
    by_cases hlt:k<n
    ·obtain⟨b,o,e,rfl,ar,an,D,c0,c1,c2⟩:=(HR.out wr (((dE _).alloc _).trans m)).edge hlt;have Z:=zcm m;go_wp2_with fail
     obtain⟨W,hW⟩:∃ W:World,W=wr.alloc (.cells #[Value.int .i64 e.fr,e.le,e.ta] 117):=⟨_,rfl⟩;have F:Ext wr W:=by rw [hW];exact (dE _).alloc _
     have h1:=zcv (show Ext (wr.alloc (.cells #[Value.int .i64 e.fr,e.le,e.ta] 117)) W by rw [hW];exact dE _);have e0:∀ X,Ext W X->∀ j,X.cell? ⟨w.heap.size,j,none⟩=#[Value.int .i64 al,.int .i64 st,Value.slice (some ⟨b,o,none⟩) n c][j]?:=fun X hX=>zcm ((m.trans F).trans hX);have e1:∀ X,Ext W X->∀ j,X.cell? ⟨wr.heap.size,j,none⟩=#[Value.int .i64 e.fr,.int .i64 e.le,.int .i64 e.ta][j]?:=fun X hX=>(h1.ext hX).cell;rw [← hW];have hr:=dE W;clear hW h1 Z c0 c1 c2;have V:∀ X,Ext W X->Ext w X:=fun X hX=>((((dE _).alloc _).trans m).trans F).trans hX;have l:=za V;clear V;have Q:(fW n)[k]?=some k:=by rw [iB hlt]
     have t:=za Q;clear Q;cases g:(decide (0<=e.fr)&&decide (e.fr<st))
     ·have J:=za g;clear g;have g:=J;clear J;refine zaj (fun X=>Ext W X) [0,1,2,3,4,5,6,7,8,9,10,11,12,13,14,15,16,17,18,19,20,21,22,23,24,25,26,27,28,29,30,31,32,33,34,35,36,37,38,39] kM rfl kM kM (fun _ _ _ _ _ h=>h) ((dE _).drew) (fun hS=>?_);refine sQ ?_;refine zai (fun K hK=>?_);go_simp;refine (zam).mono ?_;rw [g.out];rintro r I ⟨rfl,d⟩;refine hK.out _ _ (fI aM d) (fun hS=>?_);refine pT ?_;refine sQ ?_;refine zcI ?_;go_wp2_with fail
      go_ret;exact⟨zu (by rw [y.out,zaM t.out (by rw [zbn,D.out];dsimp only;rw [edgB,g.out];simp)];simp),l.out _ aM⟩
     ·have J:=za g;clear g;have g:=J;clear J;cases q:(decide (0<=e.ta)&&decide (e.ta<st))
      ·have L:=za q;clear q;have q:=L;clear L;refine zaj (fun X=>Ext W X) [0,1,2,3,4,5,6,7,8,9,10,11,12,13,14,15,16,17,18,19,20,21,22,23,24,25,26,27,28,29,30,31,32,33,34,35,36,37,38,39] kM rfl kM kM (fun _ _ _ _ _ h=>h) ((dE _).drew) (fun hS=>?_);refine sQ ?_;refine zai (fun K hK=>?_);go_simp;refine (zam).mono ?_;rw [g.out];rintro r I ⟨rfl,d⟩;refine hK.out _ _ (fI aM d) (fun hS=>?_);refine pT ?_;refine sQ ?_;refine zai (fun K hK=>?_);go_simp;refine (zam).mono ?_;rw [q.out];rintro r U ⟨rfl,f⟩;refine hK.out _ _ (fI aM f) (fun hS=>?_);refine pT ?_;refine sQ ?_;refine zcI ?_;go_wp2_with fail
       go_ret;exact⟨zu (by rw [y.out,zaM t.out (by rw [zbn,D.out];dsimp only;rw [edgB,g.out,q.out];simp)];simp),l.out _ aM⟩
      ·have L:=za q;clear q;have q:=L;clear L
       by_cases hle:6<=e.le
       ·have hL:decide (6<=e.le)=true:=by simp;omega
        refine zaj (fun X=>Ext W X) [0,1,2,3,4,5,6,7,8,9,10,11,12,13,14,15,16,17,18,19,20,21,22,23,24,25,26,27,28,29,30,31,32,33,34,35,36,37,38,39] kM rfl kM kM (fun _ _ _ _ _ h=>h) ((dE _).drew) (fun hS=>?_);refine sQ ?_;refine zai (fun K hK=>?_);go_simp;refine (zam).mono ?_;rw [g.out];rintro r I ⟨rfl,d⟩;refine hK.out _ _ (fI aM d) (fun hS=>?_);refine pT ?_;refine sQ ?_;refine zai (fun K hK=>?_);go_simp;refine (zam).mono ?_;rw [q.out];rintro r U ⟨rfl,f⟩;refine hK.out _ _ (fI aM f) (fun hS=>?_);refine pT ?_;refine sQ ?_;refine zcI ?_;go_wp2_with fail
        go_ret;exact⟨zu (by rw [y.out,zaM t.out (by rw [zbn,D.out];dsimp only;rw [edgB,g.out,q.out];simp;omega)];simp),l.out _ aM⟩
       ·have hL:decide (6<=e.le)=false:=by simp;omega
        have R:=za (show decide (e.le<6)=true by simp;omega);cases v:hasB al e.le
        ·have M:=za v;clear v;have v:=M;clear M;refine zaj (fun X=>Ext W X) [0,1,2,3,4,5,6,7,8,9,10,11,12,13,14,15,16,17,18,19,20,21,22,23,24,25,26,27,28,29,30,31,32,33,34,35,36,37,38,39] kM rfl kM kM (fun _ _ _ _ _ h=>h) ((dE _).drew) (fun hS=>?_);refine sQ ?_;refine zai (fun K hK=>?_);go_simp;refine (zam).mono ?_;rw [g.out];rintro r I ⟨rfl,d⟩;refine hK.out _ _ (fI aM d) (fun hS=>?_);refine pT ?_;refine sQ ?_;refine zai (fun K hK=>?_);go_simp;refine (zam).mono ?_;rw [q.out];rintro r U ⟨rfl,f⟩;refine hK.out _ _ (fI aM f) (fun hS=>?_);refine pT ?_;refine sQ ?_;refine zai (fun K hK=>?_);go_simp;refine (zcw _ _ B _).mono ?_;rw [v.out];rintro r w4 ⟨rfl,rfl⟩;refine hK.out _ _ aM (fun hS=>?_);refine pT ?_;refine sQ ?_;refine zcI ?_;go_wp2_with fail
         go_ret;exact⟨zu (by rw [y.out,zaM t.out (by rw [zbn,D.out];dsimp only;rw [edgB,g.out,q.out,v.out];simp)];simp),l.out _ aM⟩
        ·have M:=za v;clear v;have v:=M;clear M;have C:=za (show edgB al st e=true by rw [edgB,g.out,q.out,v.out,R.out];rfl)
         by_cases hk0:k=0
         ·subst hk0;refine zaj (fun X=>Ext W X) [0,1,2,3,4,5,6,7,8,9,10,11,12,13,14,15,16,17,18,19,20,21,22,23,24,25,26,27,28,29,30,31,32,33,34,35,36,37,38,39] kM rfl kM kM (fun _ _ _ _ _ h=>h) ((dE _).drew) (fun hS=>?_);refine sQ ?_;refine zai (fun K hK=>?_);go_simp;refine (zam).mono ?_;rw [g.out];rintro r I ⟨rfl,d⟩;refine hK.out _ _ (fI aM d) (fun hS=>?_);refine pT ?_;refine sQ ?_;refine zai (fun K hK=>?_);go_simp;refine (zam).mono ?_;rw [q.out];rintro r U ⟨rfl,f⟩;refine hK.out _ _ (fI aM f) (fun hS=>?_);refine pT ?_;refine sQ ?_;refine zai (fun K hK=>?_);go_simp;refine (zcw _ _ B _).mono ?_;rw [v.out];rintro r w4 ⟨rfl,rfl⟩;refine hK.out _ _ aM (fun hS=>?_);refine pT ?_;refine sQ ?_;refine zcI ?_;go_wp2_with fail
          go_roundw
          case rel=>exact⟨0+1,oM,gM,zcM t.out x.out (by rw [zbn,D.out];dsimp only;rw [C.out];simp),(m.trans F).trans aM⟩
          case measure=>simp [intOf];omega
         ·obtain⟨j,rfl⟩:∃ j,k=j+1:=⟨k - 1,oM⟩;have hp:s.edges[j]?=some (s.edges[j]'(oH h.1)):=dH _;generalize s.edges[j]'(oH h.1)=p at hp;have Y:=za hp;clear hp;have z:=(HR.out wr (((dE _).alloc _).trans m)).edge2 Y.out;have p0:∀ X,Ext W X->X.cell? ⟨b,o+j*3,none⟩=some (.int .i64 p.fr):=fun X hX=>(F.trans hX).aa z.1;have p1:∀ X,Ext W X->X.cell? ⟨b,o+j*3+1,none⟩=some (.int .i64 p.le):=fun X hX=>(F.trans hX).aa z.2.1;have p2:∀ X,Ext W X->X.cell? ⟨b,o+j*3+2,none⟩=some (.int .i64 p.ta):=fun X hX=>(F.trans hX).aa z.2.2;clear z;have aq:decide ((0:Int)<(j:Int)+1)=true:=decide_eq_true oM;have aw:IntKind.i64.wrap ((j:Int)+1 - 1)=(j:Int):=by rw [IntKind.wrap_i64];omega
          have ax:IntKind.i64.wrap (j:Int)=(j:Int):=by rw [IntKind.wrap_i64];omega
          have ao:(0:Int)<=(j:Int):=oM;have ap:(j:Int)<(n:Int):=oM;have S:=cmpE_lt p e;have O:=za S;clear S
          by_cases hc:0<=cmpE p e
          ·have aa:decide (0<=cmpE p e)=true:=by simpa using hc
           have E:=za (show ltE p e=false by rw [Bool.eq_false_iff];intro hh;have:=O.out.2 hh;omega);refine zaj (fun X=>Ext W X) [0,1,2,3,4,5,6,7,8,9,10,11,12,13,14,15,16,17,18,19,20,21,22,23,24,25,26,27,28,29,30,31,32,33,34,35,36,37,38,39] kM rfl kM kM (fun _ _ _ _ _ h=>h) ((dE _).drew) (fun hS=>?_);refine sQ ?_;refine zai (fun K hK=>?_);go_simp;refine (zam).mono ?_;rw [g.out];rintro r I ⟨rfl,d⟩;refine hK.out _ _ (fI aM d) (fun hS=>?_);refine pT ?_;refine sQ ?_;refine zai (fun K hK=>?_);go_simp;refine (zam).mono ?_;rw [q.out];rintro r U ⟨rfl,f⟩;refine hK.out _ _ (fI aM f) (fun hS=>?_);refine pT ?_;refine sQ ?_;refine zai (fun K hK=>?_);go_simp;refine (zcw _ _ B _).mono ?_;rw [v.out];rintro r w4 ⟨rfl,rfl⟩;refine hK.out _ _ aM (fun hS=>?_);refine pT ?_;refine sQ ?_;refine zai (fun K hK=>?_);go_simp;refine (zdM (a:=p) (b:=e)).mono ?_;rintro r w5 ⟨rfl,G⟩;refine hK.out _ _ (fI aM G) (fun hS=>?_);refine pT ?_;refine sQ ?_;refine zcI ?_;go_wp2_with fail
           go_ret;exact⟨zu (by rw [y.out,zaM t.out (by rw [zbn,D.out];dsimp only;rw [iX,Y.out];simp [E.out])];simp),l.out _ aM⟩
          ·have aa:decide (0<=cmpE p e)=false:=by simp;omega
           have E:=za (show ltE p e=true from O.out.1 oM);refine zaj (fun X=>Ext W X) [0,1,2,3,4,5,6,7,8,9,10,11,12,13,14,15,16,17,18,19,20,21,22,23,24,25,26,27,28,29,30,31,32,33,34,35,36,37,38,39] kM rfl kM kM (fun _ _ _ _ _ h=>h) ((dE _).drew) (fun hS=>?_);refine sQ ?_;refine zai (fun K hK=>?_);go_simp;refine (zam).mono ?_;rw [g.out];rintro r I ⟨rfl,d⟩;refine hK.out _ _ (fI aM d) (fun hS=>?_);refine pT ?_;refine sQ ?_;refine zai (fun K hK=>?_);go_simp;refine (zam).mono ?_;rw [q.out];rintro r U ⟨rfl,f⟩;refine hK.out _ _ (fI aM f) (fun hS=>?_);refine pT ?_;refine sQ ?_;refine zai (fun K hK=>?_);go_simp;refine (zcw _ _ B _).mono ?_;rw [v.out];rintro r w4 ⟨rfl,rfl⟩;refine hK.out _ _ aM (fun hS=>?_);refine pT ?_;refine sQ ?_;refine zai (fun K hK=>?_);go_simp;refine (zdM (a:=p) (b:=e)).mono ?_;rintro r w5 ⟨rfl,G⟩;refine hK.out _ _ (fI aM G) (fun hS=>?_);refine pT ?_;refine sQ ?_;refine zcI ?_;go_wp2_with fail
           go_roundw
           case rel=>exact⟨j+1+1,oM,gM,zcM t.out x.out (by rw [zbn,D.out];dsimp only;rw [iX,Y.out,C.out];simp [E.out]),(m.trans F).trans aM⟩
           case measure=>simp [intOf];omega
    ·obtain rfl:k=n:=oM;go_wp2;go_ret;exact⟨zu (by rw [y.out,zfo sM x.out,H.out];simp;omega),((dE _).alloc _).trans m⟩
  ·go_enter Tryz.func65,Tryz.ntmps65
   have H:=za (show decide (0<=s.al∧s.al<=63)=true by simp;omega);go_wp2_with (go_at_call 82;refine (zaz _ _).mono ?_;rw [H.out];rintro e w' ⟨rfl,rfl⟩)
   all_goals go_ret
   all_goals exact⟨zu (by rw [y.out];simp [hst]),(dE _).alloc _⟩
 ·go_enter Tryz.func65,Tryz.ntmps65
  have H:=za (show decide (0<=s.al∧s.al<=63)=false by simp;omega);go_wp2_with (go_at_call 82;refine (zaz _ _).mono ?_;rw [H.out];rintro e w' ⟨rfl,rfl⟩)
  go_ret;exact⟨zu (by rw [y.out];simp;omega),(dE _).alloc _⟩
theorem zen {al:Nat}  {e:Edg} (hsm:Sm al) :
  Calls Tryz.prog 262 #[al,st,.agg #[e.fr,e.le,e.ta]] w fun r w'=>r=.returned (.bool (edgB al st e))∧Ext w w':=by
 have a:=za (show edgB al st e=((decide (0<=e.fr)&&decide (e.fr<st))&&((decide (0<=e.ta)&&decide (e.ta<st))&&(decide (e.le<6)&&hasB al e.le))) from rfl)
 by_cases h0:e.fr<0
 ·go_enter Tryz.func262,Tryz.ntmps262
  go_wp2;go_ret;exact⟨zu (by rw [a.out];simp;omega),(dE _).alloc _⟩
 ·by_cases h1:st<=e.fr
  ·go_enter Tryz.func262,Tryz.ntmps262
   go_wp2;go_ret;exact⟨zu (by rw [a.out];simp;omega),(dE _).alloc _⟩
  ·by_cases h2:e.ta<0
   ·go_enter Tryz.func262,Tryz.ntmps262
    go_wp2;go_ret;exact⟨zu (by rw [a.out];simp;omega),(dE _).alloc _⟩
   ·by_cases h3:st<=e.ta
    ·go_enter Tryz.func262,Tryz.ntmps262
     go_wp2;go_ret;exact⟨zu (by rw [a.out];simp;omega),(dE _).alloc _⟩
    ·by_cases h4:0<=e.le
     ·by_cases h5:e.le<6
      ·obtain⟨le,b⟩:∃ le:Nat,Hid (e.le=le):=⟨e.le.toNat,by unfold Hid;omega⟩;have c:(le:Int)<6:=oH b.out;clear h4 h5;rw [b.out]
       go_enter Tryz.func262,Tryz.ntmps262
       go_wp2_with (go_at_call 143;refine (zaq al le hsm _ oM).mono ?_;rintro r w' ⟨rfl,rfl⟩)
       go_ret;exact⟨zu (by rw [a.out,b.out,decide_eq_true (show 0<=e.fr by omega),decide_eq_true (show e.fr<st by omega),decide_eq_true (show 0<=e.ta by omega),decide_eq_true (show e.ta<st by omega),decide_eq_true c];simp [hasB]),(dE _).alloc _⟩
      ·go_enter Tryz.func262,Tryz.ntmps262
       go_wp2_with fail
       go_ret;exact⟨zu (by rw [a.out];simp;omega),(dE _).alloc _⟩
     ·go_enter Tryz.func262,Tryz.ntmps262
      go_wp2_with fail
      go_ret;exact⟨zu (by rw [a.out];simp [hasB];omega),(dE _).alloc _⟩
theorem zem {a b:Edg}  :
  Calls Tryz.prog 261 #[.agg #[a.fr,a.le,a.ta],.agg #[b.fr,b.le,b.ta]] w fun e w'=>e=.returned (.bool (ltE a b))∧Ext w w':=by
 have c:=za (show ltE a b=if a.fr=b.fr then if a.le=b.le then decide (a.ta<b.ta) else decide (a.le<b.le) else decide (a.fr<b.fr) from rfl);have g:Ext w ((w.alloc (.cells #[Value.int .i64 a.fr,a.le,a.ta] 117)).alloc (.cells #[Value.int .i64 b.fr,b.le,b.ta] 117)):=((dE _).alloc _).alloc _;have d:=za g;clear g
 by_cases h0:a.fr=b.fr
 ·have i:(a.fr != b.fr)=false:=by simp [h0]
  have f:=za h0;clear h0
  by_cases h1:a.le=b.le
  ·have j:(a.le != b.le)=false:=by simp [h1]
   have h:=za h1;clear h1
   go_enter Tryz.func261,Tryz.ntmps261
   go_wp2;go_ret;exact⟨zu (by rw [c.out,if_pos f.out,if_pos h.out]),d.out⟩
  ·have j:(a.le != b.le)=true:=by simp [h1]
   go_enter Tryz.func261,Tryz.ntmps261
   go_wp2;go_ret;exact⟨zu (by rw [c.out,if_pos f.out,if_neg h1]),d.out⟩
 ·have i:(a.fr != b.fr)=true:=by simp [h0]
  go_enter Tryz.func261,Tryz.ntmps261
  go_wp2;go_ret;exact⟨zu (by rw [c.out,if_neg h0]),d.out⟩
theorem zat (h:zV w lo hi A n s) :
  Calls Tryz.prog 185 #[.agg #[s.al,s.st,.slice A n c]] w fun e w'=>e=.returned (.bool (zk s))∧Ext w w':=by
 have y:=za (show zk s=(decide (0<=s.al∧s.al<=63)&&(decide (1<=s.st∧s.st<=16)&&(fW n).all (zbn s.al.toNat s.st s.edges))) by unfold zk;rw [← h.1]);have hn:=h.2.len
 by_cases hal:0<=s.al∧s.al<=63
 ·by_cases hst:1<=s.st∧s.st<=16
  ·obtain⟨al,g⟩:∃ al:Nat,Hid (s.al=al):=⟨s.al.toNat,by unfold Hid;omega⟩;have u:Sm al:=by have:=g.out;unfold Sm;omega
   have B:=za (show decide (0<=(al:Int)∧(al:Int)<=63)=true by have:=g.out;simp;omega);rw [g.out];rw [g.out,fF] at y;clear hal;have I:decide (s.st<1)=false:=by simp;omega
   have J:decide (16<s.st)=false:=by simp;omega
   obtain⟨st,D,ah,ai⟩:∃ st:Int,Hid (s.st=st)∧1<=st∧st<=16:=⟨s.st,za rfl,hst.1,hst.2⟩;rw [D.out] at I J y ⊢;clear hst;have T:=fun W (hW:Ext w W)=>h.2.ext hW;have O:=za T;clear T
   go_enter Tryz.func185,Tryz.ntmps185
   go_wp2_with (go_at_call 142;refine (zS _ _).mono ?_;rw [B.out];rintro e w' ⟨rfl,rfl⟩)
   go_loopw [3] (fun i wr=>∃ k:Nat,k<=n∧i=.int .i64 k∧Hid (((fW n).take k).all (zbn al st s.edges)=true)∧Ext (w.alloc (.cells #[Value.int .i64 al,st,Value.slice A n c] 38)) wr)
    (fun i _=>n - (intOf i).toNat)
   case atStart=>exact⟨0,eC _,rfl,rfl,dE _⟩
   case round =>
    obtain⟨k,hk,rfl,l,d⟩:=hrel;have H:=zcm d
    by_cases hlt:k<n
    ·obtain⟨b,o,e,rfl,ag,Y,F,Q,R,S⟩:=(O.out wr (((dE _).alloc _).trans d)).edge hlt;go_wp2_with fail
     clear H;have e0:∀ X,Ext wr X->∀ j,X.cell? ⟨w.heap.size,j,none⟩=#[Value.int .i64 al,.int .i64 st,Value.slice (some ⟨b,o,none⟩) n c][j]?:=fun X hX=>zcm (d.trans hX);have q0:∀ X,Ext wr X->X.cell? ⟨b,o+k*3,none⟩=some (.int .i64 e.fr):=fun X hX=>hX.aa Q;have q1:∀ X,Ext wr X->X.cell? ⟨b,o+k*3+1,none⟩=some (.int .i64 e.le):=fun X hX=>hX.aa R;have q2:∀ X,Ext wr X->X.cell? ⟨b,o+k*3+2,none⟩=some (.int .i64 e.ta):=fun X hX=>hX.aa S;have hr:=dE wr;clear Q R S;have E:∀ X,Ext wr X->Ext w X:=fun X hX=>(((dE _).alloc _).trans d).trans hX;have v:=za E;clear E;have U:(0:Int)<=(k:Int):=oM;have V:(k:Int)<(n:Int):=oM;have C:(fW n)[k]?=some k:=by rw [iB hlt]
     have q:=za C;clear C;cases hA':edgB al st e
     ·have x:=za hA';clear hA';refine zaj (fun X=>Ext wr X) [0,1,2,3,4,5,6,7,8,9,10,11,12,13,14,15,16,17,18,19,20,21,22,23,24,25,26,27,28,29] kM rfl kM kM (fun _ _ _ _ _ h=>h) ((dE _).drew) (fun hS=>?_);refine sQ ?_;refine zai (fun K hK=>?_);go_simp;refine (zen (e:=e) u).mono ?_;rw [x.out];rintro r M ⟨rfl,f⟩;refine hK.out _ _ (fI aM f) (fun hS=>?_);refine pT ?_;refine sQ ?_;refine zcI ?_;go_wp2_with fail
      go_ret;exact⟨zu (by rw [y.out,zaM q.out (by rw [zbn,F.out];dsimp only;rw [x.out];simp)];simp),v.out _ aM⟩
     ·have x:=za hA';clear hA'
      by_cases hk0:k=0
      ·subst hk0;simp only [Nat.zero_mul,Nat.add_zero] at q0 q1 q2;refine zaj (fun X=>Ext wr X) [0,1,2,3,4,5,6,7,8,9,10,11,12,13,14,15,16,17,18,19,20,21,22,23,24,25,26,27,28,29] kM rfl kM kM (fun _ _ _ _ _ h=>h) ((dE _).drew) (fun hS=>?_);refine sQ ?_;refine zai (fun K hK=>?_);go_simp;refine (zen (e:=e) u).mono ?_;rw [x.out];rintro r M ⟨rfl,f⟩;refine hK.out _ _ (fI aM f) (fun hS=>?_);refine pT ?_;refine sQ ?_;refine zcI ?_;go_wp2_with fail
       go_roundw
       case rel=>exact⟨0+1,oM,gM,zcM q.out l.out (by rw [zbn,F.out];dsimp only;rw [x.out];simp),d.trans aM⟩
       case measure=>simp [intOf];omega
      ·obtain⟨j,rfl⟩:∃ j,k=j+1:=⟨k - 1,oM⟩;have L:s.edges[j]?=some (s.edges[j]'(oH h.1)):=dH _;generalize s.edges[j]'(oH h.1)=p at L;have G:=za L;clear L;have t:=(O.out wr (((dE _).alloc _).trans d)).edge2 G.out;have p0:∀ X,Ext wr X->X.cell? ⟨b,o+j*3,none⟩=some (.int .i64 p.fr):=fun X hX=>hX.aa t.1;have p1:∀ X,Ext wr X->X.cell? ⟨b,o+j*3+1,none⟩=some (.int .i64 p.le):=fun X hX=>hX.aa t.2.1;have p2:∀ X,Ext wr X->X.cell? ⟨b,o+j*3+2,none⟩=some (.int .i64 p.ta):=fun X hX=>hX.aa t.2.2;clear t;have af:decide ((0:Int)<(j:Int)+1)=true:=decide_eq_true oM;have aj:IntKind.i64.wrap ((j:Int)+1 - 1)=(j:Int):=by rw [IntKind.wrap_i64];omega
       have ak:IntKind.i64.wrap (j:Int)=(j:Int):=by rw [IntKind.wrap_i64];omega
       have Z:(0:Int)<=(j:Int):=oM;have aa:(j:Int)<(n:Int):=oM;have ab:(0:Int)<=(j:Int)+1:=oM;have ad:(j:Int)+1<(n:Int):=oM;have ae:((j:Int)+1).toNat=j+1:=oM;cases hnl':ltE p e
       ·have m:=za hnl';clear hnl';refine zaj (fun X=>Ext wr X) [0,1,2,3,4,5,6,7,8,9,10,11,12,13,14,15,16,17,18,19,20,21,22,23,24,25,26,27,28,29] kM rfl kM kM (fun _ _ _ _ _ h=>h) ((dE _).drew) (fun hS=>?_);refine sQ ?_;refine zai (fun K hK=>?_);go_simp;refine (zen (e:=e) u).mono ?_;rw [x.out];rintro r M ⟨rfl,f⟩;refine hK.out _ _ (fI aM f) (fun hS=>?_);refine pT ?_;refine sQ ?_;refine zai (fun K hK=>?_);go_simp;refine (zem (a:=p) (b:=e)).mono ?_;rw [m.out];rintro r w3 ⟨rfl,z⟩;refine hK.out _ _ (fI aM z) (fun hS=>?_);refine pT ?_;refine sQ ?_;refine zcI ?_;go_wp2_with fail
        go_ret;exact⟨zu (by rw [y.out,zaM q.out (by rw [zbn,F.out];dsimp only;rw [iX,G.out];simp [m.out])];simp),v.out _ aM⟩
       ·have m:=za hnl';clear hnl';refine zaj (fun X=>Ext wr X) [0,1,2,3,4,5,6,7,8,9,10,11,12,13,14,15,16,17,18,19,20,21,22,23,24,25,26,27,28,29] kM rfl kM kM (fun _ _ _ _ _ h=>h) ((dE _).drew) (fun hS=>?_);refine sQ ?_;refine zai (fun K hK=>?_);go_simp;refine (zen (e:=e) u).mono ?_;rw [x.out];rintro r M ⟨rfl,f⟩;refine hK.out _ _ (fI aM f) (fun hS=>?_);refine pT ?_;refine sQ ?_;refine zai (fun K hK=>?_);go_simp;refine (zem (a:=p) (b:=e)).mono ?_;rw [m.out];rintro r w3 ⟨rfl,z⟩;refine hK.out _ _ (fI aM z) (fun hS=>?_);refine pT ?_;refine sQ ?_;refine zcI ?_;go_wp2_with fail
        go_roundw
        case rel=>exact⟨j+1+1,oM,gM,zcM q.out l.out (by rw [zbn,F.out];dsimp only;rw [iX,G.out,x.out];simp [m.out]),d.trans aM⟩
        case measure=>simp [intOf];omega
    ·obtain rfl:k=n:=oM;go_wp2;go_ret;exact⟨zu (by rw [y.out,zfo sM l.out,B.out];simp;omega),((dE _).alloc _).trans d⟩
  ·go_enter Tryz.func185,Tryz.ntmps185
   have B:=za (show decide (0<=s.al∧s.al<=63)=true by simp;omega);go_wp2_with (go_at_call 142;refine (zS _ _).mono ?_;rw [B.out];rintro e w' ⟨rfl,rfl⟩)
   all_goals go_ret
   all_goals exact⟨zu (by rw [y.out];simp [hst]),(dE _).alloc _⟩
 ·go_enter Tryz.func185,Tryz.ntmps185
  have B:=za (show decide (0<=s.al∧s.al<=63)=false by simp;omega);go_wp2_with (go_at_call 142;refine (zS _ _).mono ?_;rw [B.out];rintro e w' ⟨rfl,rfl⟩)
  go_ret;exact⟨zu (by rw [y.out];simp;omega),(dE _).alloc _⟩
theorem zcE (h:zk s=true):∃ p:Nat,s.st=p∧1<=p∧p<=16∧Few p s.edges:=by
 simp only [zk,eD,decide_eq_true_eq,fH,jN] at h;obtain⟨_,⟨h1,h2⟩,b⟩:=h;refine⟨s.st.toNat,oM,oM,oM,fun e he=>?_⟩;obtain⟨k,a⟩:=eU he;have:=b k (List.getElem?_eq_some_iff.1 a).1;rw [zbn,a] at this;simp only [eD,edgB,decide_eq_true_eq,hasB] at this;omega
theorem zad {xs:List Value}(h:w.ownsRow base e size (.slice A n c) n xs)(hn:0<n):∃ g,A=some ⟨g,0,none⟩∧base<=g∧g<w.heap.size:=by
 rcases h.2 with ⟨_,j⟩|⟨g,a,b,i,d,f,_⟩
 ·omega
 ·injection i with h1 h2 h3
  exact⟨g,h1,d,(Array.getElem?_eq_some_iff.1 f).1⟩
def blk (A:Option Addr) (b:Nat):Prop:=∃ a,A=some a∧a.block=b
def lst (x:Nat):Nat:=(letters x 32).headD 0
def clsOf (R:List Nat):Nat->List Nat × Nat
 |0=>([],0)
 |k+1=>if lst (R.getD k 0)=k then ((clsOf R k).1++[(clsOf R k).2],(clsOf R k).2+1) else ((clsOf R k).1++[(clsOf R k).1.getD (lst (R.getD k 0)) 0],(clsOf R k).2)
def cl (R:List Nat) (i:Nat):Nat:=(clsOf R (i+1)).1.getD i 0
theorem zhK {a b c:Edg}(h:ltE a b=true)(h':ltE b c=true):ltE a c=true:=by
 unfold ltE at *
 (repeat' split at h)<;>(repeat' split at h')<;>(repeat' split)<;>simp only [decide_eq_true_eq] at*<;> omega
theorem zjF {a b:Edg}:ltE a b=true↔a.fr<b.fr∨a.fr=b.fr∧(a.le<b.le∨a.le=b.le∧a.ta<b.ta):=by
 unfold ltE
 (repeat' split)<;>simp only [decide_eq_true_eq]<;>omega
def Rising (es:List Edg):Prop:=∀ (a b:Nat) (x y:Edg),es[a]?=some x->es[b]?=some y->a<b->ltE x y=true
theorem rising_of {es:List Edg}(h:∀ k x y,es[k]?=some x->es[k+1]?=some y->ltE x y=true):Rising es:=by
 intro a b x y hx hy hab
 induction b generalizing y with
 |zero=>omega
 |succ b ih =>
  have d:=(List.getElem?_eq_some_iff.1 hy).1;obtain⟨z,c⟩:∃ z,es[b]?=some z:=⟨_,dH oM⟩;have h1:=h b z y c hy;rcases fM a b with h2|h2
  ·exact zhK (ih z c h2) h1
  ·obtain rfl:a=b:=oM;rw [hx] at c;obtain rfl:=Option.some.inj c;exact h1
theorem zgg :zk s=true↔(0<=s.al∧s.al<=63)∧(1<=s.st∧s.st<=16)∧(∀ e∈s.edges,edgB s.al.toNat s.st e=true)∧Rising s.edges:=by
 simp only [zk,eD,decide_eq_true_eq,fH,jN];constructor
 ·rintro ⟨h1,h2,c⟩;refine⟨h1,h2,fun e he=>?_,rising_of fun k x y d b=>?_⟩
  ·obtain⟨k,a⟩:=eU he;have:=c k (List.getElem?_eq_some_iff.1 a).1;rw [zbn,a] at this;simp only [eD] at this;exact this.1
  ·have:=c (k+1) (List.getElem?_eq_some_iff.1 b).1;unfold zbn at this;rw [b] at this;simp only [iX,d,eD,iC,decide_eq_true_eq] at this;rcases this.2 with h|h
   ·omega
   ·exact h
 ·rintro ⟨h1,h2,c,f⟩;refine⟨h1,h2,fun k a=>?_⟩;have d:s.edges[k]?=some s.edges[k]:=dH a;unfold zbn;rw [d];simp only [eD,iC,decide_eq_true_eq];refine⟨c _ (List.getElem_mem a),?_⟩;cases k with
  |zero=>exact Or.inl rfl
  |succ k =>
   have b:s.edges[k]?=some s.edges[k]:=dH oM;simp only [iX,b];exact Or.inr (f k (k+1) _ _ b d oM)
def ALAt (w:World) (lo hi:Nat) (A:Option Addr) (n:Nat) (us:List Aut):Prop:=
 n=us.length∧∃ cells,Reads w lo hi 3 A n cells∧∀ (k:Nat) (a:Aut),us[k]?=some a->∃ (B:Option Addr) (m c:Nat) (B':Option Addr) (m' c':Nat),cells[k*3]?=some (.int .i64 a.al)∧cells[k*3+1]?=some (.slice B m c)∧cells[k*3+2]?=some (.slice B' m' c')∧zF w lo hi B m B' m' a
section
variable {w w':World} {lo hi n k:Nat} {A:Option Addr} {us:List Aut}
theorem ALAt.ext (h:ALAt w lo hi A n us)(hb:Ext w w'):ALAt w' lo hi A n us:=by
 obtain⟨e,a,i,j⟩:=h;refine⟨e,a,i.ext hb,fun k s hs=>?_⟩;obtain⟨B,m,c,b,l,d,f,h1,h2,g⟩:=j k s hs;exact⟨B,m,c,b,l,d,f,h1,h2,g.ext hb⟩
theorem ALAt.len (h:ALAt w lo hi A n us):n<=9223372036854775807:=by
 obtain⟨_,a,b,_⟩:=h;exact b.len
theorem ALAt.aut (h:ALAt w lo hi A n us)(hk:k<n):∃ b o a B m c B' m' c',A=some ⟨b,o,none⟩∧Hid (us[k]?=some a)∧w.cell? ⟨b,o+k*3,none⟩=some (.int .i64 a.al)∧w.cell? ⟨b,o+k*3+1,none⟩=some (.slice B m c)∧w.cell? ⟨b,o+k*3+2,none⟩=some (.slice B' m' c')∧zF w lo hi B m B' m' a:=by
 obtain⟨e,d,q,j⟩:=h;have f:us[0]?=some (us[0]' oM):=dH _;obtain⟨_,_,_,_,_,_,l,_⟩:=j 0 _ f;rw [Nat.zero_mul] at l;obtain⟨b,o,rfl,s,r,g⟩:=ziY q oM l;have i:us[k]?=some (us[k]' oM):=dH _;obtain⟨B,m,c,B',m',c',f,h1,h2,p⟩:=j k _ i;exact⟨b,o,_,B,m,c,B',m',c',rfl,i,g _ _ f,by rw [Nat.add_assoc];exact g _ _ h1,by rw [Nat.add_assoc];exact g _ _ h2,p⟩
end
structure zfD (w:World) (PA:Option Addr) (pn:Nat) (AA:Option Addr) (an:Nat) (ss:List Sys) (us:List Aut):Prop where
 sys:∃ lo hi,zdG w lo hi PA pn ss
 aut:∃ lo hi,ALAt w lo hi AA an us
theorem zfD.ext {us:List Aut}(h:zfD w PA pn AA an ss us)(hx:Ext w w'):zfD w' PA pn AA an ss us:=by
 obtain⟨⟨d,c,h1⟩,b,a,h2⟩:=h;exact⟨⟨d,c,h1.ext hx⟩,b,a,h2.ext hx⟩
def zbl (ss:List Sys) (us:List Aut):List Mem:=ss.map zdQ++us.map zbv
def szs (ss:List Sys) (us:List Aut):List Nat:=ss.map (fun s=>s.st.toNat)++us.map fun a=>a.next.length
theorem zfS (ss:List Sys) (us:List Aut):(zbl ss us).map Prod.fst=szs ss us:=by
 simp [zbl,szs,zdQ,zbv,Function.comp_def]
structure zdZ (ss:List Sys) (us:List Aut):Prop where
 sys:∀ s∈ss,zk s=true
 aut:∀ a∈us,zj a=true
 few:ss.length<=3
 few':us.length<=2
theorem zck (h:zk s=true):Sml s:=by
 obtain⟨h1,h2,c,d⟩:=zgg.1 h;obtain⟨p,b,_,_,a⟩:=zcE h;refine⟨h2.1,h2.2,?_,h1.1,h1.2⟩;rw [b];exact a
theorem zdZ.ok {us:List Aut}(h:zdZ ss us):∀ m∈zbl ss us,zew m:=by
 intro m hm;rcases List.mem_append.1 hm with h1|h1
 ·obtain⟨s,c,rfl⟩:=List.mem_map.1 h1;exact zei (zck (h.sys s c))
 ·obtain⟨a,b,rfl⟩:=List.mem_map.1 h1;exact zbw (h.aut a b)
theorem prodS_le (h:∀ x∈l,x<=b):zav l<=b ^ l.length:=by
 induction l with
 |nil=>simp [zav]
 |cons x r ih =>
  rw [zav,List.length_cons,Nat.pow_succ,Nat.mul_comm];exact Nat.mul_le_mul (ih fun y hy=>h y (by simp [hy])) (h x sM)
theorem zdZ.le16 {us:List Aut}(h:zdZ ss us):∀ x∈szs ss us,1<=x∧x<=16:=by
 intro x hx;rcases List.mem_append.1 hx with h1|h1
 ·obtain⟨s,d,rfl⟩:=List.mem_map.1 h1;have b:=zck (h.sys s d);have:=b.1;have:=b.2.1;omega
 ·obtain⟨a,c,rfl⟩:=List.mem_map.1 h1;have:=(zl (h.aut a c)).2.1;omega
theorem zdZ.len {us:List Aut}(h:zdZ ss us):(szs ss us).length<=5:=by
 have:=h.few;have:=h.few';simp [szs];omega
theorem zdZ.total {us:List Aut}(h:zdZ ss us) (l:List Nat)(hl:l.Sublist (szs ss us)):1<=zav l∧zav l<=1048576:=by
 refine⟨prodS_pos fun x hx=>(h.le16 x (hl.subset hx)).1,?_⟩;have h1:=prodS_le (l:=l) (b:=16) fun x hx=>(h.le16 x (hl.subset hx)).2;have h2:=hl.length_le;have a:=h.len
 calc zav l<=16 ^ l.length:=h1
  _<=16 ^ 5:=Nat.pow_le_pow_right oM oM
  _=1048576:=dM
theorem place_succ (a k:Nat):place a (k+1)=place a k+if a.testBit k then 1 else 0:=by
 unfold place;rw [zbo,eK];cases a.testBit k<;>simp
theorem spec_l1Place (a l:Nat)(ha:Sm a)(hl:l<=6) (w:World) :
  Calls Tryz.prog 279 #[a,l] w fun e w'=>e=.returned (.int .i64 (place a l:Nat))∧w=w':=by
 go_enter Tryz.func279,Tryz.ntmps279
 go_wp2
 go_loop [5,6] (fun v i=>∃ k y:Nat,k<=l∧i=.int .i64 k∧v=.int .i64 y∧y<=k∧Hid (y=place a k)) (fun _ i=>l - (intOf i).toNat)
 case atStart=>exact⟨0,0,eC _,rfl,rfl,dI _,rfl⟩
 case round =>
  obtain⟨k,y,f,rfl,rfl,g,b⟩:=hrel
  by_cases hlt:k<l
  ·cases hb:a.testBit k
   all_goals
    have c:=za hb;have d:=za (place_succ a k);clear hb;go_wp2_with (go_at_call 143;refine (zaq a k ha _ oM).mono ?_;rw [c.out];rintro e w' ⟨rfl,rfl⟩)
    go_round
    case rel=>first|exact⟨k+1,y,oM,gM,rfl,oM,by unfold Hid;rw [d.out,c.out,← b.out];rfl⟩|exact⟨k+1,y+1,oM,gM,gM,oM,by unfold Hid;rw [d.out,c.out,← b.out];rfl⟩
    case measure=>simp [intOf];omega
  ·obtain rfl:l=k:=oM;go_wp2;go_ret;exact⟨zap (by rw [b.out]),rfl⟩
theorem zdU {B':Option Addr} {m' d':Nat} {a:Aut} {l:Nat} (h:zF w lo hi B m B' m' a)(hv:zj a=true)(hq:q<a.next.length)(hl:l<6) :
  Calls Tryz.prog 225 #[.agg #[a.al,.slice B m d,.slice B' m' d'],q,l] w fun e w'=>e=.returned (.int .i64 (aGo a q l:Nat))∧Ext w w':=by
 obtain⟨⟨s,t⟩,_,_,f⟩:=zl hv;obtain⟨al,g⟩:∃ al:Nat,Hid (a.al=al):=⟨a.al.toNat,by unfold Hid;omega⟩;have n:Sm al:=by have:=g.out;unfold Sm;omega
 have o:a.al.toNat=al:=oH g.out;have Hn:=za h.n1;have T:=za (fun W (hW:Ext w W)=>h.1.ext hW);have L:q<m:=by rw [h.n1];exact hq
 have Q:=za (show aGo a q l=if al.testBit l then ((a.next.getD q []).getD (place al l) 0).toNat else q by unfold aGo;rw [o]);have c:a.next[q]?=some a.next[q]:=dH hq;obtain⟨k,v⟩:=f q _ c;rw [o] at k;have i:=za c;have G:=za v;have F:=za k;have Y:=h.1.len;clear k v c o f h;generalize a.next[q]=row at *;cases hb:al.testBit l
 ·have r:=za hb;clear hb;rw [g.out];clear s t
  go_enter Tryz.func225,Tryz.ntmps225
  go_wp2_with (go_at_call 143;refine (zaq al l n _ oM).mono ?_;rw [r.out];rintro e w' ⟨rfl,rfl⟩)
  go_ret;exact⟨zap (by rw [Q.out,r.out];rfl),(dE _).alloc _⟩
 ·have Z:=za (place_lt hl hb);have r:=za hb;clear hb;rw [g.out];clear s t;have u:place al l<row.length:=by rw [F.out];exact Z.out
  obtain⟨x,M⟩:∃ x,Hid (row[place al l]?=some x):=⟨_,dH u⟩;obtain⟨x0,x1⟩:=G.out x (dG M.out);obtain⟨y,rfl⟩:∃ y:Nat,x=y:=⟨x.toNat,oM⟩;have O:=za (show aGo a q l=y by rw [Q.out,r.out,if_pos rfl];simp only [eE,i.out,Option.getD_some,M.out];rfl)
  go_enter Tryz.func225,Tryz.ntmps225
  go_wp2_with (go_at_call 143;refine (zaq al l n _ oM).mono ?_;rw [r.out];rintro e w' ⟨rfl,rfl⟩)
  generalize U0:w.alloc _=p at *;obtain⟨D,H⟩:=Ext.x1_ U0;clear U0;obtain⟨U,S,X,l',rfl,_,_,J,R,C⟩:=(T.out p D).row L;obtain rfl:row=l':=by have h1:=i.out;have h2:=J.out;rw [h1] at h2;exact Option.some.inj h2
  have j:∀ W,Ext p W->∃ b,S=some b∧W.cell? (b.add (place al l))=some (.int .i64 (y:Nat)):=fun W hW=>by
   obtain⟨b,z,e,_,_,hz,I⟩:=(C.ext hW).int u;have h1:=M.out;have h2:=hz.out;rw [h1] at h2;obtain rfl:=Option.some.inj h2;exact⟨b,e,I⟩
  obtain⟨b,rfl,_⟩:=j p (dE _);have c2:∀ W,Ext p W->W.cell? (b.add (place al l))=some (.int .i64 (y:Nat)):=fun W hW=>by
   obtain⟨V,e,h⟩:=j W hW;injection e with e
   subst e;exact h
  have c1:∀ W,Ext p W->W.cell? (U.add q)=some (.slice (some b) row.length X):=fun W hW=>hW.aa R;have c0:=H.cells;clear j R C;have aa:(place al l:Int)<(row.length:Int):=oM;have ab:=dE p;generalize hpp:place al l=pl at *;have E:=za hpp;clear hpp;go_wp2_with fail
  go_region_held3 (fun W=>Ext p W) (first|assumption|(refine gG ?_;assumption)|(refine fI ?_ aM;assumption)|(refine fI ?_ aM;refine gG ?_;assumption)) ((go_at_call 279;refine (spec_l1Place al l n oM _).mono ?_;rw [E.out];rintro e w' ⟨rfl,rfl⟩))
  go_wp2;go_ret;exact⟨zap (by rw [O.out]),D.trans aM⟩
abbrev Lay (α:Type):=World->Nat->Nat->Value->α->Prop
structure Lay.Ok {α:Type} (P:Lay α):Prop where
 frm:∀ {S:Nat->Prop} {W W':World} {lo hi:Nat} {r:Value} {x:α},P W lo hi r x->Frm S W W'->(∀ k,lo<=k->k<hi->¬ S k)->P W' lo hi r x
 more:∀ {W:World} {lo hi lo' hi':Nat} {r:Value} {x:α},P W lo hi r x->lo'<=lo->hi<=hi'->P W lo' hi' r x
def zbq:Lay Nat:=fun _ _ _ r n=>r=.int .i64 (n:Nat)
theorem zbq.ok:Lay.Ok zbq:=⟨fun h _ _=>h,fun h _ _=>h⟩
def Lst {α:Type} (P:Lay α) (W:World) (lo hi:Nat) (A:Option Addr) (xs:List α):Prop:=
 ∃ rows,Reads W lo hi 1 A xs.length rows∧∀ (i:Nat) (r:Value) (x:α),rows[i]?=some r->xs[i]?=some x->P W lo hi r x
def LstP {α:Type} (P:Lay α):Lay (List α):=fun W lo hi r xs=>∃ A c,r=.slice A xs.length c∧Lst P W lo hi A xs
section
variable {α:Type} {P:Lay α} {W W':World} {lo hi:Nat} {A:Option Addr} {xs:List α}
theorem Lst.frm (hP:Lay.Ok P) (h:Lst P W lo hi A xs)(hx:Frm S W W')(hS:∀ k,lo<=k->k<hi->¬ S k):Lst P W' lo hi A xs:=by
 obtain⟨a,h1,h2⟩:=h;exact⟨a,h1.frm hx hS,fun i r x hr hx'=>hP.frm (h2 i r x hr hx') hx hS⟩
theorem Lst.ext (hP:Lay.Ok P)(h:Lst P W lo hi A xs)(hx:Ext W W'):Lst P W' lo hi A xs:=h.frm hP hx (fun _ _ _ h=>h)
theorem Lst.more (hP:Lay.Ok P) (h:Lst P W lo hi A xs)(h1:lo'<=lo)(h2:hi<=hi'):Lst P W lo' hi' A xs:=by
 obtain⟨a,b,c⟩:=h;exact⟨a,b.more h1 h2,fun i r x hr hx'=>hP.more (c i r x hr hx') h1 h2⟩
theorem LstP.ok (hP:Lay.Ok P):Lay.Ok (LstP P):=by
 refine⟨fun h hx hS=>?_,fun h h1 h2=>?_⟩
 ·obtain⟨A,c,e,h⟩:=h;exact⟨A,c,e,h.frm hP hx hS⟩
 ·obtain⟨A,c,e,h⟩:=h;exact⟨A,c,e,h.more hP h1 h2⟩
theorem Lst.len (h:Lst P W lo hi A xs):xs.length<=9223372036854775807:=by
 obtain⟨a,h1,_⟩:=h;exact h1.len
theorem Lst.get (h:Lst P W lo hi A xs)(hk:k<xs.length):∃ b o r x,A=some ⟨b,o,none⟩∧lo<=b∧b<hi∧Hid (xs[k]?=some x)∧W.cell? ⟨b,o+k,none⟩=some r∧P W lo hi r x:=by
 obtain⟨a,h1,h2⟩:=h;have n:=h1.length;rw [Nat.mul_one] at n;obtain⟨f,e,l,m,g⟩:=h1.at_ hk;have d:a[0]?=some (a[0]' oM):=dH _;have c:a[k]?=some (a[k]' oM):=dH _;have j:=zdH (g 0 _ d);have i:=g k _ c;rw [j,zT] at i;exact⟨f.block,f.off,_,_,by rw [e,← j],l,m,dH hk,i,h2 k _ _ c (dH hk)⟩
theorem Lst.get2 {x:α}(h:Lst P W lo hi (some ⟨b,o,none⟩) xs)(hx:xs[k]?=some x):∃ r,W.cell? ⟨b,o+k,none⟩=some r∧P W lo hi r x:=by
 obtain⟨f,g,r,y,e,_,_,a,c,d⟩:=h.get (List.getElem?_eq_some_iff.1 hx).1;injection e with e
 injection e with e1 e2
 subst e1;subst e2;rw [hx] at a;have:=Option.some.inj a.out;subst this;exact⟨r,c,d⟩
end
theorem Lst.az (h:Reads W lo hi 1 A xs.length (zac xs)):Lst zbq W lo hi A xs:=⟨zac xs,h,fun i r x hr hx=>by
 simp only [zac,List.getElem?_map,hx,Option.map_some] at hr
 exact (Option.some.inj hr).symm⟩
theorem Lst.ai (h:W.ownsRow base 3 1 (.slice A xs.length c) xs.length (zac xs)):Lst zbq W base W.heap.size A xs:=Lst.az (eW h)
theorem Lst.num (h:Lst zbq W lo hi A xs)(hk:k<xs.length):∃ b o x,A=some ⟨b,o,none⟩∧lo<=b∧b<hi∧Hid (xs[k]?=some x)∧W.cell? ⟨b,o+k,none⟩=some (.int .i64 (x:Nat)):=by
 obtain⟨b,o,r,x,e,h1,h2,a,c,d⟩:=h.get hk;exact⟨b,o,x,e,h1,h2,a,by rw [c,d]⟩
theorem Lst.num2 (h:Lst zbq W lo hi (some ⟨b,o,none⟩) xs)(hx:xs[k]?=some x):W.cell? ⟨b,o+k,none⟩=some (.int .i64 (x:Nat)):=by
 obtain⟨r,h1,h2⟩:=h.get2 hx;rw [h1,h2]
def Grl {α:Type} (P:Lay α) (W:World) (base:Nat) (e:TypeId) (v:Value) (xs:List α):Prop:=
 ∃ rows:List Value,W.ownsRow base e 1 v xs.length rows∧∀ (i:Nat) (r:Value) (x:α),rows[i]?=some r->xs[i]?=some x->∃ lo hi,base<=lo∧hi<=W.heap.size∧P W lo hi r x∧∀ b,v.ownBlock=some b->b<lo∨hi<=b
section
variable {α:Type} {P:Lay α} {W W':World} {base:Nat} {e:TypeId} {v:Value} {xs:List α}
theorem Grl.form (h:Grl P W base e v xs):∃ A c,v=.slice A xs.length c:=by
 obtain⟨a,h1,_⟩:=h;exact zi h1
theorem Grl.lst (hP:Lay.Ok P)  (h:Grl P W base e (.slice A n c) xs):Lst P W base W.heap.size A xs:=by
 obtain⟨a,h1,h2⟩:=h;have j:n=xs.length:=by
  obtain⟨k,l,g⟩:=zi h1;injection g
 subst j;refine⟨a,eW h1,fun i r x hr hx=>?_⟩;obtain⟨o,m,b,d,f,_⟩:=h2 i r x hr hx;exact hP.more f b d
theorem Grl.push (hP:Lay.Ok P)   {v':Value} {x:α} (h2:∀ (i:Nat) (r:Value) (x:α),rows[i]?=some r->xs[i]?=some x->∃ lo hi,base<=lo∧hi<=W.heap.size∧P W lo hi r x∧∀ b,v.ownBlock=some b->b<lo∨hi<=b)(h1:W.ownsRow base e 1 v xs.length rows)
  (hx:Ext W W1) (hr:P W1 lo hi r x) (hlo:W.heap.size<=lo) (hb:base<=lo) (hhi:hi<=W1.heap.size) (zkf:W'.ownsRow base e 1 v' (xs.length+1) (rows++[r])) (hg:W1.grownBy W' v.ownBlock) (hat:v'.ownBlock=v.ownBlock∨v'.ownBlock=some (W1.heap.size+1)):Grl P W' base e v' (xs++[x]):=by
 have g:rows.length=xs.length:=by have:=zdB h1;omega
 have c:Frm (fun k=>v.ownBlock=some k) W1 W':=Frm.ae hg;refine⟨rows++[r],by rw [eK,eY];exact zkf,fun i s y hs hy=>?_⟩;rcases fQ i rows.length with a | a | a
 ·rw [eH a] at hs;rw [eH oM] at hy;obtain⟨j,f,m,n,o,l⟩:=h2 i s y hs hy;refine⟨j,f,m,eI n (eI hx.size c.size),hP.frm (hP.frm o hx (fun _ _ _ h=>h)) c (fun k hk1 hk2 hk=>by have:=l k hk;omega),fun b hb'=>?_⟩;rcases hat with d|d
  ·rw [d] at hb';exact l b hb'
  ·rw [d] at hb';have:=Option.some.inj hb';have:=hx.size;omega
 ·rw [eN oM,a,iI] at hs;rw [eN oM,a,g,iI] at hy;simp at hs hy;subst hs;subst hy;refine⟨lo,hi,hb,eI hhi c.size,hP.frm hr c (fun k hk1 hk2 hk=>by have:=(h1.lt k hk).2;omega),fun b hb'=>?_⟩;rcases hat with d|d
  ·rw [d] at hb';have:=(h1.lt b hb').2;omega
  ·rw [d] at hb';have:=Option.some.inj hb';omega
 ·rw [eR (by simp;omega)] at hs;cases hs
theorem Grl.push2 (hP:Lay.Ok P)    {x:α} (h2:∀ (i:Nat) (r:Value) (x:α),rows[i]?=some r->xs[i]?=some x->∃ lo hi,base<=lo∧hi<=W.heap.size∧P W lo hi r x∧∀ b,v.ownBlock=some b->b<lo∨hi<=b)(h1:W.ownsRow base e 1 v xs.length rows)
  (hx:Ext W W1) (hr:P W1 lo hi r x) (hlo:W.heap.size<=lo) (hb:base<=lo) (hhi:hi<=W1.heap.size) (zkf:W'.ownsRow base e 1 (.slice (some g) (xs.length+1) cap) (xs.length+1) (rows++[r])) (hg:W1.grownBy W' v.ownBlock) (hat:v.ownBlock=some g∨g=W1.heap.size+1):Grl P W' base e (.slice (some g) (xs.length+1) cap) (xs++[x]):=
 Grl.push hP h2 h1 hx hr hlo hb hhi zkf hg (by
  rcases hat with h|h
  ·exact Or.inl h.symm
  ·exact Or.inr (by rw [h];rfl))
end
section
variable {P:Program} {ops:Array Oper} {Q:Exit->Act->World->Prop} {md:Region.Mode} {S:Array Bool->World->Prop}
def wpAnyL (P:Program) (md:Region.Mode) (ops:Array Oper) (Q:Exit->Act->World->Prop) (S:Array Bool->World->Prop):Nat->Array Bool->Act->World->Prop
 |0,listed,a,w=>Region.ready md ops listed=[]∧Q .normal a w
 |fuel+1,listed,a,w =>
  (Region.ready md ops listed=[]->Q .normal a w) ∧
  ∀ i∈Region.ready md ops listed,wpOp P ops Q i (fun a' w'=>S (listed.setIfInBounds i true) w'∧wpAnyL P md ops Q S fuel (listed.setIfInBounds i true) a' w') a w
theorem zgE:∀ (fuel:Nat) (listed:Array Bool) (a:Act) (w:World),wpAnyL P md ops Q S fuel listed a w->wpAny P md ops Q fuel listed a w
 |0,_,_,_,h=>h
 |fuel+1,_,_,_,h=>⟨h.1,fun i hi=>wpOp_mono (fun a' w' h'=>zgE fuel _ a' w' h'.2) (h.2 i hi)⟩
theorem wpAnyL_first {oi:Oper}  {Si:World->Prop} {G:Array Bool->Prop}(hi:ops[i]?=some oi)(hsel:∀ (j:Nat) (o:Oper) cs b,ops[j]?=some o->o.op≠.select cs b)
  (hQ:∀ c a w,Q (.panic c) (a.put oi.dst v) w->Q (.panic c) a w)
  (hG:∀ listed j,j∈Region.ready md ops listed->G listed->G (listed.setIfInBounds j true))
  (hSi:∀ listed w,G listed->listed.getD i true=false->S listed w->Si w)
  (hup:∀ listed w,S listed w->S (listed.setIfInBounds i true) w) (hdn:∀ listed w,listed.getD i true=false->S (listed.setIfInBounds i true) w->S listed w) :
  ∀ (fuel:Nat) (listed:Array Bool) (a:Act) (w:World),G listed ->
   (∀ j oj,ops[j]?=some oj->j≠i->listed.getD j true=false->(∀ e∈oj.after,Region.binds md e=true->e.on≠i)->oi.apart ops oj=true) ->
   i∈Region.ready md ops listed->YieldsIf P ops Si oi v a->S listed w ->
   wpAnyL P md ops Q S fuel (listed.setIfInBounds i true) (a.put oi.dst v) w->wpAnyL P md ops Q S (fuel+1) listed a w:=by
 intro fuel
 induction fuel with
 |zero =>
  intro listed a w hg _ hr hy hS H;refine⟨fun h=>(by rw [h] at hr;cases hr),fun j hj=>?_⟩
  by_cases hji:j=i
  ·subst hji;exact hy.wpOp hi (hSi _ _ hg (mem_ready.1 hr).1 hS) ⟨hup _ _ hS,H⟩
  ·have:=ready_mono hj hji;rw [H.1] at this;cases this
 |succ fuel ih =>
  intro listed a w hg hfree hr hy hS H;refine⟨fun h=>(by rw [h] at hr;cases hr),fun j hj=>?_⟩
  by_cases hji:j=i
  ·subst hji;exact hy.wpOp hi (hSi _ _ hg (mem_ready.1 hr).1 hS) ⟨hup _ _ hS,H⟩
  ·have h1:=H.2 j (ready_mono hj hji);obtain⟨f,oj,g,l⟩:=mem_ready.1 hj;have n:∀ e∈oj.after,Region.binds md e=true->e.on≠i:=fun e he hb heq=>by
    have h1:=l e he hb;have q:=(mem_ready.1 hr).1;rw [heq] at h1;rcases fM i listed.size with p | p
    ·simp [p] at q h1;rw [q] at h1;cases h1
    ·simp [Array.getElem?_eq_none p] at h1
   have h2:=wpOp_putIf g (hfree j oj g hji f n) (fun cs b=>hsel i oi cs b hi) (fun cs b=>hsel j oj cs b g) hQ hy h1;have d:∀ k ok,ops[k]?=some ok->k≠i->(listed.setIfInBounds j true).getD k true=false ->
     (∀ e∈ok.after,Region.binds md e=true->e.on≠i)->oi.apart ops ok=true:=fun k ok hk hki hun hno=>by
    refine hfree k ok hk hki ?_ hno
    by_cases hjk:j=k
    ·subst hjk;exact f
    ·rw [getD_set_ne true hjk] at hun;exact hun
   have m:(listed.setIfInBounds j true).getD i true=false:=by
    rw [getD_set_ne true hji];exact (mem_ready.1 hr).1
   refine wpOp_mono (fun a' w' h3=>?_) h2;have r:S (listed.setIfInBounds j true) w':=hdn _ _ m (by rw [Array.setIfInBounds_comm _ _ hji];exact h3.2.1);refine⟨r,ih (listed.setIfInBounds j true) a' w' (hG _ _ hj hg) d (ready_mono hr (Ne.symm hji)) h3.1 r ?_⟩;rw [Array.setIfInBounds_comm _ _ hji];exact h3.2.2
end
def Clo (l:List Oper) (listed:Array Bool):Prop:=∀ j,listed.getD j false=true->∀ o,l[j]?=some o->∀ e∈o.after,Region.binds .any e=true->listed.getD e.on false=true
def below (l:List Oper):Nat->Nat->Nat->Bool
 |0,_,_=>false
 |f+1,t,i=>match l[t]? with
  |some o=>o.after.any fun e=>Region.binds .any e&&(e.on==i || below l f e.on i)
  |none=>false
theorem zgn {l:List Oper} {listed:Array Bool}(hc:Clo l listed):∀ (f t i:Nat),below l f t i=true->listed.getD t false=true->listed.getD i false=true
 |0,_,_,h,_=>by simp [below] at h
 |f+1,t,i,h,ht=>by
  unfold below at h
  cases ho:l[t]? with
  |none=>simp [ho] at h
  |some o =>
   simp only [ho] at h
   obtain⟨e,he,hb⟩:=Array.any_eq_true'.1 h
   simp only [eD,iC,beq_iff_eq] at hb
   have h1:=hc t ht o ho e he hb.1
   rcases hb.2 with h2|h2
   ·rw [← h2];exact h1
   ·exact zgn hc f e.on i h2 h1
theorem zbt {l:List Oper} {listed:Array Bool} (hj:j∈Region.ready .any l.toArray listed)(h:Clo l listed):Clo l (listed.setIfInBounds j true):=by
 intro k hk o ho e he hb
 by_cases hkj:j=k
 ·subst hkj;obtain⟨_,b,ho',a⟩:=mem_ready.1 hj;have:b=o:=by
   have h1:l[j]?=some b:=by simpa using ho'
   rw [ho] at h1;exact (Option.some.inj h1).symm
  subst this;exact getD_set_true (a e he hb)
 ·rw [getD_set_ne false hkj] at hk;exact getD_set_true (h k hk o ho e he hb)
def pureOp:Op->Bool
 |.move _ | .assign _ | .pick _ _ _ | .binOp _ _ _ _ _ | .unOp _ _ _ | .fieldAddr _ _ _ | .field _ _ _ | .extract _ _ | .build _ _=>true
 |_=>false
inductive Ord where
 |nil:Ord
 |one:Nat->Ord->Ord
 |two:Nat->Ord->Nat->Ord->Ord
def Ord.of:List Nat->Ord
 |[]=>.nil
 |i :: r=>.one i (Ord.of r)
def Ord.app:List Nat->Ord->Ord
 |[],o=>o
 |i :: r,o=>.one i (Ord.app r o)
def zfi (l:List Oper) (T:List Nat):Ord->Array Bool->Bool
 |.nil,listed=>(Region.ready .any l.toArray listed).isEmpty
 |.one i rest,listed =>
  (match l[i]? with
   |some o=>if zcr o.op then Region.free .any l.toArray listed i&&(Region.ready .any l.toArray listed).contains i&&!T.contains i&&(pureOp o.op || T.all fun t=>below l l.length t i)
    else Region.ready .any l.toArray listed==[i]
   |none=>false)&&zfi l T rest (listed.setIfInBounds i true)
 |.two i r j r',listed=>(i<l.length&&j<l.length&&Region.ready .any l.toArray listed==[i,j])&&(zfi l T r (listed.setIfInBounds i true)&&zfi l T r' (listed.setIfInBounds j true))
def zaS (P:Program) (l:List Oper) (T:List Nat) (Q:Exit->Act->World->Prop) (S:World->Prop):Ord->Act->World->Prop
 |.nil,a,w=>Q .normal a w
 |.one i rest,a,w=>match l[i]? with
  |some o=>if zcr o.op then ∃ v,YieldsIf P l.toArray (if pureOp o.op then fun _=>True else S) o v a∧zaS P l T Q S rest (a.put o.dst v) w
   else wpOp P l.toArray Q i (fun a' w'=>(T.contains i=false->S w')∧zaS P l T Q S rest a' w') a w
  |none=>False
 |.two i r j r',a,w=>wpOp P l.toArray Q i (fun a' w'=>(T.contains i=false->S w')∧zaS P l T Q S r a' w') a w∧wpOp P l.toArray Q j (fun a' w'=>(T.contains j=false->S w')∧zaS P l T Q S r' a' w') a w
def Ord.len:Ord->Nat
 |.nil=>0
 |.one _ r=>r.len+1
 |.two _ r _ r'=>(if r.len=r'.len then r.len else 0)+1
def Ord.even:Ord->Bool
 |.nil=>true
 |.one _ r=>r.even
 |.two _ r _ r'=>r.len==r'.len&&(r.even&&r'.even)
section
variable {P:Program} {l:List Oper} {Q:Exit->Act->World->Prop} {S:World->Prop} {T:List Nat}
def zdW (T:List Nat) (listed:Array Bool):Prop:=∃ t∈T,listed.getD t false=true
theorem zdR (hs:Region.noSelect l.toArray=true)(hQ:∀ (c:List PanicEntry) (a:Act) (d:Tmp) (v:Value) (w:World),Q (.panic c) (a.put (some d) v) w->Q (.panic c) a w) :
  ∀ (ord:Ord) (listed:Array Bool) (a:Act) (w:World),listed.size=l.length->Clo l listed->ord.even=true->zfi l T ord listed=true->(zdW T listed∨S w)->zaS P l T Q S ord a w ->
   wpAnyL P .any l.toArray Q (fun listed w=>zdW T listed∨S w) ord.len listed a w
 |.nil,listed,a,w,_,_,_,hok,_,h=>by
  simp only [zfi,List.isEmpty_iff] at hok;exact⟨hok,h⟩
 |.one i rest,listed,a,w,hsz,hc,hev,hok,hS,h=>by
  cases ho:l[i]? with
  |none=>simp [zfi,ho] at hok
  |some o =>
   have hil:i<l.length:=(List.getElem?_eq_some_iff.1 ho).1;simp only [zfi,ho,eD] at hok;simp only [zaS,ho] at h
   by_cases hq:zcr o.op=true
   ·rw [if_pos hq] at hok h;simp only [eD] at hok;obtain⟨⟨⟨⟨hf,hrd⟩,hnT⟩,hpure⟩,hrest⟩:=hok;obtain⟨v,hy,hr⟩:=h;have hmem:i∈Region.ready .any l.toArray listed:=by simpa using hrd
    have u:i∉T:=by simpa using hnT
    have g:∀ listed:Array Bool,zdW T (listed.setIfInBounds i true)↔zdW T listed:=fun listed=>by
     constructor
     ·rintro ⟨t,p,q⟩;refine⟨t,p,?_⟩;rwa [getD_set_ne false (by rintro rfl;exact u p)] at q
     ·rintro ⟨t,p,q⟩;exact⟨t,p,getD_set_true q⟩
    refine wpAnyL_first (G:=fun listed=>Clo l listed∧listed.size=l.length) (by simpa using ho) (Region.noSelect_spec hs)
     (fun c a w h=>by cases hd:o.dst with|none=>rw [hd] at h;exact h|some d=>rw [hd] at h;exact hQ c a d v w h)
     (fun li j m hg=>⟨zbt m hg.1,by simpa using hg.2⟩) ?_ (fun li w h=>h.imp (fun x=>(g li).2 x) id) (fun li w _ h=>h.imp (fun x=>(g li).1 x) id)
     rest.len listed a w ⟨hc,hsz⟩ (Region.free_spec (by simpa using ho) hf) hmem hy hS ?_
    ·intro li w' hg hun h
     by_cases hp:pureOp o.op=true
     ·rw [if_pos hp];trivial
     ·rw [if_neg hp];rcases h with ⟨t,p,q⟩|h
      ·exfalso;simp only [hp,Bool.false_or] at hpure;have C:=List.all_eq_true.1 hpure t p;have h1:=zgn hg.1 _ _ _ C q;have h2:i<li.size:=by rw [hg.2];exact hil
       simp [h2] at hun h1;rw [h1] at hun;cases hun
      ·exact h
    ·exact zdR hs hQ rest _ _ _ (by simpa using hsz) (zbt hmem hc) hev hrest (hS.imp (fun x=>(g _).2 x) id) hr
   ·rw [if_neg hq] at hok h;have b:Region.ready .any l.toArray listed=[i]:=by simpa using hok.1
    have hmem:i∈Region.ready .any l.toArray listed:=by rw [b];simp
    refine⟨fun h0=>(by rw [h0] at b;cases b),fun j m=>?_⟩;rw [b] at m;rw [List.mem_singleton.1 m];refine wpOp_mono (fun a' w' h=>?_) h;have f:zdW T (listed.setIfInBounds i true)∨S w':=by
     cases hT:T.contains i
     ·exact Or.inr (h.1 hT)
     ·refine Or.inl ⟨i,by simpa using hT,?_⟩;have:i<listed.size:=oM;simp [this]
    exact⟨f,zdR hs hQ rest _ _ _ (by simpa using hsz) (zbt hmem hc) hev hok.2 f h.2⟩
 |.two i r j r',listed,a,w,hsz,hc,hev,hok,hS,h=>by
  simp only [Ord.even,eD,beq_iff_eq] at hev;simp only [zfi,eD,decide_eq_true_eq,beq_iff_eq] at hok;simp only [zaS] at h;obtain⟨⟨⟨B,m⟩,b⟩,y,z⟩:=hok;have s:(Ord.two i r j r').len=r.len+1:=by simp [Ord.len,hev.1]
  rw [s];have D:∀ k,k∈Region.ready .any l.toArray listed↔k=i∨k=j:=fun k=>by rw [b];simp
  have f:∀ k w',k<l.length->(T.contains k=false->S w')->zdW T (listed.setIfInBounds k true)∨S w':=fun k w' hk hx=>by
   cases hT:T.contains k
   ·exact Or.inr (hx hT)
   ·refine Or.inl ⟨k,by simpa using hT,?_⟩;have:k<listed.size:=oM;simp [this]
  refine⟨fun h0=>(by rw [h0] at b;cases b),fun k hk=>?_⟩;rcases (D k).1 hk with n | n
  ·rw [n] at hk ⊢;refine wpOp_mono (fun a' w' h=>?_) h.1;exact⟨f _ _ B h.1,zdR hs hQ r _ _ _ (by simpa using hsz) (zbt hk hc) hev.2.1 y (f _ _ B h.1) h.2⟩
  ·rw [n] at hk ⊢;refine wpOp_mono (fun a' w' h=>?_) h.2;have:=zdR hs hQ r' _ _ _ (by simpa using hsz) (zbt hk hc) hev.2.2 z (f _ _ m h.1) h.2;rw [← hev.1] at this;exact⟨f _ _ m h.1,this⟩
theorem clo_start (l:List Oper):Clo l (Array.replicate l.length false):=by
 intro j hj;exfalso;rcases fM j l.length with h|h
 ·simp [h] at hj
 ·simp [Nat.not_lt.2 h] at hj
theorem ziE (S:World->Prop) (T:List Nat) (ord:Ord)(hm:P.follows .mixedOrders=true)(hlen:ord.len=l.length)(hev:ord.even=true)(hs:Region.noSelect l.toArray=true)(hok:zfi l T ord (Array.replicate l.length false)=true)
  (hQ:∀ (c:List PanicEntry) (a:Act) (d:Tmp) (v:Value) (w:World),Q (.panic c) (a.put (some d) v) w->Q (.panic c) a w) (hS:S w.drew) (h:zaS P l T Q S ord a w.drew):(Code.region id l.toArray true).wp P Q a w:=by
 refine wp_region_any hm ?_;have:=zgE _ _ _ _ (zdR hs hQ ord _ a w.drew sM (clo_start l) hev hok (Or.inr hS) h);rw [hlen] at this;simpa using this
theorem zaD (h:Q .normal a w):zaS P l T Q S .nil a w:=h
theorem tseq_pure {rest:Ord} {o:Oper}   (ho:l[i]?=some o)(hq:zcr o.op=true) (_hp:pureOp o.op=true)(hw:Region.wanted o (yielded l.toArray a.tmps)=true)
  (hy:∀ W,(execOp a.eval o).run P W=.ok (.value v) W) (h:zaS P l T Q S rest (a.put o.dst v) w):zaS P l T Q S (.one i rest) a w:=by
 simp only [zaS,ho,hq,if_true];exact⟨v,.inl ⟨hw,fun W _=>hy W⟩,h⟩
theorem tseq_read {rest:Ord} {o:Oper}   (ho:l[i]?=some o)(hq:zcr o.op=true)(hp:pureOp o.op=false)(hw:Region.wanted o (yielded l.toArray a.tmps)=true)
  (hy:∀ W,S W->(execOp a.eval o).run P W=.ok (.value v) W) (h:zaS P l T Q S rest (a.put o.dst v) w):zaS P l T Q S (.one i rest) a w:=by
 simp only [zaS,ho,hq,hp,if_true];exact⟨v,.inl ⟨hw,hy⟩,h⟩
theorem yY02a2 {P:Prop}(h:P:=by
 split
 ·exact⟨undef,.inr ⟨hw,rfl⟩,h⟩
 ·unfold wpOp;simp only [List.getElem?_toArray,ho,hw,Bool.false_eq_true,if_false];exact⟨fun _=>hS,h⟩
 ):P:=h
theorem tseq_skip {rest:Ord} {o:Oper}  (ho:l[i]?=some o)(hw:Region.wanted o (yielded l.toArray a.tmps)=false)
  (hS:S w) (h:zaS P l T Q S rest (a.put o.dst undef) w):zaS P l T Q S (.one i rest) a w:=by
 simp only [zaS,ho];exact yY02a2
theorem zI {rest:Ord} {o:Oper}  
  (h:∀ K:Act->World->Prop,Shut (∀ a w,S w->zaS P l T Q S rest a w->K a w)->o.wp P a w K Q) (ho:l[i]?=some o:=by rfl) (hq:zcr o.op=false:=by rfl) (hw:Region.wanted o (yielded l.toArray a.tmps)=true:=by rfl):zaS P l T Q S (.one i rest) a w:=by
 simp only [zaS,ho,hq];unfold wpOp;simp only [fJ,ho,hw,if_true];exact .inl (h _ fun a w hS hW=>⟨fun _=>hS,hW⟩)
theorem zab {rest:Ord} {o:Oper}  
  (h:∀ K:Act->World->Prop,Shut (∀ a w,zaS P l T Q S rest a w->K a w)->o.wp P a w K Q) (ho:l[i]?=some o:=by rfl) (hq:zcr o.op=false:=by rfl) (hT:T.contains i=true:=by rfl) (hw:Region.wanted o (yielded l.toArray a.tmps)=true:=by rfl):zaS P l T Q S (.one i rest) a w:=by
 simp only [zaS,ho,hq];unfold wpOp;simp only [fJ,ho,hw,if_true];exact .inl (h _ fun a w hW=>⟨fun hn=>absurd (hn.symm.trans hT) dM,hW⟩)
end
section
variable {P:Program} {l:List Oper} {Q:Exit->Act->World->Prop} {S:World->Prop} {T:List Nat}
theorem yY02a1 {P:Prop}(h:P:=by
 constructor
 ·unfold wpOp;simp only [List.getElem?_toArray,ho,hw,if_true];exact .inl (h1 _ fun a w hS hW=>⟨fun _=>hS,hW⟩)
 ·unfold wpOp;simp only [List.getElem?_toArray,ho',hw',if_true];exact .inl (h2 _ fun a w hS hW=>⟨fun _=>hS,hW⟩)
 ):P:=h
theorem zgf {j:Nat} {r r':Ord} {o o':Oper}  
  (h1:∀ K:Act->World->Prop,Shut (∀ a w,S w->zaS P l T Q S r a w->K a w)->o.wp P a w K Q) (h2:∀ K:Act->World->Prop,Shut (∀ a w,S w->zaS P l T Q S r' a w->K a w)->o'.wp P a w K Q) (ho:l[i]?=some o:=by rfl) (ho':l[j]?=some o':=by rfl) (hw:Region.wanted o (yielded l.toArray a.tmps)=true:=by rfl) (hw':Region.wanted o' (yielded l.toArray a.tmps)=true:=by rfl):zaS P l T Q S (.two i r j r') a w:=by
 exact yY02a1
end
theorem zaH {P:Program} (wb w:World) {o:Oper}  {K:Act->World->Prop} {Q:Exit->Act->World->Prop} (s x:Operand) (t:TypeId)
  (ho:o.op=.call { callee:=.builtin .append,args:=#[s,x],argTypes:=#[t,t] })
  (e:TypeId) (z:Value) (size bytes:Nat) (ht:P.underlying t=some (.slice e)) (hi:(P.info? e).map (fun i=>(i.zero,i.size,i.bytes))=some (some z,size,bytes)) (hzs:z.cells.size=size) (hsz:0<size)
  (v:Value) (n:Nat) (xs:List Value) (us:Array Value) (e':TypeId) (hs:a.eval s=v) (hx:a.eval x=.slice (some w.heap.size) 1 1)
  (zkh:wb.heap.size<=w.heap.size) (zkf:w.ownsRow wb.heap.size e size v n xs) (hus:us.size=size) (h1:∀ u∈us.toList,u.oneCell'=true)
  (h63:n+1<=maxLen) (hbytes:(n+1)*bytes<=140737488355328)
  (h:∀ g cap w',w'.ownsRow wb.heap.size e size (.slice (some ⟨g,0,none⟩) (n+1) cap) (n+1) (xs++us.toList)->w.grownBy w' v.ownBlock->(v.ownBlock=some g∨g=w.heap.size+1)->g<w'.heap.size->K (a.put o.dst (.slice (some ⟨g,0,none⟩) (n+1) cap)) w') :
  o.wp P a (w.alloc (.cells us e')) K Q:=by
 obtain⟨i,c,d,f,l⟩:=info_parts hi;refine wp_append_lies (w.alloc (.cells us e')) s x t ho wb.heap.size e i z size bytes ht c d f l hzs hsz v n xs hs (zkf.alloc _) ⟨w.heap.size,0,none⟩ 1 1 us.toList hx (by simpa using hus) ?_ h1 oM h63 hbytes (by simp;omega) (w.heap.size+1) sM ?_
 ·intro j u hu;rw [zT,eO,(Blk.new w e' us).cell];simpa using hu
 ·intro g cap w' hown' hg hat hlt;have b:w.grownBy w' v.ownBlock:=⟨hg.os,hg.tape,hg.output,eI sM hg.size,fun k hk hne=>(hg.block k (by simp;omega) hne).trans (Below.heap_alloc w _ k hk)⟩;exact h g cap w' hown' b hat hlt
theorem zW {P:Program} (wb w:World) {ops:Array Oper} {rest:List Oper} {o:Oper}  {Q:Exit->Act->World->Prop}(hgd:o.guard=none) (s x:Operand) (t:TypeId)
  (ho:o.op=.call { callee:=.builtin .append,args:=#[s,x],argTypes:=#[t,t] })
  (e:TypeId) (z:Value) (size bytes:Nat) (ht:P.underlying t=some (.slice e)) (hi:(P.info? e).map (fun i=>(i.zero,i.size,i.bytes))=some (some z,size,bytes)) (hzs:z.cells.size=size) (hsz:0<size)
  (v:Value) (n:Nat) (xs:List Value) (us:Array Value) (e':TypeId) (hs:a.eval s=v) (hx:a.eval x=.slice (some w.heap.size) 1 1)
  (zkh:wb.heap.size<=w.heap.size) (zkf:w.ownsRow wb.heap.size e size v n xs) (hus:us.size=size) (h1:∀ u∈us.toList,u.oneCell'=true)
  (h63:n+1<=maxLen) (hbytes:(n+1)*bytes<=140737488355328)
  (h:∀ g cap w',w'.ownsRow wb.heap.size e size (.slice (some ⟨g,0,none⟩) (n+1) cap) (n+1) (xs++us.toList)->w.grownBy w' v.ownBlock->(v.ownBlock=some g∨g=w.heap.size+1)->g<w'.heap.size->wpList P ops Q rest (a.put o.dst (.slice (some ⟨g,0,none⟩) (n+1) cap)) w') :
  wpList P ops Q (o :: rest) a (w.alloc (.cells us e')):=
 wpList_plain hgd fun _ hK=>zaH wb w s x t ho e z size bytes ht hi hzs hsz v n xs us e' hs hx zkh zkf hus h1 h63 hbytes fun g cap w' h2 h3 h4 h5=>hK _ _ (h g cap w' h2 h3 h4 h5)
theorem tQ {A B:Prop}(h:B) (k:Bx B->A:=by
 intro h0
 repeat (first|(refine tseq_skip rfl rfl aM ?_;simp only [Act.put,List.setIfInBounds_toArray,List.set_cons_zero,List.set_cons_succ])|(refine tseq_pure (v:=?_) rfl rfl rfl rfl (fun X=>?_) ?_;rotate_left;(focus (go_simp<;>with_reducible rfl));simp only [Act.put,List.setIfInBounds_toArray,List.set_cons_zero,List.set_cons_succ])|(refine tseq_read (v:=?_) rfl rfl rfl rfl (fun X hX=>?_) ?_;rotate_left;(focus (go_simp<;>with_reducible rfl));simp only [Act.put,List.setIfInBounds_toArray,List.set_cons_zero,List.set_cons_succ]))
 exact h0.out):A:=k ⟨h⟩
theorem tR {P:Program} {l:List Oper} {Q:Exit->Act->World->Prop} {id:Nat}   (S:World->Prop) (T:List Nat) (ord:Ord)(h:zaS P l T Q S ord a w.drew)(hm:P.follows .mixedOrders=true:=by kernel_rfl)(hlen:ord.len=l.length:=by rfl)(hev:ord.even=true:=by kernel_rfl)(hs:Region.noSelect l.toArray=true:=by kernel_rfl)(hok:zfi l T ord (Array.replicate l.length false)=true:=by kernel_rfl)
  (hQ:∀ (c:List PanicEntry) (a:Act) (d:Tmp) (v:Value) (w:World),Q (.panic c) (a.put (some d) v) w->Q (.panic c) a w:=by exact fun _ _ _ _ _ h=>h) (hS:S w.drew:=by first|assumption|exact (dE _).drew|exact (Dr.refl _ _).drew|(refine gG ?_;assumption)):(Code.region id l.toArray true).wp P Q a w:=
 ziE S T ord hm hlen hev hs hok hQ hS h
def zgv:Op->Bool
 |.makeFunc _ _ _ | .move _ | .assign _ | .pick _ _ _ | .binOp _ _ _ _ _ | .unOp _ _ _ | .fieldAddr _ _ _ | .field _ _ _ | .extract _ _ | .build _ _=>true
 |_=>false
def zdw:Op->Bool
 |.makeFunc _ _ _=>true
 |o=>zcr o
inductive zw where
 |nil:zw
 |one:Nat->zw->zw
 |two:Nat->zw->Nat->zw->zw
 |three:Nat->zw->Nat->zw->Nat->zw->zw
def zw.of:List Nat->zw
 |[]=>.nil
 |i :: r=>.one i (zw.of r)
def zw.app:List Nat->zw->zw
 |[],o=>o
 |i :: r,o=>.one i (zw.app r o)
def zdq (l:List Oper) (T:List Nat):zw->Array Bool->Bool
 |.nil,listed=>(Region.ready .any l.toArray listed).isEmpty
 |.one i rest,listed =>
  (match l[i]? with
   |some o=>if zdw o.op then Region.free .any l.toArray listed i&&(Region.ready .any l.toArray listed).contains i&&!T.contains i&&(zgv o.op || T.all fun t=>below l l.length t i)
    else Region.ready .any l.toArray listed==[i]
   |none=>false)&&zdq l T rest (listed.setIfInBounds i true)
 |.two i r j r',listed=>(i<l.length&&j<l.length&&Region.ready .any l.toArray listed==[i,j])&&(zdq l T r (listed.setIfInBounds i true)&&zdq l T r' (listed.setIfInBounds j true))
 |.three i r j r' k r'',listed=>(i<l.length&&j<l.length&&k<l.length&&Region.ready .any l.toArray listed==[i,j,k])&&(zdq l T r (listed.setIfInBounds i true)&&zdq l T r' (listed.setIfInBounds j true)&&zdq l T r'' (listed.setIfInBounds k true))
def zau (P:Program) (l:List Oper) (T:List Nat) (Q:Exit->Act->World->Prop) (S:World->Prop):zw->Act->World->Prop
 |.nil,a,w=>Q .normal a w
 |.one i rest,a,w=>match l[i]? with
  |some o=>if zdw o.op then ∃ v,YieldsIf P l.toArray (if zgv o.op then fun _=>True else S) o v a∧zau P l T Q S rest (a.put o.dst v) w
   else wpOp P l.toArray Q i (fun a' w'=>(T.contains i=false->S w')∧zau P l T Q S rest a' w') a w
  |none=>False
 |.two i r j r',a,w=>wpOp P l.toArray Q i (fun a' w'=>(T.contains i=false->S w')∧zau P l T Q S r a' w') a w∧wpOp P l.toArray Q j (fun a' w'=>(T.contains j=false->S w')∧zau P l T Q S r' a' w') a w
 |.three i r j r' k r'',a,w=>wpOp P l.toArray Q i (fun a' w'=>(T.contains i=false->S w')∧zau P l T Q S r a' w') a w∧wpOp P l.toArray Q j (fun a' w'=>(T.contains j=false->S w')∧zau P l T Q S r' a' w') a w∧wpOp P l.toArray Q k (fun a' w'=>(T.contains k=false->S w')∧zau P l T Q S r'' a' w') a w
def zw.len:zw->Nat
 |.nil=>0
 |.one _ r=>r.len+1
 |.two _ r _ _=>r.len+1
 |.three _ r _ _ _ _=>r.len+1
def zw.even:zw->Bool
 |.nil=>true
 |.one _ r=>r.even
 |.two _ r _ r'=>r.len==r'.len&&(r.even&&r'.even)
 |.three _ r _ r' _ r''=>(r.len==r'.len&&r.len==r''.len)&&(r.even&&r'.even&&r''.even)
section
variable {P:Program} {l:List Oper} {Q:Exit->Act->World->Prop} {S:World->Prop} {T:List Nat}
theorem zbV (hs:Region.noSelect l.toArray=true)(hQ:∀ (c:List PanicEntry) (a:Act) (d:Tmp) (v:Value) (w:World),Q (.panic c) (a.put (some d) v) w->Q (.panic c) a w) :
  ∀ (ord:zw) (listed:Array Bool) (a:Act) (w:World),listed.size=l.length->Clo l listed->ord.even=true->zdq l T ord listed=true->(zdW T listed∨S w)->zau P l T Q S ord a w ->
   wpAnyL P .any l.toArray Q (fun listed w=>zdW T listed∨S w) ord.len listed a w
 |.nil,listed,a,w,_,_,_,hok,_,h=>by
  simp only [zdq,List.isEmpty_iff] at hok;exact⟨hok,h⟩
 |.one i rest,listed,a,w,hsz,hc,hev,hok,hS,h=>by
  cases ho:l[i]? with
  |none=>simp [zdq,ho] at hok
  |some o =>
   have hil:i<l.length:=(List.getElem?_eq_some_iff.1 ho).1;simp only [zdq,ho,eD] at hok;simp only [zau,ho] at h
   by_cases hq:zdw o.op=true
   ·rw [if_pos hq] at hok h;simp only [eD] at hok;obtain⟨⟨⟨⟨hf,hrd⟩,hnT⟩,hpure⟩,hrest⟩:=hok;obtain⟨v,hy,hr⟩:=h;have hmem:i∈Region.ready .any l.toArray listed:=by simpa using hrd
    have D:i∉T:=by simpa using hnT
    have p:∀ listed:Array Bool,zdW T (listed.setIfInBounds i true)↔zdW T listed:=fun listed=>by
     constructor
     ·rintro ⟨t,z,C⟩;refine⟨t,z,?_⟩;rwa [getD_set_ne false (by rintro rfl;exact D z)] at C
     ·rintro ⟨t,z,C⟩;exact⟨t,z,getD_set_true C⟩
    refine wpAnyL_first (G:=fun listed=>Clo l listed∧listed.size=l.length) (by simpa using ho) (Region.noSelect_spec hs)
     (fun c a w h=>by cases hd:o.dst with|none=>rw [hd] at h;exact h|some d=>rw [hd] at h;exact hQ c a d v w h)
     (fun li j s hg=>⟨zbt s hg.1,by simpa using hg.2⟩) ?_ (fun li w h=>h.imp (fun x=>(p li).2 x) id) (fun li w _ h=>h.imp (fun x=>(p li).1 x) id)
     rest.len listed a w ⟨hc,hsz⟩ (Region.free_spec (by simpa using ho) hf) hmem hy hS ?_
    ·intro li w' hg hun h
     by_cases hp:zgv o.op=true
     ·rw [if_pos hp];trivial
     ·rw [if_neg hp];rcases h with ⟨t,z,C⟩|h
      ·exfalso;simp only [hp,Bool.false_or] at hpure;have J:=List.all_eq_true.1 hpure t z;have h1:=zgn hg.1 _ _ _ J C;have h2:i<li.size:=by rw [hg.2];exact hil
       simp [h2] at hun h1;rw [h1] at hun;cases hun
      ·exact h
    ·exact zbV hs hQ rest _ _ _ (by simpa using hsz) (zbt hmem hc) hev hrest (hS.imp (fun x=>(p _).2 x) id) hr
   ·rw [if_neg hq] at hok h;have b:Region.ready .any l.toArray listed=[i]:=by simpa using hok.1
    have hmem:i∈Region.ready .any l.toArray listed:=by rw [b];simp
    refine⟨fun h0=>(by rw [h0] at b;cases b),fun j s=>?_⟩;rw [b] at s;rw [List.mem_singleton.1 s];refine wpOp_mono (fun a' w' h=>?_) h;have f:zdW T (listed.setIfInBounds i true)∨S w':=by
     cases hT:T.contains i
     ·exact Or.inr (h.1 hT)
     ·refine Or.inl ⟨i,by simpa using hT,?_⟩;have:i<listed.size:=oM;simp [this]
    exact⟨f,zbV hs hQ rest _ _ _ (by simpa using hsz) (zbt hmem hc) hev hok.2 f h.2⟩
 |.two i r j r',listed,a,w,hsz,hc,hev,hok,hS,h=>by
  simp only [zw.even,eD,beq_iff_eq] at hev;simp only [zdq,eD,decide_eq_true_eq,beq_iff_eq] at hok;simp only [zau] at h;obtain⟨⟨⟨B,s⟩,b⟩,m,n⟩:=hok;have g:(zw.two i r j r').len=r.len+1:=rfl;rw [g];have F:∀ k,k∈Region.ready .any l.toArray listed↔k=i∨k=j:=fun k=>by rw [b];simp
  have f:∀ k w',k<l.length->(T.contains k=false->S w')->zdW T (listed.setIfInBounds k true)∨S w':=fun k w' u hx=>by
   cases hT:T.contains k
   ·exact Or.inr (hx hT)
   ·refine Or.inl ⟨k,by simpa using hT,?_⟩;have:k<listed.size:=oM;simp [this]
  refine⟨fun h0=>(by rw [h0] at b;cases b),fun k u=>?_⟩;rcases (F k).1 u with y | y
  ·rw [y] at u ⊢;refine wpOp_mono (fun a' w' h=>?_) h.1;exact⟨f _ _ B h.1,zbV hs hQ r _ _ _ (by simpa using hsz) (zbt u hc) hev.2.1 m (f _ _ B h.1) h.2⟩
  ·rw [y] at u ⊢;refine wpOp_mono (fun a' w' h=>?_) h.2;have:=zbV hs hQ r' _ _ _ (by simpa using hsz) (zbt u hc) hev.2.2 n (f _ _ s h.1) h.2;rw [← hev.1] at this;exact⟨f _ _ s h.1,this⟩
 |.three i r j r' k r'',listed,a,w,hsz,hc,hev,hok,hS,h=>by
  simp only [zw.even,eD,beq_iff_eq] at hev;simp only [zdq,eD,decide_eq_true_eq,beq_iff_eq] at hok;simp only [zau] at h;obtain⟨⟨⟨⟨B,s⟩,u⟩,b⟩,⟨m,n⟩,E⟩:=hok;obtain⟨⟨H,I⟩,⟨L,M⟩,O⟩:=hev;have g:(zw.three i r j r' k r'').len=r.len+1:=rfl;rw [g];have F:∀ x,x∈Region.ready .any l.toArray listed↔x=i∨x=j∨x=k:=fun x=>by rw [b];simp
  have f:∀ k w',k<l.length->(T.contains k=false->S w')->zdW T (listed.setIfInBounds k true)∨S w':=fun k w' u hx=>by
   cases hT:T.contains k
   ·exact Or.inr (hx hT)
   ·refine Or.inl ⟨k,by simpa using hT,?_⟩;have:k<listed.size:=oM;simp [this]
  refine⟨fun h0=>(by rw [h0] at b;cases b),fun x hx=>?_⟩;rcases (F x).1 hx with q | q | q
  ·rw [q] at hx ⊢;refine wpOp_mono (fun a' w' h=>?_) h.1;exact⟨f _ _ B h.1,zbV hs hQ r _ _ _ (by simpa using hsz) (zbt hx hc) L m (f _ _ B h.1) h.2⟩
  ·rw [q] at hx ⊢;refine wpOp_mono (fun a' w' h=>?_) h.2.1;have:=zbV hs hQ r' _ _ _ (by simpa using hsz) (zbt hx hc) M n (f _ _ s h.1) h.2;rw [← H] at this;exact⟨f _ _ s h.1,this⟩
  ·rw [q] at hx ⊢;refine wpOp_mono (fun a' w' h=>?_) h.2.2;have:=zbV hs hQ r'' _ _ _ (by simpa using hsz) (zbt hx hc) O E (f _ _ u h.1) h.2;rw [← I] at this;exact⟨f _ _ u h.1,this⟩
theorem zbp (S:World->Prop) (T:List Nat) (ord:zw)(hm:P.follows .mixedOrders=true)(hlen:ord.len=l.length)(hev:ord.even=true)(hs:Region.noSelect l.toArray=true)(hok:zdq l T ord (Array.replicate l.length false)=true)
  (hQ:∀ (c:List PanicEntry) (a:Act) (d:Tmp) (v:Value) (w:World),Q (.panic c) (a.put (some d) v) w->Q (.panic c) a w) (hS:S w.drew) (h:zau P l T Q S ord a w.drew):(Code.region id l.toArray true).wp P Q a w:=by
 refine wp_region_any hm ?_;have:=zgE _ _ _ _ (zbV hs hQ ord _ a w.drew sM (clo_start l) hev hok (Or.inr hS) h);rw [hlen] at this;simpa using this
theorem zg (h:Q .normal a w):zau P l T Q S .nil a w:=h
theorem useq_pure {rest:zw} {o:Oper}   (ho:l[i]?=some o)(hq:zdw o.op=true) (_hp:zgv o.op=true)(hw:Region.wanted o (yielded l.toArray a.tmps)=true)
  (hy:∀ W,(execOp a.eval o).run P W=.ok (.value v) W) (h:zau P l T Q S rest (a.put o.dst v) w):zau P l T Q S (.one i rest) a w:=by
 simp only [zau,ho,hq,if_true];exact⟨v,.inl ⟨hw,fun W _=>hy W⟩,h⟩
theorem zbE {rest:zw} {o:Oper}   (ho:l[i]?=some o)(hq:zdw o.op=true)(hp:zgv o.op=false)(hw:Region.wanted o (yielded l.toArray a.tmps)=true)
  (hy:∀ W,S W->(execOp a.eval o).run P W=.ok (.value v) W) (h:zau P l T Q S rest (a.put o.dst v) w):zau P l T Q S (.one i rest) a w:=by
 simp only [zau,ho,hq,hp,if_true];exact⟨v,.inl ⟨hw,hy⟩,h⟩
theorem useq_skip {rest:zw} {o:Oper}  (ho:l[i]?=some o)(hw:Region.wanted o (yielded l.toArray a.tmps)=false)
  (hS:S w) (h:zau P l T Q S rest (a.put o.dst undef) w):zau P l T Q S (.one i rest) a w:=by
 simp only [zau,ho];exact yY02a2
theorem ze {rest:zw} {o:Oper}  
  (h:∀ K:Act->World->Prop,Shut (∀ a w,S w->zau P l T Q S rest a w->K a w)->o.wp P a w K Q) (ho:l[i]?=some o:=by rfl) (hq:zdw o.op=false:=by rfl) (hw:Region.wanted o (yielded l.toArray a.tmps)=true:=by rfl):zau P l T Q S (.one i rest) a w:=by
 simp only [zau,ho,hq];unfold wpOp;simp only [fJ,ho,hw,if_true];exact .inl (h _ fun a w hS hW=>⟨fun _=>hS,hW⟩)
theorem zb {rest:zw} {o:Oper}  
  (h:∀ K:Act->World->Prop,Shut (∀ a w,zau P l T Q S rest a w->K a w)->o.wp P a w K Q) (ho:l[i]?=some o:=by rfl) (hq:zdw o.op=false:=by rfl) (hT:T.contains i=true:=by rfl) (hw:Region.wanted o (yielded l.toArray a.tmps)=true:=by rfl):zau P l T Q S (.one i rest) a w:=by
 simp only [zau,ho,hq];unfold wpOp;simp only [fJ,ho,hw,if_true];exact .inl (h _ fun a w hW=>⟨fun hn=>absurd (hn.symm.trans hT) dM,hW⟩)
end
section
variable {P:Program} {l:List Oper} {Q:Exit->Act->World->Prop} {S:World->Prop} {T:List Nat}
theorem zm {j:Nat} {r r':zw} {o o':Oper}  
  (h1:∀ K:Act->World->Prop,Shut (∀ a w,S w->zau P l T Q S r a w->K a w)->o.wp P a w K Q) (h2:∀ K:Act->World->Prop,Shut (∀ a w,S w->zau P l T Q S r' a w->K a w)->o'.wp P a w K Q) (ho:l[i]?=some o:=by rfl) (ho':l[j]?=some o':=by rfl) (hw:Region.wanted o (yielded l.toArray a.tmps)=true:=by rfl) (hw':Region.wanted o' (yielded l.toArray a.tmps)=true:=by rfl):zau P l T Q S (.two i r j r') a w:=by
 exact yY02a1
theorem zaL {j k:Nat} {r r' r'':zw} {o o' o'':Oper}  
  (h1:∀ K:Act->World->Prop,Shut (∀ a w,S w->zau P l T Q S r a w->K a w)->o.wp P a w K Q) (h2:∀ K:Act->World->Prop,Shut (∀ a w,S w->zau P l T Q S r' a w->K a w)->o'.wp P a w K Q) (h3:∀ K:Act->World->Prop,Shut (∀ a w,S w->zau P l T Q S r'' a w->K a w)->o''.wp P a w K Q) (ho:l[i]?=some o:=by rfl) (ho':l[j]?=some o':=by rfl) (ho'':l[k]?=some o'':=by rfl) (hw:Region.wanted o (yielded l.toArray a.tmps)=true:=by rfl) (hw':Region.wanted o' (yielded l.toArray a.tmps)=true:=by rfl) (hw'':Region.wanted o'' (yielded l.toArray a.tmps)=true:=by rfl):zau P l T Q S (.three i r j r' k r'') a w:=by
 refine⟨?_,?_,?_⟩
 ·unfold wpOp;simp only [fJ,ho,hw,if_true];exact .inl (h1 _ fun a w hS hW=>⟨fun _=>hS,hW⟩)
 ·unfold wpOp;simp only [fJ,ho',hw',if_true];exact .inl (h2 _ fun a w hS hW=>⟨fun _=>hS,hW⟩)
 ·unfold wpOp;simp only [fJ,ho'',hw'',if_true];exact .inl (h3 _ fun a w hS hW=>⟨fun _=>hS,hW⟩)
end
theorem uQ {A B:Prop}(h:B) (k:Bx B->A:=by
 intro h0
 repeat (first|(refine useq_skip rfl rfl aM ?_;simp only [Act.put,List.setIfInBounds_toArray,List.set_cons_zero,List.set_cons_succ])|(refine useq_pure (v:=?_) rfl rfl rfl rfl (fun X=>?_) ?_;rotate_left;(focus (go_simp<;>with_reducible rfl));simp only [Act.put,List.setIfInBounds_toArray,List.set_cons_zero,List.set_cons_succ])|(refine zbE (v:=?_) rfl rfl rfl rfl (fun X hX=>?_) ?_;rotate_left;(focus (go_simp<;>with_reducible rfl));simp only [Act.put,List.setIfInBounds_toArray,List.set_cons_zero,List.set_cons_succ]))
 exact h0.out):A:=k ⟨h⟩
theorem uR {P:Program} {l:List Oper} {Q:Exit->Act->World->Prop} {id:Nat}   (S:World->Prop) (T:List Nat) (ord:zw)(h:zau P l T Q S ord a w.drew)(hm:P.follows .mixedOrders=true:=by kernel_rfl)(hlen:ord.len=l.length:=by kernel_rfl)(hev:ord.even=true:=by kernel_rfl)(hs:Region.noSelect l.toArray=true:=by kernel_rfl)(hok:zdq l T ord (Array.replicate l.length false)=true:=by kernel_rfl)
  (hQ:∀ (c:List PanicEntry) (a:Act) (d:Tmp) (v:Value) (w:World),Q (.panic c) (a.put (some d) v) w->Q (.panic c) a w:=by exact fun _ _ _ _ _ h=>h) (hS:S w.drew:=by first|assumption|exact (dE _).drew|(refine gG ?_;assumption)):(Code.region id l.toArray true).wp P Q a w:=
 zbp S T ord hm hlen hev hs hok hQ hS h
theorem info_pmov:(Tryz.prog.info? 147).map (fun i=>(i.zero,i.size,i.bytes))=some (some (.pointer none),1,8):=kM
def ptrs (bs:List Nat):List Value:=bs.map fun b=>.pointer (some ⟨b,0,none⟩)
def MovL (w:World) (bs:List Nat) (ss:List Sys):Prop:=bs.length=ss.length∧∀ (i b:Nat) (s:Sys),bs[i]?=some b->ss[i]?=some s->MovB w b s.edges
theorem MovL.ext (h:MovL w bs ss)(hx:Ext w w'):MovL w' bs ss:=⟨h.1,fun i b s hb hs=>(h.2 i b s hb hs).ext hx⟩
theorem MovL.snoc (h:MovL w bs ss)(hx:Ext w w')(hb:MovB w' b s.edges):MovL w' (bs++[b]) (ss++[s]):=by
 have c:=h.1;refine⟨by simp [c],fun i b' s' hb' hs'=>?_⟩;rcases fQ i bs.length with a|a|a
 ·rw [eH a] at hb';rw [eH oM] at hs';exact (h.2 i b' s' hb' hs').ext hx
 ·rw [eN oM,a,iI] at hb';rw [eN oM,a,c,iI] at hs';simp at hb' hs';subst hb';subst hs';exact hb
 ·rw [eR (by simp;omega)] at hb';cases hb'
theorem MovL.frm (h:MovL w bs ss)(hx:Frm S w w')(hS:∀ (b:Nat) (cs:Array Value),Blk w b 249 cs->¬ S b):MovL w' bs ss:=
 ⟨h.1,fun i b s hb hs=>by
  obtain⟨cs,hB,hc⟩:=h.2 i b s hb hs
  exact⟨cs,hB.frm hx (hS b cs hB),hc⟩⟩
structure PtAt (w:World) (lo hi:Nat) (A:Option Addr) (k lo' hi':Nat) (M:Option Addr) (ss:List Sys):Prop where
 sys:zdG w lo hi A k ss
 mov:∃ bs,Reads w lo' hi' 1 M k (ptrs bs)∧MovL w bs ss
theorem PtAt.ext {M:Option Addr} (h:PtAt w lo hi A k lo' hi' M ss)(hx:Ext w w'):PtAt w' lo hi A k lo' hi' M ss:=by
 obtain⟨a,c,b⟩:=h.mov;exact⟨h.sys.ext hx,a,c.ext hx,b.ext hx⟩
structure Grp (w0 W:World) (G:Nat) (a v:Value) (bs:List Nat) (ss:List Sys):Prop where
 blk:Blk W G 108 #[a,v]
 own:W.ownsRow w0.heap.size 147 1 v bs.length (ptrs bs)
 mov:MovL W bs ss
 ext:Ext w0 W
 hG:w0.heap.size<=G
theorem Grp.aw {a:Value}  (h:Grp w0 W G a v bs ss)(hb:Ext W W'):Grp w0 W' G a v bs ss:=⟨h.blk.ext hb,zh h.own hb,h.mov.ext hb,h.ext.trans hb,h.hG⟩
theorem zK {xs:List Value} (h:w.ownsRow base e size v n xs)(hB:Blk w G t cs)(hne:e≠t) (hv:v.ownBlock=some b):b≠G:=by
 rintro rfl;rcases h.2 with ⟨rfl,_⟩|⟨g,a,c,rfl,_,f,_⟩
 ·simp [Value.ownBlock] at hv
 ·have d:g=b:=by simpa [Value.ownBlock] using hv
  subst d;unfold Blk at hB;rw [f] at hB;injection hB with hB
  injection hB with _ ht
  exact absurd ht hne
theorem Grp.push {a:Value}    (h:Grp w0 W G a v bs ss)(hb:MovB W b s.edges)
  (zkf:W'.ownsRow w0.heap.size 147 1 (.slice (some g) (bs.length+1) cap) (bs.length+1) (ptrs bs++[.pointer (some b)]))
  (hg:W.grownBy W' v.ownBlock) (hat:v.ownBlock=some g∨g=W.heap.size+1) :
  Hid (W'.cell? ⟨G,1,none⟩=some v)∧W'.frozen? ⟨G,1,none⟩=false∧Grp w0 (W'.setCell ⟨G,1,none⟩ (.slice (some g) (bs.length+1) cap)) G a (.slice (some g) (bs.length+1) cap) (bs++[b]) (ss++[s]):=by
 have d:Blk W' G 108 #[a,v]:=(hg.block G h.blk.lt (fun e=>zK h.own h.blk dM e.symm rfl)).trans h.blk;have l:g≠G:=by
  rcases hat with h1|h1
  ·exact zK h.own h.blk dM h1
  ·have:=h.blk.lt;omega
 have m:Ext w0 W':=h.ext.grown hg (fun k hk=>(h.own.lt k hk).1);have f:=eB W' G 1 (.slice (some g) (bs.length+1) cap);have i:Frm (fun k=>v.ownBlock=some k) W W':=Frm.ae hg;have j:MovL W' (bs++[b]) (ss++[s]):=(h.mov.snoc (dE W) hb).frm i (fun c cs hc hS=>zK h.own hc dM hS rfl);refine⟨d.cell 1,d.frozen 1,⟨by simpa using d.ab 1 _,?_,j.frm f (fun c cs hc hS=>?_),m.setCell (p:=⟨G,1,none⟩) h.hG _,h.hG⟩⟩
 ·rw [eK,eY,show ptrs (bs++[b])=ptrs bs++[.pointer (some b)] by simp [ptrs]];exact zf zkf f (fun c hv hS=>by
   have:g=c:=by simpa [Value.ownBlock] using hv
   omega)
 ·subst hS;unfold Blk at hc d;rw [hc] at d;injection d with d
  injection d with _ ht
  exact absurd ht dM
theorem zed (h:zdG w lo hi A n ss)(hf:∀ s∈ss,Few 16 s.edges)(hn4:n<=1000) :
  Calls Tryz.prog 66 #[.slice A n c] w fun e w'=>∃ M d,e=.returned (.agg #[.slice A n c,.slice M n d])∧PtAt w' lo hi A n w.heap.size w'.heap.size M ss∧Ext w w':=by
 have HS:=za (fun W (hW:Ext w W)=>h.ext hW);have hL:=za h.1;have Hf:=za hf;have ad:=h.len;clear hf
 go_enter Tryz.func66,Tryz.ntmps66
 obtain⟨l,bG⟩:=zJ (dE ((w.alloc (.cells #[(),()] 108)).alloc (.cells #[.slice A n c,()] 108)));have D:Ext w ((w.alloc (.cells #[(),()] 108)).alloc (.cells #[.slice A n c,()] 108)):=((dE w).alloc _).alloc _;go_upto_region 2 with fail
 have ag:w.heap.size<=(w.alloc (.cells #[(),()] 108)).heap.size:=sM;have C:(w.alloc (.cells #[(),()] 108)).heap.size=w.heap.size+1:=sM;have j:Grp (w.alloc (.cells #[(),()] 108)) ((w.alloc (.cells #[(),()] 108)).alloc (.cells #[.slice A n c,()] 108)) (w.heap.size+1) (.slice A n c) (.slice none 0 0) [] []:=
  ⟨bG,World.ownsRow_nil _ _ _ _,⟨rfl,fun i b s hb=>by simp at hb⟩,(dE _).alloc _,by rw [C];exact dI _⟩
 clear bG;generalize (w.alloc _).alloc _=w2 at *;generalize w.alloc _=w1 at *;go_wp2_with fail
 go_loopw [10] (fun i wr=>∃ (k:Nat) (v:Value) (t:List Nat),k<=n∧i=.int .i64 k∧Grp w1 wr (w.heap.size+1) (.slice A n c) v t (ss.take k)∧Hid (t.length=k)∧Blk wr w.heap.size 108 #[(),()]∧Ext w wr) (fun i _=>n - (intOf i).toNat)
 case atStart=>exact⟨0,_,[],eC _,rfl,by simpa using j,za rfl,l,D⟩
 case round =>
  clear j l D w2;obtain⟨k,v,t,hk,rfl,j,r,l,hw⟩:=hrel
  by_cases hlt:k<n
  ·obtain⟨g,o,s,B,m,c',rfl,_,_,hs,c0,c1,c2,R⟩:=(HS.out wr hw).sys hlt;have O:=za (Hf.out s (dG hs.out));have G:=za (show ss.take (k+1)=ss.take k++[s] by rw [eG,hs.out];rfl);have u:=(dE wr).alloc (.cells #[s.al,s.st,.slice B m c'] 38);have f:=j.aw u;have S:=hw.trans u;have x:=l.ext u;have z:=R.ext u;clear j;go_upto_region 5 with fail
   clear c0 c1 c2;generalize U0:wr.alloc _=Y at *;have L:=Ext.bl_ U0;clear U0;have c5:=L.cells;have cG:=fun W (hW:Ext Y W)=>(f.blk.ext hW).cell;have E:=dE Y;refine uR (fun X=>Ext Y X) [5,7] (zw.of [0,1,2,3,4,5,6,7]) ?_;refine uQ ?_;refine ze fun K hK=>?_;go_simp;refine (zeA (z.ext E.drew) O.out).mono ?_;rintro e w4 ⟨b,rfl,ar,Q,V⟩;have a:=E.drew.trans V;refine hK.out _ _ a ?_;refine pT ?_;refine uQ ?_;refine ze fun K hK=>?_;go_simp;refine hK.out _ _ (a.alloc _) ?_;refine pT ?_;refine zb fun K hK=>?_;refine zaH w1 w4 _ _ _ rfl 147 _ 1 8 Tryz.underlying106 info_pmov rfl dM v t.length (ptrs t) _ _ rfl rfl (f.ext.trans a).size (zh f.own a) rfl (by simp [Value.oneCell']) (by unfold maxLen;have:=r.out;omega) (oH r.out) ?_;intro g5 cap5 w5 zkr hg5 hat5 hlt5;refine hK.out _ _ ?_;refine pT ?_;refine uQ ?_;obtain⟨p1,p2,p3⟩:=(f.aw a).push (s:=s) Q (W':=w5) zkr hg5 hat5;have aw:=p1.out;have H:Blk w5 w.heap.size 108 #[.slice none 0 0,.slice none 0 0]:=(hg5.block _ (x.ext a).lt (fun e=>zK (zh f.own a) (x.ext a) dM e.symm rfl)).trans (x.ext a);have T:Ext w w5:=(S.trans a).grown hg5 (fun q hq=>by have:=(zh f.own a).lt q hq;omega);have I:=H.far (p:=⟨w.heap.size+1,1,none⟩) sM (.slice (some g5) (t.length+1) cap5);have U:=T.setCell (p:=⟨w.heap.size+1,1,none⟩) sM (.slice (some g5) (t.length+1) cap5);refine zb fun K hK=>?_;go_simp;refine hK.out _ _ ?_;refine zg ?_;go_wp2_with fail
   go_roundw
   case rel=>exact⟨k+1,_,t++[b],oM,gM,by rw [G.out];exact p3,za (by rw [eK,r.out];rfl),I,U⟩
   case measure=>simp [intOf];omega
  ·obtain rfl:n=k:=oM;obtain⟨M,d,rfl⟩:∃ M d,v=.slice M n d:=by
    have ho:=j.own;rw [r.out] at ho;exact zi ho
   have cG:=j.blk.cell;have cZ:=l.cell;have fZ:=l.frozen;have y:Frm (fun k=>k=w.heap.size) wr ((wr.setCell w.heap.size (.slice A n c)).setCell ⟨w.heap.size,1,none⟩ (.slice M n d)):=(eB wr _ 0 _).trans (eB _ _ 1 _);have J:Blk ((wr.setCell w.heap.size (.slice A n c)).setCell ⟨w.heap.size,1,none⟩ (.slice M n d)) w.heap.size 108 #[.slice A n c,.slice M n d]:=by simpa using (l.ab 0 (.slice A n c)).ab 1 (.slice M n d)
   have F:=hw.frm y (fun k hk e=>oM);have Z:=za (show ∃ M' d',Ending.returned (.agg #[.slice A n c,.slice M n d])=.returned (.agg #[.slice A n c,.slice M' n d'])∧PtAt ((wr.setCell w.heap.size (.slice A n c)).setCell ⟨w.heap.size,1,none⟩ (.slice M n d)) lo hi A n w.heap.size ((wr.setCell w.heap.size (.slice A n c)).setCell ⟨w.heap.size,1,none⟩ (.slice M n d)).heap.size M' ss∧Ext w ((wr.setCell w.heap.size (.slice A n c)).setCell ⟨w.heap.size,1,none⟩ (.slice M n d)) from by
    refine⟨M,d,rfl,⟨HS.out _ F,t,?_,?_⟩,F⟩
    ·have ho:=zaF j.own y (fun b h1 e=>oM);rw [r.out] at ho;exact (eW ho).more oM (dI _)
    ·have hm:=j.mov;rw [eF (oH hL.out)] at hm;exact hm.frm y (fun b cs hc hS=>by
      subst hS;unfold Blk at hc l;rw [hc] at l;injection l with l
      injection l with _ ht
      exact absurd ht dM))
   go_wp2_with fail
   generalize (wr.setCell w.heap.size (.slice A n c)).setCell ⟨w.heap.size,1,none⟩ (.slice M n d)=wf at *;have cf:=J.cell;exact bodyPost_ret (v:=.agg #[.slice A n c,.slice M n d]) (by simp [results,Tryz.results66,go_sem,cf]) rfl Z.out
theorem zeD (l:List Nat) (x:Nat):zac (l++[x])=zac l++[.int .i64 (x:Nat)]:=by simp [zac]
theorem spec_l4Sizes {G:Int}  {us:List Aut} (h:zfD w PA pn AA an ss us)(hok:zdZ ss us) :
  Calls Tryz.prog 215 #[.agg #[.slice PA pn pc,.slice AA an ac,sv,L,K,G]] w (zbI w (szs ss us)):=by
 have J:=za (fun W (hW:Ext w W)=>h.ext hW);have z:Hid (pn=ss.length):=by obtain⟨_,_,h1⟩:=h.sys;exact h1.1
 have x:Hid (an=us.length):=by obtain⟨_,_,h1⟩:=h.aut;exact h1.1
 have ad:pn<=3:=by rw [z.out];exact hok.few
 have X:an<=2:=by rw [x.out];exact hok.few'
 have u:=za hok;clear h hok
 go_enter Tryz.func215,Tryz.ntmps215
 have I:Ext w (w.alloc (.cells #[.slice PA pn pc,.slice AA an ac,sv,L,K,G] 185)):=(dE w).alloc _;have E:=Blk.new w 185 #[.slice PA pn pc,.slice AA an ac,sv,L,K,G];go_wp2
 go_loopw [3,4] (fun v i wr=>∃ k:Nat,k<=pn∧i=.int .i64 k∧wr.ownsRow w.heap.size 3 1 v k (zac ((ss.take k).map fun s=>s.st.toNat))∧Ext w wr∧Blk wr w.heap.size 185 #[.slice PA pn pc,.slice AA an ac,sv,L,K,G])
  (fun _ i _=>pn - (intOf i).toNat)
 case atStart=>exact⟨0,eC _,rfl,(by have V:=World.ownsRow_lit (base:=w.heap.size) (e:=3) (size:=1) (w.alloc (.cells #[.slice PA pn pc,.slice AA an ac,sv,L,K,G] 185)) #[] 0 sM lM rfl;simpa [zac] using V),I.alloc _,E.ext ((dE _).alloc _)⟩
 case round =>
  obtain⟨k,hk,rfl,j,l,g⟩:=hrel;have M:=g.cell
  by_cases hlt:k<pn
  ·obtain⟨lo,Z,r⟩:=(J.out wr l).sys;obtain⟨b,o,s,B,q,d,rfl,ab,Y,C,T,O,U,H⟩:=r.sys hlt;have D:=zck (u.out.sys s (dG C.out));obtain⟨p,S⟩:∃ p:Nat,Hid (s.st=p):=⟨s.st.toNat,by have:=D.1;unfold Hid;omega⟩;rw [S.out] at O;have t:=za (show (ss.take (k+1)).map (fun s=>s.st.toNat)=(ss.take k).map (fun s=>s.st.toNat)++[p] by rw [eG,C.out];simp [S.out]);clear D r H;go_wp2_with (at_builtin;refine zO w wr rfl _ _ _ rfl 3 _ 1 8 Tryz.underlying110 zae rfl dM u3 _ _ _ _ rfl rfl l j rfl (zbg _) lM oM ?_;intro v' w1 hext1 zko hg1 hat1)
   have n:Blk w1 w.heap.size 185 #[.slice (some ⟨b,o,none⟩) pn pc,.slice AA an ac,sv,.int .i64 L,.int .i64 K,.int .i64 G]:=(hg1.block _ g.lt (fun e=>zK j g dM e.symm rfl)).trans g;go_roundw
   case rel=>exact⟨k+1,oM,gM,by rw [t.out,zeD];exact zko,hext1,n⟩
   case measure=>simp [intOf];omega
  ·obtain rfl:pn=k:=oM;have f:wr.ownsRow w.heap.size 3 1 u3 pn (zac (ss.map fun s=>s.st.toNat)):=by rw [eF (oH z.out)] at j;exact j
   clear j;go_wp2
   go_loopw [3,5] (fun v i wr=>∃ k:Nat,k<=an∧i=.int .i64 k∧wr.ownsRow w.heap.size 3 1 v (pn+k) (zac (ss.map (fun s=>s.st.toNat)++(us.take k).map fun a=>a.next.length))∧Ext w wr∧Blk wr w.heap.size 185 #[.slice PA pn pc,.slice AA an ac,sv,L,K,G])
    (fun _ i _=>an - (intOf i).toNat)
   case atStart=>exact⟨0,eC _,rfl,by simpa using f,l,g⟩
   case round =>
    clear f l g M;obtain⟨k,hk,rfl,j,l,g⟩:=hrel;have M:=g.cell
    by_cases hlt:k<an
    ·obtain⟨lo,Z,r⟩:=(J.out wr l).aut;obtain⟨b,o,a,B,m,c,B',m',c',rfl,C,T,O,U,y⟩:=r.aut hlt;have Q:=za y.n1;have R:m<=12:=by have:=(zl (u.out.aut a (dG C.out))).2.1;rw [← Q.out] at this;omega
     have t:=za (show ss.map (fun s=>s.st.toNat)++(us.take (k+1)).map (fun a=>a.next.length)=(ss.map (fun s=>s.st.toNat)++(us.take k).map (fun a=>a.next.length))++[m] by rw [eG,C.out];simp [Q.out]);clear r y;go_wp2_with (at_builtin;refine zO w wr rfl _ _ _ rfl 3 _ 1 8 Tryz.underlying110 zae rfl dM u3 _ _ _ _ rfl rfl l j rfl (zbg _) lM oM ?_;intro v' w1 hext1 zko hg1 hat1)
     have n:Blk w1 w.heap.size 185 #[.slice PA pn pc,.slice (some ⟨b,o,none⟩) an ac,sv,.int .i64 L,.int .i64 K,.int .i64 G]:=(hg1.block _ g.lt (fun e=>zK j g dM e.symm rfl)).trans g;go_roundw
     case rel=>exact⟨k+1,oM,gM,by rw [t.out,zeD];exact zko,hext1,n⟩
     case measure=>simp [intOf];omega
    ·obtain rfl:an=k:=oM;have f:wr.ownsRow w.heap.size 3 1 u3 (pn+an) (zac (szs ss us)):=by rw [eF (oH x.out)] at j;exact j
     have F:pn+an=(szs ss us).length:=by have:=zdB f;simp [zac] at this;omega
     rw [F] at f;obtain⟨A5,c5,rfl⟩:=zi f;clear j;go_wp2;go_ret;exact⟨_,_,rfl,f,l⟩
theorem zjV {st:List Nat} (h:Lst zbq w lo hi A sz)(h':Lst zbq w lo' hi' B st)(hl:sz.length=st.length)(hb:∀ k,k<=sz.length->encF 0 (sz.take k) (st.take k)<=1048576)(hz:∀ x∈sz,x<=16)(hs:∀ x∈st,x<=16) :
  Calls Tryz.prog 220 #[.slice A sz.length c,.slice B st.length d] w fun e w'=>e=.returned (.int .i64 (encF 0 sz st:Nat))∧Ext w w':=by
 have L:=za (fun W (hW:Ext w W)=>h.ext zbq.ok hW);have M:=za (fun W (hW:Ext w W)=>h'.ext zbq.ok hW);have O:=za hb;have R:=za hz;have Q:=za hs;have m:=h.len;have T:∃ n:Nat,Hid (sz.length=n)∧Hid (st.length=n):=⟨sz.length,rfl,hl.symm⟩;obtain⟨n,a,g⟩:=T;rw [a.out] at m;rw [a.out,g.out];clear hb hz hs hl h h'
 go_enter Tryz.func220,Tryz.ntmps220
 go_wp2
 go_loopw [5,6] (fun v i wr=>∃ k y:Nat,k<=n∧i=.int .i64 k∧v=.int .i64 y∧Hid (y=encF 0 (sz.take k) (st.take k))∧y<=1048576∧Ext w wr) (fun _ i _=>n - (intOf i).toNat)
 case atStart=>exact⟨0,0,eC _,rfl,rfl,rfl,oM,dE _⟩
 case round =>
  obtain⟨k,y,hk,rfl,rfl,H,V,r⟩:=hrel
  by_cases hlt:k<n
  ·obtain⟨b,o,s,rfl,_,_,hs,D⟩:=(L.out wr r).num (show k<sz.length by rw [a.out];exact hlt);obtain⟨S,X,t,rfl,_,_,F,l⟩:=(M.out wr r).num (show k<st.length by rw [g.out];exact hlt);have E:=R.out s (dG hs.out);have G:=Q.out t (dG F.out);have Y:∀ W,Ext wr W->W.cell? ⟨b,o+k,none⟩=some (.int .i64 (s:Nat)):=fun W hW=>hW.aa D;have Z:∀ W,Ext wr W->W.cell? ⟨S,X+k,none⟩=some (.int .i64 (t:Nat)):=fun W hW=>hW.aa l;have j:=za (show encF 0 (sz.take (k+1)) (st.take (k+1))=y*s+t by
    have u:∀ (k acc:Nat) (sz st:List Nat),sz[k]?=some s->st[k]?=some t->encF acc (sz.take (k+1)) (st.take (k+1))=encF acc (sz.take k) (st.take k)*s+t:=by
     intro k
     induction k with
     |zero =>
      intro acc sz st h1 h2;cases sz<;>cases st<;>simp at h1 h2
      subst h1;subst h2;simp [encF]
     |succ k ih =>
      intro acc sz st h1 h2;cases sz<;>cases st<;>simp at h1 h2
      simpa [encF] using ih _ _ _ h1 h2
    rw [u k 0 sz st hs.out F.out,H.out])
   have f:=O.out (k+1) (by rw [a.out];omega);rw [j.out] at f;have p:y*s<=1048576:=oM;obtain⟨J,q⟩:∃ z:Nat,Hid (y*s=z):=⟨_,rfl⟩;have I:(y:Int)*(s:Int)=(J:Int):=by rw [← q.out];exact (Int.natCast_mul y s).symm
   rw [q.out] at p f j;have U:=dE wr;clear D l;go_wp2_with fail
   go_quiet (fail)
   go_wp2_with fail
   go_roundw
   case rel=>exact⟨k+1,J+t,oM,gM,gM,by unfold Hid;rw [j.out],f,r.drewN _⟩
   case measure=>simp [intOf];omega
  ·obtain rfl:n=k:=oM;have C:=za (show y=encF 0 sz st by rw [H.out,eF (by rw [a.out];exact dI _),eF (by rw [g.out];exact dI _)]);go_wp2;go_ret;exact⟨zap (by rw [C.out]),r⟩
def decV (sz:List Nat) (x k:Nat):List Nat:=List.replicate k 0++dec (sz.drop k) x
theorem decV_set {s:Nat}(h:sz[k]?=some s):(zac (decV sz x (k+1))).set k (.int .i64 ((x / zav (sz.drop (k+1)) % s:Nat):Int))=zac (decV sz x k):=by
 have a:sz.drop k=s :: sz.drop (k+1):=by
  obtain⟨b,rfl⟩:=List.getElem?_eq_some_iff.1 h;exact gV b
 unfold decV zac;rw [a,dec,List.replicate_succ',List.append_assoc,fO,fO,List.set_append_right _ _ sM];simp
theorem zgb {y0:Nat}   (h:Lst zbq w lo hi A sz)(hn:sz.length=n)(hn5:n<=1000)(hz:∀ x∈sz,1<=x∧x<=16)(hy:y0<=4611686018427387904) :
  Calls Tryz.prog 218 #[.slice A n c,y0] w (zbI w (dec sz y0)):=by
 have F:=za (fun W (hW:Ext w W)=>h.ext zbq.ok hW);have H:=za hz;have d:=za hn;clear hz h hn
 go_enter Tryz.func218,Tryz.ntmps218
 go_wp2_with (at_make;refine zbS w w rfl _ _ 110 rfl 3 _ 1 8 Tryz.underlying110 zae _ _ n rfl rfl (dE _) oM lM ?_;intro w3 hw3 zkq hx23 hsz3)
 generalize hg:w.heap.size=g at *;have G:=za hg;clear hg hx23 hsz3
 go_loopw [1,6] (fun v i wr=>∃ k y:Nat,k<=n∧i=.int .i64 ((k:Int) - 1)∧v=.int .i64 y∧y<=4611686018427387904∧Hid (y=y0 / zav (sz.drop k))∧wr.ownsRow g 3 1 (.slice (some g) n n) n (zac (decV sz y0 k))∧Ext w wr) (fun _ i _=>(intOf i+1).toNat)
 case atStart=>exact⟨n,y0,dI _,gM,rfl,hy,by unfold Hid;rw [gW (oH d.out)];simp [zav],by rw [decV,gW (oH d.out)];simpa [zac,dec,Value.cells,toList_madeCells_one] using zkq,hw3⟩
 case round =>
  clear zkq hw3;obtain⟨k,y,U,rfl,rfl,D,f,a,t⟩:=hrel
  by_cases hlt:0<k
  ·obtain⟨j,rfl⟩:∃ j,k=j+1:=⟨k - 1,oM⟩;obtain⟨b,o,s,rfl,_,_,r,T⟩:=(F.out wr t).num (show j<sz.length by have:=d.out;omega);obtain⟨X,O⟩:=H.out s (dG r.out);obtain⟨V,S⟩:=zbd a j oM;have R:=a.frozenAt j;have L:(y:Int) % (s:Int)=((y % s:Nat):Int):=(Int.natCast_emod y s).symm;have J:(y:Int) / (s:Int)=((y / s:Nat):Int):=(Int.natCast_ediv y s).symm;have q:=a.stored j (.int .i64 ((y % s:Nat):Int));rw [f.out,decV_set r.out,← f.out] at q;have u:=za (show y / s=y0 / zav (sz.drop j) by
    rw [f.out,Nat.div_div_eq_div_mul,gV (show j<sz.length by have:=d.out;omega),zav];have:sz[j]'(oH d.out)=s:=by
     obtain⟨h1,h2⟩:=List.getElem?_eq_some_iff.1 r.out;exact h2
    rw [this,Nat.mul_comm])
   have B:y / s<=4611686018427387904:=eI (Nat.div_le_self _ _) D;have M:¬ (s=0):=oM;have l:w.heap.size<=g:=oH G.out;have z:((j+1:Nat):Int) - 1=(j:Int):=oM;rw [z];have I:=(F.out _ (t.setCell (p:=⟨g,j,none⟩) l (.int .i64 ((y % s:Nat):Int)))).num2 r.out;generalize y % s=Y at *;generalize y / s=Q at *;go_wp2;go_roundw
   case rel=>exact⟨j,Q,oM,rfl,rfl,B,u,q.1,t.setCell (p:=⟨g,j,none⟩) l _⟩
   case measure=>simp [intOf]
  ·obtain rfl:k=0:=oM;have m:=zdK sz y0;have E:=za (show wr.ownsRow w.heap.size 3 1 (.slice (some g) (dec sz y0).length n) (dec sz y0).length (zac (dec sz y0)) by
    rw [m,d.out,G.out];simpa [decV] using a)
   have C:(dec sz y0).length=n:=oH d.out;go_wp2;go_ret;exact⟨some ⟨g,0,none⟩,n,by rw [C];rfl,E.out,t⟩
theorem spec_l4In (h:Lst zbq w lo hi A xs)(hn:xs.length=n) :
  Calls Tryz.prog 278 #[.slice A n c,x] w fun e w'=>e=.returned (.bool (decide (x∈xs)))∧w=w':=by
 have l:=za hn;have a:=h.len;rw [hn] at a;clear hn
 go_enter Tryz.func278,Tryz.ntmps278
 go_wp2
 go_loop [5] (fun i=>∃ k:Nat,k<=n∧i=.int .i64 k∧Hid (∀ (j z:Nat),j<k->xs[j]?=some z->z≠x)) (fun i=>n - (intOf i).toNat)
 case atStart=>exact⟨0,eC _,rfl,(show Hid _ from fun j z f=>oM)⟩
 case round =>
  obtain⟨k,r,rfl,d⟩:=hrel
  by_cases hlt:k<n
  ·obtain⟨b,o,z,rfl,_,_,m,q⟩:=h.num (show k<xs.length by rw [l.out];exact hlt)
   by_cases hzx:z=x
   ·subst hzx;have g:=za (dG m.out);go_wp2;go_ret;exact⟨zu (by rw [decide_eq_true g.out]),rfl⟩
   ·have p:((z:Int)==(x:Int))=false:=by simp;omega
    go_wp2
    go_round
    case rel=>exact⟨k+1,oM,gM,(show Hid _ from fun j y f hy=>by
     by_cases e:j=k
     ·subst e;have:=m.out;rw [hy] at this;injection this with this
      subst this;exact hzx
     ·exact d.out j y oM hy)⟩
    case measure=>simp [intOf];omega
  ·obtain rfl:n=k:=oM;have g:=za (show ¬ x∈xs from fun hx=>by
    obtain⟨j,f⟩:=eU hx;exact d.out j x (by have:=(List.getElem?_eq_some_iff.1 f).1;rw [l.out] at this;exact this) f rfl)
   go_wp2;go_ret;exact⟨zu (by rw [decide_eq_false g.out]),rfl⟩
def zct (a:Aut) (q:Nat):Bool:=a.acc.getD q false
theorem zib {G:Int}  {us:List Aut}  {SA:Option Addr} {sn sc hi:Nat} {st:List Nat} {a:Aut}(h:zfD w PA pn AA an ss us)(h':Lst zbq w lo hi SA st)(hsn:st.length=sn)(hi:us[i]?=some a)(hq:st[pn+i]?=some q)(hqa:q<a.acc.length) :
  Calls Tryz.prog 276 #[.agg #[.slice PA pn pc,.slice AA an ac,sv,L,K,G],.slice SA sn sc,i] w fun e w'=>e=.returned (.bool (zct a q))∧Ext w w':=by
 have r:i<an:=by obtain⟨_,_,h1⟩:=h.aut;rw [h1.1];exact (List.getElem?_eq_some_iff.1 hi).1
 have u:pn+i<sn:=by rw [← hsn];exact (List.getElem?_eq_some_iff.1 hq).1
 obtain⟨aa,U,g⟩:=h.aut;have J:=g.len;have s:pn<=9223372036854775807:=by obtain⟨_,_,h1⟩:=h.sys;exact h1.len
 have j:=h'.len;rw [hsn] at j;obtain⟨b,o,O,B,m,c,B',v,R,rfl,k,S,T,H,d⟩:=g.aut r;obtain rfl:a=O:=by have:=k.out;rw [hi] at this;exact Option.some.inj this
 obtain⟨Q,os,q',rfl,_,_,n,I⟩:=h'.num (show pn+i<st.length by rw [hsn];exact u);obtain rfl:q=q':=by have:=n.out;rw [hq] at this;exact Option.some.inj this
 have t:q<v:=by rw [d.n2];exact hqa
 obtain⟨C,x,rfl,_,_,M,l⟩:=d.2.2.bool t;have z:=za (show zct a q=x by unfold zct;rw [eE,M.out];rfl);have X:=d.2.2.len;have D:∀ W,Ext w W->W.cell? ⟨b,o+i*3+2,none⟩=some (.slice (some C) v R):=fun W hW=>hW.aa H;have E:∀ W,Ext w W->W.cell? ⟨Q,os+(pn+i),none⟩=some (.int .i64 (q:Nat)):=fun W hW=>hW.aa I;have F:∀ W,Ext w W->W.cell? (C.add q)=some (.bool x):=fun W hW=>hW.aa l;clear g d h h' S T H I l M n k hi hq hqa
 go_enter Tryz.func276,Tryz.ntmps276
 go_wp2_with fail
 generalize U0:w.alloc _=y at *;obtain⟨f,p⟩:=Ext.x1_ U0;clear U0;have c0:=p.cell;have D:=D y f;have E:=E y f;have F:=F y f;have Y:(pn:Int)+(i:Int)<(sn:Int):=oM;have V:(i:Int)<(an:Int):=oM;have Z:(q:Int)<(v:Int):=oM
 go_quiet (fail)
 go_wp2_with fail
 go_ret;exact⟨zu (by rw [z.out]),f.drewN _⟩
theorem ltE_irr {a:Edg}:¬ ltE a a=true:=by
 rw [zjF];omega
theorem ltE_tri (a b:Edg):ltE a b=true∨a=b∨ltE b a=true:=by
 rw [zjF,zjF];obtain⟨c,d,f⟩:=a;obtain⟨g,h,i⟩:=b;simp only [Edg.mk.injEq];omega
def Srt (es:List Edg):Prop:=∀ (i j:Nat) (x y:Edg),es[i]?=some x->es[j]?=some y->i<j->¬ ltE y x=true
def zar (w:World) (A:Option Addr) (m:Nat) (l:List Nat):Prop:=
 m=l.length∧m<=9223372036854775807∧(0<m->∃ (g o:Nat) (cs:Array Value),A=some ⟨g,o,none⟩∧w.heap[g]?=some (.cells cs 3 (0,0))∧∀ j x,l[j]?=some x->w.cell? ⟨g,o+j,none⟩=some (.int .i64 (x:Nat)))
theorem zar.frm (h:zar w A m l)(hb:Frm S w w')(hS:∀ k,S k->∀ cs,w.heap[k]?≠some (.cells cs 3 (0,0))):zar w' A m l:=by
 refine⟨h.1,h.2.1,fun h0=>?_⟩;obtain⟨g,o,cs,e,b,d⟩:=h.2.2 h0;have a:=(Array.getElem?_eq_some_iff.1 b).1;have c:¬ S g:=fun hs=>hS g hs cs b;exact⟨g,o,cs,e,(hb.block g a c).trans b,fun j x hx=>(World.cell?_of_block (w:=w) (hb.block g a c)).trans (d j x hx)⟩
theorem zar.ext (h:zar w A m l)(hb:Ext w w'):zar w' A m l:=h.frm (S:=fun _=>False) hb (fun _ hk=>hk.elim)
theorem zar.at_ (h:zar w A m l)(hk:k<m):∃ (g o x:Nat),A=some ⟨g,o,none⟩∧Hid (l[k]?=some x)∧w.cell? ⟨g,o+k,none⟩=some (.int .i64 (x:Nat)):=by
 obtain⟨g,o,c,e,_,b⟩:=h.2.2 oM;have a:l[k]?=some (l[k]'(oH h.1)):=dH _;exact⟨g,o,_,e,a,b k _ a⟩
theorem zar.own (h:w.ownsRow base 3 1 (.slice A n c) n (zac l)):zar w A n l:=by
 have i:=h.1;rw [zde] at i;refine⟨oM,(eW h).len,fun h0=>?_⟩;rcases h.2 with ⟨_,h1⟩|⟨g,b,a,k,_,f,_⟩
 ·omega
 ·have d:A=some ⟨g,0,none⟩:=by injection k
  subst d;refine⟨g,0,a,rfl,f,fun j x hx=>?_⟩;have m:=(List.getElem?_eq_some_iff.1 hx).1;rw [eO,h.cellAt j oM];simp [zac,hx]
theorem info_step:(Tryz.prog.info? 272).map (fun i=>(i.zero,i.size,i.bytes))=some (some (.agg #[(0:Int),(0:Int),()]),3,40):=kM
def zci:List (Stp × Value)->List Value
 |[]=>[]
 |(p,v) :: r=>.int .i64 p.parent :: .int .i64 (p.letter:Nat) :: v :: zci r
theorem ziC (l m:List (Stp × Value)):zci (l++m)=zci l++zci m:=by
 induction l with
 |nil=>rfl
 |cons x r ih=>obtain⟨p,v⟩:=x;simp [zci,ih]
theorem zic {l:List (Stp × Value)}  {p:Stp} (h:l[k]?=some (p,v)):(zci l)[k*3]?=some (.int .i64 p.parent)∧(zci l)[k*3+1]?=some (.int .i64 (p.letter:Nat))∧(zci l)[k*3+2]?=some v:=by
 induction l generalizing k with
 |nil=>simp at h
 |cons a r ih =>
  cases k with
  |zero=>simp at h;subst h;exact⟨rfl,rfl,rfl⟩
  |succ k =>
   obtain⟨c,d⟩:=a;have:=ih (k:=k) (by simpa using h);have b:(k+1)*3=k*3+1+1+1:=oM;refine⟨?_,?_,?_⟩<;>rw [b]<;>simp only [zci,List.getElem?_cons_succ]
   ·exact this.1
   ·exact this.2.1
   ·exact this.2.2
def Nodes (w:World) (sts:List (Stp × Value)):Prop:=∀ (k:Nat) (p:Stp) (v:Value),sts[k]?=some (p,v)->∃ A c,v=.slice A p.nodes.length c∧zar w A p.nodes.length p.nodes
theorem Nodes.frm {sts:List (Stp × Value)}(h:Nodes w sts)(hb:Frm S w w')(hS:∀ k,S k->∀ cs,w.heap[k]?≠some (.cells cs 3 (0,0))):Nodes w' sts:=fun k p v hk=>by
 obtain⟨A,c,e,hx⟩:=h k p v hk
 exact⟨A,c,e,hx.frm hb hS⟩
structure Sea (w0 w:World) (bs bg bt gs N cs:Nat) (fg:Value) (S:List Bool) (vst:Value) (sts:List (Stp × Value)):Prop where
 ext:Ext w0 w
 vs:Blk w bs 25 #[.slice (some gs) N cs]
 ds:w.ownsRow w0.heap.size 4 1 (.slice (some gs) N cs) N (zak S)
 vg:∃ t,Blk w bg t #[fg]
 vt:Blk w bt 270 #[vst]
 dt:w.ownsRow w0.heap.size 272 3 vst sts.length (zci sts)
 nd:Nodes w sts
 hs:w0.heap.size<=bs
 hg:w0.heap.size<=bg
 ht:w0.heap.size<=bt
 hgt:bg≠bt
 hgg:bg≠gs
 hgv:∀ b,vst.ownBlock=some b->b≠bg
section
variable {w0 w w':World} {bs bg bt gs N cs:Nat} {fg vst:Value} {S:List Bool} {sts:List (Stp × Value)}
theorem Sea.far {T:Nat->Prop} {H:Nat}(h:Sea w0 w bs bg bt gs N cs fg S vst sts)(hb:Frm T w w')(hT:∀ k,T k->H<=k)(h1:bs<H)(h2:bg<H)(h3:bt<H)(h4:gs<H)(h5:∀ b,vst.ownBlock=some b->b<H)(h0:w0.heap.size<=H)(hn:Nodes w' sts):Sea w0 w' bs bg bt gs N cs fg S vst sts:=by
 obtain⟨t,a⟩:=h.vg;refine⟨h.ext.frm hb (fun k hk hS=>by have:=hT k hS;omega),h.vs.frm hb (fun hS=>by have:=hT _ hS;omega),zf h.ds hb (fun b hv hS=>?_),⟨t,a.frm hb (fun hS=>by have:=hT _ hS;omega)⟩,h.vt.frm hb (fun hS=>by have:=hT _ hS;omega),zf h.dt hb (fun b hv hS=>by have:=hT _ hS;have:=h5 b hv;omega),hn,h.hs,h.hg,h.ht,h.hgt,h.hgg,h.hgv⟩;have c:gs=b:=by simpa [Value.ownBlock] using hv
 have:=hT _ hS;omega
theorem Sea.aw (h:Sea w0 w bs bg bt gs N cs fg S vst sts)(hx:Ext w w'):Sea w0 w' bs bg bt gs N cs fg S vst sts:=by
 obtain⟨t,a⟩:=h.vg;exact⟨h.ext.trans hx,h.vs.ext hx,zh h.ds hx,⟨t,a.ext hx⟩,h.vt.ext hx,zh h.dt hx,h.nd.frm (S:=fun _=>False) hx (fun _ hk=>hk.elim),h.hs,h.hg,h.ht,h.hgt,h.hgg,h.hgv⟩
theorem Sea.gs_lt (h:Sea w0 w bs bg bt gs N cs fg S vst sts):w0.heap.size<=gs∧gs<w.heap.size:=h.ds.lt gs rfl
theorem Sea.gs_row (h:Sea w0 w bs bg bt gs N cs fg S vst sts):∃ cur,w.heap[gs]?=some (.cells cur 4 (0,0)):=by
 rcases h.ds.2 with ⟨a,_⟩|⟨g,b,cur,a,_,c,_⟩
 ·injection a with h1;cases h1
 ·have:gs=g:=by injection a with h1;injection h1 with h1;injection h1
  subst this;exact⟨cur,c⟩
theorem Sea.vst_row (h:Sea w0 w bs bg bt gs N cs fg S vst sts) (hb:vst.ownBlock=some b):∃ cur,w.heap[b]?=some (.cells cur 272 (0,0)):=by
 rcases h.dt.2 with ⟨rfl,_⟩|⟨g,a,cur,rfl,_,d,_⟩
 ·simp [Value.ownBlock] at hb
 ·have c:g=b:=by simpa [Value.ownBlock] using hb
  subst c;exact⟨cur,d⟩
theorem Sea.mark (h:Sea w0 w bs bg bt gs N cs fg S vst sts) :Sea w0 (w.setCell ⟨gs,n,none⟩ (.bool true)) bs bg bt gs N cs fg (S.set n true) vst sts:=by
 obtain⟨t,j⟩:=h.vg;obtain⟨m,o⟩:=h.gs_row;have d:=eB w gs n (.bool true);have a:∀ {b:Nat} {t:TypeId} {cs:Array Value},w.heap[b]?=some (.cells cs t (0,0))->t≠4->b≠gs:=by
  rintro b t cs g p rfl;rw [o] at g;injection g with g
  injection g with _ h2
  exact p h2.symm
 have f:(zak S).set n (.bool true)=zak (S.set n true):=by simp [zak,List.map_set]
 have c:=(h.ds.stored n (.bool true)).1;rw [f] at c;refine⟨h.ext.setCell h.gs_lt.1 _,h.vs.frm d (a h.vs dM),c,⟨t,j.frm d h.hgg⟩,h.vt.frm d (a h.vt dM),zf h.dt d (fun b hv=>?_),h.nd.frm d (fun k hk cs hc=>?_),h.hs,h.hg,h.ht,h.hgt,h.hgg,h.hgv⟩
 ·obtain⟨l,i⟩:=h.vst_row hv;exact a i dM
 ·exact a hc dM hk
theorem Sea.push {l c':Nat} {A':Option Addr} {p:Stp}(h:Sea w0 w bs bg bt gs N cs fg S vst sts) (zkf:w'.ownsRow w0.heap.size 272 3 (.slice (some g) (sts.length+1) cap) (sts.length+1) (zci sts++[.int .i64 p.parent,.int .i64 (p.letter:Nat),.slice A' l c']))
  (hg:w.grownBy w' vst.ownBlock) (hat:vst.ownBlock=some g∨g=w.heap.size+1) (hl:l=p.nodes.length) (hA:zar w A' l p.nodes) :
  Hid (w'.cell? bt=some vst)∧w'.frozen? bt=false∧Sea w0 (w'.setCell bt (.slice (some g) (sts.length+1) cap)) bs bg bt gs N cs fg S (.slice (some g) (sts.length+1) cap) (sts++[(p,.slice A' l c')]):=by
 obtain⟨t,v⟩:=h.vg;have n:=Frm.ae hg;have a:∀ {b:Nat} {t:TypeId} {cs:Array Value},w.heap[b]?=some (.cells cs t (0,0))->t≠272->¬ (vst.ownBlock=some b):=by
  intro b t cs c G d;obtain⟨f,E⟩:=h.vst_row d;rw [E] at c;injection c with c
  injection c with _ h2
  exact G h2.symm
 obtain⟨f,q⟩:=h.gs_row;have m:Blk w' bt 270 #[vst]:=h.vt.frm n (a h.vt dM);have y:=h.vs.frm n (a h.vs dM);have C:=zf h.ds n (fun b d=>by
  have c:gs=b:=by simpa [Value.ownBlock] using d
  subst c;exact a q dM)
 have x:=v.frm n (fun d=>h.hgv _ d rfl);have F:=h.nd.frm n (fun k hk cs hc=>a hc dM hk);have z:=hA.frm n (fun k hk cs hc=>a hc dM hk);have s:w'.heap[gs]?=some (.cells f 4 (0,0)):=(n.block gs h.gs_lt.2 (a q dM)).trans q;have L:Ext w0 w':=h.ext.frm n (fun k hk d=>by have:=(h.dt.lt k d).1;omega);have r:g≠bg:=by
  rcases hat with h1|h1
  ·exact h.hgv g h1
  ·have:=v.lt;omega
 have o:∃ f,w'.heap[g]?=some (.cells f 272 (0,0)):=by
  rcases zkf.2 with ⟨d,_⟩|⟨J,H,f,d,_,E,_⟩
  ·injection d with h1;cases h1
  ·have:g=J:=by injection d with h1;injection h1 with h1;injection h1
   subst this;exact⟨f,E⟩
 obtain⟨I,o⟩:=o;have i:=eB w' bt 0 (.slice (some g) (sts.length+1) cap);have j:∀ {b:Nat} {t:TypeId} {cs:Array Value},w'.heap[b]?=some (.cells cs t (0,0))->t≠270->b≠bt:=by
  rintro b t cs c G rfl;unfold Blk at m;rw [m] at c;injection c with c
  injection c with _ h2
  exact G h2.symm
 have D:=zf zkf i (fun b d=>by
  have c:g=b:=by simpa [Value.ownBlock] using d
  subst c;exact j o dM)
 have u:=F.frm i (fun k hk cs hc=>j hc dM hk);have B:=z.frm i (fun k hk cs hc=>j hc dM hk);refine⟨m.cell 0,m.frozen 0,L.setCell h.ht _,y.frm i (j y dM),zf C i (fun b d=>by
  have c:gs=b:=by simpa [Value.ownBlock] using d
  subst c;exact j s dM),⟨t,x.frm i h.hgt⟩,by simpa using m.ab 0 _,?_,?_,h.hs,h.hg,h.ht,h.hgt,h.hgg,fun b d=>?_⟩
 ·rw [ziC];simpa [zci] using D
 ·intro k p' v' hk;rcases fQ k sts.length with h1|h1|h1
  ·rw [eH h1] at hk;exact u k p' v' hk
  ·rw [eN oM,h1,iI] at hk;have:=Option.some.inj hk;injection this with e1 e2
   subst e1;subst e2;subst hl;exact⟨A',c',rfl,B⟩
  ·rw [eR (by simp;omega)] at hk;cases hk
 ·have c:g=b:=by simpa [Value.ownBlock] using d
  subst c;exact r
end
end Go.Proofs.YtckbjnndaaoddaaGreatDoor
