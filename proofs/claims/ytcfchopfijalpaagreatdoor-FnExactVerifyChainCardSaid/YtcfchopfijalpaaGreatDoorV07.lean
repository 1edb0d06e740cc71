/- The program' -/
import Derived.Test.YtcfchopfijalpaaGreatDoorV06
import Derived.Lib.SliceRun
import Derived.Laws.Strings
set_option maxHeartbeats 4000000
set_option maxRecDepth 100000
namespace Go.Proofs.YtcfchopfijalpaaGreatDoor
open Go Go.RowKit
open Bool renaming and_eq_true->eG,eq_false_iff->fQ,eq_iff_iff->iJ,not_eq_true'->iG,or_eq_true->gO,true_and->j2
open Ext renaming drew->fW,refl->dB,trans->e8,x1_->gX
open Frm renaming setCell->eC
open List renaming all_eq_true->fF,eq_nil_of_length_eq_zero->eK,getD_eq_getElem?_getD->eF,getElem?_append_left->eI,getElem?_eq_getElem->dC,getElem?_eq_none->eP,getElem?_map->eL,getElem?_of_mem->eT,getElem?_set_ne->fN,getElem?_set_self->gN,length_append->eO,length_set->jQ,length_singleton->eZ,length_take->fH,map_cons->gJ,mem_cons_of_mem->eV,mem_cons_self->iC,mem_of_getElem?->eB,mem_or_eq_of_mem_set->iL,mem_replicate->iX,nil_append->fM,replicate->eN,take_add_one->eH,take_of_length_le->eE
open Nat renaming div_eq_of_lt->jH,eq_of_testBit_eq->gI,eq_zero_or_pos->iR,le_of_lt_succ->fT,le_refl->eA,le_trans->eJ,lt_of_lt_of_le->eU,lt_or_eq_of_le->e6,mod_eq_of_lt->iS,mod_mul_right_div_self->jV,mul_comm->gF,or_lt_two_pow->e9,pow_le_pow_right->eW,testBit_and->gP,testBit_or->iY,zero_add->eS,zero_le->eD
open Option renaming getD_some->gE,toList_some->e7
variable {A B B':Option Addr} {M O T U V ls v:List Nat} {N a b b0 base c c0 cap d d' g g0 hi hi' i j k l lo lo' m m' n q x:Nat} {W w:World} {cs:Array Value} {p:Aut} {s:ByteArray} {ss:List Sys} {t:TypeId}
section
variable {lo hi n c:Nat} {A:Option Addr} {s:Sys} {lo1 hi1 m1 d1 m1' d1':Nat} {B B':Option Addr} {a:Aut} {lo2 hi2 m2 d2 m2' d2':Nat} {C C':Option Addr} {p:Aut} {w:World}
theorem zcA (h:zN w lo hi A n s)(ha:zC w lo1 hi1 B m1 B' m1' a)(hp:zC w lo2 hi2 C m2 C' m2' p)(hT:Tab w) :
  Calls Tryz.prog 82 #[.agg #[s.al,s.st,.slice A n c],.agg #[a.al,.slice B m1 d1,.slice B' m1' d1'],.agg #[p.al,.slice C m2 d2,.slice C' m2' d2']] w fun e w'=>e=.returned (.tuple #[.string (zaE s a p),.bool (zbF s a p)])∧Ext w w':=by
 have HT:=za (fun W (hW:Ext w W)=>hT.ext hW);have D:=za (fun W (hW:Ext w W)=>h.ext hW);have y:=za (fun W (hW:Ext w W)=>ha.ext hW);have z:=za (fun W (hW:Ext w W)=>hp.ext hW);have O:=za (fun W (hW:Ext w W)=>zaS (c:=c) (h.ext hW));have L:=za (fun W (hW:Ext w W)=>zP _ _ _ _ d1 _ _ d1' _ _ (ha.ext hW));have M:=za (fun W (hW:Ext w W)=>zP _ _ _ _ d2 _ _ d2' _ _ (hp.ext hW));clear h ha hp hT;have k:Ext w (((w.alloc (.cells #[s.al,s.st,.slice A n c] 38)).alloc (.cells #[a.al,.slice B m1 d1,.slice B' m1' d1'] 31)).alloc (.cells #[p.al,.slice C m2 d2,.slice C' m2' d2'] 31)):=(((dB w).alloc _).alloc _).alloc _;obtain⟨u,v,x⟩:=zM (dB (((w.alloc (.cells #[s.al,s.st,.slice A n c] 38)).alloc (.cells #[a.al,.slice B m1 d1,.slice B' m1' d1'] 31)).alloc (.cells #[p.al,.slice C m2 d2,.slice C' m2' d2'] 31)))
 by_cases hT:zcj s a p=true
 ·have r:=za (show zaE s a p=vioW [s] a p∧zbF s a p=vioB [s] a p by unfold zaE zbF;rw [hT];exact⟨rfl,sM⟩);unfold zcj at hT;simp only [eG] at hT;obtain⟨I,U,V⟩:=hT;have G:=za (show zA [s]=true by simp [zA,I]);have V1:=za I;have Q:=za U;have R:=za V;clear I U V
  go_enter Tryz.func82,Tryz.ntmps82
  go_upto_region 1 with fail
  generalize ((w.alloc _).alloc _).alloc _=w1 at *;have c1:=u.cell;go_upto_region 3 with (first
   |(go_at_call 108;with_reducible refine (O.out _ k).mono ?_;rw [V1.out];rintro e w2 ⟨rfl,b⟩;have d:=k.trans b;have c2:=(v.ext b).cell)
   |(go_at_call 95;with_reducible refine (L.out _ d).mono ?_;rw [Q.out];rintro e w3 ⟨rfl,g⟩;have f:=d.trans g;have S:=(x.ext (b.trans g)).cell)
   |(go_at_call 95;with_reducible refine (M.out _ f).mono ?_;rw [R.out];rintro e J ⟨rfl,l⟩;have o:=f.trans l))
  have j:=b.trans (g.trans l);have k1:=(u.ext j).cell;have T:=Blk.new J 38 #[s.al,s.st,.slice A n c];have E:=(dB J).alloc (.cells #[s.al,s.st,.slice A n c] 38);have k3:=(x.ext (j.trans E)).cell;have q:=v.ext (j.trans E);have i:=o.trans E;obtain⟨l1,h1,t⟩:=sl_one T (D.out _ i);have HF:=za (zgf (c:=1) (d2:=d2) (d2':=d2') t G.out (HT.out _ i) q (y.out _ i) Q.out (z.out _ i) R.out);clear c1 c2 S u v x t T q;go_wp2_with (go_at_call 102;refine HF.out.mono ?_;rintro e w6 hF;obtain⟨rfl,H⟩:=hF.first (zca _))
  go_ret2;exact⟨by rw [r.out.1,r.out.2];rfl,i.trans H⟩
 ·have m:zcj s a p=false:=by simpa using hT
  have r:=za (show zaE s a p=ByteArray.empty∧zbF s a p=false by unfold zaE zbF;rw [m];exact⟨rfl,rfl⟩);have F:=za (show (zl s&&(zj a&&zj p))=false from m);clear hT m;cases h1:zl s<;>cases h2:zj a<;>cases h3:zj p
  all_goals first
   |(exfalso;have:=F.out;rw [h1,h2,h3] at this;cases this;done)
   |(have X:=za h1
     have Y:=za h2;have Z:=za h3;clear h1 h2 h3
     go_enter Tryz.func82,Tryz.ntmps82
     go_upto_region 1 with fail
     generalize ((w.alloc _).alloc _).alloc _=w1 at *;have c1:=u.cell;go_wp2_with (first
      |(go_at_call 108;with_reducible refine (O.out _ k).mono ?_;rw [X.out];rintro e w2 ⟨rfl,b⟩;have d:=k.trans b;have c2:=(v.ext b).cell)
      |(go_at_call 95;with_reducible refine (L.out _ d).mono ?_;rw [Y.out];rintro e w3 ⟨rfl,g⟩;have f:=d.trans g;have S:=(x.ext (b.trans g)).cell)
      |(go_at_call 95;with_reducible refine (M.out _ f).mono ?_;rw [Z.out];rintro e J ⟨rfl,l⟩;have o:=f.trans l))
     go_ret2;exact⟨by rw [r.out.1,r.out.2];rfl,by first|exact o|exact f|exact d⟩)
variable {k:Nat} {ss:List Sys}
theorem zby (h:zda w lo hi A k ss)(hp:zC w lo2 hi2 C m2 C' m2' p)(hT:Tab w) :
  Calls Tryz.prog 49 #[.slice A k c,.agg #[p.al,.slice C m2 d2,.slice C' m2' d2']] w fun e w'=>e=.returned (.tuple #[.string (zR ss p),.bool (zbw ss p)])∧Ext w w':=by
 have l:=za (fun W (hW:Ext w W)=>h.ext hW);have n:=za (fun W (hW:Ext w W)=>hp.ext hW);have t:=za (fun W (hW:Ext w W)=>hT.ext hW);clear h hp hT;have b:Ext w (w.alloc (.cells #[p.al,.slice C m2 d2,.slice C' m2' d2'] 31)):=(dB w).alloc _;have o:=Blk.new w 31 #[p.al,.slice C m2 d2,.slice C' m2' d2'];cases hA:zA ss
 ·have i:=za (show zR ss p=ByteArray.empty∧zbw ss p=false by unfold zR zbw zbO;rw [hA];exact⟨rfl,rfl⟩);have j:=za hA;clear hA
  go_enter Tryz.func49,Tryz.ntmps49
  go_upto_region 1 with fail
  generalize w.alloc _=r at *;go_wp2_with (go_at_call 94;refine (zaB (l.out _ b)).mono ?_;rw [j.out];rintro e s ⟨rfl,a⟩)
  go_ret2;exact⟨by rw [i.out.1,i.out.2];rfl,b.trans a⟩
 ·cases hV:zj p
  ·have i:=za (show zR ss p=ByteArray.empty∧zbw ss p=false by unfold zR zbw zbO;rw [hA,hV];exact⟨rfl,rfl⟩);have m:=za hV;have j:=za hA;clear hA hV
   go_enter Tryz.func49,Tryz.ntmps49
   go_upto_region 1 with fail
   generalize w.alloc _=r at *;go_wp2_with (first
    |(go_at_call 94;refine (zaB (l.out _ b)).mono ?_;rw [j.out];rintro e s ⟨rfl,a⟩;have f:=b.trans a;have c2:=(o.ext a).cell)
    |(go_at_call 95;refine (zP _ _ _ _ _ _ _ _ _ _ (n.out _ f)).mono ?_;rw [m.out];rintro e v ⟨rfl,g⟩;have d:=f.trans g))
   go_ret2;exact⟨by rw [i.out.1,i.out.2];rfl,d⟩
  ·have i:=za (show zR ss p=vioW ss free p∧zbw ss p=vioB ss free p by unfold zR zbw zbO;rw [hA,hV];exact⟨rfl,sM⟩);have m:=za hV;have j:=za hA;clear hA hV
   go_enter Tryz.func49,Tryz.ntmps49
   go_upto_region 1 with fail
   generalize w.alloc _=r at *;go_wp2_with (first
    |(go_at_call 94;refine (zaB (l.out _ b)).mono ?_;rw [j.out];rintro e s ⟨rfl,a⟩;have f:=b.trans a;have c2:=(o.ext a).cell)
    |(go_at_call 95;refine (zP _ _ _ _ _ _ _ _ _ _ (n.out _ f)).mono ?_;rw [m.out];rintro e v ⟨rfl,g⟩;have d:=f.trans g;have x:=(o.ext (a.trans g)).cell)
    |(go_at_call 102;refine (zes (c:=c) (d2:=d2) (d2':=d2') (l.out _ d) j.out (t.out _ d) (n.out _ d) m.out).mono ?_;rintro e y u;obtain⟨rfl,q⟩:=u.first (zca _)))
   go_ret2;exact⟨by rw [i.out.1,i.out.2];rfl,d.trans q⟩
end
def three (ss:List Sys) (p:Aut):Bool:=decide (ss.length=3)&&(zA ss&&zj p)
theorem zft (h:zda w lo hi A n ss)(h':zC w lo' hi' B m B' m' p) :
  Calls Tryz.prog 127 #[.slice A n c,.agg #[p.al,.slice B m d,.slice B' m' d']] w fun e w'=>e=.returned (.bool (three ss p))∧Ext w w':=by
 have o:=h.len;have g:=za h.1;have i:=fun W (hW:Ext w W)=>h'.ext hW;have l:=za i;clear i h'
 by_cases h3:n=3
 ·subst h3;clear o;cases hp:zA ss
  ·have a:=za (show ¬ (0:Int)<=zbd ss by unfold zbd;rw [hp];simp);have a:=a.out;have b:=za hp;clear hp
   go_enter Tryz.func127,Tryz.ntmps127
   go_wp2_with fail
   refine (zaD (h.ext ?_)).mono ?_
   ·exact (dB _).alloc _
   rintro e q ⟨rfl,hx⟩;go_wp2_with fail
   go_ret;exact⟨zm (by unfold three;rw [b.out];simp),((dB _).alloc _).trans hx⟩
  ·have k:zbd ss≥0:=by unfold zbd;rw [hp];simp
   have b:=za hp;clear hp
   go_enter Tryz.func127,Tryz.ntmps127
   go_wp2_with fail
   refine (zaD (h.ext ?_)).mono ?_
   ·exact (dB _).alloc _
   rintro e q ⟨rfl,hx⟩;have c1:=fun j=>zbY (j:=j) hx;go_wp2_with fail
   refine (zQ _ _ _ _ _ _ _ _ _ _ (l.out _ (((dB _).alloc _).trans hx))).mono (mQ fun r f=>?_);go_wp2_with fail
   go_ret;exact⟨zm (by have:=g.out;unfold three;rw [b.out,decide_eq_true oM];simp),(((dB _).alloc _).trans hx).trans f⟩
 ·go_enter Tryz.func127,Tryz.ntmps127
  go_wp2;go_ret;exact⟨zm (by have:=g.out;unfold three;rw [decide_eq_false oM];simp),(dB _).alloc _⟩
def zat (ss:List Sys) (p:Aut):Int:=
 if three ss p then match ss with
  |[x,y,z]=>bits .and .i64 (bits .or .i64 x.al p.al) (bits .or .i64 y.al z.al)
  |_ => -1
 else -1
def zcm (ss:List Sys) (p:Aut):Int:=
 if three ss p then match ss with
  |[_,y,z]=>bits .and .i64 (bits .or .i64 y.al (zat ss p)) z.al
  |_ => -1
 else -1
theorem zeo (h:three ss p=true):∃ x y z,ss=[x,y,z]:=by
 simp only [three,eG,decide_eq_true_eq] at h
 match ss,h.1 with
 |[x,y,z],_=>exact⟨x,y,z,rfl⟩
theorem yV07a1 {P:Prop}(h:P:=by
 intro W hW;have h:=h.ext hW;obtain⟨b,o,s,B,q,d,rfl,hlo,hhi,hs,c0,c1,c2,hsy⟩:=h.sys (k:=0) oM;obtain rfl:x=s:=by have:=hs.out;simpa using this
 obtain⟨B1,q1,d1,e0,e1,e2,hsy1⟩:=h.sys2 (k:=1) (s:=y) rfl;obtain⟨B2,q2,d2,g0,g1,g2,hsy2⟩:=h.sys2 (k:=2) (s:=z) rfl;exact⟨b,o,rfl,by simpa using c0,e0,g0⟩
 ):P:=h
theorem zdq (h:zda w lo hi A n ss)(h':zC w lo' hi' B m B' m' p) :
  Calls Tryz.prog 69 #[.slice A n c,.agg #[p.al,.slice B m d,.slice B' m' d']] w fun e w'=>e=.returned (.tuple #[.int .i64 (zat ss p),.int .i64 (zcm ss p)])∧Ext w w':=by
 cases hT:three ss p
 ·have a:=za (show zat ss p = -1 by unfold zat;rw [hT];rfl);have f:=za (show zcm ss p = -1 by unfold zcm;rw [hT];rfl);have g:=za hT;clear hT
  go_enter Tryz.func69,Tryz.ntmps69
  go_wp2_with (go_at_call 127;refine (zft (h.ext ?_) (h'.ext ?_)).mono ?_;exact (dB _).alloc _;exact (dB _).alloc _;rw [g.out];rintro e k ⟨rfl,hx⟩)
  go_ret2;exact⟨by rw [a.out,f.out];rfl,((dB _).alloc _).trans hx⟩
 ·obtain⟨x,y,z,rfl⟩:=zeo hT;have a:=za (show zat [x,y,z] p=bits .and .i64 (bits .or .i64 x.al p.al) (bits .or .i64 y.al z.al) by unfold zat;rw [hT];rfl);have f:=za (show zcm [x,y,z] p=bits .and .i64 (bits .or .i64 y.al (zat [x,y,z] p)) z.al by rw [zcm,hT];rfl);have g:=za hT;clear hT;obtain rfl:n=3:=h.1;have i:∀ W,Ext w W->∃ b o,A=some ⟨b,o,none⟩∧W.cell? ⟨b,o,none⟩=some (.int .i64 x.al)∧W.cell? ⟨b,o+3,none⟩=some (.int .i64 y.al)∧W.cell? ⟨b,o+6,none⟩=some (.int .i64 z.al):=by
   exact yV07a1
  have l:=za i;clear i
  go_enter Tryz.func69,Tryz.ntmps69
  go_wp2_with (go_at_call 127;refine (zft (h.ext ?_) (h'.ext ?_)).mono ?_;exact (dB _).alloc _;exact (dB _).alloc _;rw [g.out];rintro e k ⟨rfl,hx⟩;obtain⟨b,o,rfl,c0,c1,c2⟩:=l.out k (((dB _).alloc _).trans hx);have q:=fun j=>zbY (j:=j) hx)
  go_quiet (fail)
  go_wp2_with fail
  go_quiet (fail)
  go_wp2_with fail
  go_ret2;exact⟨by rw [f.out,a.out];rfl,((((dB _).alloc _).trans hx).drewN _).drewN _⟩
theorem zdj (h:zda w lo hi A n ss)(h':zC w lo' hi' B m B' m' p) :
  Calls Tryz.prog 78 #[.slice A n c,.agg #[p.al,.slice B m d,.slice B' m' d']] w fun e w'=>e=.returned (.tuple #[.int .i64 (zat ss p),.int .i64 (zcm ss p)])∧Ext w w':=by
 have r:=fun W (hW:Ext w W)=>h'.ext hW;have q:=za r;clear r h';cases hT:three ss p
 ·have f:=za (show zat ss p = -1 by unfold zat;rw [hT];rfl);have g:=za (show zcm ss p = -1 by unfold zcm;rw [hT];rfl)
  by_cases h3:n=3
  ·subst h3;have a:(zA ss&&zj p)=false:=by
    have:=h.1;unfold three at hT;rw [decide_eq_true oM,j2] at hT;exact hT
   clear hT;cases hp:zA ss
   ·have k:=za hp;clear hp a
    go_enter Tryz.func78,Tryz.ntmps78
    go_wp2_with (go_at_call 94;refine (zaB (h.ext ?_)).mono ?_;exact (dB _).alloc _;rw [k.out];rintro e t ⟨rfl,hx⟩)
    go_ret2;exact⟨by rw [f.out,g.out];rfl,((dB _).alloc _).trans hx⟩
   ·rw [hp,j2] at a;have k:=za hp;have l:=za a;clear hp a
    go_enter Tryz.func78,Tryz.ntmps78
    go_wp2_with (first
     |(go_at_call 94;refine (zaB (h.ext ?_)).mono ?_;exact (dB _).alloc _;rw [k.out];rintro e t ⟨rfl,hx⟩;have c1:=fun j=>zbY (j:=j) hx)
     |(go_at_call 95;refine (zP _ _ _ _ _ _ _ _ _ _ (q.out _ (((dB _).alloc _).trans hx))).mono ?_;rw [l.out];rintro e u ⟨rfl,i⟩))
    go_ret2;exact⟨by rw [f.out,g.out];rfl,(((dB _).alloc _).trans hx).trans i⟩
  ·have C:((n:Int) != 3)=true:=by simp;omega
   clear hT
   go_enter Tryz.func78,Tryz.ntmps78
   go_wp2;go_ret2;exact⟨by rw [f.out,g.out];rfl,(dB _).alloc _⟩
 ·obtain⟨x,y,z,rfl⟩:=zeo hT;have f:=za (show zat [x,y,z] p=bits .and .i64 (bits .or .i64 x.al p.al) (bits .or .i64 y.al z.al) by unfold zat;rw [hT];rfl);have g:=za (show zcm [x,y,z] p=bits .and .i64 (bits .or .i64 y.al (zat [x,y,z] p)) z.al by rw [zcm,hT];rfl);obtain rfl:n=3:=h.1;have a:=hT;simp only [three,eG] at a;have k:=za a.2.1;have l:=za a.2.2;clear hT a;have s:∀ W,Ext w W->∃ b o,A=some ⟨b,o,none⟩∧W.cell? ⟨b,o,none⟩=some (.int .i64 x.al)∧W.cell? ⟨b,o+3,none⟩=some (.int .i64 y.al)∧W.cell? ⟨b,o+6,none⟩=some (.int .i64 z.al):=by
   exact yV07a1
  have v:=za s;clear s
  go_enter Tryz.func78,Tryz.ntmps78
  go_wp2_with (first
   |(go_at_call 94;refine (zaB (h.ext ?_)).mono ?_;exact (dB _).alloc _;rw [k.out];rintro e t ⟨rfl,hx⟩;have c1:=fun j=>zbY (j:=j) hx)
   |(go_at_call 95;refine (zP _ _ _ _ _ _ _ _ _ _ (q.out _ (((dB _).alloc _).trans hx))).mono ?_;rw [l.out];rintro e u ⟨rfl,i⟩;obtain⟨b,o,rfl,g0,g1,g2⟩:=v.out u ((((dB _).alloc _).trans hx).trans i);have D:=fun j=>zbY (j:=j) (hx.trans i)))
  go_quiet (fail)
  go_wp2_with fail
  go_quiet (fail)
  go_wp2_with fail
  go_ret2;exact⟨by rw [g.out,f.out];rfl,(((((dB _).alloc _).trans hx).trans i).drewN _).drewN _⟩
theorem zeh {x y z:Sys} (h:three [x,y,z] p=true):∃ c:Nat,zat [x,y,z] p=(c:Int)∧c<=63:=by
 have f:=h;simp only [three,eG] at f;obtain⟨_,g⟩:=zac f.2.1;have q:=zF (g x sM);have r:=zF (g y sM);have s:=zF (g z sM);have o:=(zk f.2.2).1;unfold zat;rw [h,if_pos rfl];obtain⟨a,i⟩:∃ a:Nat,x.al=a:=⟨x.al.toNat,oM⟩;obtain⟨b,j⟩:∃ a:Nat,y.al=a:=⟨y.al.toNat,oM⟩;obtain⟨c,k⟩:∃ a:Nat,z.al=a:=⟨z.al.toNat,oM⟩;obtain⟨d,l⟩:∃ a:Nat,p.al=a:=⟨p.al.toNat,oM⟩;dsimp only;rw [i,j,k,l];have e1:=e9 (n:=6) (x:=a) (y:=d) oM oM;have e2:=e9 (n:=6) (x:=b) (y:=c) oM oM;rw [zaV tM tM,zaV tM tM,zce tM tM];refine⟨_,rfl,?_⟩;have:=Nat.and_le_left (n:=a|||d) (m:=b|||c);omega
def iface (s:Sys) (p:Aut) (t:Sys):Int:=if (zl s&&(zj p&&zl t))=true then (((s.al.toNat|||p.al.toNat)&&&t.al.toNat:Nat):Int) else -1
section
variable {lo hi n c:Nat} {A:Option Addr} {s:Sys} {lo1 hi1 m1 d1 m1' d1':Nat} {B B':Option Addr} {p:Aut} {lo2 hi2 k c2:Nat} {C:Option Addr} {t:Sys} {w:World}
theorem zdI (h:zN w lo hi A n s)(hp:zC w lo1 hi1 B m1 B' m1' p)(ht:zN w lo2 hi2 C k t) :
  Calls Tryz.prog 114 #[.agg #[s.al,s.st,.slice A n c],.agg #[p.al,.slice B m1 d1,.slice B' m1' d1'],.agg #[t.al,t.st,.slice C k c2]] w fun e w'=>e=.returned (.int .i64 (iface s p t))∧Ext w w':=by
 have F:=za (fun W (hW:Ext w W)=>zay (c:=c) (h.ext hW));have E:=za (fun W (hW:Ext w W)=>zQ _ _ _ _ d1 _ _ d1' _ _ (hp.ext hW));have G:=za (fun W (hW:Ext w W)=>zay (c:=c2) (ht.ext hW));clear h hp ht;cases h1:zl s<;>cases h2:zj p<;>cases h3:zl t
 case true.true.true =>
  have v:=za h1;have z:=za h2;have D:=za h3;have M:=zF h1;have O:=(zk h2).1;have Q:=zF h3;obtain⟨a,H⟩:∃ a:Nat,Hid (s.al=a):=⟨s.al.toNat,by unfold Hid;omega⟩;obtain⟨b,I⟩:∃ a:Nat,Hid (p.al=a):=⟨p.al.toNat,by unfold Hid;omega⟩;obtain⟨d,J⟩:∃ a:Nat,Hid (t.al=a):=⟨t.al.toNat,by unfold Hid;omega⟩;have L:=za (show iface s p t=((((a|||b)&&&d:Nat)):Int) by unfold iface;rw [h1,h2,h3,H.out,I.out,J.out];rfl);rw [H.out] at M;rw [I.out] at O;rw [J.out] at Q;have Y:a<=63:=oM;have Z:b<=63:=oM;have d6:d<=63:=oM;have S:=e9 (n:=6) (x:=a) (y:=b) oM oM;have ho:=zaV (a:=a) (b:=b) tM tM;have hn:=zce (a:=a|||b) (b:=d) tM tM;clear h1 h2 h3 M O Q S;rw [H.out] at F ⊢;rw [I.out] at E ⊢;rw [J.out] at G ⊢
  go_enter Tryz.func114,Tryz.ntmps114
  go_upto_region 1 with fail
  generalize U0:((w.alloc _).alloc _).alloc _=T at *;obtain⟨m,q,r,u⟩:=Ext.x3_ U0;clear U0;have c1:=q.cell;go_wp2_with (first
   |(go_at_call 199;with_reducible refine (F.out _ m).mono ?_;rw [v.out];rintro e U ⟨rfl,f⟩;have i:=m.trans f;have c2:=(r.ext f).cell)
   |(go_at_call 200;with_reducible refine (E.out _ i).mono ?_;rw [z.out];rintro e V ⟨rfl,g⟩;have j:=i.trans g;have R:=(u.ext (f.trans g)).cell)
   |(go_at_call 199;with_reducible refine (G.out _ j).mono ?_;rw [D.out];rintro e X ⟨rfl,l⟩;have o:=j.trans l;have k1:=(q.ext (f.trans (g.trans l))).cell;have k2:=(r.ext (f.trans (g.trans l))).cell;have k3:=(u.ext (f.trans (g.trans l))).cell))
  go_ret;exact⟨zG (by rw [L.out]),o⟩
 all_goals
  have L:=za (show iface s p t = -1 by unfold iface;rw [h1,h2,h3];rfl);have v:=za h1;have z:=za h2;have D:=za h3;clear h1 h2 h3
  go_enter Tryz.func114,Tryz.ntmps114
  go_upto_region 1 with fail
  generalize U0:((w.alloc _).alloc _).alloc _=T at *;obtain⟨m,q,r,u⟩:=Ext.x3_ U0;clear U0;have c1:=q.cell;go_wp2_with (first
   |(go_at_call 199;with_reducible refine (F.out _ m).mono ?_;rw [v.out];rintro e U ⟨rfl,f⟩;have i:=m.trans f;have c2:=(r.ext f).cell)
   |(go_at_call 200;with_reducible refine (E.out _ i).mono ?_;rw [z.out];rintro e V ⟨rfl,g⟩;have j:=i.trans g;have R:=(u.ext (f.trans g)).cell)
   |(go_at_call 199;with_reducible refine (G.out _ j).mono ?_;rw [D.out];rintro e X ⟨rfl,l⟩;have o:=j.trans l))
  go_ret;exact⟨zG (by rw [L.out]),by first|exact o|exact j|exact i⟩
theorem zdG (h:zN w lo hi A n s)(hp:zC w lo1 hi1 B m1 B' m1' p)(ht:zN w lo2 hi2 C k t) :
  Calls Tryz.prog 188 #[.agg #[s.al,s.st,.slice A n c],.agg #[p.al,.slice B m1 d1,.slice B' m1' d1'],.agg #[t.al,t.st,.slice C k c2]] w fun e w'=>e=.returned (.int .i64 (iface s p t))∧Ext w w':=by
 have F:=za (fun W (hW:Ext w W)=>zaS (c:=c) (h.ext hW));have E:=za (fun W (hW:Ext w W)=>zP _ _ _ _ d1 _ _ d1' _ _ (hp.ext hW));have G:=za (fun W (hW:Ext w W)=>zaS (c:=c2) (ht.ext hW));clear h hp ht;cases h1:zl s<;>cases h2:zj p<;>cases h3:zl t
 case true.true.true =>
  have v:=za h1;have z:=za h2;have D:=za h3;have M:=zF h1;have O:=(zk h2).1;have Q:=zF h3;obtain⟨a,H⟩:∃ a:Nat,Hid (s.al=a):=⟨s.al.toNat,by unfold Hid;omega⟩;obtain⟨b,I⟩:∃ a:Nat,Hid (p.al=a):=⟨p.al.toNat,by unfold Hid;omega⟩;obtain⟨d,J⟩:∃ a:Nat,Hid (t.al=a):=⟨t.al.toNat,by unfold Hid;omega⟩;have L:=za (show iface s p t=((((a|||b)&&&d:Nat)):Int) by unfold iface;rw [h1,h2,h3,H.out,I.out,J.out];rfl);rw [H.out] at M;rw [I.out] at O;rw [J.out] at Q;have Y:a<=63:=oM;have Z:b<=63:=oM;have d6:d<=63:=oM;have S:=e9 (n:=6) (x:=a) (y:=b) oM oM;have ho:=zaV (a:=a) (b:=b) tM tM;have hn:=zce (a:=a|||b) (b:=d) tM tM;clear h1 h2 h3 M O Q S;rw [H.out] at F ⊢;rw [I.out] at E ⊢;rw [J.out] at G ⊢
  go_enter Tryz.func188,Tryz.ntmps188
  go_upto_region 1 with fail
  generalize U0:((w.alloc _).alloc _).alloc _=T at *;obtain⟨m,q,r,u⟩:=Ext.x3_ U0;clear U0;have c1:=q.cell;go_wp2_with (first
   |(go_at_call 108;with_reducible refine (F.out _ m).mono ?_;rw [v.out];rintro e U ⟨rfl,f⟩;have i:=m.trans f;have c2:=(r.ext f).cell)
   |(go_at_call 95;with_reducible refine (E.out _ i).mono ?_;rw [z.out];rintro e V ⟨rfl,g⟩;have j:=i.trans g;have R:=(u.ext (f.trans g)).cell)
   |(go_at_call 108;with_reducible refine (G.out _ j).mono ?_;rw [D.out];rintro e X ⟨rfl,l⟩;have o:=j.trans l;have k1:=(q.ext (f.trans (g.trans l))).cell;have k2:=(r.ext (f.trans (g.trans l))).cell;have k3:=(u.ext (f.trans (g.trans l))).cell))
  go_ret;exact⟨zG (by rw [L.out]),o⟩
 all_goals
  have L:=za (show iface s p t = -1 by unfold iface;rw [h1,h2,h3];rfl);have v:=za h1;have z:=za h2;have D:=za h3;clear h1 h2 h3
  go_enter Tryz.func188,Tryz.ntmps188
  go_upto_region 1 with fail
  generalize U0:((w.alloc _).alloc _).alloc _=T at *;obtain⟨m,q,r,u⟩:=Ext.x3_ U0;clear U0;have c1:=q.cell;go_wp2_with (first
   |(go_at_call 108;with_reducible refine (F.out _ m).mono ?_;rw [v.out];rintro e U ⟨rfl,f⟩;have i:=m.trans f;have c2:=(r.ext f).cell)
   |(go_at_call 95;with_reducible refine (E.out _ i).mono ?_;rw [z.out];rintro e V ⟨rfl,g⟩;have j:=i.trans g;have R:=(u.ext (f.trans g)).cell)
   |(go_at_call 108;with_reducible refine (G.out _ j).mono ?_;rw [D.out];rintro e X ⟨rfl,l⟩;have o:=j.trans l))
  go_ret;exact⟨zG (by rw [L.out]),by first|exact o|exact j|exact i⟩
end
def wl (s:ByteArray):List Nat:=s.data.toList.map fun b=>b.toNat - 97
theorem zfz (s:ByteArray):(wl s).length=s.size:=by simp [wl]
theorem zdK (hk:k<s.size):(wl s)[k]?=some (s[k].toNat - 97):=by
 unfold wl;rw [eL,zcf s k hk];rfl
theorem zaF (h:zaT s=true) (hk:k<s.size):97<=s[k].toNat∧s[k].toNat<=102:=by
 unfold zaT at h;simp only [eG,fF] at h;have:=h.2 s[k] (eB (zcf s k hk));simp only [zdT,decide_eq_true_eq] at this;omega
theorem zaU (h:zaT s=true):s.size<=50000:=by
 unfold zaT at h;simp only [eG,decide_eq_true_eq] at h;exact h.1
theorem wl_lt (h:zaT s=true):∀ l∈wl s,l<6:=by
 intro l hl;obtain⟨k,b⟩:=eT hl;have a:=(List.getElem?_eq_some_iff.1 b).1;rw [zfz] at a;rw [zdK a] at b;have:=zaF h a;have:=Option.some.inj b;omega
def alB (ls:List Nat):Nat:=ls.foldl (fun u l=>u|||2 ^ l) 0
theorem alB_snoc (ls:List Nat) (l:Nat):alB (ls++[l])=alB ls|||2 ^ l:=by simp [alB]
theorem zdx (ls:List Nat) (k:Nat):(alB ls).testBit k=true↔k∈ls:=by
 have a:∀ (ls:List Nat) (u:Nat),(ls.foldl (fun u l=>u|||2 ^ l) u).testBit k=true↔u.testBit k=true∨k∈ls:=by
  intro ls
  induction ls with
  |nil=>intro u;simp
  |cons l r ih =>
   intro u;rw [List.foldl_cons,ih,iY,Nat.testBit_two_pow,gO,decide_eq_true_eq,List.mem_cons];constructor
   ·rintro ((h|h)|h)
    ·exact Or.inl h
    ·exact Or.inr (Or.inl h.symm)
    ·exact Or.inr (Or.inr h)
   ·rintro (h|h|h)
    ·exact Or.inl (Or.inl h)
    ·exact Or.inl (Or.inr h.symm)
    ·exact Or.inr h
 have:=a ls 0;simpa [alB] using this
theorem alB_lt (h:∀ l∈ls,l<6):alB ls<64:=Nat.lt_pow_two_of_testBit (n:=6) _ fun k hk=>by
 rw [fQ]
 intro hb
 have:=h k ((zdx ls k).1 hb)
 omega
def inB (s:ByteArray) (a:Nat):Bool:=decide (s.size<=50000)&&overB s a
theorem zaJ (h:inB s a=true):zaT s=true:=by
 unfold inB at h;simp only [eG,decide_eq_true_eq] at h;unfold zaT;simp only [eG,decide_eq_true_eq];refine⟨h.1,?_⟩;rw [fF];intro b hb;have h2:=h.2;unfold overB at h2;rw [fF] at h2;have h3:=h2 b hb;unfold hasB ltr at h3;simp only [eG,decide_eq_true_eq] at h3;unfold zdT;rw [decide_eq_true_eq];have h4:=h3.1
 split at h4<;>omega
theorem zeF :inB s a=true↔zaT s=true∧alB (wl s)&&&a=alB (wl s):=by
 constructor
 ·intro h;have f:=zaJ h;refine⟨f,gI fun k=>?_⟩;rw [gP];cases hk:(alB (wl s)).testBit k
  ·rfl
  ·rw [j2];have g:=(zdx _ k).1 hk;obtain⟨i,d⟩:=eT g;have c:=(List.getElem?_eq_some_iff.1 d).1;rw [zfz] at c;rw [zdK c] at d;have j:=zaF f c;have e:=Option.some.inj d;unfold inB overB at h;simp only [eG,fF] at h;have:=h.2 s[i] (eB (zcf s i c));unfold hasB ltr at this;rw [if_neg oM] at this;simp only [eG] at this;rw [← e,← this.2]
   congr 1
   omega
 ·rintro ⟨f,h⟩;unfold inB;simp only [eG,decide_eq_true_eq];refine⟨zaU f,?_⟩;unfold overB;rw [fF];intro b j;obtain⟨i,d⟩:=eT j;have c:i<s.size:=by have:=(List.getElem?_eq_some_iff.1 d).1;simpa using this
  rw [zcf s i c] at d;obtain rfl:=Option.some.inj d;have l:=zaF f c;unfold hasB ltr;rw [if_neg oM];have g:(alB (wl s)).testBit (s[i].toNat - 97)=true:=(zdx _ _).2 (eB (zdK c));rw [← h,gP,eG] at g;simp only [eG,decide_eq_true_eq];refine⟨oM,?_⟩;rw [show ((s[i].toNat:Int) - 97).toNat=s[i].toNat - 97 by omega];exact g.2
theorem zeb (hs:s.size<=9223372036854775807) :
  Calls Tryz.prog 219 #[s] w fun e w'=>e=.returned (.tuple #[.int .i64 (if zaT s=true then alB (wl s) else 0:Nat),.bool (zaT s)])∧w=w':=by
 cases hw:zaT s
 ·have f:=za hw;clear hw
  go_enter Tryz.func219,Tryz.ntmps219
  go_wp2_with (go_at_call 138;refine (zcZ s _ hs).mono ?_;rw [f.out];rintro e w' ⟨rfl,rfl⟩)
  go_ret2;exact⟨rfl,rfl⟩
 ·have q:=zaU hw;have p:=za (fun k o=>zaF hw (k:=k) o);have t:=za (wl_lt hw);have f:=za hw;clear hw
  go_enter Tryz.func219,Tryz.ntmps219
  go_wp2_with (go_at_call 138;refine (zcZ s _ hs).mono ?_;rw [f.out];rintro e w' ⟨rfl,rfl⟩)
  go_loop [4,5] (fun v i=>∃ k u:Nat,k<=s.size∧i=.int .i64 k∧v=.int .i64 u∧u<64∧Hid (u=alB ((wl s).take k))) (fun _ i=>s.size - (intOf i).toNat)
  case atStart=>exact⟨0,0,eD _,rfl,rfl,oM,rfl⟩
  case round =>
   obtain⟨k,u,o,rfl,rfl,r,d⟩:=hrel
   by_cases hlt:k<s.size
   ·have g:=p.out k hlt;obtain⟨l,h⟩:∃ l:Nat,Hid ((s[k].toNat:Int) - 97=l):=⟨s[k].toNat - 97,by unfold Hid;omega⟩;have j:l<6:=oH h.out;have m:=za (show alB ((wl s).take (k+1))=u|||2 ^ l by
     rw [eH,zdK hlt,e7,alB_snoc,← d.out]
     congr 2
     have:=h.out;omega)
    have c:=za (show bits .or .i64 (u:Nat) ((2:Int) ^ l)=((u|||2 ^ l:Nat):Int) by
     have:=zaV (a:=u) tM (Sm.bit (n:=l) oM);rw [show (((2:Nat) ^ l:Nat):Int)=(2:Int) ^ l by simp] at this;exact this)
    have b:u|||2 ^ l<64:=e9 (n:=6) r (Nat.pow_lt_pow_right oM j)
    have x:=c.out;clear g;go_wp2_with (first
     |(go_at_call 141;refine (zbR s k hlt _).mono ?_;rw [h.out];rintro e w' ⟨rfl,rfl⟩)
     |(go_at_call 241;refine (zfR l oM _).mono ?_;rintro e w' ⟨rfl,rfl⟩))
    go_round
    case rel=>exact⟨k+1,u|||2 ^ l,oM,gM,by first|rfl|rw [c.out],b,m.symm⟩
    case measure=>simp [intOf];omega
   ·obtain rfl:k=s.size:=oM;have zjf:=za (show u=alB (wl s) by rw [d.out,eE (by rw [zfz];exact eA _)]);go_wp2;go_ret2;exact⟨by rw [zjf.out];rfl,rfl⟩
theorem zaN (hs:s.size<=9223372036854775807)(ha:a<=63) :
  Calls Tryz.prog 143 #[s,a] w fun e w'=>e=.returned (.bool (inB s a))∧w=w':=by
 have d:=za (show (decide ((0:Int)<=a∧(a:Int)<=63))=true by simp;omega);cases hw:zaT s
 ·have g:=za (show inB s a=false by
   rw [fQ];intro h;rw [zaJ h] at hw;cases hw)
  have c:=za hw;clear hw
  go_enter Tryz.func143,Tryz.ntmps143
  go_wp2_with (go_at_call 219;refine (zeb hs).mono ?_;rw [c.out];rintro e w' ⟨rfl,rfl⟩)
  go_ret;exact⟨zm (by rw [g.out]),rfl⟩
 ·obtain⟨u,i⟩:∃ u,Hid (alB (wl s)=u):=⟨_,rfl⟩;have j:u<64:=by rw [← i.out];exact alB_lt (wl_lt hw)
  have f:=za (zce (a:=u) (b:=a) tM tM);have k:=f.out;have g:=za (show inB s a=(((u&&&a:Nat):Int)==(u:Int)) by
   rw [iJ,zeF,i.out,beq_iff_eq];constructor
   ·rintro ⟨_,h⟩;rw [h]
   ·intro h;exact⟨hw,oM⟩)
  have c:=za hw;clear hw
  go_enter Tryz.func143,Tryz.ntmps143
  go_wp2_with (first
   |(go_at_call 219;refine (zeb hs).mono ?_;rw [c.out,if_pos rfl,i.out];rintro e w' ⟨rfl,rfl⟩)
   |(go_at_call 139;refine (zV _ _).mono ?_;rw [d.out];rintro e w' ⟨rfl,rfl⟩))
  go_ret;exact⟨zm (by rw [g.out]),rfl⟩
def zil (bs:List UInt8):List Int:=bs.map fun b=>(b.toNat:Int)
def bcl (bs:List UInt8):List Value:=(zil bs).map (Value.int .u8)
theorem bcl_length (bs:List UInt8):(bcl bs).length=bs.length:=by simp [bcl,zil]
def zfh (a:Nat) (bs:List UInt8):List UInt8:=bs.filter fun b=>hasB a (ltr b.toNat)
def zam (s:ByteArray) (a:Nat):ByteArray:=strOfNums (zil (zfh a s.data.toList))
theorem zhP (hk:k<s.size):zfh a (s.data.toList.take (k+1))=zfh a (s.data.toList.take k)++if hasB a (ltr s[k].toNat)=true then [s[k]] else []:=by
 rw [eH,zcf s k hk,e7];unfold zfh;rw [List.filter_append]
 congr 1
 cases h:hasB a (ltr s[k].toNat)<;>simp [h]
theorem zgM (s:ByteArray) (a k:Nat):(zfh a (s.data.toList.take k)).length<=s.size:=by
 refine eJ (List.length_filter_le _ _) ?_;rw [fH];have:s.data.toList.length=s.size:=sM;omega
theorem ziq {bs:List UInt8}(h:W.ownsRow base 5 1 (.slice A n cap) n (bcl bs)) :
  (convert 62 9 (.slice A n cap)).run Tryz.prog W=.ok (.string (strOfNums (zil bs))) W:=by
 have c:bs.length=n:=by have:=zcW h;rw [bcl_length] at this;omega
 rcases h.2 with ⟨h1,h2⟩|⟨g,b,d,h1,_⟩
 ·injection h1 with h1 h3 h4
  subst h1;subst h3;subst h4;obtain rfl:bs=[]:=eK c;exact run_convert_bytes_nil (P:=Tryz.prog) W 62 5 u8_row u8_und _ _ _ ziX
 ·injection h1 with h1
  subst h1;refine run_convert_bytes_arg (P:=Tryz.prog) W 62 5 u8_row u8_und g 0 n cap (zil bs) (by simp [zil,c]) (fun i hi=>?_) _ ziX;rw [eS,h.cellAt i oM];unfold bcl;rw [eL];have a:i<(zil bs).length:=by simp [zil];omega
  rw [dC a];simp [List.getD,dC a]
theorem own_u8_lit (w:World):(w.alloc (.cells #[] 5)).ownsRow w.heap.size 5 1 (.slice (some w.heap.size) 0 0) 0 (bcl []):=World.ownsRow_lit w #[] 0 (eA _) lM rfl
theorem yV07a2 {P:Prop}(h:P:=by
 obtain rfl:k=s.size:=oM;have zjf:=za (show strOfNums (zil bs)=zam s a by rw [hbs.out,List.take_of_length_le sM];rfl);obtain⟨A5,c5,rfl⟩:=zi zjc;have hcv:=ziq zjc;clear zjc;go_wp2_with (simp only [hcv])
 go_ret;exact⟨by rw [zjf.out];rfl,hx⟩
 ):P:=h
theorem yV07a3 {P:Prop}(h:P:=by
 go_roundw
 case rel=>exact⟨k+1,bs++[s[k]],oM,gM,by rw [List.length_append];simpa [bcl,zil] using zjo,hst2,by rw [List.length_append];exact hl3,hext5⟩
 case measure=>simp [intOf];omega
 ):P:=h
theorem zaM (hw:zaT s=true)(ha:a<=63) :
  Calls Tryz.prog 73 #[s,a] w fun e w'=>e=.returned (.string (zam s a))∧Ext w w':=by
 have m:=za (show (decide ((0:Int)<=a∧(a:Int)<=63))=true by simp;omega);have x:=zaU hw;have q:=za (fun k p=>zaF hw (k:=k) p);have r:=za hw;clear hw
 go_enter Tryz.func73,Tryz.ntmps73
 go_upto_region 3 with (first
  |(go_at_call 138;refine (zcZ s _ oM).mono ?_;rw [r.out];rintro e w' ⟨rfl,rfl⟩)
  |(go_at_call 139;refine (zV _ _).mono ?_;rw [m.out];rintro e w' ⟨rfl,rfl⟩))
 go_upto_region 4 with fail
 have c:=own_u8_lit w;have j:=(dB w).alloc (.cells #[] 5);generalize hA0:(some ⟨w.heap.size,0,none⟩:Option Addr)=y at *;clear hA0;generalize w.alloc _=z at *;go_wp2_with fail
 go_loopw [5,6] (fun v i wr=>∃ (k:Nat) (bs:List UInt8),k<=s.size∧i=.int .i64 k∧wr.ownsRow w.heap.size 5 1 v bs.length (bcl bs)∧Hid (bs=zfh a (s.data.toList.take k))∧bs.length<=50000∧Ext w wr) (fun _ i _=>s.size - (intOf i).toNat)
 case atStart=>exact⟨0,[],eD _,rfl,c,rfl,sM,j⟩
 case round =>
  clear c j;obtain⟨k,bs,p,rfl,zjc,hbs,n,hx⟩:=hrel
  by_cases hlt:k<s.size
  ·have t:=q.out k hlt;obtain⟨l,g⟩:∃ l:Nat,Hid ((s[k].toNat:Int) - 97=l):=⟨s[k].toNat - 97,by unfold Hid;omega⟩;have f:=za (show hasB a (ltr s[k].toNat)=a.testBit l by
    unfold hasB ltr;have:=g.out;rw [if_neg oM,this]
    simp)
   have h:=za (zhP (a:=a) hlt);have u:=zgM s a (k+1);have d:Sm a:=tM;have o:=za (show s.data.toList[k]?=some s[k] from zcf s k hlt);cases hb:a.testBit l
   ·have b:=za hb;have hst2:=za (show bs=zfh a (s.data.toList.take (k+1)) by rw [h.out,f.out,b.out,hbs.out];simp);clear hb;go_wp2_with (first
     |(go_at_call 141;refine (zbR s k hlt _).mono ?_;rw [g.out];rintro e w' ⟨rfl,rfl⟩)
     |(go_at_call 140;refine (zae a l d _ (oH g.out)).mono ?_;rw [b.out];rintro e w' ⟨rfl,rfl⟩))
    go_roundw
    case rel=>exact⟨k+1,bs,oM,gM,zjc,hst2,n,hx⟩
    case measure=>simp [intOf];omega
   ·have b:=za hb;have hst2:=za (show bs++[s[k]]=zfh a (s.data.toList.take (k+1)) by rw [h.out,f.out,b.out,hbs.out];simp);have hl3:(bs++[s[k]]).length<=50000:=by rw [hst2.out];omega
    rw [eO,eZ] at hl3;clear hb;go_wp2_with (first
     |(go_at_call 141;refine (zbR s k hlt _).mono ?_;rw [g.out];rintro e w' ⟨rfl,rfl⟩)
     |(go_at_call 140;refine (zae a l d _ (oH g.out)).mono ?_;rw [b.out];rintro e w' ⟨rfl,rfl⟩)
     |(at_builtin;refine zal w wr rfl _ _ _ rfl 5 _ 1 1 Tryz.underlying62 ziC rfl dM u5 _ _ _ _ rfl rfl hx zjc rfl (zin _) lM oM ?_;intro v' w5 hext5 zjo hg5 hat5))
    exact yV07a3
  ·exact yV07a2
theorem zcr (hw:zaT s=true)(ha:a<=63) :
  Calls Tryz.prog 83 #[s,a] w fun e w'=>e=.returned (.string (zam s a))∧Ext w w':=by
 have m:=zaU hw;have h:=za (fun k g=>zaF hw (k:=k) g);clear hw;have c:Sm a:=tM
 go_enter Tryz.func83,Tryz.ntmps83
 go_wp2_with fail
 go_loopw [5,6,9] (fun v _ i wr=>∃ (k:Nat) (bs:List UInt8),k<=s.size∧i=.int .i64 k∧wr.ownsRow w.heap.size 5 1 v bs.length (bcl bs)∧Hid (bs=zfh a (s.data.toList.take k))∧bs.length<=50000∧Ext w wr) (fun _ _ i _=>s.size - (intOf i).toNat)
 case atStart=>exact⟨0,[],eD _,rfl,World.ownsRow_nil _ _ _ _,rfl,sM,dB _⟩
 case round =>
  obtain⟨k,bs,g,rfl,zjc,hbs,f,hx⟩:=hrel
  by_cases hlt:k<s.size
  ·have j:=h.out k hlt;have d:=za (zhP (a:=a) hlt);have l:=zgM s a (k+1);cases hb:hasB a (ltr s[k].toNat)
   ·have b:=za hb;have hst2:=za (show bs=zfh a (s.data.toList.take (k+1)) by rw [d.out,b.out,hbs.out];simp);clear hb;go_wp2_with (first
     |(go_at_call 153;refine (zbL s k hlt _).mono ?_;rintro e w' ⟨rfl,rfl⟩)
     |(go_at_call 161;refine (zcg a _ c _).mono ?_;rw [b.out];rintro e w' ⟨rfl,rfl⟩))
    go_roundw
    case rel=>exact⟨k+1,bs,oM,gM,zjc,hst2,f,hx⟩
    case measure=>simp [intOf];omega
   ·have b:=za hb;have hst2:=za (show bs++[s[k]]=zfh a (s.data.toList.take (k+1)) by rw [d.out,b.out,hbs.out];simp);have hl3:(bs++[s[k]]).length<=50000:=by rw [hst2.out];omega
    rw [eO,eZ] at hl3;clear hb;go_wp2_with (first
     |(go_at_call 153;refine (zbL s k hlt _).mono ?_;rintro e w' ⟨rfl,rfl⟩)
     |(go_at_call 161;refine (zcg a _ c _).mono ?_;rw [b.out];rintro e w' ⟨rfl,rfl⟩)
     |(at_builtin;refine zal w wr rfl _ _ _ rfl 5 _ 1 1 Tryz.underlying62 ziC rfl dM u5 _ _ _ _ rfl rfl hx zjc rfl (zin _) lM oM ?_;intro v' w5 hext5 zjo hg5 hat5))
    exact yV07a3
  ·exact yV07a2
def runB (es:List Edg) (x:Nat) (ls:List Nat):Nat:=ls.foldl (fun m (l:Nat)=>zbU es m (l:Int)) x
theorem runB_snoc (es:List Edg) (x:Nat) (ls:List Nat) (l:Nat):runB es x (ls++[l])=zbU es (runB es x ls) (l:Int):=by simp [runB]
section
variable {lo hi n c:Nat} {A:Option Addr} {s:Sys} {t:ByteArray} {w:World}
def aftB (s:Sys) (t:ByteArray):Nat:=if (zl s&&inB t s.al.toNat)=true then runB s.edges 1 (wl t) else 0
end
theorem zdp (s:ByteArray) (a:Nat):(zam s a).size<=s.size:=by
 have h:=zgM s a s.size;rw [eE sM] at h;have e:(zam s a).size=(zil (zfh a s.data.toList)).length:=by unfold zam;rw [strOfNums_size]
 rw [e,zil,List.length_map];exact h
def topB (ss:List Sys) (t:ByteArray):Bool:=zA ss&&(inB t (zE ss)&&ss.all fun s=>aftB s (zam t s.al.toNat) != 0)
def zeY (hd:Bool) (a:Aut) (s:ByteArray):Bool:=if hd then zj a&&s.toList.isEmpty else autNone a&&zaT s
def zaR (p:Aut) (q:Nat) (ls:List Nat):Nat:=ls.foldl (aGo p) q
theorem zbq (p:Aut) (q:Nat) (ls:List Nat) (l:Nat):zaR p q (ls++[l])=aGo p (zaR p q ls) l:=by simp [zaR]
theorem zdY (hv:zj p=true) (h:∀ l∈ls,l<6) (hq:q<p.next.length):zaR p q ls<p.next.length:=by
 induction ls generalizing q with
 |nil=>exact hq
 |cons l r ih=>exact ih (fun x hx=>h x (eV _ hx)) (zdc hv hq (h l iC))
theorem zhY (s:ByteArray) (a:Nat):(zam s a).data.toList=zfh a s.data.toList:=by
 unfold zam strOfNums zil;simp only [List.map_map];refine (List.map_congr_left (g:=id) fun b _=>?_).trans (List.map_id _);simp
theorem wl_restB (h:zaT s=true) (a:Nat):wl (zam s a)=(wl s).filter fun l=>a.testBit l:=by
 unfold wl;rw [zhY];unfold zfh;have c:∀ b∈s.data.toList,97<=b.toNat∧b.toNat<=102:=by
  intro b c;obtain⟨i,g⟩:=eT c;have d:i<s.size:=by have:=(List.getElem?_eq_some_iff.1 g).1;simpa using this
  rw [zcf s i d] at g;obtain rfl:=Option.some.inj g;exact zaF h d
 generalize s.data.toList=L at c;clear h
 induction L with
 |nil=>rfl
 |cons b r f =>
  have j:=c b iC;have f:=f fun x hx=>c x (eV _ hx);have e:hasB a (ltr b.toNat)=a.testBit (b.toNat - 97):=by
   unfold hasB ltr;rw [if_neg oM,decide_eq_true oM,j2]
   congr 1
   omega
  rw [List.filter_cons,gJ,List.filter_cons,e];cases a.testBit (b.toNat - 97)
  ·simpa using f
  ·simp only [if_true,gJ];rw [f]
theorem zbP (h:zaT s=true) (a:Nat):inB (zam s a) a=true:=by
 unfold inB overB;rw [zhY,eG,decide_eq_true_eq];refine⟨eJ (zdp s a) (zaU h),?_⟩;rw [fF];intro b hb;exact (List.mem_filter.1 hb).2
def breakB (p:Aut) (t:ByteArray):Bool:=zj p&&(zaT t&&!zck p (zaR p 0 (wl t)))
section
variable {lo hi m d m' d':Nat} {B B':Option Addr} {p:Aut} {t:ByteArray} {w:World}
theorem spec_l3Run (h:zC w lo hi B m B' m' p)(hv:zj p=true)(ht:zaT t=true) :
  Calls Tryz.prog 263 #[.agg #[p.al,.slice B m d,.slice B' m' d'],(0:Int),t] w fun e w'=>e=.returned (.int .i64 (zaR p 0 (wl t):Nat))∧Ext w w':=by
 have G:=za (fun W (hW:Ext w W)=>h.ext hW);have M:=zaU ht;have H:=za (fun k D=>zaF ht (k:=k) D);have L:=(zk hv).2.1;have I:=za hv;have n:=za (fun k=>zdY hv (ls:=(wl t).take k) (fun l f=>wl_lt ht l (List.mem_of_mem_take f)) (q:=0) oM);clear h hv ht
 go_enter Tryz.func263,Tryz.ntmps263
 go_upto_region 1 with fail
 generalize U0:w.alloc _=E at *;obtain⟨g,J⟩:=gX U0;clear U0;go_wp2_with fail
 go_loopw [1,7] (fun v i wr=>∃ k x:Nat,i=.int .i64 k∧k<=t.size∧v=.int .i64 x∧Hid (x=zaR p 0 ((wl t).take k))∧Ext E wr) (fun _ i _=>t.size - (intOf i).toNat)
 case atStart=>exact⟨0,0,rfl,eD _,rfl,rfl,dB _⟩
 case round =>
  obtain⟨k,x,rfl,D,rfl,c,a⟩:=hrel
  by_cases hlt:k<t.size
  ·have o:=H.out k hlt;obtain⟨l,f⟩:∃ l:Nat,Hid ((t[k].toNat:Int) - 97=l):=⟨t[k].toNat - 97,by unfold Hid;omega⟩;have r:l<6:=oH f.out;have s:=za (show aGo p x l=zaR p 0 ((wl t).take (k+1)) by
    rw [eH,zdK hlt,e7,zbq,← c.out]
    congr 1
    have:=f.out;omega)
   have C:x<p.next.length:=by rw [c.out];exact n.out k
   have F:=za (fun W (hW:Ext E W)=>zds (d:=d) (d':=d') (G.out W (g.trans hW)) I.out C r);generalize aGo p x l=y at *;have c1:∀ W,Ext wr W->∀ j,W.cell? ⟨w.heap.size,j,none⟩=#[Value.int .i64 p.al,.slice B m d,.slice B' m' d'][j]?:=fun W hW=>(J.ext (a.trans hW)).cell;have b:=dB wr;clear o;go_upto_region 4 with fail
   refine uR (fun X=>Ext wr X) [5] (zu.of [0,1,2,3,4,5,6]) ?_;refine uQ ?_;refine ze fun K hK=>?_;go_simp;refine (zbR t k hlt _).mono ?_;rw [f.out];rintro e w' ⟨rfl,rfl⟩;refine hK.out _ _ b.drew ?_;refine pT ?_;refine zb fun K hK=>?_;go_simp;refine (F.out _ (a.trans b.drew)).mono (mQ fun O u=>?_);refine hK.out _ _ ?_;refine pT ?_;refine uQ ?_;refine zf ?_;have z:=a.trans (b.drew.trans u);go_wp2_with fail
   go_roundw
   case rel=>exact⟨k+1,y,gM,oM,rfl,s,z⟩
   case measure=>simp [intOf];omega
  ·obtain rfl:k=t.size:=oM;have zjf:=za (show x=zaR p 0 (wl t) by rw [c.out,eE (by rw [zfz];exact eA _)]);go_wp2;go_ret;exact⟨zG (by rw [zjf.out]),g.trans a⟩
end
theorem iface_neg (s t:Sys) (p:Aut):iface s p t<0↔(zl s&&(zj p&&zl t))=false:=by
 unfold iface;cases h:(zl s&&(zj p&&zl t))
 ·simp
 ·simp
theorem pnx_mod (ms:List Mem) (x l:Nat):pnx ms x l=pnx ms (x % zD ms) l:=by
 induction ms generalizing x with
 |nil=>rfl
 |cons m r ih =>
  rw [zdo];unfold pnx;have e1:x % (m.1*zD r) / zD r % m.1=x / zD r % m.1:=by
   rw [gF,jV,Nat.mod_mod]
  have e2:pnx r (x % (m.1*zD r)) l=pnx r x l:=by
   rw [ih (x % (m.1*zD r)),Nat.mod_mul_left_mod,← ih x]
  rw [e1,e2]
theorem goes_lt {ms:List Mem}(hm:∀ m∈ms,zdL m) (hv:∀ l∈v,l<6) (h:zbh (pnx ms) [0] v x):x<zD ms:=by
 rcases zT v with rfl|⟨u,l,rfl⟩
 ·have:=h.ag;have h1:=zfq hm;simp at this;omega
 ·obtain⟨n,_,hx⟩:=h.inv;exact zhW hm (hv l sM) x hx
theorem mem_lt {m:Mem}(hm:zdL m) (hv:∀ l∈v,l<6) (h:zbh m.2 [0] v q):q<m.1:=by
 have a:∀ n (v:List Nat),v.length=n->(∀ l∈v,l<6)->∀ q,zbh m.2 [0] v q->q<m.1:=by
  intro n
  induction n with
  |zero =>
   intro v hl _ q h;obtain rfl:=eK hl;have:=h.ag;have:=hm.1;simp at *;omega
  |succ n ih =>
   intro v hl hv q h;rcases zT v with rfl|⟨u,l,rfl⟩
   ·simp at hl
   ·obtain⟨b,h1,h2⟩:=h.inv;exact hm.2 b l (ih u (by simpa using hl) (fun k hk=>hv k (by simp [hk])) b h1) (hv l sM) q h2
 exact a _ v rfl hv q h
theorem zfd {m:Mem} {r:List Mem}(hm:zdL m)(hr:∀ m∈r,zdL m):∀ (n:Nat) (v:List Nat),v.length=n->(∀ l∈v,l<6)->∀ x,zbh (pnx (m :: r)) [0] v x↔∃ q y,x=q*zD r+y∧zbh m.2 [0] v q∧zbh (pnx r) [0] v y:=by
 intro n
 induction n with
 |zero =>
  intro v hl _ x;obtain rfl:=eK hl;constructor
  ·intro h;have:=h.ag;simp at this;subst this;exact⟨0,0,sM,.nil sM,.nil sM⟩
  ·rintro ⟨q,y,rfl,h1,h2⟩;have h1:=h1.ag;have h2:=h2.ag;simp at h1 h2;subst h1;subst h2;exact .nil sM
 |succ n d =>
  intro v hl hv x;rcases zT v with rfl|⟨u,l,rfl⟩
  ·simp at hl
  have g:∀ k∈u,k<6:=fun k hk=>hv k (by simp [hk]);have o:l<6:=hv l sM;have d:=d u (by simpa using hl) g;have z:=zfq hr;have a:∀ q y,zbh m.2 [0] u q->zbh (pnx r) [0] u y->pnx (m :: r) (q*zD r+y) l=(m.2 q l).flatMap fun b=>(pnx r y l).map fun c=>b*zD r+c:=by
   intro q y h1 h2;have p:=mem_lt hm g h1;have s:=goes_lt hr g h2;show (m.2 ((q*zD r+y) / zD r % m.1) l).flatMap (fun b=>(pnx r (q*zD r+y) l).map fun c=>b*zD r+c)=_;have e1:(q*zD r+y) / zD r % m.1=q:=by
    rw [gF,Nat.mul_add_div oM,jH s,Nat.add_zero,iS p]
   have e2:pnx r (q*zD r+y) l=pnx r y l:=by
    rw [pnx_mod r (q*zD r+y),gF,Nat.mul_add_mod,← pnx_mod]
   rw [e1,e2]
  constructor
  ·intro h;obtain⟨t,h1,h2⟩:=h.inv;obtain⟨q,y,rfl,h3,h4⟩:=(d t).1 h1;rw [a q y h3 h4] at h2;simp only [List.mem_flatMap,List.mem_map] at h2;obtain⟨b,f,c,i,rfl⟩:=h2;exact⟨b,c,rfl,.snoc h3 f,.snoc h4 i⟩
  ·rintro ⟨b,c,rfl,h1,h2⟩;obtain⟨q,h3,h4⟩:=h1.inv;obtain⟨y,h5,j⟩:=h2.inv;refine .snoc ((d (q*zD r+y)).2 ⟨q,y,rfl,h3,h5⟩) ?_;rw [a q y h3 h5];simp only [List.mem_flatMap,List.mem_map];exact⟨b,h4,c,j,rfl⟩
def Runs (s:Sys) (v:List Nat):Prop:=∃ q,zbh (cho s) [0] v q
theorem zgp (a:Aut) (v:List Nat) (q:Nat):zbh (zbl a).2 [0] v q↔q=zaR a 0 v:=by
 have c:∀ n (v:List Nat),v.length=n->∀ q,zbh (zbl a).2 [0] v q↔q=zaR a 0 v:=by
  intro n
  induction n with
  |zero =>
   intro v hl q;obtain rfl:=eK hl;constructor
   ·intro h;have:=h.ag;simp at this;subst this;rfl
   ·rintro rfl;exact .nil (by simp [zaR])
  |succ n b =>
   intro v hl q;rcases zT v with rfl|⟨u,l,rfl⟩
   ·simp at hl
   rw [zbq];have b:=b u (by simpa using hl);constructor
   ·intro h;obtain⟨d,h1,h2⟩:=h.inv;rw [(b d).1 h1] at h2;simpa [zbl] using h2
   ·rintro rfl;exact .snoc ((b _).2 rfl) (by simp [zbl])
 exact c _ v rfl q
theorem goes_nil (v:List Nat) (y:Nat):zbh (pnx []) [0] v y↔y=0:=by
 have b:∀ n (v:List Nat),v.length=n->∀ y,zbh (pnx []) [0] v y↔y=0:=by
  intro n
  induction n with
  |zero =>
   intro v hl y;obtain rfl:=eK hl;exact⟨fun h=>by simpa using h.ag,fun h=>.nil (by simp [h])⟩
  |succ n a =>
   intro v hl y;rcases zT v with rfl|⟨u,l,rfl⟩
   ·simp at hl
   have a:=a u (by simpa using hl);constructor
   ·intro h;obtain⟨c,h1,h2⟩:=h.inv;simpa [pnx] using h2
   ·rintro rfl;exact .snoc ((a 0).2 rfl) (by simp [pnx])
 exact b _ v rfl y
theorem zgq {a:Aut}(ha:zj a=true)(hp:zj p=true) (hv:∀ l∈v,l<6) (y:Nat):zbh (pnx [zbl a,zbl p]) [0] v y↔y=zaR a 0 v*p.next.length+zaR p 0 v:=by
 have b:∀ m∈[zbl p],zdL m:=by simp;exact zbm hp
 have c:zD [zbl p]=p.next.length:=by simp [zD,zah,zbl]
 have h1:∀ z,zbh (pnx [zbl p]) [0] v z↔z=zaR p 0 v:=by
  intro z;rw [zfd (zbm hp) sM _ v rfl hv];constructor
  ·rintro ⟨q,y,rfl,h1,h2⟩;rw [(goes_nil v y).1 h2,(zgp p v q).1 h1];simp [zD,zah]
  ·rintro rfl;exact⟨zaR p 0 v,0,by simp [zD,zah],(zgp p v _).2 rfl,(goes_nil v 0).2 rfl⟩
 rw [zfd (zbm ha) b _ v rfl hv,c];constructor
 ·rintro ⟨q,y,rfl,h2,h3⟩;rw [(zgp a v q).1 h2,(h1 y).1 h3]
 ·rintro rfl;exact⟨_,_,rfl,(zgp a v _).2 rfl,(h1 _).2 rfl⟩
theorem zhL {T:List Mem}(hT:∀ m∈T,zdL m) (hv:∀ l∈v,l<6) (g:Nat->Prop):∀ {ss:List Sys},(∀ s∈ss,zdL (zdv s))->((∃ x,zbh (pnx (ss.map zdv++T)) [0] v x∧g (x % zD T))↔(∀ s∈ss,Runs s v)∧∃ y,zbh (pnx T) [0] v y∧g y):=by
 intro ss
 induction ss with
 |nil =>
  intro _;simp only [List.map_nil,fM,List.not_mem_nil,false_implies,implies_true,true_and];constructor
  ·rintro ⟨x,h,c⟩;rw [iS (goes_lt hT hv h)] at c;exact⟨x,h,c⟩
  ·rintro ⟨x,h,c⟩;exact⟨x,h,by rwa [iS (goes_lt hT hv h)]⟩
 |cons s r i =>
  intro hs;have d:=hs s iC;have f:=fun t a=>hs t (eV _ a);have i:=i f;have j:∀ m∈r.map zdv++T,zdL m:=by
   intro m hm;rcases List.mem_append.1 hm with h|h
   ·obtain⟨t,a,rfl⟩:=List.mem_map.1 h;exact f t a
   ·exact hT m h
  have b:∀ q y,(q*zD (r.map zdv++T)+y) % zD T=y % zD T:=by
   intro q y;rw [zbD,← Nat.mul_assoc,gF,Nat.mul_add_mod]
  rw [gJ,List.cons_append];constructor
  ·rintro ⟨x,h,c⟩;obtain⟨q,y,rfl,h1,h2⟩:=(zfd d j _ v rfl hv x).1 h;rw [b] at c;obtain⟨h3,h4⟩:=i.1 ⟨y,h2,c⟩;refine⟨fun t a=>?_,h4⟩;rcases List.mem_cons.1 a with rfl|a
   ·exact⟨q,h1⟩
   ·exact h3 t a
  ·rintro ⟨h1,h2⟩;obtain⟨y,h3,h4⟩:=i.2 ⟨fun t a=>h1 t (eV _ a),h2⟩;obtain⟨q,k⟩:=h1 s iC;exact⟨q*zD (r.map zdv++T)+y,(zfd d j _ v rfl hv _).2 ⟨q,y,rfl,k,h3⟩,by rwa [b]⟩
def zeP (ss:List Sys) (a p:Aut) (v:List Nat):Prop:=(∀ s∈ss,Runs s v)∧zck a (zaR a 0 v)=true∧zck p (zaR p 0 v)=false
theorem vio_iff {a:Aut}(hss:∀ s∈ss,zl s=true)(ha:zj a=true)(hp:zj p=true) :
  vioB ss a p=true↔∃ v,(∀ l∈v,l∈letters (zE ss|||a.al.toNat) 6)∧zeP ss a p v:=by
 have k:∀ s∈ss,zdL (zdv s):=fun s hs=>zdZ (zbV (hss s hs));have r:∀ m∈[zbl a,zbl p],zdL m:=by simp;exact⟨zbm ha,zbm hp⟩
 have o:zD [zbl a,zbl p]=a.next.length*p.next.length:=by simp [zD,zah,zbl]
 have u:=(zk ha).2.1;have z:=(zk hp).2.1;have c:∀ x,zbv a p x=zbv a p (x % zD [zbl a,zbl p]):=by
  intro x;unfold zbv;rw [o,Nat.mod_mul_left_mod,gF,jV,Nat.mod_mod]
 have i:∀ v,(∀ l∈v,l<6)->((∃ x,zbh (zbJ ss a p) [0] v x∧zbv a p x=true)↔zeP ss a p v):=by
  intro v d;rw [zcI];have h1:=zhL r d (fun y=>zbv a p y=true) k;have h2:(∃ x,zbh (pnx (zaW ss [a,p])) [0] v x∧zbv a p x=true)↔(∃ x,zbh (pnx (ss.map zdv++[zbl a,zbl p])) [0] v x∧zbv a p (x % zD [zbl a,zbl p])=true):=by
   constructor
   ·rintro ⟨x,h,b⟩;exact⟨x,h,by rw [← c];exact b⟩
   ·rintro ⟨x,h,b⟩;exact⟨x,h,by rw [c];exact b⟩
  rw [h2,h1];unfold zeP;refine and_congr_right fun _=>?_;have j:=zdY ha d (q:=0) oM;have g:=zdY hp d (q:=0) oM;have e1:(zaR a 0 v*p.next.length+zaR p 0 v) / p.next.length % a.next.length=zaR a 0 v:=by
   rw [gF,Nat.mul_add_div oM,jH g,Nat.add_zero,iS j]
  have e2:(zaR a 0 v*p.next.length+zaR p 0 v) % p.next.length=zaR p 0 v:=by
   rw [gF,Nat.mul_add_mod,iS g]
  constructor
  ·rintro ⟨y,t,b⟩;rw [(zgq ha hp d y).1 t] at b;unfold zbv at b;rw [e1,e2] at b;simpa using b
  ·intro b;refine⟨_,(zgq ha hp d _).2 rfl,?_⟩;unfold zbv;rw [e1,e2];simpa using b
 unfold vioB lostB;rw [iG,@decide_eq_false_iff_not _ (Classical.propDecidable _)];constructor
 ·intro hn;apply Classical.byContradiction;intro hno;refine hn fun v d x hx=>?_;cases hb:zbv a p x
  ·rfl
  ·exact absurd ⟨v,d,(i v (fun l f=>zca _ l (d l f))).1 ⟨x,hx,hb⟩⟩ hno
 ·rintro ⟨v,d,n⟩ f;obtain⟨x,hx,b⟩:=(i v (fun l f=>zca _ l (d l f))).2 n;have:=f v d x hx;rw [b] at this;cases this
def hidL (s:Sys) (A l:Nat):Prop:=l<6∧s.al.toNat.testBit l=true∧A.testBit l=false
inductive Cl (s:Sys) (p:Aut) (A:Nat) (B:Nat->Nat->Prop):Nat->Nat->Prop
 |base {q i:Nat} (h:B q i):Cl s p A B q i
 |hid {q i l q':Nat} (h:Cl s p A B q i) (hl:hidL s A l) (hq:q'∈cho s q l):Cl s p A B q' (aGo p i l)
def mvB (s:Sys) (p:Aut) (l:Nat) (B:Nat->Nat->Prop):Nat->Nat->Prop:=fun q' j=>∃ q i,B q i∧q'∈cho s q l∧j=aGo p i l
def prR (s:Sys) (p:Aut) (A:Nat):List Nat->Nat->Nat->Prop
 |[]=>Cl s p A (fun q i=>q=0∧i=0)
 |l :: r=>Cl s p A (mvB s p l (prR s p A r))
def PR (s:Sys) (p:Aut) (A:Nat) (v:List Nat):Nat->Nat->Prop:=prR s p A v.reverse
theorem PR_nil (s:Sys) (p:Aut) (A:Nat):PR s p A []=Cl s p A (fun q i=>q=0∧i=0):=rfl
theorem PR_snoc (s:Sys) (p:Aut) (A:Nat) (v:List Nat) (l:Nat):PR s p A (v++[l])=Cl s p A (mvB s p l (PR s p A v)):=by
 unfold PR;rw [List.reverse_append];rfl
def Bad (s:Sys) (p:Aut) (A:Nat) (v:List Nat):Prop:=∃ q i,PR s p A v q i∧zck p i=false
def SafeW (s:Sys) (p:Aut) (A:Nat) (v:List Nat):Prop:=∀ k,k<=v.length->¬ Bad s p A (v.take k)
theorem zgw {s:Sys}(hs:Sml s) (hb:s.al.toNat.testBit l=true) (set q':Nat):(zbU s.edges set (l:Int)).testBit q'=true↔∃ q,set.testBit q=true∧q'∈cho s q l:=by
 obtain⟨h1,h2,d,-⟩:=hs;rw [zdt];constructor
 ·rintro ⟨e,a,⟨h3,h4⟩,rfl⟩;obtain⟨f,g,h⟩:=d e a;refine⟨e.fr.toNat,h4,?_⟩;unfold cho;rw [if_pos hb,zB];refine⟨oM,(zdD _ _ _ _).2 ⟨e,a,?_,rfl⟩⟩;exact⟨oM,h3⟩
 ·rintro ⟨q,h3,h4⟩;unfold cho at h4;rw [if_pos hb,zB] at h4;obtain⟨e,a,⟨h5,b⟩,c⟩:=(zdD _ _ _ _).1 h4.2;exact⟨e,a,⟨b,by rw [h5];simpa using h3⟩,c⟩
theorem zfS {s:Sys}(hs:Sml s) (x:Nat) (l:Int):zbU s.edges x l<65536:=by
 have h1:=stepB_lt hs.2.2.1 x l;have h2:(2:Nat) ^ s.st.toNat<=2 ^ 16:=eW oM (oH hs.2.1);exact eU h1 h2
def zde (T:List Nat) (i q:Nat):Prop:=(T.getD i 0).testBit q=true
theorem zgB (h:zde T i q):i<T.length:=by
 rcases Nat.lt_or_ge i T.length with h1|h1
 ·exact h1
 ·unfold zde at h;rw [eF,eP h1] at h;simp at h
theorem zcq (hj:j<T.length) (x i q:Nat):zde (T.set j (T.getD j 0|||x)) i q↔zde T i q∨(i=j∧x.testBit q=true):=by
 unfold zde
 by_cases h:j=i
 ·subst h;rw [eF,gN hj,gE,iY,gO];simp
 ·rw [eF,fN h,← eF];constructor
  ·exact .inl
  ·rintro (h1|⟨h1,-⟩)
   ·exact h1
   ·exact absurd h1.symm h
def zbi (T:List Nat) (n:Nat) (B:Nat->Nat->Prop):Prop:=T.length=n∧(∀ x∈T,x<65536)∧∀ i q,zde T i q↔B q i
structure ClI (s:Sys) (p:Aut) (A:Nat) (B:Nat->Nat->Prop) (n:Nat) (T:List Nat):Prop where
 len:T.length=n
 lt:∀ x∈T,x<65536
 base:∀ q i,B q i->zde T i q
 sub:∀ i q,zde T i q->Cl s p A B q i
def zei (s:Sys) (p:Aut) (T:List Nat) (i l:Nat):Prop:=∀ q,zde T i q->∀ q'∈cho s q l,zde T (aGo p i l) q'
section
variable {s:Sys} {p:Aut} {A n:Nat} {B:Nat->Nat->Prop} {T:List Nat}
theorem zbi.clI (h:zbi T n B):ClI s p A B n T:=⟨h.1,h.2.1,fun q i hb=>(h.2.2 i q).2 hb,fun i q hb=>.base ((h.2.2 i q).1 hb)⟩
theorem zbx (h:∀ x∈T,x<65536) (i:Nat):T.getD i 0<65536:=by
 rw [eF];cases h1:T[i]? with
 |none=>simp
 |some x=>exact h x (eB h1)
theorem ClI.step (h:ClI s p A B n T)(hs:Sml s)(hp:zj p=true)(hn:n=p.next.length) (hi:i<n)(hl:hidL s A l) :
  ClI s p A B n (T.set (aGo p i l) (T.getD (aGo p i l) 0|||zbU s.edges (T.getD i 0) (l:Int))):=by
 have b:aGo p i l<T.length:=by rw [h.len,hn];exact zdc hp oM hl.1
 refine⟨by rw [jQ];exact h.len,fun x hx=>?_,fun q i' hb=>(zcq b _ _ _).2 (.inl (h.base q i' hb)),fun i' q hb=>?_⟩
 ·rcases iL hx with hx|rfl
  ·exact h.lt x hx
  ·exact e9 (n:=16) (zbx h.lt _) (eU (stepB_lt hs.2.2.1 _ _) (eW oM (oH hs.2.1)))
 ·rcases (zcq b _ _ _).1 hb with a|⟨rfl,a⟩
  ·exact h.sub _ _ a
  ·obtain⟨c,h1,h2⟩:=(zgw hs hl.2.1 _ _).1 a;exact .hid (h.sub _ _ h1) hl h2
theorem closedAt_of (hs:Sml s) (hl:hidL s A l)(he:T.getD (aGo p i l) 0|||zbU s.edges (T.getD i 0) (l:Int)=T.getD (aGo p i l) 0):zei s p T i l:=by
 intro q hq q' hq';unfold zde;rw [← he,iY,(zgw hs hl.2.1 _ _).2 ⟨q,hq,hq'⟩,Bool.or_true]
theorem ClI.fin (h:ClI s p A B n T)(hc:∀ i l,i<n->hidL s A l->zei s p T i l):zbi T n (Cl s p A B):=by
 refine⟨h.len,h.lt,fun i q=>⟨h.sub i q,fun hb=>?_⟩⟩
 induction hb with
 |base hb=>exact h.base _ _ hb
 |hid _ hl hq ih=>exact hc _ _ (by rw [← h.len];exact zgB ih) hl _ ih _ hq
end
def room:List Nat->Nat
 |[]=>0
 |x :: r=>(65536 - x)+room r
theorem room_set:∀ (T:List Nat) (j x:Nat),(T.getD j 0|||x)<65536->room (T.set j (T.getD j 0|||x))<=room T∧(j<T.length->T.getD j 0|||x≠T.getD j 0->room (T.set j (T.getD j 0|||x))<room T)
 |[],j,x,_=>by simp [room]
 |a :: r,0,x,h=>by
  simp only [List.getD_cons_zero,List.set_cons_zero,room] at h ⊢
  have h1:a<=a|||x:=Nat.left_le_or
  refine⟨oM,fun _ h2=>oM⟩
 |a :: r,j+1,x,h=>by
  simp only [List.getD_cons_succ,List.set_cons_succ,room,List.length_cons] at h ⊢
  obtain⟨h1,h2⟩:=room_set r j x h
  refine⟨oM,fun h3 h4=>by have:=h2 oM h4;omega⟩
theorem sub_bit (ha:a<64)(hb:b<64) (l:Nat):l∈letters (a - (a&&&b)) 6↔l<6∧a.testBit l=true∧b.testBit l=false:=by
 rw [zB];refine and_congr_right fun hl=>?_;have c:∀ a<64,∀ b<64,∀ l<6,((a - (a&&&b)).testBit l=true↔a.testBit l=true∧b.testBit l=false):=by decide +kernel
 exact c a ha b hb l hl
theorem stand_bad {s:Sys}  {A:Nat}  (h:zbi T n (PR s p A v)):Bad s p A v↔∃ i,i<n∧T.getD i 0≠0∧zck p i=false:=by
 constructor
 ·rintro ⟨q,i,h1,h2⟩;have a:=(h.2.2 i q).2 h1;refine⟨i,by rw [← h.1];exact zgB a,fun e=>?_,h2⟩;unfold zde at a;rw [e] at a;simp at a
 ·rintro ⟨i,c,h1,h2⟩;obtain⟨q,b⟩:=Nat.exists_testBit_of_ne_zero h1;exact⟨q,i,(h.2.2 i q).1 b,h2⟩
theorem zhh (hn:1<=n):zbi ((eN n 0).set 0 1) n (fun q i=>q=0∧i=0):=by
 refine⟨sM,fun x hx=>?_,fun i q=>?_⟩
 ·rcases iL hx with hx|rfl
  ·rw [iX] at hx;omega
  ·omega
 ·unfold zde;rw [eF]
  by_cases h:i=0
  ·subst h;rw [gN (by rw [List.length_replicate];omega),gE];constructor
   ·intro h;exact⟨by cases q with|zero=>rfl|succ q=>simp [Nat.testBit_succ] at h,rfl⟩
   ·rintro ⟨rfl,-⟩;rfl
  ·rw [fN oM];constructor
   ·intro h;cases h1:(eN n 0)[i]? with
    |none=>rw [h1] at h;simp at h
    |some x =>
     have:=eB h1;rw [iX] at this;rw [h1,this.2] at h;simp at h
   ·rintro ⟨_,h1⟩;exact absurd h1 h
def MvP (s:Sys) (p:Aut) (l:Nat) (T:List Nat) (k:Nat) (U:List Nat):Prop:=
 U.length=12∧(∀ x∈U,x<65536)∧∀ j q',zde U j q'↔∃ i q,i<k∧zde T i q∧q'∈cho s q l∧j=aGo p i l
def goS (s:Sys) (l x:Nat):Nat:=if s.al.toNat.testBit l=true then zbU s.edges x (l:Int) else x
section
variable {s:Sys} {p:Aut} {l k n:Nat} {T U:List Nat} {B:Nat->Nat->Prop}
theorem goS_bit (hs:Sml s) (x q':Nat):(goS s l x).testBit q'=true↔∃ q,x.testBit q=true∧q'∈cho s q l:=by
 unfold goS
 by_cases hb:s.al.toNat.testBit l=true
 ·rw [if_pos hb];exact zgw hs hb x q'
 ·rw [if_neg hb];constructor
  ·intro h;refine⟨q',h,?_⟩;unfold cho;rw [if_neg hb];simp
  ·rintro ⟨q,h1,h2⟩;unfold cho at h2;rw [if_neg hb] at h2;obtain rfl:q'=q:=by simpa using h2
   exact h1
theorem goS_lt (hs:Sml s) (hx:x<65536):goS s l x<65536:=by
 unfold goS;split
 ·exact zfS hs _ _
 ·exact hx
theorem zero_bit (n i q:Nat):¬ zde (eN n 0) i q:=by
 unfold zde;rw [eF];cases h:(eN n 0)[i]? with
 |none=>simp
 |some x =>
  have:=eB h;rw [iX] at this;simp [this.2]
theorem MvP.zero:MvP s p l T 0 (eN 12 0):=by
 refine⟨sM,fun x hx=>by rw [iX] at hx;omega,fun j q'=>⟨fun h=>absurd h (zero_bit _ _ _),?_⟩⟩;rintro ⟨i,q,h,-⟩;omega
theorem MvP.skip (h:MvP s p l T k U)(h0:T.getD k 0=0):MvP s p l T (k+1) U:=by
 refine⟨h.1,h.2.1,fun j q'=>⟨fun hb=>?_,?_⟩⟩
 ·obtain⟨i,q,h1,h2⟩:=(h.2.2 j q').1 hb;exact⟨i,q,oM,h2⟩
 ·rintro ⟨i,q,h1,h2,h3⟩;rcases e6 (fT h1) with h4|rfl
  ·exact (h.2.2 j q').2 ⟨i,q,h4,h2,h3⟩
  ·unfold zde at h2;rw [h0] at h2;simp at h2
theorem yV07a4 {P:Prop}(h:P:=by
 rintro ⟨i,q,h1,h2,h3,h4⟩;rcases Nat.lt_or_eq_of_le (Nat.le_of_lt_succ h1) with h5|rfl
 ·exact .inl ⟨i,q,h5,h2,h3,h4⟩
 ·exact .inr ⟨h4,q,h2,h3⟩
 ):P:=h
theorem MvP.step (h:MvP s p l T k U)(hs:Sml s)(hT:∀ x∈T,x<65536)(hj:aGo p k l<12):MvP s p l T (k+1) (U.set (aGo p k l) (U.getD (aGo p k l) 0|||goS s l (T.getD k 0))):=by
 have a:aGo p k l<U.length:=by rw [h.1];exact hj
 refine⟨by rw [jQ];exact h.1,fun x hx=>?_,fun j q'=>?_⟩
 ·rcases iL hx with hx|rfl
  ·exact h.2.1 x hx
  ·exact e9 (n:=16) (zbx h.2.1 _) (goS_lt hs (zbx hT _))
 ·rw [zcq a,h.2.2 j q',goS_bit hs];constructor
  ·rintro (⟨i,q,h1,h2⟩|⟨rfl,q,h1,h2⟩)
   ·exact⟨i,q,oM,h2⟩
   ·exact⟨k,q,oM,h1,h2,rfl⟩
  ·exact yV07a4
theorem MvP.fin (h:MvP s p l T 12 U)(hT:zbi T 12 B):zbi U 12 (mvB s p l B):=by
 refine⟨h.1,h.2.1,fun j q'=>?_⟩;rw [h.2.2 j q'];constructor
 ·rintro ⟨i,q,-,h2,h3,h4⟩;exact⟨q,i,(hT.2.2 i q).1 h2,h3,h4⟩
 ·rintro ⟨q,i,h2,h3,h4⟩;have a:=(hT.2.2 i q).2 h2;exact⟨i,q,by rw [← hT.1];exact zgB a,a,h3,h4⟩
def Has (M V:List Nat) (k:Nat):Prop:=∀ i q,i<k->zde V i q->zde M i q
theorem Has.zero (M V:List Nat):Has M V 0:=fun i q h=>oM
theorem Has.all (h:Has M V 12)(hV:V.length=12) (i q:Nat)(hb:zde V i q):zde M i q:=h i q (by rw [← hV];exact zgB hb) hb
theorem Has.set (h:Has M V n) (hj:j<M.length):Has (M.set j (M.getD j 0|||x)) V n:=fun i q hi hb=>(zcq hj _ _ _).2 (.inl (h i q hi hb))
theorem Has.step (h:Has M V k)(hk:k<M.length):Has (M.set k (M.getD k 0|||V.getD k 0)) V (k+1):=fun i q hi hb=>by
 rw [zcq hk]
 rcases e6 (fT hi) with h4|rfl
 ·exact .inl (h i q h4 hb)
 ·exact .inr ⟨rfl,hb⟩
variable {A:Nat}
theorem ClI.join (h:ClI s p A B 12 M)(hT:ClI s p A B 12 T)(hV:MvP s p l T 12 V)(hl:hidL s A l)(hk:k<12):ClI s p A B 12 (M.set k (M.getD k 0|||V.getD k 0)):=by
 have b:k<M.length:=by rw [h.len];exact hk
 refine⟨by rw [jQ];exact h.len,fun x hx=>?_,fun q i a=>(zcq b _ _ _).2 (.inl (h.base q i a)),fun i q a=>?_⟩
 ·rcases iL hx with hx|rfl
  ·exact h.lt x hx
  ·exact e9 (n:=16) (zbx h.lt _) (zbx hV.2.1 _)
 ·rcases (zcq b _ _ _).1 a with a|⟨rfl,a⟩
  ·exact h.sub i q a
  ·obtain⟨c,d,-,h2,h3,rfl⟩:=(hV.2.2 i q).1 a;exact .hid (hT.sub c d h2) hl h3
theorem ClI.stop (hT:ClI s p A B 12 T)(h:∀ l,hidL s A l->∃ V,MvP s p l T 12 V∧Has T V 12):zbi T 12 (Cl s p A B):=
 hT.fin fun i l hi hl q hq q' hq'=>by
  obtain⟨V,hV,hh⟩:=h l hl
  exact hh.all hV.1 _ _ ((hV.2.2 _ _).2 ⟨i,q,hi,hq,hq',rfl⟩)
end
theorem bits_le (h:∀ q,a.testBit q=true->b.testBit q=true):a<=b:=by
 have:a|||b=b:=gI fun q=>by
  rw [iY];cases ha:a.testBit q
  ·simp
  ·rw [h q ha];simp
 rw [← this];exact Nat.left_le_or
theorem room_le:∀ {T M:List Nat},T.length=M.length->(∀ x∈M,x<65536)->(∀ i,T.getD i 0<=M.getD i 0)->room M<=room T∧(T≠M->room M<room T)
 |[],[],_,_,_=>⟨eA _,fun h=>absurd rfl h⟩
 |[],_ :: _,h,_,_=>by simp at h
 |_ :: _,[],h,_,_=>by simp at h
 |a :: r,b :: t,h,hM,hle=>by
  have h0:a<=b:=by simpa using hle 0
  have c:=hM b sM;obtain⟨h1,h2⟩:=room_le (T:=r) (M:=t) (by simpa using h) (fun x hx=>hM x (by simp [hx])) (fun i=>by simpa using hle (i+1));refine⟨by simp only [room];omega,fun hne=>?_⟩;simp only [room]
  by_cases e:a=b
  ·subst e;have:=h2 (fun e2=>hne (by rw [e2]));omega
  ·omega
theorem room_grow (h1:T.length=M.length)(hM:∀ x∈M,x<65536)(h:∀ i q,zde T i q->zde M i q)(hne:T≠M):room M<room T:=
 (room_le h1 hM (fun i=>bits_le (fun q hq=>h i q hq))).2 hne
def bq (T:List Nat):Nat->Nat->Prop:=fun q i=>zde T i q
theorem zbi.eq {B:Nat->Nat->Prop}(h:zbi T n B):bq T=B:=funext fun q=>funext fun i=>propext (h.2.2 i q)
structure WS (p:Aut) (T:List Nat):Prop where
 len:T.length=12
 lt:∀ x∈T,x<65536
 row:∀ i q,zde T i q->i<p.next.length
theorem WS.stand (h:WS p T):zbi T 12 (bq T):=⟨h.len,h.lt,fun _ _=>Iff.rfl⟩
theorem WS.idx (h:WS p T) (h0:T.getD i 0≠0):i<p.next.length:=by
 obtain⟨q,a⟩:=Nat.exists_testBit_of_ne_zero h0;exact h.row i q a
def zfE (p:Aut) (T:List Nat):Nat->Bool
 |0=>false
 |k+1=>zfE p T k || (T.getD k 0 != 0&&!zck p k)
def badS (p:Aut) (T:List Nat):Bool:=zfE p T 12
theorem badSN_iff (p:Aut) (T:List Nat):∀ k,zfE p T k=true↔∃ i,i<k∧T.getD i 0≠0∧zck p i=false
 |0=>⟨fun h=>(by cases h),fun ⟨i,h,_⟩=>oM⟩
 |k+1=>by
  unfold zfE
  rw [gO,badSN_iff p T k]
  constructor
  ·rintro (⟨i,h1,h2⟩|h)
   ·exact⟨i,oM,h2⟩
   ·refine⟨k,oM,?_⟩
    simpa using h
  ·rintro ⟨i,h1,h2,h3⟩
   rcases e6 (fT h1) with h4|rfl
   ·exact .inl ⟨i,h4,h2,h3⟩
   ·exact .inr (by simp only [h3,Bool.not_false,Bool.and_true];simpa using h2)
theorem zii {s:Sys}  {A:Nat}  (h:zbi T 12 (PR s p A v)):badS p T=true↔Bad s p A v:=by
 rw [stand_bad h];exact badSN_iff p T 12
theorem cl_row {s:Sys}  {A:Nat} {B:Nat->Nat->Prop}(hp:zj p=true)(hB:∀ q i,B q i->i<p.next.length) (h:Cl s p A B q i):i<p.next.length:=by
 induction h with
 |base h=>exact hB _ _ h
 |hid _ hl _ ih=>exact zdc hp ih hl.1
def Lead (s:Sys) (p:Aut) (A l:Nat) (T U:List Nat):Prop:=zbi U 12 (Cl s p A (mvB s p l (bq T)))
theorem Lead.ws {s:Sys}  {A:Nat} (h:Lead s p A l T U)(hp:zj p=true)(hl:l<6)(hT:WS p T):WS p U:=
 ⟨h.1,h.2.1,fun i q hb=>cl_row hp (fun q i ⟨_,i0,h1,_,h3⟩=>by rw [h3];exact zdc hp (hT.row _ _ h1) hl) ((h.2.2 i q).1 hb)⟩
theorem Lead.pr {s:Sys}  {A:Nat}  (h:Lead s p A l T U)(hT:zbi T 12 (PR s p A v)):zbi U 12 (PR s p A (v++[l])):=by
 unfold Lead at h;rw [hT.eq,← PR_snoc] at h;exact h
theorem start_ws {s:Sys}  {A:Nat} (h:zbi U 12 (PR s p A []))(hp:zj p=true)(h0:0<p.next.length):WS p U:=
 ⟨h.1,h.2.1,fun i q hb=>cl_row hp (fun q i ⟨_,h3⟩=>by rw [h3];exact h0) ((h.2.2 i q).1 hb)⟩
structure SfI (s:Sys) (p:Aut) (A:Nat) (Ts:List (List Nat)) (nx:Nat->Nat->Int):Prop where
 ws:∀ T∈Ts,WS p T
 start:∃ T,Ts[0]?=some T∧zbi T 12 (PR s p A [])
 nx:∀ k l,k<Ts.length->l<6->nx k l = -1∨∃ (j:Nat) (T U:List Nat),nx k l=(j:Int)∧Ts[k]?=some T∧Ts[j]?=some U∧Lead s p A l T U
section
variable {s:Sys} {p:Aut} {A:Nat} {Ts:List (List Nat)} {nx:Nat->Nat->Int}
theorem SfI.add (h:SfI s p A Ts nx) (hU:WS p U):SfI s p A (Ts++[U]) (fun k l=>if k=Ts.length then -1 else nx k l):=by
 obtain⟨T,h1,h2⟩:=h.start;refine⟨fun V a=>?_,⟨T,by rw [eI (List.getElem?_eq_some_iff.1 h1).1];exact h1,h2⟩,fun k l hk hl=>?_⟩
 ·rcases List.mem_append.1 a with a|a
  ·exact h.ws V a
  ·obtain rfl:V=U:=by simpa using a
   exact hU
 ·by_cases e:k=Ts.length
  ·exact .inl (if_pos e)
  ·have b:k<Ts.length:=by simp at hk;omega
   simp only [if_neg e];rcases h.nx k l b hl with h3|⟨j,T,U,h3,h4,h5,c⟩
   ·exact .inl h3
   ·exact .inr ⟨j,T,U,h3,by rw [eI b];exact h4,by rw [eI (List.getElem?_eq_some_iff.1 h5).1];exact h5,c⟩
theorem SfI.set (h:SfI s p A Ts nx)  (hT:Ts[k]?=some T)(hU:Ts[j]?=some U)(hl:Lead s p A l T U):SfI s p A Ts (fun k' l'=>if k'=k∧l'=l then (j:Int) else nx k' l'):=by
 refine⟨h.ws,h.start,fun k' l' hk' hl'=>?_⟩
 by_cases e:k'=k∧l'=l
 ·obtain⟨rfl,rfl⟩:=e;exact .inr ⟨j,T,U,if_pos ⟨rfl,rfl⟩,hT,hU,hl⟩
 ·simp only [if_neg e];exact h.nx k' l' hk' hl'
end
theorem ints_one (l:List Int):∀ u∈ints l,u.oneCell'=true:=by
 intro u hu;obtain⟨x,_,rfl⟩:=List.mem_map.1 hu;rfl
theorem zeX (l:List Bool):∀ u∈zS l,u.oneCell'=true:=by
 intro u hu;obtain⟨x,_,rfl⟩:=List.mem_map.1 hu;rfl
theorem zfe {w1:World}   (hg:(w.alloc (.cells cs t)).grownBy w1 (Value.slice (some w.heap.size) n c).ownBlock):Ext w w1:=
 ((dB w).alloc _).grown hg (fun k hk=>by
  have hk':w.heap.size=k:=by simpa [Value.ownBlock] using hk
  omega)
theorem clone_int {l:List Int} (h:Reads w lo hi 1 A n (ints l))(hn:n<=1048576) :
  Calls Tryz.prog 177 #[.slice A n c] w fun e w'=>∃ v',e=.returned v'∧w'.ownsRow w.heap.size 3 1 v' n (ints l)∧Ext w w':=by
 cases A with
 |none =>
  obtain rfl:n=0:=by
   rcases iR n with b|b
   ·exact b
   ·obtain⟨_,h1,_⟩:=h.2.2 b;cases h1
  have d:=h.length;obtain rfl:l=[]:=eK (by rw [zbZ] at d;omega);clear h;have f:=fun (w:World) (a:Option Addr) (n c n' c':Nat)=>Lib.run_eql_slice_nil (P:=Tryz.prog) w 128 _ a n c n' c' Tryz.underlying128
  go_enter Tryz.func177,Tryz.ntmps177
  go_wp2;go_ret;exact⟨_,rfl,World.ownsRow_nil _ _ _ _,dB _⟩
 |some ad =>
  have H:=za (h.ext ((dB w).alloc (.cells #[] 3)));clear h;have f:=fun (w:World) (a:Option Addr) (n c n' c':Nat)=>Lib.run_eql_slice_nil (P:=Tryz.prog) w 128 _ a n c n' c' Tryz.underlying128
  go_enter Tryz.func177,Tryz.ntmps177
  go_wp2_with (at_builtin;refine zcH _ rfl _ _ 128 rfl w.heap.size 3 _ 1 8 Tryz.underlying128 zai rfl dM _ 0 [] rfl (World.ownsRow_made w #[] 0 (eA _) (eD _) rfl) _ _ (some ad) n c (ints l) rfl H.out (ints_one l) lM oM sM ?_;intro v' w1 zjc hg hat)
  have hx:=zfe hg;rw [eS,fM] at zjc;go_ret;exact⟨_,rfl,zjc,hx⟩
theorem zhI {l:List Bool} (h:Reads w lo hi 1 A n (zS l))(hn:n<=1048576) :
  Calls Tryz.prog 176 #[.slice A n c] w fun e w'=>∃ v',e=.returned v'∧w'.ownsRow w.heap.size 4 1 v' n (zS l)∧Ext w w':=by
 cases A with
 |none =>
  obtain rfl:n=0:=by
   rcases iR n with b|b
   ·exact b
   ·obtain⟨_,h1,_⟩:=h.2.2 b;cases h1
  have d:=h.length;obtain rfl:l=[]:=eK (by rw [zaO] at d;omega);clear h;have f:=fun (w:World) (a:Option Addr) (n c n' c':Nat)=>Lib.run_eql_slice_nil (P:=Tryz.prog) w 26 _ a n c n' c' Tryz.underlying26
  go_enter Tryz.func176,Tryz.ntmps176
  go_wp2;go_ret;exact⟨_,rfl,World.ownsRow_nil _ _ _ _,dB _⟩
 |some ad =>
  have H:=za (h.ext ((dB w).alloc (.cells #[] 4)));clear h;have f:=fun (w:World) (a:Option Addr) (n c n' c':Nat)=>Lib.run_eql_slice_nil (P:=Tryz.prog) w 26 _ a n c n' c' Tryz.underlying26
  go_enter Tryz.func176,Tryz.ntmps176
  go_wp2_with (at_builtin;refine zcH _ rfl _ _ 26 rfl w.heap.size 4 _ 1 1 Tryz.underlying26 zbN rfl dM _ 0 [] rfl (World.ownsRow_made w #[] 0 (eA _) (eD _) rfl) _ _ (some ad) n c (zS l) rfl H.out (zeX l) lM oM sM ?_;intro v' w1 zjc hg hat)
  have hx:=zfe hg;rw [eS,fM] at zjc;go_ret;exact⟨_,rfl,zjc,hx⟩
theorem zau (W:World) (Z:Nat) (u0 u1 u2:Value):Frm (fun k=>k=Z) W (((W.setCell Z u0).setCell ⟨Z,1,none⟩ u1).setCell ⟨Z,2,none⟩ u2):=
 ((eC W Z 0 u0).trans (eC _ Z 1 u1)).trans (eC _ Z 2 u2)
theorem zba {Z:Nat}  (h:Blk w Z t cs)(hc:cs.size=3) (u0 u1 u2:Value):Blk (((w.setCell Z u0).setCell ⟨Z,1,none⟩ u1).setCell ⟨Z,2,none⟩ u2) Z t #[u0,u1,u2]:=by
 obtain⟨l⟩:=cs
 match l,hc with
 |[a,b,c],_=>simpa using ((h.ab 0 u0).ab 1 u1).ab 2 u2
theorem zw {e:TypeId} {size G:Nat} {v:Value} {xs:List Value} (h:w.ownsRow base e size v n xs)(hB:Blk w G t cs)(hne:e≠t) (hv:v.ownBlock=some b):b≠G:=by
 rintro rfl;rcases h.2 with ⟨rfl,_⟩|⟨g,a,c,rfl,_,f,_⟩
 ·simp [Value.ownBlock] at hv
 ·have d:g=b:=by simpa [Value.ownBlock] using hv
  subst d;unfold Blk at hB;rw [f] at hB;injection hB with hB
  injection hB with _ ht
  exact absurd ht hne
structure Gra (w0 W:World) (G:Nat) (al:Int) (v:Value) (ls:List (List Int)) (vA:Value) (acc:List Bool):Prop where
 blk:Blk W G 31 #[al,v,vA]
 own:zeS W w0.heap.size v ls
 acc:W.ownsRow w0.heap.size 4 1 vA acc.length (zS acc)
 ext:Ext w0 W
 hG:w0.heap.size<=G
section
variable {w0 W W':World} {G:Nat} {al:Int} {v vA:Value} {ls:List (List Int)} {acc:List Bool}
theorem Gra.aq (h:Gra w0 W G al v ls vA acc)(hb:Ext W W'):Gra w0 W' G al v ls vA acc:=⟨h.blk.ext hb,h.own.ext hb,zg h.acc hb,h.ext.trans hb,h.hG⟩
theorem Gra.push {W1:World} {rows:List Value} {row:Value} {l:List Int} (h:Gra w0 W G al v ls vA acc)(hrows:zy W w0.heap.size rows ls)(hv:W.ownsRow w0.heap.size 128 1 v ls.length rows)
  (hx:Ext W W1) (hrow:W1.ownsRow W.heap.size 3 1 row l.length (ints l))
  (zjc:W'.ownsRow w0.heap.size 128 1 (.slice (some g) (ls.length+1) cap) (ls.length+1) (rows++[row]))
  (hg:W1.grownBy W' v.ownBlock) (hat:v.ownBlock=some g∨g=W1.heap.size+1) :
  Hid (W'.cell? ⟨G,1,none⟩=some v)∧W'.frozen? ⟨G,1,none⟩=false∧Gra w0 (W'.setCell ⟨G,1,none⟩ (.slice (some g) (ls.length+1) cap)) G al (.slice (some g) (ls.length+1) cap) (ls++[l]) vA acc:=by
 have a:=h.blk.ext hx;have d:=zg hv hx;have f:Blk W' G 31 #[.int .i64 al,v,vA]:=(hg.block G a.lt (fun e=>zw d a dM e.symm rfl)).trans a;have t:g≠G:=by
  rcases hat with h1|h1
  ·exact zw d a dM h1
  ·have:=a.lt;omega
 have s:Ext w0 W':=(h.ext.trans hx).grown hg (fun k hk=>(d.lt k hk).1);have m:=hrows.snoc hx (h.ext.size) hrow;have j:Frm (fun k=>v.ownBlock=some k) W1 W':=Frm.af hg;have n:zy W' w0.heap.size (rows++[row]) (ls++[l]):=m.frm j (fun i r b hr hb hS=>by
  obtain⟨u,_,q⟩:=m.row hr;exact zaP q d dM hb hS)
 have o:W'.ownsRow w0.heap.size 4 1 vA acc.length (zS acc):=zh (zg h.acc hx) j (fun b hb hS=>zaP (zg h.acc hx) d dM hb hS);have c:=eC W' G 1 (.slice (some g) (ls.length+1) cap);refine⟨f.cell 1,f.frozen 1,⟨by simpa using f.ab 1 _,⟨rows++[row],?_,?_⟩,?_,s.setCell (p:=⟨G,1,none⟩) h.hG _,h.hG⟩⟩
 ·rw [eO,eZ];exact zh zjc c (fun b hv hS=>by
   have:g=b:=by simpa [Value.ownBlock] using hv
   omega)
 ·refine n.frm c (fun i r b hr hb hS=>?_);obtain⟨u,_,q⟩:=n.row hr;exact zw q f dM hb hS
 ·exact zh o c (fun b hb hS=>zw o f dM hb hS)
end
theorem zff {A':Option Addr} {n' c':Nat} {a:Aut} (h:zC w lo hi A n A' n' a)(hs:a.size<=1048576) :
  Calls Tryz.prog 98 #[.agg #[a.al,.slice A n c,.slice A' n' c']] w (RetAut w a):=by
 have h1:n<=1048576:=by have:=h.n1;unfold Aut.size at hs;omega
 have h2:n'<=1048576:=by have:=h.n2;unfold Aut.size at hs;omega
 have o:∀ (k:Nat) (l:List Int),a.next[k]?=some l->l.length<=1048576:=fun k l T=>by
  have h1:=zbk T;have h2:=zcd a.next (k+1);unfold Aut.size at hs;omega
 have L:=za o;have O:=za h.n1;have Q:=za h.n2;have HS:=za (fun W (hW:Ext w W)=>h.1.ext hW);have HA:=za (fun W (hW:Ext w W)=>h.2.2.ext hW);have ao:=h.1.len;clear o h hs
 go_enter Tryz.func98,Tryz.ntmps98
 go_upto_region 1 with fail
 generalize U0:(w.alloc _).alloc _=q at *;obtain⟨t,b1,bz⟩:=Ext.x2_ U0;have aq:w.heap.size+2=q.heap.size:=by rw [← U0];simp
 clear U0
 go_cut [3] (fun v wx=>∃ (G:Nat) (vA:Value),v=.pointer (some G)∧Gra q wx G a.al (.slice none 0 0) [] vA a.acc)
 case first =>
  have c1:=fun W (hW:Ext q W)=>(b1.ext hW).cell;have u:=dB q;refine uR (fun X=>Ext q X) [7] (zu.app [0,1,2,3] (zu.two 4 (zu.of [5,6,7]) 6 (zu.of [4,5,7]))) ?_;refine uQ ?_;have g:Ext q q.drew:=u.drew;generalize q.drew=wd at *;refine zn (fun K hK=>?_) (fun K hK=>?_)
  ·go_simp;refine (zhI (HA.out _ (t.trans g)) h2).mono ?_;rintro e H ⟨aj,rfl,j,y⟩;obtain⟨J,M,rfl⟩:=zi j;have m:=g.trans y;refine hK.out _ _ m ?_;refine pT ?_;refine uQ ?_;refine ze fun K hK=>?_;go_simp;have x:=(dB H).alloc (.cells #[(0:Int),(),()] 31);have Z:=m.size;have f:=zr (zg j x) g.size;replace m:=m.trans x;refine hK.out _ _ m ?_;generalize U0:H.alloc _=I at *;have r:=Ext.bl_ U0;clear U0;generalize H.heap.size=G at *;refine pT ?_;refine uQ ?_;have Y:=r.cell;have fG:=r.frozen;refine zb fun K hK=>?_;go_simp;refine hK.out _ _ ?_;refine zf ?_;have zjf:Gra q (((I.setCell G a.al).setCell ⟨G,1,none⟩ ()).setCell ⟨G,2,none⟩ (.slice J n' M)) G a.al (.slice none 0 0) [] (.slice J n' M) a.acc:=⟨zba r rfl _ _ _,⟨[],World.ownsRow_nil _ _ _ _,zy.nil _ _⟩,by
    rw [← Q.out];exact zh f (zau I G _ _ _) (fun b s hS=>zw f r dM s hS),m.frm (zau I G _ _ _) (fun k hk e=>oM),Z⟩
   go_wp2_with fail
   go_meet;exact⟨G,_,rfl,zjf⟩
  ·go_simp;have x:=(dB wd).alloc (.cells #[(0:Int),(),()] 31);have Z:=g.size;replace g:=g.trans x;refine hK.out _ _ g ?_;generalize U0:wd.alloc _=I at *;have r:=Ext.bl_ U0;clear U0;generalize wd.heap.size=G at *;refine pT ?_;refine ze fun K hK=>?_;go_simp;refine (zhI (HA.out _ (t.trans g)) h2).mono ?_;rintro e H ⟨aj,rfl,j,y⟩;obtain⟨J,M,rfl⟩:=zi j;have f:=zr j g.size;replace r:=r.ext y;replace g:=g.trans y;refine hK.out _ _ g ?_;refine pT ?_;refine uQ ?_;have Y:=r.cell;have fG:=r.frozen;refine zb fun K hK=>?_;go_simp;refine hK.out _ _ ?_;refine zf ?_;have zjf:Gra q (((H.setCell G a.al).setCell ⟨G,1,none⟩ ()).setCell ⟨G,2,none⟩ (.slice J n' M)) G a.al (.slice none 0 0) [] (.slice J n' M) a.acc:=⟨zba r rfl _ _ _,⟨[],World.ownsRow_nil _ _ _ _,zy.nil _ _⟩,by
    rw [← Q.out];exact zh f (zau H G _ _ _) (fun b s hS=>zw f r dM s hS),g.frm (zau H G _ _ _) (fun k hk e=>oM),Z⟩
   go_wp2_with fail
   go_meet;exact⟨G,_,rfl,zjf⟩
 case rest =>
  obtain⟨G,vA,rfl,d⟩:=hcut;have k1:=(b1.ext d.ext).cell;go_wp2_with fail
  go_loopw [5,15] (fun _ i wr=>∃ (k:Nat) (v:Value),k<=n∧i=.int .i64 k∧Gra q wr G a.al v (a.next.take k) vA a.acc) (fun _ i _=>n - (intOf i).toNat)
  case atStart=>exact⟨0,_,eD _,rfl,by simpa using d⟩
  case round =>
   clear d k1;obtain⟨k,v,hk,rfl,d⟩:=hrel
   by_cases hlt:k<n
   ·obtain⟨ad,Ak,ck,l,rfl,_,_,T,ab,R⟩:=(HS.out wr (t.trans d.ext)).row hlt;have af:=L.out k l T.out;have V:=za (show a.next.take (k+1)=a.next.take k++[l] by rw [eH,T.out];rfl);have S:=za (show (a.next.take k).length=k by rw [fH];have:=O.out;omega);obtain⟨z,s,F⟩:=d.own;go_upto_region 5 with fail
    have Y:=fun W (hW:Ext wr W)=>(d.blk.ext hW).cell;have u:=dB wr;have U:=za (fun W (hW:Ext wr W)=>R.ext hW);clear ab R;refine uR (fun X=>Ext wr X) [5,7] (zu.of [0,1,2,3,4,5,6,7]) ?_;refine uQ ?_;refine ze fun K hK=>?_;go_simp;refine (clone_int (U.out _ u.drew) af).mono ?_;rintro e I ⟨row,rfl,o,ag⟩;obtain⟨BR,dR,rfl⟩:=zi o;have p:=u.drew.trans ag;refine hK.out _ _ p ?_;refine pT ?_;refine uQ ?_;refine ze fun K hK=>?_;go_simp;refine hK.out _ _ (p.alloc _) ?_;refine pT ?_;refine zb fun K hK=>?_;refine zbT q I _ _ _ rfl 128 _ 1 24 Tryz.underlying25 zdl rfl dM v (a.next.take k).length z _ _ rfl rfl (d.ext.trans p).size (zg s p) rfl (zbW _ _ _) (by unfold maxLen;have:=S.out;omega) (oH S.out) ?_;intro g5 cap5 w5 zjo hg5 hat5 hlt5;refine hK.out _ _ ?_;refine pT ?_;refine uQ ?_;obtain⟨p1,p2,p3⟩:=d.push F s p o (W':=w5) zjo hg5 hat5;have aA:=p1.out;refine zb fun K hK=>?_;go_simp;refine hK.out _ _ ?_;refine zf ?_;go_wp2_with fail
    go_roundw
    case rel=>exact⟨k+1,_,oM,gM,by rw [V.out];first|exact p3|simpa using p3⟩
    case measure=>simp [intOf];omega
   ·obtain rfl:n=k:=oM;obtain⟨A5,c5,rfl⟩:∃ A5 c5,v=.slice A5 n c5:=by
     obtain⟨z,s,_⟩:=d.own;rw [eE (oH O.out),← O.out] at s;exact zi s
    obtain⟨B,C,rfl⟩:=zi d.acc;have Y:=d.blk.cell;have D:=bz.ext d.ext;have cZ:=D.cell;have fZ:=D.frozen;have E:=zau wr (w.heap.size+1) (.int .i64 a.al) (.slice A5 n c5) (.slice B a.acc.length C);have aa:=zba D rfl (.int .i64 a.al) (.slice A5 n c5) (.slice B a.acc.length C);have ah:=(t.trans d.ext).frm E (fun k hk e=>oM);have zjf:=za (show RetAut w a (.returned (.agg #[a.al,.slice A5 n c5,.slice B a.acc.length C])) (((wr.setCell ⟨w.heap.size+1,0,none⟩ a.al).setCell ⟨w.heap.size+1,1,none⟩ (.slice A5 n c5)).setCell ⟨w.heap.size+1,2,none⟩ (.slice B a.acc.length C)) from by
     refine⟨A5,n,c5,B,a.acc.length,C,rfl,⟨?_,O.out,?_,rfl⟩,ah⟩
     ·have ho:=d.own;rw [eE (oH O.out)] at ho;exact (ho.keep E (fun b h1 e=>oM)).less oM
     ·exact zr (zct d.acc E (fun b h1 e=>oM)) oM)
    go_wp2_with fail
    generalize ((wr.setCell ⟨w.heap.size+1,0,none⟩ a.al).setCell ⟨w.heap.size+1,1,none⟩ (.slice A5 n c5)).setCell ⟨w.heap.size+1,2,none⟩ (.slice B a.acc.length C)=wf at *;have cf:=aa.cell;exact bodyPost_ret (v:=.agg #[a.al,.slice A5 n c5,.slice B a.acc.length C]) (by simp [results,Tryz.results98,go_sem,cf]) rfl zjf.out
def memT (W:World) (g n:Nat):List Nat:=(List.range n).map fun j=>match W.cell? ⟨g,j,none⟩ with|some (.int _ z)=>z.toNat|_=>0
theorem memT_own (h:W.ownsRow base 3 1 (.slice (some g) n c) n (zU T))(hT:T.length=n):memT W g n=T:=by
 refine List.ext_getElem? fun j=>?_;unfold memT;rw [eL];rcases Nat.lt_or_ge j n with a|a
 ·rw [List.getElem?_range a,Option.map_some,h.cellAt j oM,show (zU T)[j]?=T[j]?.map (fun x=>Value.int .i64 (x:Nat)) by simp [zU]];rw [dC oM];simp
 ·rw [eP (by simpa using a),eP oM];rfl
theorem zcB (h:W.ownsRow base 3 1 (.slice (some g) n c) n (zU T))(hj:j<n):W.cell? ⟨g,j,none⟩=some (.int .i64 (T.getD j 0:Nat)):=by
 have a:=zcW h;have b:T.length=n:=by simpa [zU] using a
 rw [h.cellAt j oM,show (zU T)[j]?=T[j]?.map (fun x=>Value.int .i64 (x:Nat)) by simp [zU],eF,dC oM];simp
def RetSets (g N cc base:Nat) (Q:Nat->Nat->Prop) (w:World) (e:Ending) (w':World):Prop:=
 ∃ T':List Nat,e=.returned (.slice (some g) N cc)∧w'.ownsRow base 3 1 (.slice (some g) N cc) N (zU T')∧zbi T' N Q∧Frm (fun k=>k=g) w w'
section
variable {w:World} {lo hi n c m d m' d' L:Nat} {A B B':Option Addr} {s:Sys} {p:Aut}
theorem zga {cc:Nat}  {Bs:Nat->Nat->Prop}(hS:zN w lo hi A n s)(hP:zC w lo hi B m B' m' p)(hv:zl s=true)(hp:zj p=true)(hL:L<64)(hN:N=p.next.length)
  (hg:hi<=base) (zjc:w.ownsRow base 3 1 (.slice (some g) N cc) N (zU T)) (hT:zbi T N Bs) :
  Calls Tryz.prog 220 #[.agg #[s.al,s.st,.slice A n c,p.al,.slice B m d,.slice B' m' d',L],.slice (some g) N cc] w (RetSets g N cc base (Cl s p L Bs) w):=by
 have O:=zbV hv;obtain⟨aZ,a0⟩:=zF hv;obtain⟨al,ad⟩:∃ al:Nat,Hid (s.al=al):=⟨s.al.toNat,by unfold Hid;omega⟩;have I:al<64:=oH ad.out;have aN:N<=12:=by have:=(zk hp).2.1;omega
 have a3:=(zjc.lt g rfl).1;have a5:=(zjc.lt g rfl).2;have HN:=za hN;have aD:=za (zce (a:=al) (b:=L) tM tM);have a7:al&&&L<=al:=Nat.and_le_left;have aa:(al:Int) - ((al&&&L:Nat):Int)=((al - (al&&&L):Nat):Int):=oM;have am:=za aa;clear aa;have H:=za (fun l=>sub_bit I hL l);have a1:=aD.out;clear hN
 go_enter Tryz.func220,Tryz.ntmps220
 go_upto_region 1 with fail
 generalize U0:w.alloc _=w1 at *;obtain⟨R,b1⟩:=gX U0;have k1:=b1.cell;clear U0;rw [ad.out] at k1;go_wp2_with fail
 rw [am.out];refine (zaG (al - (al&&&L)) tM _).mono ?_;rintro e w2 ⟨HA,hc,rfl,E,U⟩;have H:=za (fun l=>(sub_bit I hL l).trans (show l<6∧al.testBit l=true∧L.testBit l=false↔hidL s L l by unfold hidL;rw [ad.out];rfl));generalize letters (al - (al&&&L)) 6=hs at *;have a6:hs.length<=9223372036854775807:=(Reads.ae E).len;have an:Frm (fun k=>k=g) w w2:=(R.trans U).ak;have aw:=zg zjc (R.trans U);have aH:=b1.ext U;have o:=hT.clI (s:=s) (p:=p) (A:=L);clear zjc hT k1 b1;go_wp2_with fail
 go_loopw [6] (fun mv wr=>∃ (C:Bool) (T:List Nat),mv=.bool C∧Hid (ClI s p L Bs N T)∧Hid (C=false->∀ i l,i<N->hidL s L l->zei s p T i l)∧wr.ownsRow base 3 1 (.slice (some g) N cc) N (zU T)∧Frm (fun k=>k=g) w2 wr) (fun mv wr=>room (memT wr g N)+(match mv with | .bool true=>1|_=>0))
 case atStart=>exact⟨true,T,rfl,za o,za (fun h=>by cases h),aw,Frm.refl _ _⟩
 case round =>
  clear o aw;obtain⟨C,T,rfl,o,f,zjc,t⟩:=hrel;have ap:=za (memT_own zjc o.out.len);cases C
  ·have zjf:=za (o.out.fin (f.out rfl));go_wp2_with fail
   go_ret;exact⟨T,rfl,zjc,zjf.out,an.trans t⟩
  ·go_wp2_with fail
   go_loopw [6,7] (fun mv iv wq=>∃ (C:Bool) (i:Nat) (v:List Nat),mv=.bool C∧iv=.int .i64 i∧i<=N∧Hid (ClI s p L Bs N v)∧Hid (room v<=room T∧(C=true->room v<room T))∧Hid (C=false->∀ i' l,i'<i->hidL s L l->zei s p v i' l)∧wq.ownsRow base 3 1 (.slice (some g) N cc) N (zU v)∧Frm (fun k=>k=g) w2 wq) (fun _ iv _=>N - (intOf iv).toNat)
   case atStart=>exact⟨false,0,T,rfl,rfl,eD _,o,za ⟨eA _,fun h=>by cases h⟩,za (fun _ i' l h=>oM),zjc,t⟩
   case round =>
    clear o zjc t f;obtain⟨C,i,v,rfl,rfl,hi,o,r,f,zjc,t⟩:=hrel
    by_cases hlt:i<N
    ·have aQ:(i:Int)<(N:Int):=oM;go_wp2_with fail
     go_loopw [6,8] (fun mv kv wq=>∃ (C:Bool) (k:Nat) (v:List Nat),mv=.bool C∧kv=.int .i64 k∧k<=hs.length∧Hid (ClI s p L Bs N v)∧Hid (room v<=room T∧(C=true->room v<room T))∧Hid (C=false->(∀ i' l,i'<i->hidL s L l->zei s p v i' l)∧∀ (k' l:Nat),k'<k->hs[k']?=some l->zei s p v i l)∧wq.ownsRow base 3 1 (.slice (some g) N cc) N (zU v)∧Frm (fun k=>k=g) w2 wq) (fun _ kv _=>hs.length - (intOf kv).toNat)
     case atStart=>exact⟨C,0,v,rfl,rfl,eD _,o,r,za (fun h=>⟨f.out h,fun k' l h=>oM⟩),zjc,t⟩
     case round =>
      clear o r f zjc t;obtain⟨C,k,v,rfl,rfl,hk,o,r,f,zjc,t⟩:=hrel
      by_cases hkl:k<hs.length
      ·have aP:(k:Int)<(hs.length:Int):=oM;obtain⟨l,X⟩:∃ l,hs[k]?=some l:=⟨_,dC hkl⟩;have M:=(H.out l).1 (eB X);have ao:=M.1;have ae:aGo p i l<N:=by rw [HN.out];exact zdc hp (by rw [← HN.out];exact hlt) ao
       obtain⟨gh,rfl,a4,-⟩:=zao E oM;have G:=zct E t (fun b h1 e=>oH R.size);have cH:=zcB G hkl;rw [eF,X,gE] at cH;have CH:∀ W,Ext wr W->W.cell? ⟨gh,k,none⟩=some (.int .i64 (l:Nat)):=fun W hW=>hW.aa cH;have CB:∀ W,Ext wr W->∀ q,W.cell? ⟨w.heap.size,q,none⟩=#[Value.int .i64 s.al,.int .i64 s.st,.slice A n c,.int .i64 p.al,.slice B m d,.slice B' m' d',.int .i64 L][q]?:=fun W hW=>((aH.frm t oM).ext hW).cell;have CI:∀ W,Ext wr W->W.cell? ⟨g,i,none⟩=some (.int .i64 (v.getD i 0:Nat)):=fun W hW=>hW.aa (zcB zjc hlt);have aB:=za (fun W (hW:Ext wr W)=>((hP.ext (R.trans U)).frm t (fun k h1 h2 e=>oM)).ext hW);have aC:=za (fun W (hW:Ext wr W)=>((hS.ext (R.trans U)).frm t (fun k h1 h2 e=>oM)).ext hW);have Hl:=za X;have a8:=dB wr;clear X cH G;go_wp2_with fail
       go_region_held3 (fun W=>Ext wr W) (first|assumption|(refine fW ?_;assumption)|(refine e8 ?_ aM;assumption)|(refine e8 ?_ aM;refine fW ?_;assumption)) (first|(go_at_call 222;refine (zds (aB.out _ ?_) hp (by rw [← HN.out];exact hlt) ao).mono ?_;(first|assumption|(refine fW ?_;assumption));rintro e w3 ⟨rfl,a9⟩))
       have aR:Ext wr w3:=aM;obtain⟨j,hj⟩:∃ j,Hid (aGo p i l=j):=⟨_,rfl⟩;rw [hj.out] at ae ⊢;have CJ:∀ W,Ext wr W->W.cell? ⟨g,j,none⟩=some (.int .i64 (v.getD j 0:Nat)):=fun W hW=>hW.aa (zcB zjc ae);obtain⟨x,hx⟩:∃ x,Hid (v.getD i 0=x):=⟨_,rfl⟩;obtain⟨y,hy⟩:∃ y,Hid (v.getD j 0=y):=⟨_,rfl⟩;have aS:x<65536:=by rw [← hx.out];exact zbx o.out.lt i
       have av:y<65536:=by rw [← hy.out];exact zbx o.out.lt j
       rw [hx.out] at CI;rw [hy.out] at CJ;have Q:zbU s.edges x (l:Int)<65536:=zfS O _ _;obtain⟨z,hz⟩:∃ z,Hid (zbU s.edges x (l:Int)=z):=⟨_,rfl⟩;rw [hz.out] at Q;have aJ:=zaV (a:=y) (b:=z) tM tM;have aO:(j:Int)<(N:Int):=oM;obtain⟨u,hu⟩:∃ u,Hid (y|||z=u):=⟨_,rfl⟩;have au:u<65536:=by rw [← hu.out];exact e9 (n:=16) av Q
       rw [hu.out] at aJ;go_wp2_with fail
       go_region_held3 (fun W=>Ext wr W) (first|assumption|(refine fW ?_;assumption)|(refine e8 ?_ aM;assumption)|(refine e8 ?_ aM;refine fW ?_;assumption)) (first|(go_at_call 221;refine (zhd (c:=c) (k0:=s.st.toNat) (aC.out _ ?_) O.2.2.1 (oH O.2.1) tM).mono ?_;(first|assumption|(refine fW ?_;assumption));rw [hz.out];rintro e w4 ⟨rfl,ba⟩))
       have S:Ext wr w4:=aM;have cJ:=CJ w4 S;have Y:=t.ext S;have D:=zg zjc S;have J:v.getD (aGo p i l) 0|||zbU s.edges (v.getD i 0) (l:Int)=u:=by rw [hj.out,hx.out,hy.out,hz.out,hu.out]
       have aj:=za J;have F:=o.out.step O hp HN.out hlt M;rw [J,hj.out] at F;have ab:=za F;clear J F CH CB CI CJ
       by_cases he:u=y
       ·have aE:=za (closedAt_of (T:=v) (p:=p) (i:=i) O M (by rw [aj.out,hj.out,hy.out,he]));have aI:((u:Int) != (y:Int))=false:=by rw [he];simp
        clear he;go_wp2_with fail
        go_roundw
        case rel=>exact⟨C,k+1,v,rfl,gM,oM,o,r,za (fun h=>⟨(f.out h).1,fun k' l' V hl'=>by
         rcases e6 (fT V) with h1|rfl
         ·exact (f.out h).2 k' l' h1 hl'
         ·rw [Hl.out] at hl';obtain rfl:=Option.some.inj hl';exact aE.out⟩),D,Y⟩
        case measure=>simp [intOf];omega
       ·have aI:((u:Int) != (y:Int))=true:=by simp;omega
        have ag:=room_set v j z (by rw [hy.out,hu.out];exact au);rw [hy.out,hu.out] at ag;have Z:=ag.2 (by rw [o.out.len];exact ae) he;have ak:=za Z;have aq:=(D.stored j (.int .i64 (u:Nat))).1;rw [← zgr] at aq;have a2:=D.frozenAt j;clear ag Z he;go_wp2_with fail
        go_roundw
        case rel=>exact⟨true,k+1,v.set j u,rfl,gM,oM,za ab.out,za ⟨by have:=ak.out;have:=r.out.1;omega,fun _=>by have:=ak.out;have:=r.out.1;omega⟩,za (fun h=>by cases h),aq,Y.trans (eC _ g j _)⟩
        case measure=>simp [intOf];omega
      ·go_wp2_with fail
       go_roundw
       case rel=>exact⟨C,i+1,v,rfl,gM,oM,o,r,za (fun h i' l hi' X=>by
        rcases e6 (fT hi') with h1|rfl
        ·exact (f.out h).1 i' l h1 X
        ·obtain⟨k',V⟩:=eT ((H.out l).2 X);exact (f.out h).2 k' l (by have:=(List.getElem?_eq_some_iff.1 V).1;omega) V),zjc,t⟩
       case measure=>simp [intOf];omega
    ·go_wp2_with fail
     have af:=za (memT_own zjc o.out.len);go_roundw
     case rel=>exact⟨C,v,rfl,o,za (fun h i l hi X=>f.out h i l oM X),zjc,t⟩
     case measure =>
      rw [ap.out,af.out];have h1:=r.out;cases C
      ·simp;omega
      ·have:=h1.2 rfl
       simp;omega
end
def RetSt (N:Nat) (Q:Nat->Nat->Prop) (w:World) (e:Ending) (w':World):Prop:=
 ∃ (T:List Nat) (g c:Nat),e=.returned (.slice (some g) N c)∧w'.ownsRow w.heap.size 3 1 (.slice (some g) N c) N (zU T)∧zbi T N Q∧Ext w w'
def mset (s:Sys) (x l:Nat):Nat:=if s.al.toNat.testBit l then zbU s.edges x (l:Int) else x
theorem mset_bit {s:Sys}(hs:Sml s) (x l q':Nat):(mset s x l).testBit q'=true↔∃ q,x.testBit q=true∧q'∈cho s q l:=by
 unfold mset;split
 ·rename_i h;exact zgw hs h x q'
 ·rename_i h;constructor
  ·intro h1;exact⟨q',h1,by unfold cho;rw [if_neg h];simp⟩
  ·rintro ⟨q,h1,h2⟩;unfold cho at h2;rw [if_neg h] at h2;simp at h2;rw [h2];exact h1
theorem mset_lt {s:Sys}(hs:Sml s) (hx:x<65536) (l:Nat):mset s x l<65536:=by
 unfold mset;split
 ·exact zfS hs _ _
 ·exact hx
structure MvI (s:Sys) (p:Aut) (l N:Nat) (T:List Nat) (k:Nat) (O:List Nat):Prop where
 len:O.length=N
 lt:∀ x∈O,x<65536
 bit:∀ j q',zde O j q'↔∃ i q,i<k∧zde T i q∧q'∈cho s q l∧j=aGo p i l
theorem MvI.step {s:Sys}   (h:MvI s p l N T k O)(hs:Sml s)(hp:zj p=true)(hN:N=p.next.length)(hT:∀ x∈T,x<65536)(hk:k<N)(hl:l<6) :
  MvI s p l N T (k+1) (O.set (aGo p k l) (O.getD (aGo p k l) 0|||mset s (T.getD k 0) l)):=by
 have a:aGo p k l<O.length:=by rw [h.len,hN];exact zdc hp oM hl
 refine⟨by rw [jQ];exact h.len,fun x hx=>?_,fun j q'=>?_⟩
 ·rcases iL hx with hx|rfl
  ·exact h.lt x hx
  ·exact e9 (n:=16) (zbx h.lt _) (mset_lt hs (zbx hT _) _)
 ·rw [zcq a,h.bit,mset_bit hs];constructor
  ·rintro (⟨i,q,h1,h2,h3,h4⟩|⟨h1,q,h2,h3⟩)
   ·exact⟨i,q,oM,h2,h3,h4⟩
   ·exact⟨k,q,oM,h2,h3,h1⟩
  ·exact yV07a4
theorem MvI.zero (s:Sys) (p:Aut) (l N:Nat) (T:List Nat):MvI s p l N T 0 (eN N 0):=by
 refine⟨sM,fun x hx=>by rw [iX] at hx;omega,fun j q'=>?_⟩;constructor
 ·intro h;unfold zde at h;rw [eF] at h;cases h1:(eN N 0)[j]? with
  |none=>rw [h1] at h;simp at h
  |some x =>
   have:=eB h1;rw [iX] at this;rw [h1,this.2] at h;simp at h
 ·rintro ⟨_,_,h,_⟩;omega
theorem MvI.fin {s:Sys}    {B:Nat->Nat->Prop}(h:MvI s p l N T N O)(hT:zbi T N B):zbi O N (mvB s p l B):=by
 refine⟨h.len,h.lt,fun j q'=>?_⟩;rw [h.bit];constructor
 ·rintro ⟨i,q,h1,h2,h3,h4⟩;exact⟨q,i,(hT.2.2 i q).1 h2,h3,h4⟩
 ·rintro ⟨q,i,h2,h3,h4⟩;have a:=(hT.2.2 i q).2 h2;exact⟨i,q,by rw [← hT.1];exact zgB a,a,h3,h4⟩
def badT (p:Aut) (T:List Nat) (N:Nat):Bool:=(List.range N).any fun i=>T.getD i 0 != 0&&!zck p i
theorem zij :badT p T N=true↔∃ i,i<N∧T.getD i 0≠0∧zck p i=false:=by
 unfold badT;rw [List.any_eq_true];constructor
 ·rintro ⟨i,h1,h2⟩;rw [List.mem_range] at h1;simp only [eG,bne_iff_ne,iG] at h2;exact⟨i,h1,h2.1,h2.2⟩
 ·rintro ⟨i,h1,h2,h3⟩;exact⟨i,List.mem_range.2 h1,by simp [h3];simpa using h2⟩
section
variable {w:World} {lo hi n c m d m' d' L:Nat} {A B B':Option Addr} {s:Sys} {p:Aut}
theorem spec_l9Start (hS:zN w lo hi A n s)(hP:zC w lo hi B m B' m' p)(hv:zl s=true)(hp:zj p=true)(hL:L<64)(hhi:hi<=w.heap.size)(hN:N=p.next.length) :
  Calls Tryz.prog 144 #[.agg #[s.al,s.st,.slice A n c,p.al,.slice B m d,.slice B' m' d',L]] w (RetSt N (PR s p L []) w):=by
 have M:m=N:=hP.n1.trans hN.symm;subst M;have g:1<=m∧m<=12:=by have:=(zk hp).2.1;omega
 have F:=za (fun W (hW:Ext w W)=>hS.ext hW);have E:=za (fun W (hW:Ext w W)=>hP.ext hW);have D:=za hN;clear hS hP hN
 go_enter Tryz.func144,Tryz.ntmps144
 go_upto_region 1 with fail
 generalize U0:w.alloc _=l at *;obtain⟨a,r⟩:=gX U0;have H:=r.lt;clear U0;have C:=r.cell;go_upto_region 2 with (at_make;refine zas l l rfl _ _ 128 rfl 3 _ 1 8 Tryz.underlying128 zai _ _ m rfl rfl (dB _) oM lM ?_;intro w2 hx2 zjm hx23 hsz2)
 rw [madeZ] at zjm;have j:=(zjm.stored 0 (.int .i64 1)).1;rw [show (zU (eN m 0)).set 0 (.int .i64 1)=zU ((eN m 0).set 0 1) from (zgr (i:=0) (v:=1) (R:=eN m 0)).symm] at j;have J:=zjm.frozenAt 0;have I:=zcB zjm (show 0<m by omega);have f:=(a.trans hx2).setCell (p:=⟨l.heap.size,0,none⟩) a.size (.int .i64 1);have z:=(r.ext hx2).far (p:=⟨l.heap.size,0,none⟩) (by dsimp only;omega) (.int .i64 1);have G:(0:Int)<(m:Int):=oM;clear C;have C:=z.cell;have Q:=za (fun o (hT':zbi o m (fun q i=>q=0∧i=0))=>hT');have u:=F.out _ f;have t:=E.out _ f;have x:=zhh g.1;have O:=a.size;clear hx23;go_wp2_with fail
 refine (zga (c:=c) (d:=d) (d':=d') u t hv hp hL D.out oM j x).mono ?_;rintro e S ⟨o,rfl,b,y,h⟩;go_wp2_with fail
 go_ret;exact⟨o,l.heap.size,m,rfl,zr b a.size,y,f.frm h (fun k hk e=>oM)⟩
theorem spec_l9Move {Q:Nat->Nat->Prop}(hS:zN w lo hi A n s)(hP:zC w lo hi B m B' m' p)(hv:zl s=true)(hp:zj p=true)(hL:L<64)(hhi:hi<=w.heap.size)(hN:N=p.next.length)(hl:l<6)
  (zjc:w.ownsRow b0 3 1 (.slice (some g0) N c0) N (zU T)) (hT:zbi T N Q) :
  Calls Tryz.prog 146 #[.agg #[s.al,s.st,.slice A n c,p.al,.slice B m d,.slice B' m' d',L],.slice (some g0) N c0,l] w (RetSt N (Cl s p L (mvB s p l Q)) w):=by
 have D:=zbV hv;obtain⟨aD,aE⟩:=zF hv;obtain⟨al,C⟩:∃ al:Nat,Hid (s.al=al):=⟨s.al.toNat,by unfold Hid;omega⟩;have am:al<64:=oH C.out;have U:=za (show s.al.toNat=al by have:=C.out;omega);have au:1<=N∧N<=12:=by have:=(zk hp).2.1;omega
 have HS:=za (fun W (hW:Ext w W)=>hS.ext hW);have HP:=za (fun W (hW:Ext w W)=>hP.ext hW);have J:=za hN;have HT:=za hT;have aG:=(zjc.lt g0 rfl).2;clear hS hP hN hT
 go_enter Tryz.func146,Tryz.ntmps146
 go_upto_region 1 with fail
 generalize U0:w.alloc _=w1 at *;obtain⟨V,b1⟩:=gX U0;have aF:=b1.lt;clear U0;go_wp2_with (at_make;refine zas w1 w1 rfl _ _ 128 rfl 3 _ 1 8 Tryz.underlying128 zai _ _ N rfl rfl (dB _) oM lM ?_;intro w2 hx2 zjm hx23 hsz2)
 rw [madeZ] at zjm;have ax:=V.size;have ap:=V.trans hx2;clear hx23;obtain⟨r,S⟩:∃ r,r=w1.heap.size:=⟨_,rfl⟩;rw [← S] at zjm ⊢;have aC:w.heap.size<r:=oM;clear S
 go_loopw [8] (fun iv wr=>∃ (i:Nat) (O:List Nat),iv=.int .i64 i∧i<=N∧Hid (MvI s p l N T i O)∧wr.ownsRow r 3 1 (.slice (some r) N N) N (zU O)∧Frm (fun k=>k=r) w2 wr) (fun iv _=>N - (intOf iv).toNat)
 case atStart=>exact⟨0,_,rfl,eD _,za (MvI.zero s p l N T),zjm,Frm.refl _ _⟩
 case round =>
  clear zjm;obtain⟨i,O,rfl,hi,hO,f,t⟩:=hrel;have h:Ext w wr:=ap.frm t (fun k hk e=>oM);have k1:=((b1.ext hx2).frm t oM).cell
  by_cases hlt:i<N
  ·have aw:(i:Int)<(N:Int):=oM;have cI:=zcB (zg zjc h) hlt;obtain⟨x,hx⟩:∃ x,Hid (T.getD i 0=x):=⟨_,rfl⟩;have X:x<65536:=by rw [← hx.out];exact zbx HT.out.2.1 i
   rw [hx.out] at cI;have CB:∀ W,Ext wr W->∀ q,W.cell? ⟨w.heap.size,q,none⟩=#[Value.int .i64 al,.int .i64 s.st,.slice A n c,.int .i64 p.al,.slice B m d,.slice B' m' d',.int .i64 L][q]?:=fun W hW q=>by rw [(((b1.ext hx2).frm t oM).ext hW).cell,C.out]
   have CI:∀ W,Ext wr W->W.cell? ⟨g0,i,none⟩=some (.int .i64 (x:Nat)):=fun W hW=>hW.aa cI;obtain⟨j,hj⟩:∃ j,Hid (aGo p i l=j):=⟨_,rfl⟩;have an:j<N:=by rw [← hj.out,J.out];exact zdc hp (by rw [← J.out];exact hlt) hl
   have av:(j:Int)<(N:Int):=oM;obtain⟨v,H⟩:∃ v,Hid (O.getD j 0=v):=⟨_,rfl⟩;obtain⟨y,hy⟩:∃ y,Hid (mset s x l=y):=⟨_,rfl⟩;obtain⟨u,hu⟩:∃ u,Hid (v|||y=u):=⟨_,rfl⟩;have az:v<65536:=by rw [← H.out];exact zbx hO.out.lt j
   have aA:y<65536:=by rw [← hy.out];exact mset_lt D X l
   have ao:=zaV (a:=v) (b:=y) tM tM;rw [hu.out] at ao;have CJ:∀ W,Ext wr W->W.cell? ⟨r,j,none⟩=some (.int .i64 (v:Nat)):=fun W hW=>hW.aa (H.out ▸ zcB f an);have FJ:∀ W,Ext wr W->W.frozen? ⟨r,j,none⟩=false:=fun W hW=>(zg f hW).frozenAt j;have g:=hO.out.step D hp J.out HT.out.2.1 hlt hl;rw [hj.out,H.out,hx.out,hy.out,hu.out] at g;have o:=za g;have M:=za (fun W (hW:Ext wr W)=>((zg f hW).stored j (.int .i64 (u:Nat))).1);have aH:=dB wr;clear g k1 cI;cases hb:al.testBit l
   ·have Hb:=za hb;have I:x=y:=by rw [← hy.out];unfold mset;rw [U.out,hb];rfl
    subst I;clear hb;go_wp2_with (first
     |(go_at_call 140;refine (zae al l tM _ oM).mono ?_;rw [Hb.out];rintro e w' ⟨rfl,rfl⟩)
     |(go_at_call 222;refine (zds (HP.out _ h) hp (by rw [← J.out];exact hlt) hl).mono ?_;rw [hj.out];rintro e w4 ⟨rfl,E⟩))
    have z:=M.out w4 E;rw [← zgr] at z;go_roundw
    case rel=>exact⟨i+1,O.set j u,gM,oM,o,z,(t.ext E).trans (eC _ r j _)⟩
    case measure=>simp [intOf];omega
   ·have Hb:=za hb;have I:Hid (zbU s.edges x (l:Int)=y):=by unfold Hid;rw [← hy.out];unfold mset;rw [U.out,hb];rfl
    clear hb;go_wp2_with (first
     |(go_at_call 140;refine (zae al l tM _ oM).mono ?_;rw [Hb.out];rintro e w' ⟨rfl,rfl⟩)
     |(go_at_call 221;rw [← C.out];refine (zhd (c:=c) (k0:=s.st.toNat) (HS.out _ h) D.2.2.1 (oH D.2.1) tM).mono ?_;rw [I.out];rintro e w3 ⟨rfl,Y⟩;have Z:=h.trans Y)
     |(go_at_call 222;refine (zds (HP.out _ Z) hp (by rw [← J.out];exact hlt) hl).mono ?_;rw [hj.out];rintro e w4 ⟨rfl,E⟩;have F:=Y.trans E))
    have z:=M.out w4 F;rw [← zgr] at z;go_roundw
    case rel=>exact⟨i+1,O.set j u,gM,oM,o,z,(t.ext F).trans (eC _ r j _)⟩
    case measure=>simp [intOf];omega
  ·obtain rfl:i=N:=oM;have zjf:=hO.out.fin HT.out;go_wp2_with fail
   refine (zga (c:=c) (d:=d) (d':=d') (HS.out _ h) (HP.out _ h) hv hp hL J.out oM f zjf).mono ?_;rintro e w4 ⟨T',rfl,G,ak,R⟩;go_wp2_with fail
   go_ret;exact⟨T',r,i,rfl,zr G oM,ak,h.frm R (fun k hk e=>oM)⟩
end
noncomputable def zo (s:Sys) (p:Aut) (L:Nat) (t:ByteArray):Bool:=by
 classical exact inB t L&&decide (SafeW s p L (wl t))
theorem zea {s:Sys}  {L:Nat} {t:ByteArray}:zo s p L t=true↔inB t L=true∧SafeW s p L (wl t):=by
 unfold zo;simp
section
variable {w:World} {lo hi n c m d m' d' L:Nat} {A B B':Option Addr} {s:Sys} {p:Aut}
theorem spec_l9Bad (hP:zC w lo hi B m B' m' p)(hp:zj p=true)(hN:N=p.next.length)
  (zjc:w.ownsRow b0 3 1 (.slice (some g0) N c0) N (zU T)) :
  Calls Tryz.prog 145 #[.agg #[s.al,s.st,.slice A n c,p.al,.slice B m d,.slice B' m' d',L],.slice (some g0) N c0] w fun e w'=>e=.returned (.bool (badT p T N))∧Ext w w':=by
 have o:1<=N∧N<=12:=by have:=(zk hp).2.1;omega
 have k:m'=N:=by rw [hP.n2,(zk hp).2.2.1,hN]
 have u:=za (fun W (hW:Ext w W) q hq=>zeV (q:=q) (hP.ext hW) hq);obtain⟨t,U0⟩:∃ x,Hid (w.alloc (.cells #[s.al,s.st,.slice A n c,p.al,.slice B m d,.slice B' m' d',L] 96)=x):=⟨_,za rfl⟩;have b:Ext w t:=((dB _).alloc _).trans (Ext.eq_ U0.out);have v:=Ext.bl_ U0.out;subst k;clear hP hN
 go_enter Tryz.func145,Tryz.ntmps145
 go_upto_region 1 with fail
 rw [U0.out] at *;have D:=v.cell;go_wp2_with fail
 go_loop [5] (fun iv=>∃ i:Nat,iv=.int .i64 i∧i<=m'∧Hid (∀ j,j<i->T.getD j 0=0∨zck p j=true)) (fun iv=>m' - (intOf iv).toNat)
 case atStart=>exact⟨0,rfl,eD _,za (fun j h=>oM)⟩
 case round =>
  obtain⟨i,rfl,hi,a⟩:=hrel
  by_cases hlt:i<m'
  ·have r:(i:Int)<(m':Int):=oM;obtain⟨C,rfl,l⟩:=u.out t b i hlt;have y:=zcB (zg zjc b) hlt;obtain⟨x,hx⟩:∃ x,Hid (T.getD i 0=x):=⟨_,rfl⟩;rw [hx.out] at y
   by_cases h0:x=0
   ·subst h0;go_wp2_with fail
    go_round
    case rel=>exact⟨i+1,gM,oM,za (fun j hj=>by
     rcases e6 (fT hj) with h1|rfl
     ·exact a.out j h1
     ·exact .inl hx.out)⟩
    case measure=>simp [intOf];omega
   ·have z:((x:Int) != 0)=true:=by simp;omega
    cases zjd:zck p i
    ·have g:=za (show badT p T m'=true from zij.2 ⟨i,hlt,by rw [hx.out];exact h0,zjd⟩);rw [zjd] at l;clear zjd h0;go_wp2_with fail
     go_ret;exact⟨zm (by rw [g.out]),b⟩
    ·have f:=za zjd;rw [zjd] at l;clear zjd h0;go_wp2_with fail
     go_round
     case rel=>exact⟨i+1,gM,oM,za (fun j hj=>by
      rcases e6 (fT hj) with h1|rfl
      ·exact a.out j h1
      ·exact .inr f.out)⟩
     case measure=>simp [intOf];omega
  ·obtain rfl:i=m':=oM;have g:=za (show badT p T i=false by
    rw [fQ];intro h;obtain⟨j,h1,h2,h3⟩:=zij.1 h;rcases a.out j h1 with h4|h4
    ·exact h2 h4
    ·rw [h3] at h4;cases h4)
   go_wp2_with fail
   go_ret;exact⟨zm (by rw [g.out]),b⟩
theorem zex (hS:zN w lo hi A n s)(hP:zC w lo hi B m B' m' p)(hv:zl s=true)(hp:zj p=true)(hL:L<64) :
  Calls Tryz.prog 142 #[.agg #[s.al,s.st,.slice A n c,p.al,.slice B m d,.slice B' m' d',L]] w fun e w'=>e=.returned (.bool true)∧Ext w w':=by
 have j:=za (fun W (hW:Ext w W)=>zay (c:=c) (hS.ext hW));have i:=za (fun W (hW:Ext w W)=>zQ _ _ _ _ d _ _ d' _ _ (hP.ext hW));rw [hv] at j;rw [hp] at i;have g:=za (show (decide ((0:Int)<=L∧(L:Int)<=63))=true by simp;omega);clear hS hP hv hp
 go_enter Tryz.func142,Tryz.ntmps142
 go_upto_region 1 with fail
 generalize U0:w.alloc _=o at *;obtain⟨a,k⟩:=gX U0;clear U0;have q:=k.cells;have l:=dB o;go_wp2_with (first
  |(go_at_call 199;refine (j.out _ a).mono (mQ fun r b=>?_))
  |(go_at_call 200;refine (i.out _ (a.trans b)).mono (mQ fun t h=>?_);have f:=b.trans h)
  |(go_at_call 139;refine (zV _ _).mono ?_;rw [g.out];rintro e u ⟨rfl,rfl⟩))
 go_ret;exact⟨rfl,a.trans f⟩
theorem zik (h:zbi T N (PR s p L (v.take k))):badT p T N=true↔Bad s p L (v.take k):=zij.trans (stand_bad h).symm
theorem zdB {t:ByteArray}(hS:zN w lo hi A n s)(hP:zC w lo hi B m B' m' p)(hv:zl s=true)(hp:zj p=true)(hL:L<64)(hhi:hi<=w.heap.size)(ht:t.size<=9223372036854775807) :
  Calls Tryz.prog 75 #[.agg #[s.al,s.st,.slice A n c,p.al,.slice B m d,.slice B' m' d',L],t] w fun e w'=>e=.returned (.bool (zo s p L t))∧Ext w w':=by
 obtain⟨N,Y⟩:∃ N,Hid (N=p.next.length):=⟨_,rfl⟩;have HV:=za (fun W (hW:Ext w W)=>zex (c:=c) (d:=d) (d':=d') (L:=L) (hS.ext hW) (hP.ext hW) hv hp hL);have U:=za (fun W (hW:Ext w W)=>spec_l9Start (c:=c) (d:=d) (d':=d') (L:=L) (N:=N) (hS.ext hW) (hP.ext hW) hv hp hL (eJ hhi hW.size) Y.out);have R:=za (fun (g0 z c0:Nat) (T:List Nat) W (hW:Ext w W) (ho:W.ownsRow z 3 1 (.slice (some g0) N c0) N (zU T))=>spec_l9Bad (A:=A) (n:=n) (c:=c) (d:=d) (d':=d') (L:=L) (s:=s) (hP.ext hW) hp Y.out ho);have HM:=za (fun (l g0 z c0:Nat) (T:List Nat) (Q:Nat->Nat->Prop) W (hW:Ext w W) (I:l<6) (ho:W.ownsRow z 3 1 (.slice (some g0) N c0) N (zU T)) (u:zbi T N Q)=>spec_l9Move (c:=c) (d:=d) (d':=d') (L:=L) (hS.ext hW) (hP.ext hW) hv hp hL (eJ hhi hW.size) Y.out I ho u);have a:Ext w (w.alloc (.cells #[s.al,s.st,.slice A n c,p.al,.slice B m d,.slice B' m' d',L] 96)):=(dB _).alloc _;have b1:=Blk.new w 96 #[s.al,s.st,.slice A n c,p.al,.slice B m d,.slice B' m' d',L];clear hS hP;cases hin:inB t L
 ·have r:=za hin;have zjf:=za (show zo s p L t=false by rw [fQ];intro h;have:=(zea.1 h).1;rw [hin] at this;cases this);clear hin
  go_enter Tryz.func75,Tryz.ntmps75
  go_upto_region 1 with fail
  generalize w.alloc _=O at *;have CB:=b1.cells;have ae:=dB O;go_wp2_with (first
   |(go_at_call 142;refine (HV.out _ a).mono (mQ fun w2 o=>?_))
   |(go_at_call 143;refine (zaN ht oM).mono ?_;rw [r.out];rintro e w3 ⟨rfl,rfl⟩))
  go_ret;exact⟨zm (by rw [zjf.out]),a.trans o⟩
 ·have r:=za hin;have X:=za (fun k Z=>zaF (zaJ hin) (k:=k) Z);clear hin
  go_enter Tryz.func75,Tryz.ntmps75
  go_upto_region 1 with fail
  generalize w.alloc _=O at *;have CB:=b1.cells;have ae:=dB O;go_wp2_with (first
   |(go_at_call 142;refine (HV.out _ a).mono (mQ fun w2 o=>?_))
   |(go_at_call 143;refine (zaN ht oM).mono ?_;rw [r.out];rintro e w3 ⟨rfl,rfl⟩)
   |(go_at_call 144;refine (U.out _ (a.trans o)).mono ?_;rintro e w4 ⟨T,g,F,rfl,zjc,u,M⟩;have y:=o.trans M))
  go_loopw [5,6] (fun v iv wr=>∃ (k g z F:Nat) (T:List Nat),iv=.int .i64 k∧k<=t.size∧v=.slice (some g) N F∧wr.ownsRow z 3 1 (.slice (some g) N F) N (zU T)∧Hid (zbi T N (PR s p L ((wl t).take k)))∧Hid (∀ j,j<k->¬ Bad s p L ((wl t).take j))∧Ext O wr) (fun _ iv _=>t.size - (intOf iv).toNat)
  case atStart=>exact⟨0,g,_,F,T,rfl,eD _,rfl,zjc,za (by simpa using u),za (fun j h=>oM),y⟩
  case round =>
   clear zjc u o M y;obtain⟨k,g,z,F,T,rfl,Z,rfl,zjc,u,i,b⟩:=hrel
   by_cases hlt:k<t.size
   ·have ai:(k:Int)<(t.size:Int):=oM;obtain⟨l,I⟩:∃ l:Nat,Hid ((t[k].toNat:Int) - 97=l):=⟨t[k].toNat - 97,by unfold Hid;have:=X.out k hlt;omega⟩;have aa:l<6:=by have:=I.out;have:=X.out k hlt;omega
    have ad:=za (show (wl t).take (k+1)=(wl t).take k++[l] by rw [eH,zdK hlt,e7,show t[k].toNat - 97=l by have:=I.out;have:=X.out k hlt;omega]);cases hbad:badT p T N
    ·have f:=za hbad;have ab:=za (show ¬ Bad s p L ((wl t).take k) by rw [← zik u.out,hbad];decide);clear hbad;go_wp2_with (first|(go_at_call 145;refine (R.out _ _ _ _ _ (a.trans b) zjc).mono ?_;rw [f.out];rintro e w5 ⟨rfl,x⟩;have q:=b.trans x))
     have G:=za (fun W (hW:Ext wr W)=>HM.out l g z F T _ W ((a.trans b).trans hW) aa (zg zjc hW) u.out);have S:=fun W (hW:Ext wr W)=>CB W (b.trans hW)
     go_region_held3 (fun W=>Ext wr W) (first|assumption|(refine fW ?_;assumption)|(refine e8 ?_ aM;assumption)|(refine e8 ?_ aM;refine fW ?_;assumption)) (first
      |(go_at_call 141;refine (zbR t k hlt _).mono ?_;rw [I.out];rintro e w6 ⟨rfl,rfl⟩)
      |(go_at_call 146;refine (G.out _ ?_).mono ?_;(first|assumption|(refine fW ?_;assumption));rintro e w7 ⟨T7,g7,c7,rfl,D,C,aq⟩))
     have J:Ext O w7:=b.trans aM;rw [← PR_snoc,← ad.out] at C;have V:=za C;clear C G S;go_wp2_with fail
     go_roundw
     case rel=>exact⟨k+1,g7,_,c7,T7,gM,oM,rfl,D,V,za (fun j hj=>by
      rcases e6 (fT hj) with h1|rfl
      ·exact i.out j h1
      ·exact ab.out),J⟩
     case measure=>simp [intOf];omega
    ·have f:=za hbad;have zjf:=za (show zo s p L t=false by
      rw [fQ];intro h;exact (zea.1 h).2 k (by rw [zfz];omega) ((zik u.out).1 hbad))
     clear hbad;go_wp2_with (first
      |(go_at_call 145;with_reducible refine (R.out _ _ _ _ _ (a.trans b) zjc).mono ?_;rw [f.out];rintro e w5 ⟨rfl,x⟩;have q:=b.trans x)
      |(go_at_call 145;refine (R.out _ _ _ _ _ (a.trans q) (zg zjc x)).mono ?_;rw [f.out];rintro e w6 ⟨rfl,E⟩))
     go_ret;exact⟨zm (by rw [zjf.out]),a.trans (q.trans E)⟩
   ·have H:k=t.size:=oM;have ap:(t.size:Int)<=(k:Int):=oM;have zjf:=za (show zo s p L t=!badT p T N by
     rw [iJ,zea,iG,← Bool.not_eq_true,zik u.out];constructor
     ·intro h;exact h.2 k (by rw [zfz];omega)
     ·intro h;refine⟨r.out,fun j hj=>?_⟩;rw [zfz] at hj;rcases e6 hj with h1|rfl
      ·exact i.out j oM
      ·rw [H] at h;exact h)
    clear H hlt Z;go_wp2_with (first
     |(go_at_call 145;refine (R.out _ _ _ _ _ (a.trans b) zjc).mono (mQ fun w6 E=>?_)))
    go_ret;exact⟨zm (by rw [zjf.out]),a.trans (b.trans E)⟩
end
theorem zq:(Tryz.prog.info? 9).map (fun i=>(i.zero,i.size,i.bytes))=some (some (.string ⟨#[]⟩),1,16):=kM
theorem cells_str (x:ByteArray):∀ u∈(#[Value.string x]:Array Value).toList,u.oneCell'=true:=by simp [Value.oneCell']
theorem Reads.str {l:List ByteArray}(h:Reads w lo hi 1 A n (zL l))(hk:k<n):∃ ad x,A=some ad∧lo<=ad.block∧ad.block<hi∧Hid (l[k]?=some x)∧w.cell? (ad.add k)=some (.string x):=by
 obtain⟨ad,u,e,h1,h2,b,a⟩:=h.one hk;have:=b.out;simp only [zL,eL,Option.map_eq_some_iff] at this;obtain⟨x,hx,rfl⟩:=this;exact⟨ad,x,e,h1,h2,hx,a⟩
end Go.Proofs.YtcfchopfijalpaaGreatDoor
