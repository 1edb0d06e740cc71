/- The program' -/
import Derived.Test.YtfcjhpodichpjaaGreatDoorQ09
set_option maxHeartbeats 4000000
set_option maxRecDepth 100000
namespace Go.Proofs.YtfcjhpodichpjaaGreatDoor
open Go Go.RowKit
open Blk renaming new->dT
open Bool renaming and_eq_true->dF
open Ext renaming drew->eR,refl->cW,trans->eE,x1_->fY,x3_->jE
open List renaming getD_eq_getElem?_getD->dI,getElem?_eq_getElem->dC,getElem?_eq_none->dZ,getElem?_of_mem->dX,getElem?_set_ne->fK,getElem?_set_self->eV,mem_cons_of_mem->iD,mem_cons_self->i6,mem_of_getElem?->cX,mem_of_mem_take->gK,mem_or_eq_of_mem_set->eY,mem_replicate->i7,replicate->dN,take_add_one->dH,take_of_length_le->dG
open Nat renaming le_of_lt_succ->gG,le_refl->cY,lt_of_lt_of_le->eH,lt_or_eq_of_le->eU,or_lt_two_pow->eJ,pow_le_pow_right->dV,zero_le->dD
open Option renaming getD_some->fW,toList_some->eD
variable {G N base c g i j k l n q:Nat} {T ls:List Nat} {W W' w w0:World} {al st:Int} {es:List Edg} {p:Aut} {s t:Sys} {v:Value}
section
variable {lo hi n c:Nat} {A:Option Addr} {s:Sys} {lo1 hi1 m1 d1 m1' d1':Nat} {B B':Option Addr} {a:Aut} {lo2 hi2 m2 d2 m2' d2':Nat} {C C':Option Addr} {p:Aut} {w:World}
theorem zeB (h:zR w lo hi A n s)(ha:zI w lo1 hi1 B m1 B' m1' a)(hp:zI w lo2 hi2 C m2 C' m2' p)(hT:Tab w) :
  Calls Tryz.prog 137 #[.agg #[s.al,s.st,.slice A n c],.agg #[a.al,.slice B m1 d1,.slice B' m1' d1'],.agg #[p.al,.slice C m2 d2,.slice C' m2' d2']] w fun e w'=>e=.returned (.tuple #[.string (zbR s a p),.bool (zbQ s a p)])∧Ext w w':=by
 have HT:=za (fun W (hW:Ext w W)=>hT.ext hW);have i:=za (fun W (hW:Ext w W)=>h.ext hW);have f:=za (fun W (hW:Ext w W)=>ha.ext hW);have g:=za (fun W (hW:Ext w W)=>hp.ext hW);have HS:=za (fun W (hW:Ext w W)=>zaq (c:=c) (h.ext hW));have HA:=za (fun W (hW:Ext w W)=>zF _ _ _ _ d1 _ _ d1' _ _ (ha.ext hW));have HP:=za (fun W (hW:Ext w W)=>zF _ _ _ _ d2 _ _ d2' _ _ (hp.ext hW));clear h ha hp hT;have hw1:Ext w (((w.alloc (.cells #[s.al,s.st,.slice A n c] 39)).alloc (.cells #[a.al,.slice B m1 d1,.slice B' m1' d1'] 26)).alloc (.cells #[p.al,.slice C m2 d2,.slice C' m2' d2'] 26)):=(((cW w).alloc _).alloc _).alloc _;obtain⟨b1,b2,b3⟩:=zN (cW (((w.alloc (.cells #[s.al,s.st,.slice A n c] 39)).alloc (.cells #[a.al,.slice B m1 d1,.slice B' m1' d1'] 26)).alloc (.cells #[p.al,.slice C m2 d2,.slice C' m2' d2'] 26)))
 by_cases hT:zcE s a p=true
 ·have hr:=za (show zbR s a p=vioW [s] a p∧zbQ s a p=vioB [s] a p by unfold zbR zbQ;rw [hT];exact⟨rfl,sM⟩);unfold zcE at hT;simp only [dF] at hT;obtain⟨o,u,v⟩:=hT;have l:=za (show zE [s]=true by simp [zE,o]);have z:=za o;have q:=za u;have r:=za v;clear o u v
  go_enter Tryz.func137,Tryz.ntmps137
  go_upto_region 1 with fail
  generalize ((w.alloc _).alloc _).alloc _=w1 at *;have c1:=b1.cell;go_upto_region 3 with (first
   |(go_at_call 41;with_reducible refine (HS.out _ hw1).mono ?_;rw [z.out];rintro e w2 ⟨rfl,hx2⟩;have hw2:=hw1.trans hx2;have c2:=(b2.ext hx2).cell)
   |(go_at_call 24;with_reducible refine (HA.out _ hw2).mono ?_;rw [q.out];rintro e w3 ⟨rfl,hx3⟩;have hw3:=hw2.trans hx3;have c3:=(b3.ext (hx2.trans hx3)).cell)
   |(go_at_call 24;with_reducible refine (HP.out _ hw3).mono ?_;rw [r.out];rintro e w4 ⟨rfl,hx4⟩;have hw4:=hw3.trans hx4))
  have hx14:=hx2.trans (hx3.trans hx4);have E:=(b1.ext hx14).cell;have t:=dT w4 39 #[s.al,s.st,.slice A n c];have j:=(cW w4).alloc (.cells #[s.al,s.st,.slice A n c] 39);have F:=(b3.ext (hx14.trans j)).cell;have d:=b2.ext (hx14.trans j);have hw5:=hw4.trans j;obtain⟨l1,h1,hsl⟩:=sl_one t (i.out _ hw5);have HF:=za (zfX (c:=1) (d2:=d2) (d2':=d2') hsl l.out (HT.out _ hw5) d (f.out _ hw5) q.out (g.out _ hw5) r.out);clear c1 c2 c3 b1 b2 b3 hsl t d;go_wp2_with (go_at_call 168;refine HF.out.mono ?_;rintro e G D;obtain⟨rfl,m⟩:=D.first (zdf _))
  go_ret2;exact⟨by rw [hr.out.1,hr.out.2];rfl,hw5.trans m⟩
 ·have b:zcE s a p=false:=by simpa using hT
  have hr:=za (show zbR s a p=ByteArray.empty∧zbQ s a p=false by unfold zbR zbQ;rw [b];exact⟨rfl,rfl⟩);have k:=za (show (zl s&&(zh a&&zh p))=false from b);clear hT b;cases h1:zl s<;>cases h2:zh a<;>cases h3:zh p
  all_goals first
   |(exfalso;have:=k.out;rw [h1,h2,h3] at this;cases this;done)
   |(have H1:=za h1
     have x:=za h2;have y:=za h3;clear h1 h2 h3
     go_enter Tryz.func137,Tryz.ntmps137
     go_upto_region 1 with fail
     generalize ((w.alloc _).alloc _).alloc _=w1 at *;have c1:=b1.cell;go_wp2_with (first
      |(go_at_call 41;with_reducible refine (HS.out _ hw1).mono ?_;rw [H1.out];rintro e w2 ⟨rfl,hx2⟩;have hw2:=hw1.trans hx2;have c2:=(b2.ext hx2).cell)
      |(go_at_call 24;with_reducible refine (HA.out _ hw2).mono ?_;rw [x.out];rintro e w3 ⟨rfl,hx3⟩;have hw3:=hw2.trans hx3;have c3:=(b3.ext (hx2.trans hx3)).cell)
      |(go_at_call 24;with_reducible refine (HP.out _ hw3).mono ?_;rw [y.out];rintro e w4 ⟨rfl,hx4⟩;have hw4:=hw3.trans hx4))
     go_ret2;exact⟨by rw [hr.out.1,hr.out.2];rfl,by first|exact hw4|exact hw3|exact hw2⟩)
theorem zgH (h:zR w lo hi A n s)(ha:zI w lo1 hi1 B m1 B' m1' a)(hp:zI w lo2 hi2 C m2 C' m2' p)(hT:Tab w) :
  Calls Tryz.prog 92 #[.agg #[s.al,s.st,.slice A n c],.agg #[a.al,.slice B m1 d1,.slice B' m1' d1'],.agg #[p.al,.slice C m2 d2,.slice C' m2' d2']] w fun e w'=>e=.returned (.bool (zeg s a p))∧Ext w w':=by
 have HV:=za (fun W (hW:Ext w W)=>zeB (c:=c) (d1:=d1) (d1':=d1') (d2:=d2) (d2':=d2') (h.ext hW) (ha.ext hW) (hp.ext hW) (hT.ext hW));have HS:=za (fun W (hW:Ext w W)=>zaq (c:=c) (h.ext hW));have HA:=za (fun W (hW:Ext w W)=>zF _ _ _ _ d1 _ _ d1' _ _ (ha.ext hW));have HP:=za (fun W (hW:Ext w W)=>zF _ _ _ _ d2 _ _ d2' _ _ (hp.ext hW));have hr:=za (show zeg s a p=((zl s&&(zh a&&zh p))&&!zbQ s a p) from zfQ s a p);clear h ha hp hT;generalize zbQ s a p=j at *;generalize zbR s a p=k at *;have hw1:Ext w (((w.alloc (.cells #[s.al,s.st,.slice A n c] 39)).alloc (.cells #[a.al,.slice B m1 d1,.slice B' m1' d1'] 26)).alloc (.cells #[p.al,.slice C m2 d2,.slice C' m2' d2'] 26)):=(((cW w).alloc _).alloc _).alloc _;obtain⟨b1,b2,b3⟩:=zN (cW (((w.alloc (.cells #[s.al,s.st,.slice A n c] 39)).alloc (.cells #[a.al,.slice B m1 d1,.slice B' m1' d1'] 26)).alloc (.cells #[p.al,.slice C m2 d2,.slice C' m2' d2'] 26)));cases h1:zl s<;>cases h2:zh a<;>cases h3:zh p<;>cases j
 all_goals
  have H1:=za h1;have b:=za h2;have d:=za h3;clear h1 h2 h3
  go_enter Tryz.func92,Tryz.ntmps92
  go_upto_region 1 with fail
  generalize ((w.alloc _).alloc _).alloc _=w1 at *;have c1:=b1.cell;have c2:=b2.cell;have c3:=b3.cell;go_wp2_with (first
   |(go_at_call 137;refine (HV.out _ hw1).mono (mQ fun w2 hx2=>?_);have hw2:=hw1.trans hx2;have f:=(b1.ext hx2).cell)
   |(go_at_call 41;with_reducible refine (HS.out _ hw2).mono ?_;rw [H1.out];rintro e w3 ⟨rfl,hx3⟩;have hw3:=hw2.trans hx3;have g:=(b2.ext (hx2.trans hx3)).cell)
   |(go_at_call 24;with_reducible refine (HA.out _ hw3).mono ?_;rw [b.out];rintro e w4 ⟨rfl,hx4⟩;have hw4:=hw3.trans hx4;have i:=(b3.ext (hx2.trans (hx3.trans hx4))).cell)
   |(go_at_call 24;with_reducible refine (HP.out _ hw4).mono ?_;rw [d.out];rintro e w5 ⟨rfl,hx5⟩;have hw5:=hw4.trans hx5))
  go_ret;exact⟨zj (by rw [hr.out,H1.out,b.out,d.out];rfl),by first|exact hw5|exact hw4|exact hw3⟩
variable {k:Nat} {ss:List Sys}
theorem zeA (h:zet w lo hi A k ss)(hp:zI w lo2 hi2 C m2 C' m2' p)(hT:Tab w) :
  Calls Tryz.prog 169 #[.slice A k c,.agg #[p.al,.slice C m2 d2,.slice C' m2' d2']] w fun e w'=>e=.returned (.tuple #[.string (zaT ss p),.bool (zcg ss p)])∧Ext w w':=by
 have HS:=za (fun W (hW:Ext w W)=>h.ext hW);have HP:=za (fun W (hW:Ext w W)=>hp.ext hW);have HT:=za (fun W (hW:Ext w W)=>hT.ext hW);clear h hp hT;have hw1:Ext w (w.alloc (.cells #[p.al,.slice C m2 d2,.slice C' m2' d2'] 26)):=(cW w).alloc _;have b1:=dT w 26 #[p.al,.slice C m2 d2,.slice C' m2' d2'];cases hA:zE ss
 ·have hr:=za (show zaT ss p=ByteArray.empty∧zcg ss p=false by unfold zaT zcg zdt;rw [hA];exact⟨rfl,rfl⟩);have HA:=za hA;clear hA
  go_enter Tryz.func169,Tryz.ntmps169
  go_upto_region 1 with fail
  generalize w.alloc _=w1 at *;go_wp2_with (go_at_call 86;refine (zaC (HS.out _ hw1)).mono ?_;rw [HA.out];rintro e w2 ⟨rfl,hx2⟩)
  go_ret2;exact⟨by rw [hr.out.1,hr.out.2];rfl,hw1.trans hx2⟩
 ·cases hV:zh p
  ·have hr:=za (show zaT ss p=ByteArray.empty∧zcg ss p=false by unfold zaT zcg zdt;rw [hA,hV];exact⟨rfl,rfl⟩);have HV:=za hV;have HA:=za hA;clear hA hV
   go_enter Tryz.func169,Tryz.ntmps169
   go_upto_region 1 with fail
   generalize w.alloc _=w1 at *;go_wp2_with (first
    |(go_at_call 86;refine (zaC (HS.out _ hw1)).mono ?_;rw [HA.out];rintro e w2 ⟨rfl,hx2⟩;have hw2:=hw1.trans hx2;have c2:=(b1.ext hx2).cell)
    |(go_at_call 24;refine (zF _ _ _ _ _ _ _ _ _ _ (HP.out _ hw2)).mono ?_;rw [HV.out];rintro e w3 ⟨rfl,hx3⟩;have hw3:=hw2.trans hx3))
   go_ret2;exact⟨by rw [hr.out.1,hr.out.2];rfl,hw3⟩
  ·have hr:=za (show zaT ss p=vioW ss free p∧zcg ss p=vioB ss free p by unfold zaT zcg zdt;rw [hA,hV];exact⟨rfl,sM⟩);have HV:=za hV;have HA:=za hA;clear hA hV
   go_enter Tryz.func169,Tryz.ntmps169
   go_upto_region 1 with fail
   generalize w.alloc _=w1 at *;go_wp2_with (first
    |(go_at_call 86;refine (zaC (HS.out _ hw1)).mono ?_;rw [HA.out];rintro e w2 ⟨rfl,hx2⟩;have hw2:=hw1.trans hx2;have c2:=(b1.ext hx2).cell)
    |(go_at_call 24;refine (zF _ _ _ _ _ _ _ _ _ _ (HP.out _ hw2)).mono ?_;rw [HV.out];rintro e w3 ⟨rfl,hx3⟩;have hw3:=hw2.trans hx3;have c3:=(b1.ext (hx2.trans hx3)).cell)
    |(go_at_call 168;refine (zdV (c:=c) (d2:=d2) (d2':=d2') (HS.out _ hw3) HA.out (HT.out _ hw3) (HP.out _ hw3) HV.out).mono ?_;rintro e w4 a;obtain⟨rfl,hx4⟩:=a.first (zdf _)))
   go_ret2;exact⟨by rw [hr.out.1,hr.out.2];rfl,hw3.trans hx4⟩
theorem zhw (h:zet w lo hi A k ss)(hp:zI w lo2 hi2 C m2 C' m2' p)(hT:Tab w) :
  Calls Tryz.prog 138 #[.slice A k c,.agg #[p.al,.slice C m2 d2,.slice C' m2' d2']] w fun e w'=>e=.returned (.bool (zcO ss p))∧Ext w w':=by
 have HV:=za (fun W (hW:Ext w W)=>zeA (c:=c) (d2:=d2) (d2':=d2') (h.ext hW) (hp.ext hW) (hT.ext hW));have HS:=za (fun W (hW:Ext w W)=>h.ext hW);have HP:=za (fun W (hW:Ext w W)=>hp.ext hW);have hr:=za (show zcO ss p=(zE ss&&zh p&&!zcg ss p) from zgx ss p);clear h hp hT;generalize zcg ss p=b at *;generalize zaT ss p=d at *;have hw1:Ext w (w.alloc (.cells #[p.al,.slice C m2 d2,.slice C' m2' d2'] 26)):=(cW w).alloc _;have b1:=dT w 26 #[p.al,.slice C m2 d2,.slice C' m2' d2'];cases hA:zE ss<;>cases hVv:zh p<;>cases b
 all_goals
  have HA:=za (show zE ss=_ from hA);have a:=za hVv;clear hA hVv
  go_enter Tryz.func138,Tryz.ntmps138
  go_upto_region 1 with fail
  generalize w.alloc _=w1 at *;have c1:=b1.cell;go_wp2_with (first
   |(go_at_call 169;refine (HV.out _ hw1).mono (mQ fun w2 hx2=>?_);have hw2:=hw1.trans hx2)
   |(go_at_call 86;refine (zaC (HS.out _ hw2)).mono ?_;rw [HA.out];rintro e w3 ⟨rfl,hx3⟩;have hw3:=hw2.trans hx3;have c3:=(b1.ext (hx2.trans hx3)).cell)
   |(go_at_call 24;refine (zF _ _ _ _ _ _ _ _ _ _ (HP.out _ hw3)).mono ?_;rw [a.out];rintro e w4 ⟨rfl,hx4⟩;have hw4:=hw3.trans hx4))
  go_ret;exact⟨zj (by rw [hr.out,HA.out,a.out];rfl),by first|exact hw4|exact hw3⟩
theorem zeW (h:zR w lo hi A n s)(hp:zI w lo2 hi2 C m2 C' m2' p)(hT:Tab w) :
  Calls Tryz.prog 93 #[.agg #[s.al,s.st,.slice A n c],.agg #[p.al,.slice C m2 d2,.slice C' m2' d2']] w fun e w'=>e=.returned (.bool (zcO [s] p))∧Ext w w':=by
 have HS:=za (fun W (hW:Ext w W)=>h.ext hW);have HP:=za (fun W (hW:Ext w W)=>hp.ext hW);have HT:=za (fun W (hW:Ext w W)=>hT.ext hW);clear h hp hT
 go_enter Tryz.func93,Tryz.ntmps93
 go_upto_region 1 with fail
 generalize U0:(w.alloc _).alloc _=w1 at *;obtain⟨hw1,b1,b2⟩:=Ext.x2_ U0;clear U0;have c1:=b1.cell;have b:=dT w1 39 #[s.al,s.st,.slice A n c];have a:=(cW w1).alloc (.cells #[s.al,s.st,.slice A n c] 39);have c2:=(b2.ext a).cell;have hw2:=hw1.trans a;obtain⟨l1,h1,hsl⟩:=sl_one b (HS.out _ hw2);go_wp2_with (go_at_call 138;refine (zhw hsl (HP.out _ hw2) (HT.out _ hw2)).mono (mQ fun w3 hx3=>?_))
 go_ret;exact⟨zj rfl,hw2.trans hx3⟩
end
def three (ss:List Sys) (p:Aut):Bool:=decide (ss.length=3)&&(zE ss&&zh p)
def iface (s:Sys) (p:Aut) (t:Sys):Int:=if (zl s&&(zh p&&zl t))=true then (((s.al.toNat|||p.al.toNat)&&&t.al.toNat:Nat):Int) else -1
section
variable {lo hi n c:Nat} {A:Option Addr} {s:Sys} {lo1 hi1 m1 d1 m1' d1':Nat} {B B':Option Addr} {p:Aut} {lo2 hi2 k c2:Nat} {C:Option Addr} {t:Sys} {w:World}
theorem zaZ (h:zR w lo hi A n s)(hp:zI w lo1 hi1 B m1 B' m1' p)(ht:zR w lo2 hi2 C k t) :
  Calls Tryz.prog 45 #[.agg #[s.al,s.st,.slice A n c],.agg #[p.al,.slice B m1 d1,.slice B' m1' d1'],.agg #[t.al,t.st,.slice C k c2]] w fun e w'=>e=.returned (.int .i64 (iface s p t))∧Ext w w':=by
 have HS:=za (fun W (hW:Ext w W)=>zah (c:=c) (h.ext hW));have HP:=za (fun W (hW:Ext w W)=>zH _ _ _ _ d1 _ _ d1' _ _ (hp.ext hW));have HT:=za (fun W (hW:Ext w W)=>zah (c:=c2) (ht.ext hW));clear h hp ht;cases h1:zl s<;>cases h2:zh p<;>cases h3:zl t
 case true.true.true =>
  have H1:=za h1;have f:=za h2;have g:=za h3;have l:=zQ h1;have m:=(zk h2).1;have o:=zQ h3;obtain⟨a,i⟩:∃ a:Nat,Hid (s.al=a):=⟨s.al.toNat,by unfold Hid;omega⟩;obtain⟨b,j⟩:∃ a:Nat,Hid (p.al=a):=⟨p.al.toNat,by unfold Hid;omega⟩;obtain⟨d,hd⟩:∃ a:Nat,Hid (t.al=a):=⟨t.al.toNat,by unfold Hid;omega⟩;have hr:=za (show iface s p t=((((a|||b)&&&d:Nat)):Int) by unfold iface;rw [h1,h2,h3,i.out,j.out,hd.out];rfl);rw [i.out] at l;rw [j.out] at m;rw [hd.out] at o;have r:a<=63:=oM;have u:b<=63:=oM;have v:d<=63:=oM;have q:=eJ (n:=6) (x:=a) (y:=b) oM oM;have D:=zbz (a:=a) (b:=b) tM tM;have z:=zcn (a:=a|||b) (b:=d) tM tM;clear h1 h2 h3 l m o q;rw [i.out] at HS ⊢;rw [j.out] at HP ⊢;rw [hd.out] at HT ⊢
  go_enter Tryz.func45,Tryz.ntmps45
  go_upto_region 1 with fail
  generalize U0:((w.alloc _).alloc _).alloc _=w1 at *;obtain⟨hw1,b1,b2,b3⟩:=jE U0;clear U0;have c1:=b1.cell;go_wp2_with (first
   |(go_at_call 94;with_reducible refine (HS.out _ hw1).mono ?_;rw [H1.out];rintro e w2 ⟨rfl,hx2⟩;have hw2:=hw1.trans hx2;have c2:=(b2.ext hx2).cell)
   |(go_at_call 27;with_reducible refine (HP.out _ hw2).mono ?_;rw [f.out];rintro e w3 ⟨rfl,hx3⟩;have hw3:=hw2.trans hx3;have c3:=(b3.ext (hx2.trans hx3)).cell)
   |(go_at_call 94;with_reducible refine (HT.out _ hw3).mono ?_;rw [g.out];rintro e w4 ⟨rfl,hx4⟩;have hw4:=hw3.trans hx4;have E:=(b1.ext (hx2.trans (hx3.trans hx4))).cell;have F:=(b2.ext (hx2.trans (hx3.trans hx4))).cell;have G:=(b3.ext (hx2.trans (hx3.trans hx4))).cell))
  go_ret;exact⟨zD (by rw [hr.out]),hw4⟩
 all_goals
  have hr:=za (show iface s p t = -1 by unfold iface;rw [h1,h2,h3];rfl);have H1:=za h1;have f:=za h2;have g:=za h3;clear h1 h2 h3
  go_enter Tryz.func45,Tryz.ntmps45
  go_upto_region 1 with fail
  generalize U0:((w.alloc _).alloc _).alloc _=w1 at *;obtain⟨hw1,b1,b2,b3⟩:=jE U0;clear U0;have c1:=b1.cell;go_wp2_with (first
   |(go_at_call 94;with_reducible refine (HS.out _ hw1).mono ?_;rw [H1.out];rintro e w2 ⟨rfl,hx2⟩;have hw2:=hw1.trans hx2;have c2:=(b2.ext hx2).cell)
   |(go_at_call 27;with_reducible refine (HP.out _ hw2).mono ?_;rw [f.out];rintro e w3 ⟨rfl,hx3⟩;have hw3:=hw2.trans hx3;have c3:=(b3.ext (hx2.trans hx3)).cell)
   |(go_at_call 94;with_reducible refine (HT.out _ hw3).mono ?_;rw [g.out];rintro e w4 ⟨rfl,hx4⟩;have hw4:=hw3.trans hx4))
  go_ret;exact⟨zD (by rw [hr.out]),by first|exact hw4|exact hw3|exact hw2⟩
theorem zfV (h:zR w lo hi A n s)(hp:zI w lo1 hi1 B m1 B' m1' p)(ht:zR w lo2 hi2 C k t) :
  Calls Tryz.prog 91 #[.agg #[s.al,s.st,.slice A n c],.agg #[p.al,.slice B m1 d1,.slice B' m1' d1'],.agg #[t.al,t.st,.slice C k c2]] w fun e w'=>e=.returned (.int .i64 (iface s p t))∧Ext w w':=by
 have HS:=za (fun W (hW:Ext w W)=>zaq (c:=c) (h.ext hW));have HP:=za (fun W (hW:Ext w W)=>zF _ _ _ _ d1 _ _ d1' _ _ (hp.ext hW));have HT:=za (fun W (hW:Ext w W)=>zaq (c:=c2) (ht.ext hW));clear h hp ht;cases h1:zl s<;>cases h2:zh p<;>cases h3:zl t
 case true.true.true =>
  have H1:=za h1;have f:=za h2;have g:=za h3;have l:=zQ h1;have m:=(zk h2).1;have o:=zQ h3;obtain⟨a,i⟩:∃ a:Nat,Hid (s.al=a):=⟨s.al.toNat,by unfold Hid;omega⟩;obtain⟨b,j⟩:∃ a:Nat,Hid (p.al=a):=⟨p.al.toNat,by unfold Hid;omega⟩;obtain⟨d,hd⟩:∃ a:Nat,Hid (t.al=a):=⟨t.al.toNat,by unfold Hid;omega⟩;have hr:=za (show iface s p t=((((a|||b)&&&d:Nat)):Int) by unfold iface;rw [h1,h2,h3,i.out,j.out,hd.out];rfl);rw [i.out] at l;rw [j.out] at m;rw [hd.out] at o;have r:a<=63:=oM;have u:b<=63:=oM;have v:d<=63:=oM;have q:=eJ (n:=6) (x:=a) (y:=b) oM oM;have D:=zbz (a:=a) (b:=b) tM tM;have z:=zcn (a:=a|||b) (b:=d) tM tM;clear h1 h2 h3 l m o q;rw [i.out] at HS ⊢;rw [j.out] at HP ⊢;rw [hd.out] at HT ⊢
  go_enter Tryz.func91,Tryz.ntmps91
  go_upto_region 1 with fail
  generalize U0:((w.alloc _).alloc _).alloc _=w1 at *;obtain⟨hw1,b1,b2,b3⟩:=jE U0;clear U0;have c1:=b1.cell;go_wp2_with (first
   |(go_at_call 41;with_reducible refine (HS.out _ hw1).mono ?_;rw [H1.out];rintro e w2 ⟨rfl,hx2⟩;have hw2:=hw1.trans hx2;have c2:=(b2.ext hx2).cell)
   |(go_at_call 24;with_reducible refine (HP.out _ hw2).mono ?_;rw [f.out];rintro e w3 ⟨rfl,hx3⟩;have hw3:=hw2.trans hx3;have c3:=(b3.ext (hx2.trans hx3)).cell)
   |(go_at_call 41;with_reducible refine (HT.out _ hw3).mono ?_;rw [g.out];rintro e w4 ⟨rfl,hx4⟩;have hw4:=hw3.trans hx4;have E:=(b1.ext (hx2.trans (hx3.trans hx4))).cell;have F:=(b2.ext (hx2.trans (hx3.trans hx4))).cell;have G:=(b3.ext (hx2.trans (hx3.trans hx4))).cell))
  go_ret;exact⟨zD (by rw [hr.out]),hw4⟩
 all_goals
  have hr:=za (show iface s p t = -1 by unfold iface;rw [h1,h2,h3];rfl);have H1:=za h1;have f:=za h2;have g:=za h3;clear h1 h2 h3
  go_enter Tryz.func91,Tryz.ntmps91
  go_upto_region 1 with fail
  generalize U0:((w.alloc _).alloc _).alloc _=w1 at *;obtain⟨hw1,b1,b2,b3⟩:=jE U0;clear U0;have c1:=b1.cell;go_wp2_with (first
   |(go_at_call 41;with_reducible refine (HS.out _ hw1).mono ?_;rw [H1.out];rintro e w2 ⟨rfl,hx2⟩;have hw2:=hw1.trans hx2;have c2:=(b2.ext hx2).cell)
   |(go_at_call 24;with_reducible refine (HP.out _ hw2).mono ?_;rw [f.out];rintro e w3 ⟨rfl,hx3⟩;have hw3:=hw2.trans hx3;have c3:=(b3.ext (hx2.trans hx3)).cell)
   |(go_at_call 41;with_reducible refine (HT.out _ hw3).mono ?_;rw [g.out];rintro e w4 ⟨rfl,hx4⟩;have hw4:=hw3.trans hx4))
  go_ret;exact⟨zD (by rw [hr.out]),by first|exact hw4|exact hw3|exact hw2⟩
end
theorem zeS {w':World} {cs ds es fs:Array Value} {t u v x:TypeId}(h:Ext ((((w.alloc (.cells cs t)).alloc (.cells ds u)).alloc (.cells es v)).alloc (.cells fs x)) w'):Blk w' w.heap.size t cs∧Blk w' (w.heap.size+1) u ds∧Blk w' (w.heap.size+1+1) v es∧Blk w' (w.heap.size+1+1+1) x fs:=by
 have h2:=zN (((cW _).alloc _).trans h);refine⟨h2.1,h2.2.1,h2.2.2,?_⟩;have:=zaV h;simpa using this
noncomputable def zct (s t:Sys) (p a:Aut):Int:=if iface s p t<0∨zh a=false then 1 else if a.al≠iface s p t then 2 else if zeg s a p=false then 3 else if zcO [t] a=false then 4 else 0
section
variable {lo hi n c:Nat} {A:Option Addr} {s:Sys} {lo1 hi1 m1 d1 m1' d1':Nat} {B B':Option Addr} {p:Aut} {lo2 hi2 k c2:Nat} {C:Option Addr} {t:Sys} {w:World}
variable {lo3 hi3 m2 d2 m2' d2':Nat} {D D':Option Addr} {a:Aut}
theorem yQ10a5 {P:Prop}(h:P:=by
 go_enter Tryz.func47,Tryz.ntmps47
 go_upto_region 1 with fail
 generalize (((w.alloc _).alloc _).alloc _).alloc _=w1 at *;have c1:=b1.cell;have c2:=b2.cell;have c3:=b3.cell;go_wp2_with (first
  |(go_at_call 45;with_reducible refine (HI.out _ hw1).mono (mQ fun w2 hx2=>?_);have hw2:=hw1.trans hx2;have c42:=(b4.ext hx2).cell)
  |(go_at_call 27;with_reducible refine (HA.out _ hw2).mono ?_;rw [H1.out];rintro e w3 ⟨rfl,hx3⟩;have hx13:=hx2.trans hx3;have hw3:=hw1.trans hx13;have c13:=(b1.ext hx13).cell;have c33:=(b3.ext hx13).cell;have c43:=(b4.ext hx13).cell)
  |(go_at_call 97;with_reducible refine (HU.out _ hw3).mono (mQ fun w4 hx4=>?_);have hx14:=hx13.trans hx4;have hw4:=hw1.trans hx14;have c24:=(b2.ext hx14).cell;have c44:=(b4.ext hx14).cell)
  |(go_at_call 98;with_reducible refine (HK.out _ hw4).mono (mQ fun w5 hx5=>?_);have hw5:=hw4.trans hx5))
 go_ret;exact⟨zD (by rw [hr.out];try rfl),by first|exact hw5|exact hw4|exact hw3|exact hw2⟩
 ):P:=h
theorem zdW (h:zR w lo hi A n s)(ht:zR w lo2 hi2 C k t)(hp:zI w lo1 hi1 B m1 B' m1' p)(ha:zI w lo3 hi3 D m2 D' m2' a) :
  Calls Tryz.prog 47 #[.agg #[s.al,s.st,.slice A n c],.agg #[t.al,t.st,.slice C k c2],.agg #[p.al,.slice B m1 d1,.slice B' m1' d1'],.agg #[a.al,.slice D m2 d2,.slice D' m2' d2']] w fun e w'=>e=.returned (.int .i64 (zct s t p a))∧Ext w w':=by
 have HI:=za (fun W (hW:Ext w W)=>zaZ (c:=c) (d1:=d1) (d1':=d1') (c2:=c2) (h.ext hW) (hp.ext hW) (ht.ext hW));have HA:=za (fun W (hW:Ext w W)=>zH _ _ _ _ d2 _ _ d2' _ _ (ha.ext hW));have HU:=za (fun W (hW:Ext w W)=>zhd (c:=c) (d1:=d2) (d1':=d2') (d2:=d1) (d2':=d1') (h.ext hW) (ha.ext hW) (hp.ext hW));have HK:=za (fun W (hW:Ext w W)=>zff (c:=c2) (d2:=d2) (d2':=d2') (ht.ext hW) (ha.ext hW));have hr:=za (show zct s t p a=if iface s p t<0∨zh a=false then 1 else if a.al≠iface s p t then 2 else if zeg s a p=false then 3 else if zcO [t] a=false then 4 else 0 from rfl);clear h hp ht ha;have hw1:Ext w ((((w.alloc (.cells #[s.al,s.st,.slice A n c] 39)).alloc (.cells #[t.al,t.st,.slice C k c2] 39)).alloc (.cells #[p.al,.slice B m1 d1,.slice B' m1' d1'] 26)).alloc (.cells #[a.al,.slice D m2 d2,.slice D' m2' d2'] 26)):=((((cW w).alloc _).alloc _).alloc _).alloc _;obtain⟨b1,b2,b3,b4⟩:=zeS (cW ((((w.alloc (.cells #[s.al,s.st,.slice A n c] 39)).alloc (.cells #[t.al,t.st,.slice C k c2] 39)).alloc (.cells #[p.al,.slice B m1 d1,.slice B' m1' d1'] 26)).alloc (.cells #[a.al,.slice D m2 d2,.slice D' m2' d2'] 26)));generalize iface s p t=I at *;generalize zeg s a p=u at *;generalize zcO [t] a=v at *
 by_cases hI:I<0
 ·rw [if_pos (Or.inl hI)] at hr;obtain⟨y,H1⟩:∃ y,Hid (zh a=y):=⟨_,rfl⟩;have g:=za hI;exact yQ10a5
 have b:¬ I<0:=hI;have f:0<=I:=oM;clear hI;cases h1:zh a
 ·rw [h1,if_pos (Or.inr rfl)] at hr;have H1:=za h1;clear h1;exact yQ10a5
 rw [h1,if_neg (by rintro (h|h);exact b h;cases h)] at hr;have H1:=za h1;clear h1
 by_cases h2:a.al=I
 ·rw [if_neg (fun hn=>hn h2)] at hr;subst h2;cases u<;>cases v
  all_goals
   have i:=za (rfl:true=true);have j:=za (rfl:true=true);exact yQ10a5
 ·rw [if_pos h2] at hr;have d:(a.al==I)=false:=by simpa using h2
  exact yQ10a5
theorem yQ10a4 {P:Prop}(h:P:=by
 go_enter Tryz.func44,Tryz.ntmps44
 go_upto_region 1 with fail
 generalize (((w.alloc _).alloc _).alloc _).alloc _=w1 at *;have c1:=b1.cell;have c2:=b2.cell;have c3:=b3.cell;go_wp2_with (first
  |(go_at_call 91;with_reducible refine (HI.out _ hw1).mono (mQ fun w2 hx2=>?_);have hw2:=hw1.trans hx2;have c42:=(b4.ext hx2).cell)
  |(go_at_call 24;with_reducible refine (HA.out _ hw2).mono ?_;rw [H1.out];rintro e w3 ⟨rfl,hx3⟩;have hx13:=hx2.trans hx3;have hw3:=hw1.trans hx13;have c13:=(b1.ext hx13).cell;have c33:=(b3.ext hx13).cell;have c43:=(b4.ext hx13).cell)
  |(go_at_call 92;with_reducible refine (HU.out _ hw3).mono (mQ fun w4 hx4=>?_);have hx14:=hx13.trans hx4;have hw4:=hw1.trans hx14;have c24:=(b2.ext hx14).cell;have c44:=(b4.ext hx14).cell)
  |(go_at_call 93;with_reducible refine (HK.out _ hw4).mono (mQ fun w5 hx5=>?_);have hw5:=hw4.trans hx5))
 go_ret;exact⟨zD (by rw [hr.out];try rfl),by first|exact hw5|exact hw4|exact hw3|exact hw2⟩
 ):P:=h
theorem zdT (h:zR w lo hi A n s)(ht:zR w lo2 hi2 C k t)(hp:zI w lo1 hi1 B m1 B' m1' p)(ha:zI w lo3 hi3 D m2 D' m2' a)(hT:Tab w) :
  Calls Tryz.prog 44 #[.agg #[s.al,s.st,.slice A n c],.agg #[t.al,t.st,.slice C k c2],.agg #[p.al,.slice B m1 d1,.slice B' m1' d1'],.agg #[a.al,.slice D m2 d2,.slice D' m2' d2']] w fun e w'=>e=.returned (.int .i64 (zct s t p a))∧Ext w w':=by
 have HI:=za (fun W (hW:Ext w W)=>zfV (c:=c) (d1:=d1) (d1':=d1') (c2:=c2) (h.ext hW) (hp.ext hW) (ht.ext hW));have HA:=za (fun W (hW:Ext w W)=>zF _ _ _ _ d2 _ _ d2' _ _ (ha.ext hW));have HU:=za (fun W (hW:Ext w W)=>zgH (c:=c) (d1:=d2) (d1':=d2') (d2:=d1) (d2':=d1') (h.ext hW) (ha.ext hW) (hp.ext hW) (hT.ext hW));have HK:=za (fun W (hW:Ext w W)=>zeW (c:=c2) (d2:=d2) (d2':=d2') (ht.ext hW) (ha.ext hW) (hT.ext hW));have hr:=za (show zct s t p a=if iface s p t<0∨zh a=false then 1 else if a.al≠iface s p t then 2 else if zeg s a p=false then 3 else if zcO [t] a=false then 4 else 0 from rfl);clear h hp ht ha;have hw1:Ext w ((((w.alloc (.cells #[s.al,s.st,.slice A n c] 39)).alloc (.cells #[t.al,t.st,.slice C k c2] 39)).alloc (.cells #[p.al,.slice B m1 d1,.slice B' m1' d1'] 26)).alloc (.cells #[a.al,.slice D m2 d2,.slice D' m2' d2'] 26)):=((((cW w).alloc _).alloc _).alloc _).alloc _;obtain⟨b1,b2,b3,b4⟩:=zeS (cW ((((w.alloc (.cells #[s.al,s.st,.slice A n c] 39)).alloc (.cells #[t.al,t.st,.slice C k c2] 39)).alloc (.cells #[p.al,.slice B m1 d1,.slice B' m1' d1'] 26)).alloc (.cells #[a.al,.slice D m2 d2,.slice D' m2' d2'] 26)));generalize iface s p t=I at *;generalize zeg s a p=u at *;generalize zcO [t] a=v at *
 by_cases hI:I<0
 ·rw [if_pos (Or.inl hI)] at hr;obtain⟨y,H1⟩:∃ y,Hid (zh a=y):=⟨_,rfl⟩;have g:=za hI;exact yQ10a4
 have b:¬ I<0:=hI;have f:0<=I:=oM;clear hI;cases h1:zh a
 ·rw [h1,if_pos (Or.inr rfl)] at hr;have H1:=za h1;clear h1;exact yQ10a4
 rw [h1,if_neg (by rintro (h|h);exact b h;cases h)] at hr;have H1:=za h1;clear h1
 by_cases h2:a.al=I
 ·rw [if_neg (fun hn=>hn h2)] at hr;subst h2;cases u<;>cases v
  all_goals
   have i:=za (rfl:true=true);have j:=za (rfl:true=true);exact yQ10a4
 ·rw [if_pos h2] at hr;have d:(a.al==I)=false:=by simpa using h2
  exact yQ10a4
end
def zdE (p:Aut) (q:Nat) (ls:List Nat):Nat:=ls.foldl (aGo p) q
theorem zgX (p:Aut) (q:Nat) (ls:List Nat) (l:Nat):zdE p q (ls++[l])=aGo p (zdE p q ls) l:=by simp [zdE]
theorem runA_ltF (hv:Fit N p) (h:∀ l∈ls,l<6) (hq:q<p.next.length):zdE p q ls<p.next.length:=by
 induction ls generalizing q with
 |nil=>exact hq
 |cons l r ih=>exact ih (fun x hx=>h x (iD _ hx)) (aGo_ltF hv hq (h l i6))
theorem zgW (hv:zh p=true) (h:∀ l∈ls,l<6) (hq:q<p.next.length):zdE p q ls<p.next.length:=runA_ltF (fit_of hv) h hq
theorem runA_filter (p:Aut) (ls:List Nat) (q:Nat):zdE p q (ls.filter fun l=>p.al.toNat.testBit l)=zdE p q ls:=by
 induction ls generalizing q with
 |nil=>rfl
 |cons l r ih =>
  rw [List.filter_cons];show _=zdE p (aGo p q l) r;cases hb:p.al.toNat.testBit l
  ·have e:aGo p q l=q:=by unfold aGo;rw [hb];rfl
   rw [e];simpa using ih q
  ·simp only [if_true];exact ih (aGo p q l)
theorem zhW (s:ByteArray) (a:Nat):(zbj s a).data.toList=zeZ a s.data.toList:=by
 unfold zbj strOfNums bnum;simp only [List.map_map];refine (List.map_congr_left (g:=id) fun b _=>?_).trans (List.map_id _);simp
theorem wl_restB {s:ByteArray}(h:zaK s=true) (a:Nat):wl (zbj s a)=(wl s).filter fun l=>a.testBit l:=by
 unfold wl;rw [zhW];unfold zeZ;have c:∀ b∈s.data.toList,97<=b.toNat∧b.toNat<=102:=by
  intro b c;obtain⟨i,g⟩:=dX c;have d:i<s.size:=by have:=(List.getElem?_eq_some_iff.1 g).1;simpa using this
  rw [zbs s i d] at g;obtain rfl:=Option.some.inj g;exact zaQ h d
 generalize s.data.toList=L at c;clear h
 induction L with
 |nil=>rfl
 |cons b r f =>
  have j:=c b i6;have f:=f fun x hx=>c x (iD _ hx);have e:hasB a (ltr b.toNat)=a.testBit (b.toNat - 97):=by
   unfold hasB ltr;rw [if_neg oM,decide_eq_true oM,Bool.true_and]
   congr 1
   omega
  rw [List.filter_cons,List.map_cons,List.filter_cons,e];cases a.testBit (b.toNat - 97)
  ·simpa using f
  ·simp only [if_true,List.map_cons];rw [f]
theorem zgo {s:ByteArray}(h:zaK s=true) (a:Nat):inB (zbj s a) a=true:=by
 unfold inB zdD;rw [zhW,dF,decide_eq_true_eq];refine⟨Nat.le_trans (zfx s a) (zaR h),?_⟩;rw [List.all_eq_true];intro b hb;exact (List.mem_filter.1 hb).2
def zee (p:Aut) (t:ByteArray):Bool:=zh p&&(zaK t&&!zdr p (zdE p 0 (wl t)))
section
variable {lo hi m d m' d':Nat} {B B':Option Addr} {p:Aut} {t:ByteArray} {w:World}
theorem zhY (h:zI w lo hi B m B' m' p)(hv:zh p=true)(ht:zaK t=true) :
  Calls Tryz.prog 143 #[.agg #[p.al,.slice B m d,.slice B' m' d'],(0:Int),t] w fun e w'=>e=.returned (.int .i64 (zdE p 0 (wl t):Nat))∧Ext w w':=by
 have HS:=za (fun W (hW:Ext w W)=>h.ext hW);have G:=zaR ht;have D:=za (fun k C=>zaQ ht (k:=k) C);have F:=(zk hv).2.1;have E:=za hv;have g:=za (fun k=>zgW hv (ls:=(wl t).take k) (fun l f=>wl_lt ht l (gK f)) (q:=0) oM);clear h hv ht
 go_enter Tryz.func143,Tryz.ntmps143
 go_upto_region 1 with fail
 generalize U0:w.alloc _=w1 at *;obtain⟨hw1,b1⟩:=fY U0;clear U0;go_wp2_with fail
 go_loopw [1,7] (fun v i wr=>∃ k x:Nat,i=.int .i64 k∧k<=t.size∧v=.int .i64 x∧Hid (x=zdE p 0 ((wl t).take k))∧Ext w1 wr) (fun _ i _=>t.size - (intOf i).toNat)
 case atStart=>exact⟨0,0,rfl,dD _,rfl,rfl,cW _⟩
 case round =>
  obtain⟨k,x,rfl,C,rfl,c,a⟩:=hrel
  by_cases hlt:k<t.size
  ·have n:=D.out k hlt;obtain⟨l,f⟩:∃ l:Nat,Hid ((t[k].toNat:Int) - 97=l):=⟨t[k].toNat - 97,by unfold Hid;omega⟩;have o:l<6:=oH f.out;have r:=za (show aGo p x l=zdE p 0 ((wl t).take (k+1)) by
    rw [dH,zep hlt,eD,zgX,← c.out]
    congr 1
    have:=f.out;omega)
   have u:x<p.next.length:=by rw [c.out];exact g.out k
   have HC:=za (fun W (hW:Ext w1 W)=>zcU (d:=d) (d':=d') (HS.out W (hw1.trans hW)) E.out u o);generalize aGo p x l=y at *;have c1:∀ W,Ext wr W->∀ j,W.cell? ⟨w.heap.size,j,none⟩=#[Value.int .i64 p.al,.slice B m d,.slice B' m' d'][j]?:=fun W hW=>(b1.ext (a.trans hW)).cell;have b:=cW wr;clear n;go_upto_region 4 with fail
   refine uR (fun X=>Ext wr X) [5] (zw.of [0,1,2,3,4,5,6]) ?_;refine uQ ?_;refine zd fun K hK=>?_;go_simp;refine (zbk t k hlt _).mono ?_;rw [f.out];rintro e w' ⟨rfl,rfl⟩;refine hK.out _ _ b.drew ?_;refine pT ?_;refine zb fun K hK=>?_;go_simp;refine (HC.out _ (a.trans b.drew)).mono (mQ fun w5 hx5=>?_);refine hK.out _ _ ?_;refine pT ?_;refine uQ ?_;refine ze ?_;have s:=a.trans (b.drew.trans hx5);go_wp2_with fail
   go_roundw
   case rel=>exact⟨k+1,y,gM,oM,rfl,r,s⟩
   case measure=>simp [intOf];omega
  ·obtain rfl:k=t.size:=oM;have z:=za (show x=zdE p 0 (wl t) by rw [c.out,dG (by rw [zeq];exact cY _)]);go_wp2;go_ret;exact⟨zD (by rw [z.out]),hw1.trans a⟩
theorem zeF (h:zI w lo hi B m B' m' p)(ht:t.size<=9223372036854775807) :
  Calls Tryz.prog 96 #[.agg #[p.al,.slice B m d,.slice B' m' d'],t] w fun e w'=>e=.returned (.bool (zee p t))∧Ext w w':=by
 have HA:=za (fun W (hW:Ext w W)=>zH _ _ _ _ d _ _ d' _ _ (h.ext hW));have o:=za (fun W (hW:Ext w W)=>zhY (d:=d) (d':=d') (t:=t) (h.ext hW));have HB:=za (fun W (hW:Ext w W) q n=>zcJ (q:=q) (h.ext hW) n);have l:=za h.n2;clear h;have hr:=za (show zee p t=(zh p&&(zaK t&&!zdr p (zdE p 0 (wl t)))) from rfl);have hw1:Ext w (w.alloc (.cells #[p.al,.slice B m d,.slice B' m' d'] 26)):=(cW w).alloc _;have b1:=dT w 26 #[p.al,.slice B m d,.slice B' m' d']
 by_cases hall:zh p=true∧zaK t=true
 ·obtain⟨h1,h2⟩:=hall;have H1:=za h1;have a:=za h2;have n:=zgW h1 (wl_lt h2) (q:=0) (by have:=(zk h1).2.1;omega);have k:=(zk h1).2.2.1;have c:zdE p 0 (wl t)<m':=oH l.out;clear h1 h2 k
  go_enter Tryz.func96,Tryz.ntmps96
  go_upto_region 3 with (first
   |(go_at_call 27;refine (HA.out _ hw1).mono ?_;rw [H1.out];rintro e w2 ⟨rfl,hx2⟩)
   |(go_at_call 29;refine (zbb _ _ ht).mono ?_;rw [a.out];rintro e w3 ⟨rfl,rfl⟩))
  have i:=za (fun W hW=>o.out W hW H1.out a.out);clear o;generalize hqe:zdE p 0 (wl t)=q at *;clear hqe n;obtain⟨r,b,_⟩:=HB.out w (cW w) q c;have u:∀ W,Ext w W->W.cell? (r.add q)=some (.bool (zdr p q)):=by
   intro W hW;obtain⟨s,e,v⟩:=HB.out W hW q c;rw [b] at e;obtain rfl:=Option.some.inj e;exact v
  subst b;have hw2:=hw1.trans hx2;generalize w.alloc _=w1 at *;have c1:∀ W,Ext w2 W->∀ j,W.cell? ⟨w.heap.size,j,none⟩=#[Value.int .i64 p.al,.slice B m d,.slice (some r) m' d'][j]?:=fun W hW=>(b1.ext (hx2.trans hW)).cell;have x:=fun W (hW:Ext w2 W)=>u W (hw2.trans hW);have f:=cW w2;refine uR (fun X=>Ext w2 X) [] (zw.of [0,1,2,3,4,5,6,7,8]) ?_;refine uQ ?_;refine zd fun K hK=>?_;go_simp;refine (i.out _ (hw2.trans f.drew)).mono (mQ fun w5 hx5=>?_);have g:=f.drew.trans hx5;refine hK.out _ _ g ?_;refine pT ?_;refine uQ ?_;refine ze ?_;go_wp2_with fail
  go_ret;exact⟨zj (by rw [hr.out,H1.out,a.out];rfl),hw2.trans g⟩
 ·have hr2:=za (show zee p t=false by
   rw [hr.out];cases h1:zh p
   ·rfl
   ·cases h2:zaK t
    ·rfl
    ·exact absurd ⟨h1,h2⟩ hall)
  cases h1:zh p<;>cases h2:zaK t
  case true.true=>exact absurd ⟨h1,h2⟩ hall
  all_goals
   have H1:=za h1;have a:=za h2;clear h1 h2 hall
   go_enter Tryz.func96,Tryz.ntmps96
   go_wp2_with (first
    |(go_at_call 27;refine (HA.out _ hw1).mono ?_;rw [H1.out];rintro e w2 ⟨rfl,hx2⟩)
    |(go_at_call 29;refine (zbb _ _ ht).mono ?_;rw [a.out];rintro e w3 ⟨rfl,rfl⟩))
   go_ret;exact⟨zj (by rw [hr2.out]),hw1.trans hx2⟩
end
section
variable {lo hi m d m' d':Nat} {B B':Option Addr} {p:Aut} {t:ByteArray} {w:World}
theorem zgI (h:zI w lo hi B m B' m' p)(hv:zh p=true)(ht:inB t p.al.toNat=true) :
  Calls Tryz.prog 136 #[.agg #[p.al,.slice B m d,.slice B' m' d'],t] w fun e w'=>e=.returned (.int .i64 (zdE p 0 (wl t):Nat))∧Ext w w':=by
 have HT:=za (fun W (hW:Ext w W)=>zcc (d:=d) (d':=d') (h.ext hW) hv);have HA:=za (fun W (hW:Ext w W)=>zF _ _ _ _ d _ _ d' _ _ (h.ext hW));have a:=zaW ht;have aa:=zaR a;have T:=za (fun k Q=>zaQ a (k:=k) Q);have Z:=(zk hv).2.1;obtain⟨F,G⟩:=(zk hv).1;obtain⟨al,b⟩:∃ al:Nat,Hid (p.al=al):=⟨p.al.toNat,by unfold Hid;omega⟩;have r:al<=63:=oH b.out;have z:p.al.toNat=al:=oH b.out;rw [z] at ht;have U:=za (show (decide (t.size<=50000)&&zdD t al)=true from ht);have V:=za hv;have E:=za (fun k=>zgW hv (ls:=(wl t).take k) (fun l s=>wl_lt a l (gK s)) (q:=0) oM);clear h hv ht z a;rw [b.out] at HT HA ⊢;clear F G
 go_enter Tryz.func136,Tryz.ntmps136
 go_upto_region 1 with fail
 generalize U0:w.alloc _=w1 at *;obtain⟨hw1,b1⟩:=fY U0;clear U0;have c1:=b1.cell;go_wp2_with (first
  |(go_at_call 24;refine (HA.out _ hw1).mono ?_;rw [V.out];rintro e w2 ⟨rfl,hx2⟩;have hw2:=hw1.trans hx2;have c2:=(b1.ext hx2).cell)
  |(go_at_call 56;refine (zaP t al _ oM r).mono ?_;rw [U.out];rintro e w3 ⟨rfl,rfl⟩)
  |(go_at_call 167;refine (HT.out _ hw2).mono ?_;rintro e w4 ⟨TA,tc,rfl,n,hx4⟩))
 have hw4:=hw2.trans hx4;have S:=za (fun W (hW:Ext w4 W)=>(n.ext hW).at_);clear n c1 c2
 go_loopw [6,7,22] (fun v _ i wr=>∃ k x:Nat,i=.int .i64 k∧k<=t.size∧v=.int .i64 x∧Hid (x=zdE p 0 ((wl t).take k))∧Ext w4 wr) (fun _ _ i _=>t.size - (intOf i).toNat)
 case atStart=>exact⟨0,0,rfl,dD _,rfl,rfl,cW _⟩
 case round =>
  obtain⟨k,x,rfl,Q,rfl,f,j⟩:=hrel
  by_cases hlt:k<t.size
  ·have I:=T.out k hlt;obtain⟨l,s⟩:∃ l:Nat,Hid (ltr t[k].toNat=l∧l<6∧t[k].toNat - 97=l):=⟨t[k].toNat - 97,by unfold Hid ltr;rw [if_neg oM];omega⟩;have u:=s.out.2.1;have R:((l:Nat):Int)<6:=oM;have L:=za (show aGo p x l=zdE p 0 ((wl t).take (k+1)) by
    rw [dH,zep hlt,eD,zgX,← f.out,s.out.2.2])
   have D:x<p.next.length:=by rw [f.out];exact E.out k
   obtain⟨ab,Y,c⟩:=S.out wr j;have HC:=za (fun W (hW:Ext wr W)=>(c.ext hW).at_ D u);obtain⟨g,o,H,J⟩:=c.at_ D u;subst H;generalize aGo p x l=y at *;have d1:∀ W,Ext wr W->W.cell? ⟨g,o+x*6+l,none⟩=some (.int .i64 (y:Nat)):=fun W hW=>hW.aa J;clear I c HC;generalize p.next.length=N at *;go_upto_region 8 with fail
   have C:=cW wr;refine uR (fun X=>Ext wr X) [] (zw.of [0,1,2,3,5,4,6,7,8]) ?_;refine uQ ?_;refine zd fun K hK=>?_;go_simp;refine (zaI t k hlt _).mono ?_;rw [s.out.1];rintro e w' ⟨rfl,rfl⟩;refine hK.out _ _ C.drew ?_;refine pT ?_;refine uQ ?_;refine ze ?_;have M:=j.trans C.drew;go_wp2_with fail
   go_roundw
   case rel=>exact⟨k+1,y,gM,oM,rfl,L,M⟩
   case measure=>simp [intOf];omega
  ·obtain rfl:k=t.size:=oM;have O:=za (show x=zdE p 0 (wl t) by rw [f.out,dG (by rw [zeq];exact cY _)]);go_wp2;go_ret;exact⟨zD (by rw [O.out]),hw4.trans j⟩
theorem zfU (h:zI w lo hi B m B' m' p)(hv:zh p=true)(ht:inB t p.al.toNat=true) :
  Calls Tryz.prog 90 #[.agg #[p.al,.slice B m d,.slice B' m' d'],t] w fun e w'=>e=.returned (.bool (zdr p (zdE p 0 (wl t))))∧Ext w w':=by
 have HA:=za (fun W (hW:Ext w W)=>zgI (d:=d) (d':=d') (h.ext hW) hv ht);have HB:=za (fun W (hW:Ext w W) q g=>zcJ (q:=q) (h.ext hW) g);have g:=zgW hv (wl_lt (zaW ht)) (q:=0) (by have:=(zk hv).2.1;omega);have c:=(zk hv).2.2.1;have f:=h.n2;have b:zdE p 0 (wl t)<m':=oM;clear h hv ht c;generalize hqe:zdE p 0 (wl t)=q at *;clear hqe g f;obtain⟨i,a,_⟩:=HB.out w (cW w) q b;have k:∀ W,Ext w W->W.cell? (i.add q)=some (.bool (zdr p q)):=by
  intro W hW;obtain⟨j,e,n⟩:=HB.out W hW q b;rw [a] at e;obtain rfl:=Option.some.inj e;exact n
 subst a
 go_enter Tryz.func90,Tryz.ntmps90
 go_upto_region 1 with fail
 generalize U0:w.alloc _=w1 at *;obtain⟨hw1,b1⟩:=fY U0;clear U0;have c1:=b1.cell;go_wp2_with (go_at_call 136;refine (HA.out _ hw1).mono (mQ fun w2 hx2=>?_);have c2:=(b1.ext hx2).cell;have l:=k _ (hw1.trans hx2))
 go_ret;exact⟨zj (by rfl),hw1.trans hx2⟩
theorem zey (h:zI w lo hi B m B' m' p)(ht:t.size<=9223372036854775807) :
  Calls Tryz.prog 43 #[.agg #[p.al,.slice B m d,.slice B' m' d'],t] w fun e w'=>e=.returned (.bool (zee p t))∧Ext w w':=by
 have HA:=za (fun W (hW:Ext w W)=>zF _ _ _ _ d _ _ d' _ _ (h.ext hW));have hr:=za (show zee p t=(zh p&&(zaK t&&!zdr p (zdE p 0 (wl t)))) from rfl);have hw1:Ext w (w.alloc (.cells #[p.al,.slice B m d,.slice B' m' d'] 26)):=(cW w).alloc _;have b1:=dT w 26 #[p.al,.slice B m d,.slice B' m' d'];cases h1:zh p
 ·have H1:=za h1;clear h1
  go_enter Tryz.func43,Tryz.ntmps43
  go_upto_region 1 with fail
  generalize w.alloc _=w1 at *;have c1:=b1.cells;have a:=cW w1;refine uR (fun X=>Ext w1 X) [12] (zw.of [0,1,2,3,4,5,6,7,8,9,10,11,12,13,14,15]) ?_;refine uQ ?_;refine zd fun K hK=>?_;go_simp;refine (HA.out _ (hw1.trans a.drew)).mono ?_;rw [H1.out];rintro e w2 ⟨rfl,hx2⟩;have hx3:=a.drew.trans hx2;refine hK.out _ _ hx3 ?_;refine pT ?_;refine uQ ?_;refine ze ?_;go_wp2_with fail
  go_ret;exact⟨zj (by rw [hr.out,H1.out];rfl),hw1.trans hx3⟩
 ·cases h2:zaK t
  ·have H1:=za h1;have c:=za h2;clear h1 h2
   go_enter Tryz.func43,Tryz.ntmps43
   go_upto_region 1 with fail
   generalize w.alloc _=w1 at *;have c1:=b1.cells;have a:=cW w1;refine uR (fun X=>Ext w1 X) [12] (zw.of [0,1,2,3,4,5,6,7,8,9,10,11,12,13,14,15]) ?_;refine uQ ?_;refine zd fun K hK=>?_;go_simp;refine (HA.out _ (hw1.trans a.drew)).mono ?_;rw [H1.out];rintro e w2 ⟨rfl,hx2⟩;have hx3:=a.drew.trans hx2;refine hK.out _ _ hx3 ?_;refine pT ?_;refine uQ ?_;refine zd fun K hK=>?_;go_simp;refine (zcG _ _ ht).mono ?_;rw [c.out];rintro e w3 ⟨rfl,rfl⟩;refine hK.out _ _ hx3 ?_;refine pT ?_;refine uQ ?_;refine ze ?_;go_wp2_with fail
   go_ret;exact⟨zj (by rw [hr.out,H1.out,c.out];rfl),hw1.trans hx3⟩
  ·obtain⟨j,k⟩:=(zk h1).1;obtain⟨al,b⟩:∃ al:Nat,Hid (p.al=al):=⟨p.al.toNat,by unfold Hid;omega⟩;have f:al<=63:=oH b.out;have g:=za (show p.al.toNat=al by have:=b.out;omega);have o:=za (fun W=>zeY (w:=W) h2 f);have i:=za (fun W (hW:Ext w W)=>zfU (d:=d) (d':=d') (t:=zbj t al) (h.ext hW) h1 (by rw [g.out];exact zgo h2 al));have l:=za (show zdE p 0 (wl (zbj t al))=zdE p 0 (wl t) by rw [wl_restB h2,← g.out,runA_filter]);rw [l.out] at i;have H1:=za h1;have c:=za h2;clear h h1 h2 j k;rw [b.out] at HA i hw1 b1 ⊢;generalize zbj t al=q at *
   go_enter Tryz.func43,Tryz.ntmps43
   go_upto_region 1 with fail
   generalize w.alloc _=w1 at *;have c1:=b1.cells;have a:=cW w1;refine uR (fun X=>Ext w1 X) [12] (zw.of [0,1,2,3,4,5,6,7,8,9,10,11,12,13,14,15]) ?_;refine uQ ?_;refine zd fun K hK=>?_;go_simp;refine (HA.out _ (hw1.trans a.drew)).mono ?_;rw [H1.out];rintro e w2 ⟨rfl,hx2⟩;have hx3:=a.drew.trans hx2;refine hK.out _ _ hx3 ?_;refine pT ?_;refine uQ ?_;refine zd fun K hK=>?_;go_simp;refine (zcG _ _ ht).mono ?_;rw [c.out];rintro e w3 ⟨rfl,rfl⟩;refine hK.out _ _ hx3 ?_;refine pT ?_;refine uQ ?_;refine zd fun K hK=>?_;go_simp;refine (o.out _).mono (mQ fun w4 hx4=>?_);have hx5:=hx3.trans hx4;refine hK.out _ _ hx5 ?_;refine pT ?_;refine uQ ?_;refine zb fun K hK=>?_;go_simp;refine (i.out _ (hw1.trans hx5)).mono (mQ fun r n=>?_);refine hK.out _ _ ?_;refine pT ?_;refine uQ ?_;refine ze ?_;go_wp2_with fail
   go_ret;exact⟨zj (by rw [hr.out,H1.out,c.out];rfl),hw1.trans (hx5.trans n)⟩
end
theorem zej {lo hi lo2 hi2 c2:Nat} {A C:Option Addr} (hb:Blk w g 39 #[s.al,s.st,.slice A n c,t.al,t.st,.slice C k c2])(h:zR w lo hi A n s)(h':zR w lo2 hi2 C k t):∃ lo hi,zet w lo hi (some ⟨g,0,none⟩) 2 [s,t]:=by
 refine⟨0,hi+hi2+g+1,rfl,[.int .i64 s.al,.int .i64 s.st,.slice A n c,.int .i64 t.al,.int .i64 t.st,.slice C k c2],⟨rfl,oM,fun _=>⟨_,rfl,dD _,by dsimp only;omega,fun j u hu=>?_⟩⟩,fun j u hu=>?_⟩
 ·rw [zK,Nat.zero_add,hb.cell];simpa using hu
 ·match j with
  |0 =>
   simp at hu;subst hu;exact⟨A,n,c,rfl,rfl,rfl,h.1,h.2.more (dD _) oM⟩
  |1 =>
   simp at hu;subst hu;exact⟨C,k,c2,rfl,rfl,rfl,h'.1,h'.2.more (dD _) oM⟩
  |j+2=>simp at hu
def zeo (s t:Sys) (p:Aut) (x:ByteArray):Int:=if topB [s,t] x=false then 6 else if zee p x=false then 7 else 0
noncomputable def checkZ (s t:Sys) (p:Aut) (hd:Bool) (a:Aut) (x:ByteArray):Int:=
 if iface s p t<0 then 1 else if zC hd a x=false then 2 else if hd=false then zeo s t p x
 else if zct s t p a=2 then 3 else if zct s t p a=3 then 4 else if zct s t p a=4 then 5 else 0
theorem zgG (s t:Sys) (p:Aut):iface s p t<0↔(zl s&&(zh p&&zl t))=false:=by
 unfold iface;cases h:(zl s&&(zh p&&zl t))
 ·simp
 ·simp
section
variable {lo hi n c:Nat} {A:Option Addr} {s:Sys} {lo1 hi1 m1 d1 m1' d1':Nat} {B B':Option Addr} {p:Aut} {lo2 hi2 k c2:Nat} {C:Option Addr} {t:Sys} {x:ByteArray} {w:World}
theorem ziN (h:zR w lo hi A n s)(ht:zR w lo2 hi2 C k t)(hp:zI w lo1 hi1 B m1 B' m1' p)(hx:x.size<=9223372036854775807) :
  Calls Tryz.prog 46 #[.agg #[s.al,s.st,.slice A n c],.agg #[t.al,t.st,.slice C k c2],.agg #[p.al,.slice B m1 d1,.slice B' m1' d1'],x] w fun e w'=>e=.returned (.int .i64 (zeo s t p x))∧Ext w w':=by
 have HS:=za (fun W (hW:Ext w W)=>h.ext hW);have HS':=za (fun W (hW:Ext w W)=>ht.ext hW);have HB:=za (fun W (hW:Ext w W)=>zeF (d:=d1) (d':=d1') (hp.ext hW) hx);have hr:=za (show zeo s t p x=if topB [s,t] x=false then 6 else if zee p x=false then 7 else 0 from rfl);clear h ht hp;have hw1:Ext w (((w.alloc (.cells #[s.al,s.st,.slice A n c] 39)).alloc (.cells #[t.al,t.st,.slice C k c2] 39)).alloc (.cells #[p.al,.slice B m1 d1,.slice B' m1' d1'] 26)):=(((cW w).alloc _).alloc _).alloc _;obtain⟨b1,b2,b3⟩:=zN (cW (((w.alloc (.cells #[s.al,s.st,.slice A n c] 39)).alloc (.cells #[t.al,t.st,.slice C k c2] 39)).alloc (.cells #[p.al,.slice B m1 d1,.slice B' m1' d1'] 26)));cases h1:topB [s,t] x<;>cases h2:zee p x
 all_goals
  have H1:=za h1;have b:=za h2;clear h1 h2
  go_enter Tryz.func46,Tryz.ntmps46
  go_upto_region 1 with fail
  generalize ((w.alloc _).alloc _).alloc _=w1 at *;have c1:=b1.cells;have c2':=b2.cells;have c3:=b3.cells;have hx0:=cW w1;have e6:=dT w1 39 #[s.al,s.st,.slice A n c,t.al,t.st,.slice C k c2];have f6:=(cW w1).alloc (.cells #[s.al,s.st,.slice A n c,t.al,t.st,.slice C k c2] 39);obtain⟨l1,l2,hsl⟩:=zej e6 (HS.out _ (hw1.trans f6)) (HS'.out _ (hw1.trans f6));go_wp2_with (first
   |(go_at_call 95;with_reducible refine (zcS hsl hx).mono ?_;rw [H1.out];rintro e w2 ⟨rfl,hx2⟩;have a:=f6.trans hx2)
   |(go_at_call 96;with_reducible refine (HB.out _ (hw1.trans a)).mono ?_;rw [b.out];rintro e w3 ⟨rfl,hx3⟩;have hx13:=a.trans hx3))
  go_ret;exact⟨zD (by rw [hr.out,H1.out];try rw [b.out];try rfl),hw1.trans (by first|exact hx13|exact a)⟩
variable {lo3 hi3 m2 d2 m2' d2':Nat} {D D':Option Addr} {a:Aut} {hd:Bool}
theorem yQ10b3 {P:Prop}(h:P:=by
 have c1:=b1.cells;have c2':=b2.cells;have c3:=b3.cells;have c4:=b4.cells;have hx0:=Ext.refl w1;go_wp2_with (first
  |(go_at_call 45;with_reducible refine (HI.out _ hw1).mono (mQ fun w2 hx2=>?_);have hw2:=hw1.trans hx2)
  |(go_at_call 10;with_reducible refine (HC.out _ hw2).mono (mQ fun w3 hx3=>?_);have hx13:=hx2.trans hx3;have hw3:=hw1.trans hx13)
  |(go_at_call 46;with_reducible refine (HT.out _ hw3).mono (mQ fun w4 hx4=>?_);have hw4:=hw3.trans hx4)
  |(go_at_call 47;with_reducible refine (HF.out _ hw3).mono (mQ fun w4 hx4=>?_);have hw4:=hw3.trans hx4))
 go_ret;exact⟨zD (by rw [hr.out];try rfl),by first|exact hw4|exact hw3|exact hw2⟩
 ):P:=h
theorem yQ10a6 {P:Prop}(h:P:=by
 rw [if_pos rfl] at hr
 go_enter Tryz.func17,Tryz.ntmps17
 go_upto_region 1 with fail
 generalize (((w.alloc _).alloc _).alloc _).alloc _=w1 at *;exact yQ10b3
 ):P:=h
theorem yQ10a7 {P:Prop}(h:P:=by
 go_enter Tryz.func17,Tryz.ntmps17
 go_upto_region 1 with fail
 generalize (((w.alloc _).alloc _).alloc _).alloc _=w1 at *;exact yQ10b3
 ):P:=h
theorem yQ10a8 {P:Prop}(h:P:=by
 exact yQ10b3
 ):P:=h
theorem spec_CheckCertificate (h:zR w lo hi A n s)(ht:zR w lo2 hi2 C k t)(hp:zI w lo1 hi1 B m1 B' m1' p)(ha:zI w lo3 hi3 D m2 D' m2' a)(hxs:x.size<=9223372036854775807) :
  Calls Tryz.prog 17 #[.agg #[s.al,s.st,.slice A n c],.agg #[t.al,t.st,.slice C k c2],.agg #[p.al,.slice B m1 d1,.slice B' m1' d1'],.agg #[.bool hd,a.al,.slice D m2 d2,.slice D' m2' d2',x]] w fun e w'=>e=.returned (.int .i64 (checkZ s t p hd a x))∧Ext w w':=by
 have HI:=za (fun W (hW:Ext w W)=>zaZ (c:=c) (d1:=d1) (d1':=d1') (c2:=c2) (h.ext hW) (hp.ext hW) (ht.ext hW));have HT:=za (fun W (hW:Ext w W)=>ziN (c:=c) (d1:=d1) (d1':=d1') (c2:=c2) (x:=x) (h.ext hW) (ht.ext hW) (hp.ext hW) hxs);have HC:=za (fun W (hW:Ext w W)=>zax _ _ _ _ d2 _ _ d2' hd _ x _ (ha.ext hW) hxs);have HF:=za (fun W (hW:Ext w W)=>zdW (c:=c) (d1:=d1) (d1':=d1') (c2:=c2) (d2:=d2) (d2':=d2') (h.ext hW) (ht.ext hW) (hp.ext hW) (ha.ext hW));have hr:=za (show checkZ s t p hd a x=if iface s p t<0 then 1 else if zC hd a x=false then 2 else if hd=false then zeo s t p x
  else if zct s t p a=2 then 3 else if zct s t p a=3 then 4 else if zct s t p a=4 then 5 else 0 from rfl)
 clear h hp ht ha;have hw1:Ext w ((((w.alloc (.cells #[s.al,s.st,.slice A n c] 39)).alloc (.cells #[t.al,t.st,.slice C k c2] 39)).alloc (.cells #[p.al,.slice B m1 d1,.slice B' m1' d1'] 26)).alloc (.cells #[.bool hd,a.al,.slice D m2 d2,.slice D' m2' d2',x] 28)):=((((cW w).alloc _).alloc _).alloc _).alloc _;obtain⟨b1,b2,b3,b4⟩:=zeS (cW ((((w.alloc (.cells #[s.al,s.st,.slice A n c] 39)).alloc (.cells #[t.al,t.st,.slice C k c2] 39)).alloc (.cells #[p.al,.slice B m1 d1,.slice B' m1' d1'] 26)).alloc (.cells #[.bool hd,a.al,.slice D m2 d2,.slice D' m2' d2',x] 28)));generalize iface s p t=I at *;generalize zeo s t p x=R at *;generalize zct s t p a=F at *
 by_cases hI:I<0
 ·rw [if_pos hI] at hr;have b:=za (rfl:true=true);have f:=za (rfl:true=true);generalize zC hd a x=g at *;exact yQ10a7
 have d:0<=I:=oM;rw [if_neg hI] at hr;cases hv0:zC hd a x
 ·rw [hv0,if_pos rfl] at hr;have b:=za hv0;clear hv0;rw [b.out] at HC;exact yQ10a7
 rw [hv0,if_neg dM] at hr;have b:=za hv0;clear hv0;rw [b.out] at HC;cases hd
 ·rw [if_pos rfl] at hr
  go_enter Tryz.func17,Tryz.ntmps17
  go_upto_region 1 with fail
  generalize (((w.alloc _).alloc _).alloc _).alloc _=w1 at *;exact yQ10a8
 rw [if_neg dM] at hr
 by_cases f2:F=2
 ·subst f2;exact yQ10a6
 rw [if_neg f2] at hr;have i:(F==2)=false:=by simpa using f2
 by_cases f3:F=3
 ·subst f3;exact yQ10a6
 rw [if_neg f3] at hr;have j:(F==3)=false:=by simpa using f3
 by_cases f4:F=4
 ·subst f4;exact yQ10a6
 ·rw [if_neg f4] at hr;have l:(F==4)=false:=by simpa using f4
  go_enter Tryz.func17,Tryz.ntmps17
  go_upto_region 1 with fail
  generalize (((w.alloc _).alloc _).alloc _).alloc _=w1 at *;exact yQ10a8
theorem yQ10b1 {P:Prop}(h:P:=by
 generalize zeo s t p x=R at *
 go_enter Tryz.func16,Tryz.ntmps16
 go_upto_region 1 with fail
 generalize (((w.alloc _).alloc _).alloc _).alloc _=w1 at *;have c1:=b1.cells;have c2':=b2.cells;have c3:=b3.cells;have c4:=b4.cells;have hx0:=Ext.refl w1;go_wp2_with (first
  |(go_at_call 41;with_reducible refine (HV.out _ hw1).mono (mQ fun w2 hx2=>?_);have hw2:=hw1.trans hx2)
  |(go_at_call 41;with_reducible refine (HV'.out _ hw2).mono (mQ fun w3 hx3=>?_);have hx13:=hx2.trans hx3;have hw3:=hw1.trans hx13)
  |(go_at_call 24;with_reducible refine (HP.out _ hw3).mono (mQ fun w4 hx4=>?_);have hx14:=hx13.trans hx4;have hw4:=hw1.trans hx14)
  |(go_at_call 8;with_reducible refine (HC.out _ hw4).mono (mQ fun w5 hx5=>?_);have hx15:=hx14.trans hx5;have hw5:=hw1.trans hx15;have e6:=Blk.new w5 39 #[s.al,s.st,.slice A n c,t.al,t.st,.slice C k c2];have f6:=(Ext.refl w5).alloc (.cells #[s.al,s.st,.slice A n c,t.al,t.st,.slice C k c2] 39);have hx16:=hx15.trans f6;have hw6:=hw1.trans hx16;obtain⟨l1,l2,hsl⟩:=zej e6 (HS.out _ hw6) (HS'.out _ hw6))
  |(go_at_call 42;with_reducible refine (zaa hsl (HT.out _ hw6) hxs).mono ?_;rw [Ht1.out];rintro e w7 ⟨rfl,hx7⟩;have hx17:=hx16.trans hx7;have hw7:=hw1.trans hx17)
  |(go_at_call 43;with_reducible refine (HB.out _ hw7).mono (mQ fun w8 hx8=>?_);have hx18:=hx17.trans hx8;have hw8:=hw1.trans hx18)
  |(go_at_call 44;with_reducible refine (HF.out _ hw5).mono (mQ fun w9 hx9=>?_);have hw9:=hw5.trans hx9))
 go_ret;exact⟨zD (by rw [hr.out,hr2.out];try rfl),by first|exact hw9|exact hw8|exact hw7|exact hw5|exact hw4|exact hw3|exact hw2⟩
 ):P:=h
theorem yQ10a1 {P:Prop}(h:P:=by
 rw [hb1] at HB;clear hb1;exact yQ10b1
 ):P:=h
theorem yQ10c1 {P:Prop}(h:P:=by
 have c1:=b1.cells;have c2':=b2.cells;have c3:=b3.cells;have c4:=b4.cells;have hx0:=Ext.refl w1;go_wp2_with (first
  |(go_at_call 41;with_reducible refine (HV.out _ hw1).mono (mQ fun w2 hx2=>?_);have hw2:=hw1.trans hx2)
  |(go_at_call 41;with_reducible refine (HV'.out _ hw2).mono (mQ fun w3 hx3=>?_);have hx13:=hx2.trans hx3;have hw3:=hw1.trans hx13)
  |(go_at_call 24;with_reducible refine (HP.out _ hw3).mono (mQ fun w4 hx4=>?_);have hx14:=hx13.trans hx4;have hw4:=hw1.trans hx14)
  |(go_at_call 8;with_reducible refine (HC.out _ hw4).mono (mQ fun w5 hx5=>?_);have hx15:=hx14.trans hx5;have hw5:=hw1.trans hx15;have e6:=Blk.new w5 39 #[s.al,s.st,.slice A n c,t.al,t.st,.slice C k c2];have f6:=(Ext.refl w5).alloc (.cells #[s.al,s.st,.slice A n c,t.al,t.st,.slice C k c2] 39);have hx16:=hx15.trans f6;have hw6:=hw1.trans hx16;obtain⟨l1,l2,hsl⟩:=zej e6 (HS.out _ hw6) (HS'.out _ hw6))
  |(go_at_call 42;with_reducible refine (zaa hsl (HT.out _ hw6) hxs).mono ?_;rw [Ht1.out];rintro e w7 ⟨rfl,hx7⟩;have hx17:=hx16.trans hx7;have hw7:=hw1.trans hx17)
  |(go_at_call 43;with_reducible refine (HB.out _ hw7).mono (mQ fun w8 hx8=>?_);have hx18:=hx17.trans hx8;have hw8:=hw1.trans hx18)
  |(go_at_call 44;with_reducible refine (HF.out _ hw5).mono (mQ fun w9 hx9=>?_);have hw9:=hw5.trans hx9))
 go_ret;exact⟨zD (by rw [hr.out];try rfl),by first|exact hw9|exact hw8|exact hw7|exact hw5|exact hw4|exact hw3|exact hw2⟩
 ):P:=h
theorem yQ10b2 {P:Prop}(h:P:=by
 go_enter Tryz.func16,Tryz.ntmps16
 go_upto_region 1 with fail
 generalize (((w.alloc _).alloc _).alloc _).alloc _=w1 at *;exact yQ10c1
 ):P:=h
theorem yQ10a2 {P:Prop}(h:P:=by
 rw [if_pos rfl] at hr;exact yQ10b2
 ):P:=h
theorem yQ10a3 {P:Prop}(h:P:=by
 go_enter Tryz.func16,Tryz.ntmps16
 go_upto_region 1 with fail
 generalize (((w.alloc _).alloc _).alloc _).alloc _=w1 at *;exact yQ10c1
 ):P:=h
theorem impl_CheckCertificate (h:zR w lo hi A n s)(ht:zR w lo2 hi2 C k t)(hp:zI w lo1 hi1 B m1 B' m1' p)(ha:zI w lo3 hi3 D m2 D' m2' a)(hxs:x.size<=9223372036854775807)(hT:Tab w) :
  Calls Tryz.prog 16 #[.agg #[s.al,s.st,.slice A n c],.agg #[t.al,t.st,.slice C k c2],.agg #[p.al,.slice B m1 d1,.slice B' m1' d1'],.agg #[.bool hd,a.al,.slice D m2 d2,.slice D' m2' d2',x]] w fun e w'=>e=.returned (.int .i64 (checkZ s t p hd a x))∧Ext w w':=by
 have HT:=za (fun W (hW:Ext w W)=>hT.ext hW);have HS:=za (fun W (hW:Ext w W)=>h.ext hW);have HS':=za (fun W (hW:Ext w W)=>ht.ext hW);have HB:=za (fun W (hW:Ext w W)=>zey (d:=d1) (d':=d1') (hp.ext hW) hxs);have HV:=za (fun W (hW:Ext w W)=>zaq (c:=c) (h.ext hW));have HV':=za (fun W (hW:Ext w W)=>zaq (c:=c2) (ht.ext hW));have HP:=za (fun W (hW:Ext w W)=>zF _ _ _ _ d1 _ _ d1' _ _ (hp.ext hW));have HC:=za (fun W (hW:Ext w W)=>zca _ _ _ _ d2 _ _ d2' hd _ x _ (ha.ext hW) hxs);have HF:=za (fun W (hW:Ext w W)=>zdT (c:=c) (d1:=d1) (d1':=d1') (c2:=c2) (d2:=d2) (d2':=d2') (h.ext hW) (ht.ext hW) (hp.ext hW) (ha.ext hW) (hT.ext hW));have hr:=za (show checkZ s t p hd a x=if iface s p t<0 then 1 else if zC hd a x=false then 2 else if hd=false then zeo s t p x
  else if zct s t p a=2 then 3 else if zct s t p a=3 then 4 else if zct s t p a=4 then 5 else 0 from rfl)
 clear h hp ht ha;have hw1:Ext w ((((w.alloc (.cells #[s.al,s.st,.slice A n c] 39)).alloc (.cells #[t.al,t.st,.slice C k c2] 39)).alloc (.cells #[p.al,.slice B m1 d1,.slice B' m1' d1'] 26)).alloc (.cells #[.bool hd,a.al,.slice D m2 d2,.slice D' m2' d2',x] 28)):=((((cW w).alloc _).alloc _).alloc _).alloc _;obtain⟨b1,b2,b3,b4⟩:=zeS (cW ((((w.alloc (.cells #[s.al,s.st,.slice A n c] 39)).alloc (.cells #[t.al,t.st,.slice C k c2] 39)).alloc (.cells #[p.al,.slice B m1 d1,.slice B' m1' d1'] 26)).alloc (.cells #[.bool hd,a.al,.slice D m2 d2,.slice D' m2' d2',x] 28)));generalize zct s t p a=F at *;cases h1:zl s<;>cases h2:zl t<;>cases h3:zh p
 case true.true.true =>
  rw [if_neg (by rw [zgG,h1,h2,h3];decide)] at hr;rw [h1] at HV;rw [h2] at HV';rw [h3] at HP;clear h1 h2 h3;cases hv0:zC hd a x
  ·rw [hv0,if_pos rfl] at hr;have b:=za hv0;clear hv0;rw [b.out] at HC;exact yQ10a3
  rw [hv0,if_neg dM] at hr;have b:=za hv0;clear hv0;rw [b.out] at HC;cases hd
  ·rw [if_pos rfl] at hr;have hr2:=za (show zeo s t p x=if topB [s,t] x=false then 6 else if zee p x=false then 7 else 0 from rfl);cases ht1:topB [s,t] x
   ·rw [ht1,if_pos rfl] at hr2;have Ht1:=za ht1;clear ht1;exact yQ10b1
   rw [ht1,if_neg dM] at hr2;have Ht1:=za ht1;clear ht1;cases hb1:zee p x
   ·rw [hb1,if_pos rfl] at hr2;exact yQ10a1
   rw [hb1,if_neg dM] at hr2;exact yQ10a1
  rw [if_neg dM] at hr
  by_cases f2:F=2
  ·subst f2;exact yQ10a2
  rw [if_neg f2] at hr;have f:(F==2)=false:=by simpa using f2
  by_cases f3:F=3
  ·subst f3;exact yQ10a2
  rw [if_neg f3] at hr;have g:(F==3)=false:=by simpa using f3
  by_cases f4:F=4
  ·subst f4;exact yQ10a2
  ·rw [if_neg f4] at hr;have i:(F==4)=false:=by simpa using f4
   exact yQ10b2
 all_goals
  rw [if_pos (by rw [zgG,h1,h2,h3];rfl)] at hr;rw [h1] at HV;rw [h2] at HV';rw [h3] at HP;clear h1 h2 h3;exact yQ10a3
end
def hidL (s:Sys) (A l:Nat):Prop:=l<6∧s.al.toNat.testBit l=true∧A.testBit l=false
inductive Cl (s:Sys) (p:Aut) (A:Nat) (B:Nat->Nat->Prop):Nat->Nat->Prop
 |base {q i:Nat} (h:B q i):Cl s p A B q i
 |hid {q i l q':Nat} (h:Cl s p A B q i) (hl:hidL s A l) (hq:q'∈cho s q l):Cl s p A B q' (aGo p i l)
def mvB (s:Sys) (p:Aut) (l:Nat) (B:Nat->Nat->Prop):Nat->Nat->Prop:=fun q' j=>∃ q i,B q i∧q'∈cho s q l∧j=aGo p i l
def prR (s:Sys) (p:Aut) (A:Nat):List Nat->Nat->Nat->Prop
 |[]=>Cl s p A (fun q i=>q=0∧i=0)
 |l :: r=>Cl s p A (mvB s p l (prR s p A r))
def PR (s:Sys) (p:Aut) (A:Nat) (v:List Nat):Nat->Nat->Prop:=prR s p A v.reverse
theorem PR_snoc (s:Sys) (p:Aut) (A:Nat) (v:List Nat) (l:Nat):PR s p A (v++[l])=Cl s p A (mvB s p l (PR s p A v)):=by
 unfold PR;rw [List.reverse_append];rfl
def Bad (s:Sys) (p:Aut) (A:Nat) (v:List Nat):Prop:=∃ q i,PR s p A v q i∧zdr p i=false
def SafeW (s:Sys) (p:Aut) (A:Nat) (v:List Nat):Prop:=∀ k,k<=v.length->¬ Bad s p A (v.take k)
theorem ziU (hs:Sml s) (hb:s.al.toNat.testBit l=true) (set q':Nat):(zbI s.edges set (l:Int)).testBit q'=true↔∃ q,set.testBit q=true∧q'∈cho s q l:=by
 obtain⟨h1,h2,h,-⟩:=hs;rw [zdK];constructor
 ·rintro ⟨e,b,⟨c,a⟩,rfl⟩;obtain⟨i,j,k⟩:=h e b;refine⟨e.fr.toNat,a,?_⟩;unfold cho;rw [if_pos hb,zW];refine⟨oM,(zfk _ _ _ _).2 ⟨e,b,?_,rfl⟩⟩;exact⟨oM,c⟩
 ·rintro ⟨q,c,a⟩;unfold cho at a;rw [if_pos hb,zW] at a;obtain⟨e,b,⟨d,f⟩,g⟩:=(zfk _ _ _ _).1 a.2;exact⟨e,b,⟨f,by rw [d];simpa using c⟩,g⟩
theorem zhZ (hs:Sml s) (x:Nat) (l:Int):zbI s.edges x l<65536:=by
 have h1:=ziT hs.2.2.1 x l;have h2:(2:Nat) ^ s.st.toNat<=2 ^ 16:=dV oM (oH hs.2.1);exact eH h1 h2
def bitS (T:List Nat) (i q:Nat):Prop:=(T.getD i 0).testBit q=true
theorem bitS_lt (h:bitS T i q):i<T.length:=by
 rcases Nat.lt_or_ge i T.length with h1|h1
 ·exact h1
 ·unfold bitS at h;rw [dI,dZ h1] at h;simp at h
theorem zig (hj:j<T.length) (x i q:Nat):bitS (T.set j (T.getD j 0|||x)) i q↔bitS T i q∨(i=j∧x.testBit q=true):=by
 unfold bitS
 by_cases h:j=i
 ·subst h;rw [dI,eV hj,fW,Nat.testBit_or,Bool.or_eq_true];simp
 ·rw [dI,fK h,← dI];constructor
  ·exact .inl
  ·rintro (h1|⟨h1,-⟩)
   ·exact h1
   ·exact absurd h1.symm h
def zeu (T:List Nat) (n:Nat) (B:Nat->Nat->Prop):Prop:=T.length=n∧(∀ x∈T,x<65536)∧∀ i q,bitS T i q↔B q i
structure ClI (s:Sys) (p:Aut) (A:Nat) (B:Nat->Nat->Prop) (n:Nat) (T:List Nat):Prop where
 len:T.length=n
 lt:∀ x∈T,x<65536
 base:∀ q i,B q i->bitS T i q
 sub:∀ i q,bitS T i q->Cl s p A B q i
def zdN (s:Sys) (p:Aut) (T:List Nat) (i l:Nat):Prop:=∀ q,bitS T i q->∀ q'∈cho s q l,bitS T (aGo p i l) q'
section
variable {s:Sys} {p:Aut} {A n:Nat} {B:Nat->Nat->Prop} {T:List Nat}
theorem zeu.clI (h:zeu T n B):ClI s p A B n T:=⟨h.1,h.2.1,fun q i hb=>(h.2.2 i q).2 hb,fun i q hb=>.base ((h.2.2 i q).1 hb)⟩
theorem zex (h:∀ x∈T,x<65536) (i:Nat):T.getD i 0<65536:=by
 rw [dI];cases h1:T[i]? with
 |none=>simp
 |some x=>exact h x (cX h1)
theorem ClI.step (h:ClI s p A B n T)(hs:Sml s)(hp:zh p=true)(hn:n=p.next.length) (hi:i<n)(hl:hidL s A l) :
  ClI s p A B n (T.set (aGo p i l) (T.getD (aGo p i l) 0|||zbI s.edges (T.getD i 0) (l:Int))):=by
 have b:aGo p i l<T.length:=by rw [h.len,hn];exact zfF hp oM hl.1
 refine⟨by rw [List.length_set];exact h.len,fun x a=>?_,fun q i' hb=>(zig b _ _ _).2 (.inl (h.base q i' hb)),fun i' q hb=>?_⟩
 ·rcases eY a with a|rfl
  ·exact h.lt x a
  ·exact eJ (n:=16) (zex h.lt _) (eH (ziT hs.2.2.1 _ _) (dV oM (oH hs.2.1)))
 ·rcases (zig b _ _ _).1 hb with hb1|⟨rfl,hb1⟩
  ·exact h.sub _ _ hb1
  ·obtain⟨c,h1,h2⟩:=(ziU hs hl.2.1 _ _).1 hb1;exact .hid (h.sub _ _ h1) hl h2
theorem closedAt_of (hs:Sml s) (hl:hidL s A l)(he:T.getD (aGo p i l) 0|||zbI s.edges (T.getD i 0) (l:Int)=T.getD (aGo p i l) 0):zdN s p T i l:=by
 intro q hq q' hq';unfold bitS;rw [← he,Nat.testBit_or,(ziU hs hl.2.1 _ _).2 ⟨q,hq,hq'⟩,Bool.or_true]
theorem ClI.fin (h:ClI s p A B n T)(hc:∀ i l,i<n->hidL s A l->zdN s p T i l):zeu T n (Cl s p A B):=by
 refine⟨h.len,h.lt,fun i q=>⟨h.sub i q,fun hb=>?_⟩⟩
 induction hb with
 |base hb=>exact h.base _ _ hb
 |hid _ hl hq ih=>exact hc _ _ (by rw [← h.len];exact bitS_lt ih) hl _ ih _ hq
end
def room:List Nat->Nat
 |[]=>0
 |x :: r=>(65536 - x)+room r
theorem room_set:∀ (T:List Nat) (j x:Nat),(T.getD j 0|||x)<65536->room (T.set j (T.getD j 0|||x))<=room T∧(j<T.length->T.getD j 0|||x≠T.getD j 0->room (T.set j (T.getD j 0|||x))<room T)
 |[],j,x,_=>by simp [room]
 |a :: r,0,x,h=>by
  simp only [List.getD_cons_zero,List.set_cons_zero,room] at h ⊢
  have h1:a<=a|||x:=Nat.left_le_or
  refine⟨oM,fun _ h2=>oM⟩
 |a :: r,j+1,x,h=>by
  simp only [List.getD_cons_succ,List.set_cons_succ,room,List.length_cons] at h ⊢
  obtain⟨h1,h2⟩:=room_set r j x h
  refine⟨oM,fun h3 h4=>by have:=h2 oM h4;omega⟩
theorem sub_bit {a b:Nat}(ha:a<64)(hb:b<64) (l:Nat):l∈letters (a - (a&&&b)) 6↔l<6∧a.testBit l=true∧b.testBit l=false:=by
 rw [zW];refine and_congr_right fun hl=>?_;have c:∀ a<64,∀ b<64,∀ l<6,((a - (a&&&b)).testBit l=true↔a.testBit l=true∧b.testBit l=false):=by decide +kernel
 exact c a ha b hb l hl
theorem stand_bad {A:Nat} {v:List Nat} (h:zeu T n (PR s p A v)):Bad s p A v↔∃ i,i<n∧T.getD i 0≠0∧zdr p i=false:=by
 constructor
 ·rintro ⟨q,i,h1,h2⟩;have a:=(h.2.2 i q).2 h1;refine⟨i,by rw [← h.1];exact bitS_lt a,fun e=>?_,h2⟩;unfold bitS at a;rw [e] at a;simp at a
 ·rintro ⟨i,c,h1,h2⟩;obtain⟨q,b⟩:=Nat.exists_testBit_of_ne_zero h1;exact⟨q,i,(h.2.2 i q).1 b,h2⟩
theorem stand_start (hn:1<=n):zeu ((dN n 0).set 0 1) n (fun q i=>q=0∧i=0):=by
 refine⟨sM,fun x a=>?_,fun i q=>?_⟩
 ·rcases eY a with a|rfl
  ·rw [i7] at a;omega
  ·omega
 ·unfold bitS;rw [dI]
  by_cases h:i=0
  ·subst h;rw [eV (by rw [List.length_replicate];omega),fW];constructor
   ·intro h;exact⟨by cases q with|zero=>rfl|succ q=>simp [Nat.testBit_succ] at h,rfl⟩
   ·rintro ⟨rfl,-⟩;rfl
  ·rw [fK oM];constructor
   ·intro h;cases h1:(dN n 0)[i]? with
    |none=>rw [h1] at h;simp at h
    |some x =>
     have:=cX h1;rw [i7] at this;rw [h1,this.2] at h;simp at h
   ·rintro ⟨_,h1⟩;exact absurd h1 h
def memT (W:World) (g n:Nat):List Nat:=(List.range n).map fun j=>match W.cell? ⟨g,j,none⟩ with|some (.int _ z)=>z.toNat|_=>0
theorem memT_own (h:W.ownsRow base 3 1 (.slice (some g) n c) n (zas T))(hT:T.length=n):memT W g n=T:=by
 refine List.ext_getElem? fun j=>?_;unfold memT;rw [List.getElem?_map];rcases Nat.lt_or_ge j n with a|a
 ·rw [List.getElem?_range a,Option.map_some,h.cellAt j oM,show (zas T)[j]?=T[j]?.map (fun x=>Value.int .i64 (x:Nat)) by simp [zas]];rw [dC oM];simp
 ·rw [dZ (by simpa using a),dZ oM];rfl
theorem zdg (h:W.ownsRow base 3 1 (.slice (some g) n c) n (zas T))(hj:j<n):W.cell? ⟨g,j,none⟩=some (.int .i64 (T.getD j 0:Nat)):=by
 have a:=zfv h;have b:T.length=n:=by simpa [zas] using a
 rw [h.cellAt j oM,show (zas T)[j]?=T[j]?.map (fun x=>Value.int .i64 (x:Nat)) by simp [zas],dI,dC oM];simp
def RetSets (g N cc base:Nat) (Q:Nat->Nat->Prop) (w:World) (e:Ending) (w':World):Prop:=
 ∃ T':List Nat,e=.returned (.slice (some g) N cc)∧w'.ownsRow base 3 1 (.slice (some g) N cc) N (zas T')∧zeu T' N Q∧Frm (fun k=>k=g) w w'
section
variable {w:World} {lo hi n c m d m' d' L:Nat} {A B B':Option Addr} {s:Sys} {p:Aut}
theorem zfP {cc:Nat}  {Bs:Nat->Nat->Prop}(hS:zR w lo hi A n s)(hP:zI w lo hi B m B' m' p)(hv:zl s=true)(hp:zh p=true)(hL:L<64)(hN:N=p.next.length)
  (hg:hi<=base) (zjc:w.ownsRow base 3 1 (.slice (some g) N cc) N (zas T)) (hT:zeu T N Bs) :
  Calls Tryz.prog 265 #[.agg #[s.al,s.st,.slice A n c,p.al,.slice B m d,.slice B' m' d',L],.slice (some g) N cc] w (RetSets g N cc base (Cl s p L Bs) w):=by
 have O:=zcR hv;obtain⟨aW,aX⟩:=zQ hv;obtain⟨al,aa⟩:∃ al:Nat,Hid (s.al=al):=⟨s.al.toNat,by unfold Hid;omega⟩;have I:al<64:=oH aa.out;have aL:N<=12:=by have:=(zk hp).2.1;omega
 have a0:=(zjc.lt g rfl).1;have a2:=(zjc.lt g rfl).2;have HN:=za hN;have aB:=za (zcn (a:=al) (b:=L) tM tM);have a4:al&&&L<=al:=Nat.and_le_left;have Y:(al:Int) - ((al&&&L:Nat):Int)=((al - (al&&&L):Nat):Int):=oM;have ak:=za Y;clear Y;have H:=za (fun l=>sub_bit I hL l);have aY:=aB.out;clear hN
 go_enter Tryz.func265,Tryz.ntmps265
 go_upto_region 1 with fail
 generalize U0:w.alloc _=w1 at *;obtain⟨hw1,b1⟩:=fY U0;have k1:=b1.cell;clear U0;rw [aa.out] at k1;go_wp2_with fail
 rw [ak.out];refine (zU (al - (al&&&L)) tM _).mono ?_;rintro e w2 ⟨HA,hc,rfl,E,hx2⟩;have H:=za (fun l=>(sub_bit I hL l).trans (show l<6∧al.testBit l=true∧L.testBit l=false↔hidL s L l by unfold hidL;rw [aa.out];rfl));generalize letters (al - (al&&&L)) 6=hs at *;have a3:hs.length<=9223372036854775807:=(Reads.af E).len;have am:Frm (fun k=>k=g) w w2:=(hw1.trans hx2).ai;have av:=zg zjc (hw1.trans hx2);have aE:=b1.ext hx2;have o:=hT.clI (s:=s) (p:=p) (A:=L);clear zjc hT k1 b1;go_wp2_with fail
 go_loopw [6] (fun mv wr=>∃ (C:Bool) (T:List Nat),mv=.bool C∧Hid (ClI s p L Bs N T)∧Hid (C=false->∀ i l,i<N->hidL s L l->zdN s p T i l)∧wr.ownsRow base 3 1 (.slice (some g) N cc) N (zas T)∧Frm (fun k=>k=g) w2 wr) (fun mv wr=>room (memT wr g N)+(match mv with | .bool true=>1|_=>0))
 case atStart=>exact⟨true,T,rfl,za o,za (fun h=>by cases h),av,Frm.refl _ _⟩
 case round =>
  clear o av;obtain⟨C,T,rfl,o,f,zjc,t⟩:=hrel;have ao:=za (memT_own zjc o.out.len);cases C
  ·have aJ:=za (o.out.fin (f.out rfl));go_wp2_with fail
   go_ret;exact⟨T,rfl,zjc,aJ.out,am.trans t⟩
  ·go_wp2_with fail
   go_loopw [6,7] (fun mv iv wq=>∃ (C:Bool) (i:Nat) (v:List Nat),mv=.bool C∧iv=.int .i64 i∧i<=N∧Hid (ClI s p L Bs N v)∧Hid (room v<=room T∧(C=true->room v<room T))∧Hid (C=false->∀ i' l,i'<i->hidL s L l->zdN s p v i' l)∧wq.ownsRow base 3 1 (.slice (some g) N cc) N (zas v)∧Frm (fun k=>k=g) w2 wq) (fun _ iv _=>N - (intOf iv).toNat)
   case atStart=>exact⟨false,0,T,rfl,rfl,dD _,o,za ⟨cY _,fun h=>by cases h⟩,za (fun _ i' l h=>oM),zjc,t⟩
   case round =>
    clear o zjc t f;obtain⟨C,i,v,rfl,rfl,hi,o,r,f,zjc,t⟩:=hrel
    by_cases hlt:i<N
    ·have aP:(i:Int)<(N:Int):=oM;go_wp2_with fail
     go_loopw [6,8] (fun mv kv wq=>∃ (C:Bool) (k:Nat) (v:List Nat),mv=.bool C∧kv=.int .i64 k∧k<=hs.length∧Hid (ClI s p L Bs N v)∧Hid (room v<=room T∧(C=true->room v<room T))∧Hid (C=false->(∀ i' l,i'<i->hidL s L l->zdN s p v i' l)∧∀ (k' l:Nat),k'<k->hs[k']?=some l->zdN s p v i l)∧wq.ownsRow base 3 1 (.slice (some g) N cc) N (zas v)∧Frm (fun k=>k=g) w2 wq) (fun _ kv _=>hs.length - (intOf kv).toNat)
     case atStart=>exact⟨C,0,v,rfl,rfl,dD _,o,r,za (fun h=>⟨f.out h,fun k' l h=>oM⟩),zjc,t⟩
     case round =>
      clear o r f zjc t;obtain⟨C,k,v,rfl,rfl,hk,o,r,f,zjc,t⟩:=hrel
      by_cases hkl:k<hs.length
      ·have aO:(k:Int)<(hs.length:Int):=oM;obtain⟨l,U⟩:∃ l,hs[k]?=some l:=⟨_,dC hkl⟩;have M:=(H.out l).1 (cX U);have an:=M.1;have ab:aGo p i l<N:=by rw [HN.out];exact zfF hp (by rw [← HN.out];exact hlt) an
       obtain⟨gh,rfl,a1,-⟩:=zac E oM;have G:=zbd E t (fun b h1 e=>oH hw1.size);have cH:=zdg G hkl;rw [dI,U,fW] at cH;have CH:∀ W,Ext wr W->W.cell? ⟨gh,k,none⟩=some (.int .i64 (l:Nat)):=fun W hW=>hW.aa cH;have CB:∀ W,Ext wr W->∀ q,W.cell? ⟨w.heap.size,q,none⟩=#[Value.int .i64 s.al,.int .i64 s.st,.slice A n c,.int .i64 p.al,.slice B m d,.slice B' m' d',.int .i64 L][q]?:=fun W hW=>((aE.frm t oM).ext hW).cell;have CI:∀ W,Ext wr W->W.cell? ⟨g,i,none⟩=some (.int .i64 (v.getD i 0:Nat)):=fun W hW=>hW.aa (zdg zjc hlt);have az:=za (fun W (hW:Ext wr W)=>((hP.ext (hw1.trans hx2)).frm t (fun k h1 h2 e=>oM)).ext hW);have aA:=za (fun W (hW:Ext wr W)=>((hS.ext (hw1.trans hx2)).frm t (fun k h1 h2 e=>oM)).ext hW);have Hl:=za U;have a5:=cW wr;clear U cH G;go_wp2_with fail
       go_region_held3 (fun W=>Ext wr W) (first|assumption|(refine eR ?_;assumption)|(refine eE ?_ aM;assumption)|(refine eE ?_ aM;refine eR ?_;assumption)) (first|(go_at_call 172;refine (zcU (az.out _ ?_) hp (by rw [← HN.out];exact hlt) an).mono ?_;(first|assumption|(refine eR ?_;assumption));rintro e w3 ⟨rfl,hx3⟩))
       have aQ:Ext wr w3:=aM;obtain⟨j,hj⟩:∃ j,Hid (aGo p i l=j):=⟨_,rfl⟩;rw [hj.out] at ab ⊢;have CJ:∀ W,Ext wr W->W.cell? ⟨g,j,none⟩=some (.int .i64 (v.getD j 0:Nat)):=fun W hW=>hW.aa (zdg zjc ab);obtain⟨x,hx⟩:∃ x,Hid (v.getD i 0=x):=⟨_,rfl⟩;obtain⟨y,hy⟩:∃ y,Hid (v.getD j 0=y):=⟨_,rfl⟩;have hx16:x<65536:=by rw [← hx.out];exact zex o.out.lt i
       have au:y<65536:=by rw [← hy.out];exact zex o.out.lt j
       rw [hx.out] at CI;rw [hy.out] at CJ;have Q:zbI s.edges x (l:Int)<65536:=zhZ O _ _;obtain⟨z,hz⟩:∃ z,Hid (zbI s.edges x (l:Int)=z):=⟨_,rfl⟩;rw [hz.out] at Q;have aG:=zbz (a:=y) (b:=z) tM tM;have aN:(j:Int)<(N:Int):=oM;obtain⟨u,hu⟩:∃ u,Hid (y|||z=u):=⟨_,rfl⟩;have ar:u<65536:=by rw [← hu.out];exact eJ (n:=16) au Q
       rw [hu.out] at aG;go_wp2_with fail
       go_region_held3 (fun W=>Ext wr W) (first|assumption|(refine eR ?_;assumption)|(refine eE ?_ aM;assumption)|(refine eE ?_ aM;refine eR ?_;assumption)) (first|(go_at_call 241;refine (zeL (c:=c) (k0:=s.st.toNat) (aA.out _ ?_) O.2.2.1 (oH O.2.1) tM).mono ?_;(first|assumption|(refine eR ?_;assumption));rw [hz.out];rintro e w4 ⟨rfl,hx4⟩))
       have R:Ext wr w4:=aM;have cJ:=CJ w4 R;have V:=t.ext R;have D:=zg zjc R;have J:v.getD (aGo p i l) 0|||zbI s.edges (v.getD i 0) (l:Int)=u:=by rw [hj.out,hx.out,hy.out,hz.out,hu.out]
       have ai:=za J;have F:=o.out.step O hp HN.out hlt M;rw [J,hj.out] at F;have Z:=za F;clear J F CH CB CI CJ
       by_cases he:u=y
       ·have aC:=za (closedAt_of (T:=v) (p:=p) (i:=i) O M (by rw [ai.out,hj.out,hy.out,he]));have aF:((u:Int) != (y:Int))=false:=by rw [he];simp
        clear he;go_wp2_with fail
        go_roundw
        case rel=>exact⟨C,k+1,v,rfl,gM,oM,o,r,za (fun h=>⟨(f.out h).1,fun k' l' S hl'=>by
         rcases eU (gG S) with h1|rfl
         ·exact (f.out h).2 k' l' h1 hl'
         ·rw [Hl.out] at hl';obtain rfl:=Option.some.inj hl';exact aC.out⟩),D,V⟩
        case measure=>simp [intOf];omega
       ·have aF:((u:Int) != (y:Int))=true:=by simp;omega
        have ae:=room_set v j z (by rw [hy.out,hu.out];exact ar);rw [hy.out,hu.out] at ae;have X:=ae.2 (by rw [o.out.len];exact ab) he;have aj:=za X;have ap:=(D.stored j (.int .i64 (u:Nat))).1;rw [← zgl] at ap;have aZ:=D.frozenAt j;clear ae X he;go_wp2_with fail
        go_roundw
        case rel=>exact⟨true,k+1,v.set j u,rfl,gM,oM,za Z.out,za ⟨by have:=aj.out;have:=r.out.1;omega,fun _=>by have:=aj.out;have:=r.out.1;omega⟩,za (fun h=>by cases h),ap,V.trans (Frm.setCell _ g j _)⟩
        case measure=>simp [intOf];omega
      ·go_wp2_with fail
       go_roundw
       case rel=>exact⟨C,i+1,v,rfl,gM,oM,o,r,za (fun h i' l hi' U=>by
        rcases eU (gG hi') with h1|rfl
        ·exact (f.out h).1 i' l h1 U
        ·obtain⟨k',S⟩:=dX ((H.out l).2 U);exact (f.out h).2 k' l (by have:=(List.getElem?_eq_some_iff.1 S).1;omega) S),zjc,t⟩
       case measure=>simp [intOf];omega
    ·go_wp2_with fail
     have ad:=za (memT_own zjc o.out.len);go_roundw
     case rel=>exact⟨C,v,rfl,o,za (fun h i l hi U=>f.out h i l oM U),zjc,t⟩
     case measure =>
      rw [ao.out,ad.out];have h1:=r.out;cases C
      ·simp;omega
      ·have:=h1.2 rfl
       simp;omega
end
theorem Frm.grownG {T:Nat->Prop}  {row:Option Nat}(h:Frm T w W)(hg:W.grownBy W' row)(hr:∀ k,row=some k->w.heap.size<=k):Frm T w W':=
 ⟨hg.os.trans h.os,hg.tape.trans h.tape,hg.output.trans h.output,Nat.le_trans h.size hg.size,fun k hk hn=>(hg.block k (eH hk h.size) (fun e=>by have:=hr k e.symm;omega)).trans (h.block k hk hn)⟩
structure Gr2 (w0 W:World) (G:Nat) (al st:Int) (v:Value) (es:List Edg):Prop where
 blk:Blk W G 39 #[al,st,v]
 own:W.ownsRow w0.heap.size 103 3 v es.length (zu es)
 fr:Frm (fun k=>k=G) w0 W
 hG:G<w0.heap.size
theorem Gr2.ax (h:Gr2 w0 W G al st v es)(hb:Ext W W'):Gr2 w0 W' G al st v es:=⟨h.blk.ext hb,zg h.own hb,h.fr.ext hb,h.hG⟩
theorem Gr2.push {cap:Nat} {e:Edg}(h:Gr2 w0 W G al st v es) (zjc:W'.ownsRow w0.heap.size 103 3 (.slice (some g) (es.length+1) cap) (es.length+1) (zu es++[.int .i64 e.fr,.int .i64 e.le,.int .i64 e.ta]))
  (hg:W.grownBy W' v.ownBlock) :
  Hid (W'.cell? ⟨G,2,none⟩=some v)∧W'.frozen? ⟨G,2,none⟩=false∧Gr2 w0 (W'.setCell ⟨G,2,none⟩ (.slice (some g) (es.length+1) cap)) G al st (.slice (some g) (es.length+1) cap) (es++[e]):=by
 have a:Blk W' G 39 #[.int .i64 al,.int .i64 st,v]:=(hg.block G h.blk.lt (fun e=>by have:=(h.own.lt G e.symm).1;have:=h.hG;omega)).trans h.blk;have f:=(zjc.lt g rfl).1;have c:=h.hG;have d:Frm (fun k=>k=G) w0 W':=h.fr.grownG hg (fun k hk=>(h.own.lt k hk).1);refine⟨a.cell 2,a.frozen 2,⟨by simpa using a.ab 2 _,?_,d.cell rfl _,c⟩⟩;have:=zf zjc (Frm.setCell W' G 2 (.slice (some g) (es.length+1) cap)) (fun b hv hS=>by
  have:g=b:=by simpa [Value.ownBlock] using hv
  omega)
 rw [zch];simpa [zu] using this
theorem spec_l2Rank {p:Nat} (hp:p<=16)(hk:k<=p) :
  Calls Tryz.prog 250 #[.int .i64 (2 ^ p - 1:Nat),k] w fun e w'=>e=.returned (.int .i64 (k:Nat))∧w=w':=by
 have d:2 ^ p - 1<65536:=by have:=dV (show 1<=2 by omega) hp;have:(2:Nat) ^ 16=65536:=rfl;omega
 have HB:=za (fun i (a:i<p)=>show (2 ^ p - 1).testBit i=true by rw [Nat.testBit_two_pow_sub_one];simpa using a);generalize 2 ^ p - 1=F at *
 go_enter Tryz.func250,Tryz.ntmps250
 go_wp2_with fail
 go_loop [5,6] (fun v iv=>∃ i:Nat,iv=.int .i64 i∧i<=k∧v=.int .i64 i) (fun _ iv=>k - (intOf iv).toNat)
 case atStart=>exact⟨0,rfl,dD _,rfl⟩
 case round =>
  obtain⟨i,rfl,a,rfl⟩:=hrel
  by_cases hlt:i<k
  ·have b:(i:Int)<(k:Int):=oM;have c:=za (HB.out i oM);go_wp2_with (go_at_call 112;refine (zao F i tM _ oM).mono ?_;rw [c.out];rintro e w' ⟨rfl,rfl⟩)
   go_round
   case rel=>exact⟨i+1,gM,oM,gM⟩
   case measure=>simp [intOf];omega
  ·obtain rfl:i=k:=oM;go_wp2_with fail
   go_ret;exact⟨rfl,rfl⟩
section
variable {w W:World} {lo hi n c m d m' d':Nat} {A B B':Option Addr} {s:Sys} {p:Aut}
theorem yQ10a9 {P:Prop}(h:P:=by
 refine zb fun K hK=>?_;go_simp;refine hK.out _ _ ?_;refine ze ?_;go_wp2_with fail
 go_meet;obtain⟨w1,h1,h2⟩:=Hfin.out;exact⟨w1,rfl,h1,h2⟩
 ):P:=h
theorem spec_l2Keep {P:Nat}(h:zR w lo hi A n s)(hv:zl s=true)(hP:s.st=(P:Int))(hn:n<=1000000)(hhi:hi<=w.heap.size) :
  Calls Tryz.prog 225 #[.agg #[s.al,s.st,.slice A n c],.int .i64 (2 ^ P - 1:Nat)] w (RetSys w s):=by
 have am:=zcR hv;obtain⟨aj,ak,G,-⟩:=am;have C:P<=16:=oM;have J:s.st.toNat=P:=oM;rw [J] at G;have Hf:=za G;have HS:=za (fun W (hW:Ext w W)=>h.ext hW);have V:=za h.1;have Z:=za hP;have hF:2 ^ P - 1<65536:=by have:=dV (show 1<=2 by omega) C;have:(2:Nat) ^ 16=65536:=rfl;omega
 have E:=za (fun k W (U:k<=P)=>spec_l2Rank (w:=W) C U);have HB:=za (fun i (hi:i<P)=>show (2 ^ P - 1).testBit i=true by rw [Nat.testBit_two_pow_sub_one];simpa using hi);rw [hP];generalize 2 ^ P - 1=F at *;clear h hv hP aj ak G J
 go_enter Tryz.func225,Tryz.ntmps225
 go_upto_region 1 with fail
 generalize U0:(w.alloc _).alloc _=l at *;obtain⟨hx0,b1,b2⟩:=Ext.x2_ U0;clear U0;have CB:=b1.cells;have z:=cW l;have aK:=b2.lt;have L:=za (fun W=>E.out P W (cY _));have j:=z.drew;have ao:=(cW l.drew).alloc (.cells #[(0:Int),(0:Int),()] 39);have bG:=dT l.drew 39 #[(0:Int),(0:Int),()]
 go_cut [5] (fun v wx=>∃ w1,v=.pointer (some l.heap.size)∧Ext l w1∧Gr2 w1 wx l.heap.size s.al (P:Nat) (.slice none 0 0) [])
 case first =>
  have S:∃ w1,Ext l w1∧Gr2 w1 (l.alloc (.cells #[s.al,.int .i64 (P:Nat),()] 39)).drew l.heap.size s.al (P:Nat) (.slice none 0 0) []:=
   ⟨(l.alloc (.cells #[s.al,.int .i64 (P:Nat),()] 39)).drew,((cW _).alloc _).drew,dT l _ _,World.ownsRow_nil _ _ _ _,Frm.refl _ _,sM⟩
  have Hfin:=za S;have cG:=bG.cell;have fG:=bG.frozen;rw [show l.drew.heap.size=l.heap.size from rfl] at cG fG;clear S;refine uR (fun X=>Ext l X) [8] (zw.app [0,1,2,3,4] (zw.two 5 (zw.of [6,7,8]) 7 (zw.of [5,6,8]))) ?_;refine uQ ?_;refine zm (fun K hK=>?_) (fun K hK=>?_)
  ·go_simp;refine (L.out _).mono ?_;rintro e R ⟨rfl,rfl⟩;refine hK.out _ _ j ?_;refine pT ?_;refine uQ ?_;refine zd fun K hK=>?_;go_simp;refine hK.out _ _ (j.alloc _) ?_;refine pT ?_;exact yQ10a9
  ·go_simp;refine hK.out _ _ (j.alloc _) ?_;refine pT ?_;refine zd fun K hK=>?_;go_simp;refine (L.out _).mono ?_;rintro e R ⟨rfl,rfl⟩;refine hK.out _ _ (j.alloc _) ?_;refine pT ?_;refine uQ ?_;exact yQ10a9
 case rest =>
  obtain⟨w1,rfl,f,a⟩:=hcut;have aa:=za (fun W (hW:Ext w1 W)=>HS.out W (hx0.trans (f.trans hW)));have Y:∀ W,Frm (fun k=>k=l.heap.size) w1 W->∀ q,W.cell? ⟨w.heap.size,q,none⟩=#[Value.int .i64 s.al,.int .i64 (P:Nat),.slice A n c][q]?:=fun W hW=>((b1.ext f).frm hW oM).cell;have ax:=f.size;clear ao bG j CB z;go_wp2_with fail
  go_loopw [6] (fun iv wr=>∃ (k:Nat) (v:Value),iv=.int .i64 k∧k<=n∧Gr2 w1 wr l.heap.size s.al (P:Nat) v (s.edges.take k)) (fun iv _=>n - (intOf iv).toNat)
  case atStart=>exact⟨0,_,rfl,dD _,a⟩
  case round =>
   clear a;obtain⟨k,v,rfl,U,a⟩:=hrel;have k1:=Y wr a.fr
   by_cases hlt:k<n
   ·have aw:(k:Int)<(n:Int):=oM;have ah:=(aa.out w1 (cW _)).frm a.fr (fun k h1 h2 e=>oH hx0.size);obtain⟨g,o,x,rfl,av,au,hx,c0,c1,c2⟩:=ah.2.edge hlt;obtain⟨⟨f0,f1⟩,⟨l0,l1⟩,t0,t1⟩:=Hf.out x (cX hx.out);obtain⟨p,u⟩:∃ p:Nat,Hid (x.fr=p):=⟨x.fr.toNat,by unfold Hid;omega⟩;obtain⟨d,y⟩:∃ d:Nat,Hid (x.ta=d):=⟨x.ta.toNat,by unfold Hid;omega⟩;have M:p<P:=oH u.out;have Q:d<P:=oH y.out;rw [u.out] at c0;rw [y.out] at c2;have af:=za (fun W=>E.out p W oM);have ag:=za (fun W=>E.out d W oM);have ad:=za (HB.out p M);have ae:=za (HB.out d Q);have ap:=(cW wr).alloc (.cells #[p,x.le,d] 103);have be:=dT wr 103 #[p,x.le,d];have D:=a.ax ap;have aL:=za a.fr.size;have aN:=za (show zu (s.edges.take (k+1))=zu (s.edges.take k)++[.int .i64 p,.int .i64 x.le,.int .i64 d] by
     rw [dH,hx.out,eD,zch,← u.out,← y.out];rfl)
    have r:=za (show (s.edges.take k).length=k by rw [List.length_take];have:=V.out;omega);clear f0 f1 t0 t1 a;go_upto_region 6 with fail
    generalize hge:wr.heap.size=ge at *;have aB:=za hge;clear hge;generalize wr.alloc _=w2 at *;have ce:=be.cell;go_wp2_with (first
     |(go_at_call 112;with_reducible refine (zao F p tM _ oM).mono ?_;rw [ad.out];rintro e R ⟨rfl,rfl⟩)
     |(go_at_call 112;with_reducible refine (zao F d tM _ oM).mono ?_;rw [ae.out];rintro e R ⟨rfl,rfl⟩))
    have CE:=be.cells;have CG:=fun W (hW:Ext w2 W)=>(D.blk.ext hW).cell;have z:=cW w2;clear ce;refine uR (fun X=>Ext w2 X) [14,16] (zw.of [0,1,2,3,4,6,7,8,9,10,5,11,12,13,14,15,16]) ?_;refine uQ ?_;have B:=z.drew;refine zd fun K hK=>?_;go_simp;refine (af.out _).mono ?_;rintro e R ⟨rfl,rfl⟩;refine hK.out _ _ B ?_;refine pT ?_;refine uQ ?_;refine zd fun K hK=>?_;go_simp;refine (ag.out _).mono ?_;rintro e R ⟨rfl,rfl⟩;refine hK.out _ _ B ?_;refine pT ?_;refine uQ ?_;refine zd fun K hK=>?_;go_simp;refine hK.out _ _ (B.alloc _) ?_;refine pT ?_;refine zb fun K hK=>?_;have m:=D.ax B;have H:=m.own;rw [r.out] at H;refine zaL w1 w2.drew _ _ _ rfl 103 _ 3 24 Tryz.underlying37 zbg rfl dM v k (zu (s.edges.take k)) _ _ rfl rfl m.fr.size H rfl (by simp [Value.oneCell']) lM oM ?_;intro g8 cap8 w8 hown8 hg8 hat8 hlt8;refine hK.out _ _ ?_;refine pT ?_;refine uQ ?_;obtain⟨p1,p2,p3⟩:=m.push (e:=⟨p,x.le,d⟩) (W':=w8) (by rw [r.out];exact hown8) hg8;have aO:=p1.out;have ai:=za (show s.edges.take k++[⟨p,x.le,d⟩]=s.edges.take (k+1) by
     rw [dH,hx.out,eD,← u.out,← y.out])
    rw [ai.out,r.out] at p3;refine zb fun K hK=>?_;go_simp;refine hK.out _ _ ?_;refine ze ?_;clear hown8 hg8 hat8 H p1 m;generalize w8.setCell ⟨l.heap.size,2,none⟩ (.slice (some g8) (k+1) cap8)=aR at *;go_wp2_with fail
    go_roundw
    case rel=>exact⟨k+1,_,gM,oM,p3⟩
    case measure=>simp [intOf];omega
   ·obtain rfl:k=n:=oM;rw [dG (oH V.out)] at a;have t:=a.own;rw [← V.out] at t;obtain⟨I,c1,rfl⟩:=zi t;have T:=(b2.ext f).frm a.fr oM;have kz:=T.cell;have fz:=T.frozen;have kG:=a.blk.cell;have G:=zaD wr (w.heap.size+1) (.int .i64 s.al) (.int .i64 (P:Nat)) (.slice I k c1);have cf:=(zal T rfl (.int .i64 s.al) (.int .i64 (P:Nat)) (.slice I k c1)).cell;have aq:Ext w wr:=(hx0.trans f).frm a.fr (fun k U e=>oH hx0.size);have O:=za (show RetSys w s (.returned (.agg #[s.al,.int .i64 (P:Nat),.slice I k c1])) (((wr.setCell ⟨w.heap.size+1,0,none⟩ s.al).setCell ⟨w.heap.size+1,1,none⟩ (.int .i64 (P:Nat))).setCell ⟨w.heap.size+1,2,none⟩ (.slice I k c1)) from
     ⟨I,k,c1,by rw [Z.out],⟨V.out,zn (zf t G (fun b hv e=>zq t T dM hv e)) (hx0.trans f).size⟩,aq.frm G (fun k U e=>oM)⟩)
    clear G t;go_wp2_with fail
    exact bodyPost_ret (v:=.agg #[s.al,.int .i64 (P:Nat),.slice I k c1]) (by simp [results,Tryz.results225,go_sem,cf]) rfl O.out
end
theorem iface_nat (hs:zl s=true)(hp:zh p=true)(ht:zl t=true):iface s p t=(((s.al.toNat|||p.al.toNat)&&&t.al.toNat:Nat):Int):=by
 unfold iface;rw [hs,hp,ht];rfl
theorem zeV (h:0<=iface s p t):zl s=true∧zh p=true∧zl t=true:=by
 have h1:¬ iface s p t<0:=oM;rw [zgG] at h1;simpa using h1
end Go.Proofs.YtfcjhpodichpjaaGreatDoor
