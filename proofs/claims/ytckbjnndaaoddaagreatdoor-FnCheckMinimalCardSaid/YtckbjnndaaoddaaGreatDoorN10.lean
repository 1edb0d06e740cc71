/- The program' -/
import Derived.Test.YtckbjnndaaoddaaGreatDoorN09
set_option maxHeartbeats 4000000
set_option maxRecDepth 100000
namespace Go.Proofs.YtckbjnndaaoddaaGreatDoor
open Go Go.RowKit
open Blk renaming new->dX
open Bool renaming and_eq_true->dI
open Ext renaming drew->eV,refl->dB,trans->eJ,x1_->fY,x3_->jO
open List renaming eq_nil_of_length_eq_zero->dU,getD_eq_getElem?_getD->dF,getElem?_eq_getElem->dD,getElem?_eq_none->eC,getElem?_of_mem->eB,getElem?_set_ne->fM,getElem?_set_self->eX,map_cons->eY,mem_cons_of_mem->gQ,mem_cons_self->iF,mem_of_getElem?->dC,mem_of_mem_take->gU,mem_or_eq_of_mem_set->e8,mem_replicate->jK,replicate->dT,take_add_one->dO,take_of_length_le->dK
open Nat renaming div_eq_of_lt->jD,le_of_lt_succ->eQ,le_refl->dE,lt_of_lt_of_le->dY,lt_or_eq_of_le->eF,mod_eq_of_lt->gT,mul_comm->fO,or_lt_two_pow->eO,pow_le_pow_right->dV,zero_le->dG
open Option renaming getD_some->fL,toList_some->eD
variable {G N base c g i j l n q:Nat} {T ls v:List Nat} {W W' w w0:World} {a p:Aut} {al st:Int} {es:List Edg} {s:Sys}
section
variable {lo hi n c:Nat} {A:Option Addr} {s:Sys} {lo1 hi1 m1 d1 m1' d1':Nat} {B B':Option Addr} {a:Aut} {lo2 hi2 m2 d2 m2' d2':Nat} {C C':Option Addr} {p:Aut} {w:World}
theorem zeK (h:zO w lo hi A n s)(ha:zH w lo1 hi1 B m1 B' m1' a)(hp:zH w lo2 hi2 C m2 C' m2' p)(hT:Tab w) :
  Calls Tryz.prog 52 #[.agg #[s.al,s.st,.slice A n c],.agg #[a.al,.slice B m1 d1,.slice B' m1' d1'],.agg #[p.al,.slice C m2 d2,.slice C' m2' d2']] w fun e w'=>e=.returned (.tuple #[.string (zcb s a p),.bool (zca s a p)])∧Ext w w':=by
 have HT:=za (fun W (hW:Ext w W)=>hT.ext hW);have j:=za (fun W (hW:Ext w W)=>h.ext hW);have g:=za (fun W (hW:Ext w W)=>ha.ext hW);have i:=za (fun W (hW:Ext w W)=>hp.ext hW);have HS:=za (fun W (hW:Ext w W)=>zab (c:=c) (h.ext hW));have HA:=za (fun W (hW:Ext w W)=>zF _ _ _ _ d1 _ _ d1' _ _ (ha.ext hW));have HP:=za (fun W (hW:Ext w W)=>zF _ _ _ _ d2 _ _ d2' _ _ (hp.ext hW));clear h ha hp hT;have hw1:Ext w (((w.alloc (.cells #[s.al,s.st,.slice A n c] 38)).alloc (.cells #[a.al,.slice B m1 d1,.slice B' m1' d1'] 27)).alloc (.cells #[p.al,.slice C m2 d2,.slice C' m2' d2'] 27)):=(((dB w).alloc _).alloc _).alloc _;obtain⟨b1,b2,b3⟩:=zR (dB (((w.alloc (.cells #[s.al,s.st,.slice A n c] 38)).alloc (.cells #[a.al,.slice B m1 d1,.slice B' m1' d1'] 27)).alloc (.cells #[p.al,.slice C m2 d2,.slice C' m2' d2'] 27)))
 by_cases hT:zcF s a p=true
 ·have hr:=za (show zcb s a p=vioW [s] a p∧zca s a p=vioB [s] a p by unfold zcb zca;rw [hT];exact⟨rfl,sM⟩);unfold zcF at hT;simp only [dI] at hT;obtain⟨q,v,x⟩:=hT;have m:=za (show zC [s]=true by simp [zC,q]);have D:=za q;have r:=za v;have t:=za x;clear q v x
  go_enter Tryz.func52,Tryz.ntmps52
  go_upto_region 1 with fail
  generalize ((w.alloc _).alloc _).alloc _=w1 at *;have c1:=b1.cell;go_upto_region 3 with (first
   |(go_at_call 65;with_reducible refine (HS.out _ hw1).mono ?_;rw [D.out];rintro e w2 ⟨rfl,hx2⟩;have hw2:=hw1.trans hx2;have c2:=(b2.ext hx2).cell)
   |(go_at_call 25;with_reducible refine (HA.out _ hw2).mono ?_;rw [r.out];rintro e w3 ⟨rfl,hx3⟩;have hw3:=hw2.trans hx3;have c3:=(b3.ext (hx2.trans hx3)).cell)
   |(go_at_call 25;with_reducible refine (HP.out _ hw3).mono ?_;rw [t.out];rintro e w4 ⟨rfl,hx4⟩;have hw4:=hw3.trans hx4))
  have hx14:=hx2.trans (hx3.trans hx4);have F:=(b1.ext hx14).cell;have u:=dX w4 38 #[s.al,s.st,.slice A n c];have k:=(dB w4).alloc (.cells #[s.al,s.st,.slice A n c] 38);have G:=(b3.ext (hx14.trans k)).cell;have d:=b2.ext (hx14.trans k);have hw5:=hw4.trans k;obtain⟨l1,f,hsl⟩:=sl_one u (j.out _ hw5);have HF:=za (zgh (c:=1) (d2:=d2) (d2':=d2') hsl m.out (HT.out _ hw5) d (g.out _ hw5) r.out (i.out _ hw5) t.out);clear c1 c2 c3 b1 b2 b3 hsl u d;go_wp2_with (go_at_call 84;refine HF.out.mono ?_;rintro e H E;obtain⟨rfl,o⟩:=E.first (zcc _))
  go_ret2;exact⟨by rw [hr.out.1,hr.out.2];rfl,hw5.trans o⟩
 ·have b:zcF s a p=false:=by simpa using hT
  have hr:=za (show zcb s a p=ByteArray.empty∧zca s a p=false by unfold zcb zca;rw [b];exact⟨rfl,rfl⟩);have l:=za (show (zk s&&(zi a&&zi p))=false from b);clear hT b;cases f:zk s<;>cases h2:zi a<;>cases h3:zi p
  all_goals first
   |(exfalso;have:=l.out;rw [f,h2,h3] at this;cases this;done)
   |(have H1:=za f
     have y:=za h2;have z:=za h3;clear f h2 h3
     go_enter Tryz.func52,Tryz.ntmps52
     go_upto_region 1 with fail
     generalize ((w.alloc _).alloc _).alloc _=w1 at *;have c1:=b1.cell;go_wp2_with (first
      |(go_at_call 65;with_reducible refine (HS.out _ hw1).mono ?_;rw [H1.out];rintro e w2 ⟨rfl,hx2⟩;have hw2:=hw1.trans hx2;have c2:=(b2.ext hx2).cell)
      |(go_at_call 25;with_reducible refine (HA.out _ hw2).mono ?_;rw [y.out];rintro e w3 ⟨rfl,hx3⟩;have hw3:=hw2.trans hx3;have c3:=(b3.ext (hx2.trans hx3)).cell)
      |(go_at_call 25;with_reducible refine (HP.out _ hw3).mono ?_;rw [z.out];rintro e w4 ⟨rfl,hx4⟩;have hw4:=hw3.trans hx4))
     go_ret2;exact⟨by rw [hr.out.1,hr.out.2];rfl,by first|exact hw4|exact hw3|exact hw2⟩)
theorem zgO (h:zO w lo hi A n s)(ha:zH w lo1 hi1 B m1 B' m1' a)(hp:zH w lo2 hi2 C m2 C' m2' p)(hT:Tab w) :
  Calls Tryz.prog 26 #[.agg #[s.al,s.st,.slice A n c],.agg #[a.al,.slice B m1 d1,.slice B' m1' d1'],.agg #[p.al,.slice C m2 d2,.slice C' m2' d2']] w fun e w'=>e=.returned (.bool (zcH s a p))∧Ext w w':=by
 have HV:=za (fun W (hW:Ext w W)=>zeK (c:=c) (d1:=d1) (d1':=d1') (d2:=d2) (d2':=d2') (h.ext hW) (ha.ext hW) (hp.ext hW) (hT.ext hW));have HS:=za (fun W (hW:Ext w W)=>zab (c:=c) (h.ext hW));have HA:=za (fun W (hW:Ext w W)=>zF _ _ _ _ d1 _ _ d1' _ _ (ha.ext hW));have HP:=za (fun W (hW:Ext w W)=>zF _ _ _ _ d2 _ _ d2' _ _ (hp.ext hW));have hr:=za (show zcH s a p=((zk s&&(zi a&&zi p))&&!zca s a p) from zga s a p);clear h ha hp hT;generalize zca s a p=j at *;generalize zcb s a p=k at *;have hw1:Ext w (((w.alloc (.cells #[s.al,s.st,.slice A n c] 38)).alloc (.cells #[a.al,.slice B m1 d1,.slice B' m1' d1'] 27)).alloc (.cells #[p.al,.slice C m2 d2,.slice C' m2' d2'] 27)):=(((dB w).alloc _).alloc _).alloc _;obtain⟨b1,b2,b3⟩:=zR (dB (((w.alloc (.cells #[s.al,s.st,.slice A n c] 38)).alloc (.cells #[a.al,.slice B m1 d1,.slice B' m1' d1'] 27)).alloc (.cells #[p.al,.slice C m2 d2,.slice C' m2' d2'] 27)));cases h1:zk s<;>cases h2:zi a<;>cases h3:zi p<;>cases j
 all_goals
  have H1:=za h1;have b:=za h2;have d:=za h3;clear h1 h2 h3
  go_enter Tryz.func26,Tryz.ntmps26
  go_upto_region 1 with fail
  generalize ((w.alloc _).alloc _).alloc _=w1 at *;have c1:=b1.cell;have c2:=b2.cell;have c3:=b3.cell;go_wp2_with (first
   |(go_at_call 52;refine (HV.out _ hw1).mono (mQ fun w2 hx2=>?_);have hw2:=hw1.trans hx2;have f:=(b1.ext hx2).cell)
   |(go_at_call 65;with_reducible refine (HS.out _ hw2).mono ?_;rw [H1.out];rintro e w3 ⟨rfl,hx3⟩;have hw3:=hw2.trans hx3;have g:=(b2.ext (hx2.trans hx3)).cell)
   |(go_at_call 25;with_reducible refine (HA.out _ hw3).mono ?_;rw [b.out];rintro e w4 ⟨rfl,hx4⟩;have hw4:=hw3.trans hx4;have i:=(b3.ext (hx2.trans (hx3.trans hx4))).cell)
   |(go_at_call 25;with_reducible refine (HP.out _ hw4).mono ?_;rw [d.out];rintro e w5 ⟨rfl,hx5⟩;have hw5:=hw4.trans hx5))
  go_ret;exact⟨zj (by rw [hr.out,H1.out,b.out,d.out];rfl),by first|exact hw5|exact hw4|exact hw3⟩
variable {k:Nat} {ss:List Sys}
theorem zeJ (h:zeB w lo hi A k ss)(hp:zH w lo2 hi2 C m2 C' m2' p)(hT:Tab w) :
  Calls Tryz.prog 30 #[.slice A k c,.agg #[p.al,.slice C m2 d2,.slice C' m2' d2']] w fun e w'=>e=.returned (.tuple #[.string (zaZ ss p),.bool (zcq ss p)])∧Ext w w':=by
 have HS:=za (fun W (hW:Ext w W)=>h.ext hW);have HP:=za (fun W (hW:Ext w W)=>hp.ext hW);have HT:=za (fun W (hW:Ext w W)=>hT.ext hW);clear h hp hT;have hw1:Ext w (w.alloc (.cells #[p.al,.slice C m2 d2,.slice C' m2' d2'] 27)):=(dB w).alloc _;have b1:=dX w 27 #[p.al,.slice C m2 d2,.slice C' m2' d2'];cases hA:zC ss
 ·have hr:=za (show zaZ ss p=ByteArray.empty∧zcq ss p=false by unfold zaZ zcq zdc;rw [hA];exact⟨rfl,rfl⟩);have HA:=za hA;clear hA
  go_enter Tryz.func30,Tryz.ntmps30
  go_upto_region 1 with fail
  generalize w.alloc _=w1 at *;go_wp2_with (go_at_call 78;refine (zaD (HS.out _ hw1)).mono ?_;rw [HA.out];rintro e w2 ⟨rfl,hx2⟩)
  go_ret2;exact⟨by rw [hr.out.1,hr.out.2];rfl,hw1.trans hx2⟩
 ·cases hV:zi p
  ·have hr:=za (show zaZ ss p=ByteArray.empty∧zcq ss p=false by unfold zaZ zcq zdc;rw [hA,hV];exact⟨rfl,rfl⟩);have HV:=za hV;have HA:=za hA;clear hA hV
   go_enter Tryz.func30,Tryz.ntmps30
   go_upto_region 1 with fail
   generalize w.alloc _=w1 at *;go_wp2_with (first
    |(go_at_call 78;refine (zaD (HS.out _ hw1)).mono ?_;rw [HA.out];rintro e w2 ⟨rfl,hx2⟩;have hw2:=hw1.trans hx2;have c2:=(b1.ext hx2).cell)
    |(go_at_call 25;refine (zF _ _ _ _ _ _ _ _ _ _ (HP.out _ hw2)).mono ?_;rw [HV.out];rintro e w3 ⟨rfl,hx3⟩;have hw3:=hw2.trans hx3))
   go_ret2;exact⟨by rw [hr.out.1,hr.out.2];rfl,hw3⟩
  ·have hr:=za (show zaZ ss p=vioW ss free p∧zcq ss p=vioB ss free p by unfold zaZ zcq zdc;rw [hA,hV];exact⟨rfl,sM⟩);have HV:=za hV;have HA:=za hA;clear hA hV
   go_enter Tryz.func30,Tryz.ntmps30
   go_upto_region 1 with fail
   generalize w.alloc _=w1 at *;go_wp2_with (first
    |(go_at_call 78;refine (zaD (HS.out _ hw1)).mono ?_;rw [HA.out];rintro e w2 ⟨rfl,hx2⟩;have hw2:=hw1.trans hx2;have c2:=(b1.ext hx2).cell)
    |(go_at_call 25;refine (zF _ _ _ _ _ _ _ _ _ _ (HP.out _ hw2)).mono ?_;rw [HV.out];rintro e w3 ⟨rfl,hx3⟩;have hw3:=hw2.trans hx3;have c3:=(b1.ext (hx2.trans hx3)).cell)
    |(go_at_call 84;refine (zeh (c:=c) (d2:=d2) (d2':=d2') (HS.out _ hw3) HA.out (HT.out _ hw3) (HP.out _ hw3) HV.out).mono ?_;rintro e w4 a;obtain⟨rfl,hx4⟩:=a.first (zcc _)))
   go_ret2;exact⟨by rw [hr.out.1,hr.out.2];rfl,hw3.trans hx4⟩
theorem zhv (h:zeB w lo hi A k ss)(hp:zH w lo2 hi2 C m2 C' m2' p)(hT:Tab w) :
  Calls Tryz.prog 28 #[.slice A k c,.agg #[p.al,.slice C m2 d2,.slice C' m2' d2']] w fun e w'=>e=.returned (.bool (zcn ss p))∧Ext w w':=by
 have HV:=za (fun W (hW:Ext w W)=>zeJ (c:=c) (d2:=d2) (d2':=d2') (h.ext hW) (hp.ext hW) (hT.ext hW));have HS:=za (fun W (hW:Ext w W)=>h.ext hW);have HP:=za (fun W (hW:Ext w W)=>hp.ext hW);have hr:=za (show zcn ss p=(zC ss&&zi p&&!zcq ss p) from zgH ss p);clear h hp hT;generalize zcq ss p=b at *;generalize zaZ ss p=d at *;have hw1:Ext w (w.alloc (.cells #[p.al,.slice C m2 d2,.slice C' m2' d2'] 27)):=(dB w).alloc _;have b1:=dX w 27 #[p.al,.slice C m2 d2,.slice C' m2' d2'];cases hA:zC ss<;>cases hVv:zi p<;>cases b
 all_goals
  have HA:=za (show zC ss=_ from hA);have a:=za hVv;clear hA hVv
  go_enter Tryz.func28,Tryz.ntmps28
  go_upto_region 1 with fail
  generalize w.alloc _=w1 at *;have c1:=b1.cell;go_wp2_with (first
   |(go_at_call 30;refine (HV.out _ hw1).mono (mQ fun w2 hx2=>?_);have hw2:=hw1.trans hx2)
   |(go_at_call 78;refine (zaD (HS.out _ hw2)).mono ?_;rw [HA.out];rintro e w3 ⟨rfl,hx3⟩;have hw3:=hw2.trans hx3;have c3:=(b1.ext (hx2.trans hx3)).cell)
   |(go_at_call 25;refine (zF _ _ _ _ _ _ _ _ _ _ (HP.out _ hw3)).mono ?_;rw [a.out];rintro e w4 ⟨rfl,hx4⟩;have hw4:=hw3.trans hx4))
  go_ret;exact⟨zj (by rw [hr.out,HA.out,a.out];rfl),by first|exact hw4|exact hw3⟩
theorem zfj (h:zO w lo hi A n s)(hp:zH w lo2 hi2 C m2 C' m2' p)(hT:Tab w) :
  Calls Tryz.prog 27 #[.agg #[s.al,s.st,.slice A n c],.agg #[p.al,.slice C m2 d2,.slice C' m2' d2']] w fun e w'=>e=.returned (.bool (zcn [s] p))∧Ext w w':=by
 have HS:=za (fun W (hW:Ext w W)=>h.ext hW);have HP:=za (fun W (hW:Ext w W)=>hp.ext hW);have HT:=za (fun W (hW:Ext w W)=>hT.ext hW);clear h hp hT
 go_enter Tryz.func27,Tryz.ntmps27
 go_upto_region 1 with fail
 generalize U0:(w.alloc _).alloc _=w1 at *;obtain⟨hw1,b1,b2⟩:=Ext.x2_ U0;clear U0;have c1:=b1.cell;have b:=dX w1 38 #[s.al,s.st,.slice A n c];have a:=(dB w1).alloc (.cells #[s.al,s.st,.slice A n c] 38);have c2:=(b2.ext a).cell;have hw2:=hw1.trans a;obtain⟨l1,d,hsl⟩:=sl_one b (HS.out _ hw2);go_wp2_with (go_at_call 28;refine (zhv hsl (HP.out _ hw2) (HT.out _ hw2)).mono (mQ fun w3 hx3=>?_))
 go_ret;exact⟨zj rfl,hw2.trans hx3⟩
end
def three (ss:List Sys) (p:Aut):Bool:=decide (ss.length=3)&&(zC ss&&zi p)
def iface (s:Sys) (p:Aut) (t:Sys):Int:=if (zk s&&(zi p&&zk t))=true then (((s.al.toNat|||p.al.toNat)&&&t.al.toNat:Nat):Int) else -1
section
variable {lo hi n c:Nat} {A:Option Addr} {s:Sys} {lo1 hi1 m1 d1 m1' d1':Nat} {B B':Option Addr} {p:Aut} {lo2 hi2 k c2:Nat} {C:Option Addr} {t:Sys} {w:World}
theorem zbc (h:zO w lo hi A n s)(hp:zH w lo1 hi1 B m1 B' m1' p)(ht:zO w lo2 hi2 C k t) :
  Calls Tryz.prog 95 #[.agg #[s.al,s.st,.slice A n c],.agg #[p.al,.slice B m1 d1,.slice B' m1' d1'],.agg #[t.al,t.st,.slice C k c2]] w fun e w'=>e=.returned (.int .i64 (iface s p t))∧Ext w w':=by
 have HS:=za (fun W (hW:Ext w W)=>zak (c:=c) (h.ext hW));have HP:=za (fun W (hW:Ext w W)=>zI _ _ _ _ d1 _ _ d1' _ _ (hp.ext hW));have HT:=za (fun W (hW:Ext w W)=>zak (c:=c2) (ht.ext hW));clear h hp ht;cases h1:zk s<;>cases h2:zi p<;>cases h3:zk t
 case true.true.true =>
  have H1:=za h1;have f:=za h2;have g:=za h3;have l:=zT h1;have m:=(zl h2).1;have o:=zT h3;obtain⟨a,i⟩:∃ a:Nat,Hid (s.al=a):=⟨s.al.toNat,by unfold Hid;omega⟩;obtain⟨b,j⟩:∃ a:Nat,Hid (p.al=a):=⟨p.al.toNat,by unfold Hid;omega⟩;obtain⟨d,hd⟩:∃ a:Nat,Hid (t.al=a):=⟨t.al.toNat,by unfold Hid;omega⟩;have hr:=za (show iface s p t=((((a|||b)&&&d:Nat)):Int) by unfold iface;rw [h1,h2,h3,i.out,j.out,hd.out];rfl);rw [i.out] at l;rw [j.out] at m;rw [hd.out] at o;have r:a<=63:=oM;have u:b<=63:=oM;have v:d<=63:=oM;have q:=eO (n:=6) (x:=a) (y:=b) oM oM;have D:=zbE (a:=a) (b:=b) tM tM;have z:=zbO (a:=a|||b) (b:=d) tM tM;clear h1 h2 h3 l m o q;rw [i.out] at HS ⊢;rw [j.out] at HP ⊢;rw [hd.out] at HT ⊢
  go_enter Tryz.func95,Tryz.ntmps95
  go_upto_region 1 with fail
  generalize U0:((w.alloc _).alloc _).alloc _=w1 at *;obtain⟨hw1,b1,b2,b3⟩:=jO U0;clear U0;have c1:=b1.cell;go_wp2_with (first
   |(go_at_call 185;with_reducible refine (HS.out _ hw1).mono ?_;rw [H1.out];rintro e w2 ⟨rfl,hx2⟩;have hw2:=hw1.trans hx2;have c2:=(b2.ext hx2).cell)
   |(go_at_call 79;with_reducible refine (HP.out _ hw2).mono ?_;rw [f.out];rintro e w3 ⟨rfl,hx3⟩;have hw3:=hw2.trans hx3;have c3:=(b3.ext (hx2.trans hx3)).cell)
   |(go_at_call 185;with_reducible refine (HT.out _ hw3).mono ?_;rw [g.out];rintro e w4 ⟨rfl,hx4⟩;have hw4:=hw3.trans hx4;have E:=(b1.ext (hx2.trans (hx3.trans hx4))).cell;have F:=(b2.ext (hx2.trans (hx3.trans hx4))).cell;have G:=(b3.ext (hx2.trans (hx3.trans hx4))).cell))
  go_ret;exact⟨zD (by rw [hr.out]),hw4⟩
 all_goals
  have hr:=za (show iface s p t = -1 by unfold iface;rw [h1,h2,h3];rfl);have H1:=za h1;have f:=za h2;have g:=za h3;clear h1 h2 h3
  go_enter Tryz.func95,Tryz.ntmps95
  go_upto_region 1 with fail
  generalize U0:((w.alloc _).alloc _).alloc _=w1 at *;obtain⟨hw1,b1,b2,b3⟩:=jO U0;clear U0;have c1:=b1.cell;go_wp2_with (first
   |(go_at_call 185;with_reducible refine (HS.out _ hw1).mono ?_;rw [H1.out];rintro e w2 ⟨rfl,hx2⟩;have hw2:=hw1.trans hx2;have c2:=(b2.ext hx2).cell)
   |(go_at_call 79;with_reducible refine (HP.out _ hw2).mono ?_;rw [f.out];rintro e w3 ⟨rfl,hx3⟩;have hw3:=hw2.trans hx3;have c3:=(b3.ext (hx2.trans hx3)).cell)
   |(go_at_call 185;with_reducible refine (HT.out _ hw3).mono ?_;rw [g.out];rintro e w4 ⟨rfl,hx4⟩;have hw4:=hw3.trans hx4))
  go_ret;exact⟨zD (by rw [hr.out]),by first|exact hw4|exact hw3|exact hw2⟩
theorem zgf (h:zO w lo hi A n s)(hp:zH w lo1 hi1 B m1 B' m1' p)(ht:zO w lo2 hi2 C k t) :
  Calls Tryz.prog 83 #[.agg #[s.al,s.st,.slice A n c],.agg #[p.al,.slice B m1 d1,.slice B' m1' d1'],.agg #[t.al,t.st,.slice C k c2]] w fun e w'=>e=.returned (.int .i64 (iface s p t))∧Ext w w':=by
 have HS:=za (fun W (hW:Ext w W)=>zab (c:=c) (h.ext hW));have HP:=za (fun W (hW:Ext w W)=>zF _ _ _ _ d1 _ _ d1' _ _ (hp.ext hW));have HT:=za (fun W (hW:Ext w W)=>zab (c:=c2) (ht.ext hW));clear h hp ht;cases h1:zk s<;>cases h2:zi p<;>cases h3:zk t
 case true.true.true =>
  have H1:=za h1;have f:=za h2;have g:=za h3;have l:=zT h1;have m:=(zl h2).1;have o:=zT h3;obtain⟨a,i⟩:∃ a:Nat,Hid (s.al=a):=⟨s.al.toNat,by unfold Hid;omega⟩;obtain⟨b,j⟩:∃ a:Nat,Hid (p.al=a):=⟨p.al.toNat,by unfold Hid;omega⟩;obtain⟨d,hd⟩:∃ a:Nat,Hid (t.al=a):=⟨t.al.toNat,by unfold Hid;omega⟩;have hr:=za (show iface s p t=((((a|||b)&&&d:Nat)):Int) by unfold iface;rw [h1,h2,h3,i.out,j.out,hd.out];rfl);rw [i.out] at l;rw [j.out] at m;rw [hd.out] at o;have r:a<=63:=oM;have u:b<=63:=oM;have v:d<=63:=oM;have q:=eO (n:=6) (x:=a) (y:=b) oM oM;have D:=zbE (a:=a) (b:=b) tM tM;have z:=zbO (a:=a|||b) (b:=d) tM tM;clear h1 h2 h3 l m o q;rw [i.out] at HS ⊢;rw [j.out] at HP ⊢;rw [hd.out] at HT ⊢
  go_enter Tryz.func83,Tryz.ntmps83
  go_upto_region 1 with fail
  generalize U0:((w.alloc _).alloc _).alloc _=w1 at *;obtain⟨hw1,b1,b2,b3⟩:=jO U0;clear U0;have c1:=b1.cell;go_wp2_with (first
   |(go_at_call 65;with_reducible refine (HS.out _ hw1).mono ?_;rw [H1.out];rintro e w2 ⟨rfl,hx2⟩;have hw2:=hw1.trans hx2;have c2:=(b2.ext hx2).cell)
   |(go_at_call 25;with_reducible refine (HP.out _ hw2).mono ?_;rw [f.out];rintro e w3 ⟨rfl,hx3⟩;have hw3:=hw2.trans hx3;have c3:=(b3.ext (hx2.trans hx3)).cell)
   |(go_at_call 65;with_reducible refine (HT.out _ hw3).mono ?_;rw [g.out];rintro e w4 ⟨rfl,hx4⟩;have hw4:=hw3.trans hx4;have E:=(b1.ext (hx2.trans (hx3.trans hx4))).cell;have F:=(b2.ext (hx2.trans (hx3.trans hx4))).cell;have G:=(b3.ext (hx2.trans (hx3.trans hx4))).cell))
  go_ret;exact⟨zD (by rw [hr.out]),hw4⟩
 all_goals
  have hr:=za (show iface s p t = -1 by unfold iface;rw [h1,h2,h3];rfl);have H1:=za h1;have f:=za h2;have g:=za h3;clear h1 h2 h3
  go_enter Tryz.func83,Tryz.ntmps83
  go_upto_region 1 with fail
  generalize U0:((w.alloc _).alloc _).alloc _=w1 at *;obtain⟨hw1,b1,b2,b3⟩:=jO U0;clear U0;have c1:=b1.cell;go_wp2_with (first
   |(go_at_call 65;with_reducible refine (HS.out _ hw1).mono ?_;rw [H1.out];rintro e w2 ⟨rfl,hx2⟩;have hw2:=hw1.trans hx2;have c2:=(b2.ext hx2).cell)
   |(go_at_call 25;with_reducible refine (HP.out _ hw2).mono ?_;rw [f.out];rintro e w3 ⟨rfl,hx3⟩;have hw3:=hw2.trans hx3;have c3:=(b3.ext (hx2.trans hx3)).cell)
   |(go_at_call 65;with_reducible refine (HT.out _ hw3).mono ?_;rw [g.out];rintro e w4 ⟨rfl,hx4⟩;have hw4:=hw3.trans hx4))
  go_ret;exact⟨zD (by rw [hr.out]),by first|exact hw4|exact hw3|exact hw2⟩
end
theorem zfd {w':World} {cs ds es fs:Array Value} {t u v x:TypeId}(h:Ext ((((w.alloc (.cells cs t)).alloc (.cells ds u)).alloc (.cells es v)).alloc (.cells fs x)) w'):Blk w' w.heap.size t cs∧Blk w' (w.heap.size+1) u ds∧Blk w' (w.heap.size+1+1) v es∧Blk w' (w.heap.size+1+1+1) x fs:=by
 have a:=zR (((dB _).alloc _).trans h);refine⟨a.1,a.2.1,a.2.2,?_⟩;have:=zbP h;simpa using this
noncomputable def zbY (s t:Sys) (p a:Aut):Int:=if iface s p t<0∨zi a=false then 1 else if a.al≠iface s p t then 2 else if zcH s a p=false then 3 else if zcn [t] a=false then 4 else 0
section
variable {lo hi n c:Nat} {A:Option Addr} {s:Sys} {lo1 hi1 m1 d1 m1' d1':Nat} {B B':Option Addr} {p:Aut} {lo2 hi2 k c2:Nat} {C:Option Addr} {t:Sys} {w:World}
variable {lo3 hi3 m2 d2 m2' d2':Nat} {D D':Option Addr} {a:Aut}
theorem yN10a4 {P:Prop}(h:P:=by
 go_enter Tryz.func98,Tryz.ntmps98
 go_upto_region 1 with fail
 generalize (((w.alloc _).alloc _).alloc _).alloc _=w1 at *;have c1:=b1.cell;have c2:=b2.cell;have c3:=b3.cell;go_wp2_with (first
  |(go_at_call 95;with_reducible refine (HI.out _ hw1).mono (mQ fun w2 hx2=>?_);have hw2:=hw1.trans hx2;have c42:=(b4.ext hx2).cell)
  |(go_at_call 79;with_reducible refine (HA.out _ hw2).mono ?_;rw [H1.out];rintro e w3 ⟨rfl,hx3⟩;have hx13:=hx2.trans hx3;have hw3:=hw1.trans hx13;have c13:=(b1.ext hx13).cell;have c33:=(b3.ext hx13).cell;have c43:=(b4.ext hx13).cell)
  |(go_at_call 80;with_reducible refine (HU.out _ hw3).mono (mQ fun w4 hx4=>?_);have hx14:=hx13.trans hx4;have hw4:=hw1.trans hx14;have c24:=(b2.ext hx14).cell;have c44:=(b4.ext hx14).cell)
  |(go_at_call 81;with_reducible refine (HK.out _ hw4).mono (mQ fun w5 hx5=>?_);have hw5:=hw4.trans hx5))
 go_ret;exact⟨zD (by rw [hr.out];try rfl),by first|exact hw5|exact hw4|exact hw3|exact hw2⟩
 ):P:=h
theorem zei (h:zO w lo hi A n s)(ht:zO w lo2 hi2 C k t)(hp:zH w lo1 hi1 B m1 B' m1' p)(ha:zH w lo3 hi3 D m2 D' m2' a) :
  Calls Tryz.prog 98 #[.agg #[s.al,s.st,.slice A n c],.agg #[t.al,t.st,.slice C k c2],.agg #[p.al,.slice B m1 d1,.slice B' m1' d1'],.agg #[a.al,.slice D m2 d2,.slice D' m2' d2']] w fun e w'=>e=.returned (.int .i64 (zbY s t p a))∧Ext w w':=by
 have HI:=za (fun W (hW:Ext w W)=>zbc (c:=c) (d1:=d1) (d1':=d1') (c2:=c2) (h.ext hW) (hp.ext hW) (ht.ext hW));have HA:=za (fun W (hW:Ext w W)=>zI _ _ _ _ d2 _ _ d2' _ _ (ha.ext hW));have HU:=za (fun W (hW:Ext w W)=>zha (c:=c) (d1:=d2) (d1':=d2') (d2:=d1) (d2':=d1') (h.ext hW) (ha.ext hW) (hp.ext hW));have HK:=za (fun W (hW:Ext w W)=>zfv (c:=c2) (d2:=d2) (d2':=d2') (ht.ext hW) (ha.ext hW));have hr:=za (show zbY s t p a=if iface s p t<0∨zi a=false then 1 else if a.al≠iface s p t then 2 else if zcH s a p=false then 3 else if zcn [t] a=false then 4 else 0 from rfl);clear h hp ht ha;have hw1:Ext w ((((w.alloc (.cells #[s.al,s.st,.slice A n c] 38)).alloc (.cells #[t.al,t.st,.slice C k c2] 38)).alloc (.cells #[p.al,.slice B m1 d1,.slice B' m1' d1'] 27)).alloc (.cells #[a.al,.slice D m2 d2,.slice D' m2' d2'] 27)):=((((dB w).alloc _).alloc _).alloc _).alloc _;obtain⟨b1,b2,b3,b4⟩:=zfd (dB ((((w.alloc (.cells #[s.al,s.st,.slice A n c] 38)).alloc (.cells #[t.al,t.st,.slice C k c2] 38)).alloc (.cells #[p.al,.slice B m1 d1,.slice B' m1' d1'] 27)).alloc (.cells #[a.al,.slice D m2 d2,.slice D' m2' d2'] 27)));generalize iface s p t=I at *;generalize zcH s a p=u at *;generalize zcn [t] a=v at *
 by_cases hI:I<0
 ·rw [if_pos (Or.inl hI)] at hr;obtain⟨y,H1⟩:∃ y,Hid (zi a=y):=⟨_,rfl⟩;have g:=za hI;exact yN10a4
 have b:¬ I<0:=hI;have f:0<=I:=oM;clear hI;cases h1:zi a
 ·rw [h1,if_pos (Or.inr rfl)] at hr;have H1:=za h1;clear h1;exact yN10a4
 rw [h1,if_neg (by rintro (h|h);exact b h;cases h)] at hr;have H1:=za h1;clear h1
 by_cases h2:a.al=I
 ·rw [if_neg (fun hn=>hn h2)] at hr;subst h2;cases u<;>cases v
  all_goals
   have i:=za (rfl:true=true);have j:=za (rfl:true=true);exact yN10a4
 ·rw [if_pos h2] at hr;have d:(a.al==I)=false:=by simpa using h2
  exact yN10a4
theorem yN10a5 {P:Prop}(h:P:=by
 go_enter Tryz.func29,Tryz.ntmps29
 go_upto_region 1 with fail
 generalize (((w.alloc _).alloc _).alloc _).alloc _=w1 at *;have c1:=b1.cell;have c2:=b2.cell;have c3:=b3.cell;go_wp2_with (first
  |(go_at_call 83;with_reducible refine (HI.out _ hw1).mono (mQ fun w2 hx2=>?_);have hw2:=hw1.trans hx2;have c42:=(b4.ext hx2).cell)
  |(go_at_call 25;with_reducible refine (HA.out _ hw2).mono ?_;rw [H1.out];rintro e w3 ⟨rfl,hx3⟩;have hx13:=hx2.trans hx3;have hw3:=hw1.trans hx13;have c13:=(b1.ext hx13).cell;have c33:=(b3.ext hx13).cell;have c43:=(b4.ext hx13).cell)
  |(go_at_call 26;with_reducible refine (HU.out _ hw3).mono (mQ fun w4 hx4=>?_);have hx14:=hx13.trans hx4;have hw4:=hw1.trans hx14;have c24:=(b2.ext hx14).cell;have c44:=(b4.ext hx14).cell)
  |(go_at_call 27;with_reducible refine (HK.out _ hw4).mono (mQ fun w5 hx5=>?_);have hw5:=hw4.trans hx5))
 go_ret;exact⟨zD (by rw [hr.out];try rfl),by first|exact hw5|exact hw4|exact hw3|exact hw2⟩
 ):P:=h
theorem zef (h:zO w lo hi A n s)(ht:zO w lo2 hi2 C k t)(hp:zH w lo1 hi1 B m1 B' m1' p)(ha:zH w lo3 hi3 D m2 D' m2' a)(hT:Tab w) :
  Calls Tryz.prog 29 #[.agg #[s.al,s.st,.slice A n c],.agg #[t.al,t.st,.slice C k c2],.agg #[p.al,.slice B m1 d1,.slice B' m1' d1'],.agg #[a.al,.slice D m2 d2,.slice D' m2' d2']] w fun e w'=>e=.returned (.int .i64 (zbY s t p a))∧Ext w w':=by
 have HI:=za (fun W (hW:Ext w W)=>zgf (c:=c) (d1:=d1) (d1':=d1') (c2:=c2) (h.ext hW) (hp.ext hW) (ht.ext hW));have HA:=za (fun W (hW:Ext w W)=>zF _ _ _ _ d2 _ _ d2' _ _ (ha.ext hW));have HU:=za (fun W (hW:Ext w W)=>zgO (c:=c) (d1:=d2) (d1':=d2') (d2:=d1) (d2':=d1') (h.ext hW) (ha.ext hW) (hp.ext hW) (hT.ext hW));have HK:=za (fun W (hW:Ext w W)=>zfj (c:=c2) (d2:=d2) (d2':=d2') (ht.ext hW) (ha.ext hW) (hT.ext hW));have hr:=za (show zbY s t p a=if iface s p t<0∨zi a=false then 1 else if a.al≠iface s p t then 2 else if zcH s a p=false then 3 else if zcn [t] a=false then 4 else 0 from rfl);clear h hp ht ha;have hw1:Ext w ((((w.alloc (.cells #[s.al,s.st,.slice A n c] 38)).alloc (.cells #[t.al,t.st,.slice C k c2] 38)).alloc (.cells #[p.al,.slice B m1 d1,.slice B' m1' d1'] 27)).alloc (.cells #[a.al,.slice D m2 d2,.slice D' m2' d2'] 27)):=((((dB w).alloc _).alloc _).alloc _).alloc _;obtain⟨b1,b2,b3,b4⟩:=zfd (dB ((((w.alloc (.cells #[s.al,s.st,.slice A n c] 38)).alloc (.cells #[t.al,t.st,.slice C k c2] 38)).alloc (.cells #[p.al,.slice B m1 d1,.slice B' m1' d1'] 27)).alloc (.cells #[a.al,.slice D m2 d2,.slice D' m2' d2'] 27)));generalize iface s p t=I at *;generalize zcH s a p=u at *;generalize zcn [t] a=v at *
 by_cases hI:I<0
 ·rw [if_pos (Or.inl hI)] at hr;obtain⟨y,H1⟩:∃ y,Hid (zi a=y):=⟨_,rfl⟩;have g:=za hI;exact yN10a5
 have b:¬ I<0:=hI;have f:0<=I:=oM;clear hI;cases h1:zi a
 ·rw [h1,if_pos (Or.inr rfl)] at hr;have H1:=za h1;clear h1;exact yN10a5
 rw [h1,if_neg (by rintro (h|h);exact b h;cases h)] at hr;have H1:=za h1;clear h1
 by_cases h2:a.al=I
 ·rw [if_neg (fun hn=>hn h2)] at hr;subst h2;cases u<;>cases v
  all_goals
   have i:=za (rfl:true=true);have j:=za (rfl:true=true);exact yN10a5
 ·rw [if_pos h2] at hr;have d:(a.al==I)=false:=by simpa using h2
  exact yN10a5
end
def zL (hd:Bool) (a:Aut) (s:ByteArray):Bool:=if hd then zi a&&s.toList.isEmpty else zeE a&&zaW s
theorem zaB (lo hi:Nat) (A:Option Addr) (n c:Nat) (A':Option Addr) (n' c':Nat)(hd:Bool) (a:Aut) (s:ByteArray) (w:World)(h:zH w lo hi A n A' n' a)(hs:s.size<=9223372036854775807) :
  Calls Tryz.prog 96 #[.agg #[.bool hd,a.al,.slice A n c,.slice A' n' c',s]] w fun e w'=>e=.returned (.bool (zL hd a s))∧Ext w w':=by
 have i:=fun W (hW:Ext w W)=>h.ext hW;have g:=za i;clear i;cases hd
 ·cases hb:zeE a
  all_goals
   have d:=za hb;clear hb
   go_enter Tryz.func96,Tryz.ntmps96
   go_wp2_with (first
    |(go_at_call 186;refine (spec_l13None _ _ _ _ _ _ _ _ _ _ (g.out _ ?_)).mono ?_;exact (dB _).alloc _;rw [d.out];rintro e w2 ⟨rfl,b⟩;have f:=zcz b)
    |(go_at_call 141;refine (zbd s _ hs).mono ?_;rintro e w' ⟨rfl,rfl⟩))
   go_ret;exact⟨zj (by rw [zL,d.out];simp),((dB _).alloc _).trans b⟩
 ·cases hb:zi a
  all_goals
   have d:=za hb;clear hb
   go_enter Tryz.func96,Tryz.ntmps96
   go_wp2_with (go_at_call 79;refine (zI _ _ _ _ _ _ _ _ _ _ (g.out _ ?_)).mono ?_;exact (dB _).alloc _;rw [d.out];rintro e w2 ⟨rfl,b⟩;have f:=zcz b)
   go_ret;exact⟨zj (by rw [zL,d.out];simp),((dB _).alloc _).trans b⟩
theorem zcl (lo hi:Nat) (A:Option Addr) (n c:Nat) (A':Option Addr) (n' c':Nat)(hd:Bool) (a:Aut) (s:ByteArray) (w:World)(h:zH w lo hi A n A' n' a)(hs:s.size<=9223372036854775807) :
  Calls Tryz.prog 94 #[.agg #[.bool hd,a.al,.slice A n c,.slice A' n' c',s]] w fun e w'=>e=.returned (.bool (zL hd a s))∧Ext w w':=by
 have j:=fun W (hW:Ext w W)=>h.ext hW;have o:=za j;clear j;cases hd
 ·have d:=za (show zeE a=(decide (a.al=0)&&(decide (n=0)&&decide (n'=0))) by unfold zeE;rw [← h.n1,← h.n2]);have p:=h.1.len;have q:=h.2.2.len;clear h
  by_cases h0:a.al=0
  ·have f:((a.al:Int)==0)=true:=by simp [h0]
   have l:=za h0;clear h0
   by_cases h1:n=0
   ·have hb1:((n:Int)==0)=true:=by simp [h1]
    have H1:=za h1;clear h1
    by_cases h2:n'=0
    ·have g:((n':Int)==0)=true:=by simp [h2]
     have m:=za h2;clear h2
     go_enter Tryz.func94,Tryz.ntmps94
     go_wp2_with (go_at_call 88;refine (zcP s _ hs).mono ?_;rintro e w' ⟨rfl,rfl⟩)
     go_ret;exact⟨zj (by rw [zL,d.out,l.out,H1.out,m.out];simp),((dB _).alloc _).alloc _⟩
    ·have g:((n':Int)==0)=false:=by simp [h2]
     go_enter Tryz.func94,Tryz.ntmps94
     go_wp2_with fail
     go_ret;exact⟨zj (by rw [zL,d.out];simp [h2]),((dB _).alloc _).alloc _⟩
   ·have hb1:((n:Int)==0)=false:=by simp [h1]
    go_enter Tryz.func94,Tryz.ntmps94
    go_wp2_with fail
    go_ret;exact⟨zj (by rw [zL,d.out];simp [h1]),((dB _).alloc _).alloc _⟩
  ·have f:((a.al:Int)==0)=false:=by simp [h0]
   go_enter Tryz.func94,Tryz.ntmps94
   go_wp2_with fail
   go_ret;exact⟨zj (by rw [zL,d.out];simp [h0]),((dB _).alloc _).alloc _⟩
 ·cases f:zi a
  all_goals
   have i:=za f;clear f
   go_enter Tryz.func94,Tryz.ntmps94
   go_wp2_with (go_at_call 25;refine (zF _ _ _ _ _ _ _ _ _ _ (o.out _ ?_)).mono ?_;exact (dB _).alloc _;rw [i.out];rintro e w2 ⟨rfl,b⟩;have k:=zcz b)
   go_ret;exact⟨zj (by rw [zL,i.out];simp),((dB _).alloc _).trans b⟩
def zbh (p:Aut) (q:Nat) (ls:List Nat):Nat:=ls.foldl (aGo p) q
theorem zco (p:Aut) (q:Nat) (ls:List Nat) (l:Nat):zbh p q (ls++[l])=aGo p (zbh p q ls) l:=by simp [zbh]
theorem zea (hv:Fit N p) (h:∀ l∈ls,l<6) (hq:q<p.next.length):zbh p q ls<p.next.length:=by
 induction ls generalizing q with
 |nil=>exact hq
 |cons l r ih=>exact ih (fun x hx=>h x (gQ _ hx)) (aGo_ltF hv hq (h l iF))
theorem zeN (hv:zi p=true) (h:∀ l∈ls,l<6) (hq:q<p.next.length):zbh p q ls<p.next.length:=zea (fit_of hv) h hq
theorem runA_filter (p:Aut) (ls:List Nat) (q:Nat):zbh p q (ls.filter fun l=>p.al.toNat.testBit l)=zbh p q ls:=by
 induction ls generalizing q with
 |nil=>rfl
 |cons l r ih =>
  rw [List.filter_cons];show _=zbh p (aGo p q l) r;cases hb:p.al.toNat.testBit l
  ·have e:aGo p q l=q:=by unfold aGo;rw [hb];rfl
   rw [e];simpa using ih q
  ·simp only [if_true];exact ih (aGo p q l)
theorem zie (s:ByteArray) (a:Nat):(zbg s a).data.toList=zfn a s.data.toList:=by
 unfold zbg strOfNums bnum;simp only [List.map_map];refine (List.map_congr_left (g:=id) fun b _=>?_).trans (List.map_id _);simp
theorem wl_restB {s:ByteArray}(h:zaW s=true) (a:Nat):wl (zbg s a)=(wl s).filter fun l=>a.testBit l:=by
 unfold wl;rw [zie];unfold zfn;have c:∀ b∈s.data.toList,97<=b.toNat∧b.toNat<=102:=by
  intro b c;obtain⟨i,g⟩:=eB c;have d:i<s.size:=by have:=(List.getElem?_eq_some_iff.1 g).1;simpa using this
  rw [zci s i d] at g;obtain rfl:=Option.some.inj g;exact zaU h d
 generalize s.data.toList=L at c;clear h
 induction L with
 |nil=>rfl
 |cons b r f =>
  have j:=c b iF;have f:=f fun x hx=>c x (gQ _ hx);have e:hasB a (ltr b.toNat)=a.testBit (b.toNat - 97):=by
   unfold hasB ltr;rw [if_neg oM,decide_eq_true oM,Bool.true_and]
   congr 1
   omega
  rw [List.filter_cons,eY,List.filter_cons,e];cases a.testBit (b.toNat - 97)
  ·simpa using f
  ·simp only [if_true,eY];rw [f]
theorem zfs {s:ByteArray}(h:zaW s=true) (a:Nat):inB (zbg s a) a=true:=by
 unfold inB zdK;rw [zie,dI,decide_eq_true_eq];refine⟨Nat.le_trans (zfN s a) (zaV h),?_⟩;rw [List.all_eq_true];intro b hb;exact (List.mem_filter.1 hb).2
def zcV (p:Aut) (t:ByteArray):Bool:=zi p&&(zaW t&&!zaC p (zbh p 0 (wl t)))
section
variable {lo hi m d m' d':Nat} {B B':Option Addr} {p:Aut} {t:ByteArray} {w:World}
theorem zig (h:zH w lo hi B m B' m' p)(hv:zi p=true)(ht:zaW t=true) :
  Calls Tryz.prog 264 #[.agg #[p.al,.slice B m d,.slice B' m' d'],(0:Int),t] w fun e w'=>e=.returned (.int .i64 (zbh p 0 (wl t):Nat))∧Ext w w':=by
 have HS:=za (fun W (hW:Ext w W)=>h.ext hW);have G:=zaV ht;have D:=za (fun k C=>zaU ht (k:=k) C);have F:=(zl hv).2.1;have E:=za hv;have g:=za (fun k=>zeN hv (ls:=(wl t).take k) (fun l f=>zhK ht l (gU f)) (q:=0) oM);clear h hv ht
 go_enter Tryz.func264,Tryz.ntmps264
 go_upto_region 1 with fail
 generalize U0:w.alloc _=w1 at *;obtain⟨hw1,b1⟩:=fY U0;clear U0;go_wp2_with fail
 go_loopw [1,7] (fun v i wr=>∃ k x:Nat,i=.int .i64 k∧k<=t.size∧v=.int .i64 x∧Hid (x=zbh p 0 ((wl t).take k))∧Ext w1 wr) (fun _ i _=>t.size - (intOf i).toNat)
 case atStart=>exact⟨0,0,rfl,dG _,rfl,rfl,dB _⟩
 case round =>
  obtain⟨k,x,rfl,C,rfl,c,a⟩:=hrel
  by_cases hlt:k<t.size
  ·have n:=D.out k hlt;obtain⟨l,f⟩:∃ l:Nat,Hid ((t[k].toNat:Int) - 97=l):=⟨t[k].toNat - 97,by unfold Hid;omega⟩;have o:l<6:=oH f.out;have r:=za (show aGo p x l=zbh p 0 ((wl t).take (k+1)) by
    rw [dO,zex hlt,eD,zco,← c.out]
    congr 1
    have:=f.out;omega)
   have u:x<p.next.length:=by rw [c.out];exact g.out k
   have HC:=za (fun W (hW:Ext w1 W)=>zdh (d:=d) (d':=d') (HS.out W (hw1.trans hW)) E.out u o);generalize aGo p x l=y at *;have c1:∀ W,Ext wr W->∀ j,W.cell? ⟨w.heap.size,j,none⟩=#[Value.int .i64 p.al,.slice B m d,.slice B' m' d'][j]?:=fun W hW=>(b1.ext (a.trans hW)).cell;have b:=dB wr;clear n;go_upto_region 4 with fail
   refine uR (fun X=>Ext wr X) [5] (zw.of [0,1,2,3,4,5,6]) ?_;refine uQ ?_;refine zd fun K hK=>?_;go_simp;refine (zbj t k hlt _).mono ?_;rw [f.out];rintro e w' ⟨rfl,rfl⟩;refine hK.out _ _ b.drew ?_;refine pT ?_;refine zb fun K hK=>?_;go_simp;refine (HC.out _ (a.trans b.drew)).mono (mQ fun w5 hx5=>?_);refine hK.out _ _ ?_;refine pT ?_;refine uQ ?_;refine ze ?_;have s:=a.trans (b.drew.trans hx5);go_wp2_with fail
   go_roundw
   case rel=>exact⟨k+1,y,gM,oM,rfl,r,s⟩
   case measure=>simp [intOf];omega
  ·obtain rfl:k=t.size:=oM;have z:=za (show x=zbh p 0 (wl t) by rw [c.out,dK (by rw [zey];exact dE _)]);go_wp2;go_ret;exact⟨zD (by rw [z.out]),hw1.trans a⟩
theorem zeP (h:zH w lo hi B m B' m' p)(ht:t.size<=9223372036854775807) :
  Calls Tryz.prog 188 #[.agg #[p.al,.slice B m d,.slice B' m' d'],t] w fun e w'=>e=.returned (.bool (zcV p t))∧Ext w w':=by
 have HA:=za (fun W (hW:Ext w W)=>zI _ _ _ _ d _ _ d' _ _ (h.ext hW));have s:=za (fun W (hW:Ext w W)=>zig (d:=d) (d':=d') (t:=t) (h.ext hW));have HB:=za (fun W (hW:Ext w W) q r=>zcT (q:=q) (h.ext hW) r);have o:=za h.n2;clear h;have hr:=za (show zcV p t=(zi p&&(zaW t&&!zaC p (zbh p 0 (wl t)))) from rfl);have hw1:Ext w (w.alloc (.cells #[p.al,.slice B m d,.slice B' m' d'] 27)):=(dB w).alloc _;have b1:=dX w 27 #[p.al,.slice B m d,.slice B' m' d']
 by_cases hall:zi p=true∧zaW t=true
 ·obtain⟨a,b⟩:=hall;have H1:=za a;have c:=za b;have r:=zeN a (zhK b) (q:=0) (by have:=(zl a).2.1;omega);have n:=(zl a).2.2.1;have g:zbh p 0 (wl t)<m':=oH o.out;clear a b n
  go_enter Tryz.func188,Tryz.ntmps188
  go_upto_region 3 with (first
   |(go_at_call 79;refine (HA.out _ hw1).mono ?_;rw [H1.out];rintro e w2 ⟨rfl,hx2⟩)
   |(go_at_call 141;refine (zbd _ _ ht).mono ?_;rw [c.out];rintro e w3 ⟨rfl,rfl⟩))
  have l:=za (fun W hW=>s.out W hW H1.out c.out);clear s;generalize hqe:zbh p 0 (wl t)=q at *;clear hqe r;obtain⟨u,f,_⟩:=HB.out w (dB w) q g;have x:∀ W,Ext w W->W.cell? (u.add q)=some (.bool (zaC p q)):=by
   intro W hW;obtain⟨v,e,y⟩:=HB.out W hW q g;rw [f] at e;obtain rfl:=Option.some.inj e;exact y
  subst f;have hw2:=hw1.trans hx2;generalize w.alloc _=w1 at *;have c1:∀ W,Ext w2 W->∀ j,W.cell? ⟨w.heap.size,j,none⟩=#[Value.int .i64 p.al,.slice B m d,.slice (some u) m' d'][j]?:=fun W hW=>(b1.ext (hx2.trans hW)).cell;have z:=fun W (hW:Ext w2 W)=>x W (hw2.trans hW);have i:=dB w2;refine uR (fun X=>Ext w2 X) [] (zw.of [0,1,2,3,4,5,6,7,8]) ?_;refine uQ ?_;refine zd fun K hK=>?_;go_simp;refine (l.out _ (hw2.trans i.drew)).mono (mQ fun w5 hx5=>?_);have k:=i.drew.trans hx5;refine hK.out _ _ k ?_;refine pT ?_;refine uQ ?_;refine ze ?_;go_wp2_with fail
  go_ret;exact⟨zj (by rw [hr.out,H1.out,c.out];rfl),hw2.trans k⟩
 ·have hr2:=za (show zcV p t=false by
   rw [hr.out];cases a:zi p
   ·rfl
   ·cases b:zaW t
    ·rfl
    ·exact absurd ⟨a,b⟩ hall)
  cases a:zi p<;>cases b:zaW t
  case true.true=>exact absurd ⟨a,b⟩ hall
  all_goals
   have H1:=za a;have c:=za b;clear a b hall
   go_enter Tryz.func188,Tryz.ntmps188
   go_wp2_with (first
    |(go_at_call 79;refine (HA.out _ hw1).mono ?_;rw [H1.out];rintro e w2 ⟨rfl,hx2⟩)
    |(go_at_call 141;refine (zbd _ _ ht).mono ?_;rw [c.out];rintro e w3 ⟨rfl,rfl⟩))
   go_ret;exact⟨zj (by rw [hr2.out]),hw1.trans hx2⟩
end
section
variable {lo hi m d m' d':Nat} {B B':Option Addr} {p:Aut} {t:ByteArray} {w:World}
theorem zgP (h:zH w lo hi B m B' m' p)(hv:zi p=true)(ht:inB t p.al.toNat=true) :
  Calls Tryz.prog 178 #[.agg #[p.al,.slice B m d,.slice B' m' d'],t] w fun e w'=>e=.returned (.int .i64 (zbh p 0 (wl t):Nat))∧Ext w w':=by
 have HT:=za (fun W (hW:Ext w W)=>zcm (d:=d) (d':=d') (h.ext hW) hv);have HA:=za (fun W (hW:Ext w W)=>zF _ _ _ _ d _ _ d' _ _ (h.ext hW));have a:=zaQ ht;have aa:=zaV a;have T:=za (fun k Q=>zaU a (k:=k) Q);have Z:=(zl hv).2.1;obtain⟨F,G⟩:=(zl hv).1;obtain⟨al,b⟩:∃ al:Nat,Hid (p.al=al):=⟨p.al.toNat,by unfold Hid;omega⟩;have r:al<=63:=oH b.out;have z:p.al.toNat=al:=oH b.out;rw [z] at ht;have U:=za (show (decide (t.size<=50000)&&zdK t al)=true from ht);have V:=za hv;have E:=za (fun k=>zeN hv (ls:=(wl t).take k) (fun l s=>zhK a l (gU s)) (q:=0) oM);clear h hv ht z a;rw [b.out] at HT HA ⊢;clear F G
 go_enter Tryz.func178,Tryz.ntmps178
 go_upto_region 1 with fail
 generalize U0:w.alloc _=w1 at *;obtain⟨hw1,b1⟩:=fY U0;clear U0;have c1:=b1.cell;go_wp2_with (first
  |(go_at_call 25;refine (HA.out _ hw1).mono ?_;rw [V.out];rintro e w2 ⟨rfl,hx2⟩;have hw2:=hw1.trans hx2;have c2:=(b1.ext hx2).cell)
  |(go_at_call 85;refine (zaS t al _ oM r).mono ?_;rw [U.out];rintro e w3 ⟨rfl,rfl⟩)
  |(go_at_call 119;refine (HT.out _ hw2).mono ?_;rintro e w4 ⟨TA,tc,rfl,n,hx4⟩))
 have hw4:=hw2.trans hx4;have S:=za (fun W (hW:Ext w4 W)=>(n.ext hW).at_);clear n c1 c2
 go_loopw [6,7,22] (fun v _ i wr=>∃ k x:Nat,i=.int .i64 k∧k<=t.size∧v=.int .i64 x∧Hid (x=zbh p 0 ((wl t).take k))∧Ext w4 wr) (fun _ _ i _=>t.size - (intOf i).toNat)
 case atStart=>exact⟨0,0,rfl,dG _,rfl,rfl,dB _⟩
 case round =>
  obtain⟨k,x,rfl,Q,rfl,f,j⟩:=hrel
  by_cases hlt:k<t.size
  ·have I:=T.out k hlt;obtain⟨l,s⟩:∃ l:Nat,Hid (ltr t[k].toNat=l∧l<6∧t[k].toNat - 97=l):=⟨t[k].toNat - 97,by unfold Hid ltr;rw [if_neg oM];omega⟩;have u:=s.out.2.1;have R:((l:Nat):Int)<6:=oM;have L:=za (show aGo p x l=zbh p 0 ((wl t).take (k+1)) by
    rw [dO,zex hlt,eD,zco,← f.out,s.out.2.2])
   have D:x<p.next.length:=by rw [f.out];exact E.out k
   obtain⟨ab,Y,c⟩:=S.out wr j;have HC:=za (fun W (hW:Ext wr W)=>(c.ext hW).at_ D u);obtain⟨g,o,H,J⟩:=c.at_ D u;subst H;generalize aGo p x l=y at *;have d1:∀ W,Ext wr W->W.cell? ⟨g,o+x*6+l,none⟩=some (.int .i64 (y:Nat)):=fun W hW=>hW.aa J;clear I c HC;generalize p.next.length=N at *;go_upto_region 8 with fail
   have C:=dB wr;refine uR (fun X=>Ext wr X) [] (zw.of [0,1,2,3,5,4,6,7,8]) ?_;refine uQ ?_;refine zd fun K hK=>?_;go_simp;refine (zbp t k hlt _).mono ?_;rw [s.out.1];rintro e w' ⟨rfl,rfl⟩;refine hK.out _ _ C.drew ?_;refine pT ?_;refine uQ ?_;refine ze ?_;have M:=j.trans C.drew;go_wp2_with fail
   go_roundw
   case rel=>exact⟨k+1,y,gM,oM,rfl,L,M⟩
   case measure=>simp [intOf];omega
  ·obtain rfl:k=t.size:=oM;have O:=za (show x=zbh p 0 (wl t) by rw [f.out,dK (by rw [zey];exact dE _)]);go_wp2;go_ret;exact⟨zD (by rw [O.out]),hw4.trans j⟩
theorem zge (h:zH w lo hi B m B' m' p)(hv:zi p=true)(ht:inB t p.al.toNat=true) :
  Calls Tryz.prog 89 #[.agg #[p.al,.slice B m d,.slice B' m' d'],t] w fun e w'=>e=.returned (.bool (zaC p (zbh p 0 (wl t))))∧Ext w w':=by
 have HA:=za (fun W (hW:Ext w W)=>zgP (d:=d) (d':=d') (h.ext hW) hv ht);have HB:=za (fun W (hW:Ext w W) q g=>zcT (q:=q) (h.ext hW) g);have g:=zeN hv (zhK (zaQ ht)) (q:=0) (by have:=(zl hv).2.1;omega);have c:=(zl hv).2.2.1;have f:=h.n2;have b:zbh p 0 (wl t)<m':=oM;clear h hv ht c;generalize hqe:zbh p 0 (wl t)=q at *;clear hqe g f;obtain⟨i,a,_⟩:=HB.out w (dB w) q b;have k:∀ W,Ext w W->W.cell? (i.add q)=some (.bool (zaC p q)):=by
  intro W hW;obtain⟨j,e,n⟩:=HB.out W hW q b;rw [a] at e;obtain rfl:=Option.some.inj e;exact n
 subst a
 go_enter Tryz.func89,Tryz.ntmps89
 go_upto_region 1 with fail
 generalize U0:w.alloc _=w1 at *;obtain⟨hw1,b1⟩:=fY U0;clear U0;have c1:=b1.cell;go_wp2_with (go_at_call 178;refine (HA.out _ hw1).mono (mQ fun w2 hx2=>?_);have c2:=(b1.ext hx2).cell;have l:=k _ (hw1.trans hx2))
 go_ret;exact⟨zj (by rfl),hw1.trans hx2⟩
theorem zeI (h:zH w lo hi B m B' m' p)(ht:t.size<=9223372036854775807) :
  Calls Tryz.prog 32 #[.agg #[p.al,.slice B m d,.slice B' m' d'],t] w fun e w'=>e=.returned (.bool (zcV p t))∧Ext w w':=by
 have HA:=za (fun W (hW:Ext w W)=>zF _ _ _ _ d _ _ d' _ _ (h.ext hW));have hr:=za (show zcV p t=(zi p&&(zaW t&&!zaC p (zbh p 0 (wl t)))) from rfl);have hw1:Ext w (w.alloc (.cells #[p.al,.slice B m d,.slice B' m' d'] 27)):=(dB w).alloc _;have b1:=dX w 27 #[p.al,.slice B m d,.slice B' m' d'];cases h1:zi p
 ·have H1:=za h1;clear h1
  go_enter Tryz.func32,Tryz.ntmps32
  go_upto_region 1 with fail
  generalize w.alloc _=w1 at *;have c1:=b1.cells;have a:=dB w1;refine uR (fun X=>Ext w1 X) [12] (zw.of [0,1,2,3,4,5,6,7,8,9,10,11,12,13,14,15]) ?_;refine uQ ?_;refine zd fun K hK=>?_;go_simp;refine (HA.out _ (hw1.trans a.drew)).mono ?_;rw [H1.out];rintro e w2 ⟨rfl,hx2⟩;have hx3:=a.drew.trans hx2;refine hK.out _ _ hx3 ?_;refine pT ?_;refine uQ ?_;refine ze ?_;go_wp2_with fail
  go_ret;exact⟨zj (by rw [hr.out,H1.out];rfl),hw1.trans hx3⟩
 ·cases h2:zaW t
  ·have H1:=za h1;have c:=za h2;clear h1 h2
   go_enter Tryz.func32,Tryz.ntmps32
   go_upto_region 1 with fail
   generalize w.alloc _=w1 at *;have c1:=b1.cells;have a:=dB w1;refine uR (fun X=>Ext w1 X) [12] (zw.of [0,1,2,3,4,5,6,7,8,9,10,11,12,13,14,15]) ?_;refine uQ ?_;refine zd fun K hK=>?_;go_simp;refine (HA.out _ (hw1.trans a.drew)).mono ?_;rw [H1.out];rintro e w2 ⟨rfl,hx2⟩;have hx3:=a.drew.trans hx2;refine hK.out _ _ hx3 ?_;refine pT ?_;refine uQ ?_;refine zd fun K hK=>?_;go_simp;refine (zcP _ _ ht).mono ?_;rw [c.out];rintro e w3 ⟨rfl,rfl⟩;refine hK.out _ _ hx3 ?_;refine pT ?_;refine uQ ?_;refine ze ?_;go_wp2_with fail
   go_ret;exact⟨zj (by rw [hr.out,H1.out,c.out];rfl),hw1.trans hx3⟩
  ·obtain⟨j,k⟩:=(zl h1).1;obtain⟨al,b⟩:∃ al:Nat,Hid (p.al=al):=⟨p.al.toNat,by unfold Hid;omega⟩;have f:al<=63:=oH b.out;have g:=za (show p.al.toNat=al by have:=b.out;omega);have o:=za (fun W=>zfl (w:=W) h2 f);have i:=za (fun W (hW:Ext w W)=>zge (d:=d) (d':=d') (t:=zbg t al) (h.ext hW) h1 (by rw [g.out];exact zfs h2 al));have l:=za (show zbh p 0 (wl (zbg t al))=zbh p 0 (wl t) by rw [wl_restB h2,← g.out,runA_filter]);rw [l.out] at i;have H1:=za h1;have c:=za h2;clear h h1 h2 j k;rw [b.out] at HA i hw1 b1 ⊢;generalize zbg t al=q at *
   go_enter Tryz.func32,Tryz.ntmps32
   go_upto_region 1 with fail
   generalize w.alloc _=w1 at *;have c1:=b1.cells;have a:=dB w1;refine uR (fun X=>Ext w1 X) [12] (zw.of [0,1,2,3,4,5,6,7,8,9,10,11,12,13,14,15]) ?_;refine uQ ?_;refine zd fun K hK=>?_;go_simp;refine (HA.out _ (hw1.trans a.drew)).mono ?_;rw [H1.out];rintro e w2 ⟨rfl,hx2⟩;have hx3:=a.drew.trans hx2;refine hK.out _ _ hx3 ?_;refine pT ?_;refine uQ ?_;refine zd fun K hK=>?_;go_simp;refine (zcP _ _ ht).mono ?_;rw [c.out];rintro e w3 ⟨rfl,rfl⟩;refine hK.out _ _ hx3 ?_;refine pT ?_;refine uQ ?_;refine zd fun K hK=>?_;go_simp;refine (o.out _).mono (mQ fun w4 hx4=>?_);have hx5:=hx3.trans hx4;refine hK.out _ _ hx5 ?_;refine pT ?_;refine uQ ?_;refine zb fun K hK=>?_;go_simp;refine (i.out _ (hw1.trans hx5)).mono (mQ fun r n=>?_);refine hK.out _ _ ?_;refine pT ?_;refine uQ ?_;refine ze ?_;go_wp2_with fail
   go_ret;exact⟨zj (by rw [hr.out,H1.out,c.out];rfl),hw1.trans (hx5.trans n)⟩
end
theorem zes {lo hi lo2 hi2 k c2:Nat} {A C:Option Addr} {t:Sys}(hb:Blk w g 38 #[s.al,s.st,.slice A n c,t.al,t.st,.slice C k c2])(h:zO w lo hi A n s)(h':zO w lo2 hi2 C k t):∃ lo hi,zeB w lo hi (some ⟨g,0,none⟩) 2 [s,t]:=by
 refine⟨0,hi+hi2+g+1,rfl,[.int .i64 s.al,.int .i64 s.st,.slice A n c,.int .i64 t.al,.int .i64 t.st,.slice C k c2],⟨rfl,oM,fun _=>⟨_,rfl,dG _,by dsimp only;omega,fun j u hu=>?_⟩⟩,fun j u hu=>?_⟩
 ·rw [zX,Nat.zero_add,hb.cell];simpa using hu
 ·match j with
  |0 =>
   simp at hu;subst hu;exact⟨A,n,c,rfl,rfl,rfl,h.1,h.2.more (dG _) oM⟩
  |1 =>
   simp at hu;subst hu;exact⟨C,k,c2,rfl,rfl,rfl,h'.1,h'.2.more (dG _) oM⟩
  |j+2=>simp at hu
def zdj (s t:Sys) (p:Aut) (x:ByteArray):Int:=if zij [s,t] x=false then 6 else if zcV p x=false then 7 else 0
noncomputable def zcW (s t:Sys) (p:Aut) (hd:Bool) (a:Aut) (x:ByteArray):Int:=
 if iface s p t<0 then 1 else if zL hd a x=false then 2 else if hd=false then zdj s t p x
 else if zbY s t p a=2 then 3 else if zbY s t p a=3 then 4 else if zbY s t p a=4 then 5 else 0
theorem zfh (s t:Sys) (p:Aut):iface s p t<0↔(zk s&&(zi p&&zk t))=false:=by
 unfold iface;cases h:(zk s&&(zi p&&zk t))
 ·simp
 ·simp
section
variable {lo hi n c:Nat} {A:Option Addr} {s:Sys} {lo1 hi1 m1 d1 m1' d1':Nat} {B B':Option Addr} {p:Aut} {lo2 hi2 k c2:Nat} {C:Option Addr} {t:Sys} {x:ByteArray} {w:World}
theorem ziR (h:zO w lo hi A n s)(ht:zO w lo2 hi2 C k t)(hp:zH w lo1 hi1 B m1 B' m1' p)(hx:x.size<=9223372036854775807) :
  Calls Tryz.prog 97 #[.agg #[s.al,s.st,.slice A n c],.agg #[t.al,t.st,.slice C k c2],.agg #[p.al,.slice B m1 d1,.slice B' m1' d1'],x] w fun e w'=>e=.returned (.int .i64 (zdj s t p x))∧Ext w w':=by
 have HS:=za (fun W (hW:Ext w W)=>h.ext hW);have HS':=za (fun W (hW:Ext w W)=>ht.ext hW);have HB:=za (fun W (hW:Ext w W)=>zeP (d:=d1) (d':=d1') (hp.ext hW) hx);have hr:=za (show zdj s t p x=if zij [s,t] x=false then 6 else if zcV p x=false then 7 else 0 from rfl);clear h ht hp;have hw1:Ext w (((w.alloc (.cells #[s.al,s.st,.slice A n c] 38)).alloc (.cells #[t.al,t.st,.slice C k c2] 38)).alloc (.cells #[p.al,.slice B m1 d1,.slice B' m1' d1'] 27)):=(((dB w).alloc _).alloc _).alloc _;obtain⟨b1,b2,b3⟩:=zR (dB (((w.alloc (.cells #[s.al,s.st,.slice A n c] 38)).alloc (.cells #[t.al,t.st,.slice C k c2] 38)).alloc (.cells #[p.al,.slice B m1 d1,.slice B' m1' d1'] 27)));cases h1:zij [s,t] x<;>cases h2:zcV p x
 all_goals
  have H1:=za h1;have b:=za h2;clear h1 h2
  go_enter Tryz.func97,Tryz.ntmps97
  go_upto_region 1 with fail
  generalize ((w.alloc _).alloc _).alloc _=w1 at *;have c1:=b1.cells;have c2':=b2.cells;have c3:=b3.cells;have hx0:=dB w1;have e6:=dX w1 38 #[s.al,s.st,.slice A n c,t.al,t.st,.slice C k c2];have f6:=(dB w1).alloc (.cells #[s.al,s.st,.slice A n c,t.al,t.st,.slice C k c2] 38);obtain⟨l1,l2,hsl⟩:=zes e6 (HS.out _ (hw1.trans f6)) (HS'.out _ (hw1.trans f6));go_wp2_with (first
   |(go_at_call 187;with_reducible refine (zdf hsl hx).mono ?_;rw [H1.out];rintro e w2 ⟨rfl,hx2⟩;have a:=f6.trans hx2)
   |(go_at_call 188;with_reducible refine (HB.out _ (hw1.trans a)).mono ?_;rw [b.out];rintro e w3 ⟨rfl,hx3⟩;have hx13:=a.trans hx3))
  go_ret;exact⟨zD (by rw [hr.out,H1.out];try rw [b.out];try rfl),hw1.trans (by first|exact hx13|exact a)⟩
variable {lo3 hi3 m2 d2 m2' d2':Nat} {D D':Option Addr} {a:Aut} {hd:Bool}
theorem yN10b3 {P:Prop}(h:P:=by
 have c1:=b1.cells;have c2':=b2.cells;have c3:=b3.cells;have c4:=b4.cells;have hx0:=Ext.refl w1;go_wp2_with (first
  |(go_at_call 95;with_reducible refine (HI.out _ hw1).mono (mQ fun w2 hx2=>?_);have hw2:=hw1.trans hx2)
  |(go_at_call 96;with_reducible refine (HC.out _ hw2).mono (mQ fun w3 hx3=>?_);have hx13:=hx2.trans hx3;have hw3:=hw1.trans hx13)
  |(go_at_call 97;with_reducible refine (HT.out _ hw3).mono (mQ fun w4 hx4=>?_);have hw4:=hw3.trans hx4)
  |(go_at_call 98;with_reducible refine (HF.out _ hw3).mono (mQ fun w4 hx4=>?_);have hw4:=hw3.trans hx4))
 go_ret;exact⟨zD (by rw [hr.out];try rfl),by first|exact hw4|exact hw3|exact hw2⟩
 ):P:=h
theorem yN10a6 {P:Prop}(h:P:=by
 rw [if_pos rfl] at hr
 go_enter Tryz.func35,Tryz.ntmps35
 go_upto_region 1 with fail
 generalize (((w.alloc _).alloc _).alloc _).alloc _=w1 at *;exact yN10b3
 ):P:=h
theorem yN10a7 {P:Prop}(h:P:=by
 go_enter Tryz.func35,Tryz.ntmps35
 go_upto_region 1 with fail
 generalize (((w.alloc _).alloc _).alloc _).alloc _=w1 at *;exact yN10b3
 ):P:=h
theorem yN10a8 {P:Prop}(h:P:=by
 exact yN10b3
 ):P:=h
theorem spec_CheckCertificate (h:zO w lo hi A n s)(ht:zO w lo2 hi2 C k t)(hp:zH w lo1 hi1 B m1 B' m1' p)(ha:zH w lo3 hi3 D m2 D' m2' a)(hxs:x.size<=9223372036854775807) :
  Calls Tryz.prog 35 #[.agg #[s.al,s.st,.slice A n c],.agg #[t.al,t.st,.slice C k c2],.agg #[p.al,.slice B m1 d1,.slice B' m1' d1'],.agg #[.bool hd,a.al,.slice D m2 d2,.slice D' m2' d2',x]] w fun e w'=>e=.returned (.int .i64 (zcW s t p hd a x))∧Ext w w':=by
 have HI:=za (fun W (hW:Ext w W)=>zbc (c:=c) (d1:=d1) (d1':=d1') (c2:=c2) (h.ext hW) (hp.ext hW) (ht.ext hW));have HT:=za (fun W (hW:Ext w W)=>ziR (c:=c) (d1:=d1) (d1':=d1') (c2:=c2) (x:=x) (h.ext hW) (ht.ext hW) (hp.ext hW) hxs);have HC:=za (fun W (hW:Ext w W)=>zaB _ _ _ _ d2 _ _ d2' hd _ x _ (ha.ext hW) hxs);have HF:=za (fun W (hW:Ext w W)=>zei (c:=c) (d1:=d1) (d1':=d1') (c2:=c2) (d2:=d2) (d2':=d2') (h.ext hW) (ht.ext hW) (hp.ext hW) (ha.ext hW));have hr:=za (show zcW s t p hd a x=if iface s p t<0 then 1 else if zL hd a x=false then 2 else if hd=false then zdj s t p x
  else if zbY s t p a=2 then 3 else if zbY s t p a=3 then 4 else if zbY s t p a=4 then 5 else 0 from rfl)
 clear h hp ht ha;have hw1:Ext w ((((w.alloc (.cells #[s.al,s.st,.slice A n c] 38)).alloc (.cells #[t.al,t.st,.slice C k c2] 38)).alloc (.cells #[p.al,.slice B m1 d1,.slice B' m1' d1'] 27)).alloc (.cells #[.bool hd,a.al,.slice D m2 d2,.slice D' m2' d2',x] 60)):=((((dB w).alloc _).alloc _).alloc _).alloc _;obtain⟨b1,b2,b3,b4⟩:=zfd (dB ((((w.alloc (.cells #[s.al,s.st,.slice A n c] 38)).alloc (.cells #[t.al,t.st,.slice C k c2] 38)).alloc (.cells #[p.al,.slice B m1 d1,.slice B' m1' d1'] 27)).alloc (.cells #[.bool hd,a.al,.slice D m2 d2,.slice D' m2' d2',x] 60)));generalize iface s p t=I at *;generalize zdj s t p x=R at *;generalize zbY s t p a=F at *
 by_cases hI:I<0
 ·rw [if_pos hI] at hr;have b:=za (rfl:true=true);have f:=za (rfl:true=true);generalize zL hd a x=g at *;exact yN10a7
 have d:0<=I:=oM;rw [if_neg hI] at hr;cases hv0:zL hd a x
 ·rw [hv0,if_pos rfl] at hr;have b:=za hv0;clear hv0;rw [b.out] at HC;exact yN10a7
 rw [hv0,if_neg dM] at hr;have b:=za hv0;clear hv0;rw [b.out] at HC;cases hd
 ·rw [if_pos rfl] at hr
  go_enter Tryz.func35,Tryz.ntmps35
  go_upto_region 1 with fail
  generalize (((w.alloc _).alloc _).alloc _).alloc _=w1 at *;exact yN10a8
 rw [if_neg dM] at hr
 by_cases f2:F=2
 ·subst f2;exact yN10a6
 rw [if_neg f2] at hr;have i:(F==2)=false:=by simpa using f2
 by_cases f3:F=3
 ·subst f3;exact yN10a6
 rw [if_neg f3] at hr;have j:(F==3)=false:=by simpa using f3
 by_cases f4:F=4
 ·subst f4;exact yN10a6
 ·rw [if_neg f4] at hr;have l:(F==4)=false:=by simpa using f4
  go_enter Tryz.func35,Tryz.ntmps35
  go_upto_region 1 with fail
  generalize (((w.alloc _).alloc _).alloc _).alloc _=w1 at *;exact yN10a8
theorem yN10b1 {P:Prop}(h:P:=by
 generalize zdj s t p x=R at *
 go_enter Tryz.func34,Tryz.ntmps34
 go_upto_region 1 with fail
 generalize (((w.alloc _).alloc _).alloc _).alloc _=w1 at *;have c1:=b1.cells;have c2':=b2.cells;have c3:=b3.cells;have c4:=b4.cells;have hx0:=Ext.refl w1;go_wp2_with (first
  |(go_at_call 65;with_reducible refine (HV.out _ hw1).mono (mQ fun w2 hx2=>?_);have hw2:=hw1.trans hx2)
  |(go_at_call 65;with_reducible refine (HV'.out _ hw2).mono (mQ fun w3 hx3=>?_);have hx13:=hx2.trans hx3;have hw3:=hw1.trans hx13)
  |(go_at_call 25;with_reducible refine (HP.out _ hw3).mono (mQ fun w4 hx4=>?_);have hx14:=hx13.trans hx4;have hw4:=hw1.trans hx14)
  |(go_at_call 94;with_reducible refine (HC.out _ hw4).mono (mQ fun w5 hx5=>?_);have hx15:=hx14.trans hx5;have hw5:=hw1.trans hx15;have e6:=Blk.new w5 38 #[s.al,s.st,.slice A n c,t.al,t.st,.slice C k c2];have f6:=(Ext.refl w5).alloc (.cells #[s.al,s.st,.slice A n c,t.al,t.st,.slice C k c2] 38);have hx16:=hx15.trans f6;have hw6:=hw1.trans hx16;obtain⟨l1,l2,hsl⟩:=zes e6 (HS.out _ hw6) (HS'.out _ hw6))
  |(go_at_call 31;with_reducible refine (zac hsl (HT.out _ hw6) hxs).mono ?_;rw [Ht1.out];rintro e w7 ⟨rfl,hx7⟩;have hx17:=hx16.trans hx7;have hw7:=hw1.trans hx17)
  |(go_at_call 32;with_reducible refine (HB.out _ hw7).mono (mQ fun w8 hx8=>?_);have hx18:=hx17.trans hx8;have hw8:=hw1.trans hx18)
  |(go_at_call 29;with_reducible refine (HF.out _ hw5).mono (mQ fun w9 hx9=>?_);have hw9:=hw5.trans hx9))
 go_ret;exact⟨zD (by rw [hr.out,hr2.out];try rfl),by first|exact hw9|exact hw8|exact hw7|exact hw5|exact hw4|exact hw3|exact hw2⟩
 ):P:=h
theorem yN10a1 {P:Prop}(h:P:=by
 rw [hb1] at HB;clear hb1;exact yN10b1
 ):P:=h
theorem yN10c1 {P:Prop}(h:P:=by
 have c1:=b1.cells;have c2':=b2.cells;have c3:=b3.cells;have c4:=b4.cells;have hx0:=Ext.refl w1;go_wp2_with (first
  |(go_at_call 65;with_reducible refine (HV.out _ hw1).mono (mQ fun w2 hx2=>?_);have hw2:=hw1.trans hx2)
  |(go_at_call 65;with_reducible refine (HV'.out _ hw2).mono (mQ fun w3 hx3=>?_);have hx13:=hx2.trans hx3;have hw3:=hw1.trans hx13)
  |(go_at_call 25;with_reducible refine (HP.out _ hw3).mono (mQ fun w4 hx4=>?_);have hx14:=hx13.trans hx4;have hw4:=hw1.trans hx14)
  |(go_at_call 94;with_reducible refine (HC.out _ hw4).mono (mQ fun w5 hx5=>?_);have hx15:=hx14.trans hx5;have hw5:=hw1.trans hx15;have e6:=Blk.new w5 38 #[s.al,s.st,.slice A n c,t.al,t.st,.slice C k c2];have f6:=(Ext.refl w5).alloc (.cells #[s.al,s.st,.slice A n c,t.al,t.st,.slice C k c2] 38);have hx16:=hx15.trans f6;have hw6:=hw1.trans hx16;obtain⟨l1,l2,hsl⟩:=zes e6 (HS.out _ hw6) (HS'.out _ hw6))
  |(go_at_call 31;with_reducible refine (zac hsl (HT.out _ hw6) hxs).mono ?_;rw [Ht1.out];rintro e w7 ⟨rfl,hx7⟩;have hx17:=hx16.trans hx7;have hw7:=hw1.trans hx17)
  |(go_at_call 32;with_reducible refine (HB.out _ hw7).mono (mQ fun w8 hx8=>?_);have hx18:=hx17.trans hx8;have hw8:=hw1.trans hx18)
  |(go_at_call 29;with_reducible refine (HF.out _ hw5).mono (mQ fun w9 hx9=>?_);have hw9:=hw5.trans hx9))
 go_ret;exact⟨zD (by rw [hr.out];try rfl),by first|exact hw9|exact hw8|exact hw7|exact hw5|exact hw4|exact hw3|exact hw2⟩
 ):P:=h
theorem yN10b2 {P:Prop}(h:P:=by
 go_enter Tryz.func34,Tryz.ntmps34
 go_upto_region 1 with fail
 generalize (((w.alloc _).alloc _).alloc _).alloc _=w1 at *;exact yN10c1
 ):P:=h
theorem yN10a2 {P:Prop}(h:P:=by
 rw [if_pos rfl] at hr;exact yN10b2
 ):P:=h
theorem yN10a3 {P:Prop}(h:P:=by
 go_enter Tryz.func34,Tryz.ntmps34
 go_upto_region 1 with fail
 generalize (((w.alloc _).alloc _).alloc _).alloc _=w1 at *;exact yN10c1
 ):P:=h
theorem impl_CheckCertificate (h:zO w lo hi A n s)(ht:zO w lo2 hi2 C k t)(hp:zH w lo1 hi1 B m1 B' m1' p)(ha:zH w lo3 hi3 D m2 D' m2' a)(hxs:x.size<=9223372036854775807)(hT:Tab w) :
  Calls Tryz.prog 34 #[.agg #[s.al,s.st,.slice A n c],.agg #[t.al,t.st,.slice C k c2],.agg #[p.al,.slice B m1 d1,.slice B' m1' d1'],.agg #[.bool hd,a.al,.slice D m2 d2,.slice D' m2' d2',x]] w fun e w'=>e=.returned (.int .i64 (zcW s t p hd a x))∧Ext w w':=by
 have HT:=za (fun W (hW:Ext w W)=>hT.ext hW);have HS:=za (fun W (hW:Ext w W)=>h.ext hW);have HS':=za (fun W (hW:Ext w W)=>ht.ext hW);have HB:=za (fun W (hW:Ext w W)=>zeI (d:=d1) (d':=d1') (hp.ext hW) hxs);have HV:=za (fun W (hW:Ext w W)=>zab (c:=c) (h.ext hW));have HV':=za (fun W (hW:Ext w W)=>zab (c:=c2) (ht.ext hW));have HP:=za (fun W (hW:Ext w W)=>zF _ _ _ _ d1 _ _ d1' _ _ (hp.ext hW));have HC:=za (fun W (hW:Ext w W)=>zcl _ _ _ _ d2 _ _ d2' hd _ x _ (ha.ext hW) hxs);have HF:=za (fun W (hW:Ext w W)=>zef (c:=c) (d1:=d1) (d1':=d1') (c2:=c2) (d2:=d2) (d2':=d2') (h.ext hW) (ht.ext hW) (hp.ext hW) (ha.ext hW) (hT.ext hW));have hr:=za (show zcW s t p hd a x=if iface s p t<0 then 1 else if zL hd a x=false then 2 else if hd=false then zdj s t p x
  else if zbY s t p a=2 then 3 else if zbY s t p a=3 then 4 else if zbY s t p a=4 then 5 else 0 from rfl)
 clear h hp ht ha;have hw1:Ext w ((((w.alloc (.cells #[s.al,s.st,.slice A n c] 38)).alloc (.cells #[t.al,t.st,.slice C k c2] 38)).alloc (.cells #[p.al,.slice B m1 d1,.slice B' m1' d1'] 27)).alloc (.cells #[.bool hd,a.al,.slice D m2 d2,.slice D' m2' d2',x] 60)):=((((dB w).alloc _).alloc _).alloc _).alloc _;obtain⟨b1,b2,b3,b4⟩:=zfd (dB ((((w.alloc (.cells #[s.al,s.st,.slice A n c] 38)).alloc (.cells #[t.al,t.st,.slice C k c2] 38)).alloc (.cells #[p.al,.slice B m1 d1,.slice B' m1' d1'] 27)).alloc (.cells #[.bool hd,a.al,.slice D m2 d2,.slice D' m2' d2',x] 60)));generalize zbY s t p a=F at *;cases h1:zk s<;>cases h2:zk t<;>cases h3:zi p
 case true.true.true =>
  rw [if_neg (by rw [zfh,h1,h2,h3];decide)] at hr;rw [h1] at HV;rw [h2] at HV';rw [h3] at HP;clear h1 h2 h3;cases hv0:zL hd a x
  ·rw [hv0,if_pos rfl] at hr;have b:=za hv0;clear hv0;rw [b.out] at HC;exact yN10a3
  rw [hv0,if_neg dM] at hr;have b:=za hv0;clear hv0;rw [b.out] at HC;cases hd
  ·rw [if_pos rfl] at hr;have hr2:=za (show zdj s t p x=if zij [s,t] x=false then 6 else if zcV p x=false then 7 else 0 from rfl);cases ht1:zij [s,t] x
   ·rw [ht1,if_pos rfl] at hr2;have Ht1:=za ht1;clear ht1;exact yN10b1
   rw [ht1,if_neg dM] at hr2;have Ht1:=za ht1;clear ht1;cases hb1:zcV p x
   ·rw [hb1,if_pos rfl] at hr2;exact yN10a1
   rw [hb1,if_neg dM] at hr2;exact yN10a1
  rw [if_neg dM] at hr
  by_cases f2:F=2
  ·subst f2;exact yN10a2
  rw [if_neg f2] at hr;have f:(F==2)=false:=by simpa using f2
  by_cases f3:F=3
  ·subst f3;exact yN10a2
  rw [if_neg f3] at hr;have g:(F==3)=false:=by simpa using f3
  by_cases f4:F=4
  ·subst f4;exact yN10a2
  ·rw [if_neg f4] at hr;have i:(F==4)=false:=by simpa using f4
   exact yN10b2
 all_goals
  rw [if_pos (by rw [zfh,h1,h2,h3];rfl)] at hr;rw [h1] at HV;rw [h2] at HV';rw [h3] at HP;clear h1 h2 h3;exact yN10a3
end
theorem pnx_mod (ms:List Mem) (x l:Nat):pnx ms x l=pnx ms (x % zJ ms) l:=by
 induction ms generalizing x with
 |nil=>rfl
 |cons m r ih =>
  rw [zdd];unfold pnx;have a:x % (m.1*zJ r) / zJ r % m.1=x / zJ r % m.1:=by
   rw [fO,Nat.mod_mul_right_div_self,Nat.mod_mod]
  have b:pnx r (x % (m.1*zJ r)) l=pnx r x l:=by
   rw [ih (x % (m.1*zJ r)),Nat.mod_mul_left_mod,← ih x]
  rw [a,b]
theorem goes_lt {ms:List Mem}(hm:∀ m∈ms,zec m) (hv:∀ l∈v,l<6) {x:Nat}(h:zbu (pnx ms) [0] v x):x<zJ ms:=by
 rcases zaf v with rfl|⟨u,l,rfl⟩
 ·have:=h.ah;have b:=zfr hm;simp at this;omega
 ·obtain⟨n,_,a⟩:=h.inv;exact zic hm (hv l sM) x a
theorem mem_lt {m:Mem}(hm:zec m) (hv:∀ l∈v,l<6) (h:zbu m.2 [0] v q):q<m.1:=by
 have a:∀ n (v:List Nat),v.length=n->(∀ l∈v,l<6)->∀ q,zbu m.2 [0] v q->q<m.1:=by
  intro n
  induction n with
  |zero =>
   intro v hl _ q h;obtain rfl:=dU hl;have:=h.ah;have:=hm.1;simp at *;omega
  |succ n ih =>
   intro v hl hv q h;rcases zaf v with rfl|⟨u,l,rfl⟩
   ·simp at hl
   ·obtain⟨b,c,d⟩:=h.inv;exact hm.2 b l (ih u (by simpa using hl) (fun k hk=>hv k (by simp [hk])) b c) (hv l sM) q d
 exact a _ v rfl hv q h
theorem zfg {m:Mem} {r:List Mem}(hm:zec m)(hr:∀ m∈r,zec m):∀ (n:Nat) (v:List Nat),v.length=n->(∀ l∈v,l<6)->∀ x,zbu (pnx (m :: r)) [0] v x↔∃ q y,x=q*zJ r+y∧zbu m.2 [0] v q∧zbu (pnx r) [0] v y:=by
 intro n
 induction n with
 |zero =>
  intro v hl _ x;obtain rfl:=dU hl;constructor
  ·intro h;have:=h.ah;simp at this;subst this;exact⟨0,0,sM,.nil sM,.nil sM⟩
  ·rintro ⟨q,y,rfl,b,a⟩;have b:=b.ah;have a:=a.ah;simp at b a;subst b;subst a;exact .nil sM
 |succ n j =>
  intro v hl hv x;rcases zaf v with rfl|⟨u,l,rfl⟩
  ·simp at hl
  have p:∀ k∈u,k<6:=fun k hk=>hv k (by simp [hk]);have D:l<6:=hv l sM;have j:=j u (by simpa using hl) p;have H:=zfr hr;have c:∀ q y,zbu m.2 [0] u q->zbu (pnx r) [0] u y->pnx (m :: r) (q*zJ r+y) l=(m.2 q l).flatMap fun d=>(pnx r y l).map fun f=>d*zJ r+f:=by
   intro q y b a;have E:=mem_lt hm p b;have F:=goes_lt hr p a;show (m.2 ((q*zJ r+y) / zJ r % m.1) l).flatMap (fun d=>(pnx r (q*zJ r+y) l).map fun f=>d*zJ r+f)=_;have z:(q*zJ r+y) / zJ r % m.1=q:=by
    rw [fO,Nat.mul_add_div oM,jD F,Nat.add_zero,gT E]
   have B:pnx r (q*zJ r+y) l=pnx r y l:=by
    rw [pnx_mod r (q*zJ r+y),fO,Nat.mul_add_mod,← pnx_mod]
   rw [z,B]
  constructor
  ·intro h;obtain⟨G,b,a⟩:=h.inv;obtain⟨q,y,rfl,g,i⟩:=(j G).1 b;rw [c q y g i] at a;simp only [List.mem_flatMap,List.mem_map] at a;obtain⟨d,o,f,s,rfl⟩:=a;exact⟨d,f,rfl,.snoc g o,.snoc i s⟩
  ·rintro ⟨d,f,rfl,b,a⟩;obtain⟨q,g,i⟩:=b.inv;obtain⟨y,t,C⟩:=a.inv;refine .snoc ((j (q*zJ r+y)).2 ⟨q,y,rfl,g,t⟩) ?_;rw [c q y g t];simp only [List.mem_flatMap,List.mem_map];exact⟨d,i,f,C,rfl⟩
def Runs (s:Sys) (v:List Nat):Prop:=∃ q,zbu (cho s) [0] v q
theorem zgu (a:Aut) (v:List Nat) (q:Nat):zbu (zbW a).2 [0] v q↔q=zbh a 0 v:=by
 have c:∀ n (v:List Nat),v.length=n->∀ q,zbu (zbW a).2 [0] v q↔q=zbh a 0 v:=by
  intro n
  induction n with
  |zero =>
   intro v hl q;obtain rfl:=dU hl;constructor
   ·intro h;have:=h.ah;simp at this;subst this;rfl
   ·rintro rfl;exact .nil (by simp [zbh])
  |succ n b =>
   intro v hl q;rcases zaf v with rfl|⟨u,l,rfl⟩
   ·simp at hl
   rw [zco];have b:=b u (by simpa using hl);constructor
   ·intro h;obtain⟨g,f,d⟩:=h.inv;rw [(b g).1 f] at d;simpa [zbW] using d
   ·rintro rfl;exact .snoc ((b _).2 rfl) (by simp [zbW])
 exact c _ v rfl q
theorem goes_nil (v:List Nat) (y:Nat):zbu (pnx []) [0] v y↔y=0:=by
 have b:∀ n (v:List Nat),v.length=n->∀ y,zbu (pnx []) [0] v y↔y=0:=by
  intro n
  induction n with
  |zero =>
   intro v hl y;obtain rfl:=dU hl;exact⟨fun h=>by simpa using h.ah,fun h=>.nil (by simp [h])⟩
  |succ n a =>
   intro v hl y;rcases zaf v with rfl|⟨u,l,rfl⟩
   ·simp at hl
   have a:=a u (by simpa using hl);constructor
   ·intro h;obtain⟨f,d,c⟩:=h.inv;simpa [pnx] using c
   ·rintro rfl;exact .snoc ((a 0).2 rfl) (by simp [pnx])
 exact b _ v rfl y
theorem goes_two (ha:zi a=true)(hp:zi p=true) (hv:∀ l∈v,l<6) (y:Nat):zbu (pnx [zbW a,zbW p]) [0] v y↔y=zbh a 0 v*p.next.length+zbh p 0 v:=by
 have d:∀ m∈[zbW p],zec m:=by simp;exact zbN hp
 have g:zJ [zbW p]=p.next.length:=by simp [zJ,zax,zbW]
 have b:∀ z,zbu (pnx [zbW p]) [0] v z↔z=zbh p 0 v:=by
  intro z;rw [zfg (zbN hp) sM _ v rfl hv];constructor
  ·rintro ⟨q,y,rfl,b,c⟩;rw [(goes_nil v y).1 c,(zgu p v q).1 b];simp [zJ,zax]
  ·rintro rfl;exact⟨zbh p 0 v,0,by simp [zJ,zax],(zgu p v _).2 rfl,(goes_nil v 0).2 rfl⟩
 rw [zfg (zbN ha) d _ v rfl hv,g];constructor
 ·rintro ⟨q,y,rfl,c,f⟩;rw [(zgu a v q).1 c,(b y).1 f]
 ·rintro rfl;exact⟨_,_,rfl,(zgu a v _).2 rfl,(b _).2 rfl⟩
theorem goes_parts {T:List Mem}(hT:∀ m∈T,zec m) (hv:∀ l∈v,l<6) (g:Nat->Prop):∀ {ss:List Sys},(∀ s∈ss,zec (zdA s))->((∃ x,zbu (pnx (ss.map zdA++T)) [0] v x∧g (x % zJ T))↔(∀ s∈ss,Runs s v)∧∃ y,zbu (pnx T) [0] v y∧g y):=by
 intro ss
 induction ss with
 |nil =>
  intro _;simp only [List.map_nil,List.nil_append,List.not_mem_nil,false_implies,implies_true,true_and];constructor
  ·rintro ⟨x,h,c⟩;rw [gT (goes_lt hT hv h)] at c;exact⟨x,h,c⟩
  ·rintro ⟨x,h,c⟩;exact⟨x,h,by rwa [gT (goes_lt hT hv h)]⟩
 |cons s r j =>
  intro hs;have d:=hs s iF;have f:=fun t a=>hs t (gQ _ a);have j:=j f;have hr:∀ m∈r.map zdA++T,zec m:=by
   intro m hm;rcases List.mem_append.1 hm with h|h
   ·obtain⟨t,a,rfl⟩:=List.mem_map.1 h;exact f t a
   ·exact hT m h
  have b:∀ q y,(q*zJ (r.map zdA++T)+y) % zJ T=y % zJ T:=by
   intro q y;rw [zbI,← Nat.mul_assoc,fO,Nat.mul_add_mod]
  rw [eY,List.cons_append];constructor
  ·rintro ⟨x,h,c⟩;obtain⟨q,y,rfl,i,k⟩:=(zfg d hr _ v rfl hv x).1 h;rw [b] at c;obtain⟨n,o⟩:=j.1 ⟨y,k,c⟩;refine⟨fun t a=>?_,o⟩;rcases List.mem_cons.1 a with rfl|a
   ·exact⟨q,i⟩
   ·exact n t a
  ·rintro ⟨i,k⟩;obtain⟨y,n,o⟩:=j.2 ⟨fun t a=>i t (gQ _ a),k⟩;obtain⟨q,p⟩:=i s iF;exact⟨q*zJ (r.map zdA++T)+y,(zfg d hr _ v rfl hv _).2 ⟨q,y,rfl,p,n⟩,by rwa [b]⟩
def Breaks (ss:List Sys) (a p:Aut) (v:List Nat):Prop:=(∀ s∈ss,Runs s v)∧zaC a (zbh a 0 v)=true∧zaC p (zbh p 0 v)=false
theorem zjc {ss:List Sys} (hss:∀ s∈ss,zk s=true)(ha:zi a=true)(hp:zi p=true) :
  vioB ss a p=true↔∃ v,(∀ l∈v,l∈letters (zK ss|||a.al.toNat) 6)∧Breaks ss a p v:=by
 have k:∀ s∈ss,zec (zdA s):=fun s hs=>zeO (zbZ (hss s hs));have C:∀ m∈[zbW a,zbW p],zec m:=by simp;exact⟨zbN ha,zbN hp⟩
 have B:zJ [zbW a,zbW p]=a.next.length*p.next.length:=by simp [zJ,zax,zbW]
 have E:=(zl ha).2.1;have F:=(zl hp).2.1;have c:∀ x,zcj a p x=zcj a p (x % zJ [zbW a,zbW p]):=by
  intro x;unfold zcj;rw [B,Nat.mod_mul_left_mod,fO,Nat.mod_mul_right_div_self,Nat.mod_mod]
 have i:∀ v,(∀ l∈v,l<6)->((∃ x,zbu (zbX ss a p) [0] v x∧zcj a p x=true)↔Breaks ss a p v):=by
  intro v d;rw [zdm];have t:=goes_parts C d (fun y=>zcj a p y=true) k;have u:(∃ x,zbu (pnx (zbf ss [a,p])) [0] v x∧zcj a p x=true)↔(∃ x,zbu (pnx (ss.map zdA++[zbW a,zbW p])) [0] v x∧zcj a p (x % zJ [zbW a,zbW p])=true):=by
   constructor
   ·rintro ⟨x,h,b⟩;exact⟨x,h,by rw [← c];exact b⟩
   ·rintro ⟨x,h,b⟩;exact⟨x,h,by rw [c];exact b⟩
  rw [u,t];unfold Breaks;refine and_congr_right fun _=>?_;have j:=zeN ha d (q:=0) oM;have g:=zeN hp d (q:=0) oM;have o:(zbh a 0 v*p.next.length+zbh p 0 v) / p.next.length % a.next.length=zbh a 0 v:=by
   rw [fO,Nat.mul_add_div oM,jD g,Nat.add_zero,gT j]
  have r:(zbh a 0 v*p.next.length+zbh p 0 v) % p.next.length=zbh p 0 v:=by
   rw [fO,Nat.mul_add_mod,gT g]
  constructor
  ·rintro ⟨y,D,b⟩;rw [(goes_two ha hp d y).1 D] at b;unfold zcj at b;rw [o,r] at b;simpa using b
  ·intro b;refine⟨_,(goes_two ha hp d _).2 rfl,?_⟩;unfold zcj;rw [o,r];simpa using b
 unfold vioB lostB;rw [Bool.not_eq_true',@decide_eq_false_iff_not _ (Classical.propDecidable _)];constructor
 ·intro hn;apply Classical.byContradiction;intro hno;refine hn fun v d x n=>?_;cases hb:zcj a p x
  ·rfl
  ·exact absurd ⟨v,d,(i v (fun l f=>zcc _ l (d l f))).1 ⟨x,n,hb⟩⟩ hno
 ·rintro ⟨v,d,z⟩ f;obtain⟨x,n,b⟩:=(i v (fun l f=>zcc _ l (d l f))).2 z;have:=f v d x n;rw [b] at this;cases this
def hidL (s:Sys) (A l:Nat):Prop:=l<6∧s.al.toNat.testBit l=true∧A.testBit l=false
inductive Cl (s:Sys) (p:Aut) (A:Nat) (B:Nat->Nat->Prop):Nat->Nat->Prop
 |base {q i:Nat} (h:B q i):Cl s p A B q i
 |hid {q i l q':Nat} (h:Cl s p A B q i) (hl:hidL s A l) (hq:q'∈cho s q l):Cl s p A B q' (aGo p i l)
def mvB (s:Sys) (p:Aut) (l:Nat) (B:Nat->Nat->Prop):Nat->Nat->Prop:=fun q' j=>∃ q i,B q i∧q'∈cho s q l∧j=aGo p i l
def prR (s:Sys) (p:Aut) (A:Nat):List Nat->Nat->Nat->Prop
 |[]=>Cl s p A (fun q i=>q=0∧i=0)
 |l :: r=>Cl s p A (mvB s p l (prR s p A r))
def PR (s:Sys) (p:Aut) (A:Nat) (v:List Nat):Nat->Nat->Prop:=prR s p A v.reverse
theorem PR_snoc (s:Sys) (p:Aut) (A:Nat) (v:List Nat) (l:Nat):PR s p A (v++[l])=Cl s p A (mvB s p l (PR s p A v)):=by
 unfold PR;rw [List.reverse_append];rfl
def Bad (s:Sys) (p:Aut) (A:Nat) (v:List Nat):Prop:=∃ q i,PR s p A v q i∧zaC p i=false
def SafeW (s:Sys) (p:Aut) (A:Nat) (v:List Nat):Prop:=∀ k,k<=v.length->¬ Bad s p A (v.take k)
theorem ziX (hs:Sml s) (hb:s.al.toNat.testBit l=true) (set q':Nat):(zbr s.edges set (l:Int)).testBit q'=true↔∃ q,set.testBit q=true∧q'∈cho s q l:=by
 obtain⟨m,n,h,-⟩:=hs;rw [zcp];constructor
 ·rintro ⟨e,b,⟨c,a⟩,rfl⟩;obtain⟨i,j,k⟩:=h e b;refine⟨e.fr.toNat,a,?_⟩;unfold cho;rw [if_pos hb,zG];refine⟨oM,(zcO _ _ _ _).2 ⟨e,b,?_,rfl⟩⟩;exact⟨oM,c⟩
 ·rintro ⟨q,c,a⟩;unfold cho at a;rw [if_pos hb,zG] at a;obtain⟨e,b,⟨d,f⟩,g⟩:=(zcO _ _ _ _).1 a.2;exact⟨e,b,⟨f,by rw [d];simpa using c⟩,g⟩
theorem zih (hs:Sml s) (x:Nat) (l:Int):zbr s.edges x l<65536:=by
 have a:=zfA hs.2.2.1 x l;have b:(2:Nat) ^ s.st.toNat<=2 ^ 16:=dV oM (oH hs.2.1);exact dY a b
def bitS (T:List Nat) (i q:Nat):Prop:=(T.getD i 0).testBit q=true
theorem bitS_lt (h:bitS T i q):i<T.length:=by
 rcases Nat.lt_or_ge i T.length with a|a
 ·exact a
 ·unfold bitS at h;rw [dF,eC a] at h;simp at h
theorem zio (hj:j<T.length) (x i q:Nat):bitS (T.set j (T.getD j 0|||x)) i q↔bitS T i q∨(i=j∧x.testBit q=true):=by
 unfold bitS
 by_cases h:j=i
 ·subst h;rw [dF,eX hj,fL,Nat.testBit_or,Bool.or_eq_true];simp
 ·rw [dF,fM h,← dF];constructor
  ·exact .inl
  ·rintro (a|⟨a,-⟩)
   ·exact a
   ·exact absurd a.symm h
def zeD (T:List Nat) (n:Nat) (B:Nat->Nat->Prop):Prop:=T.length=n∧(∀ x∈T,x<65536)∧∀ i q,bitS T i q↔B q i
structure ClI (s:Sys) (p:Aut) (A:Nat) (B:Nat->Nat->Prop) (n:Nat) (T:List Nat):Prop where
 len:T.length=n
 lt:∀ x∈T,x<65536
 base:∀ q i,B q i->bitS T i q
 sub:∀ i q,bitS T i q->Cl s p A B q i
def zdU (s:Sys) (p:Aut) (T:List Nat) (i l:Nat):Prop:=∀ q,bitS T i q->∀ q'∈cho s q l,bitS T (aGo p i l) q'
section
variable {s:Sys} {p:Aut} {A n:Nat} {B:Nat->Nat->Prop} {T:List Nat}
theorem zeD.clI (h:zeD T n B):ClI s p A B n T:=⟨h.1,h.2.1,fun q i hb=>(h.2.2 i q).2 hb,fun i q hb=>.base ((h.2.2 i q).1 hb)⟩
theorem zeH (h:∀ x∈T,x<65536) (i:Nat):T.getD i 0<65536:=by
 rw [dF];cases h1:T[i]? with
 |none=>simp
 |some x=>exact h x (dC h1)
theorem ClI.step (h:ClI s p A B n T)(hs:Sml s)(hp:zi p=true)(hn:n=p.next.length) (hi:i<n)(hl:hidL s A l) :
  ClI s p A B n (T.set (aGo p i l) (T.getD (aGo p i l) 0|||zbr s.edges (T.getD i 0) (l:Int))):=by
 have b:aGo p i l<T.length:=by rw [h.len,hn];exact zfS hp oM hl.1
 refine⟨by rw [List.length_set];exact h.len,fun x a=>?_,fun q i' hb=>(zio b _ _ _).2 (.inl (h.base q i' hb)),fun i' q hb=>?_⟩
 ·rcases e8 a with a|rfl
  ·exact h.lt x a
  ·exact eO (n:=16) (zeH h.lt _) (dY (zfA hs.2.2.1 _ _) (dV oM (oH hs.2.1)))
 ·rcases (zio b _ _ _).1 hb with hb1|⟨rfl,hb1⟩
  ·exact h.sub _ _ hb1
  ·obtain⟨f,c,d⟩:=(ziX hs hl.2.1 _ _).1 hb1;exact .hid (h.sub _ _ c) hl d
theorem closedAt_of (hs:Sml s) (hl:hidL s A l)(he:T.getD (aGo p i l) 0|||zbr s.edges (T.getD i 0) (l:Int)=T.getD (aGo p i l) 0):zdU s p T i l:=by
 intro q hq q' hq';unfold bitS;rw [← he,Nat.testBit_or,(ziX hs hl.2.1 _ _).2 ⟨q,hq,hq'⟩,Bool.or_true]
theorem ClI.fin (h:ClI s p A B n T)(hc:∀ i l,i<n->hidL s A l->zdU s p T i l):zeD T n (Cl s p A B):=by
 refine⟨h.len,h.lt,fun i q=>⟨h.sub i q,fun hb=>?_⟩⟩
 induction hb with
 |base hb=>exact h.base _ _ hb
 |hid _ hl hq ih=>exact hc _ _ (by rw [← h.len];exact bitS_lt ih) hl _ ih _ hq
end
def room:List Nat->Nat
 |[]=>0
 |x :: r=>(65536 - x)+room r
theorem room_set:∀ (T:List Nat) (j x:Nat),(T.getD j 0|||x)<65536->room (T.set j (T.getD j 0|||x))<=room T∧(j<T.length->T.getD j 0|||x≠T.getD j 0->room (T.set j (T.getD j 0|||x))<room T)
 |[],j,x,_=>by simp [room]
 |a :: r,0,x,h=>by
  simp only [List.getD_cons_zero,List.set_cons_zero,room] at h ⊢
  have h1:a<=a|||x:=Nat.left_le_or
  refine⟨oM,fun _ h2=>oM⟩
 |a :: r,j+1,x,h=>by
  simp only [List.getD_cons_succ,List.set_cons_succ,room,List.length_cons] at h ⊢
  obtain⟨h1,h2⟩:=room_set r j x h
  refine⟨oM,fun h3 h4=>by have:=h2 oM h4;omega⟩
theorem sub_bit {a b:Nat}(ha:a<64)(hb:b<64) (l:Nat):l∈letters (a - (a&&&b)) 6↔l<6∧a.testBit l=true∧b.testBit l=false:=by
 rw [zG];refine and_congr_right fun hl=>?_;have c:∀ a<64,∀ b<64,∀ l<6,((a - (a&&&b)).testBit l=true↔a.testBit l=true∧b.testBit l=false):=by decide +kernel
 exact c a ha b hb l hl
theorem stand_bad {A:Nat}  (h:zeD T n (PR s p A v)):Bad s p A v↔∃ i,i<n∧T.getD i 0≠0∧zaC p i=false:=by
 constructor
 ·rintro ⟨q,i,b,c⟩;have a:=(h.2.2 i q).2 b;refine⟨i,by rw [← h.1];exact bitS_lt a,fun e=>?_,c⟩;unfold bitS at a;rw [e] at a;simp at a
 ·rintro ⟨i,f,b,c⟩;obtain⟨q,d⟩:=Nat.exists_testBit_of_ne_zero b;exact⟨q,i,(h.2.2 i q).1 d,c⟩
theorem stand_start (hn:1<=n):zeD ((dT n 0).set 0 1) n (fun q i=>q=0∧i=0):=by
 refine⟨sM,fun x b=>?_,fun i q=>?_⟩
 ·rcases e8 b with b|rfl
  ·rw [jK] at b;omega
  ·omega
 ·unfold bitS;rw [dF]
  by_cases h:i=0
  ·subst h;rw [eX (by rw [List.length_replicate];omega),fL];constructor
   ·intro h;exact⟨by cases q with|zero=>rfl|succ q=>simp [Nat.testBit_succ] at h,rfl⟩
   ·rintro ⟨rfl,-⟩;rfl
  ·rw [fM oM];constructor
   ·intro h;cases a:(dT n 0)[i]? with
    |none=>rw [a] at h;simp at h
    |some x =>
     have:=dC a;rw [jK] at this;rw [a,this.2] at h;simp at h
   ·rintro ⟨_,a⟩;exact absurd a h
def memT (W:World) (g n:Nat):List Nat:=(List.range n).map fun j=>match W.cell? ⟨g,j,none⟩ with|some (.int _ z)=>z.toNat|_=>0
theorem memT_own (h:W.ownsRow base 3 1 (.slice (some g) n c) n (zae T))(hT:T.length=n):memT W g n=T:=by
 refine List.ext_getElem? fun j=>?_;unfold memT;rw [List.getElem?_map];rcases Nat.lt_or_ge j n with a|a
 ·rw [List.getElem?_range a,Option.map_some,h.cellAt j oM,show (zae T)[j]?=T[j]?.map (fun x=>Value.int .i64 (x:Nat)) by simp [zae]];rw [dD oM];simp
 ·rw [eC (by simpa using a),eC oM];rfl
theorem zcB (h:W.ownsRow base 3 1 (.slice (some g) n c) n (zae T))(hj:j<n):W.cell? ⟨g,j,none⟩=some (.int .i64 (T.getD j 0:Nat)):=by
 have a:=zeM h;have b:T.length=n:=by simpa [zae] using a
 rw [h.cellAt j oM,show (zae T)[j]?=T[j]?.map (fun x=>Value.int .i64 (x:Nat)) by simp [zae],dF,dD oM];simp
def RetSets (g N cc base:Nat) (Q:Nat->Nat->Prop) (w:World) (e:Ending) (w':World):Prop:=
 ∃ T':List Nat,e=.returned (.slice (some g) N cc)∧w'.ownsRow base 3 1 (.slice (some g) N cc) N (zae T')∧zeD T' N Q∧Frm (fun k=>k=g) w w'
section
variable {w:World} {lo hi n c m d m' d' L:Nat} {A B B':Option Addr} {s:Sys} {p:Aut}
theorem zfZ {cc:Nat}  {Bs:Nat->Nat->Prop}(hS:zO w lo hi A n s)(hP:zH w lo hi B m B' m' p)(hv:zk s=true)(hp:zi p=true)(hL:L<64)(hN:N=p.next.length)
  (hg:hi<=base) (zje:w.ownsRow base 3 1 (.slice (some g) N cc) N (zae T)) (hT:zeD T N Bs) :
  Calls Tryz.prog 223 #[.agg #[s.al,s.st,.slice A n c,p.al,.slice B m d,.slice B' m' d',L],.slice (some g) N cc] w (RetSets g N cc base (Cl s p L Bs) w):=by
 have O:=zbZ hv;obtain⟨aX,aY⟩:=zT hv;obtain⟨al,ab⟩:∃ al:Nat,Hid (s.al=al):=⟨s.al.toNat,by unfold Hid;omega⟩;have I:al<64:=oH ab.out;have aN:N<=12:=by have:=(zl hp).2.1;omega
 have a1:=(zje.lt g rfl).1;have a3:=(zje.lt g rfl).2;have HN:=za hN;have aC:=za (zbO (a:=al) (b:=L) tM tM);have a5:al&&&L<=al:=Nat.and_le_left;have Z:(al:Int) - ((al&&&L:Nat):Int)=((al - (al&&&L):Nat):Int):=oM;have am:=za Z;clear Z;have H:=za (fun l=>sub_bit I hL l);have aZ:=aC.out;clear hN
 go_enter Tryz.func223,Tryz.ntmps223
 go_upto_region 1 with fail
 generalize U0:w.alloc _=w1 at *;obtain⟨hw1,b1⟩:=fY U0;have k1:=b1.cell;clear U0;rw [ab.out] at k1;go_wp2_with fail
 rw [am.out];refine (zY (al - (al&&&L)) tM _).mono ?_;rintro e w2 ⟨HA,hc,rfl,E,hx2⟩;have H:=za (fun l=>(sub_bit I hL l).trans (show l<6∧al.testBit l=true∧L.testBit l=false↔hidL s L l by unfold hidL;rw [ab.out];rfl));generalize letters (al - (al&&&L)) 6=hs at *;have a4:hs.length<=9223372036854775807:=(Reads.af E).len;have an:Frm (fun k=>k=g) w w2:=(hw1.trans hx2).aj;have aw:=zh zje (hw1.trans hx2);have aF:=b1.ext hx2;have o:=hT.clI (s:=s) (p:=p) (A:=L);clear zje hT k1 b1;go_wp2_with fail
 go_loopw [6] (fun mv wr=>∃ (C:Bool) (T:List Nat),mv=.bool C∧Hid (ClI s p L Bs N T)∧Hid (C=false->∀ i l,i<N->hidL s L l->zdU s p T i l)∧wr.ownsRow base 3 1 (.slice (some g) N cc) N (zae T)∧Frm (fun k=>k=g) w2 wr) (fun mv wr=>room (memT wr g N)+(match mv with | .bool true=>1|_=>0))
 case atStart=>exact⟨true,T,rfl,za o,za (fun h=>by cases h),aw,Frm.refl _ _⟩
 case round =>
  clear o aw;obtain⟨C,T,rfl,o,f,zje,t⟩:=hrel;have ap:=za (memT_own zje o.out.len);cases C
  ·have aK:=za (o.out.fin (f.out rfl));go_wp2_with fail
   go_ret;exact⟨T,rfl,zje,aK.out,an.trans t⟩
  ·go_wp2_with fail
   go_loopw [6,7] (fun mv iv wq=>∃ (C:Bool) (i:Nat) (v:List Nat),mv=.bool C∧iv=.int .i64 i∧i<=N∧Hid (ClI s p L Bs N v)∧Hid (room v<=room T∧(C=true->room v<room T))∧Hid (C=false->∀ i' l,i'<i->hidL s L l->zdU s p v i' l)∧wq.ownsRow base 3 1 (.slice (some g) N cc) N (zae v)∧Frm (fun k=>k=g) w2 wq) (fun _ iv _=>N - (intOf iv).toNat)
   case atStart=>exact⟨false,0,T,rfl,rfl,dG _,o,za ⟨dE _,fun h=>by cases h⟩,za (fun _ i' l h=>oM),zje,t⟩
   case round =>
    clear o zje t f;obtain⟨C,i,v,rfl,rfl,hi,o,r,f,zje,t⟩:=hrel
    by_cases hlt:i<N
    ·have aQ:(i:Int)<(N:Int):=oM;go_wp2_with fail
     go_loopw [6,8] (fun mv kv wq=>∃ (C:Bool) (k:Nat) (v:List Nat),mv=.bool C∧kv=.int .i64 k∧k<=hs.length∧Hid (ClI s p L Bs N v)∧Hid (room v<=room T∧(C=true->room v<room T))∧Hid (C=false->(∀ i' l,i'<i->hidL s L l->zdU s p v i' l)∧∀ (k' l:Nat),k'<k->hs[k']?=some l->zdU s p v i l)∧wq.ownsRow base 3 1 (.slice (some g) N cc) N (zae v)∧Frm (fun k=>k=g) w2 wq) (fun _ kv _=>hs.length - (intOf kv).toNat)
     case atStart=>exact⟨C,0,v,rfl,rfl,dG _,o,r,za (fun h=>⟨f.out h,fun k' l h=>oM⟩),zje,t⟩
     case round =>
      clear o r f zje t;obtain⟨C,k,v,rfl,rfl,hk,o,r,f,zje,t⟩:=hrel
      by_cases hkl:k<hs.length
      ·have aP:(k:Int)<(hs.length:Int):=oM;obtain⟨l,U⟩:∃ l,hs[k]?=some l:=⟨_,dD hkl⟩;have M:=(H.out l).1 (dC U);have ao:=M.1;have ad:aGo p i l<N:=by rw [HN.out];exact zfS hp (by rw [← HN.out];exact hlt) ao
       obtain⟨gh,rfl,a2,-⟩:=zag E oM;have G:=zbq E t (fun b V e=>oH hw1.size);have cH:=zcB G hkl;rw [dF,U,fL] at cH;have CH:∀ W,Ext wr W->W.cell? ⟨gh,k,none⟩=some (.int .i64 (l:Nat)):=fun W hW=>hW.aa cH;have CB:∀ W,Ext wr W->∀ q,W.cell? ⟨w.heap.size,q,none⟩=#[Value.int .i64 s.al,.int .i64 s.st,.slice A n c,.int .i64 p.al,.slice B m d,.slice B' m' d',.int .i64 L][q]?:=fun W hW=>((aF.frm t oM).ext hW).cell;have CI:∀ W,Ext wr W->W.cell? ⟨g,i,none⟩=some (.int .i64 (v.getD i 0:Nat)):=fun W hW=>hW.aa (zcB zje hlt);have aA:=za (fun W (hW:Ext wr W)=>((hP.ext (hw1.trans hx2)).frm t (fun k V h2 e=>oM)).ext hW);have aB:=za (fun W (hW:Ext wr W)=>((hS.ext (hw1.trans hx2)).frm t (fun k V h2 e=>oM)).ext hW);have Hl:=za U;have a6:=dB wr;clear U cH G;go_wp2_with fail
       go_region_held3 (fun W=>Ext wr W) (first|assumption|(refine eV ?_;assumption)|(refine eJ ?_ aM;assumption)|(refine eJ ?_ aM;refine eV ?_;assumption)) (first|(go_at_call 225;refine (zdh (aA.out _ ?_) hp (by rw [← HN.out];exact hlt) ao).mono ?_;(first|assumption|(refine eV ?_;assumption));rintro e w3 ⟨rfl,hx3⟩))
       have aR:Ext wr w3:=aM;obtain⟨j,hj⟩:∃ j,Hid (aGo p i l=j):=⟨_,rfl⟩;rw [hj.out] at ad ⊢;have CJ:∀ W,Ext wr W->W.cell? ⟨g,j,none⟩=some (.int .i64 (v.getD j 0:Nat)):=fun W hW=>hW.aa (zcB zje ad);obtain⟨x,hx⟩:∃ x,Hid (v.getD i 0=x):=⟨_,rfl⟩;obtain⟨y,hy⟩:∃ y,Hid (v.getD j 0=y):=⟨_,rfl⟩;have hx16:x<65536:=by rw [← hx.out];exact zeH o.out.lt i
       have av:y<65536:=by rw [← hy.out];exact zeH o.out.lt j
       rw [hx.out] at CI;rw [hy.out] at CJ;have Q:zbr s.edges x (l:Int)<65536:=zih O _ _;obtain⟨z,hz⟩:∃ z,Hid (zbr s.edges x (l:Int)=z):=⟨_,rfl⟩;rw [hz.out] at Q;have aH:=zbE (a:=y) (b:=z) tM tM;have aO:(j:Int)<(N:Int):=oM;obtain⟨u,hu⟩:∃ u,Hid (y|||z=u):=⟨_,rfl⟩;have au:u<65536:=by rw [← hu.out];exact eO (n:=16) av Q
       rw [hu.out] at aH;go_wp2_with fail
       go_region_held3 (fun W=>Ext wr W) (first|assumption|(refine eV ?_;assumption)|(refine eJ ?_ aM;assumption)|(refine eJ ?_ aM;refine eV ?_;assumption)) (first|(go_at_call 224;refine (zeV (c:=c) (k0:=s.st.toNat) (aB.out _ ?_) O.2.2.1 (oH O.2.1) tM).mono ?_;(first|assumption|(refine eV ?_;assumption));rw [hz.out];rintro e w4 ⟨rfl,hx4⟩))
       have R:Ext wr w4:=aM;have cJ:=CJ w4 R;have X:=t.ext R;have D:=zh zje R;have J:v.getD (aGo p i l) 0|||zbr s.edges (v.getD i 0) (l:Int)=u:=by rw [hj.out,hx.out,hy.out,hz.out,hu.out]
       have aj:=za J;have F:=o.out.step O hp HN.out hlt M;rw [J,hj.out] at F;have aa:=za F;clear J F CH CB CI CJ
       by_cases he:u=y
       ·have aD:=za (closedAt_of (T:=v) (p:=p) (i:=i) O M (by rw [aj.out,hj.out,hy.out,he]));have aG:((u:Int) != (y:Int))=false:=by rw [he];simp
        clear he;go_wp2_with fail
        go_roundw
        case rel=>exact⟨C,k+1,v,rfl,gM,oM,o,r,za (fun h=>⟨(f.out h).1,fun k' l' S hl'=>by
         rcases eF (eQ S) with V|rfl
         ·exact (f.out h).2 k' l' V hl'
         ·rw [Hl.out] at hl';obtain rfl:=Option.some.inj hl';exact aD.out⟩),D,X⟩
        case measure=>simp [intOf];omega
       ·have aG:((u:Int) != (y:Int))=true:=by simp;omega
        have af:=room_set v j z (by rw [hy.out,hu.out];exact au);rw [hy.out,hu.out] at af;have Y:=af.2 (by rw [o.out.len];exact ad) he;have ak:=za Y;have aq:=(D.stored j (.int .i64 (u:Nat))).1;rw [← zdY] at aq;have a0:=D.frozenAt j;clear af Y he;go_wp2_with fail
        go_roundw
        case rel=>exact⟨true,k+1,v.set j u,rfl,gM,oM,za aa.out,za ⟨by have:=ak.out;have:=r.out.1;omega,fun _=>by have:=ak.out;have:=r.out.1;omega⟩,za (fun h=>by cases h),aq,X.trans (Frm.setCell _ g j _)⟩
        case measure=>simp [intOf];omega
      ·go_wp2_with fail
       go_roundw
       case rel=>exact⟨C,i+1,v,rfl,gM,oM,o,r,za (fun h i' l hi' U=>by
        rcases eF (eQ hi') with V|rfl
        ·exact (f.out h).1 i' l V U
        ·obtain⟨k',S⟩:=eB ((H.out l).2 U);exact (f.out h).2 k' l (by have:=(List.getElem?_eq_some_iff.1 S).1;omega) S),zje,t⟩
       case measure=>simp [intOf];omega
    ·go_wp2_with fail
     have ae:=za (memT_own zje o.out.len);go_roundw
     case rel=>exact⟨C,v,rfl,o,za (fun h i l hi U=>f.out h i l oM U),zje,t⟩
     case measure =>
      rw [ap.out,ae.out];have V:=r.out;cases C
      ·simp;omega
      ·have:=V.2 rfl
       simp;omega
end
theorem Frm.grownG {T:Nat->Prop}  {row:Option Nat}(h:Frm T w W)(hg:W.grownBy W' row)(hr:∀ k,row=some k->w.heap.size<=k):Frm T w W':=
 ⟨hg.os.trans h.os,hg.tape.trans h.tape,hg.output.trans h.output,Nat.le_trans h.size hg.size,fun k hk hn=>(hg.block k (dY hk h.size) (fun e=>by have:=hr k e.symm;omega)).trans (h.block k hk hn)⟩
structure Gr2 (w0 W:World) (G:Nat) (al st:Int) (v:Value) (es:List Edg):Prop where
 blk:Blk W G 38 #[al,st,v]
 own:W.ownsRow w0.heap.size 117 3 v es.length (zu es)
 fr:Frm (fun k=>k=G) w0 W
 hG:G<w0.heap.size
theorem Gr2.ar {v:Value} (h:Gr2 w0 W G al st v es)(hb:Ext W W'):Gr2 w0 W' G al st v es:=⟨h.blk.ext hb,zh h.own hb,h.fr.ext hb,h.hG⟩
theorem Gr2.push {v:Value}  {cap:Nat} {e:Edg}(h:Gr2 w0 W G al st v es) (zje:W'.ownsRow w0.heap.size 117 3 (.slice (some g) (es.length+1) cap) (es.length+1) (zu es++[.int .i64 e.fr,.int .i64 e.le,.int .i64 e.ta]))
  (hg:W.grownBy W' v.ownBlock) :
  Hid (W'.cell? ⟨G,2,none⟩=some v)∧W'.frozen? ⟨G,2,none⟩=false∧Gr2 w0 (W'.setCell ⟨G,2,none⟩ (.slice (some g) (es.length+1) cap)) G al st (.slice (some g) (es.length+1) cap) (es++[e]):=by
 have a:Blk W' G 38 #[.int .i64 al,.int .i64 st,v]:=(hg.block G h.blk.lt (fun e=>by have:=(h.own.lt G e.symm).1;have:=h.hG;omega)).trans h.blk;have f:=(zje.lt g rfl).1;have c:=h.hG;have d:Frm (fun k=>k=G) w0 W':=h.fr.grownG hg (fun k hk=>(h.own.lt k hk).1);refine⟨a.cell 2,a.frozen 2,⟨by simpa using a.ae 2 _,?_,d.cell rfl _,c⟩⟩;have:=zf zje (Frm.setCell W' G 2 (.slice (some g) (es.length+1) cap)) (fun b hv hS=>by
  have:g=b:=by simpa [Value.ownBlock] using hv
  omega)
 rw [zbx];simpa [zu] using this
end Go.Proofs.YtckbjnndaaoddaaGreatDoor
