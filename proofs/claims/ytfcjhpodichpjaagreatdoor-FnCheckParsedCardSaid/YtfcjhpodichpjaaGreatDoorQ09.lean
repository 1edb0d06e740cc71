/- The referenc -/
import Derived.Test.YtfcjhpodichpjaaGreatDoorQ08
import Derived.OwnWalk
set_option maxHeartbeats 8000000
set_option maxRecDepth 100000
namespace Go.Proofs.YtfcjhpodichpjaaGreatDoor
open Go Go.RowKit
open Blk renaming new->dT
open Bool renaming and_eq_true->dF
open Ext renaming bl_->dW,refl->cW
open Int renaming natCast_mul->fC
open List renaming replicate->dN,take_of_length_le->dG
open Nat renaming ne_of_lt->eL,or_lt_two_pow->eJ,pow_le_pow_right->dV
def zcE (s:Sys) (a p:Aut):Bool:=zl s&&(zh a&&zh p)
noncomputable def zbQ (s:Sys) (a p:Aut):Bool:=zcE s a p&&vioB [s] a p
noncomputable def zbR (s:Sys) (a p:Aut):ByteArray:=if zcE s a p=true then vioW [s] a p else ByteArray.empty
noncomputable def zeg (s:Sys) (a p:Aut):Bool:=zcE s a p&&!vioB [s] a p
def zdt (ss:List Sys) (p:Aut):Bool:=zE ss&&zh p
noncomputable def zcg (ss:List Sys) (p:Aut):Bool:=zdt ss p&&vioB ss free p
noncomputable def zaT (ss:List Sys) (p:Aut):ByteArray:=if zdt ss p=true then vioW ss free p else ByteArray.empty
noncomputable def zcO (ss:List Sys) (p:Aut):Bool:=zdt ss p&&!vioB ss free p
theorem zfQ (s:Sys) (a p:Aut):zeg s a p=(zcE s a p&&!zbQ s a p):=by unfold zeg zbQ;cases zcE s a p<;>simp
theorem zgx (ss:List Sys) (p:Aut):zcO ss p=(zdt ss p&&!zcg ss p):=by unfold zcO zcg;cases zdt ss p<;>simp
section
variable {lo hi n c:Nat} {A:Option Addr} {s:Sys} {lo1 hi1 m1 d1 m1' d1':Nat} {B B':Option Addr} {a:Aut} {lo2 hi2 m2 d2 m2' d2':Nat} {C C':Option Addr} {p:Aut} {w:World}
theorem zfO (h:zR w lo hi A n s)(ha:zI w lo1 hi1 B m1 B' m1' a)(hp:zI w lo2 hi2 C m2 C' m2' p) :
  Calls Tryz.prog 145 #[.agg #[s.al,s.st,.slice A n c],.agg #[a.al,.slice B m1 d1,.slice B' m1' d1'],.agg #[p.al,.slice C m2 d2,.slice C' m2' d2']] w fun e w'=>e=.returned (.bool (zcE s a p))∧Ext w w':=by
 have r:=za (fun W (hW:Ext w W)=>zah (c:=c) (h.ext hW));have o:=za (fun W (hW:Ext w W)=>zH _ _ _ _ d1 _ _ d1' _ _ (ha.ext hW));have q:=za (fun W (hW:Ext w W)=>zH _ _ _ _ d2 _ _ d2' _ _ (hp.ext hW));have x:=za (show zcE s a p=(zl s&&(zh a&&zh p)) from rfl);clear h ha hp;have f:Ext w (((w.alloc (.cells #[s.al,s.st,.slice A n c] 39)).alloc (.cells #[a.al,.slice B m1 d1,.slice B' m1' d1'] 26)).alloc (.cells #[p.al,.slice C m2 d2,.slice C' m2' d2'] 26)):=(((cW w).alloc _).alloc _).alloc _;obtain⟨t,u,v⟩:=zN (cW (((w.alloc (.cells #[s.al,s.st,.slice A n c] 39)).alloc (.cells #[a.al,.slice B m1 d1,.slice B' m1' d1'] 26)).alloc (.cells #[p.al,.slice C m2 d2,.slice C' m2' d2'] 26)));cases h1:zl s<;>cases h2:zh a<;>cases h3:zh p
 all_goals
  have k:=za h1;have l:=za h2;have m:=za h3;clear h1 h2 h3
  go_enter Tryz.func145,Tryz.ntmps145
  go_upto_region 1 with fail
  generalize ((w.alloc _).alloc _).alloc _=E at *;have y:=t.cell;go_wp2_with (first
   |(go_at_call 94;with_reducible refine (r.out _ f).mono ?_;rw [k.out];rintro e F ⟨rfl,hx2⟩;have b:=f.trans hx2;have z:=(u.ext hx2).cell)
   |(go_at_call 27;with_reducible refine (o.out _ b).mono ?_;rw [l.out];rintro e G ⟨rfl,g⟩;have d:=b.trans g;have D:=(v.ext (hx2.trans g)).cell)
   |(go_at_call 27;with_reducible refine (q.out _ d).mono ?_;rw [m.out];rintro e H ⟨rfl,j⟩;have i:=d.trans j))
  go_ret;exact⟨zj (by rw [x.out,k.out,l.out,m.out];rfl),by first|exact i|exact d|exact b⟩
theorem zcv (h:zR w lo hi A n s)(ha:zI w lo1 hi1 B m1 B' m1' a)(hp:zI w lo2 hi2 C m2 C' m2' p) :
  Calls Tryz.prog 144 #[.agg #[s.al,s.st,.slice A n c],.agg #[a.al,.slice B m1 d1,.slice B' m1' d1'],.agg #[p.al,.slice C m2 d2,.slice C' m2' d2']] w fun e w'=>e=.returned (.tuple #[.string (zbR s a p),.bool (zbQ s a p)])∧Ext w w':=by
 have V:=za (fun W (hW:Ext w W)=>zfO (c:=c) (d1:=d1) (d1':=d1') (d2:=d2) (d2':=d2') (h.ext hW) (ha.ext hW) (hp.ext hW));have HS:=za (fun W (hW:Ext w W)=>h.ext hW);have HA:=za (fun W (hW:Ext w W)=>ha.ext hW);have HP:=za (fun W (hW:Ext w W)=>hp.ext hW);clear h ha hp;have d:Ext w (((w.alloc (.cells #[s.al,s.st,.slice A n c] 39)).alloc (.cells #[a.al,.slice B m1 d1,.slice B' m1' d1'] 26)).alloc (.cells #[p.al,.slice C m2 d2,.slice C' m2' d2'] 26)):=(((cW w).alloc _).alloc _).alloc _;obtain⟨g,l,q⟩:=zN (cW (((w.alloc (.cells #[s.al,s.st,.slice A n c] 39)).alloc (.cells #[a.al,.slice B m1 d1,.slice B' m1' d1'] 26)).alloc (.cells #[p.al,.slice C m2 d2,.slice C' m2' d2'] 26)));cases hT:zcE s a p
 ·have H:=za hT;have E:=za (show zbR s a p=ByteArray.empty∧zbQ s a p=false by unfold zbR zbQ;rw [hT];exact⟨rfl,rfl⟩);clear hT
  go_enter Tryz.func144,Tryz.ntmps144
  go_upto_region 1 with fail
  generalize ((w.alloc _).alloc _).alloc _=w1 at *;have X:=g.cell;have Y:=l.cell;have Z:=q.cell;go_wp2_with (go_at_call 145;refine (V.out _ d).mono ?_;rw [H.out];rintro e b ⟨rfl,hx2⟩)
  go_ret2;exact⟨by rw [E.out.1,E.out.2];rfl,d.trans hx2⟩
 ·have hv:zl s=true∧zh a=true∧zh p=true:=by
   unfold zcE at hT;simp only [dF] at hT;exact hT
  obtain⟨T,U,v3⟩:=hv;have H:=za hT;have E:=za (show zbR s a p=vioW [s] a p∧zbQ s a p=vioB [s] a p by unfold zbR zbQ;rw [hT];exact⟨rfl,sM⟩);have L:=(zk U).1;have R:=zQ T;obtain⟨G,o⟩:∃ al:Nat,Hid (s.al=al):=⟨s.al.toNat,by unfold Hid;omega⟩;obtain⟨al,m⟩:∃ al:Nat,Hid (a.al=al):=⟨a.al.toNat,by unfold Hid;omega⟩;have ag:G<=63:=oH o.out;have af:al<=63:=oH m.out;have ap:bits .or .i64 (G:Int) (al:Int)=((G|||al:Nat):Int):=zbz tM tM;have J:=za (show (G|||al)=zV [s]|||a.al.toNat by
   have h1:=o.out;have h2:=m.out;rw [h2,Int.toNat_natCast];simp [zV,h1])
  have M:=za (show zE [s]=true by simp [zE,T]);have V2:=za U;have V3:=za v3;clear hT L R T U v3
  go_enter Tryz.func144,Tryz.ntmps144
  go_upto_region 1 with fail
  generalize ((w.alloc _).alloc _).alloc _=w1 at *;have X:=g.cell;have Y:=l.cell;have Z:=q.cell;go_upto_region 3 with (go_at_call 145;refine (V.out _ d).mono ?_;rw [H.out];rintro e b ⟨rfl,hx2⟩)
  clear X Y Z;replace g:=g.ext hx2;replace l:=l.ext hx2;replace q:=q.ext hx2;have F:=d.trans hx2;clear d hx2;have e1:=dT b 39 #[s.al,s.st,.slice A n c];have r:=(cW b).alloc (.cells #[s.al,s.st,.slice A n c] 39);have I:=g;have v:=l.ext r;have x:=q.ext r;have e2:=dT (b.alloc (.cells #[s.al,s.st,.slice A n c] 39)) 26 #[a.al,.slice B m1 d1,.slice B' m1' d1',p.al,.slice C m2 d2,.slice C' m2' d2'];have D:=(cW (b.alloc (.cells #[s.al,s.st,.slice A n c] 39))).alloc (.cells #[a.al,.slice B m1 d1,.slice B' m1' d1',p.al,.slice C m2 d2,.slice C' m2' d2'] 26);have e3:=dT ((b.alloc (.cells #[s.al,s.st,.slice A n c] 39)).alloc (.cells #[a.al,.slice B m1 d1,.slice B' m1' d1',p.al,.slice C m2 d2,.slice C' m2' d2'] 26)) 3 #[(0:Int),(0:Int),(0:Int)];have t:=(cW ((b.alloc (.cells #[s.al,s.st,.slice A n c] 39)).alloc (.cells #[a.al,.slice B m1 d1,.slice B' m1' d1',p.al,.slice C m2 d2,.slice C' m2' d2'] 26))).alloc (.cells #[(0:Int),(0:Int),(0:Int)] 3);have i:=g.ext (r.trans (D.trans t));have j:=l.ext (r.trans (D.trans t));have k1:=g.cell;have k2:=v.cell;have k3:=x.cell;have k4:=(i.cell 0).trans (show #[Value.int .i64 s.al,.int .i64 s.st,.slice A n c][0]?=some (Value.int .i64 (G:Nat)) by rw [o.out];rfl);have k5:=(j.cell 0).trans (show #[Value.int .i64 a.al,.slice B m1 d1,.slice B' m1' d1'][0]?=some (Value.int .i64 (al:Nat)) by rw [m.out];rfl);have f:=F.trans (r.trans (D.trans t));have k:∃ lo hi,zeO (((b.alloc (.cells #[s.al,s.st,.slice A n c] 39)).alloc (.cells #[a.al,.slice B m1 d1,.slice B' m1' d1',p.al,.slice C m2 d2,.slice C' m2' d2'] 26)).alloc (.cells #[(0:Int),(0:Int),(0:Int)] 3)) (some ⟨b.heap.size,0,none⟩) 1 (some ⟨b.heap.size+1,0,none⟩) 2 [s] [a,p]∧Lst zbo (((b.alloc (.cells #[s.al,s.st,.slice A n c] 39)).alloc (.cells #[a.al,.slice B m1 d1,.slice B' m1' d1',p.al,.slice C m2 d2,.slice C' m2' d2'] 26)).alloc (.cells #[(0:Int),(0:Int),(0:Int)] 3)) lo hi (some ⟨b.heap.size+1+1,0,none⟩) (dN 3 0):=by
   have y:=e2.ext t;have z:=e3;simp only [World.size_alloc] at y z;exact⟨_,_,⟨sl_one (e1.ext (D.trans t)) (HS.out _ f),al_two y (HA.out _ f) (HP.out _ f)⟩,zeros_blk (n:=3) z rfl oM⟩
  have u:=za k;clear k e1 e2 e3 r D t g l q I v x i j F;go_wp2_with (go_at_call 173;obtain⟨l1,h1,O,Q⟩:=u.out;refine (first_under (pn:=1) O M.out V2.out V3.out Q J.out).mono (mQ fun w4 S=>?_))
  go_ret2;exact⟨by rw [E.out.1,E.out.2];rfl,f.trans S⟩
end
theorem wp_make {P:Program} (w:World) {o:Oper} {a:Act} {K:Act->World->Prop} {Q:Exit->Act->World->Prop} (l c:Operand) (t:TypeId)(ho:o.op=.makeSlice t l c)
  (e:TypeId) (z:Value) (size bytes:Nat) (ht:P.underlying t=some (.slice e)) (hi:(P.info? e).map (fun i=>(i.zero,i.size,i.bytes))=some (some z,size,bytes))
  (kl kc:IntKind) (n:Nat) (hl:a.eval l=.int kl (n:Int)) (hc:a.eval c=.int kc (n:Int)) (hbytes:n*bytes<=140737488355328) (h63:n<=maxLen)
  (h:∀ w',w'.ownsRow w.heap.size e size (.slice (some w.heap.size) n n) n (madeCells z.cells (n*size)).toList->Ext w w'->K (a.put o.dst (.slice (some w.heap.size) n n)) w') :
  o.wp P a w K Q:=by
 obtain⟨i,d,f,g,j⟩:=info_parts hi;obtain⟨w',b,k,m⟩:=run_make_full (P:=P) w w.heap.size t e i z size ht d f g kl kc n (by rw [j,Nat.mul_comm];omega) h63 (Nat.le_refl _);unfold Oper.wp;simp [execOp,ho,hl,hc,b,Result.andThen];exact h w' k ((cW _).grown m sM)
section
variable {lo hi n c:Nat} {A:Option Addr} {s:Sys} {lo1 hi1 m1 d1 m1' d1':Nat} {B B':Option Addr} {a:Aut} {lo2 hi2 m2 d2 m2' d2':Nat} {C C':Option Addr} {p:Aut} {w:World}
theorem zhd (h:zR w lo hi A n s)(ha:zI w lo1 hi1 B m1 B' m1' a)(hp:zI w lo2 hi2 C m2 C' m2' p) :
  Calls Tryz.prog 97 #[.agg #[s.al,s.st,.slice A n c],.agg #[a.al,.slice B m1 d1,.slice B' m1' d1'],.agg #[p.al,.slice C m2 d2,.slice C' m2' d2']] w fun e w'=>e=.returned (.bool (zeg s a p))∧Ext w w':=by
 have m:=za (fun W (hW:Ext w W)=>zfO (c:=c) (d1:=d1) (d1':=d1') (d2:=d2) (d2':=d2') (h.ext hW) (ha.ext hW) (hp.ext hW));have o:=za (fun W (hW:Ext w W)=>zcv (c:=c) (d1:=d1) (d1':=d1') (d2:=d2) (d2':=d2') (h.ext hW) (ha.ext hW) (hp.ext hW));have u:=za (zfQ s a p);clear h ha hp;generalize zbQ s a p=v at *;generalize zbR s a p=D at *;have b:Ext w (((w.alloc (.cells #[s.al,s.st,.slice A n c] 39)).alloc (.cells #[a.al,.slice B m1 d1,.slice B' m1' d1'] 26)).alloc (.cells #[p.al,.slice C m2 d2,.slice C' m2' d2'] 26)):=(((cW w).alloc _).alloc _).alloc _;obtain⟨j,k,l⟩:=zN (cW (((w.alloc (.cells #[s.al,s.st,.slice A n c] 39)).alloc (.cells #[a.al,.slice B m1 d1,.slice B' m1' d1'] 26)).alloc (.cells #[p.al,.slice C m2 d2,.slice C' m2' d2'] 26)));cases hT:zcE s a p<;>cases v
 all_goals
  have i:=za hT;clear hT
  go_enter Tryz.func97,Tryz.ntmps97
  go_upto_region 1 with fail
  generalize ((w.alloc _).alloc _).alloc _=E at *;have x:=j.cell;have y:=k.cell;have z:=l.cell;go_wp2_with (first
   |(go_at_call 144;refine (o.out _ b).mono (mQ fun F hx2=>?_);have d:=b.trans hx2;have q:=(j.ext hx2).cell;have r:=(k.ext hx2).cell;have t:=(l.ext hx2).cell)
   |(go_at_call 145;refine (m.out _ d).mono ?_;rw [i.out];rintro e G ⟨rfl,g⟩;have f:=d.trans g))
  go_ret;exact⟨zj (by rw [u.out,i.out];rfl),f⟩
theorem madeZ (n:Nat):(madeCells (Value.int .i64 0).cells (n*1)).toList=zas (dN n 0):=by
 simp [Value.cells,toList_madeCells_one,zas]
variable {k:Nat} {ss:List Sys}
theorem zbB (h:zet w lo hi A k ss)(hp:zI w lo2 hi2 C m2 C' m2' p) :
  Calls Tryz.prog 174 #[.slice A k c,.agg #[p.al,.slice C m2 d2,.slice C' m2' d2']] w fun e w'=>e=.returned (.tuple #[.string (zaT ss p),.bool (zcg ss p)])∧Ext w w':=by
 have o:=za (fun W (hW:Ext w W)=>h.ext hW);have v:=za (fun W (hW:Ext w W)=>hp.ext hW);have O:=h.len;have z:=za h.1;clear h hp;have b:Ext w (w.alloc (.cells #[p.al,.slice C m2 d2,.slice C' m2' d2'] 26)):=(cW w).alloc _;have x:=dT w 26 #[p.al,.slice C m2 d2,.slice C' m2' d2'];cases hA:zE ss
 ·have f:=za (show zaT ss p=ByteArray.empty∧zcg ss p=false by unfold zaT zcg zdt;rw [hA];exact⟨rfl,rfl⟩);have g:=za (show zaG ss = -1 by unfold zaG;rw [hA];rfl);clear hA
  go_enter Tryz.func174,Tryz.ntmps174
  go_upto_region 1 with fail
  generalize w.alloc _=I at *;go_wp2_with (go_at_call 130;refine (zab (o.out _ b)).mono ?_;rw [g.out];rintro e J ⟨rfl,hx2⟩)
  go_ret2;exact⟨by rw [f.out.1,f.out.2];rfl,b.trans hx2⟩
 ·have g:=za (show zaG ss=(zV ss:Int) by unfold zaG;rw [hA];rfl);cases hV:zh p
  ·have f:=za (show zaT ss p=ByteArray.empty∧zcg ss p=false by unfold zaT zcg zdt;rw [hA,hV];exact⟨rfl,rfl⟩);have q:=za hV;clear hA hV
   go_enter Tryz.func174,Tryz.ntmps174
   go_upto_region 1 with fail
   generalize w.alloc _=I at *;go_wp2_with (first
    |(go_at_call 130;refine (zab (o.out _ b)).mono ?_;rw [g.out];rintro e J ⟨rfl,hx2⟩;have d:=b.trans hx2;have G:=(x.ext hx2).cell)
    |(go_at_call 27;refine (zH _ _ _ _ _ _ _ _ _ _ (v.out _ d)).mono ?_;rw [q.out];rintro e n ⟨rfl,j⟩;have i:=d.trans j))
   go_ret2;exact⟨by rw [f.out.1,f.out.2];rfl,i⟩
  ·have f:=za (show zaT ss p=vioW ss free p∧zcg ss p=vioB ss free p by unfold zaT zcg zdt;rw [hA,hV];exact⟨rfl,sM⟩);obtain⟨⟨_,t⟩,u⟩:=zbT hA;have H:k<=3:=by rw [z.out];exact t
   have V:=zfm u;have q:=za hV;have E:=za hA;clear hA hV u t;generalize hUe:zV ss=U at *;have F:=za hUe;clear hUe
   go_enter Tryz.func174,Tryz.ntmps174
   go_upto_region 1 with fail
   generalize w.alloc _=I at *;go_upto_region 4 with (first
    |(go_at_call 130;refine (zab (o.out _ b)).mono ?_;rw [g.out];rintro e J ⟨rfl,hx2⟩;have d:=b.trans hx2;have G:=(x.ext hx2).cell)
    |(go_at_call 27;refine (zH _ _ _ _ _ _ _ _ _ _ (v.out _ d)).mono ?_;rw [q.out];rintro e n ⟨rfl,j⟩;have i:=d.trans j))
   have r:=x.ext (hx2.trans j);have S:=r.cells;have B:=cW n;have M:IntKind.i64.wrap ((k:Int)+1)=((k+1:Nat):Int):=by rw [← Int.natCast_succ];exact zge (k+1) oM
   clear G x r;refine uR (fun X=>Ext n X) [9] (zw.app [0,1,3,4,5,7] (zw.two 2 (zw.of [6,8,9,10,11,12,13]) 6 (zw.of [2,8,9,10,11,12,13]))) ?_;refine uQ ?_;have hx0:Ext n n.drew:=B.drew;generalize n.drew=y at *;refine zm (fun K hK=>?_) (fun K hK=>?_)
   ·go_simp;replace hx0:=hx0.alloc (.cells #[p.al,.slice C m2 d2,.slice C' m2' d2'] 26);refine hK.out _ _ hx0 ?_;generalize U0:y.alloc _=Q at *;have s:=dW U0;clear U0;generalize y.heap.size=L at *;refine pT ?_;refine zd (fun K hK=>?_);refine wp_make Q _ _ 74 rfl 3 _ 1 8 Tryz.underlying74 zae .i64 .i64 (k+1) ?_ ?_ oM lM ?_
    ·go_simp
    ·go_simp
    intro w5 zjo hx5;rw [madeZ] at zjo;replace hx0:=hx0.trans hx5;replace s:=s.ext hx5;refine hK.out _ _ hx0 ?_;refine pT ?_;refine uQ ?_;refine zb fun K hK=>?_;go_simp;have a:=i.trans hx0;refine (zhN (pn:=k) ⟨⟨_,_,o.out _ a⟩,al_one s (v.out _ a)⟩ E.out q.out (zeros_row zjo) F.out.symm).mono (mQ fun R l=>?_);have m:=a.trans l;refine hK.out _ _ ?_;refine pT ?_;refine uQ ?_;refine ze ?_;go_wp2_with fail
    go_ret2;exact⟨by rw [f.out.1,f.out.2];rfl,m⟩
   ·refine wp_make y _ _ 74 rfl 3 _ 1 8 Tryz.underlying74 zae .i64 .i64 (k+1) ?_ ?_ oM lM ?_
    ·go_simp
    ·go_simp
    intro w5 zjo hx5;rw [madeZ] at zjo;replace hx0:=hx0.trans hx5;refine hK.out _ _ hx0 ?_;generalize y.heap.size=T at *;refine pT ?_;refine zd fun K hK=>?_;go_simp;have l:=(cW w5).alloc (.cells #[p.al,.slice C m2 d2,.slice C' m2' d2'] 26);replace hx0:=hx0.trans l;replace zjo:=zg zjo l;refine hK.out _ _ hx0 ?_;generalize U0:w5.alloc _=R at *;have s:=dW U0;clear U0;generalize w5.heap.size=L at *;refine pT ?_;refine uQ ?_;refine zb fun K hK=>?_;go_simp;have a:=i.trans hx0;refine (zhN (pn:=k) ⟨⟨_,_,o.out _ a⟩,al_one s (v.out _ a)⟩ E.out q.out (zeros_row zjo) F.out.symm).mono (mQ fun Y D=>?_);have m:=a.trans D;refine hK.out _ _ ?_;refine pT ?_;refine uQ ?_;refine ze ?_;go_wp2_with fail
    go_ret2;exact⟨by rw [f.out.1,f.out.2];rfl,m⟩
theorem zhC (h:zet w lo hi A k ss)(hp:zI w lo2 hi2 C m2 C' m2' p) :
  Calls Tryz.prog 146 #[.slice A k c,.agg #[p.al,.slice C m2 d2,.slice C' m2' d2']] w fun e w'=>e=.returned (.bool (zcO ss p))∧Ext w w':=by
 have r:=za (fun W (hW:Ext w W)=>zbB (c:=c) (d2:=d2) (d2':=d2') (h.ext hW) (hp.ext hW));have q:=za (fun W (hW:Ext w W)=>h.ext hW);have o:=za (fun W (hW:Ext w W)=>hp.ext hW);have s:=za (show zcO ss p=(zE ss&&zh p&&!zcg ss p) from zgx ss p);clear h hp;generalize zcg ss p=t at *;generalize zaT ss p=x at *;have f:Ext w (w.alloc (.cells #[p.al,.slice C m2 d2,.slice C' m2' d2'] 26)):=(cW w).alloc _;have m:=dT w 26 #[p.al,.slice C m2 d2,.slice C' m2' d2'];cases hA:zE ss<;>cases hVv:zh p<;>cases t
 all_goals
  have n:=za (show zE ss=_ from hA);have a:=za (show zaG ss=if zE ss=true then (zV ss:Int) else -1 from rfl);rw [hA] at a;have d:=za hVv;clear hA hVv;simp only [Bool.false_eq_true,if_false,if_true] at a
  go_enter Tryz.func146,Tryz.ntmps146
  go_upto_region 1 with fail
  generalize w.alloc _=y at *;have u:=m.cell;go_wp2_with (first
   |(go_at_call 174;refine (r.out _ f).mono (mQ fun z hx2=>?_);have g:=f.trans hx2)
   |(go_at_call 130;refine (zab (q.out _ g)).mono ?_;rw [a.out];rintro e B ⟨rfl,i⟩;have b:=g.trans i;have v:=(m.ext (hx2.trans i)).cell)
   |(go_at_call 27;refine (zH _ _ _ _ _ _ _ _ _ _ (o.out _ b)).mono ?_;rw [d.out];rintro e D ⟨rfl,l⟩;have j:=b.trans l))
  go_ret;exact⟨zj (by rw [s.out,n.out,d.out];rfl),by first|exact j|exact b⟩
theorem zff (h:zR w lo hi A n s)(hp:zI w lo2 hi2 C m2 C' m2' p) :
  Calls Tryz.prog 98 #[.agg #[s.al,s.st,.slice A n c],.agg #[p.al,.slice C m2 d2,.slice C' m2' d2']] w fun e w'=>e=.returned (.bool (zcO [s] p))∧Ext w w':=by
 have k:=za (fun W (hW:Ext w W)=>h.ext hW);have j:=za (fun W (hW:Ext w W)=>hp.ext hW);clear h hp
 go_enter Tryz.func98,Tryz.ntmps98
 go_upto_region 1 with fail
 generalize U0:(w.alloc _).alloc _=i at *;obtain⟨d,l,m⟩:=Ext.x2_ U0;clear U0;have q:=l.cell;have o:=dT i 39 #[s.al,s.st,.slice A n c];have g:=(cW i).alloc (.cells #[s.al,s.st,.slice A n c] 39);have r:=(m.ext g).cell;have a:=d.trans g;obtain⟨u,t,b⟩:=sl_one o (k.out _ a);go_wp2_with (go_at_call 146;refine (zhC b (j.out _ a)).mono (mQ fun v f=>?_))
 go_ret;exact⟨zj rfl,a.trans f⟩
end
theorem yQ09d1 {P:Prop}(h:P:=by
 have Kh10:=h10.cell 0;have Zh10:=h10.frozen 0;refine zb fun K hK=>?_;go_simp;have hx2:=hx0.frm (Frm.setCell w23 g10 0 (.slice UA a.next.length uc)) (fun k hk e=>oH hGh10);have hA2:=hA.set h10 dM (.slice UA a.next.length uc);have hP2:=hP.set h10 dM (.slice UA a.next.length uc);have h102:Blk (w23.setCell g10 (.slice UA a.next.length uc)) g10 168 #[.slice UA a.next.length uc]:=by simpa using h10.ab 0 (.slice UA a.next.length uc)
 have h112:=h11.far (p:=⟨g10,0,none⟩) (by first|exact hne|exact hne.symm) (.slice UA a.next.length uc)
 refine hK.out _ _ ?_;refine pT ?_;clear hA hP h10 h11 Kh10 Zh10 hx0;generalize w23.setCell g10 (.slice UA a.next.length uc)=w24 at *;have hA:=hA2;have hP:=hP2;have h10:=h102;have h11:=h112;have hx0:=hx2;clear hA2 hP2 h102 h112 hx2;have Kh11:=h11.cell 0;have Zh11:=h11.frozen 0;refine zb fun K hK=>?_;go_simp;have hx2:=hx0.frm (Frm.setCell w24 g11 0 (.slice RA p.next.length rc)) (fun k hk e=>oH hGh11);have hA2:=hA.set h11 dM (.slice RA p.next.length rc);have hP2:=hP.set h11 dM (.slice RA p.next.length rc);have h112:Blk (w24.setCell g11 (.slice RA p.next.length rc)) g11 168 #[.slice RA p.next.length rc]:=by simpa using h11.ab 0 (.slice RA p.next.length rc)
 have h102:=h10.far (p:=⟨g11,0,none⟩) (by first|exact hne|exact hne.symm) (.slice RA p.next.length rc)
 refine hK.out _ _ ?_;refine pT ?_;clear hA hP h10 h11 Kh11 Zh11 hx0;generalize w24.setCell g11 (.slice RA p.next.length rc)=w25 at *;have hA:=hA2;have hP:=hP2;have h10:=h102;have h11:=h112;have hx0:=hx2;clear hA2 hP2 h102 h112 hx2;refine ze ?_;go_wp2_with fail
 go_meet;exact⟨g10,g11,UA,RA,uc,rc,rfl,rfl,hx0,h10,h11,hA,hP⟩
 ):P:=h
theorem yQ09c1 {P:Prop}(h:P:=by
 refine zb fun K hK=>?_;go_simp;refine (hTP.out _ hx0).mono ?_;rintro e w23 ⟨RA,rc,rfl,hP,hx1⟩;replace hx0:=hx0.trans hx1;replace h10:=h10.ext hx1;replace h11:=h11.ext hx1;replace hA:=hA.ext hx1;clear hx1;refine hK.out _ _ ?_;refine pT ?_;exact yQ09d1
 ):P:=h
theorem yQ09b1 {P:Prop}(h:P:=by
 refine zd fun K hK=>?_;go_simp;refine (hTA.out _ hx0).mono ?_;rintro e w22 ⟨UA,uc,rfl,hA,hx1⟩;replace hx0:=hx0.trans hx1;replace h10:=h10.ext hx1;replace h11:=h11.ext hx1;clear hx1;refine hK.out _ _ hx0 ?_;refine pT ?_;exact yQ09c1
 ):P:=h
theorem yQ09c2 {P:Prop}(h:P:=by
 exact yQ09d1
 ):P:=h
theorem yQ09b2 {P:Prop}(h:P:=by
 refine zd fun K hK=>?_;go_simp;have hne:=Nat.ne_of_lt h11.lt;have hGh10:=hx0.size;have hx1:=(Ext.refl w22).alloc (.cells #[()] 168);replace hx0:=hx0.trans hx1;replace h11:=h11.ext hx1;replace hA:=hA.ext hx1;replace hP:=hP.ext hx1;clear hx1;refine hK.out _ _ hx0 ?_;refine pT ?_;generalize U0:w22.alloc _=w23 at *;have h10:=Ext.bl_ U0;clear U0;generalize w22.heap.size=g10 at *;exact yQ09c2
 ):P:=h
theorem yQ09b4 {P:Prop}(h:P:=by
 exact yQ09c1
 ):P:=h
theorem reads_blk {w:World} {g lo hi:Nat} {t:TypeId} {v:Value}(h:Blk w g t #[v])(h1:lo<=g)(h2:g<hi):Reads w lo hi 1 (some ⟨g,0,none⟩) 1 [v]:=
 ⟨rfl,oM,fun _=>⟨_,rfl,h1,h2,fun j u hu=>by
  rw [zK,Nat.zero_add,h.cell]
  simpa using hu⟩⟩
theorem yQ09a1 {P:Prop}(h:P:=by
 refine zm (fun K hK=>?_) (fun K hK=>?_)
 ·go_simp;refine (hTA.out _ hx0).mono ?_;rintro e w21 ⟨UA,uc,rfl,hA,hx1⟩;replace hx0:=hx0.trans hx1;replace h11:=h11.ext hx1;clear hx1;refine hK.out _ _ hx0 ?_;refine pT ?_;refine zm (fun K hK=>?_) (fun K hK=>?_)
  ·go_simp;refine (hTP.out _ hx0).mono ?_;rintro e w22 ⟨RA,rc,rfl,hP,hx1⟩;replace hx0:=hx0.trans hx1;replace h11:=h11.ext hx1;replace hA:=hA.ext hx1;clear hx1;refine hK.out _ _ hx0 ?_;refine pT ?_;exact yQ09b2
  ·go_simp;have hne:=Nat.ne_of_lt h11.lt;have hGh10:=hx0.size;have hx1:=(Ext.refl w21).alloc (.cells #[()] 168);replace hx0:=hx0.trans hx1;replace h11:=h11.ext hx1;replace hA:=hA.ext hx1;clear hx1;refine hK.out _ _ hx0 ?_;refine pT ?_;generalize U0:w21.alloc _=w22 at *;have h10:=Ext.bl_ U0;clear U0;generalize w21.heap.size=g10 at *;exact yQ09b4
 ·go_simp;have hne:=Nat.ne_of_lt h11.lt;have hGh10:=hx0.size;have hx1:=(Ext.refl w20).alloc (.cells #[()] 168);replace hx0:=hx0.trans hx1;replace h11:=h11.ext hx1;clear hx1;refine hK.out _ _ hx0 ?_;refine pT ?_;generalize U0:w20.alloc _=w21 at *;have h10:=Ext.bl_ U0;clear U0;generalize w20.heap.size=g10 at *;exact yQ09b1
 ):P:=h
theorem yQ09b3 {P:Prop}(h:P:=by
 refine zd fun K hK=>?_;go_simp;have hne:=Nat.ne_of_lt h10.lt;have hGh11:=hx0.size;have hx1:=(Ext.refl w22).alloc (.cells #[()] 168);replace hx0:=hx0.trans hx1;replace h10:=h10.ext hx1;replace hA:=hA.ext hx1;replace hP:=hP.ext hx1;clear hx1;refine hK.out _ _ hx0 ?_;refine pT ?_;generalize U0:w22.alloc _=w23 at *;have h11:=Ext.bl_ U0;clear U0;generalize w22.heap.size=g11 at *;exact yQ09c2
 ):P:=h
theorem yQ09a2 {P:Prop}(h:P:=by
 refine zm (fun K hK=>?_) (fun K hK=>?_)
 ·go_simp;refine (hTA.out _ hx0).mono ?_;rintro e w21 ⟨UA,uc,rfl,hA,hx1⟩;replace hx0:=hx0.trans hx1;replace h10:=h10.ext hx1;clear hx1;refine hK.out _ _ hx0 ?_;refine pT ?_;refine zm (fun K hK=>?_) (fun K hK=>?_)
  ·go_simp;refine (hTP.out _ hx0).mono ?_;rintro e w22 ⟨RA,rc,rfl,hP,hx1⟩;replace hx0:=hx0.trans hx1;replace h10:=h10.ext hx1;replace hA:=hA.ext hx1;clear hx1;refine hK.out _ _ hx0 ?_;refine pT ?_;exact yQ09b3
  ·go_simp;have hne:=Nat.ne_of_lt h10.lt;have hGh11:=hx0.size;have hx1:=(Ext.refl w21).alloc (.cells #[()] 168);replace hx0:=hx0.trans hx1;replace h10:=h10.ext hx1;replace hA:=hA.ext hx1;clear hx1;refine hK.out _ _ hx0 ?_;refine pT ?_;generalize U0:w21.alloc _=w22 at *;have h11:=Ext.bl_ U0;clear U0;generalize w21.heap.size=g11 at *;exact yQ09b4
 ·go_simp;have hne:=Nat.ne_of_lt h10.lt;have hGh11:=hx0.size;have hx1:=(Ext.refl w20).alloc (.cells #[()] 168);replace hx0:=hx0.trans hx1;replace h10:=h10.ext hx1;clear hx1;refine hK.out _ _ hx0 ?_;refine pT ?_;generalize U0:w20.alloc _=w21 at *;have h11:=Ext.bl_ U0;clear U0;generalize w20.heap.size=g11 at *;exact yQ09b1
 ):P:=h
theorem yQ09c3 {P:Prop}(h:P:=by
 refine zb fun K hK=>?_;go_simp;refine (key.out _ hx0 _ _ _ _ _ hI hIL).mono ?_;rintro e w23 ⟨hx1,hcase⟩;have hx2:=hw9.trans (hx0.trans hx1);rcases hcase with ⟨v,rfl,hF⟩|⟨rfl,hF⟩
 ·have hres:=za (show zO w (zbP ss a p) [0] (zcF a p) (letters (U|||al) 6) _ w23 from ⟨hx2,Or.inl ⟨v,rfl,hF⟩⟩);refine hK.out _ _ ?_;refine pT ?_;refine uQ ?_;refine ze ?_;go_wp2_with fail
  go_ret2;exact hres.out
 ·have hres:=za (show zO w (zbP ss a p) [0] (zcF a p) (letters (U|||al) 6) _ w23 from ⟨hx2,Or.inr ⟨rfl,hF⟩⟩);refine hK.out _ _ ?_;refine pT ?_;refine uQ ?_;refine ze ?_;go_wp2_with fail
  go_ret2;exact hres.out
 ):P:=h
theorem yQ09b6 {P:Prop}(h:P:=by
 exact yQ09c3
 ):P:=h
theorem yQ09a3 {P:Prop}(h:P:=by
 refine hK.out _ _ hx0 ?_;refine pT ?_;refine uQ ?_;refine zm (fun K hK=>?_) (fun K hK=>?_)
 ·go_simp;have hI:=zcz (x:=0) (Blk.new w20 3 #[.int .i64 ((0:Nat):Int)]);have hx1:=(Ext.refl w20).alloc (.cells #[.int .i64 ((0:Nat):Int)] 3);replace hx0:=hx0.trans hx1;clear hx1;refine hK.out _ _ hx0 ?_;refine pT ?_;generalize w20.alloc _=w21 at *;generalize w20.heap.size=g1 at *;refine zd fun K hK=>?_;go_simp;refine (hLT.out w21).mono ?_;rintro e w22 ⟨AL,cL,rfl,hownL,hx1⟩;have hIL:=zap.own hownL;clear hownL;replace hx0:=hx0.trans hx1;replace hI:=hI.ext hx1;clear hx1;refine hK.out _ _ hx0 ?_;refine pT ?_;exact yQ09b6
 ·go_simp;refine (hLT.out w20).mono ?_;rintro e w21 ⟨AL,cL,rfl,hownL,hx1⟩;have hIL:=zap.own hownL;clear hownL;replace hx0:=hx0.trans hx1;clear hx1;refine hK.out _ _ hx0 ?_;refine pT ?_;refine zd fun K hK=>?_;go_simp;have hI:=zcz (x:=0) (Blk.new w21 3 #[.int .i64 ((0:Nat):Int)]);have hx1:=(Ext.refl w21).alloc (.cells #[.int .i64 ((0:Nat):Int)] 3);replace hx0:=hx0.trans hx1;replace hIL:=hIL.ext hx1;clear hx1;refine hK.out _ _ hx0 ?_;refine pT ?_;generalize w21.alloc _=w22 at *;generalize w21.heap.size=g1 at *;exact yQ09b6
 ):P:=h
theorem yQ09a4 {P:Prop}(h:P:=by
 refine zd fun K hK=>?_;go_simp;refine hK.out _ _ hx0 ?_;refine pT ?_;refine uQ ?_;exact yQ09b1
 ):P:=h
theorem yQ09a5 {P:Prop}(h:P:=by
 exact yQ09b2
 ):P:=h
theorem yQ09a6 {P:Prop}(h:P:=by
 exact yQ09b3
 ):P:=h
theorem yQ09a7 {P:Prop}(h:P:=by
 exact yQ09b4
 ):P:=h
theorem yQ09a8 {P:Prop}(h:P:=by
 have Kh12:=h12.cell 0;have Zh12:=h12.frozen 0;refine zd fun K hK=>?_;go_simp;have hx2:=hx0.frm (Frm.setCell w21 g12 0 (.int .i64 (a.next.length:Nat))) (fun k hk e=>oH hGh12);have h122:Blk (w21.setCell g12 (.int .i64 (a.next.length:Nat))) g12 3 #[.int .i64 (a.next.length:Nat)]:=by simpa using h12.ab 0 (.int .i64 (a.next.length:Nat))
 have h132:=h13.far (p:=⟨g12,0,none⟩) (by first|exact hne|exact hne.symm) (.int .i64 (a.next.length:Nat))
 refine hK.out _ _ hx2 ?_;refine pT ?_;clear h12 h13 Kh12 Zh12 hx0;generalize w21.setCell g12 (.int .i64 (a.next.length:Nat))=w22 at *;have h12:=h122;have h13:=h132;have hx0:=hx2;clear h122 h132 hx2;have Kh13:=h13.cell 0;have Zh13:=h13.frozen 0;refine zb fun K hK=>?_;go_simp;have hx2:=hx0.frm (Frm.setCell w22 g13 0 (.int .i64 (p.next.length:Nat))) (fun k hk e=>oH hGh13);have h132:Blk (w22.setCell g13 (.int .i64 (p.next.length:Nat))) g13 3 #[.int .i64 (p.next.length:Nat)]:=by simpa using h13.ab 0 (.int .i64 (p.next.length:Nat))
 have h122:=h12.far (p:=⟨g13,0,none⟩) (by first|exact hne|exact hne.symm) (.int .i64 (p.next.length:Nat))
 refine hK.out _ _ ?_;refine pT ?_;clear h12 h13 Kh13 Zh13 hx0;generalize w22.setCell g13 (.int .i64 (p.next.length:Nat))=w23 at *;have h12:=h122;have h13:=h132;have hx0:=hx2;clear h122 h132 hx2;refine ze ?_;go_wp2_with fail
 go_meet;exact⟨g12,g13,rfl,rfl,hx0,h12,h13⟩
 ):P:=h
theorem yQ09b5 {P:Prop}(h:P:=by
 refine hK.out _ _ hx0 ?_;refine pT ?_;refine uQ ?_;refine zd fun K hK=>?_;go_simp;refine (hLT.out w21).mono ?_;rintro e w22 ⟨AL,cL,rfl,hownL,hx1⟩;have hIL:=zap.own hownL;clear hownL;replace hx0:=hx0.trans hx1;replace hI:=hI.ext hx1;clear hx1;refine hK.out _ _ hx0 ?_;refine pT ?_;exact yQ09c3
 ):P:=h
theorem yQ09a9 {P:Prop}(h:P:=by
 refine zd fun K hK=>?_;go_simp;refine (hSZ.out _ hx0).mono (mQ fun w21 hx1=>?_);replace hx0:=hx0.trans hx1;replace hI:=hI.ext hx1;clear hx1;exact yQ09b5
 ):P:=h
theorem yQ09a10 {P:Prop}(h:P:=by
 refine zd fun K hK=>?_;go_simp;exact yQ09b5
 ):P:=h
theorem zdV {lo hi k c:Nat} {A:Option Addr} {ss:List Sys} {C:Option Addr} {m2 d2:Nat} {C':Option Addr} {m2' d2' lo2 hi2:Nat} {p:Aut} {w:World}
  (h:zet w lo hi A k ss) (hap:zE ss=true) (hT:Tab w) (hP0:zI w lo2 hi2 C m2 C' m2' p) (hp:zh p=true) :
  Calls Tryz.prog 168 #[.slice A k c,.pointer none,.agg #[p.al,.slice C m2 d2,.slice C' m2' d2']] w (zO w (zbP ss free p) [0] (zcF free p) (letters (zV ss|||free.al.toNat) 6)):=by
 have hv:=zhO;obtain⟨a,aw⟩:∃ a,Hid (a=free):=⟨_,rfl⟩;rw [← aw.out] at hv ⊢;have ae:∀ s∈ss,zl s=true:=by
  unfold zE at hap;simp only [dF,List.all_eq_true] at hap;exact hap.2.2
 have a7:k<=3:=by
  unfold zE at hap;simp only [dF,decide_eq_true_eq] at hap;have:=h.1;omega
 have F:=za (fun (s:Sys) (hs:s∈ss)=>zcR (ae s hs));have a5:=za (fun (s:Sys) (hs:s∈ss)=>show Few 16 s.edges from by
  obtain⟨q,_,_,hq,hf⟩:=zcf (ae s hs);exact fun e he=>by have:=hf e he;omega)
 have hU:zV ss<=63:=by
  have key:∀ l:List Sys,(∀ s∈l,zl s=true)->zV l<=63:=by
   intro l hl;have:∀ n,zV (l.take n)<=63:=by
    intro n
    induction n with
    |zero=>simp [zV]
    |succ n ih =>
     rcases Nat.lt_or_ge n l.length with Z|Z
     ·rw [zbW (List.getElem?_eq_getElem Z)];have:=zQ (hl _ (List.getElem_mem Z));have:=eJ (n:=6) (x:=zV (l.take n)) (y:=l[n].al.toNat) oM oM;omega
     ·rw [dG oM];rw [dG Z] at ih;exact ih
   have h2:=this l.length;rwa [List.take_length] at h2
  exact key ss ae
 have br:=(zk hv).1;obtain⟨al,J⟩:∃ al:Nat,Hid (a.al=al):=⟨a.al.toNat,by unfold Hid;omega⟩;have bR:al<=63:=oH J.out;have bA:=za (show zaG ss=(zV ss:Int) by unfold zaG;rw [hap];rfl);have a3:=za (show a.al.toNat=al by have:=J.out;omega);have bS:=za (show 0<=p.al∧p.al<=63 from (zk hp).1);rw [a3.out];have HS:=za (fun W (hW:Ext w W)=>h.ext hW);have HT:=za (fun W (hW:Ext w W)=>hT.ext hW);have HP:=za (fun W (hW:Ext w W)=>hP0.ext hW);have Hv:=za hv;have Hp:=za hp;generalize hUe:zV ss=U at *;have HU:=za hUe;clear hUe h hT hP0 hv hp hap ae br
 go_enter Tryz.func168,Tryz.ntmps168
 go_upto_region 1 with fail
 generalize U0:(w.alloc _).alloc _=w2 at *;obtain⟨O,b4,b5⟩:=Ext.x2_ U0;clear U0;go_upto_region 2 with (go_at_call 197;refine (zeX (HS.out _ O) a5.out oM).mono ?_;rintro e w3 ⟨M,dm,rfl,a9,ag⟩)
 have bE:=O.trans ag;have b8:=dT w3 217 #[.slice A k c,.slice M k dm];have T:=ag.alloc (.cells #[.slice A k c,.slice M k dm] 217);have ap:=a9.ext ((cW w3).alloc (.cells #[.slice A k c,.slice M k dm] 217));have aj:w2.heap.size<=w3.heap.size:=ag.size;generalize hg8:w3.heap.size=g8 at *;clear a9 hg8;generalize w3.alloc _=w4 at *;have aA:=O.trans T;clear bE ag;go_upto_region 3 with (go_at_call 87;refine (zbc (HS.out _ aA)).mono ?_;rw [bA.out];rintro e f ⟨rfl,v⟩)
 have Y:=b4.ext (T.trans v);have aN:=b5.ext (T.trans v);have aQ:=b8.ext v;have aq:=ap.ext v;have Q:=aA.trans v;have bd:=(T.trans v).size;have bx:=b5.lt;have a6:=b8.lt;have be:w2.heap.size<=g8:=aj;have k4:=Y.cell 0;have z4:=Y.frozen 0;clear T v b4 b5 b8 ap O aA;go_upto_region 4 with fail
 clear k4 z4;have ad:=dT f 74 #[()];have a8:=(cW f).alloc (.cells #[()] 74);have bb:(f.alloc (.cells #[()] 74)).heap.size=f.heap.size+1:=sM;have L:=dT (f.alloc (.cells #[()] 74)) 4 #[.bool true];rw [bb] at L;have ay:=(cW (f.alloc (.cells #[()] 74))).alloc (.cells #[.bool true] 4);have bc:((f.alloc (.cells #[()] 74)).alloc (.cells #[.bool true] 4)).heap.size=f.heap.size+1+1:=sM;have az:=dT ((f.alloc (.cells #[()] 74)).alloc (.cells #[.bool true] 4)) 26 #[(0:Int),.slice (some f.heap.size) 1 1,.slice (some ⟨f.heap.size+1,0,none⟩) 1 1];rw [bc] at az;have ab:=(cW ((f.alloc (.cells #[()] 74)).alloc (.cells #[.bool true] 4))).alloc (.cells #[(0:Int),.slice (some f.heap.size) 1 1,.slice (some ⟨f.heap.size+1,0,none⟩) 1 1] 26);replace ad:=ad.ext (ay.trans ab);replace L:=L.ext ab;have hm:=a8.trans (ay.trans ab);have I:=Y.ext hm;have aO:=aN.ext hm;have aR:=aQ.ext hm;have ar:=aq.ext hm;have k4:=I.cell 0;have z4:=I.frozen 0;have af:=Q.trans hm;clear a8 ay ab hm bb bc Y aN aQ aq;go_upto_region 5 with fail
 have bt:w.heap.size<f.heap.size:=oH Q.size;generalize f.heap.size=V at *;generalize ((f.alloc _).alloc _).alloc _=w6 at *;have g:=Frm.setCell w6 w.heap.size 0 (.pointer (some ⟨V+1+1,0,none⟩));have aL:Blk (w6.setCell w.heap.size (.pointer (some ⟨V+1+1,0,none⟩))) w.heap.size 172 #[.pointer (some ⟨V+1+1,0,none⟩)]:=by simpa using I.ab 0 (.pointer (some ⟨V+1+1,0,none⟩))
 have aP:=aO.frm g oM;have aS:=aR.frm g oM;have am:=ad.frm g oM;have an:=L.frm g oM;have ao:=az.frm g oM;have aB:=af.frm g (fun k hk e=>oM);have au:PtAt (w6.setCell w.heap.size (.pointer (some ⟨V+1+1,0,none⟩))) lo hi A k w2.heap.size g8 M ss:=by
  obtain⟨bs,hr,bz⟩:=ar.mov;exact⟨HS.out _ aB,bs,hr.frm g (fun k Z h2 e=>oM),bz.frm g (fun b cs hB e=>by
   subst e;exact absurd rfl (hB.ne I dM))⟩
 clear ad L az I aO aR ar g k4 z4;generalize w6.setCell w.heap.size (.pointer (some ⟨V+1+1,0,none⟩))=f at *;obtain⟨ga,B,m1,d1,B',G,E,aC,ax,ai,aX,aT⟩:∃ (ga:Nat) (B:Option Addr) (m1 d1:Nat) (B':Option Addr) (G E aC ax:Nat),Blk f w.heap.size 172 #[.pointer (some ga)]∧Blk f ga 26 #[a.al,.slice B m1 d1,.slice B' G E]∧zI f aC ax B m1 B' G a:=by
  refine⟨V+1+1,some ⟨V,0,none⟩,1,1,some ⟨V+1,0,none⟩,1,1,V,V+2,aL,by rw [aw.out];exact ao,?_⟩;rw [aw.out];refine⟨⟨rfl,[.slice none 0 0],reads_blk am (Nat.le_refl _) oM,rfl,fun i row l hr hl=>?_⟩,rfl,reads_blk an oM oM⟩;cases i with
  |zero =>
   simp at hr;simp [free] at hl;subst hr;subst hl;exact⟨none,0,rfl,Reads.nil⟩
  |succ i=>simp at hr
 have aU:=za (fun W (hW:Ext f W)=>ai.ext hW);have aV:=za (fun W (hW:Ext f W)=>aP.ext hW);have bo:=za (fun W (hW:Ext f W)=>aS.ext hW);have a0:=za (fun W (hW:Ext f W)=>au.ext hW);have H:=za (fun W (hW:Ext f W)=>aX.ext hW);have aJ:=za (fun W (hW:Ext f W)=>aT.ext hW);have bg:=aB;clear aB af Q am an ao aL aP aS au aX aT ai bt a6 aj be bx bd
 go_cut [10,11] (fun v10 v11 wx=>∃ (g10 g11:Nat) (UA RA:Option Addr) (uc rc:Nat),v10=.pointer (some g10)∧v11=.pointer (some g11)∧Ext f wx∧Blk wx g10 168 #[.slice UA a.next.length uc]∧Blk wx g11 168 #[.slice RA p.next.length rc]∧TbO wx UA uc a∧TbO wx RA rc p)
 case first =>
  have c4:∀ W,Ext f W->W.cell? w.heap.size=some (.pointer (some ga)):=fun W hW=>by rw [(aU.out W hW).cell];rfl
  have ca:∀ W,Ext f W->∀ j,W.cell? ⟨ga,j,none⟩=#[Value.int .i64 a.al,.slice B m1 d1,.slice B' G E][j]?:=fun W hW=>(H.out W hW).cell;have c5:∀ W,Ext f W->∀ j,W.cell? ⟨w.heap.size+1,j,none⟩=#[Value.int .i64 p.al,.slice C m2 d2,.slice C' m2' d2'][j]?:=fun W hW=>(aV.out W hW).cell;have hTA:=za (fun W (hW:Ext f W)=>zcc (d:=d1) (d':=E) (aJ.out W hW) Hv.out);have hTP:=za (fun W (hW:Ext f W)=>zcc (d:=d2) (d':=d2') (HP.out W (bg.trans hW)) Hp.out);have R:=cW f;refine uR (fun X=>Ext f X) [5,8,9] (zw.app [0,4] (zw.three 1 (zw.app [2] (zw.three 3 (zw.three 5 (zw.two 6 (zw.of [7,8,9]) 7 (zw.of [6,8,9])) 6 (zw.two 5 (zw.of [7,8,9]) 7 (zw.of [5,8,9])) 7 (zw.two 5 (zw.of [6,8,9]) 6 (zw.of [5,8,9]))) 6 (zw.two 3 (zw.two 5 (zw.of [7,8,9]) 7 (zw.of [5,8,9])) 7 (zw.of [3,5,8,9])) 7 (zw.two 3 (zw.two 5 (zw.of [6,8,9]) 6 (zw.of [5,8,9])) 6 (zw.of [3,5,8,9])))) 6 (zw.two 1 (zw.app [2] (zw.two 3 (zw.two 5 (zw.of [7,8,9]) 7 (zw.of [5,8,9])) 7 (zw.of [3,5,8,9]))) 7 (zw.of [1,2,3,5,8,9])) 7 (zw.two 1 (zw.app [2] (zw.two 3 (zw.two 5 (zw.of [6,8,9]) 6 (zw.of [5,8,9])) 6 (zw.of [3,5,8,9]))) 6 (zw.of [1,2,3,5,8,9])))) ?_;refine uQ ?_;have hx0:Ext f f.drew:=R.drew;generalize f.drew=o at *;refine uQ ?_;refine zaH (fun K hK=>?_) (fun K hK=>?_) (fun K hK=>?_)
  ·go_simp;refine hK.out _ _ hx0 ?_;refine pT ?_;refine uQ ?_;refine zaH (fun K hK=>?_) (fun K hK=>?_) (fun K hK=>?_)
   ·go_simp;refine (hTA.out _ hx0).mono ?_;rintro e w20 ⟨UA,uc,rfl,hA,hx1⟩;replace hx0:=hx0.trans hx1;clear hx1;refine hK.out _ _ hx0 ?_;refine pT ?_;refine zaH (fun K hK=>?_) (fun K hK=>?_) (fun K hK=>?_)
    ·go_simp;refine (hTP.out _ hx0).mono ?_;rintro e w21 ⟨RA,rc,rfl,hP,hx1⟩;replace hx0:=hx0.trans hx1;replace hA:=hA.ext hx1;clear hx1;refine hK.out _ _ hx0 ?_;refine pT ?_;refine zm (fun K hK=>?_) (fun K hK=>?_)
     ·go_simp;have hGh10:=hx0.size;have hx1:=(cW w21).alloc (.cells #[()] 168);replace hx0:=hx0.trans hx1;replace hA:=hA.ext hx1;replace hP:=hP.ext hx1;clear hx1;refine hK.out _ _ hx0 ?_;refine pT ?_;generalize U0:w21.alloc _=w22 at *;have h10:=dW U0;clear U0;generalize w21.heap.size=g10 at *;exact yQ09a6
     ·go_simp;have hGh11:=hx0.size;have hx1:=(cW w21).alloc (.cells #[()] 168);replace hx0:=hx0.trans hx1;replace hA:=hA.ext hx1;replace hP:=hP.ext hx1;clear hx1;refine hK.out _ _ hx0 ?_;refine pT ?_;generalize U0:w21.alloc _=w22 at *;have h11:=dW U0;clear U0;generalize w21.heap.size=g11 at *;exact yQ09a5
    ·go_simp;have hGh10:=hx0.size;have hx1:=(cW w20).alloc (.cells #[()] 168);replace hx0:=hx0.trans hx1;replace hA:=hA.ext hx1;clear hx1;refine hK.out _ _ hx0 ?_;refine pT ?_;generalize U0:w20.alloc _=w21 at *;have h10:=dW U0;clear U0;generalize w20.heap.size=g10 at *;refine zm (fun K hK=>?_) (fun K hK=>?_)
     ·go_simp;refine (hTP.out _ hx0).mono ?_;rintro e w22 ⟨RA,rc,rfl,hP,hx1⟩;replace hx0:=hx0.trans hx1;replace h10:=h10.ext hx1;replace hA:=hA.ext hx1;clear hx1;refine hK.out _ _ hx0 ?_;refine pT ?_;exact yQ09a6
     ·go_simp;have hne:=eL h10.lt;have hGh11:=hx0.size;have hx1:=(cW w21).alloc (.cells #[()] 168);replace hx0:=hx0.trans hx1;replace h10:=h10.ext hx1;replace hA:=hA.ext hx1;clear hx1;refine hK.out _ _ hx0 ?_;refine pT ?_;generalize U0:w21.alloc _=w22 at *;have h11:=dW U0;clear U0;generalize w21.heap.size=g11 at *;exact yQ09a7
    ·go_simp;have hGh11:=hx0.size;have hx1:=(cW w20).alloc (.cells #[()] 168);replace hx0:=hx0.trans hx1;replace hA:=hA.ext hx1;clear hx1;refine hK.out _ _ hx0 ?_;refine pT ?_;generalize U0:w20.alloc _=w21 at *;have h11:=dW U0;clear U0;generalize w20.heap.size=g11 at *;refine zm (fun K hK=>?_) (fun K hK=>?_)
     ·go_simp;refine (hTP.out _ hx0).mono ?_;rintro e w22 ⟨RA,rc,rfl,hP,hx1⟩;replace hx0:=hx0.trans hx1;replace h11:=h11.ext hx1;replace hA:=hA.ext hx1;clear hx1;refine hK.out _ _ hx0 ?_;refine pT ?_;exact yQ09a5
     ·go_simp;have hne:=eL h11.lt;have hGh10:=hx0.size;have hx1:=(cW w21).alloc (.cells #[()] 168);replace hx0:=hx0.trans hx1;replace h11:=h11.ext hx1;replace hA:=hA.ext hx1;clear hx1;refine hK.out _ _ hx0 ?_;refine pT ?_;generalize U0:w21.alloc _=w22 at *;have h10:=dW U0;clear U0;generalize w21.heap.size=g10 at *;exact yQ09a7
   ·go_simp;have hGh10:=hx0.size;have hx1:=(cW o).alloc (.cells #[()] 168);replace hx0:=hx0.trans hx1;clear hx1;refine hK.out _ _ hx0 ?_;refine pT ?_;generalize U0:o.alloc _=w20 at *;have h10:=dW U0;clear U0;generalize o.heap.size=g10 at *;exact yQ09a2
   ·go_simp;have hGh11:=hx0.size;have hx1:=(cW o).alloc (.cells #[()] 168);replace hx0:=hx0.trans hx1;clear hx1;refine hK.out _ _ hx0 ?_;refine pT ?_;generalize U0:o.alloc _=w20 at *;have h11:=dW U0;clear U0;generalize o.heap.size=g11 at *;exact yQ09a1
  ·go_simp;have hGh10:=hx0.size;have hx1:=(cW o).alloc (.cells #[()] 168);replace hx0:=hx0.trans hx1;clear hx1;refine hK.out _ _ hx0 ?_;refine pT ?_;generalize U0:o.alloc _=w20 at *;have h10:=dW U0;clear U0;generalize o.heap.size=g10 at *;refine zm (fun K hK=>?_) (fun K hK=>?_)
   ·go_simp;refine hK.out _ _ hx0 ?_;refine pT ?_;refine uQ ?_;exact yQ09a2
   ·go_simp;have hne:=eL h10.lt;have hGh11:=hx0.size;have hx1:=(cW w20).alloc (.cells #[()] 168);replace hx0:=hx0.trans hx1;replace h10:=h10.ext hx1;clear hx1;refine hK.out _ _ hx0 ?_;refine pT ?_;generalize U0:w20.alloc _=w21 at *;have h11:=dW U0;clear U0;generalize w20.heap.size=g11 at *;exact yQ09a4
  ·go_simp;have hGh11:=hx0.size;have hx1:=(cW o).alloc (.cells #[()] 168);replace hx0:=hx0.trans hx1;clear hx1;refine hK.out _ _ hx0 ?_;refine pT ?_;generalize U0:o.alloc _=w20 at *;have h11:=dW U0;clear U0;generalize o.heap.size=g11 at *;refine zm (fun K hK=>?_) (fun K hK=>?_)
   ·go_simp;refine hK.out _ _ hx0 ?_;refine pT ?_;refine uQ ?_;exact yQ09a1
   ·go_simp;have hne:=eL h11.lt;have hGh10:=hx0.size;have hx1:=(cW w20).alloc (.cells #[()] 168);replace hx0:=hx0.trans hx1;replace h11:=h11.ext hx1;clear hx1;refine hK.out _ _ hx0 ?_;refine pT ?_;generalize U0:w20.alloc _=w21 at *;have h10:=dW U0;clear U0;generalize w20.heap.size=g10 at *;exact yQ09a4
 case rest =>
  obtain⟨g10,g11,UA,RA,uc,rc,rfl,rfl,t,h10,h11,hA,hP⟩:=hcut;have aY:=za (fun W (hW:Ext wc W)=>h10.ext hW);have aZ:=za (fun W (hW:Ext wc W)=>h11.ext hW);have af:=bg.trans t;go_upto_region 6 with fail
  go_cut [12,13] (fun v12 v13 wx=>∃ (g12 g13:Nat),v12=.pointer (some g12)∧v13=.pointer (some g13)∧Ext wc wx∧Blk wx g12 3 #[.int .i64 (a.next.length:Nat)]∧Blk wx g13 3 #[.int .i64 (p.next.length:Nat)])
  case first =>
   have bX:∀ W,Ext wc W->W.cell? g10=some (.slice UA a.next.length uc):=fun W hW=>by rw [(aY.out W hW).cell];rfl
   have bY:∀ W,Ext wc W->W.cell? g11=some (.slice RA p.next.length rc):=fun W hW=>by rw [(aZ.out W hW).cell];rfl
   have R:=cW wc;clear h10 h11 hA hP;refine uR (fun X=>Ext wc X) [7] (zw.app [0,1,2,3] (zw.two 4 (zw.of [5,6,7]) 5 (zw.of [4,6,7]))) ?_;refine uQ ?_;have hx0:Ext wc wc.drew:=R.drew;generalize wc.drew=o at *;refine uQ ?_;refine zm (fun K hK=>?_) (fun K hK=>?_)
   ·go_simp;have hGh12:=hx0.size;have hx1:=(cW o).alloc (.cells #[(0:Int)] 3);replace hx0:=hx0.trans hx1;clear hx1;refine hK.out _ _ hx0 ?_;refine pT ?_;generalize U0:o.alloc _=w20 at *;have h12:=dW U0;clear U0;generalize o.heap.size=g12 at *;refine zd fun K hK=>?_;go_simp;have hne:=eL h12.lt;have hGh13:=hx0.size;have hx1:=(cW w20).alloc (.cells #[(0:Int)] 3);replace hx0:=hx0.trans hx1;replace h12:=h12.ext hx1;clear hx1;refine hK.out _ _ hx0 ?_;refine pT ?_;generalize U0:w20.alloc _=w21 at *;have h13:=dW U0;clear U0;generalize w20.heap.size=g13 at *;exact yQ09a8
   ·go_simp;have hGh13:=hx0.size;have hx1:=(cW o).alloc (.cells #[(0:Int)] 3);replace hx0:=hx0.trans hx1;clear hx1;refine hK.out _ _ hx0 ?_;refine pT ?_;generalize U0:o.alloc _=w20 at *;have h13:=dW U0;clear U0;generalize o.heap.size=g13 at *;refine zd fun K hK=>?_;go_simp;have hne:=eL h13.lt;have hGh12:=hx0.size;have hx1:=(cW w20).alloc (.cells #[(0:Int)] 3);replace hx0:=hx0.trans hx1;replace h13:=h13.ext hx1;clear hx1;refine hK.out _ _ hx0 ?_;refine pT ?_;generalize U0:w20.alloc _=w21 at *;have h12:=dW U0;clear U0;generalize w20.heap.size=g12 at *;exact yQ09a8
  case rest =>
   obtain⟨g12,g13,rfl,rfl,r,h12,h13⟩:=hcut;rename World=>w7
   have hw9:=af.trans r;have hC:BCaps w7 g8 g10 g11 g12 g13 A M UA RA k c dm uc rc ss a p:=by
    obtain⟨bG,bu,bD⟩:=hA.at_;obtain⟨bH,bw,bC⟩:=hP.at_;exact⟨bo.out _ (t.trans r),h10.ext r,h11.ext r,h12,h13,⟨_,_,_,_,a0.out _ (t.trans r)⟩,⟨bG,bu,bD.ext r⟩,⟨bH,bw,bC.ext r⟩⟩
   have av:GCaps w7 w.heap.size ga (w.heap.size+1) g12 g13 a p:=⟨aU.out _ (t.trans r),⟨B,m1,d1,B',G,E,aC,ax,H.out _ (t.trans r),aJ.out _ (t.trans r)⟩,⟨C,m2,d2,C',m2',d2',lo2,hi2,aV.out _ (t.trans r),HP.out _ hw9⟩,h12,h13⟩;obtain⟨N,hN⟩:∃ N:Nat,Hid (zZ (zbe ss [a,p])=N):=⟨_,rfl⟩;obtain⟨⟨_,bK⟩,⟨_,bI⟩⟩:=And.intro (zk Hv.out).2.1 (zk Hp.out).2.1;obtain⟨⟨n1,_⟩,⟨bJ,_⟩⟩:=And.intro (zk Hv.out).2.1 (zk Hp.out).2.1;obtain⟨S,hS⟩:∃ S:Nat,Hid (zZ (ss.map zeE)=S):=⟨_,rfl⟩;have a1:1<=S∧S<=4096:=by
    rw [← hS.out];refine⟨zdh F.out,Nat.le_trans (zcA F.out) ?_⟩;have:=(HS.out w (cW _)).1
    calc 16 ^ ss.length<=16 ^ 3:=dV oM oM
     _=4096:=dM
   have aa:S*a.next.length*p.next.length=N:=by
    rw [← hN.out,← hS.out,show zbe ss [a,p]=ss.map zeE++[zdx a,zdx p] from rfl,zce];simp [zZ,zay,zdx,Nat.mul_assoc]
   have a2:S*a.next.length<=4096*12:=Nat.mul_le_mul a1.2 bK;have bQ:N<=4096*12*12:=by rw [← aa];exact Nat.mul_le_mul a2 bI
   have b3:1<=N:=by rw [← aa];exact Nat.mul_pos (Nat.mul_pos a1.1 n1) bJ
   obtain⟨sn,bf⟩:∃ z:Nat,Hid (S*a.next.length=z):=⟨_,rfl⟩;rw [bf.out] at aa a2;have bT:(S:Int)*(a.next.length:Int)=(sn:Int):=by rw [← bf.out];exact (fC S _).symm
   have b6:(sn:Int)*(p.next.length:Int)=(N:Int):=by rw [← aa];exact (fC sn _).symm
   have Hd:=za (show ∀ x l,x<N->l<6->∀ y∈zbP ss a p x l,y<N from fun x l _ hl y hy=>by
    rw [zdM] at hy;rw [← hN.out];refine pnx_lt (fun mm hmm=>?_) hl y hy;rcases List.mem_append.1 hmm with Z|Z
    ·obtain⟨s,bB,rfl⟩:=List.mem_map.1 Z;exact zfy (F.out s bB)
    ·obtain⟨b,a4,rfl⟩:=List.mem_map.1 Z;simp at a4;rcases a4 with rfl|rfl
     ·exact zcY Hv.out
     ·exact zcY Hp.out)
   have bl:=za (show ∀ x l,(zbP ss a p x l).length<=4096 from fun x l=>by
    unfold zbP;rw [List.length_map];refine Nat.le_trans (nx_len F.out _ l) ?_;have:=(HS.out w (cW _)).1
    calc 16 ^ ss.length<=16 ^ 3:=dV oM oM
     _=4096:=by decide)
   have u:=za (zfK (U|||al));have key:=za (fun W (hW:Ext w7 W) A1 c1 AL q' cL (hA1:zap W A1 1 [0]) (hL:zap W AL q' (letters (U|||al) 6))=>zeT (w:=W) (N:=N) (kn:=198) (kg:=200) (m:=1) (c:=c1) (cL:=cL)
    (capn:=#[.pointer (some g10),.pointer (some g13),.pointer (some g12),.pointer (some g11),.pointer (some g8)])
    (capg:=#[.pointer (some w.heap.size),.pointer (some g13),.pointer (some g12),.pointer (some ⟨w.heap.size+1,0,none⟩)])
    (goal:=zcF a p) (d:=zbP ss a p) (D:=4096) hA1 (fun n hn=>by simp at hn;omega) oM hL u.out oM oM (fun args W=>kM) (fun args W=>kM)
    (fun W' hW' n hn=>brk_goal (av.ext (hW.trans hW')) Hv.out Hp.out oM)
    (fun n l hn hl=>⟨bl.out n l,Hd.out n l hn (u.out.1 l hl)⟩)
    (fun W' hW' n l hn hl base A m c xs hb0 hb hm zjc=>brk_next (hC.ext hW) (HT.out _ (hw9.trans hW)) hW' F.out a7 Hv.out Hp.out (by rw [hN.out];exact hn) (u.out.1 l hl) hb0 hb hm zjc))
   have hSZ:=za (show ∀ W,Ext w7 W->Calls Tryz.prog 202 #[.agg #[.slice A k c,.slice M k dm]] W fun e w'=>e=.returned (.int .i64 (S:Nat))∧Ext W w' from fun W hW=>by
    have:=zhU (c:=c) (dm:=dm) (a0.out W ((t.trans r).trans hW)) F.out a7;rw [hS.out] at this;exact this)
   have hLT:=za (fun W=>zbr (U|||al) (by have:=eJ (n:=6) (x:=U) (y:=al) oM oM;unfold Sm;omega) W);have b9:bits .or .i64 (U:Int) (al:Int)=((U|||al:Nat):Int):=zbz tM tM;have c8:=fun W (hW:Ext w7 W)=>(hC.h8.ext hW).cell;have bZ:∀ W,Ext w7 W->W.cell? g12=some (.int .i64 (a.next.length:Nat)):=fun W hW=>by rw [(hC.h12.ext hW).cell];rfl
   have b0:∀ W,Ext w7 W->W.cell? g13=some (.int .i64 (p.next.length:Nat)):=fun W hW=>by rw [(hC.h13.ext hW).cell];rfl
   have c4:∀ W,Ext w7 W->W.cell? w.heap.size=some (.pointer (some ga)):=fun W hW=>by rw [(av.h4.ext hW).cell];rfl
   have ca:∀ W,Ext w7 W->∀ j,W.cell? ⟨ga,j,none⟩=#[Value.int .i64 (al:Nat),.slice B m1 d1,.slice B' G E][j]?:=fun W hW=>by
    have:=(H.out W ((t.trans r).trans hW)).cell;rw [J.out] at this;exact this
   have cb:IntKind.i64.wrap (sn:Int)=(sn:Int):=zge sn oM;have O:IntKind.i64.wrap (N:Int)=(N:Int):=zge N oM;have R:=cW w7;clear hC av h10 h11 h12 h13 hA hP;go_upto_region 9 with fail
   refine uR (fun X=>Ext w7 X) [16] (zw.app [0,2,4,7,8,14,15] (zw.three 1 (zw.app [3,5] (zw.two 6 (zw.of [9,10,11,12,13,16,17,18,19,20]) 9 (zw.app [10,11,12] (zw.two 6 (zw.of [13,16,17,18,19,20]) 13 (zw.of [6,16,17,18,19,20]))))) 6 (zw.two 1 (zw.of [3,5,9,10,11,12,13,16,17,18,19,20]) 9 (zw.of [10,11,12,1,3,5,13,16,17,18,19,20])) 9 (zw.app [10,11,12] (zw.two 1 (zw.app [3,5] (zw.two 6 (zw.of [13,16,17,18,19,20]) 13 (zw.of [6,16,17,18,19,20]))) 6 (zw.of [1,3,5,13,16,17,18,19,20]))))) ?_;refine uQ ?_;have hx0:Ext w7 w7.drew:=R.drew;generalize w7.drew=o at *;refine uQ ?_;refine zaH (fun K hK=>?_) (fun K hK=>?_) (fun K hK=>?_)
   ·go_simp;refine (hSZ.out _ hx0).mono (mQ fun w20 hx1=>?_);replace hx0:=hx0.trans hx1;clear hx1;refine hK.out _ _ hx0 ?_;refine pT ?_;refine uQ ?_;refine zm (fun K hK=>?_) (fun K hK=>?_)
    ·go_simp;have hI:=zcz (x:=0) (dT w20 3 #[.int .i64 ((0:Nat):Int)]);have hx1:=(cW w20).alloc (.cells #[.int .i64 ((0:Nat):Int)] 3);replace hx0:=hx0.trans hx1;clear hx1;refine hK.out _ _ hx0 ?_;refine pT ?_;generalize w20.alloc _=w21 at *;generalize w20.heap.size=g1 at *;exact yQ09a10
    ·go_simp;exact yQ09a3
   ·go_simp;have hI:=zcz (x:=0) (dT o 3 #[.int .i64 ((0:Nat):Int)]);have hx1:=(cW o).alloc (.cells #[.int .i64 ((0:Nat):Int)] 3);replace hx0:=hx0.trans hx1;clear hx1;refine hK.out _ _ hx0 ?_;refine pT ?_;generalize o.alloc _=w20 at *;generalize o.heap.size=g1 at *;refine zm (fun K hK=>?_) (fun K hK=>?_)
    ·go_simp;refine (hSZ.out _ hx0).mono (mQ fun w21 hx1=>?_);replace hx0:=hx0.trans hx1;replace hI:=hI.ext hx1;clear hx1;refine hK.out _ _ hx0 ?_;refine pT ?_;refine uQ ?_;exact yQ09a10
    ·go_simp;refine hK.out _ _ hx0 ?_;refine pT ?_;refine uQ ?_;exact yQ09a9
   ·go_simp;refine hK.out _ _ hx0 ?_;refine pT ?_;refine uQ ?_;refine zm (fun K hK=>?_) (fun K hK=>?_)
    ·go_simp;refine (hSZ.out _ hx0).mono (mQ fun w20 hx1=>?_);replace hx0:=hx0.trans hx1;clear hx1;exact yQ09a3
    ·go_simp;have hI:=zcz (x:=0) (dT o 3 #[.int .i64 ((0:Nat):Int)]);have hx1:=(cW o).alloc (.cells #[.int .i64 ((0:Nat):Int)] 3);replace hx0:=hx0.trans hx1;clear hx1;refine hK.out _ _ hx0 ?_;refine pT ?_;generalize o.alloc _=w20 at *;generalize o.heap.size=g1 at *;exact yQ09a9
end Go.Proofs.YtfcjhpodichpjaaGreatDoor
