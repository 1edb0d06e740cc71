/- The referenc -/
import Derived.Test.YtckbjnndaaoddaaGreatDoorN08
import Derived.OwnWalk
set_option maxHeartbeats 8000000
set_option maxRecDepth 100000
namespace Go.Proofs.YtckbjnndaaoddaaGreatDoor
open Go Go.RowKit
open Blk renaming new->dX
open Bool renaming and_eq_true->dI
open Ext renaming bl_->eA,refl->dB
open Int renaming natCast_mul->fJ
open List renaming replicate->dT,take_of_length_le->dK
open Nat renaming ne_of_lt->eS,or_lt_two_pow->eO,pow_le_pow_right->dV
def zcF (s:Sys) (a p:Aut):Bool:=zk s&&(zi a&&zi p)
noncomputable def zca (s:Sys) (a p:Aut):Bool:=zcF s a p&&vioB [s] a p
noncomputable def zcb (s:Sys) (a p:Aut):ByteArray:=if zcF s a p=true then vioW [s] a p else ByteArray.empty
noncomputable def zcH (s:Sys) (a p:Aut):Bool:=zcF s a p&&!vioB [s] a p
def zdc (ss:List Sys) (p:Aut):Bool:=zC ss&&zi p
noncomputable def zcq (ss:List Sys) (p:Aut):Bool:=zdc ss p&&vioB ss free p
noncomputable def zaZ (ss:List Sys) (p:Aut):ByteArray:=if zdc ss p=true then vioW ss free p else ByteArray.empty
noncomputable def zcn (ss:List Sys) (p:Aut):Bool:=zdc ss p&&!vioB ss free p
theorem zga (s:Sys) (a p:Aut):zcH s a p=(zcF s a p&&!zca s a p):=by unfold zcH zca;cases zcF s a p<;>simp
theorem zgH (ss:List Sys) (p:Aut):zcn ss p=(zdc ss p&&!zcq ss p):=by unfold zcn zcq;cases zdc ss p<;>simp
section
variable {lo hi n c:Nat} {A:Option Addr} {s:Sys} {lo1 hi1 m1 d1 m1' d1':Nat} {B B':Option Addr} {a:Aut} {lo2 hi2 m2 d2 m2' d2':Nat} {C C':Option Addr} {p:Aut} {w:World}
theorem zfY (h:zO w lo hi A n s)(ha:zH w lo1 hi1 B m1 B' m1' a)(hp:zH w lo2 hi2 C m2 C' m2' p) :
  Calls Tryz.prog 139 #[.agg #[s.al,s.st,.slice A n c],.agg #[a.al,.slice B m1 d1,.slice B' m1' d1'],.agg #[p.al,.slice C m2 d2,.slice C' m2' d2']] w fun e w'=>e=.returned (.bool (zcF s a p))∧Ext w w':=by
 have r:=za (fun W (hW:Ext w W)=>zak (c:=c) (h.ext hW));have o:=za (fun W (hW:Ext w W)=>zI _ _ _ _ d1 _ _ d1' _ _ (ha.ext hW));have q:=za (fun W (hW:Ext w W)=>zI _ _ _ _ d2 _ _ d2' _ _ (hp.ext hW));have x:=za (show zcF s a p=(zk s&&(zi a&&zi p)) from rfl);clear h ha hp;have f:Ext w (((w.alloc (.cells #[s.al,s.st,.slice A n c] 38)).alloc (.cells #[a.al,.slice B m1 d1,.slice B' m1' d1'] 27)).alloc (.cells #[p.al,.slice C m2 d2,.slice C' m2' d2'] 27)):=(((dB w).alloc _).alloc _).alloc _;obtain⟨t,u,v⟩:=zR (dB (((w.alloc (.cells #[s.al,s.st,.slice A n c] 38)).alloc (.cells #[a.al,.slice B m1 d1,.slice B' m1' d1'] 27)).alloc (.cells #[p.al,.slice C m2 d2,.slice C' m2' d2'] 27)));cases h1:zk s<;>cases h2:zi a<;>cases h3:zi p
 all_goals
  have k:=za h1;have l:=za h2;have m:=za h3;clear h1 h2 h3
  go_enter Tryz.func139,Tryz.ntmps139
  go_upto_region 1 with fail
  generalize ((w.alloc _).alloc _).alloc _=E at *;have y:=t.cell;go_wp2_with (first
   |(go_at_call 185;with_reducible refine (r.out _ f).mono ?_;rw [k.out];rintro e F ⟨rfl,hx2⟩;have b:=f.trans hx2;have z:=(u.ext hx2).cell)
   |(go_at_call 79;with_reducible refine (o.out _ b).mono ?_;rw [l.out];rintro e G ⟨rfl,g⟩;have d:=b.trans g;have D:=(v.ext (hx2.trans g)).cell)
   |(go_at_call 79;with_reducible refine (q.out _ d).mono ?_;rw [m.out];rintro e H ⟨rfl,j⟩;have i:=d.trans j))
  go_ret;exact⟨zj (by rw [x.out,k.out,l.out,m.out];rfl),by first|exact i|exact d|exact b⟩
theorem zcD (h:zO w lo hi A n s)(ha:zH w lo1 hi1 B m1 B' m1' a)(hp:zH w lo2 hi2 C m2 C' m2' p) :
  Calls Tryz.prog 59 #[.agg #[s.al,s.st,.slice A n c],.agg #[a.al,.slice B m1 d1,.slice B' m1' d1'],.agg #[p.al,.slice C m2 d2,.slice C' m2' d2']] w fun e w'=>e=.returned (.tuple #[.string (zcb s a p),.bool (zca s a p)])∧Ext w w':=by
 have V:=za (fun W (hW:Ext w W)=>zfY (c:=c) (d1:=d1) (d1':=d1') (d2:=d2) (d2':=d2') (h.ext hW) (ha.ext hW) (hp.ext hW));have HS:=za (fun W (hW:Ext w W)=>h.ext hW);have HA:=za (fun W (hW:Ext w W)=>ha.ext hW);have HP:=za (fun W (hW:Ext w W)=>hp.ext hW);clear h ha hp;have d:Ext w (((w.alloc (.cells #[s.al,s.st,.slice A n c] 38)).alloc (.cells #[a.al,.slice B m1 d1,.slice B' m1' d1'] 27)).alloc (.cells #[p.al,.slice C m2 d2,.slice C' m2' d2'] 27)):=(((dB w).alloc _).alloc _).alloc _;obtain⟨g,l,q⟩:=zR (dB (((w.alloc (.cells #[s.al,s.st,.slice A n c] 38)).alloc (.cells #[a.al,.slice B m1 d1,.slice B' m1' d1'] 27)).alloc (.cells #[p.al,.slice C m2 d2,.slice C' m2' d2'] 27)));cases hT:zcF s a p
 ·have H:=za hT;have E:=za (show zcb s a p=ByteArray.empty∧zca s a p=false by unfold zcb zca;rw [hT];exact⟨rfl,rfl⟩);clear hT
  go_enter Tryz.func59,Tryz.ntmps59
  go_upto_region 1 with fail
  generalize ((w.alloc _).alloc _).alloc _=w1 at *;have X:=g.cell;have Y:=l.cell;have Z:=q.cell;go_wp2_with (go_at_call 139;refine (V.out _ d).mono ?_;rw [H.out];rintro e b ⟨rfl,hx2⟩)
  go_ret2;exact⟨by rw [E.out.1,E.out.2];rfl,d.trans hx2⟩
 ·have hv:zk s=true∧zi a=true∧zi p=true:=by
   unfold zcF at hT;simp only [dI] at hT;exact hT
  obtain⟨T,U,v3⟩:=hv;have H:=za hT;have E:=za (show zcb s a p=vioW [s] a p∧zca s a p=vioB [s] a p by unfold zcb zca;rw [hT];exact⟨rfl,sM⟩);have L:=(zl U).1;have R:=zT T;obtain⟨G,o⟩:∃ al:Nat,Hid (s.al=al):=⟨s.al.toNat,by unfold Hid;omega⟩;obtain⟨al,m⟩:∃ al:Nat,Hid (a.al=al):=⟨a.al.toNat,by unfold Hid;omega⟩;have ag:G<=63:=oH o.out;have af:al<=63:=oH m.out;have ap:bits .or .i64 (G:Int) (al:Int)=((G|||al:Nat):Int):=zbE tM tM;have J:=za (show (G|||al)=zK [s]|||a.al.toNat by
   have h1:=o.out;have h2:=m.out;rw [h2,Int.toNat_natCast];simp [zK,h1])
  have M:=za (show zC [s]=true by simp [zC,T]);have V2:=za U;have V3:=za v3;clear hT L R T U v3
  go_enter Tryz.func59,Tryz.ntmps59
  go_upto_region 1 with fail
  generalize ((w.alloc _).alloc _).alloc _=w1 at *;have X:=g.cell;have Y:=l.cell;have Z:=q.cell;go_upto_region 3 with (go_at_call 139;refine (V.out _ d).mono ?_;rw [H.out];rintro e b ⟨rfl,hx2⟩)
  clear X Y Z;replace g:=g.ext hx2;replace l:=l.ext hx2;replace q:=q.ext hx2;have F:=d.trans hx2;clear d hx2;have e1:=dX b 38 #[s.al,s.st,.slice A n c];have r:=(dB b).alloc (.cells #[s.al,s.st,.slice A n c] 38);have I:=g;have v:=l.ext r;have x:=q.ext r;have e2:=dX (b.alloc (.cells #[s.al,s.st,.slice A n c] 38)) 27 #[a.al,.slice B m1 d1,.slice B' m1' d1',p.al,.slice C m2 d2,.slice C' m2' d2'];have D:=(dB (b.alloc (.cells #[s.al,s.st,.slice A n c] 38))).alloc (.cells #[a.al,.slice B m1 d1,.slice B' m1' d1',p.al,.slice C m2 d2,.slice C' m2' d2'] 27);have e3:=dX ((b.alloc (.cells #[s.al,s.st,.slice A n c] 38)).alloc (.cells #[a.al,.slice B m1 d1,.slice B' m1' d1',p.al,.slice C m2 d2,.slice C' m2' d2'] 27)) 3 #[(0:Int),(0:Int),(0:Int)];have t:=(dB ((b.alloc (.cells #[s.al,s.st,.slice A n c] 38)).alloc (.cells #[a.al,.slice B m1 d1,.slice B' m1' d1',p.al,.slice C m2 d2,.slice C' m2' d2'] 27))).alloc (.cells #[(0:Int),(0:Int),(0:Int)] 3);have i:=g.ext (r.trans (D.trans t));have j:=l.ext (r.trans (D.trans t));have k1:=g.cell;have k2:=v.cell;have k3:=x.cell;have k4:=(i.cell 0).trans (show #[Value.int .i64 s.al,.int .i64 s.st,.slice A n c][0]?=some (Value.int .i64 (G:Nat)) by rw [o.out];rfl);have k5:=(j.cell 0).trans (show #[Value.int .i64 a.al,.slice B m1 d1,.slice B' m1' d1'][0]?=some (Value.int .i64 (al:Nat)) by rw [m.out];rfl);have f:=F.trans (r.trans (D.trans t));have k:∃ lo hi,zeY (((b.alloc (.cells #[s.al,s.st,.slice A n c] 38)).alloc (.cells #[a.al,.slice B m1 d1,.slice B' m1' d1',p.al,.slice C m2 d2,.slice C' m2' d2'] 27)).alloc (.cells #[(0:Int),(0:Int),(0:Int)] 3)) (some ⟨b.heap.size,0,none⟩) 1 (some ⟨b.heap.size+1,0,none⟩) 2 [s] [a,p]∧Lst zbs (((b.alloc (.cells #[s.al,s.st,.slice A n c] 38)).alloc (.cells #[a.al,.slice B m1 d1,.slice B' m1' d1',p.al,.slice C m2 d2,.slice C' m2' d2'] 27)).alloc (.cells #[(0:Int),(0:Int),(0:Int)] 3)) lo hi (some ⟨b.heap.size+1+1,0,none⟩) (dT 3 0):=by
   have y:=e2.ext t;have z:=e3;simp only [World.size_alloc] at y z;exact⟨_,_,⟨sl_one (e1.ext (D.trans t)) (HS.out _ f),al_two y (HA.out _ f) (HP.out _ f)⟩,zeros_blk (n:=3) z rfl oM⟩
  have u:=za k;clear k e1 e2 e3 r D t g l q I v x i j F;go_wp2_with (go_at_call 140;obtain⟨l1,h1,O,Q⟩:=u.out;refine (first_under (pn:=1) O M.out V2.out V3.out Q J.out).mono (mQ fun w4 S=>?_))
  go_ret2;exact⟨by rw [E.out.1,E.out.2];rfl,f.trans S⟩
end
theorem wp_make {P:Program} (w:World) {o:Oper} {a:Act} {K:Act->World->Prop} {Q:Exit->Act->World->Prop} (l c:Operand) (t:TypeId)(ho:o.op=.makeSlice t l c)
  (e:TypeId) (z:Value) (size bytes:Nat) (ht:P.underlying t=some (.slice e)) (hi:(P.info? e).map (fun i=>(i.zero,i.size,i.bytes))=some (some z,size,bytes))
  (kl kc:IntKind) (n:Nat) (hl:a.eval l=.int kl (n:Int)) (hc:a.eval c=.int kc (n:Int)) (hbytes:n*bytes<=140737488355328) (h63:n<=maxLen)
  (h:∀ w',w'.ownsRow w.heap.size e size (.slice (some w.heap.size) n n) n (madeCells z.cells (n*size)).toList->Ext w w'->K (a.put o.dst (.slice (some w.heap.size) n n)) w') :
  o.wp P a w K Q:=by
 obtain⟨i,d,f,g,j⟩:=info_parts hi;obtain⟨w',b,k,m⟩:=run_make_full (P:=P) w w.heap.size t e i z size ht d f g kl kc n (by rw [j,Nat.mul_comm];omega) h63 (Nat.le_refl _);unfold Oper.wp;simp [execOp,ho,hl,hc,b,Result.andThen];exact h w' k ((dB _).grown m sM)
section
variable {lo hi n c:Nat} {A:Option Addr} {s:Sys} {lo1 hi1 m1 d1 m1' d1':Nat} {B B':Option Addr} {a:Aut} {lo2 hi2 m2 d2 m2' d2':Nat} {C C':Option Addr} {p:Aut} {w:World}
theorem zha (h:zO w lo hi A n s)(ha:zH w lo1 hi1 B m1 B' m1' a)(hp:zH w lo2 hi2 C m2 C' m2' p) :
  Calls Tryz.prog 80 #[.agg #[s.al,s.st,.slice A n c],.agg #[a.al,.slice B m1 d1,.slice B' m1' d1'],.agg #[p.al,.slice C m2 d2,.slice C' m2' d2']] w fun e w'=>e=.returned (.bool (zcH s a p))∧Ext w w':=by
 have m:=za (fun W (hW:Ext w W)=>zfY (c:=c) (d1:=d1) (d1':=d1') (d2:=d2) (d2':=d2') (h.ext hW) (ha.ext hW) (hp.ext hW));have o:=za (fun W (hW:Ext w W)=>zcD (c:=c) (d1:=d1) (d1':=d1') (d2:=d2) (d2':=d2') (h.ext hW) (ha.ext hW) (hp.ext hW));have u:=za (zga s a p);clear h ha hp;generalize zca s a p=v at *;generalize zcb s a p=D at *;have b:Ext w (((w.alloc (.cells #[s.al,s.st,.slice A n c] 38)).alloc (.cells #[a.al,.slice B m1 d1,.slice B' m1' d1'] 27)).alloc (.cells #[p.al,.slice C m2 d2,.slice C' m2' d2'] 27)):=(((dB w).alloc _).alloc _).alloc _;obtain⟨j,k,l⟩:=zR (dB (((w.alloc (.cells #[s.al,s.st,.slice A n c] 38)).alloc (.cells #[a.al,.slice B m1 d1,.slice B' m1' d1'] 27)).alloc (.cells #[p.al,.slice C m2 d2,.slice C' m2' d2'] 27)));cases hT:zcF s a p<;>cases v
 all_goals
  have i:=za hT;clear hT
  go_enter Tryz.func80,Tryz.ntmps80
  go_upto_region 1 with fail
  generalize ((w.alloc _).alloc _).alloc _=E at *;have x:=j.cell;have y:=k.cell;have z:=l.cell;go_wp2_with (first
   |(go_at_call 59;refine (o.out _ b).mono (mQ fun F hx2=>?_);have d:=b.trans hx2;have q:=(j.ext hx2).cell;have r:=(k.ext hx2).cell;have t:=(l.ext hx2).cell)
   |(go_at_call 139;refine (m.out _ d).mono ?_;rw [i.out];rintro e G ⟨rfl,g⟩;have f:=d.trans g))
  go_ret;exact⟨zj (by rw [u.out,i.out];rfl),f⟩
theorem madeZ (n:Nat):(madeCells (Value.int .i64 0).cells (n*1)).toList=zae (dT n 0):=by
 simp [Value.cells,toList_madeCells_one,zae]
variable {k:Nat} {ss:List Sys}
theorem zbG (h:zeB w lo hi A k ss)(hp:zH w lo2 hi2 C m2 C' m2' p) :
  Calls Tryz.prog 150 #[.slice A k c,.agg #[p.al,.slice C m2 d2,.slice C' m2' d2']] w fun e w'=>e=.returned (.tuple #[.string (zaZ ss p),.bool (zcq ss p)])∧Ext w w':=by
 have o:=za (fun W (hW:Ext w W)=>h.ext hW);have v:=za (fun W (hW:Ext w W)=>hp.ext hW);have O:=h.len;have z:=za h.1;clear h hp;have b:Ext w (w.alloc (.cells #[p.al,.slice C m2 d2,.slice C' m2' d2'] 27)):=(dB w).alloc _;have x:=dX w 27 #[p.al,.slice C m2 d2,.slice C' m2' d2'];cases hA:zC ss
 ·have f:=za (show zaZ ss p=ByteArray.empty∧zcq ss p=false by unfold zaZ zcq zdc;rw [hA];exact⟨rfl,rfl⟩);have g:=za (show zaJ ss = -1 by unfold zaJ;rw [hA];rfl);clear hA
  go_enter Tryz.func150,Tryz.ntmps150
  go_upto_region 1 with fail
  generalize w.alloc _=I at *;go_wp2_with (go_at_call 206;refine (zad (o.out _ b)).mono ?_;rw [g.out];rintro e J ⟨rfl,hx2⟩)
  go_ret2;exact⟨by rw [f.out.1,f.out.2];rfl,b.trans hx2⟩
 ·have g:=za (show zaJ ss=(zK ss:Int) by unfold zaJ;rw [hA];rfl);cases hV:zi p
  ·have f:=za (show zaZ ss p=ByteArray.empty∧zcq ss p=false by unfold zaZ zcq zdc;rw [hA,hV];exact⟨rfl,rfl⟩);have q:=za hV;clear hA hV
   go_enter Tryz.func150,Tryz.ntmps150
   go_upto_region 1 with fail
   generalize w.alloc _=I at *;go_wp2_with (first
    |(go_at_call 206;refine (zad (o.out _ b)).mono ?_;rw [g.out];rintro e J ⟨rfl,hx2⟩;have d:=b.trans hx2;have G:=(x.ext hx2).cell)
    |(go_at_call 79;refine (zI _ _ _ _ _ _ _ _ _ _ (v.out _ d)).mono ?_;rw [q.out];rintro e n ⟨rfl,j⟩;have i:=d.trans j))
   go_ret2;exact⟨by rw [f.out.1,f.out.2];rfl,i⟩
  ·have f:=za (show zaZ ss p=vioW ss free p∧zcq ss p=vioB ss free p by unfold zaZ zcq zdc;rw [hA,hV];exact⟨rfl,sM⟩);obtain⟨⟨_,t⟩,u⟩:=zaO hA;have H:k<=3:=by rw [z.out];exact t
   have V:=zfD u;have q:=za hV;have E:=za hA;clear hA hV u t;generalize hUe:zK ss=U at *;have F:=za hUe;clear hUe
   go_enter Tryz.func150,Tryz.ntmps150
   go_upto_region 1 with fail
   generalize w.alloc _=I at *;go_upto_region 4 with (first
    |(go_at_call 206;refine (zad (o.out _ b)).mono ?_;rw [g.out];rintro e J ⟨rfl,hx2⟩;have d:=b.trans hx2;have G:=(x.ext hx2).cell)
    |(go_at_call 79;refine (zI _ _ _ _ _ _ _ _ _ _ (v.out _ d)).mono ?_;rw [q.out];rintro e n ⟨rfl,j⟩;have i:=d.trans j))
   have r:=x.ext (hx2.trans j);have S:=r.cells;have B:=dB n;have M:IntKind.i64.wrap ((k:Int)+1)=((k+1:Nat):Int):=by rw [← Int.natCast_succ];exact zgp (k+1) oM
   clear G x r;refine uR (fun X=>Ext n X) [9] (zw.app [0,1,3,4,5,7] (zw.two 2 (zw.of [6,8,9,10,11,12,13]) 6 (zw.of [2,8,9,10,11,12,13]))) ?_;refine uQ ?_;have hx0:Ext n n.drew:=B.drew;generalize n.drew=y at *;refine zm (fun K hK=>?_) (fun K hK=>?_)
   ·go_simp;replace hx0:=hx0.alloc (.cells #[p.al,.slice C m2 d2,.slice C' m2' d2'] 27);refine hK.out _ _ hx0 ?_;generalize U0:y.alloc _=Q at *;have s:=eA U0;clear U0;generalize y.heap.size=L at *;refine pT ?_;refine zd (fun K hK=>?_);refine wp_make Q _ _ 110 rfl 3 _ 1 8 Tryz.underlying110 zS .i64 .i64 (k+1) ?_ ?_ oM lM ?_
    ·go_simp
    ·go_simp
    intro w5 zjq hx5;rw [madeZ] at zjq;replace hx0:=hx0.trans hx5;replace s:=s.ext hx5;refine hK.out _ _ hx0 ?_;refine pT ?_;refine uQ ?_;refine zb fun K hK=>?_;go_simp;have a:=i.trans hx0;refine (zhT (pn:=k) ⟨⟨_,_,o.out _ a⟩,al_one s (v.out _ a)⟩ E.out q.out (zeros_row zjq) F.out.symm).mono (mQ fun R l=>?_);have m:=a.trans l;refine hK.out _ _ ?_;refine pT ?_;refine uQ ?_;refine ze ?_;go_wp2_with fail
    go_ret2;exact⟨by rw [f.out.1,f.out.2];rfl,m⟩
   ·refine wp_make y _ _ 110 rfl 3 _ 1 8 Tryz.underlying110 zS .i64 .i64 (k+1) ?_ ?_ oM lM ?_
    ·go_simp
    ·go_simp
    intro w5 zjq hx5;rw [madeZ] at zjq;replace hx0:=hx0.trans hx5;refine hK.out _ _ hx0 ?_;generalize y.heap.size=T at *;refine pT ?_;refine zd fun K hK=>?_;go_simp;have l:=(dB w5).alloc (.cells #[p.al,.slice C m2 d2,.slice C' m2' d2'] 27);replace hx0:=hx0.trans l;replace zjq:=zh zjq l;refine hK.out _ _ hx0 ?_;generalize U0:w5.alloc _=R at *;have s:=eA U0;clear U0;generalize w5.heap.size=L at *;refine pT ?_;refine uQ ?_;refine zb fun K hK=>?_;go_simp;have a:=i.trans hx0;refine (zhT (pn:=k) ⟨⟨_,_,o.out _ a⟩,al_one s (v.out _ a)⟩ E.out q.out (zeros_row zjq) F.out.symm).mono (mQ fun Y D=>?_);have m:=a.trans D;refine hK.out _ _ ?_;refine pT ?_;refine uQ ?_;refine ze ?_;go_wp2_with fail
    go_ret2;exact⟨by rw [f.out.1,f.out.2];rfl,m⟩
theorem zhE (h:zeB w lo hi A k ss)(hp:zH w lo2 hi2 C m2 C' m2' p) :
  Calls Tryz.prog 172 #[.slice A k c,.agg #[p.al,.slice C m2 d2,.slice C' m2' d2']] w fun e w'=>e=.returned (.bool (zcn ss p))∧Ext w w':=by
 have r:=za (fun W (hW:Ext w W)=>zbG (c:=c) (d2:=d2) (d2':=d2') (h.ext hW) (hp.ext hW));have q:=za (fun W (hW:Ext w W)=>h.ext hW);have o:=za (fun W (hW:Ext w W)=>hp.ext hW);have s:=za (show zcn ss p=(zC ss&&zi p&&!zcq ss p) from zgH ss p);clear h hp;generalize zcq ss p=t at *;generalize zaZ ss p=x at *;have f:Ext w (w.alloc (.cells #[p.al,.slice C m2 d2,.slice C' m2' d2'] 27)):=(dB w).alloc _;have m:=dX w 27 #[p.al,.slice C m2 d2,.slice C' m2' d2'];cases hA:zC ss<;>cases hVv:zi p<;>cases t
 all_goals
  have n:=za (show zC ss=_ from hA);have a:=za (show zaJ ss=if zC ss=true then (zK ss:Int) else -1 from rfl);rw [hA] at a;have d:=za hVv;clear hA hVv;simp only [Bool.false_eq_true,if_false,if_true] at a
  go_enter Tryz.func172,Tryz.ntmps172
  go_upto_region 1 with fail
  generalize w.alloc _=y at *;have u:=m.cell;go_wp2_with (first
   |(go_at_call 150;refine (r.out _ f).mono (mQ fun z hx2=>?_);have g:=f.trans hx2)
   |(go_at_call 206;refine (zad (q.out _ g)).mono ?_;rw [a.out];rintro e B ⟨rfl,i⟩;have b:=g.trans i;have v:=(m.ext (hx2.trans i)).cell)
   |(go_at_call 79;refine (zI _ _ _ _ _ _ _ _ _ _ (o.out _ b)).mono ?_;rw [d.out];rintro e D ⟨rfl,l⟩;have j:=b.trans l))
  go_ret;exact⟨zj (by rw [s.out,n.out,d.out];rfl),by first|exact j|exact b⟩
theorem zfv (h:zO w lo hi A n s)(hp:zH w lo2 hi2 C m2 C' m2' p) :
  Calls Tryz.prog 81 #[.agg #[s.al,s.st,.slice A n c],.agg #[p.al,.slice C m2 d2,.slice C' m2' d2']] w fun e w'=>e=.returned (.bool (zcn [s] p))∧Ext w w':=by
 have k:=za (fun W (hW:Ext w W)=>h.ext hW);have j:=za (fun W (hW:Ext w W)=>hp.ext hW);clear h hp
 go_enter Tryz.func81,Tryz.ntmps81
 go_upto_region 1 with fail
 generalize U0:(w.alloc _).alloc _=i at *;obtain⟨d,l,m⟩:=Ext.x2_ U0;clear U0;have q:=l.cell;have o:=dX i 38 #[s.al,s.st,.slice A n c];have g:=(dB i).alloc (.cells #[s.al,s.st,.slice A n c] 38);have r:=(m.ext g).cell;have a:=d.trans g;obtain⟨u,t,b⟩:=sl_one o (k.out _ a);go_wp2_with (go_at_call 172;refine (zhE b (j.out _ a)).mono (mQ fun v f=>?_))
 go_ret;exact⟨zj rfl,a.trans f⟩
end
theorem yN09d1 {P:Prop}(h:P:=by
 have Kh10:=h10.cell 0;have Zh10:=h10.frozen 0;refine zb fun K hK=>?_;go_simp;have hx2:=hx0.frm (Frm.setCell w23 g10 0 (.slice UA a.next.length uc)) (fun k hk e=>oH hGh10);have hA2:=hA.set h10 dM (.slice UA a.next.length uc);have hP2:=hP.set h10 dM (.slice UA a.next.length uc);have h102:Blk (w23.setCell g10 (.slice UA a.next.length uc)) g10 148 #[.slice UA a.next.length uc]:=by simpa using h10.ae 0 (.slice UA a.next.length uc)
 have h112:=h11.far (p:=⟨g10,0,none⟩) (by first|exact hne|exact hne.symm) (.slice UA a.next.length uc)
 refine hK.out _ _ ?_;refine pT ?_;clear hA hP h10 h11 Kh10 Zh10 hx0;generalize w23.setCell g10 (.slice UA a.next.length uc)=w24 at *;have hA:=hA2;have hP:=hP2;have h10:=h102;have h11:=h112;have hx0:=hx2;clear hA2 hP2 h102 h112 hx2;have Kh11:=h11.cell 0;have Zh11:=h11.frozen 0;refine zb fun K hK=>?_;go_simp;have hx2:=hx0.frm (Frm.setCell w24 g11 0 (.slice RA p.next.length rc)) (fun k hk e=>oH hGh11);have hA2:=hA.set h11 dM (.slice RA p.next.length rc);have hP2:=hP.set h11 dM (.slice RA p.next.length rc);have h112:Blk (w24.setCell g11 (.slice RA p.next.length rc)) g11 148 #[.slice RA p.next.length rc]:=by simpa using h11.ae 0 (.slice RA p.next.length rc)
 have h102:=h10.far (p:=⟨g11,0,none⟩) (by first|exact hne|exact hne.symm) (.slice RA p.next.length rc)
 refine hK.out _ _ ?_;refine pT ?_;clear hA hP h10 h11 Kh11 Zh11 hx0;generalize w24.setCell g11 (.slice RA p.next.length rc)=w25 at *;have hA:=hA2;have hP:=hP2;have h10:=h102;have h11:=h112;have hx0:=hx2;clear hA2 hP2 h102 h112 hx2;refine ze ?_;go_wp2_with fail
 go_meet;exact⟨g10,g11,UA,RA,uc,rc,rfl,rfl,hx0,h10,h11,hA,hP⟩
 ):P:=h
theorem yN09c1 {P:Prop}(h:P:=by
 refine zb fun K hK=>?_;go_simp;refine (hTP.out _ hx0).mono ?_;rintro e w23 ⟨RA,rc,rfl,hP,hx1⟩;replace hx0:=hx0.trans hx1;replace h10:=h10.ext hx1;replace h11:=h11.ext hx1;replace hA:=hA.ext hx1;clear hx1;refine hK.out _ _ ?_;refine pT ?_;exact yN09d1
 ):P:=h
theorem yN09b1 {P:Prop}(h:P:=by
 refine zd fun K hK=>?_;go_simp;refine (hTA.out _ hx0).mono ?_;rintro e w22 ⟨UA,uc,rfl,hA,hx1⟩;replace hx0:=hx0.trans hx1;replace h10:=h10.ext hx1;replace h11:=h11.ext hx1;clear hx1;refine hK.out _ _ hx0 ?_;refine pT ?_;exact yN09c1
 ):P:=h
theorem yN09c2 {P:Prop}(h:P:=by
 exact yN09d1
 ):P:=h
theorem yN09b3 {P:Prop}(h:P:=by
 refine zd fun K hK=>?_;go_simp;have hne:=Nat.ne_of_lt h11.lt;have hGh10:=hx0.size;have hx1:=(Ext.refl w22).alloc (.cells #[()] 148);replace hx0:=hx0.trans hx1;replace h11:=h11.ext hx1;replace hA:=hA.ext hx1;replace hP:=hP.ext hx1;clear hx1;refine hK.out _ _ hx0 ?_;refine pT ?_;generalize U0:w22.alloc _=w23 at *;have h10:=Ext.bl_ U0;clear U0;generalize w22.heap.size=g10 at *;exact yN09c2
 ):P:=h
theorem yN09b4 {P:Prop}(h:P:=by
 exact yN09c1
 ):P:=h
theorem reads_blk {w:World} {g lo hi:Nat} {t:TypeId} {v:Value}(h:Blk w g t #[v])(h1:lo<=g)(h2:g<hi):Reads w lo hi 1 (some ⟨g,0,none⟩) 1 [v]:=
 ⟨rfl,oM,fun _=>⟨_,rfl,h1,h2,fun j u hu=>by
  rw [zX,Nat.zero_add,h.cell]
  simpa using hu⟩⟩
theorem yN09a1 {P:Prop}(h:P:=by
 refine zm (fun K hK=>?_) (fun K hK=>?_)
 ·go_simp;refine (hTA.out _ hx0).mono ?_;rintro e w21 ⟨UA,uc,rfl,hA,hx1⟩;replace hx0:=hx0.trans hx1;replace h11:=h11.ext hx1;clear hx1;refine hK.out _ _ hx0 ?_;refine pT ?_;refine zm (fun K hK=>?_) (fun K hK=>?_)
  ·go_simp;refine (hTP.out _ hx0).mono ?_;rintro e w22 ⟨RA,rc,rfl,hP,hx1⟩;replace hx0:=hx0.trans hx1;replace h11:=h11.ext hx1;replace hA:=hA.ext hx1;clear hx1;refine hK.out _ _ hx0 ?_;refine pT ?_;exact yN09b3
  ·go_simp;have hne:=Nat.ne_of_lt h11.lt;have hGh10:=hx0.size;have hx1:=(Ext.refl w21).alloc (.cells #[()] 148);replace hx0:=hx0.trans hx1;replace h11:=h11.ext hx1;replace hA:=hA.ext hx1;clear hx1;refine hK.out _ _ hx0 ?_;refine pT ?_;generalize U0:w21.alloc _=w22 at *;have h10:=Ext.bl_ U0;clear U0;generalize w21.heap.size=g10 at *;exact yN09b4
 ·go_simp;have hne:=Nat.ne_of_lt h11.lt;have hGh10:=hx0.size;have hx1:=(Ext.refl w20).alloc (.cells #[()] 148);replace hx0:=hx0.trans hx1;replace h11:=h11.ext hx1;clear hx1;refine hK.out _ _ hx0 ?_;refine pT ?_;generalize U0:w20.alloc _=w21 at *;have h10:=Ext.bl_ U0;clear U0;generalize w20.heap.size=g10 at *;exact yN09b1
 ):P:=h
theorem yN09b2 {P:Prop}(h:P:=by
 refine zd fun K hK=>?_;go_simp;have hne:=Nat.ne_of_lt h10.lt;have hGh11:=hx0.size;have hx1:=(Ext.refl w22).alloc (.cells #[()] 148);replace hx0:=hx0.trans hx1;replace h10:=h10.ext hx1;replace hA:=hA.ext hx1;replace hP:=hP.ext hx1;clear hx1;refine hK.out _ _ hx0 ?_;refine pT ?_;generalize U0:w22.alloc _=w23 at *;have h11:=Ext.bl_ U0;clear U0;generalize w22.heap.size=g11 at *;exact yN09c2
 ):P:=h
theorem yN09a2 {P:Prop}(h:P:=by
 refine zm (fun K hK=>?_) (fun K hK=>?_)
 ·go_simp;refine (hTA.out _ hx0).mono ?_;rintro e w21 ⟨UA,uc,rfl,hA,hx1⟩;replace hx0:=hx0.trans hx1;replace h10:=h10.ext hx1;clear hx1;refine hK.out _ _ hx0 ?_;refine pT ?_;refine zm (fun K hK=>?_) (fun K hK=>?_)
  ·go_simp;refine (hTP.out _ hx0).mono ?_;rintro e w22 ⟨RA,rc,rfl,hP,hx1⟩;replace hx0:=hx0.trans hx1;replace h10:=h10.ext hx1;replace hA:=hA.ext hx1;clear hx1;refine hK.out _ _ hx0 ?_;refine pT ?_;exact yN09b2
  ·go_simp;have hne:=Nat.ne_of_lt h10.lt;have hGh11:=hx0.size;have hx1:=(Ext.refl w21).alloc (.cells #[()] 148);replace hx0:=hx0.trans hx1;replace h10:=h10.ext hx1;replace hA:=hA.ext hx1;clear hx1;refine hK.out _ _ hx0 ?_;refine pT ?_;generalize U0:w21.alloc _=w22 at *;have h11:=Ext.bl_ U0;clear U0;generalize w21.heap.size=g11 at *;exact yN09b4
 ·go_simp;have hne:=Nat.ne_of_lt h10.lt;have hGh11:=hx0.size;have hx1:=(Ext.refl w20).alloc (.cells #[()] 148);replace hx0:=hx0.trans hx1;replace h10:=h10.ext hx1;clear hx1;refine hK.out _ _ hx0 ?_;refine pT ?_;generalize U0:w20.alloc _=w21 at *;have h11:=Ext.bl_ U0;clear U0;generalize w20.heap.size=g11 at *;exact yN09b1
 ):P:=h
theorem yN09c3 {P:Prop}(h:P:=by
 refine zb fun K hK=>?_;go_simp;refine (key.out _ hx0 _ _ _ _ _ hI hIL).mono ?_;rintro e w23 ⟨hx1,hcase⟩;have hx2:=hw9.trans (hx0.trans hx1);rcases hcase with ⟨v,rfl,hF⟩|⟨rfl,hF⟩
 ·have hres:=za (show zP w (zbX ss a p) [0] (zcj a p) (letters (U|||al) 6) _ w23 from ⟨hx2,Or.inl ⟨v,rfl,hF⟩⟩);refine hK.out _ _ ?_;refine pT ?_;refine uQ ?_;refine ze ?_;go_wp2_with fail
  go_ret2;exact hres.out
 ·have hres:=za (show zP w (zbX ss a p) [0] (zcj a p) (letters (U|||al) 6) _ w23 from ⟨hx2,Or.inr ⟨rfl,hF⟩⟩);refine hK.out _ _ ?_;refine pT ?_;refine uQ ?_;refine ze ?_;go_wp2_with fail
  go_ret2;exact hres.out
 ):P:=h
theorem yN09b6 {P:Prop}(h:P:=by
 exact yN09c3
 ):P:=h
theorem yN09a3 {P:Prop}(h:P:=by
 refine hK.out _ _ hx0 ?_;refine pT ?_;refine uQ ?_;refine zm (fun K hK=>?_) (fun K hK=>?_)
 ·go_simp;have hI:=zcJ (x:=0) (Blk.new w20 3 #[.int .i64 ((0:Nat):Int)]);have hx1:=(Ext.refl w20).alloc (.cells #[.int .i64 ((0:Nat):Int)] 3);replace hx0:=hx0.trans hx1;clear hx1;refine hK.out _ _ hx0 ?_;refine pT ?_;generalize w20.alloc _=w21 at *;generalize w20.heap.size=g1 at *;refine zd fun K hK=>?_;go_simp;refine (hLT.out w21).mono ?_;rintro e w22 ⟨AL,cL,rfl,hownL,hx1⟩;have hIL:=zav.own hownL;clear hownL;replace hx0:=hx0.trans hx1;replace hI:=hI.ext hx1;clear hx1;refine hK.out _ _ hx0 ?_;refine pT ?_;exact yN09b6
 ·go_simp;refine (hLT.out w20).mono ?_;rintro e w21 ⟨AL,cL,rfl,hownL,hx1⟩;have hIL:=zav.own hownL;clear hownL;replace hx0:=hx0.trans hx1;clear hx1;refine hK.out _ _ hx0 ?_;refine pT ?_;refine zd fun K hK=>?_;go_simp;have hI:=zcJ (x:=0) (Blk.new w21 3 #[.int .i64 ((0:Nat):Int)]);have hx1:=(Ext.refl w21).alloc (.cells #[.int .i64 ((0:Nat):Int)] 3);replace hx0:=hx0.trans hx1;replace hIL:=hIL.ext hx1;clear hx1;refine hK.out _ _ hx0 ?_;refine pT ?_;generalize w21.alloc _=w22 at *;generalize w21.heap.size=g1 at *;exact yN09b6
 ):P:=h
theorem yN09a4 {P:Prop}(h:P:=by
 refine zd fun K hK=>?_;go_simp;refine hK.out _ _ hx0 ?_;refine pT ?_;refine uQ ?_;exact yN09b1
 ):P:=h
theorem yN09a5 {P:Prop}(h:P:=by
 exact yN09b2
 ):P:=h
theorem yN09a6 {P:Prop}(h:P:=by
 exact yN09b3
 ):P:=h
theorem yN09a7 {P:Prop}(h:P:=by
 exact yN09b4
 ):P:=h
theorem yN09a8 {P:Prop}(h:P:=by
 have Kh12:=h12.cell 0;have Zh12:=h12.frozen 0;refine zd fun K hK=>?_;go_simp;have hx2:=hx0.frm (Frm.setCell w21 g12 0 (.int .i64 (a.next.length:Nat))) (fun k hk e=>oH hGh12);have h122:Blk (w21.setCell g12 (.int .i64 (a.next.length:Nat))) g12 3 #[.int .i64 (a.next.length:Nat)]:=by simpa using h12.ae 0 (.int .i64 (a.next.length:Nat))
 have h132:=h13.far (p:=⟨g12,0,none⟩) (by first|exact hne|exact hne.symm) (.int .i64 (a.next.length:Nat))
 refine hK.out _ _ hx2 ?_;refine pT ?_;clear h12 h13 Kh12 Zh12 hx0;generalize w21.setCell g12 (.int .i64 (a.next.length:Nat))=w22 at *;have h12:=h122;have h13:=h132;have hx0:=hx2;clear h122 h132 hx2;have Kh13:=h13.cell 0;have Zh13:=h13.frozen 0;refine zb fun K hK=>?_;go_simp;have hx2:=hx0.frm (Frm.setCell w22 g13 0 (.int .i64 (p.next.length:Nat))) (fun k hk e=>oH hGh13);have h132:Blk (w22.setCell g13 (.int .i64 (p.next.length:Nat))) g13 3 #[.int .i64 (p.next.length:Nat)]:=by simpa using h13.ae 0 (.int .i64 (p.next.length:Nat))
 have h122:=h12.far (p:=⟨g13,0,none⟩) (by first|exact hne|exact hne.symm) (.int .i64 (p.next.length:Nat))
 refine hK.out _ _ ?_;refine pT ?_;clear h12 h13 Kh13 Zh13 hx0;generalize w22.setCell g13 (.int .i64 (p.next.length:Nat))=w23 at *;have h12:=h122;have h13:=h132;have hx0:=hx2;clear h122 h132 hx2;refine ze ?_;go_wp2_with fail
 go_meet;exact⟨g12,g13,rfl,rfl,hx0,h12,h13⟩
 ):P:=h
theorem yN09b5 {P:Prop}(h:P:=by
 refine hK.out _ _ hx0 ?_;refine pT ?_;refine uQ ?_;refine zd fun K hK=>?_;go_simp;refine (hLT.out w21).mono ?_;rintro e w22 ⟨AL,cL,rfl,hownL,hx1⟩;have hIL:=zav.own hownL;clear hownL;replace hx0:=hx0.trans hx1;replace hI:=hI.ext hx1;clear hx1;refine hK.out _ _ hx0 ?_;refine pT ?_;exact yN09c3
 ):P:=h
theorem yN09a9 {P:Prop}(h:P:=by
 refine zd fun K hK=>?_;go_simp;refine (hSZ.out _ hx0).mono (mQ fun w21 hx1=>?_);replace hx0:=hx0.trans hx1;replace hI:=hI.ext hx1;clear hx1;exact yN09b5
 ):P:=h
theorem yN09a10 {P:Prop}(h:P:=by
 refine zd fun K hK=>?_;go_simp;exact yN09b5
 ):P:=h
theorem zeh {lo hi k c:Nat} {A:Option Addr} {ss:List Sys} {C:Option Addr} {m2 d2:Nat} {C':Option Addr} {m2' d2' lo2 hi2:Nat} {p:Aut} {w:World}
  (h:zeB w lo hi A k ss) (hap:zC ss=true) (hT:Tab w) (hP0:zH w lo2 hi2 C m2 C' m2' p) (hp:zi p=true) :
  Calls Tryz.prog 84 #[.slice A k c,.pointer none,.agg #[p.al,.slice C m2 d2,.slice C' m2' d2']] w (zP w (zbX ss free p) [0] (zcj free p) (letters (zK ss|||free.al.toNat) 6)):=by
 have hv:=zdV;obtain⟨a,aw⟩:∃ a,Hid (a=free):=⟨_,rfl⟩;rw [← aw.out] at hv ⊢;have ae:∀ s∈ss,zk s=true:=by
  unfold zC at hap;simp only [dI,List.all_eq_true] at hap;exact hap.2.2
 have a7:k<=3:=by
  unfold zC at hap;simp only [dI,decide_eq_true_eq] at hap;have:=h.1;omega
 have F:=za (fun (s:Sys) (hs:s∈ss)=>zbZ (ae s hs));have a5:=za (fun (s:Sys) (hs:s∈ss)=>show Few 16 s.edges from by
  obtain⟨q,_,_,hq,hf⟩:=zbl (ae s hs);exact fun e he=>by have:=hf e he;omega)
 have hU:zK ss<=63:=by
  have key:∀ l:List Sys,(∀ s∈l,zk s=true)->zK l<=63:=by
   intro l hl;have:∀ n,zK (l.take n)<=63:=by
    intro n
    induction n with
    |zero=>simp [zK]
    |succ n ih =>
     rcases Nat.lt_or_ge n l.length with Z|Z
     ·rw [zcg (List.getElem?_eq_getElem Z)];have:=zT (hl _ (List.getElem_mem Z));have:=eO (n:=6) (x:=zK (l.take n)) (y:=l[n].al.toNat) oM oM;omega
     ·rw [dK oM];rw [dK Z] at ih;exact ih
   have h2:=this l.length;rwa [List.take_length] at h2
  exact key ss ae
 have br:=(zl hv).1;obtain⟨al,J⟩:∃ al:Nat,Hid (a.al=al):=⟨a.al.toNat,by unfold Hid;omega⟩;have bR:al<=63:=oH J.out;have bA:=za (show zaJ ss=(zK ss:Int) by unfold zaJ;rw [hap];rfl);have a3:=za (show a.al.toNat=al by have:=J.out;omega);have bS:=za (show 0<=p.al∧p.al<=63 from (zl hp).1);rw [a3.out];have HS:=za (fun W (hW:Ext w W)=>h.ext hW);have HT:=za (fun W (hW:Ext w W)=>hT.ext hW);have HP:=za (fun W (hW:Ext w W)=>hP0.ext hW);have Hv:=za hv;have Hp:=za hp;generalize hUe:zK ss=U at *;have HU:=za hUe;clear hUe h hT hP0 hv hp hap ae br
 go_enter Tryz.func84,Tryz.ntmps84
 go_upto_region 1 with fail
 generalize U0:(w.alloc _).alloc _=w2 at *;obtain⟨O,b4,b5⟩:=Ext.x2_ U0;clear U0;go_upto_region 2 with (go_at_call 66;refine (zfk (HS.out _ O) a5.out oM).mono ?_;rintro e w3 ⟨M,dm,rfl,a9,ag⟩)
 have bE:=O.trans ag;have b8:=dX w3 108 #[.slice A k c,.slice M k dm];have T:=ag.alloc (.cells #[.slice A k c,.slice M k dm] 108);have ap:=a9.ext ((dB w3).alloc (.cells #[.slice A k c,.slice M k dm] 108));have aj:w2.heap.size<=w3.heap.size:=ag.size;generalize hg8:w3.heap.size=g8 at *;clear a9 hg8;generalize w3.alloc _=w4 at *;have aA:=O.trans T;clear bE ag;go_upto_region 3 with (go_at_call 86;refine (zbe (HS.out _ aA)).mono ?_;rw [bA.out];rintro e f ⟨rfl,v⟩)
 have Y:=b4.ext (T.trans v);have aN:=b5.ext (T.trans v);have aQ:=b8.ext v;have aq:=ap.ext v;have Q:=aA.trans v;have bd:=(T.trans v).size;have bx:=b5.lt;have a6:=b8.lt;have be:w2.heap.size<=g8:=aj;have k4:=Y.cell 0;have z4:=Y.frozen 0;clear T v b4 b5 b8 ap O aA;go_upto_region 4 with fail
 clear k4 z4;have ad:=dX f 110 #[()];have a8:=(dB f).alloc (.cells #[()] 110);have bb:(f.alloc (.cells #[()] 110)).heap.size=f.heap.size+1:=sM;have L:=dX (f.alloc (.cells #[()] 110)) 4 #[.bool true];rw [bb] at L;have ay:=(dB (f.alloc (.cells #[()] 110))).alloc (.cells #[.bool true] 4);have bc:((f.alloc (.cells #[()] 110)).alloc (.cells #[.bool true] 4)).heap.size=f.heap.size+1+1:=sM;have az:=dX ((f.alloc (.cells #[()] 110)).alloc (.cells #[.bool true] 4)) 27 #[(0:Int),.slice (some f.heap.size) 1 1,.slice (some ⟨f.heap.size+1,0,none⟩) 1 1];rw [bc] at az;have ab:=(dB ((f.alloc (.cells #[()] 110)).alloc (.cells #[.bool true] 4))).alloc (.cells #[(0:Int),.slice (some f.heap.size) 1 1,.slice (some ⟨f.heap.size+1,0,none⟩) 1 1] 27);replace ad:=ad.ext (ay.trans ab);replace L:=L.ext ab;have hm:=a8.trans (ay.trans ab);have I:=Y.ext hm;have aO:=aN.ext hm;have aR:=aQ.ext hm;have ar:=aq.ext hm;have k4:=I.cell 0;have z4:=I.frozen 0;have af:=Q.trans hm;clear a8 ay ab hm bb bc Y aN aQ aq;go_upto_region 5 with fail
 have bt:w.heap.size<f.heap.size:=oH Q.size;generalize f.heap.size=V at *;generalize ((f.alloc _).alloc _).alloc _=w6 at *;have g:=Frm.setCell w6 w.heap.size 0 (.pointer (some ⟨V+1+1,0,none⟩));have aL:Blk (w6.setCell w.heap.size (.pointer (some ⟨V+1+1,0,none⟩))) w.heap.size 173 #[.pointer (some ⟨V+1+1,0,none⟩)]:=by simpa using I.ae 0 (.pointer (some ⟨V+1+1,0,none⟩))
 have aP:=aO.frm g oM;have aS:=aR.frm g oM;have am:=ad.frm g oM;have an:=L.frm g oM;have ao:=az.frm g oM;have aB:=af.frm g (fun k hk e=>oM);have au:PtAt (w6.setCell w.heap.size (.pointer (some ⟨V+1+1,0,none⟩))) lo hi A k w2.heap.size g8 M ss:=by
  obtain⟨bs,hr,bz⟩:=ar.mov;exact⟨HS.out _ aB,bs,hr.frm g (fun k Z h2 e=>oM),bz.frm g (fun b cs hB e=>by
   subst e;exact absurd rfl (hB.ne I dM))⟩
 clear ad L az I aO aR ar g k4 z4;generalize w6.setCell w.heap.size (.pointer (some ⟨V+1+1,0,none⟩))=f at *;obtain⟨ga,B,m1,d1,B',G,E,aC,ax,ai,aX,aT⟩:∃ (ga:Nat) (B:Option Addr) (m1 d1:Nat) (B':Option Addr) (G E aC ax:Nat),Blk f w.heap.size 173 #[.pointer (some ga)]∧Blk f ga 27 #[a.al,.slice B m1 d1,.slice B' G E]∧zH f aC ax B m1 B' G a:=by
  refine⟨V+1+1,some ⟨V,0,none⟩,1,1,some ⟨V+1,0,none⟩,1,1,V,V+2,aL,by rw [aw.out];exact ao,?_⟩;rw [aw.out];refine⟨⟨rfl,[.slice none 0 0],reads_blk am (Nat.le_refl _) oM,rfl,fun i row l hr hl=>?_⟩,rfl,reads_blk an oM oM⟩;cases i with
  |zero =>
   simp at hr;simp [free] at hl;subst hr;subst hl;exact⟨none,0,rfl,Reads.nil⟩
  |succ i=>simp at hr
 have aU:=za (fun W (hW:Ext f W)=>ai.ext hW);have aV:=za (fun W (hW:Ext f W)=>aP.ext hW);have bo:=za (fun W (hW:Ext f W)=>aS.ext hW);have a0:=za (fun W (hW:Ext f W)=>au.ext hW);have H:=za (fun W (hW:Ext f W)=>aX.ext hW);have aJ:=za (fun W (hW:Ext f W)=>aT.ext hW);have bg:=aB;clear aB af Q am an ao aL aP aS au aX aT ai bt a6 aj be bx bd
 go_cut [10,11] (fun v10 v11 wx=>∃ (g10 g11:Nat) (UA RA:Option Addr) (uc rc:Nat),v10=.pointer (some g10)∧v11=.pointer (some g11)∧Ext f wx∧Blk wx g10 148 #[.slice UA a.next.length uc]∧Blk wx g11 148 #[.slice RA p.next.length rc]∧TbO wx UA uc a∧TbO wx RA rc p)
 case first =>
  have c4:∀ W,Ext f W->W.cell? w.heap.size=some (.pointer (some ga)):=fun W hW=>by rw [(aU.out W hW).cell];rfl
  have ca:∀ W,Ext f W->∀ j,W.cell? ⟨ga,j,none⟩=#[Value.int .i64 a.al,.slice B m1 d1,.slice B' G E][j]?:=fun W hW=>(H.out W hW).cell;have c5:∀ W,Ext f W->∀ j,W.cell? ⟨w.heap.size+1,j,none⟩=#[Value.int .i64 p.al,.slice C m2 d2,.slice C' m2' d2'][j]?:=fun W hW=>(aV.out W hW).cell;have hTA:=za (fun W (hW:Ext f W)=>zcm (d:=d1) (d':=E) (aJ.out W hW) Hv.out);have hTP:=za (fun W (hW:Ext f W)=>zcm (d:=d2) (d':=d2') (HP.out W (bg.trans hW)) Hp.out);have R:=dB f;refine uR (fun X=>Ext f X) [5,8,9] (zw.app [0,4] (zw.three 1 (zw.app [2] (zw.three 3 (zw.three 5 (zw.two 6 (zw.of [7,8,9]) 7 (zw.of [6,8,9])) 6 (zw.two 5 (zw.of [7,8,9]) 7 (zw.of [5,8,9])) 7 (zw.two 5 (zw.of [6,8,9]) 6 (zw.of [5,8,9]))) 6 (zw.two 3 (zw.two 5 (zw.of [7,8,9]) 7 (zw.of [5,8,9])) 7 (zw.of [3,5,8,9])) 7 (zw.two 3 (zw.two 5 (zw.of [6,8,9]) 6 (zw.of [5,8,9])) 6 (zw.of [3,5,8,9])))) 6 (zw.two 1 (zw.app [2] (zw.two 3 (zw.two 5 (zw.of [7,8,9]) 7 (zw.of [5,8,9])) 7 (zw.of [3,5,8,9]))) 7 (zw.of [1,2,3,5,8,9])) 7 (zw.two 1 (zw.app [2] (zw.two 3 (zw.two 5 (zw.of [6,8,9]) 6 (zw.of [5,8,9])) 6 (zw.of [3,5,8,9]))) 6 (zw.of [1,2,3,5,8,9])))) ?_;refine uQ ?_;have hx0:Ext f f.drew:=R.drew;generalize f.drew=o at *;refine uQ ?_;refine zaK (fun K hK=>?_) (fun K hK=>?_) (fun K hK=>?_)
  ·go_simp;refine hK.out _ _ hx0 ?_;refine pT ?_;refine uQ ?_;refine zaK (fun K hK=>?_) (fun K hK=>?_) (fun K hK=>?_)
   ·go_simp;refine (hTA.out _ hx0).mono ?_;rintro e w20 ⟨UA,uc,rfl,hA,hx1⟩;replace hx0:=hx0.trans hx1;clear hx1;refine hK.out _ _ hx0 ?_;refine pT ?_;refine zaK (fun K hK=>?_) (fun K hK=>?_) (fun K hK=>?_)
    ·go_simp;refine (hTP.out _ hx0).mono ?_;rintro e w21 ⟨RA,rc,rfl,hP,hx1⟩;replace hx0:=hx0.trans hx1;replace hA:=hA.ext hx1;clear hx1;refine hK.out _ _ hx0 ?_;refine pT ?_;refine zm (fun K hK=>?_) (fun K hK=>?_)
     ·go_simp;have hGh10:=hx0.size;have hx1:=(dB w21).alloc (.cells #[()] 148);replace hx0:=hx0.trans hx1;replace hA:=hA.ext hx1;replace hP:=hP.ext hx1;clear hx1;refine hK.out _ _ hx0 ?_;refine pT ?_;generalize U0:w21.alloc _=w22 at *;have h10:=eA U0;clear U0;generalize w21.heap.size=g10 at *;exact yN09a5
     ·go_simp;have hGh11:=hx0.size;have hx1:=(dB w21).alloc (.cells #[()] 148);replace hx0:=hx0.trans hx1;replace hA:=hA.ext hx1;replace hP:=hP.ext hx1;clear hx1;refine hK.out _ _ hx0 ?_;refine pT ?_;generalize U0:w21.alloc _=w22 at *;have h11:=eA U0;clear U0;generalize w21.heap.size=g11 at *;exact yN09a6
    ·go_simp;have hGh10:=hx0.size;have hx1:=(dB w20).alloc (.cells #[()] 148);replace hx0:=hx0.trans hx1;replace hA:=hA.ext hx1;clear hx1;refine hK.out _ _ hx0 ?_;refine pT ?_;generalize U0:w20.alloc _=w21 at *;have h10:=eA U0;clear U0;generalize w20.heap.size=g10 at *;refine zm (fun K hK=>?_) (fun K hK=>?_)
     ·go_simp;refine (hTP.out _ hx0).mono ?_;rintro e w22 ⟨RA,rc,rfl,hP,hx1⟩;replace hx0:=hx0.trans hx1;replace h10:=h10.ext hx1;replace hA:=hA.ext hx1;clear hx1;refine hK.out _ _ hx0 ?_;refine pT ?_;exact yN09a5
     ·go_simp;have hne:=eS h10.lt;have hGh11:=hx0.size;have hx1:=(dB w21).alloc (.cells #[()] 148);replace hx0:=hx0.trans hx1;replace h10:=h10.ext hx1;replace hA:=hA.ext hx1;clear hx1;refine hK.out _ _ hx0 ?_;refine pT ?_;generalize U0:w21.alloc _=w22 at *;have h11:=eA U0;clear U0;generalize w21.heap.size=g11 at *;exact yN09a7
    ·go_simp;have hGh11:=hx0.size;have hx1:=(dB w20).alloc (.cells #[()] 148);replace hx0:=hx0.trans hx1;replace hA:=hA.ext hx1;clear hx1;refine hK.out _ _ hx0 ?_;refine pT ?_;generalize U0:w20.alloc _=w21 at *;have h11:=eA U0;clear U0;generalize w20.heap.size=g11 at *;refine zm (fun K hK=>?_) (fun K hK=>?_)
     ·go_simp;refine (hTP.out _ hx0).mono ?_;rintro e w22 ⟨RA,rc,rfl,hP,hx1⟩;replace hx0:=hx0.trans hx1;replace h11:=h11.ext hx1;replace hA:=hA.ext hx1;clear hx1;refine hK.out _ _ hx0 ?_;refine pT ?_;exact yN09a6
     ·go_simp;have hne:=eS h11.lt;have hGh10:=hx0.size;have hx1:=(dB w21).alloc (.cells #[()] 148);replace hx0:=hx0.trans hx1;replace h11:=h11.ext hx1;replace hA:=hA.ext hx1;clear hx1;refine hK.out _ _ hx0 ?_;refine pT ?_;generalize U0:w21.alloc _=w22 at *;have h10:=eA U0;clear U0;generalize w21.heap.size=g10 at *;exact yN09a7
   ·go_simp;have hGh10:=hx0.size;have hx1:=(dB o).alloc (.cells #[()] 148);replace hx0:=hx0.trans hx1;clear hx1;refine hK.out _ _ hx0 ?_;refine pT ?_;generalize U0:o.alloc _=w20 at *;have h10:=eA U0;clear U0;generalize o.heap.size=g10 at *;exact yN09a2
   ·go_simp;have hGh11:=hx0.size;have hx1:=(dB o).alloc (.cells #[()] 148);replace hx0:=hx0.trans hx1;clear hx1;refine hK.out _ _ hx0 ?_;refine pT ?_;generalize U0:o.alloc _=w20 at *;have h11:=eA U0;clear U0;generalize o.heap.size=g11 at *;exact yN09a1
  ·go_simp;have hGh10:=hx0.size;have hx1:=(dB o).alloc (.cells #[()] 148);replace hx0:=hx0.trans hx1;clear hx1;refine hK.out _ _ hx0 ?_;refine pT ?_;generalize U0:o.alloc _=w20 at *;have h10:=eA U0;clear U0;generalize o.heap.size=g10 at *;refine zm (fun K hK=>?_) (fun K hK=>?_)
   ·go_simp;refine hK.out _ _ hx0 ?_;refine pT ?_;refine uQ ?_;exact yN09a2
   ·go_simp;have hne:=eS h10.lt;have hGh11:=hx0.size;have hx1:=(dB w20).alloc (.cells #[()] 148);replace hx0:=hx0.trans hx1;replace h10:=h10.ext hx1;clear hx1;refine hK.out _ _ hx0 ?_;refine pT ?_;generalize U0:w20.alloc _=w21 at *;have h11:=eA U0;clear U0;generalize w20.heap.size=g11 at *;exact yN09a4
  ·go_simp;have hGh11:=hx0.size;have hx1:=(dB o).alloc (.cells #[()] 148);replace hx0:=hx0.trans hx1;clear hx1;refine hK.out _ _ hx0 ?_;refine pT ?_;generalize U0:o.alloc _=w20 at *;have h11:=eA U0;clear U0;generalize o.heap.size=g11 at *;refine zm (fun K hK=>?_) (fun K hK=>?_)
   ·go_simp;refine hK.out _ _ hx0 ?_;refine pT ?_;refine uQ ?_;exact yN09a1
   ·go_simp;have hne:=eS h11.lt;have hGh10:=hx0.size;have hx1:=(dB w20).alloc (.cells #[()] 148);replace hx0:=hx0.trans hx1;replace h11:=h11.ext hx1;clear hx1;refine hK.out _ _ hx0 ?_;refine pT ?_;generalize U0:w20.alloc _=w21 at *;have h10:=eA U0;clear U0;generalize w20.heap.size=g10 at *;exact yN09a4
 case rest =>
  obtain⟨g10,g11,UA,RA,uc,rc,rfl,rfl,t,h10,h11,hA,hP⟩:=hcut;have aY:=za (fun W (hW:Ext wc W)=>h10.ext hW);have aZ:=za (fun W (hW:Ext wc W)=>h11.ext hW);have af:=bg.trans t;go_upto_region 6 with fail
  go_cut [12,13] (fun v12 v13 wx=>∃ (g12 g13:Nat),v12=.pointer (some g12)∧v13=.pointer (some g13)∧Ext wc wx∧Blk wx g12 3 #[.int .i64 (a.next.length:Nat)]∧Blk wx g13 3 #[.int .i64 (p.next.length:Nat)])
  case first =>
   have bX:∀ W,Ext wc W->W.cell? g10=some (.slice UA a.next.length uc):=fun W hW=>by rw [(aY.out W hW).cell];rfl
   have bY:∀ W,Ext wc W->W.cell? g11=some (.slice RA p.next.length rc):=fun W hW=>by rw [(aZ.out W hW).cell];rfl
   have R:=dB wc;clear h10 h11 hA hP;refine uR (fun X=>Ext wc X) [7] (zw.app [0,1,2,3] (zw.two 4 (zw.of [5,6,7]) 5 (zw.of [4,6,7]))) ?_;refine uQ ?_;have hx0:Ext wc wc.drew:=R.drew;generalize wc.drew=o at *;refine uQ ?_;refine zm (fun K hK=>?_) (fun K hK=>?_)
   ·go_simp;have hGh12:=hx0.size;have hx1:=(dB o).alloc (.cells #[(0:Int)] 3);replace hx0:=hx0.trans hx1;clear hx1;refine hK.out _ _ hx0 ?_;refine pT ?_;generalize U0:o.alloc _=w20 at *;have h12:=eA U0;clear U0;generalize o.heap.size=g12 at *;refine zd fun K hK=>?_;go_simp;have hne:=eS h12.lt;have hGh13:=hx0.size;have hx1:=(dB w20).alloc (.cells #[(0:Int)] 3);replace hx0:=hx0.trans hx1;replace h12:=h12.ext hx1;clear hx1;refine hK.out _ _ hx0 ?_;refine pT ?_;generalize U0:w20.alloc _=w21 at *;have h13:=eA U0;clear U0;generalize w20.heap.size=g13 at *;exact yN09a8
   ·go_simp;have hGh13:=hx0.size;have hx1:=(dB o).alloc (.cells #[(0:Int)] 3);replace hx0:=hx0.trans hx1;clear hx1;refine hK.out _ _ hx0 ?_;refine pT ?_;generalize U0:o.alloc _=w20 at *;have h13:=eA U0;clear U0;generalize o.heap.size=g13 at *;refine zd fun K hK=>?_;go_simp;have hne:=eS h13.lt;have hGh12:=hx0.size;have hx1:=(dB w20).alloc (.cells #[(0:Int)] 3);replace hx0:=hx0.trans hx1;replace h13:=h13.ext hx1;clear hx1;refine hK.out _ _ hx0 ?_;refine pT ?_;generalize U0:w20.alloc _=w21 at *;have h12:=eA U0;clear U0;generalize w20.heap.size=g12 at *;exact yN09a8
  case rest =>
   obtain⟨g12,g13,rfl,rfl,r,h12,h13⟩:=hcut;rename World=>w7
   have hw9:=af.trans r;have hC:BCaps w7 g8 g10 g11 g12 g13 A M UA RA k c dm uc rc ss a p:=by
    obtain⟨bG,bu,bD⟩:=hA.at_;obtain⟨bH,bw,bC⟩:=hP.at_;exact⟨bo.out _ (t.trans r),h10.ext r,h11.ext r,h12,h13,⟨_,_,_,_,a0.out _ (t.trans r)⟩,⟨bG,bu,bD.ext r⟩,⟨bH,bw,bC.ext r⟩⟩
   have av:GCaps w7 w.heap.size ga (w.heap.size+1) g12 g13 a p:=⟨aU.out _ (t.trans r),⟨B,m1,d1,B',G,E,aC,ax,H.out _ (t.trans r),aJ.out _ (t.trans r)⟩,⟨C,m2,d2,C',m2',d2',lo2,hi2,aV.out _ (t.trans r),HP.out _ hw9⟩,h12,h13⟩;obtain⟨N,hN⟩:∃ N:Nat,Hid (zJ (zbf ss [a,p])=N):=⟨_,rfl⟩;obtain⟨⟨_,bK⟩,⟨_,bI⟩⟩:=And.intro (zl Hv.out).2.1 (zl Hp.out).2.1;obtain⟨⟨n1,_⟩,⟨bJ,_⟩⟩:=And.intro (zl Hv.out).2.1 (zl Hp.out).2.1;obtain⟨S,hS⟩:∃ S:Nat,Hid (zJ (ss.map zdA)=S):=⟨_,rfl⟩;have a1:1<=S∧S<=4096:=by
    rw [← hS.out];refine⟨zdr F.out,Nat.le_trans (zcK F.out) ?_⟩;have:=(HS.out w (dB _)).1
    calc 16 ^ ss.length<=16 ^ 3:=dV oM oM
     _=4096:=dM
   have aa:S*a.next.length*p.next.length=N:=by
    rw [← hN.out,← hS.out,show zbf ss [a,p]=ss.map zdA++[zbW a,zbW p] from rfl,zbI];simp [zJ,zax,zbW,Nat.mul_assoc]
   have a2:S*a.next.length<=4096*12:=Nat.mul_le_mul a1.2 bK;have bQ:N<=4096*12*12:=by rw [← aa];exact Nat.mul_le_mul a2 bI
   have b3:1<=N:=by rw [← aa];exact Nat.mul_pos (Nat.mul_pos a1.1 n1) bJ
   obtain⟨sn,bf⟩:∃ z:Nat,Hid (S*a.next.length=z):=⟨_,rfl⟩;rw [bf.out] at aa a2;have bT:(S:Int)*(a.next.length:Int)=(sn:Int):=by rw [← bf.out];exact (fJ S _).symm
   have b6:(sn:Int)*(p.next.length:Int)=(N:Int):=by rw [← aa];exact (fJ sn _).symm
   have Hd:=za (show ∀ x l,x<N->l<6->∀ y∈zbX ss a p x l,y<N from fun x l _ hl y hy=>by
    rw [zdm] at hy;rw [← hN.out];refine zic (fun mm hmm=>?_) hl y hy;rcases List.mem_append.1 hmm with Z|Z
    ·obtain⟨s,bB,rfl⟩:=List.mem_map.1 Z;exact zeO (F.out s bB)
    ·obtain⟨b,a4,rfl⟩:=List.mem_map.1 Z;simp at a4;rcases a4 with rfl|rfl
     ·exact zbN Hv.out
     ·exact zbN Hp.out)
   have bl:=za (show ∀ x l,(zbX ss a p x l).length<=4096 from fun x l=>by
    unfold zbX;rw [List.length_map];refine Nat.le_trans (nx_len F.out _ l) ?_;have:=(HS.out w (dB _)).1
    calc 16 ^ ss.length<=16 ^ 3:=dV oM oM
     _=4096:=by decide)
   have u:=za (zfU (U|||al));have key:=za (fun W (hW:Ext w7 W) A1 c1 AL q' cL (hA1:zav W A1 1 [0]) (hL:zav W AL q' (letters (U|||al) 6))=>zfe (w:=W) (N:=N) (kn:=173) (kg:=174) (m:=1) (c:=c1) (cL:=cL)
    (capn:=#[.pointer (some g10),.pointer (some g13),.pointer (some g12),.pointer (some g11),.pointer (some g8)])
    (capg:=#[.pointer (some w.heap.size),.pointer (some g13),.pointer (some g12),.pointer (some ⟨w.heap.size+1,0,none⟩)])
    (goal:=zcj a p) (d:=zbX ss a p) (D:=4096) hA1 (fun n hn=>by simp at hn;omega) oM hL u.out oM oM (fun args W=>kM) (fun args W=>kM)
    (fun W' hW' n hn=>brk_goal (av.ext (hW.trans hW')) Hv.out Hp.out oM)
    (fun n l hn hl=>⟨bl.out n l,Hd.out n l hn (u.out.1 l hl)⟩)
    (fun W' hW' n l hn hl base A m c xs hb0 hb hm zje=>brk_next (hC.ext hW) (HT.out _ (hw9.trans hW)) hW' F.out a7 Hv.out Hp.out (by rw [hN.out];exact hn) (u.out.1 l hl) hb0 hb hm zje))
   have hSZ:=za (show ∀ W,Ext w7 W->Calls Tryz.prog 176 #[.agg #[.slice A k c,.slice M k dm]] W fun e w'=>e=.returned (.int .i64 (S:Nat))∧Ext W w' from fun W hW=>by
    have:=zib (c:=c) (dm:=dm) (a0.out W ((t.trans r).trans hW)) F.out a7;rw [hS.out] at this;exact this)
   have hLT:=za (fun W=>zbv (U|||al) (by have:=eO (n:=6) (x:=U) (y:=al) oM oM;unfold Sm;omega) W);have b9:bits .or .i64 (U:Int) (al:Int)=((U|||al:Nat):Int):=zbE tM tM;have c8:=fun W (hW:Ext w7 W)=>(hC.h8.ext hW).cell;have bZ:∀ W,Ext w7 W->W.cell? g12=some (.int .i64 (a.next.length:Nat)):=fun W hW=>by rw [(hC.h12.ext hW).cell];rfl
   have b0:∀ W,Ext w7 W->W.cell? g13=some (.int .i64 (p.next.length:Nat)):=fun W hW=>by rw [(hC.h13.ext hW).cell];rfl
   have c4:∀ W,Ext w7 W->W.cell? w.heap.size=some (.pointer (some ga)):=fun W hW=>by rw [(av.h4.ext hW).cell];rfl
   have ca:∀ W,Ext w7 W->∀ j,W.cell? ⟨ga,j,none⟩=#[Value.int .i64 (al:Nat),.slice B m1 d1,.slice B' G E][j]?:=fun W hW=>by
    have:=(H.out W ((t.trans r).trans hW)).cell;rw [J.out] at this;exact this
   have cb:IntKind.i64.wrap (sn:Int)=(sn:Int):=zgp sn oM;have O:IntKind.i64.wrap (N:Int)=(N:Int):=zgp N oM;have R:=dB w7;clear hC av h10 h11 h12 h13 hA hP;go_upto_region 9 with fail
   refine uR (fun X=>Ext w7 X) [16] (zw.app [0,2,4,7,8,14,15] (zw.three 1 (zw.app [3,5] (zw.two 6 (zw.of [9,10,11,12,13,16,17,18,19,20]) 9 (zw.app [10,11,12] (zw.two 6 (zw.of [13,16,17,18,19,20]) 13 (zw.of [6,16,17,18,19,20]))))) 6 (zw.two 1 (zw.of [3,5,9,10,11,12,13,16,17,18,19,20]) 9 (zw.of [10,11,12,1,3,5,13,16,17,18,19,20])) 9 (zw.app [10,11,12] (zw.two 1 (zw.app [3,5] (zw.two 6 (zw.of [13,16,17,18,19,20]) 13 (zw.of [6,16,17,18,19,20]))) 6 (zw.of [1,3,5,13,16,17,18,19,20]))))) ?_;refine uQ ?_;have hx0:Ext w7 w7.drew:=R.drew;generalize w7.drew=o at *;refine uQ ?_;refine zaK (fun K hK=>?_) (fun K hK=>?_) (fun K hK=>?_)
   ·go_simp;refine (hSZ.out _ hx0).mono (mQ fun w20 hx1=>?_);replace hx0:=hx0.trans hx1;clear hx1;refine hK.out _ _ hx0 ?_;refine pT ?_;refine uQ ?_;refine zm (fun K hK=>?_) (fun K hK=>?_)
    ·go_simp;have hI:=zcJ (x:=0) (dX w20 3 #[.int .i64 ((0:Nat):Int)]);have hx1:=(dB w20).alloc (.cells #[.int .i64 ((0:Nat):Int)] 3);replace hx0:=hx0.trans hx1;clear hx1;refine hK.out _ _ hx0 ?_;refine pT ?_;generalize w20.alloc _=w21 at *;generalize w20.heap.size=g1 at *;exact yN09a10
    ·go_simp;exact yN09a3
   ·go_simp;have hI:=zcJ (x:=0) (dX o 3 #[.int .i64 ((0:Nat):Int)]);have hx1:=(dB o).alloc (.cells #[.int .i64 ((0:Nat):Int)] 3);replace hx0:=hx0.trans hx1;clear hx1;refine hK.out _ _ hx0 ?_;refine pT ?_;generalize o.alloc _=w20 at *;generalize o.heap.size=g1 at *;refine zm (fun K hK=>?_) (fun K hK=>?_)
    ·go_simp;refine (hSZ.out _ hx0).mono (mQ fun w21 hx1=>?_);replace hx0:=hx0.trans hx1;replace hI:=hI.ext hx1;clear hx1;refine hK.out _ _ hx0 ?_;refine pT ?_;refine uQ ?_;exact yN09a10
    ·go_simp;refine hK.out _ _ hx0 ?_;refine pT ?_;refine uQ ?_;exact yN09a9
   ·go_simp;refine hK.out _ _ hx0 ?_;refine pT ?_;refine uQ ?_;refine zm (fun K hK=>?_) (fun K hK=>?_)
    ·go_simp;refine (hSZ.out _ hx0).mono (mQ fun w20 hx1=>?_);replace hx0:=hx0.trans hx1;clear hx1;exact yN09a3
    ·go_simp;have hI:=zcJ (x:=0) (dX o 3 #[.int .i64 ((0:Nat):Int)]);have hx1:=(dB o).alloc (.cells #[.int .i64 ((0:Nat):Int)] 3);replace hx0:=hx0.trans hx1;clear hx1;refine hK.out _ _ hx0 ?_;refine pT ?_;generalize o.alloc _=w20 at *;generalize o.heap.size=g1 at *;exact yN09a9
end Go.Proofs.YtckbjnndaaoddaaGreatDoor
