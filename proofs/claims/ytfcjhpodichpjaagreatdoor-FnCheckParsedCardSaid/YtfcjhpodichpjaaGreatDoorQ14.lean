/- The referenc -/
import Derived.Test.YtfcjhpodichpjaaGreatDoorQ13
set_option maxHeartbeats 4000000
set_option maxRecDepth 100000
namespace Go.Proofs.YtfcjhpodichpjaaGreatDoor
open Go Go.RowKit
open Blk renaming new->dT
open Bool renaming and_eq_true->dF
open Ext renaming al_->iI,bl_->dW,eq_->fQ,refl->cW,x2_->gI
open Frm renaming setCell->dE
open Int renaming natCast_add->iN,toNat_natCast->eM
open List renaming length_cons->eI
open Nat renaming le_refl->cY,le_trans->dJ,mul_le_mul->eK,pow_le_pow_right->dV,zero_le->dD
open Reads renaming af->dY
variable {A A' C:Option Addr} {G K L Z base c c' g hi j lo n n':Nat} {W w w0:World} {a p:Aut} {cd ro:Int} {cols rows:List ByteArray} {cs:Array Value} {e:Ending} {f:ByteArray->Bool} {s t:Sys} {ss:List Sys} {u v:Value} {x:ByteArray}
theorem zgm {e:TypeId} {size:Nat}  {xs:List Value}(h:w.ownsRow base e size (.slice A n c) n xs):n<=c:=by
 rcases h.2 with ⟨a,f⟩|⟨g,b,d,a,_,_,i,_⟩
 ·omega
 ·injection a with _ _ h3;omega
theorem splitT_size {y:ByteArray}(h:zen L f rows cols x=some y):y.size<=4000:=by
 unfold zen at h
 split at h
 ·rename_i hc;have a:=hc.1;simp only [dF,decide_eq_true_eq] at a;obtain⟨k,-,rfl⟩:=Option.map_eq_some_iff.1 h;rw [ByteArray.size_extract];omega
 ·cases h
theorem ziW (hx:Ext w W)(hb:Blk W Z 205 #[u,v])(hZ:w.heap.size<=Z) :
  Hid (zcl w none (.returned (.tuple #[.agg #[(),()],.bool false])) ((W.setCell Z ()).setCell ⟨Z,1,none⟩ ())) ∧
  Blk ((W.setCell Z ()).setCell ⟨Z,1,none⟩ ()) Z 205 #[.slice none 0 0,.slice none 0 0]:=
 ⟨za ⟨(hx.setCell (p:=⟨Z,0,none⟩) hZ _).setCell (p:=⟨Z,1,none⟩) hZ _,.inl ⟨rfl,rfl⟩⟩,by simpa using (hb.ab 0 (.slice none 0 0)).ab 1 (.slice none 0 0)⟩
theorem tab_some {w1:World} {nr nc cr cc:Nat} {R:Option Addr} {rs cs:List ByteArray} {o:Option (List ByteArray × List ByteArray)} (hx:Ext w W)(hb:Blk W Z 205 #[u,v])(hZ:w.heap.size<=Z)(ho:o=some (rs,cs))(hw:w.heap.size<=w1.heap.size)
  (hR:W.ownsRow w1.heap.size 9 1 (.slice R nr cr) nr (zM rs)) (hC:W.ownsRow w1.heap.size 9 1 (.slice C nc cc) nc (zM cs)) :
  Hid (zcl w o (.returned (.tuple #[.agg #[.slice R nr cr,.slice C nc cc],.bool true])) ((W.setCell Z (.slice R nr cr)).setCell ⟨Z,1,none⟩ (.slice C nc cc))) ∧
  Blk ((W.setCell Z (.slice R nr cr)).setCell ⟨Z,1,none⟩ (.slice C nc cc)) Z 205 #[.slice R nr cr,.slice C nc cc]:=by
 have a:Frm (fun k=>k=Z) W ((W.setCell Z (.slice R nr cr)).setCell ⟨Z,1,none⟩ (.slice C nc cc)):=(dE W _ 0 _).trans (dE _ _ 1 _);exact⟨za ⟨(hx.setCell (p:=⟨Z,0,none⟩) hZ _).setCell (p:=⟨Z,1,none⟩) hZ _,.inr ⟨rs,cs,nr,nc,R,cr,C,cc,ho,rfl,zn (zf hR a (fun b hv e=>zq hR hb dM hv e)) hw,zn (zf hC a (fun b hv e=>zq hC hb dM hv e)) hw⟩⟩,by simpa using (hb.ab 0 (.slice R nr cr)).ab 1 (.slice C nc cc)⟩
section
variable {w W:World} {n c m d m' d' L:Nat} {A B B':Option Addr} {s:Sys} {p:Aut} {nr nc cr cc:Nat} {R C:Option Addr} {rows cols:List ByteArray}
theorem yQ14a5 {P:Prop}(h:P:=by
 go_wp2_with fail
 exact bodyPost_ret (v:=.tuple #[.agg #[(),()],.bool false]) (by simp [results,Tryz.results195,go_sem,cf]) rfl hret.out
 ):P:=h
theorem zhB (h:Tch w A n B m B' m' s p L)(hT:TabAt w R nr C nc rows cols)(hI:zdv L (zy s p L) rows cols)(hcr:nr<=cr)(hcc:nc<=cc)(hcl:zbK L (zy s p L) rows cols=none)(hx:x.size<=9223372036854775807) :
  Calls Tryz.prog 195 #[.agg #[.bool false,(0:Int),(),(),s.al,s.st,.slice A n c,p.al,.slice B m d,.slice B' m' d',L],.agg #[.slice R nr cr,.slice C nc cc],x] w (zcl w (zfa L (zy s p L) rows cols x)):=by
 have k:=za (fun W (hW:Ext w W)=>zhD (c:=c) (d:=d) (d':=d') (cr:=cr) (cc:=cc) (x:=x) (h.ext hW) (hT.ext hW) hI hcr hcc hcl hx);have q:=za (fun (y:ByteArray) W (hW:Ext w W) hy=>zhy (c:=c) (d:=d) (d':=d') (cr:=cr) (cc:=cc) (x:=y) (h.ext hW) (hT.ext hW) hI hcr hcc hy);have O:=za (fun (R:Option Addr) (nr cr:Nat) (C:Option Addr) (nc cc:Nat) (rows cols:List ByteArray) W (hW:Ext w W) hT hI (hcr:nr<=cr) (hcc:nc<=cc)=>zdH (c:=c) (d:=d) (d':=d') (nr:=nr) (nc:=nc) (R:=R) (C:=C) (cr:=cr) (cc:=cc) (rows:=rows) (cols:=cols) (h.ext hW) hT hI hcr hcc);have HI:=za (fun col (ha:zhu L cols col=true)=>hI.addC ha);have b:=za (show zfa L (zy s p L) rows cols x=match zen L (zy s p L) rows cols x with
  |none=>none
  |some col=>if zhu L cols col=true then (zaY L (zy s p L) (cols++[col]) (12 - rows.length) rows).map fun r=>(r,cols++[col]) else none from rfl)
 have T:=za (fun y (hy:zen L (zy s p L) rows cols x=some y)=>splitT_size hy);generalize zfa L (zy s p L) rows cols x=o at *;have hx0:Ext w (((w.alloc (.cells #[.bool false,(0:Int),(),(),s.al,s.st,.slice A n c,p.al,.slice B m d,.slice B' m' d',L] 203)).alloc (.cells #[.slice R nr cr,.slice C nc cc] 205)).alloc (.cells #[(),()] 205)):=(((cW _).alloc _).alloc _).alloc _;obtain⟨b1,U,I⟩:=zN (cW (((w.alloc (.cells #[.bool false,(0:Int),(),(),s.al,s.st,.slice A n c,p.al,.slice B m d,.slice B' m' d',L] 203)).alloc (.cells #[.slice R nr cr,.slice C nc cc] 205)).alloc (.cells #[(),()] 205)));clear h hT hI hcl;cases hop:zen L (zy s p L) rows cols x with
 |none =>
  rw [hop] at k b;have f:=za (show o=none from b.out);rw [f.out];clear b f hop
  go_enter Tryz.func195,Tryz.ntmps195
  go_upto_region 1 with fail
  generalize ((w.alloc _).alloc _).alloc _=H at *;have M:=b1.cells;have CT:=U.cells;have hww:=cW H;go_upto_region 2 with (first
   |(go_at_call 234;refine (k.out _ hx0).mono (mQ fun w1 hx1=>?_)))
  have bz:=I.ext hx1;have Z:=bz.cell;have Y:=bz.frozen;obtain⟨hret,hb⟩:=ziW (hx0.trans hx1) bz oM;have cf:=hb.cell;go_wp2_with fail
  exact bodyPost_ret (v:=.tuple #[.agg #[(),()],.bool false]) (by simp [results,Tryz.results195,go_sem,cf]) rfl hret.out
 |some col =>
  have aw:=T.out col hop;rw [hop] at k b;cases hok:zhu L cols col
  ·have f:=za (show o=none by rw [b.out];simp [hok]);have j:=za (fun W (hW:Ext w W)=>q.out col W hW oM);rw [hok,if_neg dM] at j;rw [f.out];clear b f hop hok
   go_enter Tryz.func195,Tryz.ntmps195
   go_upto_region 1 with fail
   generalize ((w.alloc _).alloc _).alloc _=H at *;have M:=b1.cells;have CT:=U.cells;have hww:=cW H;go_upto_region 5 with (first
    |(go_at_call 234;refine (k.out _ hx0).mono (mQ fun w1 hx1=>?_))
    |(go_at_call 235;refine (j.out _ (hx0.trans hx1)).mono ?_;rintro e w2 ⟨hx2,⟨-,rfl⟩|⟨_,_,_,_,_,_,_,_,l,_⟩⟩;rotate_left;exact absurd l sM;have g:=hx1.trans hx2))
   generalize U0:w2.alloc _=J at *;have i:=iI U0;clear U0;have bz:=I.ext (g.trans i);have Z:=bz.cell;have Y:=bz.frozen;obtain⟨hret,hb⟩:=ziW ((hx0.trans g).trans i) bz oM;have cf:=hb.cell;exact yQ14a5
  ·have f:=za (show o=(zaY L (zy s p L) (cols++[col]) (12 - rows.length) rows).map fun r=>(r,cols++[col]) by rw [b.out];simp [hok]);have j:=za (fun W (hW:Ext w W)=>q.out col W hW oM);rw [hok,if_pos rfl] at j;have Q:=za (HI.out col hok);clear b hop hok
   go_enter Tryz.func195,Tryz.ntmps195
   go_upto_region 1 with fail
   generalize ((w.alloc _).alloc _).alloc _=H at *;have M:=b1.cells;have CT:=U.cells;have hww:=cW H;go_upto_region 5 with (first
    |(go_at_call 234;refine (k.out _ hx0).mono (mQ fun w1 hx1=>?_))
    |(go_at_call 235;refine (j.out _ (hx0.trans hx1)).mono ?_;rintro e w2 ⟨hx2,⟨l,_⟩|⟨rs,cs,ad,aa,R2,au,C2,ar,l,rfl,F,D⟩⟩;exact absurd l sM;have g:=hx1.trans hx2;obtain⟨rfl,rfl⟩:=Prod.mk.inj (Option.some.inj l)))
   have u:=zgm F;have t:=zgm D;generalize U0:w2.alloc _=J at *;have bt:=dW U0;have i:=iI U0;have G:=zg F i;have E:=zg D i;clear U0;have a:=g.trans i;have S:=za (show TabAt J R2 ad C2 aa rows (cols++[col]) from ⟨_,_,_,_,dY G,dY E⟩);have am:=fun W (hW:Ext J W)=>M W (a.trans hW);have k2:=bt.cell;have ag:=cW J;clear F D G E;go_wp2_with fail
   refine (O.out _ _ _ _ _ _ rows (cols++[col]) _ (hx0.trans a) S.out Q.out u t).mono ?_;rintro e w4 ⟨hx4,⟨l,rfl⟩|⟨rs,cs,ae,ab,R3,X,C3,V,l,rfl,F,D⟩⟩
   ·have bz:=I.ext (a.trans hx4);have Z:=bz.cell;have Y:=bz.frozen;obtain⟨hret,hb⟩:=ziW ((hx0.trans a).trans hx4) bz oM;have z:=za (f.out.trans l);rw [← z.out] at hret;have cf:=hb.cell;clear k2 l;exact yQ14a5
   ·have bz:=I.ext (a.trans hx4);have Z:=bz.cell;have Y:=bz.frozen;obtain⟨hret,hb⟩:=tab_some ((hx0.trans a).trans hx4) bz oM (f.out.trans l) (hx0.trans a).size F D;have cf:=hb.cell;clear k2 l;go_wp2_with fail
    exact bodyPost_ret (v:=.tuple #[.agg #[.slice R3 ae X,.slice C3 ab V],.bool true]) (by simp [results,Tryz.results195,go_sem,cf]) rfl hret.out
end
theorem tot_le6:∀ ls:List (List Int),(∀ l∈ls,l.length<=6)->tot ls<=ls.length*6
 |[],_=>by simp [tot]
 |l :: r,h=>by
  have:=tot_le6 r (fun x hx=>h x (by simp [hx]))
  have:=h l sM
  rw [show tot (l :: r)=l.length+tot r by simp [tot],eI,Nat.add_mul]
  omega
theorem zda (h:zh a=true):a.size<=1048576:=by
 obtain⟨_,⟨_,f⟩,g,b⟩:=zk h;have i:=tot_le6 a.next (fun l hl=>by
  obtain⟨q,d⟩:=List.getElem?_of_mem hl;obtain⟨c,_⟩:=b q l d;rw [c];exact zB _ _)
 unfold Aut.size;omega
def RetTask (w:World) (s:Sys) (p:Aut) (L:Nat) (e:Ending) (w':World):Prop:=
 ∃ (A:Option Addr) (n c:Nat) (B:Option Addr) (m d:Nat) (B':Option Addr) (m' d':Nat),e=.returned (.tuple #[.agg #[s.al,s.st,.slice A n c,p.al,.slice B m d,.slice B' m' d',L],.bool true])∧Tch w' A n B m B' m' s p L∧Ext w w'
section
variable {w:World} {lo hi n c lo1 hi1 m d m' d' lo2 hi2 k c2:Nat} {A B B' C:Option Addr} {s t:Sys} {p:Aut}
theorem spec_TaskOf (hs:zR w lo hi A n s)(hp:zI w lo1 hi1 B m B' m' p)(ht:zR w lo2 hi2 C k t)(hif:iface s p t=(L:Int))(hn:n<=1000000)(hhi:hi<=w.heap.size) :
  Calls Tryz.prog 191 #[.agg #[s.al,s.st,.slice A n c],.agg #[p.al,.slice B m d,.slice B' m' d'],.agg #[t.al,t.st,.slice C k c2]] w (RetTask w s p L):=by
 obtain⟨E,T,vt⟩:=zeV (show 0<=iface s p t by omega);have hL:L<64:=by
  rw [iface_nat E T vt] at hif;have h1:=zQ vt;have Y:((s.al.toNat|||p.al.toNat)&&&t.al.toNat)<=t.al.toNat:=Nat.and_le_right;omega
 have z:=za (fun W (hW:Ext w W)=>zaZ (c:=c) (d1:=d) (d1':=d') (c2:=c2) (hs.ext hW) (hp.ext hW) (ht.ext hW));rw [hif] at z;obtain⟨P,S⟩:∃ P:Nat,s.st=(P:Int):=⟨s.st.toNat,by have:=(zcR E).1;omega⟩;have I:P<=16:=by have:=(zcR E).2.1;omega
 have HK:=za (fun W (hW:Ext w W)=>spec_l2Keep (c:=c) (hs.ext hW) E S hn (dJ hhi hW.size));have HC:=za (fun W (hW:Ext w W)=>zan (c:=d) (c':=d') (hp.ext hW) (zda T));have hF:1<=2 ^ P∧2 ^ P<=65536:=⟨Nat.one_le_two_pow,by have:=dV (show 1<=2 by omega) I;have Y:(2:Nat) ^ 16=65536:=rfl;omega⟩;have G:=za (fun W=>zfB P oM W);have H:=za S;have Z:=za (And.intro E (And.intro T hL));rw [S] at z HK ⊢;generalize hFe:2 ^ P=F at *;have ai:IntKind.i64.wrap ((F:Int) - 1)=((F - 1:Nat):Int):=by rw [IntWalk.i64_in _ oM];omega
 clear hFe hs hp ht hif E T vt S;obtain⟨R,U0⟩:∃ x,Hid ((((w.alloc (.cells #[s.al,.int .i64 (P:Nat),.slice A n c] 39)).alloc (.cells #[p.al,.slice B m d,.slice B' m' d'] 26)).alloc (.cells #[t.al,t.st,.slice C k c2] 39)).alloc (.cells #[(0:Int),(0:Int),(),(0:Int),(),(),(0:Int)] 199)=x):=⟨_,za rfl⟩;have hx0:Ext w R:=(((((cW _).alloc _).alloc _).alloc _).alloc _).trans (fQ U0.out);obtain⟨b1,b2,b3⟩:=zN (((cW _).alloc _).trans (fQ U0.out));have V:=dW U0.out;simp only [World.size_alloc] at V
 go_enter Tryz.func191,Tryz.ntmps191
 go_upto_region 1 with fail
 rw [U0.out] at *;have CS:=b1.cells;have CP:=b2.cells;have CT:=b3.cells;have hww:=cW R;go_upto_region 4 with (first
  |(go_at_call 45;refine (z.out _ hx0).mono (mQ fun U a=>?_)))
 have hx1:=hx0.trans a;have am:=fun W (hW:Ext U W)=>CS W (a.trans hW);have ak:=fun W (hW:Ext U W)=>CP W (a.trans hW);have aa:=cW U;clear CS CP CT hww;refine uR (fun X=>Ext U X) [10] (zw.of [0,1,2,6,8,3,4,5,7,9,10,11]) ?_;refine uQ ?_;have q:=aa.drew;refine zd fun K hK=>?_;go_simp;refine (G.out _).mono ?_;rintro e w' ⟨rfl,rfl⟩;refine hK.out _ _ q ?_;refine pT ?_;refine uQ ?_;refine zd fun K hK=>?_;go_simp;refine (HK.out _ (hx1.trans q)).mono ?_;rintro e w2 ⟨j,l,c1,rfl,M,hx2⟩;rw [H.out];have g:=q.trans hx2;refine hK.out _ _ g ?_;refine pT ?_;refine uQ ?_;refine zd fun K hK=>?_;go_simp;refine (HC.out _ (hx1.trans g)).mono ?_;rintro e h ⟨o,r,d1,b,f,d1',rfl,O,Q⟩;have i:=g.trans Q;refine hK.out _ _ i ?_;refine pT ?_;refine uQ ?_;have hxw:=hx1.trans i;have bz:=V.ext (a.trans i);have kz:=bz.cell;have fz:=bz.frozen;have D:=M.ext Q;have av:=V.lt;have y:zR h R.heap.size h.heap.size j l s:=(show zR h _ h.heap.size j l s from ⟨D.1,dY D.2⟩).more (a.trans q).size (cY _);have u:zI h R.heap.size h.heap.size o r b f p:=O.reads.more (a.trans g).size (cY _);have aj:=hx0.size;have J:Frm (fun k=>k=w.heap.size+1+1+1) h (((((((h.setCell ⟨w.heap.size+1+1+1,0,none⟩ s.al).setCell ⟨w.heap.size+1+1+1,1,none⟩ (.int .i64 (P:Nat))).setCell ⟨w.heap.size+1+1+1,2,none⟩ (.slice j l c1)).setCell ⟨w.heap.size+1+1+1,3,none⟩ p.al).setCell ⟨w.heap.size+1+1+1,4,none⟩ (.slice o r d1)).setCell ⟨w.heap.size+1+1+1,5,none⟩ (.slice b f d1')).setCell ⟨w.heap.size+1+1+1,6,none⟩ (.int .i64 (L:Nat))):=
  ((((((dE h _ 0 _).trans (dE _ _ 1 _)).trans (dE _ _ 2 _)).trans (dE _ _ 3 _)).trans (dE _ _ 4 _)).trans (dE _ _ 5 _)).trans (dE _ _ 6 _)
 have bW:Blk (((((((h.setCell ⟨w.heap.size+1+1+1,0,none⟩ s.al).setCell ⟨w.heap.size+1+1+1,1,none⟩ (.int .i64 (P:Nat))).setCell ⟨w.heap.size+1+1+1,2,none⟩ (.slice j l c1)).setCell ⟨w.heap.size+1+1+1,3,none⟩ p.al).setCell ⟨w.heap.size+1+1+1,4,none⟩ (.slice o r d1)).setCell ⟨w.heap.size+1+1+1,5,none⟩ (.slice b f d1')).setCell ⟨w.heap.size+1+1+1,6,none⟩ (.int .i64 (L:Nat))) (w.heap.size+1+1+1) 199 #[.int .i64 s.al,.int .i64 (P:Nat),.slice j l c1,.int .i64 p.al,.slice o r d1,.slice b f d1',.int .i64 (L:Nat)]:=by
  simpa using ((((((bz.ab 0 (.int .i64 s.al)).ab 1 (.int .i64 (P:Nat))).ab 2 (.slice j l c1)).ab 3 (.int .i64 p.al)).ab 4 (.slice o r d1)).ab 5 (.slice b f d1')).ab 6 (.int .i64 (L:Nat))
 refine zb fun K hK=>?_;go_simp;generalize (((((((h.setCell ⟨w.heap.size+1+1+1,0,none⟩ s.al).setCell ⟨w.heap.size+1+1+1,1,none⟩ (.int .i64 (P:Nat))).setCell ⟨w.heap.size+1+1+1,2,none⟩ (.slice j l c1)).setCell ⟨w.heap.size+1+1+1,3,none⟩ p.al).setCell ⟨w.heap.size+1+1+1,4,none⟩ (.slice o r d1)).setCell ⟨w.heap.size+1+1+1,5,none⟩ (.slice b f d1')).setCell ⟨w.heap.size+1+1+1,6,none⟩ (.int .i64 (L:Nat)))=W at *;have hret:=za (show RetTask w s p L (.returned (.tuple #[.agg #[s.al,.int .i64 (P:Nat),.slice j l c1,p.al,.slice o r d1,.slice b f d1',.int .i64 (L:Nat)],.bool true])) W from
  ⟨j,l,c1,o,r,d1,b,f,d1',by rw [H.out],⟨⟨R.heap.size,h.heap.size,y.frm J (fun k h1 Y e=>oM),u.frm J (fun k h1 Y e=>oM),J.size⟩,Z.out.1,Z.out.2.1,Z.out.2.2⟩,hxw.frm J (fun k hk e=>oM)⟩)
 have cf:=bW.cell;clear J bW y u kz fz bz D M O hxw;refine hK.out _ _ ?_;clear hK;refine pT ?_;refine uQ ?_;refine ze ?_;go_wp2_with fail
 exact bodyPost_ret (v:=.tuple #[.agg #[s.al,.int .i64 (P:Nat),.slice j l c1,p.al,.slice o r d1,.slice b f d1',.int .i64 (L:Nat)],.bool true]) (by simp [results,Tryz.results191,go_sem,cf]) rfl hret.out
end
section
variable {d:Nat->Nat->List Nat} {start L:List Nat} {goal:Nat->Bool} {N:Nat}
theorem zhx (h:¬ Lost d start goal L):∃ v,Found d start goal L v:=by
 have j:∃ v,(∀ l∈v,l∈L)∧∃ x,zcW d start v x∧goal x=true:=by
  apply Classical.byContradiction;intro hn;apply h;intro v b x c;cases hg:goal x with
  |false=>rfl
  |true=>exact absurd ⟨v,b,x,c,hg⟩ hn
 have i:∀ n v,zcr v=n->(∀ l∈v,l∈L)->(∃ x,zcW d start v x∧goal x=true)->∃ v,Found d start goal L v:=by
  intro n
  induction n using Nat.strongRecOn with
  |ind n ih =>
   intro v hn b c
   by_cases hm:∃ u,(∀ l∈u,l∈L)∧zcr u<zcr v∧∃ x,zcW d start u x∧goal x=true
   ·obtain⟨u,f,a,g⟩:=hm;exact ih (zcr u) oM u rfl f g
   ·refine⟨v,b,c,fun u f a x hgx=>?_⟩;cases hg:goal x with
    |false=>rfl
    |true=>exact absurd ⟨u,f,a,x,hgx,hg⟩ hm
 obtain⟨v,b,c⟩:=j;exact i _ v rfl b c
theorem found_len {v:List Nat}(h:Found d [0] goal L v)(h6:∀ l∈L,l<6)(hN:0<N)(hd:∀ x l,x<N->l∈L->∀ y∈d x l,y<N):v.length<N:=by
 obtain⟨q,⟨x,E,t⟩,b⟩:=h;obtain⟨G,r,i⟩:=zcW.dn (L:=L) (v:=[]) (u:=v) (goal:=goal) (by simpa using E) t q;have hx0:G=0:=by have:=r.aj;simpa using this
 subst hx0;have j:∃ n,Mn d L goal n 0∧n<=v.length:=by
  have p:∀ n,Dn d L goal n 0->∃ m,Mn d L goal m 0∧m<=n:=by
   intro n
   induction n using Nat.strongRecOn with
   |ind n ih =>
    intro g
    by_cases f:∃ m,m<n∧Dn d L goal m 0
    ·obtain⟨m,a,f⟩:=f;obtain⟨k,s,H⟩:=ih m a f;exact⟨k,s,oM⟩
    ·exact⟨n,⟨g,fun m a hm'=>f ⟨m,a,hm'⟩⟩,cY _⟩
  exact p _ i
 obtain⟨n,g,-⟩:=j;have C:=g.lt hN hd;obtain⟨u,D,c,y,F,o⟩:=Dn.word (v:=[]) (start:=[0]) g.1 (.nil sM);rcases Nat.lt_or_ge n v.length with B|z
 ·have:=b u c (zhs (fun l hl=>h6 l (q l hl)) (fun l hl=>h6 l (c l hl)) oM) y (by simpa using F);rw [o] at this;cases this
 ·omega
theorem firstW_ok (h6:∀ l∈L,l<6)(hN:0<N)(hd:∀ x l,x<N->l∈L->∀ y∈d x l,y<N):(∀ l∈zfI d [0] goal L,l<6)∧(zfI d [0] goal L).length<N:=by
 by_cases h:Lost d [0] goal L
 ·rw [(zhT h).1];exact⟨sM,by simpa using hN⟩
 ·obtain⟨v,a⟩:=zhx h;rw [(zgD h6 a).1];exact⟨fun l hl=>h6 l (a.1 l hl),found_len a h6 hN hd⟩
end
theorem wstr_word {v:List Nat}(h6:∀ l∈v,l<6)(hl:v.length<=50000):zaK (wstr v)=true:=by
 unfold zaK;simp only [dF,decide_eq_true_eq];refine⟨by rw [zhr];exact hl,?_⟩;rw [List.all_eq_true];intro b hb;unfold wstr lbs at hb;rw [strOfNums_data,List.map_map] at hb;obtain⟨l,hl,rfl⟩:=List.mem_map.1 hb;have a:=h6 l hl;have c:∀ l,l<6->zci (UInt8.ofNat (97+l))=true:=dM;have e:((fun n:Int=>UInt8.ofNat n.toNat) ∘ fun l:Nat=>((97+l:Nat):Int)) l=UInt8.ofNat (97+l):=by
  show UInt8.ofNat (((97+l:Nat):Int)).toNat=_;rw [eM]
 first
  |(rw [e];exact c l a)
  |(have:=c l a;simpa using this)
theorem vioW_word (hss:∀ s∈ss,zl s=true)(ha:zh a=true)(hp:zh p=true)(hN:zZ (zbe ss [a,p])<=50000):zaK (vioW ss a p)=true∧(vioW ss a p).size<zZ (zbe ss [a,p]):=by
 have b:∀ m∈zbe ss [a,p],MemOk m:=by
  intro m b;unfold zbe at b;rcases List.mem_append.1 b with h|h
  ·obtain⟨s,hs,rfl⟩:=List.mem_map.1 h;exact zfy (zcR (hss s hs))
  ·simp at h;rcases h with rfl|rfl
   ·exact zcY ha
   ·exact zcY hp
 obtain⟨c,f⟩:=firstW_ok (d:=zbP ss a p) (goal:=zcF a p) (L:=letters (zV ss|||a.al.toNat) 6) (N:=zZ (zbe ss [a,p])) (fun l hl=>(zW.1 hl).1) (prodN_pos b) (fun x l _ hl y hy=>by
  rw [zdM] at hy;exact pnx_lt b (zW.1 hl).1 y hy)
 unfold vioW;exact⟨wstr_word c oM,by rw [zhr];exact f⟩
theorem prod_le (hss:∀ s∈ss,zl s=true):zZ (zbe ss [a,p])<=16 ^ ss.length*(a.next.length*p.next.length):=by
 induction ss with
 |nil=>simp [zbe,zZ,zay,zdx]
 |cons s r ih =>
  have b:=ih (fun s hs=>hss s (List.mem_cons_of_mem _ hs));have c:s.st.toNat<=16:=by have:=(zcR (hss s List.mem_cons_self)).2.1;omega
  show zZ (zeE s :: zbe r [a,p])<=_;rw [zdR,eI,Nat.pow_succ]
  calc s.st.toNat*zZ (zbe r [a,p])<=16*(16 ^ r.length*(a.next.length*p.next.length)):=eK c b
   _=16 ^ r.length*16*(a.next.length*p.next.length):=by rw [← Nat.mul_assoc,Nat.mul_comm 16]
theorem zho (hs:zl s=true)(ha:zh a=true)(hp:zh p=true):zaK (zbR s a p)=true∧(zbR s a p).size<=2304:=by
 have b:=(zk ha).2.1.2;have c:=(zk hp).2.1.2;have d:=prod_le (ss:=[s]) (a:=a) (p:=p) (by simpa using hs);have g:a.next.length*p.next.length<=12*12:=eK b c;simp only [List.length_singleton,Nat.pow_one] at d;obtain⟨f,h⟩:=vioW_word (ss:=[s]) (by simpa using hs) ha hp oM;unfold zbR;rw [if_pos (by unfold zcE;rw [hs,ha,hp];rfl)];exact⟨f,oM⟩
theorem zfr (hss:zE ss=true)(hp:zh p=true):zaK (zaT ss p)=true∧(zaT ss p).size<16 ^ ss.length*12:=by
 obtain⟨⟨i,b⟩,c⟩:=zbT hss;have d:=(zk hp).2.1.2;have f:=prod_le (a:=free) (p:=p) c;have j:free.next.length*p.next.length<=1*12:=eK (cY _) d;have k:zZ (zbe ss [free,p])<=16 ^ ss.length*12:=dJ f (Nat.mul_le_mul_left _ oM);have g:16 ^ ss.length<=16 ^ 3:=dV oM b;have l:16 ^ ss.length*12<=4096*12:=Nat.mul_le_mul_right _ g;obtain⟨h,m⟩:=vioW_word c zhO hp oM;unfold zaT;rw [if_pos (by unfold zdt;rw [hss,hp];rfl)];exact⟨h,oM⟩
noncomputable def zef (s:Sys) (p:Aut) (t:Sys) (L:Nat) (a:Aut):ByteArray × Int:=
 if zbQ s a p=true then (zbj (zbR s a p) L,-1)
 else if zcg [t] a=true then (zbj (zaT [t] a) L,if zy s p L (zbj (zaT [t] a) L)=true then -1 else 1)
 else (⟨#[]⟩,0)
section
variable {w:World} {lo hi n c lo1 hi1 m d m' d' lo2 hi2 k c2 k1 d1 k1' d1' L:Nat} {A B B' C X X':Option Addr} {s t:Sys} {p a:Aut}
theorem zeI (ht:zR w lo hi C k t)(ha:zI w lo1 hi1 X k1 X' k1' a) :
  Calls Tryz.prog 232 #[.agg #[t.al,t.st,.slice C k c2],.agg #[a.al,.slice X k1 d1,.slice X' k1' d1']] w fun e w'=>e=.returned (.tuple #[.string (zaT [t] a),.bool (zcg [t] a)])∧Ext w w':=by
 have i:=za (fun W (hW:Ext w W)=>ht.ext hW);have g:=za (fun W (hW:Ext w W)=>ha.ext hW);clear ht ha
 go_enter Tryz.func232,Tryz.ntmps232
 go_upto_region 1 with fail
 generalize U0:(w.alloc _).alloc _=f at *;obtain⟨hx0,b1,j⟩:=gI U0;clear U0;have c1:=b1.cell;have hx1:=(cW f).alloc (.cells #[t.al,t.st,.slice C k c2] 39);have d:=dT f 39 #[t.al,t.st,.slice C k c2];obtain⟨n,m,b⟩:=sl_one d (i.out _ (hx0.trans hx1));have l:=(j.ext hx1).cell;have h:=za (zbB (c:=1) (d2:=d1) (d2':=d1') b (g.out _ (hx0.trans hx1)));clear b d;go_wp2_with fail
 refine h.out.mono (mQ fun w2 hx2=>?_);go_wp2_with fail
 go_ret2;exact⟨rfl,(hx0.trans hx1).trans hx2⟩
theorem ziL (h:Tch w A n B m B' m' s p L)(ht:zR w lo hi C k t)(ha:zI w lo1 hi1 X k1 X' k1' a) (vt:zl t=true) (va:zh a=true) :
  Calls Tryz.prog 194 #[.agg #[t.al,t.st,.slice C k c2],.agg #[s.al,s.st,.slice A n c,p.al,.slice B m d,.slice B' m' d',L],.agg #[a.al,.slice X k1 d1,.slice X' k1' d1']] w fun e w'=>e=.returned (.tuple #[.string (zef s p t L a).1,.int .i64 (zef s p t L a).2])∧Ext w w':=by
 have hL:=h.lt;have j:=za (fun W (hW:Ext w W)=>by
  obtain⟨lo,hi,D,I,_⟩:=h.at_;exact zcv (c:=c) (d1:=d1) (d1':=d1') (d2:=d) (d2':=d') (D.ext hW) (ha.ext hW) (I.ext hW))
 have HS:=za (fun W (hW:Ext w W) (y:ByteArray) hy=>by
  obtain⟨lo,hi,D,I,Z⟩:=h.at_;exact zfg (c:=c) (d:=d) (d':=d') (L:=L) (t:=y) (D.ext hW) (I.ext hW) h.sv h.pv h.lt (dJ Z hW.size) hy)
 have o:=za (fun W (hW:Ext w W)=>zeI (c2:=c2) (d1:=d1) (d1':=d1') (ht.ext hW) (ha.ext hW));have V:=za (zho h.sv va h.pv);have hb:=za (zfr (ss:=[t]) (p:=a) (by unfold zE;simp [vt]) va);have i:=za (show zef s p t L a=if zbQ s a p=true then (zbj (zbR s a p) L,-1)
  else if zcg [t] a=true then (zbj (zaT [t] a) L,if zy s p L (zbj (zaT [t] a) L)=true then -1 else 1)
  else (⟨#[]⟩,0) from rfl)
 generalize zef s p t L a=J at *;obtain⟨F,R⟩:∃ F,Hid (zbR s a p=F):=⟨_,rfl⟩;obtain⟨z,M⟩:∃ z,Hid (zaT [t] a=z):=⟨_,rfl⟩;rw [R.out] at j V i;rw [M.out] at o hb i;have hx0:Ext w (((w.alloc (.cells #[t.al,t.st,.slice C k c2] 39)).alloc (.cells #[s.al,s.st,.slice A n c,p.al,.slice B m d,.slice B' m' d',L] 199)).alloc (.cells #[a.al,.slice X k1 d1,.slice X' k1' d1'] 26)):=(((cW _).alloc _).alloc _).alloc _;obtain⟨b1,G,H⟩:=zN (cW (((w.alloc (.cells #[t.al,t.st,.slice C k c2] 39)).alloc (.cells #[s.al,s.st,.slice A n c,p.al,.slice B m d,.slice B' m' d',L] 199)).alloc (.cells #[a.al,.slice X k1 d1,.slice X' k1' d1'] 26)));clear h ht ha vt va;cases hub:zbQ s a p
 ·cases hbb:zcg [t] a
  ·have zjf:=za (show J=(⟨#[]⟩,0) by rw [i.out,hub,hbb];rfl);rw [hub] at j;rw [hbb] at o;rw [zjf.out];clear i zjf hub hbb
   go_enter Tryz.func194,Tryz.ntmps194
   go_upto_region 1 with fail
   generalize ((w.alloc _).alloc _).alloc _=v at *;have U:=b1.cells;have T:=G.cells;have S:=H.cells;have hww:=cW v;go_wp2_with (first
    |(go_at_call 144;refine (j.out _ hx0).mono (mQ fun Y hx1=>?_))
    |(go_at_call 232;refine (o.out _ (hx0.trans hx1)).mono (mQ fun w2 hx2=>?_);have g:=hx1.trans hx2))
   go_ret2;exact⟨rfl,hx0.trans g⟩
  ·obtain⟨f,r⟩:∃ f,Hid (zbj z L=f):=⟨_,rfl⟩;have x:=za (fun W=>zbV (w:=W) (s:=z) (a:=L) hb.out.1 oM);have O:=za (show f.size<=9223372036854775807 by
    rw [← r.out];have D:=zaR (zaW (zgo hb.out.1 L));omega)
   rw [r.out] at x i;have q:=za (fun W (hW:Ext w W)=>HS.out W hW f O.out);obtain⟨E,Q⟩:∃ E,Hid (zy s p L f=E):=⟨_,rfl⟩;rw [Q.out] at q i;rw [hub] at j;rw [hbb] at o;have zjf:=za (show J=(f,if E=true then -1 else 1) by rw [i.out,hub,hbb];rfl);rw [zjf.out];clear i zjf hub hbb;cases E
   all_goals
    go_enter Tryz.func194,Tryz.ntmps194
    go_upto_region 1 with fail
    generalize ((w.alloc _).alloc _).alloc _=v at *;have U:=b1.cells;have T:=G.cells;have S:=H.cells;have hww:=cW v;go_wp2_with (first
     |(go_at_call 144;refine (j.out _ hx0).mono (mQ fun Y hx1=>?_))
     |(go_at_call 232;refine (o.out _ (hx0.trans hx1)).mono (mQ fun w2 hx2=>?_);have g:=hx1.trans hx2)
     |(go_at_call 142;refine (x.out _).mono (mQ fun w3 l=>?_);have b:=g.trans l)
     |(go_at_call 233;refine (q.out _ (hx0.trans b)).mono (mQ fun w4 hx4=>?_);have u:=b.trans hx4))
    go_ret2;exact⟨rfl,hx0.trans u⟩
 ·have x:=za (fun W=>zbV (w:=W) (s:=F) (a:=L) V.out.1 oM);rw [hub] at j;have zjf:=za (show J=(zbj F L,-1) by rw [i.out,hub];rfl);rw [zjf.out];clear i zjf hub
  go_enter Tryz.func194,Tryz.ntmps194
  go_upto_region 1 with fail
  generalize ((w.alloc _).alloc _).alloc _=v at *;have U:=b1.cells;have T:=G.cells;have S:=H.cells;have hww:=cW v;go_wp2_with (first
   |(go_at_call 144;refine (j.out _ hx0).mono (mQ fun Y hx1=>?_))
   |(go_at_call 142;refine (x.out _).mono (mQ fun w3 l=>?_);have b:=hx1.trans l))
  go_ret2;exact⟨rfl,hx0.trans b⟩
end
structure Vd where
 code:Int
 asm:Aut
 tr:ByteArray
 ro:Nat
def noA:Aut:=⟨0,[],[]⟩
noncomputable def runT (s t:Sys) (p:Aut) (L:Nat):Nat->Nat->Option (List ByteArray × List ByteArray)->Vd
 |0,k,_=>⟨2,noA,⟨#[]⟩,k⟩
 |_+1,k,none=>⟨2,noA,⟨#[]⟩,k⟩
 |f+1,k,some tab =>
  if (zef s p t L (zhK L (zy s p L) tab.1 tab.2)).2=0 then ⟨0,zhK L (zy s p L) tab.1 tab.2,⟨#[]⟩,k+1⟩
  else if (zef s p t L (zhK L (zy s p L) tab.1 tab.2)).2=1 then ⟨1,noA,zaT [s,t] p,k+1⟩
  else runT s t p L f (k+1) (zfa L (zy s p L) tab.1 tab.2 (zef s p t L (zhK L (zy s p L) tab.1 tab.2)).1)
def zcI (w:World) (v:Vd) (e:Ending) (w':World):Prop:=
 ∃ (A:Option Addr) (n c:Nat) (A':Option Addr) (n' c':Nat) (x:Int) (X:Option Addr) (k1 d1:Nat) (X':Option Addr) (k1' d1':Nat),
  e=.returned (.tuple #[.agg #[v.code,v.asm.al,.slice A n c,.slice A' n' c',v.tr,v.ro],.agg #[x,.slice X k1 d1,.slice X' k1' d1']])∧zX w' w.heap.size A n c A' n' c' v.asm∧Ext w w'
def zfp (L:Nat) (f:ByteArray->Bool) (o:Option (List ByteArray × List ByteArray)):Prop:=∀ rs cs,o=some (rs,cs)->zdv L f rs cs∧zbK L f rs cs=none
theorem zfp.new (L:Nat) (f:ByteArray->Bool):zfp L f ((zaY L f [⟨#[]⟩] 11 [⟨#[]⟩]).map fun r=>(r,[⟨#[]⟩])):=by
 intro rs cs h;obtain⟨r,c,e⟩:=Option.map_eq_some_iff.1 h;obtain⟨rfl,rfl⟩:=Prod.mk.inj e;obtain⟨a,b,-⟩:=closeT_ok 11 _ _ (zdv.first L f) dM c
 exact⟨a,b⟩
theorem zfp.learn (h:zdv L f rows cols) (x:ByteArray):zfp L f (zfa L f rows cols x):=by
 intro rs cs hl;unfold zfa at hl
 split at hl
 ·cases hl
 ·rename_i col hc
  split at hl
  ·rename_i ha;obtain⟨r,d,e⟩:=Option.map_eq_some_iff.1 hl;obtain⟨rfl,rfl⟩:=Prod.mk.inj e;have c:=h.addC ha;obtain⟨a,b,-⟩:=closeT_ok _ _ _ c (oH h.r12) d;exact⟨a,b⟩
  ·cases hl
theorem judgeT_size (hs:zl s=true)(hp:zh p=true)(ht:zl t=true)(ha:zh a=true):(zef s p t L a).1.size<=50000:=by
 have b:=zho hs ha hp;have c:=zfr (ss:=[t]) (p:=a) (by unfold zE;simp [ht]) ha;unfold zef;split
 ·exact zaR (zaW (zgo b.1 L))
 ·split
  ·exact zaR (zaW (zgo c.1 L))
  ·exact dD _
def TabM (w0 W:World) (g:Nat) (o:Option (List ByteArray × List ByteArray)):Prop:=
 ∃ (nr nc:Nat) (R:Option Addr) (cr:Nat) (C:Option Addr) (cc:Nat),Blk W g 205 #[.slice R nr cr,.slice C nc cc]∧nr<=cr∧nc<=cc ∧
  ∀ rs cs,o=some (rs,cs)->W.ownsRow w0.heap.size 9 1 (.slice R nr cr) nr (zM rs)∧W.ownsRow w0.heap.size 9 1 (.slice C nc cc) nc (zM cs)
theorem TabM.far {W':World}  {o:Option (List ByteArray × List ByteArray)}  {t:TypeId}(h:TabM w0 W g o)(hB:Blk W G t cs)(hf:Frm (fun k=>k=G) W W')(hg:g≠G)(ht:9≠t):TabM w0 W' g o:=by
 obtain⟨l,j,R,d,C,c,hb,f,i,a⟩:=h;exact⟨l,j,R,d,C,c,hb.frm hf hg,f,i,fun rs cs e=>⟨zf (a rs cs e).1 hf (fun b hv e'=>zq (a rs cs e).1 hB ht hv e'),zf (a rs cs e).2 hf (fun b hv e'=>zq (a rs cs e).2 hB ht hv e')⟩⟩
theorem zcl.fill {o:Option (List ByteArray × List ByteArray)} (h:zcl w o e W)(hw:w0.heap.size<=w.heap.size) :
  Ext w W∧∃ (nr nc:Nat) (R:Option Addr) (cr:Nat) (C:Option Addr) (cc:Nat),e=.returned (.tuple #[.agg #[.slice R nr cr,.slice C nc cc],.bool o.isSome])∧nr<=cr∧nc<=cc ∧
   ∀ rs cs,o=some (rs,cs)->W.ownsRow w0.heap.size 9 1 (.slice R nr cr) nr (zM rs)∧W.ownsRow w0.heap.size 9 1 (.slice C nc cc) nc (zM cs):=by
 obtain⟨c,⟨rfl,rfl⟩|⟨rs,cs,nr,nc,R,cr,C,cc,rfl,rfl,a,b⟩⟩:=h
 ·exact⟨c,0,0,none,0,none,0,rfl,cY _,cY _,fun _ _ e=>by cases e⟩
 ·refine⟨c,nr,nc,R,cr,C,cc,rfl,zgm a,zgm b,fun rs' cs' e=>?_⟩;obtain⟨rfl,rfl⟩:=Prod.mk.inj (Option.some.inj e);exact⟨zn a hw,zn b hw⟩
theorem sl_pair {lo2 hi2 k c2:Nat}  (hb:Blk w g 39 #[s.al,s.st,.slice A n c,t.al,t.st,.slice C k c2])(h:zR w lo hi A n s)(h':zR w lo2 hi2 C k t):∃ lo hi,zet w lo hi (some ⟨g,0,none⟩) 2 [s,t]:=by
 refine⟨0,hi+hi2+g+1,rfl,[.int .i64 s.al,.int .i64 s.st,.slice A n c,.int .i64 t.al,.int .i64 t.st,.slice C k c2],⟨rfl,oM,fun _=>⟨_,rfl,dD _,by dsimp only;omega,fun j u hu=>?_⟩⟩,fun j u hu=>?_⟩
 ·rw [zK,Nat.zero_add,hb.cell];simpa using hu
 ·match j with
  |0 =>
   simp at hu;subst hu;exact⟨A,n,c,rfl,rfl,rfl,h.1,h.2.more (dD _) oM⟩
  |1 =>
   simp at hu;subst hu;exact⟨C,k,c2,rfl,rfl,rfl,h'.1,h'.2.more (dD _) oM⟩
  |j+2=>simp at hu
theorem zcI.drew {v:Vd} (h:zcI w v e W):zcI w v e W.drew:=by
 obtain⟨A,n,c,a,g,b,x,X,k1,d1,X',k1',d1',d,ho,f⟩:=h;have hd:Ext W W.drew:=(cW W).drew;exact⟨A,n,c,a,g,b,x,X,k1,d1,X',k1',d1',d,ho.ext hd,f.trans hd⟩
theorem zcI.cast {v u:Vd} (hu:u=v)(h:zcI w v e W):zcI w u e W:=hu ▸ h
def roAt (W:World) (g:Nat):Nat:=match W.cell? ⟨g,5,none⟩ with|some (.int _ z)=>z.toNat|_=>0
theorem roAt_blk {t:TypeId} {u0 u1 u2 u3 u4:Value}(h:Blk W g t #[u0,u1,u2,u3,u4,j]):roAt W g=j:=by
 unfold roAt;rw [h.cell 5];exact eM j
theorem runT_end {o:Option (List ByteArray × List ByteArray)}(h:¬ (o.isSome=true∧j<K)):runT s t p L (K - j) j o=⟨2,noA,⟨#[]⟩,j⟩:=by
 cases hk:K - j with
 |zero=>rfl
 |succ f =>
  cases o with
  |none=>rfl
  |some tab=>exact absurd ⟨rfl,oM⟩ h
theorem ziF (W:World) (Z:Nat) (u0 u1 u2 u3 u4 u5:Value):Frm (fun k=>k=Z) W ((((((W.setCell Z u0).setCell ⟨Z,1,none⟩ u1).setCell ⟨Z,2,none⟩ u2).setCell ⟨Z,3,none⟩ u3).setCell ⟨Z,4,none⟩ u4).setCell ⟨Z,5,none⟩ u5):=
 (((((dE W _ 0 _).trans (dE _ _ 1 _)).trans (dE _ _ 2 _)).trans (dE _ _ 3 _)).trans (dE _ _ 4 _)).trans (dE _ _ 5 _)
theorem Frm.drew {S:Nat->Prop} {a:World}(h:Frm S a w):Frm S a w.drew:=⟨h.os,h.tape,h.output,h.size,h.block⟩
theorem zgs {k1 d1 k1' d1':Nat} {X X':Option Addr} {v:Vd} {x:Int} {vs us:Array Value}(hx:Ext w W)(hv:Blk W Z 139 vs)(hu:Blk W (Z+1) 26 us)(h6:vs.size=6)(h3:us.size=3)(hZ:w.heap.size<=Z)(ho:zX W w.heap.size A n c A' n' c' v.asm) :
  Hid (zcI w v (.returned (.tuple #[.agg #[v.code,v.asm.al,.slice A n c,.slice A' n' c',v.tr,v.ro],.agg #[x,.slice X k1 d1,.slice X' k1' d1']]))
   (((((((((W.setCell Z v.code).setCell ⟨Z,1,none⟩ v.asm.al).setCell ⟨Z,2,none⟩ (.slice A n c)).setCell ⟨Z,3,none⟩ (.slice A' n' c')).setCell ⟨Z,4,none⟩ v.tr).setCell ⟨Z,5,none⟩ v.ro).setCell ⟨Z+1,0,none⟩ x).setCell ⟨Z+1,1,none⟩ (.slice X k1 d1)).setCell ⟨Z+1,2,none⟩ (.slice X' k1' d1'))) ∧
  Blk (((((((((W.setCell Z v.code).setCell ⟨Z,1,none⟩ v.asm.al).setCell ⟨Z,2,none⟩ (.slice A n c)).setCell ⟨Z,3,none⟩ (.slice A' n' c')).setCell ⟨Z,4,none⟩ v.tr).setCell ⟨Z,5,none⟩ v.ro).setCell ⟨Z+1,0,none⟩ x).setCell ⟨Z+1,1,none⟩ (.slice X k1 d1)).setCell ⟨Z+1,2,none⟩ (.slice X' k1' d1')) Z 139 #[v.code,v.asm.al,.slice A n c,.slice A' n' c',v.tr,v.ro] ∧
  Blk (((((((((W.setCell Z v.code).setCell ⟨Z,1,none⟩ v.asm.al).setCell ⟨Z,2,none⟩ (.slice A n c)).setCell ⟨Z,3,none⟩ (.slice A' n' c')).setCell ⟨Z,4,none⟩ v.tr).setCell ⟨Z,5,none⟩ v.ro).setCell ⟨Z+1,0,none⟩ x).setCell ⟨Z+1,1,none⟩ (.slice X k1 d1)).setCell ⟨Z+1,2,none⟩ (.slice X' k1' d1')) (Z+1) 26 #[.int .i64 x,.slice X k1 d1,.slice X' k1' d1']:=by
 obtain⟨i⟩:=vs
 match i,h6 with
 |[a0,a1,a2,a3,a4,a5],_ =>
 have a:Frm (fun k=>k=Z) W ((((((W.setCell Z v.code).setCell ⟨Z,1,none⟩ v.asm.al).setCell ⟨Z,2,none⟩ (.slice A n c)).setCell ⟨Z,3,none⟩ (.slice A' n' c')).setCell ⟨Z,4,none⟩ v.tr).setCell ⟨Z,5,none⟩ v.ro):=
  (((((dE W _ 0 _).trans (dE _ _ 1 _)).trans (dE _ _ 2 _)).trans (dE _ _ 3 _)).trans (dE _ _ 4 _)).trans (dE _ _ 5 _)
 have g:Blk ((((((W.setCell Z v.code).setCell ⟨Z,1,none⟩ v.asm.al).setCell ⟨Z,2,none⟩ (.slice A n c)).setCell ⟨Z,3,none⟩ (.slice A' n' c')).setCell ⟨Z,4,none⟩ v.tr).setCell ⟨Z,5,none⟩ v.ro) Z 139 #[.int .i64 v.code,.int .i64 v.asm.al,.slice A n c,.slice A' n' c',.string v.tr,.int .i64 v.ro]:=by
  simpa using (((((hv.ab 0 (.int .i64 v.code)).ab 1 (.int .i64 v.asm.al)).ab 2 (.slice A n c)).ab 3 (.slice A' n' c')).ab 4 (.string v.tr)).ab 5 (.int .i64 v.ro)
 have f:=ho.ay hv a dM;have d:=hu.frm a oM;have hx1:Ext w ((((((W.setCell Z v.code).setCell ⟨Z,1,none⟩ v.asm.al).setCell ⟨Z,2,none⟩ (.slice A n c)).setCell ⟨Z,3,none⟩ (.slice A' n' c')).setCell ⟨Z,4,none⟩ v.tr).setCell ⟨Z,5,none⟩ v.ro):=hx.frm a (fun k hk e=>oM);generalize (((((W.setCell Z v.code).setCell ⟨Z,1,none⟩ v.asm.al).setCell ⟨Z,2,none⟩ (.slice A n c)).setCell ⟨Z,3,none⟩ (.slice A' n' c')).setCell ⟨Z,4,none⟩ v.tr).setCell ⟨Z,5,none⟩ v.ro=h at *;have b:=zaD h (Z+1) (.int .i64 x) (.slice X k1 d1) (.slice X' k1' d1');exact⟨za ⟨A,n,c,A',n',c',x,X,k1,d1,X',k1',d1',rfl,f.ay d b dM,hx1.frm b (fun k hk e=>oM)⟩,g.frm b oM,zal d h3 _ _ _⟩
section
variable {w:World} {lo hi n c lo1 hi1 m d m' d' lo2 hi2 k c2:Nat} {A B B' C:Option Addr} {s t:Sys} {p:Aut}
theorem yQ14a4 {P:Prop}(h:P:=by
 clear hflag hgo ho hon hne1 hne2 hd hb8 hb9' hxw;go_wp2_with fail
 refine zbm (fun Y=>Frm (fun b=>b=Z) wr Y) [3] (zw.of [0,1,2,3]) kM kM kM kM kM (fun _ _ _ _ _ h=>h) hS0 ?_;refine zbO (v:=?_) rfl rfl rfl rfl (fun X hX=>?_) ?_
 rotate_left
 focus (go_simp<;>with_reducible rfl)
 refine pT ?_;refine zbO (v:=?_) rfl rfl rfl rfl (fun X hX=>?_) ?_
 rotate_left
 focus (go_simp<;>with_reducible rfl)
 refine pT ?_;refine zd fun K hK=>?_;go_simp;refine hK.out _ _ hf8.out.drew ?_;refine pT ?_;refine zb fun K hK=>?_;go_simp;refine hK.out _ _ ?_;refine ze ?_;go_wp2_with fail
 have cf2:=F2.out.cell;have cf3:=F3.out.cell;exact bodyPost_ret (v:=.tuple #[.agg #[(2:Int),(0:Int),(),(),.string ⟨#[]⟩,j],.agg #[x,.slice X k1 d1,.slice X' k1' d1']]) (by simp [results,Tryz.results162,go_sem,cf2,cf3]) rfl F1.out
 ):P:=h
theorem spec_l12Run (hs:zR w lo hi A n s)(hp:zI w lo1 hi1 B m B' m' p)(ht:zR w lo2 hi2 C k t)(hif:iface s p t=(L:Int))(hn:n<=1000000)(hhi:hi<=w.heap.size)(hK:K<=1000) :
  Calls Tryz.prog 162 #[.agg #[s.al,s.st,.slice A n c],.agg #[t.al,t.st,.slice C k c2],.agg #[p.al,.slice B m d,.slice B' m' d'],K] w
   (zcI w (runT s t p L K 0 ((zaY L (zy s p L) [⟨#[]⟩] 11 [⟨#[]⟩]).map fun r=>(r,[⟨#[]⟩])))):=by
 obtain⟨vs,vp,vt⟩:=zeV (show 0<=iface s p t by omega);have Hv:=za (And.intro vs (And.intro vp vt));have bo:=za (fun W (hW:Ext w W)=>spec_TaskOf (c:=c) (d:=d) (d':=d') (c2:=c2) (hs.ext hW) (hp.ext hW) (ht.ext hW) hif hn (dJ hhi hW.size));have bO:=za (fun W (hW:Ext w W)=>show Calls Tryz.prog 174 #[.slice (some W.heap.size) 2 2,.agg #[p.al,.slice B m d,.slice B' m' d']] (W.alloc (.cells #[s.al,s.st,.slice A n c,t.al,t.st,.slice C k c2] 39)) (fun e w'=>e=.returned (.tuple #[.string (zaT [s,t] p),.bool (zcg [s,t] p)])∧Ext W w') by
  have f6:=(cW W).alloc (.cells #[s.al,s.st,.slice A n c,t.al,t.st,.slice C k c2] 39);obtain⟨l1,l2,cC⟩:=sl_pair (dT W 39 #[s.al,s.st,.slice A n c,t.al,t.st,.slice C k c2]) (hs.ext (hW.trans f6)) (ht.ext (hW.trans f6));exact (zbB cC (hp.ext (hW.trans f6))).mono (fun e w' h=>⟨h.1,f6.trans h.2⟩))
 have c6:=za (fun W (hW:Ext w W)=>hs.ext hW);have ct:=za (fun W (hW:Ext w W)=>ht.ext hW);obtain⟨ag,zjf⟩:∃ ag,Hid (runT s t p L K 0 ((zaY L (zy s p L) [⟨#[]⟩] 11 [⟨#[]⟩]).map fun r=>(r,[⟨#[]⟩]))=ag):=⟨_,rfl⟩;have bh:=za (zfp.new L (zy s p L));rw [zjf.out];obtain⟨aB,bf⟩:∃ aB,Hid ((zaY L (zy s p L) [⟨#[]⟩] 11 [⟨#[]⟩]).map (fun r=>(r,[(⟨#[]⟩:ByteArray)]))=aB):=⟨_,rfl⟩;rw [bf.out] at zjf bh;clear hs hp ht hif vs vp vt;obtain⟨w0,U0⟩:∃ x,Hid (((((w.alloc (.cells #[s.al,s.st,.slice A n c] 39)).alloc (.cells #[t.al,t.st,.slice C k c2] 39)).alloc (.cells #[p.al,.slice B m d,.slice B' m' d'] 26)).alloc (.cells #[(0:Int),(0:Int),(),(),.string ⟨#[]⟩,(0:Int)] 139)).alloc (.cells #[(0:Int),(),()] 26)=x):=⟨_,za rfl⟩;have hx0:Ext w w0:=((((((cW _).alloc _).alloc _).alloc _).alloc _).alloc _).trans (fQ U0.out);obtain⟨b1,b2,b3⟩:=zN ((((cW _).alloc _).alloc _).trans (fQ U0.out));obtain⟨b8,b9⟩:=zT (fQ U0.out);simp only [World.size_alloc] at b8 b9
 go_enter Tryz.func162,Tryz.ntmps162
 go_upto_region 1 with fail
 rw [U0.out] at *;have CS:=b1.cells;have CT:=b2.cells;have CP:=b3.cells;have dg:=b9.lt;have df:w.heap.size<=w.heap.size+1+1+1:=oM;generalize w.heap.size+1+1+1=Z at *;have hww:=cW w0;go_upto_region 2 with (first
  |(go_at_call 191;refine (bo.out _ hx0).mono ?_;rintro e w1 ⟨A,n,c,B,m,d,B',m',d',rfl,bg,cb⟩))
 have cK:=(dT w1 199 #[s.al,s.st,.slice A n c,p.al,.slice B m d,.slice B' m' d',L]).cell;go_upto_region 5 with fail
 obtain⟨bL,bV⟩:∃ bL,Hid (w1.heap.size=bL):=⟨_,rfl⟩;generalize U0:(w1.alloc _).alloc _=w2 at *;obtain⟨bi,bK,bT⟩:=gI U0;clear U0;rw [bV.out] at bK bT ⊢;clear cK;have V:=bg.ext bi;have a:=cb.trans bi;have dh:=bT.lt;have bN:=za (fun W (hW:Ext w2 W)=>ziI (c:=c) (d:=d) (d':=d') (V.ext hW));rw [bf.out] at bN;have cu:=za (fun (R:Option Addr) (nr cr:Nat) (C:Option Addr) (nc cc:Nat) (rows cols:List ByteArray) W (hW:Ext w2 W) hT hI ai ah an=>zcu (c:=c) (d:=d) (d':=d') (nr:=nr) (nc:=nc) (R:=R) (C:=C) (cr:=cr) (cc:=cc) (rows:=rows) (cols:=cols) (V.ext hW) hT hI ai ah an);have cq:=za (fun (R:Option Addr) (nr cr:Nat) (C:Option Addr) (nc cc:Nat) (rows cols:List ByteArray) (x:ByteArray) W (hW:Ext w2 W) hT hI ai ah an hx=>zhB (c:=c) (d:=d) (d':=d') (nr:=nr) (nc:=nc) (R:=R) (C:=C) (cr:=cr) (cc:=cc) (rows:=rows) (cols:=cols) (x:=x) (V.ext hW) hT hI ai ah an hx);have bJ:=bT.cells;have co:=bK.cells;have cn:=fun W (hW:Ext w2 W)=>CS W (a.trans hW);have bI:=fun W (hW:Ext w2 W)=>CT W (a.trans hW);have cm:=fun W (hW:Ext w2 W)=>CP W (a.trans hW);have ca:=cW w2;clear hww CS CT CP;go_upto_region 6 with (first
  |(go_at_call 192;refine (bN.out _ ca).mono ?_;intro e w3 hret;obtain⟨bB,nr,nc,R,cr,C,cc,rfl,ai,ah,bu⟩:=hret.fill (w0:=w2) (cY _);clear hret))
 go_wp2_with fail
 obtain⟨G,hG⟩:∃ G,Hid (w3.heap.size=G):=⟨_,rfl⟩;have de:w2.heap.size<=G:=by rw [← hG.out];exact bB.size
 generalize U0:((w3.alloc _).alloc _).alloc _=w6 at *;obtain⟨ay,ak,E,ae⟩:=Ext.x3_ U0;clear U0;rw [hG.out] at ak E ae ⊢;have bj:=bB.trans ay;have aJ:TabM w2 w6 G aB:=⟨nr,nc,R,cr,C,cc,ak,ai,ah,fun rs cs e=>⟨zg (bu rs cs e).1 ay,zg (bu rs cs e).2 ay⟩⟩;clear bu ak bB ay
 go_loopw [14] (fun fv wr=>∃ (o:Option (List ByteArray × List ByteArray)) (j:Nat) (x:Int) (X:Option Addr) (k1 d1:Nat) (X':Option Addr) (k1' d1':Nat),fv=.bool o.isSome∧j<=K∧Hid (zfp L (zy s p L) o)∧Hid (runT s t p L (K - j) j o=ag)∧TabM w2 wr G o∧Blk wr (G+1) 139 #[(2:Int),(0:Int),(),(),.string ⟨#[]⟩,j]∧Blk wr (G+1+1) 26 #[x,.slice X k1 d1,.slice X' k1' d1']∧Ext w2 wr) (fun _ wr=>K - roAt wr (G+1))
 case atStart=>exact⟨aB,0,0,none,0,0,none,0,0,rfl,dD _,bh,zjf,aJ,E,ae,bj⟩
 case round =>
  clear aJ E ae bj;obtain⟨o,j,x,X,k1,d1,X',k1',d1',rfl,hj,cB,be,aJ,E,ae,aS⟩:=hrel;have au:=E.cell;have av:=ae.cell
  by_cases hgo:o.isSome=true∧j<K
  ·obtain⟨⟨⟨rs,cs⟩,rfl⟩,di⟩:(∃ q,o=some q)∧j<K:=⟨Option.isSome_iff_exists.1 hgo.1,hgo.2⟩;clear hgo;obtain⟨hI,an⟩:=cB.out rs cs rfl;have cR:(j:Int)<(K:Int):=oM;have am:=E.frozen;have a9:Blk (wr.setCell ⟨G+1,5,none⟩ (.int .i64 ((j:Int)+1))) (G+1) 139 #[.int .i64 2,.int .i64 0,.slice none 0 0,.slice none 0 0,.string ⟨#[]⟩,.int .i64 ((j:Int)+1)]:=by
    simpa using E.ab 5 (.int .i64 ((j:Int)+1))
   have bw:Frm (fun b=>b=G+1) wr (wr.setCell ⟨G+1,5,none⟩ (.int .i64 ((j:Int)+1))):=dE wr _ 5 _;have ba:=ae.frm bw oM;have bY:=aJ.far E bw oM dM;have aR:=aS.setCell (p:=⟨G+1,5,none⟩) (by dsimp only;omega) (.int .i64 ((j:Int)+1));go_upto_region 10 with fail
   have b6:=za (roAt_blk E);clear au av am aJ E ae aS bw;generalize wr.setCell ⟨G+1,5,none⟩ (.int .i64 ((j:Int)+1))=wA at *;obtain⟨nr,nc,R,cr,C,cc,ak,ai,ah,bZ⟩:=bY;obtain⟨oR,oC⟩:=bZ rs cs rfl;have a2:=za (show TabAt wA R nr C nc rs cs from ⟨_,_,_,_,dY oR,dY oC⟩);have bC:=ak.cell;have bq:=bJ wA aR;have bs:=za hI;have bd:=za an;have aY:=za (zdL hI an bg.lt);clear hI an bZ;go_upto_region 11 with (first
    |(go_at_call 193;refine (cu.out _ _ _ _ _ _ rs cs _ aR a2.out bs.out ai ah bd.out).mono ?_;rintro e wB ⟨Y,q1,e1,Y',I,D,rfl,ap,cd⟩))
   obtain⟨f,bc⟩:∃ f,Hid (zhK L (zy s p L) rs cs=f):=⟨_,rfl⟩;rw [bc.out] at ap aY ⊢;generalize U0:wB.alloc _=wC at *;have ce:=iI U0;have bQ:=dW U0;have aL:=ap.ext ce;clear U0;have T:=cd.trans ce;have F:=ba.ext T;have a7:=a9.ext T;have a5:=ak.ext T;have bE:=zg oR T;have bD:=zg oC T;have av:=F.cell;have cy:=F.frozen;have cD:=bQ.cell;have ao:=zaD wC (G+1+1) (.int .i64 f.al) (.slice Y q1 e1) (.slice Y' I D);have aE:=zal F rfl (.int .i64 f.al) (.slice Y q1 e1) (.slice Y' I D);have a8:=a7.frm ao oM;have a6:=a5.frm ao oM;have cj:=zf bE ao (fun b hv e=>zq bE F dM hv e);have ci:=zf bD ao (fun b hv e=>zq bD F dM hv e);have aq:=aL.ay F ao dM;have aQ:=((aR.trans T).frm ao (fun k hk e=>oM));have dk:=za (aR.trans cd).size;have dj:=za aR.size;clear F a7 a5 bE bD ao aL ap bQ ba a9 ak oR oC bC bq a2;go_upto_region 12 with fail
   generalize ((wC.setCell ⟨G+1+1,0,none⟩ f.al).setCell ⟨G+1+1,1,none⟩ (.slice Y q1 e1)).setCell ⟨G+1+1,2,none⟩ (.slice Y' I D)=wD at *;clear av cy cD;have HJ:=za (ziL (c:=c) (d:=d) (d':=d') (c2:=c2) (d1:=e1) (d1':=D) (V.ext aQ) (ct.out wD (hx0.trans (a.trans aQ))) aq.reads Hv.out.2.2 aY.out);have bW:=za (judgeT_size (L:=L) Hv.out.1 Hv.out.2.1 Hv.out.2.2 aY.out);obtain⟨J,hJ⟩:∃ J,Hid (zef s p t L f=J):=⟨_,rfl⟩;rw [hJ.out] at HJ bW;have av:=aE.cell;have cw:=co wD aQ;have cx:=bI wD aQ;go_upto_region 13 with (first
    |(go_at_call 194;refine HJ.out.mono (mQ fun wE ar=>?_)))
   have g:=aQ.trans ar;have Q:=aE.ext ar;have l:=a8.ext ar;have ad:=a6.ext ar;have a0:=zg cj ar;have aZ:=zg ci ar;have U:=aq.ext ar;clear av cw cx aE a8 a6 cj ci aq HJ;have z:=za (show (if J.2=0 then (⟨0,f,⟨#[]⟩,j+1⟩:Vd) else if J.2=1 then ⟨1,noA,zaT [s,t] p,j+1⟩ else runT s t p L (K - (j+1)) (j+1) (zfa L (zy s p L) rs cs J.1))=ag by
    rw [← be.out,show K - j=(K - (j+1))+1 by omega];show _=runT s t p L ((K - (j+1))+1) j (some (rs,cs));rw [runT,bc.out,hJ.out])
   by_cases hJ0:J.2=0
   ·have aK:=za (show ag=⟨0,f,⟨#[]⟩,j+1⟩ by rw [← z.out,if_pos hJ0]);have au:=l.cell;have am:=l.frozen;have u:Blk (wE.setCell ⟨G+1,0,none⟩ (0:Int)) (G+1) 139 #[.int .i64 0,.int .i64 0,.slice none 0 0,.slice none 0 0,.string ⟨#[]⟩,.int .i64 ((j:Int)+1)]:=by
     simpa using l.ab 0 (.int .i64 0)
    have bx:Frm (fun b=>b=G+1) wE (wE.setCell ⟨G+1,0,none⟩ (0:Int)):=dE wE _ 0 _;have S:=Q.frm bx oM;have aN:=U.ay l bx dM;have aj:=g.setCell (p:=⟨G+1,0,none⟩) (by dsimp only;omega) (.int .i64 0);clear z ad Q a0 aZ bx U l;go_upto_region 16 with fail
    generalize wE.setCell ⟨G+1,0,none⟩ (0:Int)=wF at *;clear au am hJ0;have bM:=za (zan (c:=e1) (c':=D) aN.reads (zda aY.out));have av:=S.cell;go_upto_region 17 with (first
     |(go_at_call 124;refine bM.out.mono ?_;rintro e wG ⟨Z1,z1,y1,Z2,z2,y2,rfl,aO,aa⟩;have au:=(u.ext aa).cell;have am:=(u.ext aa).frozen))
    have O:=u.ext aa;have af:=S.ext aa;have i:Frm (fun b=>b=G+1) wG (((wG.setCell ⟨G+1,1,none⟩ f.al).setCell ⟨G+1,2,none⟩ (.slice Z1 z1 y1)).setCell ⟨G+1,3,none⟩ (.slice Z2 z2 y2)):=((dE wG _ 1 _).trans (dE _ _ 2 _)).trans (dE _ _ 3 _);have y:Blk (((wG.setCell ⟨G+1,1,none⟩ f.al).setCell ⟨G+1,2,none⟩ (.slice Z1 z1 y1)).setCell ⟨G+1,3,none⟩ (.slice Z2 z2 y2)) (G+1) 139 #[.int .i64 0,.int .i64 f.al,.slice Z1 z1 y1,.slice Z2 z2 y2,.string ⟨#[]⟩,.int .i64 ((j:Int)+1)]:=by
     simpa using ((O.ab 1 (.int .i64 f.al)).ab 2 (.slice Z1 z1 y1)).ab 3 (.slice Z2 z2 y2)
    have H:=af.frm i oM;have aP:=(aO.ay O i dM).less (show w.heap.size<=wF.heap.size by have:=aj.size;have:=a.size;have:=hx0.size;omega);have ab:=(aj.trans aa).frm i (fun k hk e=>oM);clear au am av u S O af i aN aO bM;generalize ((wG.setCell ⟨G+1,1,none⟩ f.al).setCell ⟨G+1,2,none⟩ (.slice Z1 z1 y1)).setCell ⟨G+1,3,none⟩ (.slice Z2 z2 y2)=wH at *;have hxw:=hx0.trans (a.trans ab);have hb8:=b8.ext (a.trans ab);have hb9':=b9.ext (a.trans ab);obtain⟨f1,f2,f3⟩:=zgs (v:=⟨0,f,⟨#[]⟩,j+1⟩) (x:=f.al) (X:=Y) (k1:=q1) (d1:=e1) (X':=Y') (k1':=I) (d1':=D) hxw hb8 hb9' rfl rfl oM aP;have F1:=za (zcI.cast aK.out f1.out.drew);clear f1;simp only [iN,Int.cast_ofNat_Int] at F1 f2 f3;have F2:=za f2;have F3:=za f3;clear f2 f3;have k8:=hb8.cell;have z8:=hb8.frozen;have k9:=hb9'.cell;have z9:=hb9'.frozen;have hne1:G+1≠Z:=oH a.size;have hne2:G+1+1≠Z:=oH a.size;have bF:∀ W,Frm (fun b=>b=Z) wH W->∀ q,W.cell? ⟨G+1,q,none⟩=#[Value.int .i64 0,.int .i64 f.al,.slice Z1 z1 y1,.slice Z2 z2 y2,.string ⟨#[]⟩,.int .i64 ((j:Int)+1)][q]?:=fun W hW=>(y.frm hW hne1).cell;have bG:∀ W,Frm (fun b=>b=Z) wH W->∀ q,W.cell? ⟨G+1+1,q,none⟩=#[Value.int .i64 f.al,.slice Y q1 e1,.slice Y' I D][q]?:=fun W hW=>(H.frm hW hne2).cell;have hS0:Frm (fun b=>b=Z) wH wH.drew:=⟨rfl,rfl,rfl,cY _,fun _ _ _=>rfl⟩;have hf8:=za (ziF wH Z (.int .i64 0) (.int .i64 f.al) (.slice Z1 z1 y1) (.slice Z2 z2 y2) (.string ⟨#[]⟩) (.int .i64 ((j:Int)+1)));clear y H aP hb8 hb9' hxw hne1 hne2;go_wp2_with fail
    refine zbm (fun Y=>Frm (fun b=>b=Z) wH Y) [3] (zw.of [0,1,2,3]) kM kM kM kM kM (fun _ _ _ _ _ h=>h) hS0 ?_;refine zbO (v:=?_) rfl rfl rfl rfl (fun X hX=>?_) ?_
    rotate_left
    focus (go_simp<;>with_reducible rfl)
    refine pT ?_;refine zbO (v:=?_) rfl rfl rfl rfl (fun X hX=>?_) ?_
    rotate_left
    focus (go_simp<;>with_reducible rfl)
    refine pT ?_;refine zd fun K hK=>?_;go_simp;refine hK.out _ _ hf8.out.drew ?_;refine pT ?_;refine zb fun K hK=>?_;go_simp;refine hK.out _ _ ?_;refine ze ?_;go_wp2_with fail
    have cf2:=F2.out.cell;have cf3:=F3.out.cell;exact bodyPost_ret (v:=.tuple #[.agg #[(0:Int),f.al,.slice Z1 z1 y1,.slice Z2 z2 y2,.string ⟨#[]⟩,((j:Int)+1:Int)],.agg #[f.al,.slice Y q1 e1,.slice Y' I D]]) (by simp [results,Tryz.results162,go_sem,cf2,cf3]) rfl F1.out
   ·by_cases hJ1:J.2=1
    ·have aK:=za (show ag=⟨1,noA,zaT [s,t] p,j+1⟩ by rw [← z.out,if_neg hJ0,if_pos hJ1]);have HP:=za (bO.out wE (hx0.trans (a.trans g)));have cS:=cn wE g;have cT:=bI wE g;have cP:∀ (v:Array Value) (q:Nat),(wE.alloc (.cells v 39)).cell? ⟨w.heap.size+1+1,q,none⟩=_:=fun v q=>cm _ (g.trans ((cW wE).alloc _)) q;clear hJ0 z ad a0 aZ U;go_upto_region 20 with (first
      |(go_at_call 174;refine HP.out.mono (mQ fun wF aj=>?_);clear cS cT cP))
     have u:=l.ext aj;have S:=Q.ext aj;have cf:=g.trans aj;have au:=u.cell;have am:=u.frozen;clear HP l Q;go_upto_region 22 with fail
     have i:Frm (fun b=>b=G+1) wF ((wF.setCell ⟨G+1,0,none⟩ (1:Int)).setCell ⟨G+1,4,none⟩ (.string (zaT [s,t] p))):=(dE wF _ 0 _).trans (dE _ _ 4 _);have y:Blk ((wF.setCell ⟨G+1,0,none⟩ (1:Int)).setCell ⟨G+1,4,none⟩ (.string (zaT [s,t] p))) (G+1) 139 #[.int .i64 1,.int .i64 0,.slice none 0 0,.slice none 0 0,.string (zaT [s,t] p),.int .i64 ((j:Int)+1)]:=by
      simpa using (u.ab 0 (.int .i64 1)).ab 4 (.string (zaT [s,t] p))
     have H:=S.frm i oM;have ab:=cf.frm i (fun k hk e=>oM);clear au am u S i hJ1;generalize (wF.setCell ⟨G+1,0,none⟩ (1:Int)).setCell ⟨G+1,4,none⟩ (.string (zaT [s,t] p))=wH at *;have hxw:=hx0.trans (a.trans ab);have hb8:=b8.ext (a.trans ab);have hb9':=b9.ext (a.trans ab);obtain⟨f1,f2,f3⟩:=zgs (v:=⟨1,noA,zaT [s,t] p,j+1⟩) (A:=none) (n:=0) (c:=0) (A':=none) (n':=0) (c':=0) (x:=f.al) (X:=Y) (k1:=q1) (d1:=e1) (X':=Y') (k1':=I) (d1':=D) hxw hb8 hb9' rfl rfl oM (⟨⟨[],World.ownsRow_nil _ _ _ _,zG.nil _ _⟩,rfl,World.ownsRow_nil _ _ _ _,rfl⟩:zX wH w.heap.size none 0 0 none 0 0 noA);have F1:=za (zcI.cast aK.out f1.out.drew);clear f1;simp only [noA,iN,Int.cast_ofNat_Int] at F1 f2 f3;have F2:=za f2;have F3:=za f3;clear f2 f3;have k8:=hb8.cell;have z8:=hb8.frozen;have k9:=hb9'.cell;have z9:=hb9'.frozen;have hne1:G+1≠Z:=oH a.size;have hne2:G+1+1≠Z:=oH a.size;have bF:∀ W,Frm (fun b=>b=Z) wH W->∀ q,W.cell? ⟨G+1,q,none⟩=#[Value.int .i64 1,.int .i64 0,.slice none 0 0,.slice none 0 0,.string (zaT [s,t] p),.int .i64 ((j:Int)+1)][q]?:=fun W hW=>(y.frm hW hne1).cell;have bG:∀ W,Frm (fun b=>b=Z) wH W->∀ q,W.cell? ⟨G+1+1,q,none⟩=#[Value.int .i64 f.al,.slice Y q1 e1,.slice Y' I D][q]?:=fun W hW=>(H.frm hW hne2).cell;have hS0:Frm (fun b=>b=Z) wH wH.drew:=⟨rfl,rfl,rfl,cY _,fun _ _ _=>rfl⟩;have hf8:=za (ziF wH Z (.int .i64 1) (.int .i64 0) (.slice none 0 0) (.slice none 0 0) (.string (zaT [s,t] p)) (.int .i64 ((j:Int)+1)));clear y H hb8 hb9' hxw hne1 hne2;go_wp2_with fail
     refine zbm (fun Y=>Frm (fun b=>b=Z) wH Y) [3] (zw.of [0,1,2,3]) kM kM kM kM kM (fun _ _ _ _ _ h=>h) hS0 ?_;refine zbO (v:=?_) rfl rfl rfl rfl (fun X hX=>?_) ?_
     rotate_left
     focus (go_simp<;>with_reducible rfl)
     refine pT ?_;refine zbO (v:=?_) rfl rfl rfl rfl (fun X hX=>?_) ?_
     rotate_left
     focus (go_simp<;>with_reducible rfl)
     refine pT ?_;refine zd fun K hK=>?_;go_simp;refine hK.out _ _ hf8.out.drew ?_;refine pT ?_;refine zb fun K hK=>?_;go_simp;refine hK.out _ _ ?_;refine ze ?_;go_wp2_with fail
     have cf2:=F2.out.cell;have cf3:=F3.out.cell;exact bodyPost_ret (v:=.tuple #[.agg #[(1:Int),(0:Int),(),(),.string (zaT [s,t] p),((j:Int)+1:Int)],.agg #[f.al,.slice Y q1 e1,.slice Y' I D]]) (by simp [results,Tryz.results162,go_sem,cf2,cf3]) rfl F1.out
    ·have e0:(J.2==0)=false:=by simpa using hJ0
     have e2:(J.2==1)=false:=by simpa using hJ1
     have bA:=za (show runT s t p L (K - (j+1)) (j+1) (zfa L (zy s p L) rs cs J.1)=ag by
      have:=z.out;rw [if_neg hJ0,if_neg hJ1] at this;exact this)
     clear hJ0 hJ1 z;have bq:=bJ wE g;have bC:=ad.cell;have bp:=za (show TabAt wE R nr C nc rs cs from ⟨_,_,_,_,dY a0,dY aZ⟩);go_upto_region 24 with (first
      |(go_at_call 195;refine (cq.out _ _ _ _ _ _ rs cs J.1 _ g bp.out bs.out ai ah bd.out (oH bW.out)).mono ?_;intro e wF hret;obtain⟨aj,aU,aT,R2,aG,C2,aF,rfl,b4,b0,bt⟩:=hret.fill (w0:=w2) g.size;clear hret))
     have b7:=za (zfp.learn bs.out J.1);generalize zfa L (zy s p L) rs cs J.1=oL at *;generalize U0:wF.alloc _=wG at *;have aa:=iI U0;have bR:=dW U0;clear U0;have az:=aj.trans aa;have M:=ad.ext az;have O:=l.ext az;have af:=Q.ext az;have cg:=g.trans az;have cE:=bR.cell;have ch:=M.cell;have bU:=M.frozen;have i:Frm (fun b=>b=G) wG ((wG.setCell G (.slice R2 aU aG)).setCell ⟨G,1,none⟩ (.slice C2 aT aF)):=(dE wG _ 0 _).trans (dE _ _ 1 _);have bX:TabM w2 ((wG.setCell G (.slice R2 aU aG)).setCell ⟨G,1,none⟩ (.slice C2 aT aF)) G oL:=
      ⟨aU,aT,R2,aG,C2,aF,by simpa using (M.ab 0 (.slice R2 aU aG)).ab 1 (.slice C2 aT aF),b4,b0,fun rs' cs' e=>by
       have h1:=zg (bt rs' cs' e).1 aa;have h2:=zg (bt rs' cs' e).2 aa;exact⟨zf h1 i (fun b hv e'=>zq h1 M dM hv e'),zf h2 i (fun b hv e'=>zq h2 M dM hv e')⟩⟩
     have y:=O.frm i oM;have H:=af.frm i oM;have ab:=cg.frm i (fun k hk e=>oM);clear bq bC ad l Q a0 aZ U M O af i bR bt;go_upto_region 25 with fail
     generalize (wG.setCell G (.slice R2 aU aG)).setCell ⟨G,1,none⟩ (.slice C2 aT aF)=wH at *;clear cE ch bU;have b5:((j:Int)+1)=((j+1:Nat):Int):=oM;rw [b5] at y;have bz:=za (roAt_blk y);clear b5;go_wp2_with fail
     go_roundw
     case rel=>exact⟨oL,j+1,f.al,Y,q1,e1,Y',I,D,rfl,oM,b7,bA,bX,y,H,ab⟩
     case measure=>have h1:=b6.out;have h2:=bz.out;omega
  ·have aK:=za (show ag=⟨2,noA,⟨#[]⟩,j⟩ by
    rw [← be.out];exact runT_end hgo)
   have hb8:=(b8.ext (a.trans aS));have hb9':=(b9.ext (a.trans aS));have hon:zX wr w.heap.size none 0 0 none 0 0 noA:=⟨⟨[],World.ownsRow_nil _ _ _ _,zG.nil _ _⟩,rfl,World.ownsRow_nil _ _ _ _,rfl⟩;have hflag:(o.isSome&&decide ((j:Int)<(K:Int)))=false:=by
    rw [Bool.eq_false_iff];intro h;simp only [dF,decide_eq_true_eq] at h;exact hgo ⟨h.1,oM⟩
   have hxw:=hx0.trans (a.trans aS);have hd:Ext wr wr.drew:=(cW wr).drew;obtain⟨f1,f2,f3⟩:=zgs (v:=⟨2,noA,⟨#[]⟩,j⟩) (x:=x) (X:=X) (k1:=k1) (d1:=d1) (X':=X') (k1':=k1') (d1':=d1') hxw hb8 hb9' rfl rfl oM hon;have F1:=za (zcI.cast aK.out f1.out.drew);clear f1;simp only [noA] at F1 f2 f3;have F2:=za f2;have F3:=za f3;clear f2 f3;have k8:=hb8.cell;have z8:=hb8.frozen;have k9:=hb9'.cell;have z9:=hb9'.frozen;have dl:=hx0.size;have hne1:G+1≠Z:=oH a.size;have hne2:G+1+1≠Z:=oH a.size;have bF:∀ W,Frm (fun b=>b=Z) wr W->∀ q,W.cell? ⟨G+1,q,none⟩=#[Value.int .i64 2,.int .i64 0,.slice none 0 0,.slice none 0 0,.string ⟨#[]⟩,.int .i64 j][q]?:=fun W hW=>(E.frm hW hne1).cell;have bG:∀ W,Frm (fun b=>b=Z) wr W->∀ q,W.cell? ⟨G+1+1,q,none⟩=#[Value.int .i64 x,.slice X k1 d1,.slice X' k1' d1'][q]?:=fun W hW=>(ae.frm hW hne2).cell;have hS0:Frm (fun b=>b=Z) wr wr.drew:=⟨rfl,rfl,rfl,cY _,fun _ _ _=>rfl⟩;have hf8:=za (ziF wr (Z) (.int .i64 2) (.int .i64 0) (.slice none 0 0) (.slice none 0 0) (.string ⟨#[]⟩) (.int .i64 j));cases ho:o.isSome
   ·have Ho:=za ho;rw [ho] at hflag;exact yQ14a4
   ·have cU:¬ ((j:Int)<(K:Int)):=fun h=>hgo ⟨ho,oM⟩;have Ho:=za ho;exact yQ14a4
end
def RetVd (w:World) (v:Vd) (e:Ending) (w':World):Prop:=
 ∃ (A:Option Addr) (n c:Nat) (A':Option Addr) (n' c':Nat),
  e=.returned (.agg #[v.code,v.asm.al,.slice A n c,.slice A' n' c',v.tr,v.ro])∧zX w' w.heap.size A n c A' n' c' v.asm∧Ext w w'
section
variable {w:World} {lo hi n c lo1 hi1 m d m' d' lo2 hi2 k c2:Nat} {A B B' C:Option Addr} {s t:Sys} {p:Aut}
theorem zcD {v:Vd} (HR:Hid (∀ W,Ext w W->Calls Tryz.prog 162 #[.agg #[s.al,s.st,.slice A n c],.agg #[t.al,t.st,.slice C k c2],.agg #[p.al,.slice B m d,.slice B' m' d'],(12:Int)] W (zcI W v))) :
  Calls Tryz.prog 126 #[.agg #[s.al,s.st,.slice A n c],.agg #[t.al,t.st,.slice C k c2],.agg #[p.al,.slice B m d,.slice B' m' d']] w
   (RetVd w v):=by
 obtain⟨E,U0⟩:∃ x,Hid ((((w.alloc (.cells #[s.al,s.st,.slice A n c] 39)).alloc (.cells #[t.al,t.st,.slice C k c2] 39)).alloc (.cells #[p.al,.slice B m d,.slice B' m' d'] 26)).alloc (.cells #[(0:Int),(0:Int),(),(),.string ⟨#[]⟩,(0:Int)] 139)=x):=⟨_,za rfl⟩;have hx0:Ext w E:=(((((cW _).alloc _).alloc _).alloc _).alloc _).trans (fQ U0.out);obtain⟨b1,F,G⟩:=zN (((cW _).alloc _).trans (fQ U0.out));have D:=dW U0.out;simp only [World.size_alloc] at D
 go_enter Tryz.func126,Tryz.ntmps126
 go_upto_region 1 with fail
 rw [U0.out] at *;have c1:=b1.cell;have r:=F.cell;have I:=G.cell;go_upto_region 2 with (first
  |(go_at_call 162;refine (HR.out E hx0).mono ?_;rintro e z ⟨b,h,k1,f,i,g,x,X,J,d1,X',y,d1',rfl,ho,hx1⟩;clear c1 r I))
 have H:=(dT z 139 #[v.code,v.asm.al,.slice b h k1,.slice f i g,v.tr,v.ro]).ext ((cW _).alloc (.cells #[x,.slice X J d1,.slice X' y d1'] 26));generalize U0:(z.alloc _).alloc _=w2 at *;have hx2:=((cW z).alloc (.cells #[v.code,v.asm.al,.slice b h k1,.slice f i g,v.tr,v.ro] 139)).trans (iI U0);clear U0;have a:=D.ext (hx1.trans hx2);have O:=H.cell;have M:=a.cell;have L:=a.frozen;have l:=ho.ext hx2;have u:=ziF w2 (w.heap.size+1+1+1) (.int .i64 v.code) (.int .i64 v.asm.al) (.slice b h k1) (.slice f i g) (.string v.tr) (.int .i64 v.ro);have j:Blk ((((((w2.setCell ⟨w.heap.size+1+1+1,0,none⟩ v.code).setCell ⟨w.heap.size+1+1+1,1,none⟩ v.asm.al).setCell ⟨w.heap.size+1+1+1,2,none⟩ (.slice b h k1)).setCell ⟨w.heap.size+1+1+1,3,none⟩ (.slice f i g)).setCell ⟨w.heap.size+1+1+1,4,none⟩ v.tr).setCell ⟨w.heap.size+1+1+1,5,none⟩ v.ro) (w.heap.size+1+1+1) 139 #[.int .i64 v.code,.int .i64 v.asm.al,.slice b h k1,.slice f i g,.string v.tr,.int .i64 v.ro]:=by
  simpa using (((((a.ab 0 (.int .i64 v.code)).ab 1 (.int .i64 v.asm.al)).ab 2 (.slice b h k1)).ab 3 (.slice f i g)).ab 4 (.string v.tr)).ab 5 (.int .i64 v.ro)
 have o:=(l.ay a u dM).less hx0.size;have q:=(hx0.trans (hx1.trans hx2)).frm u (fun k hk e=>oM);have hret:=za (show RetVd w v (.returned (.agg #[v.code,v.asm.al,.slice b h k1,.slice f i g,v.tr,v.ro])) _ from ⟨b,h,k1,f,i,g,rfl,o,q⟩);have cf:=za j;clear a l ho o q u j;go_wp2_with fail
 have cf:=cf.out.cell;exact bodyPost_ret (v:=.agg #[v.code,v.asm.al,.slice b h k1,.slice f i g,v.tr,v.ro]) (by simp [results,Tryz.results126,go_sem,cf]) rfl hret.out
theorem zhf (hs:zR w lo hi A n s)(hp:zI w lo1 hi1 B m B' m' p)(ht:zR w lo2 hi2 C k t)(hif:iface s p t=(L:Int))(hn:n<=1000000)(hhi:hi<=w.heap.size) :
  Calls Tryz.prog 126 #[.agg #[s.al,s.st,.slice A n c],.agg #[t.al,t.st,.slice C k c2],.agg #[p.al,.slice B m d,.slice B' m' d']] w
   (RetVd w (runT s t p L 12 0 ((zaY L (zy s p L) [⟨#[]⟩] 11 [⟨#[]⟩]).map fun r=>(r,[⟨#[]⟩])))):=
 zcD (za (fun W (hW:Ext w W)=>spec_l12Run (K:=12) (hs.ext hW) (hp.ext hW) (ht.ext hW) hif hn (dJ hhi hW.size) oM))
end
theorem runT_size (hL:L<64)(hst:zE [s,t]=true)(hp:zh p=true) (f:Nat):∀ (k:Nat) (o:Option (List ByteArray × List ByteArray)),zfp L (zy s p L) o->(runT s t p L f k o).asm.size<=1048576∧(runT s t p L f k o).tr.size<=4000:=by
 induction f with
 |zero=>exact fun k o _=>⟨by show noA.size<=_;decide,dD _⟩
 |succ f ih =>
  intro k o ho
  match o with
  |none=>exact⟨by show noA.size<=_;decide,dD _⟩
  |some (rs,cs) =>
   obtain⟨b,a⟩:=ho rs cs rfl;rw [runT];split
   ·exact⟨zda (zdL b a hL),dD _⟩
   ·split
    ·refine⟨by show noA.size<=_;decide,?_⟩;have h:=(zfr hst hp).2;have c:16 ^ [s,t].length*12=3072:=sM;show (zaT [s,t] p).size<=4000;omega
    ·exact ih _ _ (zfp.learn b _)
theorem zat (W:World) (Z:Nat) (u0 u1 u2 u3 u4:Value):Frm (fun k=>k=Z) W (((((W.setCell Z u0).setCell ⟨Z,1,none⟩ u1).setCell ⟨Z,2,none⟩ u2).setCell ⟨Z,3,none⟩ u3).setCell ⟨Z,4,none⟩ u4):=
 ((((dE W Z 0 u0).trans (dE _ Z 1 u1)).trans (dE _ Z 2 u2)).trans (dE _ Z 3 u3)).trans (dE _ Z 4 u4)
theorem zP {t:TypeId}(h:Blk w Z t cs)(hc:cs.size=5) (u0 u1 u2 u3 u4:Value):Blk (((((w.setCell Z u0).setCell ⟨Z,1,none⟩ u1).setCell ⟨Z,2,none⟩ u2).setCell ⟨Z,3,none⟩ u3).setCell ⟨Z,4,none⟩ u4) Z t #[u0,u1,u2,u3,u4]:=by
 obtain⟨l⟩:=cs
 match l,hc with
 |[a,b,c,d,e],_=>simpa using ((((h.ab 0 u0).ab 1 u1).ab 2 u2).ab 3 u3).ab 4 u4
def zcH (w:World) (hd:Bool) (a:Aut) (s:ByteArray) (b:Bool) (e:Ending) (w':World):Prop:=
 ∃ A n c A' n' c',e=.returned (.tuple #[.agg #[.bool hd,a.al,.slice A n c,.slice A' n' c',s],.bool b])∧zX w' w.heap.size A n c A' n' c' a∧Ext w w'
def aut0:Aut:=⟨0,[],[]⟩
theorem zbu (w:World) (base:Nat):zX w base none 0 0 none 0 0 aut0:=⟨⟨[],World.ownsRow_nil _ _ _ _,zG.nil _ _⟩,rfl,World.ownsRow_nil _ _ _ _,rfl⟩
def okC (cd:Int) (a:Aut) (s:ByteArray):Bool:=(decide (cd=0) || decide (cd=1))&&zC (decide (cd=0)) a s
theorem okC0 (a:Aut) (s:ByteArray):okC 0 a s=zC true a s:=by simp [okC]
theorem okC1 (a:Aut) (s:ByteArray):okC 1 a s=zC false a s:=by simp [okC]
def NewC (w W:World) (G:Nat) (hd:Bool) (a:Aut) (s:ByteArray) (B:Option Addr) (m d:Nat) (B':Option Addr) (m' d':Nat):Prop:=
 Blk W G 28 #[.bool hd,a.al,.slice B m d,.slice B' m' d',s]∧zX W w.heap.size B m d B' m' d' a∧Ext w W∧w.heap.size<=G
theorem zX.aw {w':World}       (h:zX w base A n c A' n' c' a)(hB:Blk w G 28 cs)(hf:Frm (fun k=>k=G) w w'):zX w' base A n c A' n' c' a:=by
 obtain⟨⟨d,f,g⟩,m,j,o⟩:=h;exact⟨⟨d,zf f hf (fun b hb e=>zq f hB dM hb e),g.frm hf (fun i row b hr hb e=>by
  obtain⟨l,_,ho⟩:=g.row hr;exact zq ho hB dM hb e)⟩,m,zf j hf (fun b hb e=>zq j hB dM hb e),o⟩
theorem yQ14a2 {P:Prop}(h:P:=by
 have c1:=fun W (hW:Ext w2 W)=>(b1.ext hW).cell;have hww:=Ext.refl w2;refine uR (fun X=>Ext w2 X) [10] (zw.app [0,1,2,3,4,6,7] (zw.two 5 (zw.of [8,9,10]) 9 (zw.of [5,8,10]))) ?_;refine uQ ?_;have hx0:Ext w2 w2.drew:=hww.drew;generalize w2.drew=wd at *;refine zm (fun K hK=>?_) (fun K hK=>?_)
 ·go_simp;refine (zan (HS.out _ (hw2.trans hx0)) hs).mono ?_;rintro e w4 ⟨B,m,d,B',m',d',rfl,own4,hx4⟩;replace own4:=own4.less hx0.size;replace hx0:=hx0.trans hx4;refine hK.out _ _ hx0 ?_;refine pT ?_;refine uQ ?_;refine zd fun K hK=>?_;go_simp;have hx1:=(Ext.refl w4).alloc (.cells #[.bool false,(0:Int),(),(),.string ⟨#[]⟩] 28);have hG:=hx0.size;replace own4:=own4.ext hx1;replace hx0:=hx0.trans hx1;refine hK.out _ _ hx0 ?_;generalize U0:w4.alloc _=wg at *;have hb:=Ext.bl_ U0;clear U0;generalize w4.heap.size=G at *;refine pT ?_;refine uQ ?_;have cG:=hb.cell;have fG:=hb.frozen;refine zb fun K hK=>?_;go_simp;refine hK.out _ _ ?_;refine ze ?_;have hfl:=zat wg G (.bool true) (.int .i64 a.al) (.slice B m d) (.slice B' m' d') (.string s);have zjf:NewC w2 (((((wg.setCell G (.bool true)).setCell ⟨G,1,none⟩ a.al).setCell ⟨G,2,none⟩ (.slice B m d)).setCell ⟨G,3,none⟩ (.slice B' m' d')).setCell ⟨G,4,none⟩ s) G true a s B m d B' m' d':=⟨zP hb rfl _ _ _ _ _,own4.aw hb hfl,hx0.frm hfl (fun k hk e=>oM),hG⟩;go_wp2_with fail
  go_meet;exact⟨G,_,_,_,_,_,_,rfl,zjf⟩
 ·go_simp;have hx1:=(Ext.refl wd).alloc (.cells #[.bool false,(0:Int),(),(),.string ⟨#[]⟩] 28);have hG:=hx0.size;replace hx0:=hx0.trans hx1;refine hK.out _ _ hx0 ?_;generalize U0:wd.alloc _=wg at *;have hb:=Ext.bl_ U0;clear U0;generalize wd.heap.size=G at *;refine pT ?_;refine uQ ?_;refine zd fun K hK=>?_;go_simp;refine (zan (HS.out _ (hw2.trans hx0)) hs).mono ?_;rintro e w4 ⟨B,m,d,B',m',d',rfl,own4,hx4⟩;replace own4:=own4.less hx0.size;replace hb:=hb.ext hx4;replace hx0:=hx0.trans hx4;refine hK.out _ _ hx0 ?_;refine pT ?_;refine uQ ?_;have cG:=hb.cell;have fG:=hb.frozen;refine zb fun K hK=>?_;go_simp;refine hK.out _ _ ?_;refine ze ?_;have hfl:=zat w4 G (.bool true) (.int .i64 a.al) (.slice B m d) (.slice B' m' d') (.string s);have zjf:NewC w2 (((((w4.setCell G (.bool true)).setCell ⟨G,1,none⟩ a.al).setCell ⟨G,2,none⟩ (.slice B m d)).setCell ⟨G,3,none⟩ (.slice B' m' d')).setCell ⟨G,4,none⟩ s) G true a s B m d B' m' d':=⟨zP hb rfl _ _ _ _ _,own4.aw hb hfl,hx0.frm hfl (fun k hk e=>oM),hG⟩;go_wp2_with fail
  go_meet;exact⟨G,_,_,_,_,_,_,rfl,zjf⟩
 ):P:=h
theorem zdY {s:ByteArray} (h:zI w lo hi A n A' n' a)(hs:a.size<=1048576)(hs9:s.size<=9223372036854775807)(hv:zC true a s=true) :
  Calls Tryz.prog 125 #[.agg #[(0:Int),a.al,.slice A n c,.slice A' n' c',s,ro]] w (zcH w true a s true):=by
 have Hv:=za hv;clear hv;have HS:=za (fun W (hW:Ext w W)=>h.ext hW);have g:=hs;clear h
 go_enter Tryz.func125,Tryz.ntmps125
 go_upto_region 1 with fail
 generalize U0:(w.alloc _).alloc _=w2 at *;obtain⟨hw2,b1,bz⟩:=gI U0;have f:w.heap.size+2=w2.heap.size:=by rw [← U0];simp
 clear U0
 go_cut [4] (fun v wx=>∃ G B m d B' m' d',v=.pointer (some ⟨G,0,none⟩)∧NewC w2 wx G true a s B m d B' m' d')
 case first =>
  exact yQ14a2
 case rest =>
  obtain⟨G,B,m,d,B',m',d',rfl,hb,own4,hx2,hG⟩:=hcut;have kG:=hb.cell;have k1:=(b1.ext hx2).cell;go_wp2_with fail
  refine (zax _ _ _ _ _ _ _ _ _ _ _ _ own4.reads hs9).mono ?_;rw [Hv.out];rintro e w5 ⟨rfl,hx5⟩;clear kG k1;replace hb:=hb.ext hx5;replace own4:=own4.ext hx5;replace hx2:=hx2.trans hx5;have kG:=hb.cell;have k1:=(b1.ext hx2).cell;have hbz:=bz.ext hx2;have cZ:=hbz.cell;have fZ:=hbz.frozen;have hfl:=zat w5 (w.heap.size+1) (.bool true) (.int .i64 a.al) (.slice B m d) (.slice B' m' d') (.string s);have hbf:=zP hbz rfl (.bool true) (.int .i64 a.al) (.slice B m d) (.slice B' m' d') (.string s);have hxf:=(hw2.trans hx2).frm hfl (fun k hk e=>oM);have zjf:=za (show zcH w true a s true (.returned (.tuple #[.agg #[.bool true,a.al,.slice B m d,.slice B' m' d',s],.bool true])) (((((w5.setCell ⟨w.heap.size+1,0,none⟩ (.bool true)).setCell ⟨w.heap.size+1,1,none⟩ a.al).setCell ⟨w.heap.size+1,2,none⟩ (.slice B m d)).setCell ⟨w.heap.size+1,3,none⟩ (.slice B' m' d')).setCell ⟨w.heap.size+1,4,none⟩ s) from ⟨B,m,d,B',m',d',rfl,(own4.aq hfl (fun b h1 e=>oM)).less oM,hxf⟩);go_wp2_with fail
  generalize (((((w5.setCell ⟨w.heap.size+1,0,none⟩ (.bool true)).setCell ⟨w.heap.size+1,1,none⟩ a.al).setCell ⟨w.heap.size+1,2,none⟩ (.slice B m d)).setCell ⟨w.heap.size+1,3,none⟩ (.slice B' m' d')).setCell ⟨w.heap.size+1,4,none⟩ s)=wf at *;have cf:=hbf.cell;exact bodyPost_ret (v:=.tuple #[.agg #[.bool true,a.al,.slice B m d,.slice B' m' d',s],.bool true]) (by simp [results,Tryz.results125,go_sem,cf]) rfl zjf.out
theorem yQ14b1 {P:Prop}(h:P:=by
 have cf:=hbf.cell;exact bodyPost_ret (v:=.tuple #[.agg #[.bool false,(0:Int),(),(),.string ⟨#[]⟩],.bool false]) (by simp [results,Tryz.results125,go_sem,cf]) rfl zjf.out
 ):P:=h
theorem yQ14a3 {P:Prop}(h:P:=by
 obtain⟨G,B,m,d,B',m',d',rfl,hb,own4,hx2,hG⟩:=hcut;have kG:=hb.cell;have k1:=(b1.ext hx2).cell;go_wp2_with fail
 refine (zax _ _ _ _ _ _ _ _ _ _ _ _ own4.reads hs9).mono ?_;rw [Hv.out];rintro e w5 ⟨rfl,hx5⟩;clear kG k1;replace hb:=hb.ext hx5;replace own4:=own4.ext hx5;replace hx2:=hx2.trans hx5;have kG:=hb.cell;have k1:=(b1.ext hx2).cell;have hbz:=bz.ext hx2;have cZ:=hbz.cell;have fZ:=hbz.frozen;have hfl:=zat w5 (w.heap.size+1) (.bool false) (.int .i64 0) (.slice none 0 0) (.slice none 0 0) (.string ⟨#[]⟩);have hbf:=zP hbz rfl (.bool false) (.int .i64 0) (.slice none 0 0) (.slice none 0 0) (.string ⟨#[]⟩);have hxf:=(hw2.trans hx2).frm hfl (fun k hk e=>oM);have zjf:=za (show zcH w false aut0 ⟨#[]⟩ false (.returned (.tuple #[.agg #[.bool false,(0:Int),(),(),.string ⟨#[]⟩],.bool false])) (((((w5.setCell ⟨w.heap.size+1,0,none⟩ (.bool false)).setCell ⟨w.heap.size+1,1,none⟩ (0:Int)).setCell ⟨w.heap.size+1,2,none⟩ ()).setCell ⟨w.heap.size+1,3,none⟩ ()).setCell ⟨w.heap.size+1,4,none⟩ (.string ⟨#[]⟩)) from ⟨none,0,0,none,0,0,rfl,zbu _ _,hxf⟩);go_wp2_with fail
 generalize (((((w5.setCell ⟨w.heap.size+1,0,none⟩ (.bool false)).setCell ⟨w.heap.size+1,1,none⟩ (0:Int)).setCell ⟨w.heap.size+1,2,none⟩ ()).setCell ⟨w.heap.size+1,3,none⟩ ()).setCell ⟨w.heap.size+1,4,none⟩ (.string ⟨#[]⟩))=wf at *;exact yQ14b1
 ):P:=h
theorem zdX {s:ByteArray} (h:zI w lo hi A n A' n' a)(hs:a.size<=1048576)(hs9:s.size<=9223372036854775807)(hv:zC true a s=false) :
  Calls Tryz.prog 125 #[.agg #[(0:Int),a.al,.slice A n c,.slice A' n' c',s,ro]] w (zcH w false aut0 ⟨#[]⟩ false):=by
 have Hv:=za hv;clear hv;have HS:=za (fun W (hW:Ext w W)=>h.ext hW);have f:=hs;clear h
 go_enter Tryz.func125,Tryz.ntmps125
 go_upto_region 1 with fail
 generalize U0:(w.alloc _).alloc _=w2 at *;obtain⟨hw2,b1,bz⟩:=gI U0;have b:w.heap.size+2=w2.heap.size:=by rw [← U0];simp
 clear U0
 go_cut [4] (fun v wx=>∃ G B m d B' m' d',v=.pointer (some ⟨G,0,none⟩)∧NewC w2 wx G true a s B m d B' m' d')
 case first =>
  exact yQ14a2
 case rest =>
  exact yQ14a3
theorem yQ14a1 {P:Prop}(h:P:=by
 have c1:=fun W (hW:Ext w2 W)=>(b1.ext hW).cell;have hww:=Ext.refl w2;refine uR (fun X=>Ext w2 X) [10] (zw.app [0,1,2,3,4,6,7] (zw.two 5 (zw.of [8,9,10]) 9 (zw.of [5,8,10]))) ?_;refine uQ ?_;have hx0:Ext w2 w2.drew:=hww.drew;generalize w2.drew=wd at *;refine zm (fun K hK=>?_) (fun K hK=>?_)
 ·go_simp;refine (zan (HS.out _ (hw2.trans hx0)) hs).mono ?_;rintro e w4 ⟨B,m,d,B',m',d',rfl,own4,hx4⟩;replace own4:=own4.less hx0.size;replace hx0:=hx0.trans hx4;refine hK.out _ _ hx0 ?_;refine pT ?_;refine uQ ?_;refine zd fun K hK=>?_;go_simp;have hx1:=(Ext.refl w4).alloc (.cells #[.bool false,(0:Int),(),(),.string ⟨#[]⟩] 28);have hG:=hx0.size;replace own4:=own4.ext hx1;replace hx0:=hx0.trans hx1;refine hK.out _ _ hx0 ?_;generalize U0:w4.alloc _=wg at *;have hb:=Ext.bl_ U0;clear U0;generalize w4.heap.size=G at *;refine pT ?_;refine uQ ?_;have cG:=hb.cell;have fG:=hb.frozen;refine zb fun K hK=>?_;go_simp;refine hK.out _ _ ?_;refine ze ?_;have hfl:=zat wg G (.bool false) (.int .i64 a.al) (.slice B m d) (.slice B' m' d') (.string s);have zjf:NewC w2 (((((wg.setCell G (.bool false)).setCell ⟨G,1,none⟩ a.al).setCell ⟨G,2,none⟩ (.slice B m d)).setCell ⟨G,3,none⟩ (.slice B' m' d')).setCell ⟨G,4,none⟩ s) G false a s B m d B' m' d':=⟨zP hb rfl _ _ _ _ _,own4.aw hb hfl,hx0.frm hfl (fun k hk e=>oM),hG⟩;go_wp2_with fail
  go_meet;exact⟨G,_,_,_,_,_,_,rfl,zjf⟩
 ·go_simp;have hx1:=(Ext.refl wd).alloc (.cells #[.bool false,(0:Int),(),(),.string ⟨#[]⟩] 28);have hG:=hx0.size;replace hx0:=hx0.trans hx1;refine hK.out _ _ hx0 ?_;generalize U0:wd.alloc _=wg at *;have hb:=Ext.bl_ U0;clear U0;generalize wd.heap.size=G at *;refine pT ?_;refine uQ ?_;refine zd fun K hK=>?_;go_simp;refine (zan (HS.out _ (hw2.trans hx0)) hs).mono ?_;rintro e w4 ⟨B,m,d,B',m',d',rfl,own4,hx4⟩;replace own4:=own4.less hx0.size;replace hb:=hb.ext hx4;replace hx0:=hx0.trans hx4;refine hK.out _ _ hx0 ?_;refine pT ?_;refine uQ ?_;have cG:=hb.cell;have fG:=hb.frozen;refine zb fun K hK=>?_;go_simp;refine hK.out _ _ ?_;refine ze ?_;have hfl:=zat w4 G (.bool false) (.int .i64 a.al) (.slice B m d) (.slice B' m' d') (.string s);have zjf:NewC w2 (((((w4.setCell G (.bool false)).setCell ⟨G,1,none⟩ a.al).setCell ⟨G,2,none⟩ (.slice B m d)).setCell ⟨G,3,none⟩ (.slice B' m' d')).setCell ⟨G,4,none⟩ s) G false a s B m d B' m' d':=⟨zP hb rfl _ _ _ _ _,own4.aw hb hfl,hx0.frm hfl (fun k hk e=>oM),hG⟩;go_wp2_with fail
  go_meet;exact⟨G,_,_,_,_,_,_,rfl,zjf⟩
 ):P:=h
theorem zea {s:ByteArray} (h:zI w lo hi A n A' n' a)(hs:a.size<=1048576)(hs9:s.size<=9223372036854775807)(hv:zC false a s=true) :
  Calls Tryz.prog 125 #[.agg #[(1:Int),a.al,.slice A n c,.slice A' n' c',s,ro]] w (zcH w false a s true):=by
 have Hv:=za hv;clear hv;have HS:=za (fun W (hW:Ext w W)=>h.ext hW);have g:=hs;clear h
 go_enter Tryz.func125,Tryz.ntmps125
 go_upto_region 1 with fail
 generalize U0:(w.alloc _).alloc _=w2 at *;obtain⟨hw2,b1,bz⟩:=gI U0;have f:w.heap.size+2=w2.heap.size:=by rw [← U0];simp
 clear U0
 go_cut [4] (fun v wx=>∃ G B m d B' m' d',v=.pointer (some ⟨G,0,none⟩)∧NewC w2 wx G false a s B m d B' m' d')
 case first =>
  exact yQ14a1
 case rest =>
  obtain⟨G,B,m,d,B',m',d',rfl,hb,own4,hx2,hG⟩:=hcut;have kG:=hb.cell;have k1:=(b1.ext hx2).cell;go_wp2_with fail
  refine (zax _ _ _ _ _ _ _ _ _ _ _ _ own4.reads hs9).mono ?_;rw [Hv.out];rintro e w5 ⟨rfl,hx5⟩;clear kG k1;replace hb:=hb.ext hx5;replace own4:=own4.ext hx5;replace hx2:=hx2.trans hx5;have kG:=hb.cell;have k1:=(b1.ext hx2).cell;have hbz:=bz.ext hx2;have cZ:=hbz.cell;have fZ:=hbz.frozen;have hfl:=zat w5 (w.heap.size+1) (.bool false) (.int .i64 a.al) (.slice B m d) (.slice B' m' d') (.string s);have hbf:=zP hbz rfl (.bool false) (.int .i64 a.al) (.slice B m d) (.slice B' m' d') (.string s);have hxf:=(hw2.trans hx2).frm hfl (fun k hk e=>oM);have zjf:=za (show zcH w false a s true (.returned (.tuple #[.agg #[.bool false,a.al,.slice B m d,.slice B' m' d',s],.bool true])) (((((w5.setCell ⟨w.heap.size+1,0,none⟩ (.bool false)).setCell ⟨w.heap.size+1,1,none⟩ a.al).setCell ⟨w.heap.size+1,2,none⟩ (.slice B m d)).setCell ⟨w.heap.size+1,3,none⟩ (.slice B' m' d')).setCell ⟨w.heap.size+1,4,none⟩ s) from ⟨B,m,d,B',m',d',rfl,(own4.aq hfl (fun b h1 e=>oM)).less oM,hxf⟩);go_wp2_with fail
  generalize (((((w5.setCell ⟨w.heap.size+1,0,none⟩ (.bool false)).setCell ⟨w.heap.size+1,1,none⟩ a.al).setCell ⟨w.heap.size+1,2,none⟩ (.slice B m d)).setCell ⟨w.heap.size+1,3,none⟩ (.slice B' m' d')).setCell ⟨w.heap.size+1,4,none⟩ s)=wf at *;have cf:=hbf.cell;exact bodyPost_ret (v:=.tuple #[.agg #[.bool false,a.al,.slice B m d,.slice B' m' d',s],.bool true]) (by simp [results,Tryz.results125,go_sem,cf]) rfl zjf.out
theorem zdZ {s:ByteArray} (h:zI w lo hi A n A' n' a)(hs:a.size<=1048576)(hs9:s.size<=9223372036854775807)(hv:zC false a s=false) :
  Calls Tryz.prog 125 #[.agg #[(1:Int),a.al,.slice A n c,.slice A' n' c',s,ro]] w (zcH w false aut0 ⟨#[]⟩ false):=by
 have Hv:=za hv;clear hv;have HS:=za (fun W (hW:Ext w W)=>h.ext hW);have f:=hs;clear h
 go_enter Tryz.func125,Tryz.ntmps125
 go_upto_region 1 with fail
 generalize U0:(w.alloc _).alloc _=w2 at *;obtain⟨hw2,b1,bz⟩:=gI U0;have b:w.heap.size+2=w2.heap.size:=by rw [← U0];simp
 clear U0
 go_cut [4] (fun v wx=>∃ G B m d B' m' d',v=.pointer (some ⟨G,0,none⟩)∧NewC w2 wx G false a s B m d B' m' d')
 case first =>
  exact yQ14a1
 case rest =>
  exact yQ14a3
theorem zeG {s:ByteArray} (h:zI w lo hi A n A' n' a)(hs:a.size<=1048576)(h0:cd≠0)(h1:cd≠1) :
  Calls Tryz.prog 125 #[.agg #[cd,a.al,.slice A n c,.slice A' n' c',s,ro]] w (zcH w false aut0 ⟨#[]⟩ false):=by
 have f:(cd==0)=false:=by simpa using h0
 have g:(cd != 0)=true:=by simpa using h0
 have i:(cd != 1)=true:=by simpa using h1
 clear h0 h1;have HS:=za (fun W (hW:Ext w W)=>h.ext hW);have j:=hs;clear h
 go_enter Tryz.func125,Tryz.ntmps125
 go_upto_region 1 with fail
 generalize U0:(w.alloc _).alloc _=w2 at *;obtain⟨hw2,b1,bz⟩:=gI U0;have b:w.heap.size+2=w2.heap.size:=by rw [← U0];simp
 clear U0
 go_cut [4] (fun v wx=>∃ G B m d B' m' d',v=.pointer (some ⟨G,0,none⟩)∧NewC w2 wx G false a s B m d B' m' d')
 case first =>
  exact yQ14a1
 case rest =>
  obtain⟨G,B,m,d,B',m',d',rfl,hb,own4,hx2,hG⟩:=hcut;have k1:=(b1.ext hx2).cell;have hbz:=bz.ext hx2;have cZ:=hbz.cell;have fZ:=hbz.frozen;have hfl:=zat wc (w.heap.size+1) (.bool false) (.int .i64 0) (.slice none 0 0) (.slice none 0 0) (.string ⟨#[]⟩);have hbf:=zP hbz rfl (.bool false) (.int .i64 0) (.slice none 0 0) (.slice none 0 0) (.string ⟨#[]⟩);have hxf:=(hw2.trans hx2).frm hfl (fun k hk e=>oM);have zjf:=za (show zcH w false aut0 ⟨#[]⟩ false (.returned (.tuple #[.agg #[.bool false,(0:Int),(),(),.string ⟨#[]⟩],.bool false])) (((((wc.setCell ⟨w.heap.size+1,0,none⟩ (.bool false)).setCell ⟨w.heap.size+1,1,none⟩ (0:Int)).setCell ⟨w.heap.size+1,2,none⟩ ()).setCell ⟨w.heap.size+1,3,none⟩ ()).setCell ⟨w.heap.size+1,4,none⟩ (.string ⟨#[]⟩)) from ⟨none,0,0,none,0,0,rfl,zbu _ _,hxf⟩);go_wp2_with fail
  generalize (((((wc.setCell ⟨w.heap.size+1,0,none⟩ (.bool false)).setCell ⟨w.heap.size+1,1,none⟩ (0:Int)).setCell ⟨w.heap.size+1,2,none⟩ ()).setCell ⟨w.heap.size+1,3,none⟩ ()).setCell ⟨w.heap.size+1,4,none⟩ (.string ⟨#[]⟩))=wf at *;exact yQ14b1
def hdX (cd:Int) (a:Aut) (s:ByteArray):Bool:=okC cd a s&&decide (cd=0)
def autX (cd:Int) (a:Aut) (s:ByteArray):Aut:=if okC cd a s then a else aut0
def strX (cd:Int) (a:Aut) (s:ByteArray):ByteArray:=if okC cd a s then s else ⟨#[]⟩
theorem zfe {s:ByteArray} (h:zI w lo hi A n A' n' a)(hs:a.size<=1048576)(hs9:s.size<=9223372036854775807) :
  Calls Tryz.prog 125 #[.agg #[cd,a.al,.slice A n c,.slice A' n' c',s,ro]] w (zcH w (hdX cd a s) (autX cd a s) (strX cd a s) (okC cd a s)):=by
 by_cases h0:cd=0
 ·subst h0;cases hv:zC true a s
  ·have:=zdX h hs hs9 hv (c:=c) (c':=c') (ro:=ro);simpa [hdX,autX,strX,okC0,hv] using this
  ·have:=zdY h hs hs9 hv (c:=c) (c':=c') (ro:=ro);simpa [hdX,autX,strX,okC0,hv] using this
 ·by_cases h1:cd=1
  ·subst h1;cases hv:zC false a s
   ·have:=zdZ h hs hs9 hv (c:=c) (c':=c') (ro:=ro);simpa [hdX,autX,strX,okC1,hv] using this
   ·have:=zea h hs hs9 hv (c:=c) (c':=c') (ro:=ro);simpa [hdX,autX,strX,okC1,hv] using this
  ·have:=zeG h hs h0 h1 (s:=s) (c:=c) (c':=c') (ro:=ro);simpa [hdX,autX,strX,okC,h0,h1] using this
section
variable {w:World} {lo hi n c lo1 hi1 m d m' d' lo2 hi2 k c2:Nat} {A B B' C:Option Addr} {s t:Sys} {p:Aut}
theorem zeH {v:Vd} (HR:Hid (∀ W,Ext w W->Calls Tryz.prog 126 #[.agg #[s.al,s.st,.slice A n c],.agg #[t.al,t.st,.slice C k c2],.agg #[p.al,.slice B m d,.slice B' m' d']] W (RetVd W v)))(hsz:Hid (v.asm.size<=1048576∧v.tr.size<=9223372036854775807)) :
  Calls Tryz.prog 74 #[.agg #[s.al,s.st,.slice A n c],.agg #[t.al,t.st,.slice C k c2],.agg #[p.al,.slice B m d,.slice B' m' d']] w
   (zcH w (hdX v.code v.asm v.tr) (autX v.code v.asm v.tr) (strX v.code v.asm v.tr) (okC v.code v.asm v.tr)):=by
 have hx0:Ext w ((((w.alloc (.cells #[s.al,s.st,.slice A n c] 39)).alloc (.cells #[t.al,t.st,.slice C k c2] 39)).alloc (.cells #[p.al,.slice B m d,.slice B' m' d'] 26)).alloc (.cells #[.bool false,(0:Int),(),(),.string ⟨#[]⟩] 28)):=((((cW _).alloc _).alloc _).alloc _).alloc _;obtain⟨b1,G,H⟩:=zN ((cW _).alloc _:Ext (((w.alloc (.cells #[s.al,s.st,.slice A n c] 39)).alloc (.cells #[t.al,t.st,.slice C k c2] 39)).alloc (.cells #[p.al,.slice B m d,.slice B' m' d'] 26)) ((((w.alloc (.cells #[s.al,s.st,.slice A n c] 39)).alloc (.cells #[t.al,t.st,.slice C k c2] 39)).alloc (.cells #[p.al,.slice B m d,.slice B' m' d'] 26)).alloc (.cells #[.bool false,(0:Int),(),(),.string ⟨#[]⟩] 28)));have q:=dT (((w.alloc (.cells #[s.al,s.st,.slice A n c] 39)).alloc (.cells #[t.al,t.st,.slice C k c2] 39)).alloc (.cells #[p.al,.slice B m d,.slice B' m' d'] 26)) 28 #[.bool false,(0:Int),(),(),.string ⟨#[]⟩];simp only [World.size_alloc] at q
 go_enter Tryz.func74,Tryz.ntmps74
 go_upto_region 1 with fail
 generalize ((((w.alloc _).alloc _).alloc _).alloc _)=D at *;have c1:=b1.cell;have u:=G.cell;have I:=H.cell;have M:=fun W (hW:Ext D W)=>(q.ext hW).cell;have J:∀ W,Ext D W->_:=fun W hW=>(q.ext hW).frozen;go_wp2_with (first
  |(go_at_call 126;refine (HR.out D hx0).mono ?_;rintro e R ⟨S,T,k1,F,Q,k1',rfl,ho,hx1⟩;clear c1 u I)
  |(go_at_call 125;refine (zfe ho.reads hsz.out.1 hsz.out.2).mono ?_;rintro e w2 ⟨g,l,i,h,o,j,rfl,x,hx2⟩;have f:=hx1.trans hx2;have a:=q.ext f;have O:=a.cell;have L:=a.frozen;clear M J))
 have E:Frm (fun b=>b=w.heap.size+1+1+1) w2 (((((w2.setCell ⟨w.heap.size+1+1+1,0,none⟩ (.bool (hdX v.code v.asm v.tr))).setCell ⟨w.heap.size+1+1+1,1,none⟩ (.int .i64 (autX v.code v.asm v.tr).al)).setCell ⟨w.heap.size+1+1+1,2,none⟩ (.slice g l i)).setCell ⟨w.heap.size+1+1+1,3,none⟩ (.slice h o j)).setCell ⟨w.heap.size+1+1+1,4,none⟩ (.string (strX v.code v.asm v.tr))):=((((dE w2 _ 0 _).trans (dE _ _ 1 _)).trans (dE _ _ 2 _)).trans (dE _ _ 3 _)).trans (dE _ _ 4 _);have r:Blk (((((w2.setCell ⟨w.heap.size+1+1+1,0,none⟩ (.bool (hdX v.code v.asm v.tr))).setCell ⟨w.heap.size+1+1+1,1,none⟩ (.int .i64 (autX v.code v.asm v.tr).al)).setCell ⟨w.heap.size+1+1+1,2,none⟩ (.slice g l i)).setCell ⟨w.heap.size+1+1+1,3,none⟩ (.slice h o j)).setCell ⟨w.heap.size+1+1+1,4,none⟩ (.string (strX v.code v.asm v.tr))) (w.heap.size+1+1+1) 28 #[.bool (hdX v.code v.asm v.tr),.int .i64 (autX v.code v.asm v.tr).al,.slice g l i,.slice h o j,.string (strX v.code v.asm v.tr)]:=by
  simpa using ((((a.ab 0 (.bool (hdX v.code v.asm v.tr))).ab 1 (.int .i64 (autX v.code v.asm v.tr).al)).ab 2 (.slice g l i)).ab 3 (.slice h o j)).ab 4 (.string (strX v.code v.asm v.tr))
 have y:=(x.ay a E dM).less (show w.heap.size<=R.heap.size by have:=hx0.size;have:=hx1.size;omega);have z:=(hx0.trans f).frm E (fun k hk e=>oM);have cf:=r.cell;exact bodyPost_ret (v:=.tuple #[.agg #[.bool (hdX v.code v.asm v.tr),.int .i64 (autX v.code v.asm v.tr).al,.slice g l i,.slice h o j,.string (strX v.code v.asm v.tr)],.bool (okC v.code v.asm v.tr)]) (by simp [results,Tryz.results74,go_sem,cf]) rfl ⟨g,l,i,h,o,j,rfl,y,z⟩
end
theorem zde (s t:Sys) (p:Aut):iface s p t = -1∨∃ L:Nat,iface s p t=(L:Int):=by
 unfold iface;split
 ·exact .inr ⟨_,rfl⟩
 ·exact .inl rfl
section
variable {w:World} {lo hi n c lo1 hi1 m d m' d' lo2 hi2 k c2:Nat} {A B B' C:Option Addr} {s t:Sys} {p:Aut}
theorem spec_TaskOf0 (hs:zR w lo hi A n s)(hp:zI w lo1 hi1 B m B' m' p)(ht:zR w lo2 hi2 C k t)(hif:iface s p t = -1) :
  Calls Tryz.prog 191 #[.agg #[s.al,s.st,.slice A n c],.agg #[p.al,.slice B m d,.slice B' m' d'],.agg #[t.al,t.st,.slice C k c2]] w
   fun e w'=>e=.returned (.tuple #[.agg #[(0:Int),(0:Int),(),(0:Int),(),(),(0:Int)],.bool false])∧Ext w w':=by
 have b:=za (fun W (hW:Ext w W)=>zaZ (c:=c) (d1:=d) (d1':=d') (c2:=c2) (hs.ext hW) (hp.ext hW) (ht.ext hW));rw [hif] at b;clear hs hp ht hif;obtain⟨h,U0⟩:∃ x,Hid ((((w.alloc (.cells #[s.al,s.st,.slice A n c] 39)).alloc (.cells #[p.al,.slice B m d,.slice B' m' d'] 26)).alloc (.cells #[t.al,t.st,.slice C k c2] 39)).alloc (.cells #[(0:Int),(0:Int),(),(0:Int),(),(),(0:Int)] 199)=x):=⟨_,za rfl⟩;have hx0:Ext w h:=(((((cW _).alloc _).alloc _).alloc _).alloc _).trans (fQ U0.out);obtain⟨b1,i,j⟩:=zN (((cW _).alloc _).trans (fQ U0.out));have g:=dW U0.out;simp only [World.size_alloc] at g
 go_enter Tryz.func191,Tryz.ntmps191
 go_upto_region 1 with fail
 rw [U0.out] at *;have r:=b1.cells;have q:=i.cells;have u:=j.cells;have hww:=cW h;go_upto_region 3 with (first
  |(go_at_call 45;refine (b.out _ hx0).mono (mQ fun f a=>?_)))
 have bz:=g.ext a;have z:=bz.cell;have y:=bz.frozen;have hxw:=hx0.trans a;have o:Frm (fun k=>k=w.heap.size+1+1+1) f (((((((f.setCell ⟨w.heap.size+1+1+1,0,none⟩ (0:Int)).setCell ⟨w.heap.size+1+1+1,1,none⟩ (0:Int)).setCell ⟨w.heap.size+1+1+1,2,none⟩ ()).setCell ⟨w.heap.size+1+1+1,3,none⟩ (0:Int)).setCell ⟨w.heap.size+1+1+1,4,none⟩ ()).setCell ⟨w.heap.size+1+1+1,5,none⟩ ()).setCell ⟨w.heap.size+1+1+1,6,none⟩ (0:Int)):=
  ((((((dE f _ 0 _).trans (dE _ _ 1 _)).trans (dE _ _ 2 _)).trans (dE _ _ 3 _)).trans (dE _ _ 4 _)).trans (dE _ _ 5 _)).trans (dE _ _ 6 _)
 have l:Blk (((((((f.setCell ⟨w.heap.size+1+1+1,0,none⟩ (0:Int)).setCell ⟨w.heap.size+1+1+1,1,none⟩ (0:Int)).setCell ⟨w.heap.size+1+1+1,2,none⟩ ()).setCell ⟨w.heap.size+1+1+1,3,none⟩ (0:Int)).setCell ⟨w.heap.size+1+1+1,4,none⟩ ()).setCell ⟨w.heap.size+1+1+1,5,none⟩ ()).setCell ⟨w.heap.size+1+1+1,6,none⟩ (0:Int)) (w.heap.size+1+1+1) 199 #[.int .i64 0,.int .i64 0,.slice none 0 0,.int .i64 0,.slice none 0 0,.slice none 0 0,.int .i64 0]:=by
  simpa using ((((((bz.ab 0 (.int .i64 0)).ab 1 (.int .i64 0)).ab 2 (.slice none 0 0)).ab 3 (.int .i64 0)).ab 4 (.slice none 0 0)).ab 5 (.slice none 0 0)).ab 6 (.int .i64 0)
 have hret:=za (hxw.frm o (fun k hk e=>oM));go_wp2_with fail
 generalize (((((((f.setCell ⟨w.heap.size+1+1+1,0,none⟩ (0:Int)).setCell ⟨w.heap.size+1+1+1,1,none⟩ (0:Int)).setCell ⟨w.heap.size+1+1+1,2,none⟩ ()).setCell ⟨w.heap.size+1+1+1,3,none⟩ (0:Int)).setCell ⟨w.heap.size+1+1+1,4,none⟩ ()).setCell ⟨w.heap.size+1+1+1,5,none⟩ ()).setCell ⟨w.heap.size+1+1+1,6,none⟩ (0:Int))=W at *;have cf:=l.cell;exact bodyPost_ret (v:=.tuple #[.agg #[(0:Int),(0:Int),(),(0:Int),(),(),(0:Int)],.bool false]) (by simp [results,Tryz.results191,go_sem,cf]) rfl ⟨rfl,hret.out⟩
theorem spec_l12Run0 (hs:zR w lo hi A n s)(hp:zI w lo1 hi1 B m B' m' p)(ht:zR w lo2 hi2 C k t)(hif:iface s p t = -1) :
  Calls Tryz.prog 162 #[.agg #[s.al,s.st,.slice A n c],.agg #[t.al,t.st,.slice C k c2],.agg #[p.al,.slice B m d,.slice B' m' d'],K] w (zcI w ⟨3,noA,⟨#[]⟩,0⟩):=by
 have r:=za (fun W (hW:Ext w W)=>spec_TaskOf0 (c:=c) (d:=d) (d':=d') (c2:=c2) (hs.ext hW) (hp.ext hW) (ht.ext hW) hif);clear hs hp ht hif;obtain⟨j,U0⟩:∃ x,Hid (((((w.alloc (.cells #[s.al,s.st,.slice A n c] 39)).alloc (.cells #[t.al,t.st,.slice C k c2] 39)).alloc (.cells #[p.al,.slice B m d,.slice B' m' d'] 26)).alloc (.cells #[(0:Int),(0:Int),(),(),.string ⟨#[]⟩,(0:Int)] 139)).alloc (.cells #[(0:Int),(),()] 26)=x):=⟨_,za rfl⟩;have hx0:Ext w j:=((((((cW _).alloc _).alloc _).alloc _).alloc _).alloc _).trans (fQ U0.out);obtain⟨b1,l,o⟩:=zN ((((cW _).alloc _).alloc _).trans (fQ U0.out));have f:=(dT (((w.alloc (.cells #[s.al,s.st,.slice A n c] 39)).alloc (.cells #[t.al,t.st,.slice C k c2] 39)).alloc (.cells #[p.al,.slice B m d,.slice B' m' d'] 26)) 139 #[(0:Int),(0:Int),(),(),.string ⟨#[]⟩,(0:Int)]).ext ((cW _).alloc (.cells #[(0:Int),(),()] 26));have g:=dW U0.out;simp only [World.size_alloc] at f g
 go_enter Tryz.func162,Tryz.ntmps162
 go_upto_region 1 with fail
 rw [U0.out] at *;have z:=b1.cells;have D:=l.cells;have y:=o.cells;have hww:=cW j;go_upto_region 2 with (first
  |(go_at_call 191;refine (r.out _ hx0).mono (mQ fun u a=>?_)))
 generalize U0:u.alloc _=w2 at *;have hx2:Ext j w2:=(a.alloc _).trans (fQ U0);clear U0;have bz:=f.ext hx2;have H:=bz.cell;have F:=bz.frozen;have b:=g.ext hx2;have G:=b.cell;have E:=b.frozen;obtain⟨q,h,i⟩:=zgs (v:=⟨3,noA,⟨#[]⟩,0⟩) (A:=none) (n:=0) (c:=0) (A':=none) (n':=0) (c':=0) (x:=0) (X:=none) (k1:=0) (d1:=0) (X':=none) (k1':=0) (d1':=0) (hx0.trans hx2) bz b rfl rfl oM (zbu _ _);dsimp only [noA] at q h i;have F2:=za h;have F3:=za i;clear h i bz b b1 l o f g;go_wp2_with fail
 generalize (((((((((w2.setCell ⟨w.heap.size+1+1+1,0,none⟩ (3:Int)).setCell ⟨w.heap.size+1+1+1,1,none⟩ (0:Int)).setCell ⟨w.heap.size+1+1+1,2,none⟩ ()).setCell ⟨w.heap.size+1+1+1,3,none⟩ ()).setCell ⟨w.heap.size+1+1+1,4,none⟩ (.string ⟨#[]⟩)).setCell ⟨w.heap.size+1+1+1,5,none⟩ (0:Int)).setCell ⟨w.heap.size+1+1+1+1,0,none⟩ (0:Int)).setCell ⟨w.heap.size+1+1+1+1,1,none⟩ ()).setCell ⟨w.heap.size+1+1+1+1,2,none⟩ ())=W at *;have cf2:=F2.out.cell;have cf3:=F3.out.cell;exact bodyPost_ret (v:=.tuple #[.agg #[(3:Int),(0:Int),(),(),.string ⟨#[]⟩,(0:Int)],.agg #[(0:Int),(),()]]) (by simp [results,Tryz.results162,go_sem,cf2,cf3]) rfl q.out
end
noncomputable def vpT (s t:Sys) (p:Aut):Vd:=
 if iface s p t<0 then ⟨3,noA,⟨#[]⟩,0⟩ else runT s t p (iface s p t).toNat 12 0 ((zaY (iface s p t).toNat (zy s p (iface s p t).toNat) [⟨#[]⟩] 11 [⟨#[]⟩]).map fun r=>(r,[⟨#[]⟩]))
theorem vpT_neg (h:iface s p t = -1):vpT s t p=⟨3,noA,⟨#[]⟩,0⟩:=by unfold vpT;rw [if_pos oM]
theorem vpT_pos (h:iface s p t=(L:Int)):vpT s t p=runT s t p L 12 0 ((zaY L (zy s p L) [⟨#[]⟩] 11 [⟨#[]⟩]).map fun r=>(r,[⟨#[]⟩])):=by
 have e:(iface s p t).toNat=L:=oM;unfold vpT;rw [if_neg oM,e]
theorem zio (h:iface s p t=(L:Int)):L<64:=by
 obtain⟨c,b,a⟩:=zeV (show 0<=iface s p t by omega);rw [iface_nat c b a] at h;have d:=zQ a;have f:((s.al.toNat|||p.al.toNat)&&&t.al.toNat)<=t.al.toNat:=Nat.and_le_right;omega
theorem zjb (s t:Sys) (p:Aut):(vpT s t p).asm.size<=1048576∧(vpT s t p).tr.size<=4000:=by
 rcases zde s t p with h|⟨L,h⟩
 ·rw [vpT_neg h];exact⟨by show noA.size<=_;decide,dD _⟩
 ·rw [vpT_pos h];obtain⟨b,a,c⟩:=zeV (show 0<=iface s p t by omega);exact runT_size (zio h) (by simp [zE,b,c]) a 12 0 _ (zfp.new L _)
theorem runT_asm (hL:L<64) (f:Nat):∀ (k:Nat) (o:Option (List ByteArray × List ByteArray)),zfp L (zy s p L) o->zh (runT s t p L f k o).asm=true∨(runT s t p L f k o).asm=noA:=by
 induction f with
 |zero=>exact fun k o _=>.inr rfl
 |succ f ih =>
  intro k o ho
  match o with
  |none=>exact .inr rfl
  |some (rs,cs) =>
   obtain⟨b,a⟩:=ho rs cs rfl;rw [runT];split
   ·exact .inl (zdL b a hL)
   ·split
    ·exact .inr rfl
    ·exact ih _ _ (zfp.learn b _)
theorem vpT_asm (s t:Sys) (p:Aut):zh (vpT s t p).asm=true∨(vpT s t p).asm=noA:=by
 rcases zde s t p with h|⟨L,h⟩
 ·rw [vpT_neg h];exact .inr rfl
 ·rw [vpT_pos h];exact runT_asm (zio h) 12 0 _ (zfp.new L _)
section
variable {w:World} {lo hi n c lo1 hi1 m d m' d' lo2 hi2 k c2:Nat} {A B B' C:Option Addr} {s t:Sys} {p:Aut}
theorem zgb (hs:zR w lo hi A n s)(hp:zI w lo1 hi1 B m B' m' p)(ht:zR w lo2 hi2 C k t)(hn:n<=1000000)(hhi:hi<=w.heap.size) :
  Calls Tryz.prog 126 #[.agg #[s.al,s.st,.slice A n c],.agg #[t.al,t.st,.slice C k c2],.agg #[p.al,.slice B m d,.slice B' m' d']] w
   (RetVd w (vpT s t p)):=by
 rcases zde s t p with h|⟨L,h⟩
 ·rw [vpT_neg h];exact zcD (za (fun W (hW:Ext w W)=>spec_l12Run0 (K:=12) (hs.ext hW) (hp.ext hW) (ht.ext hW) h))
 ·rw [vpT_pos h];exact zhf hs hp ht h hn hhi
theorem zfz (hs:zR w lo hi A n s)(hp:zI w lo1 hi1 B m B' m' p)(ht:zR w lo2 hi2 C k t)(hn:n<=1000000)(hhi:hi<=w.heap.size) :
  Calls Tryz.prog 74 #[.agg #[s.al,s.st,.slice A n c],.agg #[t.al,t.st,.slice C k c2],.agg #[p.al,.slice B m d,.slice B' m' d']] w
   (zcH w (hdX (vpT s t p).code (vpT s t p).asm (vpT s t p).tr) (autX (vpT s t p).code (vpT s t p).asm (vpT s t p).tr) (strX (vpT s t p).code (vpT s t p).asm (vpT s t p).tr) (okC (vpT s t p).code (vpT s t p).asm (vpT s t p).tr)):=
 zeH (za (fun W (hW:Ext w W)=>zgb (hs.ext hW) (hp.ext hW) (ht.ext hW) hn (dJ hhi hW.size))) (za ⟨(zjb s t p).1,dJ (zjb s t p).2 oM⟩)
end
end Go.Proofs.YtfcjhpodichpjaaGreatDoor
