/- The referenc -/
import Derived.Test.YtckbjnndaaoddaaGreatDoorY09
set_option maxHeartbeats 2000000
set_option maxRecDepth 100000
namespace Go.Proofs.YtckbjnndaaoddaaGreatDoor
open Go Go.RowKit
open Bool renaming and_eq_true->eD
open Ext renaming refl->dE
open Frm renaming setCell->eB
open Int renaming toNat_natCast->fF
open List renaming all_eq_true->fH,eq_nil_of_length_eq_zero->eJ,ext_getElem?->jA,find?_eq_none->jZ,getD_eq_getElem?_getD->eE,getElem?_eq_getElem->dH,getElem?_eq_none->eR,getElem?_map->eM,length_map->eT,length_take->fL,map_map->iO,mem_append->iU,mem_of_getElem?->dG,mem_singleton->fN,nil_append->e9,range->fW,replicate->eQ,take_add_one->eG,take_of_length_le->eF
open Nat renaming eq_zero_or_pos->iL,le_of_lt_succ->gD,le_refl->dI,le_trans->eI,lt_of_lt_of_le->eV,lt_or_eq_of_le->fC,zero_add->eO,zero_le->eC
open Option renaming getD_some->gQ
open Reads renaming af->eW
variable {A:Option Addr} {L b c hi k lo n:Nat} {S:Nat->Prop} {cols l rows:List ByteArray} {f:ByteArray->Bool} {r x:ByteArray} {w:World}
noncomputable def zdI (L:Nat) (f:ByteArray->Bool) (rows cols:List ByteArray) (r:ByteArray):List Int:=(letters L 6).map fun l=>((ziQ (zaA f cols rows) (mkS (zbF f cols (r++zbY l))):Nat):Int)
noncomputable def zcN (L:Nat) (f:ByteArray->Bool) (rows cols:List ByteArray):Aut:=⟨(L:Int),rows.map (zdI L f rows cols),rows.map f⟩
theorem zeE (h:zaJ L f rows cols=none)  {l:Nat}(hr:r∈rows)(hl:l∈letters L 6):mkS (zbF f cols (r++zbY l))∈zaA f cols rows:=by
 unfold zaJ at h;rw [jZ] at h;have:=h (r++zbY l) (List.mem_flatMap.2 ⟨r,hr,List.mem_map.2 ⟨l,hl,rfl⟩⟩);simp only [Bool.not_eq_true',Bool.not_eq_false] at this;exact zaw.1 this
theorem mkS_head (b:Bool) (r:List Bool):∃ h:0<(mkS (b :: r)).size,((((mkS (b :: r))[0]'h).toNat:Int)==43)=b:=by
 have a:0<(mkS (b :: r)).size:=by rw [mkS_size];simp
 refine⟨a,?_⟩;have c:=zcu (mkS (b :: r)) 0 a;rw [zfT,List.map_cons,List.getElem?_cons_zero] at c;have d:=Option.some.inj c;rw [← d];cases b<;>rfl
theorem rowM_head (h:zbX L f rows cols) (x:ByteArray):∃ r,zbF f cols x=f x :: r:=by
 have a:=h.c0
 match cols,a with
 |c :: cs,a =>
  simp at a;subst a;refine⟨cs.map fun c=>f (x++c),?_⟩;unfold zbF;rw [List.map_cons]
  congr 1
  exact congrArg f (ByteArray.append_empty)
section
variable {w0 W W':World} {G:Nat} {al:Int} {v vA:Value} {ls:List (List Int)} {acc:List Bool}
theorem Gra.ar {x:Bool} {g cap:Nat}(h:Gra w0 W G al v ls vA acc)
  (zkf:W'.ownsRow w0.heap.size 4 1 (.slice (some g) (acc.length+1) cap) (acc.length+1) (zak acc++[.bool x]))
  (hg:W.grownBy W' vA.ownBlock) (hat:vA.ownBlock=some g∨g=W.heap.size+1) :
  Hid (W'.cell? ⟨G,2,none⟩=some vA)∧W'.frozen? ⟨G,2,none⟩=false∧Gra w0 (W'.setCell ⟨G,2,none⟩ (.slice (some g) (acc.length+1) cap)) G al v ls (.slice (some g) (acc.length+1) cap) (acc++[x]):=by
 have f:=h.hG;have d:Blk W' G 27 #[.int .i64 al,v,vA]:=(hg.block G h.blk.lt (fun e=>zr h.acc h.blk dM e.symm rfl)).trans h.blk;have u:g≠G:=by
  rcases hat with s|s
  ·exact zr h.acc h.blk dM s
  ·have:=h.blk.lt;omega
 have q:Ext w0 W':=h.ext.grown hg (fun k hk=>(h.acc.lt k hk).1);have j:Frm (fun k=>vA.ownBlock=some k) W W':=Frm.ae hg;obtain⟨c,l,m⟩:=h.own;have t:W'.ownsRow w0.heap.size 110 1 v ls.length c:=zf l j (fun b hb hS=>zas l h.acc dM hb hS);have n:zC W' w0.heap.size c ls:=m.frm j (fun i r b hr hb hS=>by
  obtain⟨y,_,o⟩:=m.row hr;exact zas o h.acc dM hb hS)
 have a:=eB W' G 2 (.slice (some g) (acc.length+1) cap);refine⟨d.cell 2,d.frozen 2,⟨by simpa using d.ab 2 _,⟨c,zf t a (fun b hb hS=>zr t d dM hb hS),n.frm a (fun i r b hr hb hS=>?_)⟩,?_,q.setCell (p:=⟨G,2,none⟩) f _,f⟩⟩
 ·obtain⟨y,_,o⟩:=n.row hr;exact zr o d dM hb hS
 ·rw [List.length_append,List.length_singleton,show zak (acc++[x])=zak acc++[.bool x] by simp [zak]];exact zf zkf a (fun b hv hS=>by
   have:g=b:=by simpa [Value.ownBlock] using hv
   omega)
end
theorem Frm.grown {a w':World} {row:Option Nat}(h:Frm S a w)(hg:w.grownBy w' row)(hr:∀ k,row=some k->a.heap.size<=k):Frm S a w':=
 ⟨hg.os.trans h.os,hg.tape.trans h.tape,hg.output.trans h.output,eI h.size hg.size,fun k hk hS=>(hg.block k (eV hk h.size) (fun e=>by have:=hr k e.symm;omega)).trans (h.block k hk hS)⟩
def RetAutB (w:World) (a:Aut) (e:Ending) (w':World):Prop:=
 ∃ A n c A' n' c',e=.returned (.tuple #[.agg #[a.al,.slice A n c,.slice A' n' c'],.bool true])∧zN w' w.heap.size A n c A' n' c' a∧Ext w w'
section
variable {w W:World} {n c m d m' d' L:Nat} {A B B':Option Addr} {s:Sys} {p:Aut} {nr nc cr cc:Nat} {R C:Option Addr} {rows cols:List ByteArray}
theorem zbQ (h:Tch w A n B m B' m' s p L)(hT:TabAt w R nr C nc rows cols)(hI:zbX L (zo s p L) rows cols)(hcr:nr<=cr)(hcc:nc<=cc)(hcl:zaJ L (zo s p L) rows cols=none) :
  Calls Tryz.prog 58 #[.agg #[.bool false,(0:Int),(),(),s.al,s.st,.slice A n c,p.al,.slice B m d,.slice B' m' d',L],.agg #[.slice R nr cr,.slice C nc cc]] w (RetAutB w (zcN L (zo s p L) rows cols)):=by
 obtain⟨e1,e2⟩:=hT.nr;have bg:=hI.r12;have bd:=hI.c20;rw [e1] at bg;rw [e2] at bd;have bH:=za (fun W (hW:Ext w W)=>zgV (c:=c) (d:=d) (d':=d') (h.ext hW) (hT.ext hW) hI hcr hcc hcl);have HA:=za (fun W (hW:Ext w W)=>zaU (c:=c) (d:=d) (d':=d') (h.ext hW));obtain⟨lo,hi,cW,cN,h1,h2⟩:=hT;have HR:=za (fun W (hW:Ext w W)=>zeM (c:=c) (d:=d) (d':=d') (cc:=cc) (cr:=cr) (h.ext hW) (h2.ext hW) (h1.ext hW) oM oM hI.rsz'.2 hI.rsz'.1);have HW:=za (fun W (hW:Ext w W) (y:ByteArray) hy=>zfz (c:=c) (d:=d) (d':=d') (cc:=cc) (x:=y) (h.ext hW) (h2.ext hW) oM hy hI.rsz'.2);have H1:=za (fun W (hW:Ext w W)=>h1.ext hW);have hL:=h.lt;have bJ:=za (fun x hx=>hI.rin (x:=x) hx);have bK:=za (fun (r:ByteArray) (l:Nat) hr hl=>zeE (r:=r) (l:=l) hcl hr hl);have bI:=za (fun x=>rowM_head hI x);have aG:(zaA (zo s p L) cols rows).length=nr:=by rw [zaA,eT];exact e1
 have br:∀ (i:Nat) (r:ByteArray),rows[i]?=some r->(zaA (zo s p L) cols rows)[i]?=some (mkS (zbF (zo s p L) cols r)):=fun i r hr=>by rw [zaA,eM,hr];rfl
 have bL:=za br;have aD:=za (show zcN L (zo s p L) rows cols=⟨(L:Int),rows.map (zdI L (zo s p L) rows cols),rows.map (zo s p L)⟩ from rfl);have ah:=za (fun r=>show zdI L (zo s p L) rows cols r=(letters L 6).map fun l=>((ziQ (zaA (zo s p L) cols rows) (mkS (zbF (zo s p L) cols (r++zbY l))):Nat):Int) from rfl);generalize zcN L (zo s p L) rows cols=a6 at *;generalize zdI L (zo s p L) rows cols=a at *;generalize zaA (zo s p L) cols rows=zs at *;have af:=za aG;have He:=za e1;clear h h1 h2 hI e1 e2 aG br hcl
 go_enter Tryz.func58,Tryz.ntmps58
 go_upto_region 1 with fail
 generalize U0:((w.alloc _).alloc _).alloc _=w0 at *;obtain⟨Q,b1,b2,b3⟩:=Ext.x3_ U0;clear U0;have CB:=b1.cells;have CT:=b2.cells;have cK:=b3.lt;have ap:=dE w0;go_upto_region 4 with (first
  |(go_at_call 132;refine (bH.out _ Q).mono (mQ fun w1 aN=>?_))
  |(go_at_call 133;refine (HA.out _ (Q.trans aN)).mono (mQ fun w2 bn=>?_);have g:=aN.trans bn))
 have cQ:=g.size;have bp:=(dE w2).alloc (.cells #[.int .i64 (L:Nat),(),()] 27);have f:Gra w2 (w2.alloc (.cells #[.int .i64 (L:Nat),(),()] 27)) w2.heap.size (L:Nat) (.slice none 0 0) [] (.slice none 0 0) []:=
  ⟨Blk.new w2 _ _,⟨[],World.ownsRow_nil _ _ _ _,zC.nil _ _⟩,World.ownsRow_nil _ _ _ _,bp,dI _⟩
 clear bp;generalize hG:w2.heap.size=G at *;generalize w2.alloc _=w3 at *;have HG:=za hG;clear hG;have k3:=f.blk.cell;have Y:Ext w0 w3:=g.trans f.ext;have bD:=fun W (hW:Ext w3 W)=>CB W (Y.trans hW);have bF:=fun W (hW:Ext w3 W)=>CT W (Y.trans hW);go_wp2_with (first
  |(go_at_call 134;refine (zah L tM _).mono ?_;rintro e w4 ⟨HL,hc,rfl,M,Z⟩)
  |(go_at_call 135;refine (HR.out _ (Q.trans (Y.trans Z))).mono ?_;rintro e w5 ⟨ZA,zc,rfl,o,aq⟩;have aO:=Z.trans aq))
 have ao:=eW o;rw [af.out] at ao;have HZ:=za (fun W (hW:Ext w5 W)=>ao.ext hW);have U:=zh M aq;have a3:=za (fun W (hW:Ext w5 W)=>zh U hW);have aP:=za (fun b hb=>(M.lt b hb).1);have aQ:=za (f.blk.lt);have aK:=za Z.size;have bU:=za (fun l (hl:l∈letters L 6)=>(zD.1 hl).1);have cO:(letters L 6).length<=6:=zA L 6;have cg:=Y.trans aO;have aS:=f.aw aO;generalize letters L 6=ab at *;have cU:=af.out;rw [af.out] at o ⊢;have a5:=za o;have ag:=za (fun b hb=>(o.lt b hb).1);clear M U ao o Z aq k3 f bD bF ap
 go_loopw [9] (fun iv wr=>∃ (i:Nat) (v vA:Value),iv=.int .i64 i∧i<=nr∧Gra w2 wr G (L:Nat) v ((rows.take i).map a) vA ((rows.take i).map (zo s p L))∧Hid (∀ b,v.ownBlock=some b->w5.heap.size<=b)∧Hid (∀ b,vA.ownBlock=some b->w5.heap.size<=b)∧Frm (fun k=>k=G) w5 wr) (fun iv _=>nr - (intOf iv).toNat)
 case atStart=>exact⟨0,_,_,rfl,eC _,by simpa using aS,za (fun b hb=>by simp [Value.ownBlock] at hb),za (fun b hb=>by simp [Value.ownBlock] at hb),Frm.refl _ _⟩
 case round =>
  obtain⟨i,v,vA,rfl,hi,f,bm,bk,az⟩:=hrel;have u:=f.ext;have cI:=f.blk.lt;have bE:∀ W,Ext wr W->∀ q,W.cell? ⟨w.heap.size,q,none⟩=#[Value.bool false,.int .i64 0,.slice none 0 0,.slice none 0 0,.int .i64 s.al,.int .i64 s.st,.slice A n c,.int .i64 p.al,.slice B m d,.slice B' m' d',.int .i64 L][q]?:=fun W hW=>CB W ((g.trans u).trans hW);have bG:∀ W,Ext wr W->∀ q,W.cell? ⟨w.heap.size+1,q,none⟩=#[Value.slice R nr cr,.slice C nc cc][q]?:=fun W hW=>CT W ((g.trans u).trans hW)
  by_cases hlt:i<nr
  ·have ce:(i:Int)<(nr:Int):=oM;obtain⟨ad,r,rfl,_,_,hr,a8⟩:=(H1.out wr (Q.trans (g.trans u))).str hlt;have CR:∀ W,Ext wr W->W.cell? (ad.add i)=some (.string r):=fun W hW=>hW.aa a8;have cP:=(bJ.out r (dG hr.out)).2;have aX:=za (dG hr.out);have an:(wr.alloc (.cells #[] 3)).ownsRow wr.heap.size 3 1 (.slice (some wr.heap.size) 0 0) 0 (ints []):=World.ownsRow_lit wr #[] 0 (dI _) lM rfl;have bq:=(dE wr).alloc (.cells #[] 3);clear a8;obtain⟨wo,bW⟩:∃ wo,wo=wr:=⟨_,rfl⟩;subst bW;go_wp2_with fail
   go_loopw [10,11] (fun v10 kv wr=>∃ k:Nat,kv=.int .i64 k∧k<=ab.length∧wr.ownsRow wo.heap.size 3 1 v10 k (ints ((a r).take k))∧Ext wo wr) (fun _ kv _=>ab.length - (intOf kv).toNat)
   case atStart=>exact⟨0,rfl,eC _,by simpa [ints] using an,bq⟩
   case round =>
    clear an bq;obtain⟨k,rfl,hk,F,j⟩:=hrel
    by_cases hkl:k<ab.length
    ·have cd:(k:Int)<(ab.length:Int):=oM;obtain⟨l,hl⟩:∃ l,ab[k]?=some l:=⟨_,dH hkl⟩;have bT:=bU.out l (dG hl);have aV:=za (dG hl);have D:=zf (a3.out w5 (dE _)) (az.trans j.ak) (fun b hb e=>by have:=aQ.out;have:=aP.out b hb;omega);have V:=zf a5.out (az.trans j.ak) (fun b hb e=>by have:=aQ.out;have:=aK.out;have:=ag.out b hb;omega);obtain⟨gl,rfl,cL,-⟩:=zad D oM;have cl:=zdd D hkl;rw [eE,hl,gQ] at cl;have CL:∀ W,Ext wr W->W.cell? ⟨gl,k,none⟩=some (.int .i64 (l:Nat)):=fun W hW=>hW.aa cl;have cs:=fun W (hW:Ext wr W)=>CR W (j.trans hW);have ct:=fun W (hW:Ext wr W)=>bG W (j.trans hW);have cp:=fun W (hW:Ext wr W)=>bE W (j.trans hW);have HT:=za (fun W=>zeN (w:=W) bT);have Hl:=za hl;have aW:=za (bK.out r l aX.out aV.out);obtain⟨z,hz⟩:∃ z,Hid (zbY l=z):=⟨_,rfl⟩;rw [hz.out] at HT;have cT:z.size=1:=by rw [← hz.out];exact zcC l
     have cR:¬ 9223372036854775807<r.size+1:=oM;have a4:=za (fun W (hW:Ext wr W)=>HW.out W ((Q.trans (g.trans (u.trans j))).trans hW) (r++z) (by rw [ByteArray.size_append];omega));have aI:=eW V;have ax:=za (fun W (hW:Ext wr W)=>zjN (c:=zc) (aI.ext hW) aW.out);rw [hz.out] at ax;have O:=za (show (a r)[k]?=some ((ziQ zs (mkS (zbF (zo s p L) cols (r++z))):Nat):Int) by rw [ah.out,eM,hl,← hz.out];rfl);obtain⟨y,hy⟩:∃ y,r++z=y:=⟨_,rfl⟩;rw [hy] at a4 ax O;obtain⟨I,hI⟩:∃ I,Hid (ziQ zs (mkS (zbF (zo s p L) cols y))=I):=⟨_,rfl⟩;rw [hI.out] at ax O;generalize mkS (zbF (zo s p L) cols y)=ys at *;have bV:=za (show ints ((a r).take (k+1))=ints ((a r).take k)++[.int .i64 (I:Nat)] by rw [eG,O.out];simp [ints]);have ap:=dE wr;clear hl cl aI D V;go_wp2_with fail
     refine uR (fun X=>Ext wr X) [19] (zw.of [0,1,2,3,4,5,6,7,8,9,10,11,12,13,14,15,16,17,18,19,20]) ?_;refine uQ ?_;refine ze fun K hK=>?_;go_simp;refine (HT.out _).mono (mQ fun w6 bX=>?_);have ar:Ext wr w6:=ap.drew.trans bX;refine hK.out _ _ ar ?_;refine pT ?_;refine uQ ?_;refine ze fun K hK=>?_;go_simp
     with_reducible refine (a4.out _ ar).mono ?_
     rintro e w7 ⟨rfl,bY⟩;have t:=ar.trans bY;refine hK.out _ _ t ?_;refine pT ?_;refine uQ ?_;refine ze fun K hK=>?_;go_simp
     with_reducible refine (ax.out _ t).mono ?_
     rintro e w8 ⟨rfl,rfl⟩;refine hK.out _ _ t ?_;refine pT ?_;refine uQ ?_;refine ze fun K hK=>?_;go_simp;refine hK.out _ _ (t.alloc _) ?_;refine pT ?_;refine zb fun K hK=>?_;refine zaH wo w7 _ _ _ rfl 3 _ 1 8 Tryz.underlying110 zae rfl dM _ k (ints ((a r).take k)) _ _ rfl rfl (j.trans t).size (zh F t) rfl (zbg _) lM oM ?_;intro g9 cap9 w9 hown9 hg9 hat9 hlt9;refine hK.out _ _ ?_;refine pT ?_;refine uQ ?_;refine zg ?_;clear hy;go_wp2_with fail
     go_roundw
     case rel=>exact⟨k+1,gM,oM,by rw [bV.out];exact hown9,(j.trans t).grown hg9 (fun k hk=>(F.lt k hk).1)⟩
     case measure=>simp [intOf];omega
    ·have bS:(ab.length:Int)<=(k:Int):=oM;have aR:=za (show (a r).take k=a r from eF (by rw [ah.out,eT];omega));rw [aR.out] at F;obtain⟨S,T,rfl⟩:=zi F;have be:=za (show k=(a r).length by rw [ah.out,eT];omega);obtain⟨bs,J,aJ⟩:=f.own;have am:=za (show ((rows.take i).map a).length=i by rw [eT,fL];have:=He.out;omega);have aU:=za (show ((rows.take i).map (zo s p L)).length=i by rw [eT,fL];have:=He.out;omega);rw [am.out] at J;have H:=f.aw j;have kG:=H.blk.cell;have bj:=za (H.ext.size);have aH:=zh J j;have a9:=za aJ;have HO:=za (show wr.ownsRow wo.heap.size 3 1 (.slice S k T) (a r).length (ints (a r)) by rw [← be.out];exact F);clear F;go_upto_region 15 with (at_builtin;refine zW w2 wr rfl _ _ _ rfl 110 _ 1 24 Tryz.underlying24 zcB rfl dM v i bs _ _ rfl rfl bj.out aH rfl (zbc _ _ _) lM oM ?_;intro g6 cap6 w6 hown6 hg6 hat6 hlt6;obtain⟨q1,q2,q3⟩:=f.push (l:=a r) (row:=.slice S k T) a9.out (by rw [am.out];exact J) j HO.out (by rw [am.out];exact hown6) hg6 hat6;have bZ:=q1.out)
     have ak:Frm (fun k=>k=G) w5 (w6.setCell ⟨G,1,none⟩ (.slice (some g6) (((rows.take i).map a).length+1) cap6)):=((az.trans j.ak).grown hg6 (fun k hk=>bm.out k hk)).trans (eB w6 G 1 _);have aL:=za (show ∀ b,(Value.slice (some g6) (((rows.take i).map a).length+1) cap6).ownBlock=some b->w5.heap.size<=b from fun b hb=>by
      have aa:g6=b:=by simpa [Value.ownBlock] using hb
      subst aa;rcases hat6 with h1|h1
      ·exact bm.out _ h1
      ·have:=j.size;have:=az.size;omega)
     have bf:=za (show (rows.take (i+1)).map a=(rows.take i).map a++[a r] by rw [eG,hr.out];simp);have aF:=za (show (rows.take (i+1)).map (zo s p L)=(rows.take i).map (zo s p L)++[zo s p L r] by rw [eG,hr.out];simp);rw [← bf.out,am.out] at q3;rw [am.out] at ak aL;obtain⟨bb,aa⟩:∃ bb,Hid (zo s p L r=bb):=⟨_,rfl⟩;rw [aa.out] at aF;have aY:=bL.out i r hr.out;obtain⟨rr,bi⟩:=bI.out r;rw [bi,aa.out] at aY;obtain⟨bO,cb⟩:=mkS_head bb rr;generalize mkS (bb :: rr)=x at *;clear q1 bZ q2 hown6 hat6 hlt6 kG aH H bj HO a9 aJ J bi;generalize w6.setCell ⟨G,1,none⟩ (.slice (some g6) (i+1) cap6)=w7 at *;generalize Value.slice (some g6) (i+1) cap6=v7 at *;have E:=zf a5.out ak (fun b hb e=>by have:=aQ.out;have:=aK.out;have:=ag.out b hb;omega);obtain⟨gz,rfl,-,-⟩:=zad E oM;obtain⟨cA,x2,bP,-,-,bo,cx⟩:=(eW E).str hlt;obtain rfl:=Option.some.inj bP;rw [zT,eO] at cx;obtain rfl:x2=x:=Option.some.inj (bo.out.symm.trans aY);have cS:∀ W,Ext w7 W->W.cell? ⟨gz,i,none⟩=some (.string x2):=fun W hW=>hW.aa cx;have cG:=fun W (hW:Ext w7 W)=>(q3.blk.ext hW).cell;have ca:(0:Int)<(x2.size:Int):=oM;have cJ:=zcG x2 0 bO;have ap:=dE w7;clear cx bo E aY;go_wp2_with fail
     refine uR (fun X=>Ext w7 X) [9,11] (zw.of [0,1,2,3,4,5,6,7,8,9,10,11]) ?_;refine uQ ?_;refine ze fun K hK=>?_;go_simp;have aB:=ap.drew;refine hK.out _ _ (aB.alloc _) ?_;refine pT ?_;refine zb fun K hK=>?_;have aC:=q3.aw aB;have a0:=aC.acc;rw [aU.out] at a0;refine zaH w2 w7.drew _ _ _ rfl 4 _ 1 1 Tryz.underlying25 zbh rfl dM vA i (zak ((rows.take i).map (zo s p L))) _ _ rfl rfl aC.ext.size a0 rfl (by simp [Value.oneCell']) lM oM ?_;intro g8 cap8 w8 hown8 hg8 hat8 hlt8;refine hK.out _ _ ?_;refine pT ?_;refine uQ ?_;obtain⟨p1,p2,p3⟩:=aC.ar (x:=bb) (W':=w8) (by rw [aU.out];exact hown8) hg8 hat8;rw [aU.out,← aF.out] at p3;have cX:=p1.out;have bR:Frm (fun k=>k=G) w5 (w8.setCell ⟨G,2,none⟩ (.slice (some g8) (i+1) cap8)):=((ak.trans aB.ak).grown hg8 (fun k hk=>bk.out k hk)).trans (eB w8 G 2 _);have bl:=za (show ∀ b,(Value.slice (some g8) (i+1) cap8).ownBlock=some b->w5.heap.size<=b from fun b hb=>by
      have aa:g8=b:=by simpa [Value.ownBlock] using hb
      subst aa;rcases hat8 with h1|h1
      ·exact bk.out _ h1
      ·have:=ak.size;have:=aB.size;omega)
     refine zb fun K hK=>?_;go_simp;refine hK.out _ _ ?_;refine zg ?_;clear hown8 hg8 hat8 a0 aC p1 q3 ak;generalize w8.setCell ⟨G,2,none⟩ (.slice (some g8) (i+1) cap8)=c0 at *;go_wp2_with fail
     go_roundw
     case rel=>exact⟨i+1,v7,_,gM,oM,p3,aL,bl,bR⟩
     case measure=>simp [intOf];omega
  ·have bS:(nr:Int)<=(i:Int):=oM;have bc:=za (show rows.take i=rows from eF (oH He.out));rw [bc.out] at f;obtain⟨S,T,rfl⟩:∃ S T,v=.slice S nr T:=by
    obtain⟨bs,J,-⟩:=f.own;rw [eT,He.out] at J;exact zi J
   obtain⟨A2,c2,rfl⟩:∃ A2 c2,vA=.slice A2 nr c2:=by
    have ba:=f.acc;rw [eT,He.out] at ba;exact zi ba
   have ay:=b3.ext (g.trans u);have kz:=ay.cell;have fz:=ay.frozen;have kG:=f.blk.cell;have hf:=zZ wr (w.heap.size+1+1) (.int .i64 (L:Nat)) (.slice S nr T) (.slice A2 nr c2);have cf:=(zaf ay rfl (.int .i64 (L:Nat)) (.slice S nr T) (.slice A2 nr c2)).cell;have F:zN (((wr.setCell ⟨w.heap.size+1+1,0,none⟩ (.int .i64 (L:Nat))).setCell ⟨w.heap.size+1+1,1,none⟩ (.slice S nr T)).setCell ⟨w.heap.size+1+1,2,none⟩ (.slice A2 nr c2)) w.heap.size S nr T A2 nr c2 a6:=by
    rw [aD.out];have h1:=f.own;have h2:=f.acc;rw [show ((rows.map (zo s p L)).length)=nr by rw [eT];exact He.out] at h2;have h3:zN wr w2.heap.size S nr T A2 nr c2 ⟨(L:Int),rows.map a,rows.map (zo s p L)⟩:=⟨h1,by rw [eT];exact He.out.symm,h2,by rw [eT];exact He.out.symm⟩;exact (h3.aq ay hf dM).less (by have:=Q.size;have:=g.size;omega)
   have bh:=za (show RetAutB w a6 (.returned (.tuple #[.agg #[.int .i64 (L:Nat),.slice S nr T,.slice A2 nr c2],.bool true])) (((wr.setCell ⟨w.heap.size+1+1,0,none⟩ (.int .i64 (L:Nat))).setCell ⟨w.heap.size+1+1,1,none⟩ (.slice S nr T)).setCell ⟨w.heap.size+1+1,2,none⟩ (.slice A2 nr c2)) from
    ⟨S,nr,T,A2,nr,c2,by rw [aD.out],F,(Q.trans (g.trans u)).frm hf (fun k hk e=>oM)⟩)
   clear F hf;go_wp2_with fail
   exact bodyPost_ret (v:=.tuple #[.agg #[.int .i64 (L:Nat),.slice S nr T,.slice A2 nr c2],.bool true]) (by simp [results,Tryz.results58,go_sem,cf]) rfl bh.out
end
noncomputable def rnM (zs:List ByteArray):ByteArray->Option Nat:=fun y=>if zcS zs y=true then some (ziQ zs y) else none
section
variable {zs:List ByteArray} {y z:ByteArray}
theorem rnM_nil:rnM []=fun _=>none:=funext fun y=>by
 unfold rnM
 rw [if_neg]
 rw [zaw]
 simp
theorem idxS_old (h:y∈zs) (z:ByteArray):ziQ (zs++[z]) y=ziQ zs y:=by
 have a:=zjz h;unfold ziQ at a ⊢;rw [List.findIdx_append,if_pos a]
theorem idxS_last (h:z∉zs):ziQ (zs++[z]) z=zs.length:=by
 unfold ziQ;rw [List.findIdx_append,if_neg]
 ·rw [List.findIdx_cons];have:zcS [z] z=true:=zaw.2 sM;rw [this];simp
 ·intro hlt;have b:=List.findIdx_getElem (xs:=zs) (p:=fun y=>zcS [y] z) (w:=hlt);have a:=zaw.1 b;rw [fN] at a;exact h (a ▸ List.getElem_mem hlt)
theorem rnM_keep (h:zcS zs z=true):rnM (zs++[z])=rnM zs:=funext fun y=>by
 unfold rnM
 by_cases hy:y∈zs
 ·rw [if_pos (zaw.2 (by simp [hy])),if_pos (zaw.2 hy),idxS_old hy]
 ·rw [if_neg (fun h1=>hy (zaw.1 h1)),if_neg]
  rw [zaw,iU,fN]
  rintro (h1|rfl)
  ·exact hy h1
  ·exact hy (zaw.1 h)
theorem rnM_add (h:zcS zs z=false):rnM (zs++[z])=updG (rnM zs) z zs.length:=funext fun y=>by
 have hz:z∉zs:=fun h1=>by rw [zaw.2 h1] at h;cases h
 by_cases e:y=z
 ·subst e
  rw [zig]
  unfold rnM
  rw [if_pos (zaw.2 sM),idxS_last hz]
 ·rw [updG_ne _ _ e]
  unfold rnM
  by_cases hy:y∈zs
  ·rw [if_pos (zaw.2 (by simp [hy])),if_pos (zaw.2 hy),idxS_old hy]
  ·rw [if_neg,if_neg (fun h1=>hy (zaw.1 h1))]
   rw [zaw,iU,fN]
   rintro (h1|rfl)
   ·exact hy h1
   ·exact e rfl
theorem rnM_is:(rnM zs y).isSome=zcS zs y:=by
 unfold rnM;cases zcS zs y<;>simp
end
def RetO (J:zbx) (u:Value) (B:Nat) (S:Nat->Prop) (W:World) (e:Ending) (W':World):Prop:=∃ S',e=.returned u∧Kp J B S W W' S'
structure zfE (b0 L:Nat) (f:ByteArray->Bool) (J:zbx) (kn:Nat) (rc:Value):Prop where
 ok:zbx.Ok b0 J
 in_:∀ args W,(callFunc kn args).run Tryz.prog W=.ok (.enter kn args) W
 ask:∀ (B:Nat) (W:World) (S:Nat->Prop) (x:ByteArray),J B W S->B<10000000->inB x L=true->x.size<=9000->Calls Tryz.prog kn #[rc,x] W (RetO J (.bool (f x)) (B+1) S W)
abbrev orcV (L kn:Nat) (rc:Value):Value:=.agg #[(L:Int),.func (.func kn) #[rc] #[]]
theorem Kp.back {J:zbx} {B:Nat} {S':Nat->Prop} {W W1 W':World}(hx:Ext W W1) (k:Kp J B S W1 W' S'):Kp J B S W W' S':=
 ⟨k.j,⟨k.frm.os.trans hx.os,k.frm.tape.trans hx.tape,k.frm.output.trans hx.output,eI hx.size k.frm.size,fun i hi hn=>(k.frm.block i (eV hi hx.size) hn).trans (hx.block i hi (fun h=>h))⟩,fun i hi=>by
  rcases k.new i hi with h|h
  ·exact .inl h
  ·exact .inr (eI hx.size h)⟩
structure zgk (W:World) (S:Nat->Prop) (base:Nat) (e:TypeId) (size:Nat) (v:Value) (n:Nat) (xs:List Value):Prop where
 own:W.ownsRow base e size v n xs
 far:∀ b,v.ownBlock=some b->¬ S b
section
variable {J:zbx} {B b0 base n size:Nat} {S S':Nat->Prop} {W W':World} {e:TypeId} {v:Value} {xs:List Value}
theorem zgk.kp (h:zgk W S base e size v n xs) (k:Kp J B S W W' S'):zgk W' S' base e size v n xs:=⟨(k.row h.own h.far).1,(k.row h.own h.far).2⟩
theorem zgk.ext (h:zgk W S base e size v n xs)(hx:Ext W W'):zgk W' S base e size v n xs:=⟨zh h.own hx,h.far⟩
theorem zgk.frm {T:Nat->Prop}(h:zgk W S base e size v n xs)(hf:Frm T W W')(hT:∀ b,v.ownBlock=some b->¬ T b):zgk W' S base e size v n xs:=⟨zf h.own hf hT,h.far⟩
theorem zgk.new (hJ:zbx.Ok b0 J)(hj:J B W S)(hx:W.heap.size<=base)(h:W'.ownsRow base e size v n xs):zgk W' S base e size v n xs:=
 ⟨h,fun b hb=>zbx.fresh hJ hj (by have:=(h.lt b hb).1;omega)⟩
end
structure zhb (W:World) (S:Nat->Prop) (base:Nat) (R:Option Addr) (nr cr:Nat) (C:Option Addr) (nc cc:Nat) (rows cols:List ByteArray):Prop where
 r:zgk W S base 9 1 (.slice R nr cr) nr (zM rows)
 c:zgk W S base 9 1 (.slice C nc cc) nc (zM cols)
section
variable {J:zbx} {B b0 base nr cr nc cc L:Nat} {S S':Nat->Prop} {W W':World} {R C:Option Addr} {rows cols:List ByteArray} {f:ByteArray->Bool}
theorem zhb.kp (h:zhb W S base R nr cr C nc cc rows cols) (k:Kp J B S W W' S'):zhb W' S' base R nr cr C nc cc rows cols:=⟨h.r.kp k,h.c.kp k⟩
theorem zhb.ext (h:zhb W S base R nr cr C nc cc rows cols)(hx:Ext W W'):zhb W' S base R nr cr C nc cc rows cols:=⟨h.r.ext hx,h.c.ext hx⟩
theorem zhb.lens (h:zhb W S base R nr cr C nc cc rows cols):rows.length=nr∧cols.length=nc:=by
 have a:=zdB h.r.own;have b:=zdB h.c.own;simp [zM] at a b;omega
theorem zhS {base:Nat}   (h:W.ownsRow base 9 1 (.slice A n c) n (zM l))(hk:l[k]?=some x):∃ g,A=some ⟨g,0,none⟩∧W.cell? ⟨g,k,none⟩=some (.string x):=by
 have b:=zdB h;have a:=(List.getElem?_eq_some_iff.1 hk).1;simp [zM] at b;obtain⟨g,rfl,-,-⟩:=zad h oM;refine⟨g,rfl,?_⟩;rw [h.cellAt k oM];simp [zM,hk]
theorem zbX.snoc (h:zbX L f rows cols)  {l:Nat}(hr:r∈rows)(hl:l<6)(hb:L.testBit l=true):inB (r++zbY l) L=true∧(r++zbY l).size<=13:=by
 obtain⟨a,b⟩:=h.rin hr;exact⟨inB_snoc a oM hl hb,by rw [ByteArray.size_append,zcC];omega⟩
theorem ziR {y:ByteArray}(hx:inB x L=true)(hy:inB y L=true)(hs:x.size+y.size<=50000):inB (x++y) L=true:=by
 unfold inB at hx hy ⊢;simp only [eD,decide_eq_true_eq] at hx hy ⊢;refine⟨by rw [ByteArray.size_append];exact hs,?_⟩;have a:=hx.2;have b:=hy.2;unfold overB at a b ⊢;rw [ByteArray.data_append,Array.toList_append,List.all_append,a,b];rfl
end
theorem bcl_set {l:List UInt8} {i:Nat} (v:UInt8):(bcl l).set i (.int .u8 (v.toNat:Nat))=bcl (l.set i v):=by simp [bcl,zjo,List.map_set]
theorem made_u8 (n:Nat):(madeCells (Value.int .u8 0).cells (n*1)).toList=bcl (eQ n 0):=by
 unfold madeCells bcl zjo;simp only [Value.cells,Array.toList_map,Array.toList_range,iO];refine jA fun i=>?_;simp only [eM,Nat.mul_one]
 by_cases hi:i<n
 ·rw [List.getElem?_range hi];simp [hi,Nat.mod_one]
 ·rw [eR (by simpa using hi),eR (by simpa using hi)];rfl
def mkU (b:Bool):UInt8:=if b then 43 else 45
theorem mkS_bytes {bs:List Bool} {l:List UInt8}(h:l=bs.map mkU):strOfNums (zjo l)=mkS bs:=by
 refine ByteArray.ext (Array.ext' ?_);rw [strOfNums_data,zfT,h];simp only [zjo,iO];refine List.map_congr_left fun b _=>?_;cases b<;>rfl
section
variable {J:zbx} {B b0 L base nr cr nc cc kn:Nat} {S:Nat->Prop} {W:World} {R C:Option Addr} {rows cols:List ByteArray} {f:ByteArray->Bool} {rc:Value}
theorem or_marks (hO:zfE b0 L f J kn rc)(hj:J B W S)(hB:B+20<10000000)(hC:zgk W S base 9 1 (.slice C nc cc) nc (zM cols))(hc20:nc<=20)(hcs:∀ y∈cols,inB y L=true∧y.size<=4000)(hx:inB x L=true)(hxs:x.size<=4000)(hb0:b0<=W.heap.size) :
  Calls Tryz.prog 125 #[orcV L kn rc,.agg #[.slice R nr cr,.slice C nc cc],x] W (RetO J (.string (mkS (zbF f cols x))) (B+20) S W):=by
 have t:=za hO;have HC:=za hC;have aj:=za hcs;have Hx:=za hx;have ao:=Kp.refl (J:=J) hj;have Q:=za (show cols.length=nc by have:=zdB hC.own;simpa [zM] using this);clear hO hC hcs hx;have aD:=t.out.in_
 go_enter Tryz.func125,Tryz.ntmps125
 go_upto_region 1 with fail
 generalize U0:(W.alloc _).alloc _=I at *;obtain⟨D,b3,b4⟩:=Ext.x2_ U0;have G:I.heap.size=W.heap.size+2:=by rw [← U0];simp
 clear U0;have O:=t.out.ok.keep hj D (fun _ _ h=>h.elim);have c:=Kp.refl (J:=J) O;have u:=za (fun (q:Nat) (hq:W.heap.size<=q)=>zbx.fresh t.out.ok hj hq);have aL:=D.size;have aJ:=za G;have aK:W.heap.size<I.heap.size∧W.heap.size+1<I.heap.size:=oM;clear G;have U:=b4.cell;go_upto_region 2 with (at_make;refine zbS I I rfl _ _ 22 rfl 5 _ 1 1 Tryz.underlying22 zjB _ _ nc rfl rfl (dE _) oM lM ?_;intro w2 hx12 zkp hx2 hsz2)
 rw [made_u8] at zkp;have ab:=za (c.ext t.out.ok hx12);have T:=za (zgk.new t.out.ok O (dI _) zkp);have U:=(b4.ext hx12).cell;have B3:=za b3;have B4:=za b4;have ak:=za (HC.out.ext D);clear b3 b4 zkp hx2 hx12 c ao hj O;obtain⟨g,an⟩:∃ g,Hid (g=I.heap.size):=⟨_,za rfl⟩;have Y:=an.out;rw [← Y] at T ⊢;have Z:I.heap.size<=g:=oM;clear Y;go_wp2_with fail
 go_loopw [8,9,17] (fun _ _ i wr=>∃ (k:Nat) (M:Nat->Prop) (l:List UInt8),i=.int .i64 k∧k<=nc∧Hid (Kp J (B+k) S I wr M)∧Hid (zgk wr M g 5 1 (.slice (some g) nc nc) nc (bcl l))∧Hid (l.length=nc∧∀ (j:Nat) (y:ByteArray),j<k->cols[j]?=some y->l[j]?=some (mkU (f (x++y))))) (fun _ _ i _=>nc - (intOf i).toNat)
 case atStart=>exact⟨0,S,eQ nc 0,rfl,eC _,ab,T,za ⟨sM,fun j y h=>oM⟩⟩
 case round =>
  clear ab T U;obtain⟨k,M,l,rfl,hk,s,a,hl⟩:=hrel;have k3:=(s.out.blk B3.out (u.out _ (dI _))).1.cell;have U:=(s.out.blk B4.out (u.out _ oM)).1.cell
  by_cases hlt:k<nc
  ·have aA:(k:Int)<(nc:Int):=oM;obtain⟨y,hy⟩:∃ y,cols[k]?=some y:=⟨_,dH (oH Q.out)⟩;have Hy:=za hy;obtain⟨H,aN⟩:=aj.out y (dG hy);obtain⟨gC,rfl,X⟩:=zhS (ak.out.kp s.out).own hy;have V:=za H;clear hy H;obtain⟨o0,g0⟩:=zbd a.out.own k oM;have f0:=a.out.own.frozenAt k;have p:=a.out.own.stored k (.int .u8 45);rw [show (Value.int .u8 45)=.int .u8 ((45:UInt8).toNat:Nat) from rfl,bcl_set] at p;have E:b0<=g:=oM;have am:¬ M g:=a.out.far g rfl;have F:=za (show l.length=nc from hl.out.1);have au:=za (ziR Hx.out V.out oM);have af:(x++y).size<=9000:=by rw [ByteArray.size_append];omega
   have c:=za (s.out.cell t.out.ok Z E am k (.int .u8 45));have v:=za (show zgk (wr.setCell ⟨g,k,none⟩ (.int .u8 45)) M g 5 1 (.slice (some g) nc nc) nc (bcl (l.set k 45)) from ⟨p.1,a.out.far⟩);go_upto_region 6 with fail
   have k3:=(c.out.blk B3.out (u.out _ (dI _))).1.cell;have U:=(c.out.blk B4.out (u.out _ oM)).1.cell;clear p g0 f0 X s a;generalize wr.setCell ⟨g,k,none⟩ (.int .u8 45)=w5 at *;have d:=za (t.out.ask (B+k) w5 M (x++y) c.out.j oM au.out af);have m:∀ (b:UInt8) (l':List UInt8),b=mkU (f (x++y))->l'=l.set k b->Hid (l'.length=nc∧∀ (j:Nat) (y:ByteArray),j<k+1->cols[j]?=some y->l'[j]?=some (mkU (f (x++y)))):=fun b l' hb hl'=>by
    subst hl';refine⟨by rw [List.length_set];exact F.out,fun j z hj hz=>?_⟩
    by_cases e:j=k
    ·subst e;obtain rfl:=Option.some.inj (Hy.out.symm.trans hz);rw [List.getElem?_set_self (by rw [F.out];exact hlt),hb]
    ·rw [List.getElem?_set_ne (fun e'=>e e'.symm)];exact hl.out.2 j z oM hz
   cases hf:f (x++y) with
   |false =>
    have hn:=m 45 _ (by rw [hf];rfl) rfl;rw [hf] at d;clear hf m;go_upto_if 30 with fail
    refine d.out.mono ?_;rintro e w6 ⟨S2,rfl,o⟩;have r:=za (c.out.trans o);have n:=za (v.out.kp o);clear k3 U o c v d;go_wp2_with fail
    go_roundw
    case rel=>exact⟨k+1,S2,_,gM,oM,r,n,hn⟩
    case measure=>simp [intOf];omega
   |true =>
    have hn:=m 43 ((l.set k 45).set k 43) (by rw [hf];rfl) (by rw [List.set_set]);rw [hf] at d;clear hf m;go_upto_if 30 with fail
    refine d.out.mono ?_;rintro e w6 ⟨S2,rfl,o⟩;have r:=c.out.trans o;have n:=v.out.kp o;obtain⟨o6,g6⟩:=zbd n.own k oM;have f6:=n.own.frozenAt k;have p:=n.own.stored k (.int .u8 43);rw [show (Value.int .u8 43)=.int .u8 ((43:UInt8).toNat:Nat) from rfl,bcl_set] at p;have aa:=za (r.cell t.out.ok Z E (n.far g rfl) k (.int .u8 43));have ar:=za (show zgk (w6.setCell ⟨g,k,none⟩ (.int .u8 43)) S2 g 5 1 (.slice (some g) nc nc) nc (bcl ((l.set k 45).set k 43)) from ⟨p.1,n.far⟩);clear k3 U o c v d p n r;go_wp2_with fail
    go_roundw
    case rel=>exact⟨k+1,S2,_,gM,oM,aa,ar,hn⟩
    case measure=>simp [intOf];omega
  ·obtain rfl:k=nc:=oM;have ad:l=(zbF f cols x).map mkU:=by
    obtain⟨h1,h2⟩:=hl.out;refine jA fun j=>?_;unfold zbF;rw [iO,eM];cases X:cols[j]? with
    |none=>rw [eR (by have:=List.getElem?_eq_none_iff.1 X;have:=Q.out;omega)];rfl
    |some y=>rw [h2 j y (by have:=(List.getElem?_eq_some_iff.1 X).1;have:=Q.out;omega) X];rfl
   have aw:=za (mkS_bytes ad);have ae:=za (show RetO J (.string (mkS (zbF f cols x))) (B+20) S W (.returned (.string (mkS (zbF f cols x)))) wr from ⟨M,rfl,(s.out.more t.out.ok oM).back D⟩);have al:=zjt a.out.own;clear ad;go_wp2_with (simp only [al])
   rw [aw.out];go_ret;exact ae.out
end
section
open Go.Maps
section
variable {α:Type} {mt kt:TypeId} {val:α->Value} {lit:α->Lit} {dom:α->Prop} (w:World) {o:Oper} {a:Act} {Q:Exit->Act->World->Prop} {K':Act->World->Prop}
theorem wp_mapSetG (K:KeyG mt kt val lit dom) (m x v:Operand)(hop:o.op=Op.mapUpdate mt m x v∨o.op=Op.insert mt m x v)  {M:α->Option Nat}
  (hm:a.eval m=.map (some b)) (h:zeq kt lit dom w b n M) (hn:n<1152921504606846976) (key:α) (v9:Nat) (hx:a.eval x=val key) (hv:a.eval v=.int .i64 (v9:Int)) (hk:dom key) (hv9:v9<1152921504606846976)
  (hK:∀ w',zeq kt lit dom w' b (n+1) (updG M key v9)->w.grownBy w' (some b)->K' (a.put o.dst undef) w'):o.wp Tryz.prog a w K' Q:=by
 obtain⟨D,d,j⟩:=h;have c:=K.key hk;obtain⟨w',i,k,l⟩:=d.update K.keyed K.und lM c (plainElem_int (H:=Unit) Tryz.underlying3 (wfG hv9));have f:zeq kt lit dom w' b (n+1) (updG M key v9):=⟨_,k,fun y hy=>by
  unfold updG
  by_cases e:y=key
  ·subst e;rw [if_pos rfl];exact⟨has_put_same d.isMap (K.keyed.key c) _,fun u hu=>by rw [atKey_put_same d.isMap (K.keyed.key c)];cases hu;rfl⟩
  ·have g:lit y≠lit key:=fun h=>e (K.inj hy hk h);rw [if_neg e,has_put_other g,atKey_put_other g];exact j y hy⟩
 unfold Oper.wp;rcases hop with hop|hop
 all_goals
  simp [execOp,hop,hm,hx,hv,i,Result.andThen];exact hK w' f l
theorem wp_mapOkG (K:KeyG mt kt val lit dom) (m x:Operand)(hop:o.op=Op.lookup mt m x true)  {M:α->Option Nat}
  (hm:a.eval m=.map (some b)) (h:zeq kt lit dom w b n M) (key:α) (hx:a.eval x=val key) (hk:dom key)
  (hK:∀ c:Int,(∀ v,M key=some v->c=(v:Int))->K' (a.put o.dst (.tuple #[c,.bool (M key).isSome])) w):o.wp Tryz.prog a w K' Q:=by
 obtain⟨D,i,l⟩:=h;obtain⟨v,r,f,g⟩:=i.look_ok K.keyed K.und (zeroG w) (zd:=.lit (.int .i64 0)) (zp:=[]) (plainElem_int Tryz.underlying3 dM) (K.key hk);obtain⟨c,rfl,p,q⟩:=plainElem_int_inv Tryz.underlying3 g;have d:=congrArg Prod.fst p;unfold Oper.wp;simp [execOp,hop,hm,hx,f,Result.andThen];have j:=hK c (fun v g=>by
  have:=(l key hk).2 v g;rw [this] at d;have k:=d;simp only [DataW.lit.injEq,Lit.int.injEq,true_and] at k;exact k.symm)
 rw [← (l key hk).1] at j;exact j
theorem wp_mapAtG (K:KeyG mt kt val lit dom) (m x:Operand)(hop:o.op=Op.lookup mt m x false)  {M:α->Option Nat}
  (hm:a.eval m=.map (some b)) (h:zeq kt lit dom w b n M) (key:α) (v9:Nat) (hx:a.eval x=val key) (hk:dom key) (hM:M key=some v9)
  (hK:K' (a.put o.dst (.int .i64 (v9:Int))) w):o.wp Tryz.prog a w K' Q:=by
 obtain⟨D,g,i⟩:=h;obtain⟨c,f,d,j⟩:=g.lookup_int K.keyed K.und Tryz.underlying3 (zeroG w) (K.key hk);have:=(i key hk).2 v9 hM;rw [this] at d;injection d with d
 injection d with _ d
 unfold Oper.wp;simp [execOp,hop,hm,hx,f,Result.andThen];rw [← d];exact hK
end
end
abbrev domS (x:ByteArray):Prop:=x.size<=9223372036854775807
abbrev zfB (w:World) (b n:Nat) (M:ByteArray->Option Nat):Prop:=zeq 9 (fun x:ByteArray=>Lit.string x.data.toList) domS w b n M
def RetRN (J:zbx) (M:ByteArray->Option Nat) (B:Nat) (S:Nat->Prop) (W:World) (e:Ending) (W':World):Prop:=
 ∃ (S':Nat->Prop) (mb n:Nat),e=.returned (.map (some mb))∧zfB W' mb n M∧¬ S' mb∧W.heap.size<=mb∧n<=12∧Kp J B S W W' S'
theorem mkS_dom (h:cols.length<=20) (x:ByteArray):domS (mkS (zbF f cols x)):=by
 unfold domS;rw [mkS_size];simp [zbF];omega
section
variable {J:zbx} {B b0 L base nr cr nc cc kn:Nat} {S S':Nat->Prop} {W W':World} {R C:Option Addr} {rows cols:List ByteArray} {f:ByteArray->Bool} {rc:Value}
theorem zfB.kp {mb:Nat} {M:ByteArray->Option Nat}(h:zfB W mb n M)(hS:¬ S mb) (k:Kp J B S W W' S'):zfB W' mb n M∧¬ S' mb:=⟨h.frm k.frm hS,k.out h.lt hS⟩
theorem zhQ (hO:zfE b0 L f J kn rc)(hj:J B W S)(hB:B+20<10000000)(hT:zhb W S base R nr cr C nc cc rows cols)(hI:zbX L f rows cols)(hx:inB x L=true)(hxs:x.size<=4000)(hb0:b0<=W.heap.size) :
  Calls Tryz.prog 125 #[orcV L kn rc,.agg #[.slice R nr cr,.slice C nc cc],x] W (RetO J (.string (mkS (zbF f cols x))) (B+20) S W):=
 or_marks hO hj hB hT.c (by rw [← hT.lens.2];exact hI.c20) (fun y hy=>hI.cin hy) hx hxs hb0
theorem zfV (hO:zfE b0 L f J kn rc)(hj:J B W S)(hB:B+240<10000000)(hT:zhb W S base R nr cr C nc cc rows cols)(hI:zbX L f rows cols)(hb0:b0<=W.heap.size) :
  Calls Tryz.prog 124 #[orcV L kn rc,.agg #[.slice R nr cr,.slice C nc cc]] W (RetRN J (rnM (zaA f cols rows)) (B+240) S W):=by
 have HO:=za hO;have HI:=za hI;have D:=za hT.lens;have aq:nr<=12:=by rw [← hT.lens.1];exact hI.r12
 have F:=za hI.c20;have aD:=@run_makeMap Tryz.prog;have I:Ext W ((W.alloc (.cells #[(L:Int),.func (.func kn) #[rc] #[]] 83)).alloc (.cells #[.slice R nr cr,.slice C nc cc] 90)):=((dE _).alloc _).alloc _;obtain⟨b3,b4⟩:=zJ (dE ((W.alloc (.cells #[(L:Int),.func (.func kn) #[rc] #[]] 83)).alloc (.cells #[.slice R nr cr,.slice C nc cc] 90)));have v:=za (fun (q:Nat) (hq:W.heap.size<=q)=>zbx.fresh hO.ok hj hq);have V:=hO.ok.keep hj I (fun _ _ h=>h.elim);have O:=za (hT.ext I);have aF:W.heap.size<((W.alloc (.cells #[(L:Int),.func (.func kn) #[rc] #[]] 83)).alloc (.cells #[.slice R nr cr,.slice C nc cc] 90)).heap.size∧W.heap.size+1<((W.alloc (.cells #[(L:Int),.func (.func kn) #[rc] #[]] 83)).alloc (.cells #[.slice R nr cr,.slice C nc cc] 90)).heap.size:=by simp;omega
 clear hO hI hT hj
 go_enter Tryz.func124,Tryz.ntmps124
 go_upto_region 1 with fail
 generalize (W.alloc _).alloc _=t at *;have s:Ext t (t.alloc (.map #[] 0)):=(dE _).alloc _;have o:zfB (t.alloc (.map #[] 0)) t.heap.size 0 (fun _=>none):=zeq.made t;have X:=za ((Kp.refl V).ext HO.out.ok s);have B3:=za b3;have B4:=za b4;go_upto_region 2 with fail
 obtain⟨c,am⟩:∃ c,Hid (c=t.heap.size):=⟨_,za rfl⟩;have T:=am.out;rw [← T] at o ⊢;have an:t.heap.size<=c:=oM;clear T;have k4:=(b4.ext s).cell;have Z:¬ S c:=v.out c oM;have u:Hid (zfB (t.alloc (.map #[] 0)) c 0 (rnM ((zaA f cols rows).take 0))∧¬ S c):=⟨by rw [List.take_zero,rnM_nil];exact o,Z⟩;clear b3 b4 o V Z;generalize t.alloc (.map #[] 0)=w2 at *;clear s;go_wp2_with fail
 go_loopw [6,7,8,9,10,15] (fun _ _ _ _ _ i wr=>∃ (k n:Nat) (S1:Nat->Prop),i=.int .i64 k∧k<=nr∧n<=k∧Hid (Kp J (B+20*k) S t wr S1)∧Hid (zfB wr c n (rnM ((zaA f cols rows).take k))∧¬ S1 c)) (fun _ _ _ _ _ i _=>nr - (intOf i).toNat)
 case atStart=>exact⟨0,0,S,rfl,eC _,eC _,X,u⟩
 case round =>
  clear X u k4;obtain⟨k,n,S1,rfl,hk,aE,a,g⟩:=hrel;have k3:=(a.out.blk B3.out (v.out _ (dI _))).1.cell;have k4:=(a.out.blk B4.out (v.out _ oM)).1.cell
  by_cases hlt:k<nr
  ·have ax:(k:Int)<(nr:Int):=oM;obtain⟨x,hx⟩:∃ x,rows[k]?=some x:=⟨_,dH (oH D.out.1)⟩;have Hx:=za hx;obtain⟨gR,rfl,hc⟩:=zhS (O.out.kp a.out).r.own hx;obtain⟨U,aG⟩:=HI.out.rin (dG hx);have ak:=za U;have aj:=za (O.out.kp a.out);obtain⟨z,hz⟩:∃ z,Hid (mkS (zbF f cols x)=z):=⟨_,za rfl⟩;have E:=za (zhQ (x:=x) HO.out a.out.j oM aj.out HI.out ak.out oM (oH a.out.size));rw [hz.out] at E;have y:=za (show domS z by rw [← hz.out];exact mkS_dom F.out x);have ae:=za (show (zaA f cols rows).take (k+1)=(zaA f cols rows).take k++[z] by
    rw [eG]
    congr 1
    unfold zaA;rw [eM,Hx.out,← hz.out];rfl)
   have ao:=za (show ((zaA f cols rows).take k).length=k by rw [fL];simp only [zaA,eT];have:=D.out.1;omega);clear hx U;have ap:n<1152921504606846976:=oM;cases hm:zcS ((zaA f cols rows).take k) z with
   |true =>
    have G:=za (show rnM ((zaA f cols rows).take (k+1))=rnM ((zaA f cols rows).take k) by rw [ae.out,rnM_keep hm]);have H:=za (show (rnM ((zaA f cols rows).take k) z).isSome=true by rw [rnM_is,hm]);clear hm;go_upto_region 6 with (go_at_call 125;refine E.out.mono ?_;rintro e w5 ⟨M,rfl,d⟩)
    obtain⟨m,p⟩:=zfB.kp g.out.1 g.out.2 d;have l:=za (a.out.trans d);have ab:=za (show zfB w5 c n (rnM ((zaA f cols rows).take (k+1)))∧¬ M c by rw [G.out];exact⟨m,p⟩);clear k3 k4 hc d p;go_wp2_with (refine zcV (key:=z) _ keyS rfl _ _ rfl rfl m rfl y.out ?_;rw [H.out];intro cc' hcc;clear hcc)
    go_roundw
    case rel=>exact⟨k+1,n,M,gM,oM,oM,za (by have:=l.out;rwa [show B+20*k+20=B+20*(k+1) by omega] at this),ab⟩
    case measure=>simp [intOf];omega
   |false =>
    have G:=za (show rnM ((zaA f cols rows).take (k+1))=updG (rnM ((zaA f cols rows).take k)) z k by rw [ae.out,rnM_add hm,ao.out]);have H:=za (show (rnM ((zaA f cols rows).take k) z).isSome=false by rw [rnM_is,hm]);clear hm;go_upto_region 6 with (go_at_call 125;refine E.out.mono ?_;rintro e w5 ⟨M,rfl,d⟩)
    obtain⟨m,p⟩:=zfB.kp g.out.1 g.out.2 d;have l:=za (a.out.trans d);clear k3 k4 hc d;have Q:b0<=c:=oM;go_wp2_with (first
     |(refine zcV (key:=z) _ keyS rfl _ _ rfl rfl m rfl y.out ?_;rw [H.out];intro cc' hcc;clear hcc)
     |(refine ziD (key:=z) (v9:=k) (b:=c) _ keyS rfl _ _ _ (.inl rfl) rfl m ap rfl rfl y.out oM ?_;intro w6 hm6 hg6))
    have Y:=za (l.out.grown HO.out.ok hg6 (fun q hq=>by
     obtain rfl:=Option.some.inj hq;exact⟨an,Q,p⟩))
    have ad:=za (show zfB w6 c (n+1) (rnM ((zaA f cols rows).take (k+1)))∧¬ M c by rw [G.out];exact⟨hm6,p⟩);go_roundw
    case rel=>exact⟨k+1,n+1,M,gM,oM,oM,za (by have:=Y.out;rwa [show B+20*k+20=B+20*(k+1) by omega] at this),ad⟩
    case measure=>simp [intOf];omega
  ·obtain rfl:k=nr:=oM;have aa:=za (show RetRN J (rnM (zaA f cols rows)) (B+240) S W (.returned (.map (some c))) wr from ⟨S1,c,n,rfl,by
    have:=g.out.1;rwa [eF (by simp only [zaA,eT];have:=D.out.1;omega)] at this,g.out.2,oM,oM,(a.out.more HO.out.ok oM).back I⟩)
   go_wp2_with fail
   go_ret;exact aa.out
end
theorem conv_rune0 (w:World):(convert 21 9 (.int .i32 97)).run Tryz.prog w=.ok (.string (zbY 0)) w:=kM
theorem conv_rune1 (w:World):(convert 21 9 (.int .i32 98)).run Tryz.prog w=.ok (.string (zbY 1)) w:=kM
theorem conv_rune2 (w:World):(convert 21 9 (.int .i32 99)).run Tryz.prog w=.ok (.string (zbY 2)) w:=kM
theorem conv_rune3 (w:World):(convert 21 9 (.int .i32 100)).run Tryz.prog w=.ok (.string (zbY 3)) w:=kM
theorem conv_rune4 (w:World):(convert 21 9 (.int .i32 101)).run Tryz.prog w=.ok (.string (zbY 4)) w:=kM
theorem conv_rune5 (w:World):(convert 21 9 (.int .i32 102)).run Tryz.prog w=.ok (.string (zbY 5)) w:=kM
theorem conv_rune {l:Nat}(hl:l<6) (w:World):(convert 21 9 (.int .i32 ((97+l:Nat):Int))).run Tryz.prog w=.ok (.string (zbY l)) w:=by
 have a:l=0∨l=1∨l=2∨l=3∨l=4∨l=5:=oM;rcases a with rfl|rfl|rfl|rfl|rfl|rfl
 ·exact conv_rune0 w
 ·exact conv_rune1 w
 ·exact conv_rune2 w
 ·exact conv_rune3 w
 ·exact conv_rune4 w
 ·exact conv_rune5 w
section
variable {J:zbx} {B b0 L base nr cr nc cc kn:Nat} {S S':Nat->Prop} {W W':World} {R C:Option Addr} {rows cols:List ByteArray} {f:ByteArray->Bool} {rc:Value}
theorem or_firstOpen (hO:zfE b0 L f J kn rc)(hj:J B W S)(hB:B+1680<10000000)(hT:zhb W S base R nr cr C nc cc rows cols)(hI:zbX L f rows cols)(hb0:b0<=W.heap.size)(hL:L<64) :
  Calls Tryz.prog 209 #[orcV L kn rc,.agg #[.slice R nr cr,.slice C nc cc]] W (RetO J (.tuple #[.string ((zaJ L f rows cols).getD ⟨#[]⟩),.bool (zaJ L f rows cols).isSome]) (B+1680) S W):=by
 have HO:=za hO;have HI:=za hI;have aE:=za hT.lens;have a2:nr<=12:=by rw [← hT.lens.1];exact hI.r12
 have O:Ext W ((W.alloc (.cells #[(L:Int),.func (.func kn) #[rc] #[]] 83)).alloc (.cells #[.slice R nr cr,.slice C nc cc] 90)):=((dE _).alloc _).alloc _;obtain⟨b3,b4⟩:=zJ (dE ((W.alloc (.cells #[(L:Int),.func (.func kn) #[rc] #[]] 83)).alloc (.cells #[.slice R nr cr,.slice C nc cc] 90)));have u:=za (fun (q:Nat) (hq:W.heap.size<=q)=>zbx.fresh hO.ok hj hq);have aB:=hO.ok.keep hj O (fun _ _ h=>h.elim);have ag:=za (hT.ext O);have bo:W.heap.size<((W.alloc (.cells #[(L:Int),.func (.func kn) #[rc] #[]] 83)).alloc (.cells #[.slice R nr cr,.slice C nc cc] 90)).heap.size∧W.heap.size+1<((W.alloc (.cells #[(L:Int),.func (.func kn) #[rc] #[]] 83)).alloc (.cells #[.slice R nr cr,.slice C nc cc] 90)).heap.size:=by simp;omega
 have aJ:Sm L:=tM;clear hO hI hT hj
 go_enter Tryz.func209,Tryz.ntmps209
 go_upto_region 1 with fail
 generalize (W.alloc _).alloc _=w1 at *;have k3:=b3.cell;have k4:=b4.cell;have an:=za (zfV HO.out aB oM ag.out HI.out oM);have D:=za (show zaJ L f rows cols=(rows.flatMap fun r=>(letters L 6).map fun l=>r++zbY l).find? (fun x=>!zcS (zaA f cols rows) (mkS (zbF f cols x))) from rfl);obtain⟨op,E⟩:∃ op,Hid (zaJ L f rows cols=op):=⟨_,za rfl⟩;rw [E.out] at D ⊢;have aD:=za (fun l (hl:l∈letters L 6)=>zD.1 hl);have a0:(letters L 6).length<=6:=zA L 6;obtain⟨g,V⟩:∃ g,Hid (letters L 6=g):=⟨_,za rfl⟩;rw [V.out] at D aD a0;obtain⟨p,aN⟩:∃ p,Hid (zaA f cols rows=p):=⟨_,za rfl⟩;rw [aN.out] at D an;have al:=za HI.out.c20;go_upto_region 2 with (go_at_call 124;refine an.out.mono ?_;rintro e w2 ⟨S2,G,n,rfl,aF,Y,bd,be,ai⟩)
 have B3:=za b3;have B4:=za b4;have U:=za ai;have Z:=za (show zfB w2 G n (rnM p)∧¬ S2 G from ⟨aF,Y⟩);have k4:=(ai.blk b4 (u.out _ oM)).1.cell;clear b3 b4 k3 ai aF Y an aB;go_wp2_with fail
 go_loopw [8,10,11,12,13,20] (fun _ _ _ _ _ iv wr=>∃ (i:Nat) (S1:Nat->Prop),iv=.int .i64 i∧i<=nr∧Hid (Kp J (B+240+120*i) S w1 wr S1)∧Hid (zfB wr G n (rnM p)∧¬ S1 G)∧Hid (∀ x∈(rows.take i).flatMap (fun r=>g.map fun l=>r++zbY l),zcS p (mkS (zbF f cols x))=true)) (fun _ _ _ _ _ iv _=>nr - (intOf iv).toNat)
 case atStart=>exact⟨0,S2,rfl,eC _,U,Z,za (fun x hx=>by simp at hx)⟩
 case round =>
  clear U Z k4;obtain⟨i,S1,rfl,hi,t,d,m⟩:=hrel;have k3:=(t.out.blk B3.out (u.out _ (dI _))).1.cell;have k4:=(t.out.blk B4.out (u.out _ oM)).1.cell
  by_cases hlt:i<nr
  ·have bc:(i:Int)<(nr:Int):=oM;obtain⟨x,hx⟩:∃ x,rows[i]?=some x:=⟨_,dH (oH aE.out.1)⟩;have Hx:=za hx;obtain⟨gR,rfl,hc⟩:=zhS (ag.out.kp t.out).r.own hx;have aL:=za (dG hx);have bq:x.size<=12:=(HI.out.rin aL.out).2;have ab:=za (fun (q:Nat) (hq:wr.heap.size<=q)=>zbx.fresh HO.out.ok t.out.j hq);clear hx;go_upto_region 6 with (go_at_call 67;refine (zag L aJ _).mono ?_;rintro e w3 ⟨AL,cL,rfl,c,aq⟩)
   rw [V.out] at c ⊢;have a:=za (t.out.ext HO.out.ok aq);have aa:=za (show zfB w3 G n (rnM p)∧¬ S1 G from ⟨d.out.1.ext aq,d.out.2⟩);have F:=za (show zgk w3 S1 wr.heap.size 3 1 (.slice AL g.length cL) g.length (zac g) from ⟨c,fun b hb=>ab.out b (c.lt b hb).1⟩);obtain⟨bl,ay⟩:∃ bl,Hid (bl=wr.heap.size):=⟨_,za rfl⟩;rw [← ay.out] at F;clear c aq k3 k4 hc d ab;go_wp2_with fail
   go_loopw [10,11,12,13,28] (fun _ _ _ _ kv wr=>∃ (k:Nat) (S3:Nat->Prop),kv=.int .i64 k∧k<=g.length∧Hid (Kp J (B+240+120*i+20*k) S w1 wr S3)∧Hid (zfB wr G n (rnM p)∧¬ S3 G)∧Hid (zgk wr S3 bl 3 1 (.slice AL g.length cL) g.length (zac g))∧Hid (∀ y∈(g.take k).map (fun l=>x++zbY l),zcS p (mkS (zbF f cols y))=true)) (fun _ _ _ _ kv _=>g.length - (intOf kv).toNat)
   case atStart=>exact⟨0,S1,rfl,eC _,a,aa,F,za (fun y Q=>by simp at Q)⟩
   case round =>
    clear a aa F;obtain⟨k,S3,rfl,hk,a,d,am,ah⟩:=hrel;have k3:=(a.out.blk B3.out (u.out _ (dI _))).1.cell;have k4:=(a.out.blk B4.out (u.out _ oM)).1.cell
    by_cases hkl:k<g.length
    ·have bb:(k:Int)<(g.length:Int):=oM;obtain⟨l,hl⟩:∃ l,g[k]?=some l:=⟨_,dH hkl⟩;obtain⟨v,aj⟩:=aD.out l (dG hl);have bk:=za aj;have Hl:=za hl;obtain⟨gl,rfl,-,-⟩:=zad am.out.own oM;have cl:=zdd am.out.own hkl;rw [eE,hl,gQ] at cl;have aX:∀ X:World,(convert 21 9 (.int .i32 (97+(l:Int)))).run Tryz.prog X=.ok (.string (zbY l)) X:=fun X=>by
      have:=conv_rune v X;rwa [Int.natCast_add] at this
     have bf:IntKind.i32.wrap (97+(l:Int))=97+(l:Int):=by
      simp [IntKind.wrap,IntKind.bits,IntKind.signed];omega
     have o:=za (HI.out.snoc aL.out v aj);obtain⟨z,hz⟩:∃ z,Hid (zbY l=z):=⟨_,za rfl⟩;have bs:z.size=1:=by rw [← hz.out];exact zcC l
     obtain⟨y,Q⟩:∃ y,Hid (x++z=y):=⟨_,za rfl⟩;have ar:=za (show x++zbY l=y by rw [hz.out,Q.out]);rw [ar.out] at o;have bp:¬ 9223372036854775807<x.size+1:=oM;rw [hz.out] at aX;have aT:=za (ag.out.kp a.out);have ak:=za (zhQ (x:=y) HO.out a.out.j oM aT.out HI.out o.out.1 (oH o.out.2) (oH a.out.size));obtain⟨m9,M⟩:∃ m9,Hid (mkS (zbF f cols y)=m9):=⟨_,za rfl⟩;rw [M.out] at ak;have aA:=za (show domS m9 by rw [← M.out];exact mkS_dom al.out y);have br:=Q.out;clear hl aj;cases hm:zcS p m9 with
     |false =>
      have Hm:=za hm;have ao:=za (show (rnM p m9).isSome=false by rw [rnM_is,hm]);have ap:=za (show op=some y by
       rw [D.out];exact open_find Hx.out Hl.out ar.out m.out ah.out (by rw [M.out];exact Hm.out))
      clear hm;go_upto_region 8 with fail
      go_upto_region 9 with ((go_at_call 126;refine (zbA v _).mono ?_;rintro e w7 ⟨rfl,rfl⟩))
      go_wp2_with (first
       |(go_at_call 126;refine (zbA v _).mono ?_;rintro e w7 ⟨rfl,rfl⟩)
       |(go_at_call 125;refine ak.out.mono ?_;rintro e w5 ⟨S5,rfl,s⟩;obtain⟨I,aI⟩:=zfB.kp d.out.1 d.out.2 s)
       |(at_lookup;refine zcV (key:=m9) _ keyS rfl _ _ rfl rfl I rfl aA.out ?_;rw [ao.out];intro cc' hcc;clear hcc))
      go_ret2;exact⟨S5,by rw [E.out,ap.out];rfl,((a.out.trans s).more HO.out.ok oM).back O⟩
     |true =>
      have Hm:=za hm;have ao:=za (show (rnM p m9).isSome=true by rw [rnM_is,hm]);have az:=za (show ∀ y∈(g.take (k+1)).map (fun l=>x++zbY l),zcS p (mkS (zbF f cols y))=true from fun y' hy'=>by
       rw [eG,Hl.out,List.map_append] at hy';rcases List.mem_append.1 hy' with T|T
       ·exact ah.out y' T
       ·simp at T;rw [T,ar.out,M.out];exact Hm.out)
      clear hm;go_upto_region 8 with fail
      go_upto_region 9 with ((go_at_call 126;refine (zbA v _).mono ?_;rintro e w7 ⟨rfl,rfl⟩))
      go_wp2_with (first
       |(go_at_call 125;refine ak.out.mono ?_;rintro e w5 ⟨S5,rfl,s⟩;obtain⟨I,aI⟩:=zfB.kp d.out.1 d.out.2 s)
       |(at_lookup;refine zcV (key:=m9) _ keyS rfl _ _ rfl rfl I rfl aA.out ?_;rw [ao.out];intro cc' hcc;clear hcc))
      have aC:=za (a.out.trans s);have aH:=za (am.out.kp s);have aK:=za (show zfB w5 G n (rnM p)∧¬ S5 G from ⟨I,aI⟩);go_roundw
      case rel=>exact⟨k+1,S5,gM,oM,za (by have:=aC.out;rwa [show B+240+120*i+20*k+20=B+240+120*i+20*(k+1) by omega] at this),aK,aH,az⟩
      case measure=>simp [intOf];omega
    ·have aY:¬ (k:Int)<(g.length:Int):=oM;have H:=za (show ∀ y∈(rows.take (i+1)).flatMap (fun r=>g.map fun l=>r++zbY l),zcS p (mkS (zbF f cols y))=true from fun y Q=>by
      rw [eG,Hx.out,List.flatMap_append] at Q;rcases List.mem_append.1 Q with T|T
      ·exact m.out y T
      ·refine ah.out y ?_;rw [eF oM];simpa using T)
     have aZ:=za (a.out.more HO.out.ok (show B+240+120*i+20*k<=B+240+120*(i+1) by omega));go_wp2_with fail
     go_roundw
     case rel=>exact⟨i+1,S3,gM,oM,aZ,d,H⟩
     case measure=>simp [intOf];omega
  ·have aY:¬ (i:Int)<(nr:Int):=oM;have a1:=za (show op=none by
    rw [D.out,jZ];intro y Q;rw [m.out y (by rw [eF (oH aE.out.1)];exact Q)];decide)
   have aG:=za (show RetO J (.tuple #[.string ((zaJ L f rows cols).getD ⟨#[]⟩),.bool (zaJ L f rows cols).isSome]) (B+1680) S W (.returned (.tuple #[.string ⟨#[]⟩,.bool false])) wr from ⟨S1,by rw [E.out,a1.out];rfl,(t.out.more HO.out.ok oM).back O⟩);go_wp2_with fail
   go_ret2;exact aG.out
end
theorem zby (h:Reads w lo hi 1 A n (zM l))(hn:n<=1048576) :
  Calls Tryz.prog 208 #[.slice A n c] w fun e w'=>∃ v',e=.returned v'∧w'.ownsRow w.heap.size 9 1 v' n (zM l)∧Ext w w':=by
 cases A with
 |none =>
  obtain rfl:n=0:=by
   rcases iL n with b|b
   ·exact b
   ·obtain⟨_,d,_⟩:=h.2.2 b;cases d
  have f:=h.length;obtain rfl:l=[]:=eJ (by rw [zaR] at f;omega);clear h;have g:=fun (w:World) (a:Option Addr) (n c n' c':Nat)=>Lib.run_eql_slice_nil (P:=Tryz.prog) w 88 _ a n c n' c' Tryz.underlying88
  go_enter Tryz.func208,Tryz.ntmps208
  go_wp2;go_ret;exact⟨_,rfl,World.ownsRow_nil _ _ _ _,dE _⟩
 |some ad =>
  have H:=za (h.ext ((dE w).alloc (.cells #[] 9)));clear h;have g:=fun (w:World) (a:Option Addr) (n c n' c':Nat)=>Lib.run_eql_slice_nil (P:=Tryz.prog) w 88 _ a n c n' c' Tryz.underlying88
  go_enter Tryz.func208,Tryz.ntmps208
  go_wp2_with (at_builtin;refine zdk _ rfl _ _ 88 rfl w.heap.size 9 _ 1 16 Tryz.underlying88 zt rfl dM _ 0 [] rfl (World.ownsRow_made w #[] 0 (dI _) (eC _) rfl) _ _ (some ad) n c (zM l) rfl H.out (zv l) lM oM sM ?_;intro v' w1 zkf hg hat)
  have i:=zfP hg;rw [eO,e9] at zkf;go_ret;exact⟨_,rfl,zkf,i⟩
theorem clone_edge {l:List Edg} (h:Reads w lo hi 3 A n (zn l))(hn:n<=1048576) :
  Calls Tryz.prog 103 #[.slice A n c] w fun e w'=>∃ v',e=.returned v'∧w'.ownsRow w.heap.size 117 3 v' n (zn l)∧Ext w w':=by
 cases A with
 |none =>
  obtain rfl:n=0:=by
   rcases iL n with b|b
   ·exact b
   ·obtain⟨_,d,_⟩:=h.2.2 b;cases d
  have f:=h.length;obtain rfl:l=[]:=eJ (by rw [zL] at f;omega);clear h;have g:=fun (w:World) (a:Option Addr) (n c n' c':Nat)=>Lib.run_eql_slice_nil (P:=Tryz.prog) w 36 _ a n c n' c' Tryz.underlying36
  go_enter Tryz.func103,Tryz.ntmps103
  go_wp2;go_ret;exact⟨_,rfl,World.ownsRow_nil _ _ _ _,dE _⟩
 |some ad =>
  have H:=za (h.ext ((dE w).alloc (.cells #[] 117)));clear h;have g:=fun (w:World) (a:Option Addr) (n c n' c':Nat)=>Lib.run_eql_slice_nil (P:=Tryz.prog) w 36 _ a n c n' c' Tryz.underlying36
  go_enter Tryz.func103,Tryz.ntmps103
  go_wp2_with (at_builtin;refine zdk _ rfl _ _ 36 rfl w.heap.size 117 _ 3 24 Tryz.underlying36 zaV rfl dM _ 0 [] rfl (World.ownsRow_made w #[] 0 (dI _) (eC _) rfl) _ _ (some ad) n c (zn l) rfl H.out (zcQ l) lM oM sM ?_;intro v' w1 zkf hg hat)
  have i:=zfP hg;rw [eO,e9] at zkf;go_ret;exact⟨_,rfl,zkf,i⟩
theorem strs_at (h:Reads w lo hi 1 A n (zM l))(hk:l[k]?=some x):∃ ad,A=some ad∧w.cell? (ad.add k)=some (.string x):=by
 have b:=h.length;rw [zaR] at b;obtain⟨ad,y,e,_,_,c,a⟩:=h.str (k:=k) (by have:=(List.getElem?_eq_some_iff.1 hk).1;omega);obtain rfl:=Option.some.inj (hk.symm.trans c.out);exact⟨ad,e,a⟩
theorem index_str (h:Reads w lo hi 1 A n (zM l)) :
  Calls Tryz.prog 273 #[.slice A n c,x] w fun e w'=>∃ r:Int,e=.returned (.int .i64 r)∧(decide (0<=r)=zcS l x)∧w=w':=by
 have q:=h.length;have D:=h.len;rw [zaR] at q;have H:=za h;have b:=za (show l.length=n by omega);clear h q
 go_enter Tryz.func273,Tryz.ntmps273
 go_wp2_with fail
 go_loopw [5,8] (fun _ i wr=>∃ k:Nat,i=.int .i64 k∧k<=n∧Hid (∀ j,j<k->l[j]?≠some x)∧wr=w) (fun _ i _=>n - (intOf i).toNat)
 case atStart=>exact⟨0,rfl,eC _,za (fun j h=>oM),rfl⟩
 case round =>
  obtain⟨k,rfl,C,d,rfl⟩:=hrel
  by_cases hlt:k<n
  ·have s:(k:Int)<(n:Int):=oM;obtain⟨y,m⟩:∃ y,l[k]?=some y:=⟨_,dH (oH b.out)⟩;have o:=za m;obtain⟨z,rfl,B⟩:=strs_at H.out m;clear m
   by_cases hxy:x=y
   ·subst hxy;have a:=za (show zcS l x=true from zaw.2 (dG o.out));go_wp2_with fail
    go_ret;exact⟨k,rfl,by rw [a.out];simp,rfl⟩
   ·have v:=str_ne hxy;have f:=za (show ∀ j,j<k+1->l[j]?≠some x from fun j g e=>by
     rcases fC (gD g) with t|rfl
     ·exact d.out j t e
     ·have p:=o.out;rw [e] at p;exact hxy (Option.some.inj p))
    clear hxy d;go_wp2_with fail
    go_roundw
    case rel=>exact⟨k+1,gM,oM,f,trivial⟩
    case measure=>simp [intOf];omega
  ·have u:(n:Int)<=(k:Int):=oM;have a:=za (show zcS l x=false from zcp.2 (fun hm=>by
    obtain⟨j,g⟩:=List.getElem?_of_mem hm;exact d.out j (by have:=(List.getElem?_eq_some_iff.1 g).1;have:=b.out;omega) g))
   go_wp2_with fail
   go_ret;exact⟨-1,rfl,by rw [a.out];simp,rfl⟩
theorem contains_str (h:Reads w lo hi 1 A n (zM l)) :
  Calls Tryz.prog 210 #[.slice A n c,x] w fun e w'=>e=.returned (.bool (zcS l x))∧w=w':=by
 go_enter Tryz.func210,Tryz.ntmps210
 go_wp2_with ((go_at_call 273;refine (index_str h).mono ?_;rintro e b ⟨r,rfl,a,rfl⟩))
 go_ret;exact⟨rfl,rfl⟩
theorem zbs (h:zbX L f rows cols)(ho:zaJ L f rows cols=none)(hL:L<64):zj (zcN L f rows cols)=true:=by
 unfold zj zcN;simp only [eD,decide_eq_true_eq,eT,fH];refine⟨oM,⟨h.r1,h.r12⟩,trivial,fun row hrow=>?_⟩;obtain⟨r,b,rfl⟩:=List.mem_map.1 hrow;unfold rowB zdI;simp only [eD,decide_eq_true_eq,eT,fH];refine⟨by rw [fF],fun q hq=>?_⟩;obtain⟨l,a,rfl⟩:=List.mem_map.1 hq;have:=zjz (zeE ho b a);rw [zaA,eT] at this;exact⟨oM,by exact_mod_cast this⟩
section
variable {w W:World} {lo hi m d m' d':Nat} {B B':Option Addr} {p:Aut} {t:ByteArray}
theorem zhW (h:zF w lo hi B m B' m' p)(hv:zj p=true)(ht:inB t p.al.toNat=true) :
  Calls Tryz.prog 280 #[.agg #[p.al,.slice B m d,.slice B' m' d'],t] w fun e w'=>e=.returned (.int .i64 (zaW p 0 (wl t):Nat))∧Ext w w':=by
 obtain⟨j,k⟩:=(zl hv).1;obtain⟨al,a⟩:∃ al:Nat,Hid (p.al=al):=⟨p.al.toNat,by unfold Hid;omega⟩;have c:al<=63:=oH a.out;have l:=za (show p.al.toNat=al by have:=a.out;omega);have n:=zaT ht;have s:=zbk n;have g:=za (fun W (hW:Ext w W)=>zQ _ _ _ _ d _ _ d' _ _ (h.ext hW));rw [hv] at g;have q:=za (fun W (hW:Ext w W)=>spec_l3Run (d:=d) (d':=d') (h.ext hW) hv n);rw [l.out] at ht;have i:=za ht;rw [a.out] at g q ⊢;clear h hv ht n j k
 go_enter Tryz.func280,Tryz.ntmps280
 go_upto_region 1 with fail
 generalize U0:w.alloc _=v at *;obtain⟨b,r⟩:=Ext.x1_ U0;clear U0;have x:=r.cells;have u:=dE v;go_wp2_with (first
  |(go_at_call 79;refine (g.out _ b).mono (mQ fun y f=>?_))
  |(go_at_call 146;refine (zaY oM c).mono ?_;rw [i.out];rintro e z ⟨rfl,rfl⟩)
  |(go_at_call 264;refine (q.out _ (b.trans f)).mono (mQ fun C o=>?_)))
 go_ret;exact⟨rfl,b.trans (f.trans o)⟩
theorem zgT (h:zF w lo hi B m B' m' p)(hv:zj p=true)(ht:inB t p.al.toNat=true) :
  Calls Tryz.prog 227 #[.agg #[p.al,.slice B m d,.slice B' m' d'],t] w fun e w'=>e=.returned (.bool (zct p (zaW p 0 (wl t))))∧Ext w w':=by
 have g:=za (fun W (hW:Ext w W)=>zhW (d:=d) (d':=d') (h.ext hW) hv ht);have i:=za (fun W (hW:Ext w W) q hq=>zfH (q:=q) (h.ext hW) hq);have c:zaW p 0 (wl t)<p.next.length:=zeG hv (wl_lt (zaT ht)) (by have:=(zl hv).2.1;omega);have b:m'=p.next.length:=by rw [h.n2,(zl hv).2.2.1]
 rw [← b] at c;generalize zaW p 0 (wl t)=q at *;have k:(q:Int)<(m':Int):=oM;clear h hv ht b
 go_enter Tryz.func227,Tryz.ntmps227
 go_upto_region 1 with fail
 generalize U0:w.alloc _=o at *;obtain⟨a,j⟩:=Ext.x1_ U0;clear U0;have s:=j.cells;have n:=dE o;go_upto_region 2 with (first
  |(go_at_call 280;refine (g.out _ a).mono (mQ fun r f=>?_)))
 obtain⟨u,rfl,v⟩:=i.out r (a.trans f) q c;have l:(0:Int)<=(q:Int):=oM;go_wp2_with fail
 go_ret;exact⟨zu sM,a.trans f⟩
end
noncomputable def stT (L:Nat) (f:ByteArray->Bool) (rows cols:List ByteArray) (x:ByteArray) (k:Nat):Nat:=zaW (zcN L f rows cols) 0 ((wl x).take k)
noncomputable def zir (L:Nat) (f:ByteArray->Bool) (rows cols:List ByteArray) (x:ByteArray) (k:Nat):Bool:=f (rows.getD (stT L f rows cols x k) ⟨#[]⟩++x.extract k x.size)
noncomputable def zdA (L:Nat) (f:ByteArray->Bool) (rows cols:List ByteArray) (x:ByteArray):Option ByteArray:=
 if (inB x L&&decide (x.size<=4000))=true∧zct (zcN L f rows cols) (zaW (zcN L f rows cols) 0 (wl x))≠f x then
  ((fW x.size).find? fun k=>zir L f rows cols x k != zir L f rows cols x (k+1)).map fun k=>x.extract (k+1) x.size
 else none
theorem zeU {P:Nat->Bool} (hk:k<n)(hp:∀ j,j<k->P j=false)(hx:P k=true):(fW n).find? P=some k:=by
 rw [List.find?_range_eq_some];exact⟨hx,List.mem_range.2 hk,fun j hj=>by rw [hp j hj];rfl⟩
section
variable {w W:World} {n c m d m' d' L:Nat} {A B B':Option Addr} {s:Sys} {p:Aut} {nr nc cr cc:Nat} {R C:Option Addr} {rows cols:List ByteArray}
theorem ziy (h:Tch w A n B m B' m' s p L)(hT:TabAt w R nr C nc rows cols)(hI:zbX L (zo s p L) rows cols)(hcr:nr<=cr)(hcc:nc<=cc)(hcl:zaJ L (zo s p L) rows cols=none)(hx:x.size<=9223372036854775807) :
  Calls Tryz.prog 151 #[.agg #[.bool false,(0:Int),(),(),s.al,s.st,.slice A n c,p.al,.slice B m d,.slice B' m' d',L],.agg #[.slice R nr cr,.slice C nc cc],x] w fun e w'=>e=.returned (.tuple #[.string ((zdA L (zo s p L) rows cols x).getD ⟨#[]⟩),.bool (zdA L (zo s p L) rows cols x).isSome])∧Ext w w':=by
 obtain⟨e1,e2⟩:=hT.nr;have aN:=zbs hI hcl h.lt;have aW:=hI.r12;rw [e1] at aW;have bi:=za (fun W (hW:Ext w W)=>zbQ (c:=c) (d:=d) (d':=d') (h.ext hW) (hT.ext hW) hI hcr hcc hcl);have aj:=za (fun W (hW:Ext w W)=>zgL (c:=c) (d:=d) (d':=d') (h.ext hW) hx);have J:=za (fun W (hW:Ext w W) (y:ByteArray) hy=>zeK (c:=c) (d:=d) (d':=d') (t:=y) (h.ext hW) hy);obtain⟨lo,hi,ca,b0,h1,h2⟩:=hT;have H1:=za (fun W (hW:Ext w W)=>h1.ext hW);have aF:=za (fun x hx=>hI.rin (x:=x) hx);have He:=za e1;have F:=za (show (zcN L (zo s p L) rows cols).next.length=nr by unfold zcN;rw [eT];exact e1);have E:=za (show (zcN L (zo s p L) rows cols).al=(L:Int) from rfl);obtain⟨op,aT⟩:∃ op,Hid (zdA L (zo s p L) rows cols x=op):=⟨_,rfl⟩;rw [aT.out];have ak:=za (fun k=>show stT L (zo s p L) rows cols x k=zaW (zcN L (zo s p L) rows cols) 0 ((wl x).take k) from rfl);have M:=za (show zdA L (zo s p L) rows cols x=if (inB x L&&decide (x.size<=4000))=true∧zct (zcN L (zo s p L) rows cols) (zaW (zcN L (zo s p L) rows cols) 0 (wl x))≠zo s p L x then
  ((fW x.size).find? fun k=>zir L (zo s p L) rows cols x k != zir L (zo s p L) rows cols x (k+1)).map fun k=>x.extract (k+1) x.size else none from rfl)
 rw [aT.out] at M;have aE:=za (fun k=>show zir L (zo s p L) rows cols x k=zo s p L (rows.getD (stT L (zo s p L) rows cols x k) ⟨#[]⟩++x.extract k x.size) from rfl);generalize zir L (zo s p L) rows cols x=v at *;generalize stT L (zo s p L) rows cols x=st at *;generalize zcN L (zo s p L) rows cols=O at *;have Y:=za aN;clear h h1 h2 hI e1 e2 aN hcl
 go_enter Tryz.func151,Tryz.ntmps151
 go_upto_region 1 with fail
 generalize U0:(w.alloc _).alloc _=w0 at *;obtain⟨f,b1,b2⟩:=Ext.x2_ U0;clear U0;have CB:=b1.cells;have CT:=b2.cells;have aY:=dE w0;go_upto_region 2 with (first
  |(go_at_call 58;refine (bi.out _ f).mono ?_;rintro e w1 ⟨X,k1,d1,X',bs,am,rfl,a7,aZ⟩))
 rw [E.out];have aL:=(a7.ext ((dE w1).alloc (.cells #[.int .i64 (L:Nat),.slice X k1 d1,.slice X' bs am] 27))).reads;generalize U0:w1.alloc _=G at *;have b3:=Ext.bl_ U0;have a0:=Ext.al_ U0;clear U0;have a:=aZ.trans a0;have be:=fun W (hW:Ext G W)=>CB W (a.trans hW);have bg:=fun W (hW:Ext G W)=>CT W (a.trans hW);have CA:=b3.cells;have aC:=za (fun W (hW:Ext G W)=>aL.ext hW);have r:=dE G;clear a7 aL aY;cases hok:(inB x L&&decide (x.size<=4000))
 ·have Z:=za hok;have S:=za (show op=none by rw [M.out,hok,if_neg (by rintro ⟨h,-⟩;cases h)]);clear hok;refine uR (fun X=>Ext G X) [] (zw.of [0,1,2,3,4,5,6,7,8,9,10,12,13,11,14,15,16]) ?_;refine uQ ?_;refine ze fun K hK=>?_;go_simp;refine (aj.out _ (f.trans (a.trans r.drew))).mono ?_;rw [Z.out];rintro e w3 ⟨rfl,H⟩;have b:Ext G w3:=r.drew.trans H;refine hK.out _ _ b ?_;refine pT ?_;refine uQ ?_;refine zg ?_;go_wp2_with fail
  go_ret2;exact⟨by rw [S.out];rfl,f.trans (a.trans b)⟩
 ·have Z:=za hok;have ae:=hok;simp only [eD,decide_eq_true_eq] at ae;obtain⟨Q,b8⟩:=ae;have D:=za (fun W (hW:Ext G W)=>zgT (d:=d1) (d':=am) (t:=x) (aC.out W hW) Y.out (by rw [E.out,fF];exact Q));rw [E.out] at D;have ai:=za (fun W (hW:Ext G W)=>J.out W (f.trans (a.trans hW)) x hx);obtain⟨ac,aK⟩:∃ ac,Hid (zct O (zaW O 0 (wl x))=ac):=⟨_,rfl⟩;obtain⟨fx,aQ⟩:∃ fx,Hid (zo s p L x=fx):=⟨_,rfl⟩;rw [aK.out] at D;rw [aQ.out] at ai;rw [aK.out,aQ.out,hok] at M;clear hok
  by_cases heq:ac=fx
  ·subst heq;have S:=za (show op=none by rw [M.out,if_neg (by rintro ⟨-,h⟩;exact h rfl)]);refine uR (fun X=>Ext G X) [] (zw.of [0,1,2,3,4,5,6,7,8,9,10,12,13,11,14,15,16]) ?_;refine uQ ?_;refine ze fun K hK=>?_;go_simp;refine (aj.out _ (f.trans (a.trans r.drew))).mono ?_;rw [Z.out];rintro e w3 ⟨rfl,H⟩;have b:Ext G w3:=r.drew.trans H;refine hK.out _ _ b ?_;refine pT ?_;refine uQ ?_;refine ze fun K hK=>?_;go_simp;refine (D.out _ b).mono (mQ fun w4 aa=>?_);have g:=b.trans aa;refine hK.out _ _ g ?_;refine pT ?_;refine uQ ?_;refine ze fun K hK=>?_;go_simp;refine (ai.out _ g).mono (mQ fun w5 ab=>?_);have u:=g.trans ab;refine hK.out _ _ u ?_;refine pT ?_;refine uQ ?_;refine zg ?_;go_wp2_with fail
   go_ret2;exact⟨by rw [S.out];rfl,f.trans (a.trans u)⟩
  ·have b5:(ac==fx)=false:=by cases ac<;>cases fx<;>simp_all
   have aX:=za (show op=((fW x.size).find? fun k=>v k != v (k+1)).map fun k=>x.extract (k+1) x.size by rw [M.out,if_pos ⟨rfl,heq⟩]);clear heq;refine uR (fun X=>Ext G X) [] (zw.of [0,1,2,3,4,5,6,7,8,9,10,12,13,11,14,15,16]) ?_;refine uQ ?_;refine ze fun K hK=>?_;go_simp;refine (aj.out _ (f.trans (a.trans r.drew))).mono ?_;rw [Z.out];rintro e w3 ⟨rfl,H⟩;have b:Ext G w3:=r.drew.trans H;refine hK.out _ _ b ?_;refine pT ?_;refine uQ ?_;refine ze fun K hK=>?_;go_simp;refine (D.out _ b).mono (mQ fun w4 aa=>?_);have g:=b.trans aa;refine hK.out _ _ g ?_;refine pT ?_;refine uQ ?_;refine ze fun K hK=>?_;go_simp;refine (ai.out _ g).mono (mQ fun w5 ab=>?_);have u:=g.trans ab;refine hK.out _ _ u ?_;refine pT ?_;refine uQ ?_;refine zg ?_;have ar:=zaT Q;have Hb:=za (fun k hk=>zaQ ar (k:=k) hk);have bS:=za (wl_lt ar);have aS:1<=nr:=by have:=(zl Y.out).2.1;rw [F.out] at this;exact this.1
   clear Q ar;go_wp2_with fail
   go_loopw [10,11] (fun qv iv wr=>∃ (k q:Nat),iv=.int .i64 k∧k<=x.size∧qv=.int .i64 q∧q<nr∧Hid (q=st k)∧Hid (∀ j,j<k->(v j != v (j+1))=false)∧Ext G wr) (fun _ iv _=>x.size - (intOf iv).toNat)
   case atStart=>exact⟨0,0,rfl,eC _,rfl,aS,za (by rw [ak.out];rfl),za (fun j h=>oM),u⟩
   case round =>
    clear u ab g aa b H;obtain⟨k,q,rfl,hk,rfl,hq,aV,z,o⟩:=hrel
    by_cases hlt:k<x.size
    ·have bB:(k:Int)<(x.size:Int):=oM;obtain⟨l,hl⟩:∃ l:Nat,Hid ((x[k].toNat:Int) - 97=l):=⟨x[k].toNat - 97,by unfold Hid;have:=Hb.out k hlt;omega⟩;have aR:l<6:=by have:=hl.out;have:=Hb.out k hlt;omega
     have af:=za (show aGo O q l=st (k+1) by
      rw [ak.out,eG,zev hlt,Option.toList_some,zbB,← ak.out,← aV.out]
      congr 1
      have:=hl.out;have:=Hb.out k hlt;omega)
     have aU:aGo O q l<nr:=by rw [← F.out];exact zer Y.out (by rw [F.out];exact hq) aR
     have aD:=za (fun W (hW:Ext G W)=>zdU (d:=d1) (d':=am) (aC.out W hW) Y.out (by rw [F.out];exact hq) aR);rw [E.out] at aD;generalize aGo O q l=q2 at *;have bL:=fun W (hW:Ext wr W)=>CA W (o.trans hW);have bf:=fun W (hW:Ext wr W)=>be W (o.trans hW);have bh:=fun W (hW:Ext wr W)=>bg W (o.trans hW);have aY:=dE wr;go_wp2_with fail
     go_region_held3 (fun W=>Ext wr W) (first|assumption|(refine Ext.drew ?_;assumption)|(refine Ext.trans ?_ aM;assumption)|(refine Ext.trans ?_ aM;refine Ext.drew ?_;assumption)) (first
      |(go_at_call 144;refine (zbC x k hlt _).mono ?_;rw [hl.out];rintro e w6 ⟨rfl,rfl⟩)
      |(go_at_call 225;refine (aD.out _ (o.trans ?_)).mono ?_;(first|assumption|(refine Ext.drew ?_;assumption));rintro e I ⟨rfl,b7⟩))
     have i:Ext wr I:=aM;obtain⟨ad,r1,rfl,_,_,ap,aH⟩:=(H1.out I (f.trans (a.trans (o.trans i)))).str hq;obtain⟨bU,r2,e2,_,_,aq,aI⟩:=(H1.out I (f.trans (a.trans (o.trans i)))).str aU;obtain rfl:=Option.some.inj e2;have bD:=(aF.out r1 (dG ap.out)).2;have bE:=(aF.out r2 (dG aq.out)).2;have bO:∀ W,Ext I W->W.cell? (ad.add q)=some (.string r1):=fun W hW=>hW.aa aH;have bP:∀ W,Ext I W->W.cell? (ad.add q2)=some (.string r2):=fun W hW=>hW.aa aI;have bN:=fun W (hW:Ext I W)=>bf W (i.trans hW);have bR:=fun W (hW:Ext I W)=>bh W (i.trans hW);obtain⟨y1,au⟩:∃ y1,x.extract k x.size=y1:=⟨_,rfl⟩;obtain⟨y2,av⟩:∃ y2,x.extract (k+1) x.size=y2:=⟨_,rfl⟩;have bH:y1.size<=4000:=by rw [← au,ByteArray.size_extract];omega
     have bI:y2.size<=4000:=by rw [← av,ByteArray.size_extract];omega
     have bF:¬ 9223372036854775807<r1.size+y1.size:=oM;have bG:¬ 9223372036854775807<r2.size+y2.size:=oM;obtain⟨z1,aw⟩:∃ z1,r1++y1=z1:=⟨_,rfl⟩;obtain⟨z2,ax⟩:∃ z2,r2++y2=z2:=⟨_,rfl⟩;have aA:=za (fun W (hW:Ext I W)=>J.out W (f.trans (a.trans (o.trans (i.trans hW)))) z1 (by rw [← aw,ByteArray.size_append];omega));have aB:=za (fun W (hW:Ext I W)=>J.out W (f.trans (a.trans (o.trans (i.trans hW)))) z2 (by rw [← ax,ByteArray.size_append];omega));have an:=za (show v k=zo s p L z1 by rw [aE.out,← aV.out,eE,ap.out,gQ,au,aw]);have ao:=za (show v (k+1)=zo s p L z2 by rw [aE.out,← af.out,eE,aq.out,gQ,av,ax]);obtain⟨a1,aO⟩:∃ a1,Hid (zo s p L z1=a1):=⟨_,rfl⟩;obtain⟨a2,aP⟩:∃ a2,Hid (zo s p L z2=a2):=⟨_,rfl⟩;rw [aO.out] at aA an;rw [aP.out] at aB ao;have bk:=za av;have ag:=dE I;have bp:=IntWalk.i64_in ((k:Int)+1) oM;have b6:(q:Int)<(nr:Int):=oM;have bC:(q2:Int)<(nr:Int):=oM;have b4:(k:Int)+1<=(x.size:Int):=oM;have bA:(k:Int)<=(x.size:Int):=oM;have bz:(0:Int)<=(k:Int)+1:=oM;clear aH aI ap aq e2 aO aP;go_wp2_with fail
     refine uR (fun X=>Ext I X) [] (zw.of [0,1,2,3,4,5,6,7,8,9,11,12,13,14,15,16,17,18,19,20,21,10,22,23]) ?_;refine uQ ?_;refine ze fun K hK=>?_;go_simp;refine (aA.out _ ag.drew).mono (mQ fun w8 bq=>?_);have U:Ext I w8:=ag.drew.trans bq;refine hK.out _ _ U ?_;refine pT ?_;refine uQ ?_;refine ze fun K hK=>?_;go_simp;refine (aB.out _ U).mono (mQ fun w9 br=>?_);have ah:=U.trans br;refine hK.out _ _ ah ?_;refine pT ?_;refine uQ ?_;refine zg ?_;have V:=o.trans (i.trans ah);clear aw ax au bp
     by_cases hab:a1=a2
     ·subst hab;have bn:=za (show (v k != v (k+1))=false by rw [an.out,ao.out];simp);cases a1
      all_goals
       go_wp2_with fail
       go_roundw
       case rel=>exact⟨k+1,q2,gM,oM,rfl,aU,af,za (fun j hj=>by
        rcases fC (gD hj) with h1|rfl
        ·exact z.out j h1
        ·exact bn.out),V⟩
       case measure=>simp [intOf];omega
     ·have T:=za (show op=some y2 by
       rw [aX.out,zeU hlt (fun j hj=>z.out j hj) (by rw [an.out,ao.out];simpa using hab),Option.map_some,bk.out])
      cases a1<;>cases a2
      ·exact absurd rfl hab
      ·clear hab;go_wp2_with fail
       go_ret2;exact⟨by rw [T.out];rfl,f.trans (a.trans V)⟩
      ·clear hab;go_wp2_with fail
       go_ret2;exact⟨by rw [T.out];rfl,f.trans (a.trans V)⟩
      ·exact absurd rfl hab
    ·have bZ:(x.size:Int)<=(k:Int):=oM;have S:=za (show op=none by
      rw [aX.out,Option.map_eq_none_iff,jZ];intro j hj;rw [List.mem_range] at hj;rw [z.out j oM];decide)
     go_wp2_with fail
     go_ret2;exact⟨by rw [S.out];rfl,f.trans (a.trans o)⟩
end
end Go.Proofs.YtckbjnndaaoddaaGreatDoor
