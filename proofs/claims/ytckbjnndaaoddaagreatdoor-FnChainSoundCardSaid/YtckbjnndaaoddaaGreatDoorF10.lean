/- The referenc -/
import Derived.Test.YtckbjnndaaoddaaGreatDoorF09
set_option maxHeartbeats 2000000
set_option maxRecDepth 100000
namespace Go.Proofs.YtckbjnndaaoddaaGreatDoor
open Go Go.RowKit
open Bool renaming and_eq_true->dF
open Ext renaming refl->cY
open Frm renaming setCell->dE
open Int renaming toNat_natCast->eJ
open List renaming all_eq_true->eC,getD_eq_getElem?_getD->dH,getElem?_map->dQ,length_map->dW,length_take->eK,mem_of_getElem?->dB,range->fK,take_add_one->dJ,take_of_length_le->dI
open Nat renaming zero_le->dG
open Option renaming getD_some->fX
open Reads renaming af->dY
variable {L:Nat} {cols rows:List ByteArray} {f:ByteArray->Bool}
noncomputable def zfb (L:Nat) (f:ByteArray->Bool) (rows cols:List ByteArray) (r:ByteArray):List Int:=(letters L 6).map fun l=>((idxS (zbo f cols rows) (mkS (zcl f cols (r++zcY l))):Nat):Int)
noncomputable def zdL (L:Nat) (f:ByteArray->Bool) (rows cols:List ByteArray):Aut:=⟨(L:Int),rows.map (zfb L f rows cols),rows.map f⟩
theorem zeA (h:zaZ L f rows cols=none) {r:ByteArray} {l:Nat}(hr:r∈rows)(hl:l∈letters L 6):mkS (zcl f cols (r++zcY l))∈zbo f cols rows:=by
 unfold zaZ at h;rw [List.find?_eq_none] at h;have:=h (r++zcY l) (List.mem_flatMap.2 ⟨r,hr,List.mem_map.2 ⟨l,hl,rfl⟩⟩);simp only [Bool.not_eq_true',Bool.not_eq_false] at this;exact zdG.1 this
theorem mkS_head (b:Bool) (r:List Bool):∃ h:0<(mkS (b :: r)).size,((((mkS (b :: r))[0]'h).toNat:Int)==43)=b:=by
 have a:0<(mkS (b :: r)).size:=by rw [mkS_size];simp
 refine⟨a,?_⟩;have c:=zbX (mkS (b :: r)) 0 a;rw [zfB,List.map_cons,List.getElem?_cons_zero] at c;have d:=Option.some.inj c;rw [← d];cases b<;>rfl
theorem rowM_head (h:zcT L f rows cols) (x:ByteArray):∃ r,zcl f cols x=f x :: r:=by
 have a:=h.c0
 match cols,a with
 |c :: cs,a =>
  simp at a;subst a;refine⟨cs.map fun c=>f (x++c),?_⟩;unfold zcl;rw [List.map_cons]
  congr 1
  exact congrArg f (ByteArray.append_empty)
section
variable {w0 W W':World} {G:Nat} {al:Int} {v vA:Value} {ls:List (List Int)} {acc:List Bool}
theorem Gra.ao {x:Bool} {g cap:Nat}(h:Gra w0 W G al v ls vA acc)
  (zhD:W'.ownsRow w0.heap.size 4 1 (.slice (some g) (acc.length+1) cap) (acc.length+1) (zaB acc++[.bool x]))
  (hg:W.grownBy W' vA.ownBlock) (hat:vA.ownBlock=some g∨g=W.heap.size+1) :
  Hid (W'.cell? ⟨G,2,none⟩=some vA)∧W'.frozen? ⟨G,2,none⟩=false∧Gra w0 (W'.setCell ⟨G,2,none⟩ (.slice (some g) (acc.length+1) cap)) G al v ls (.slice (some g) (acc.length+1) cap) (acc++[x]):=by
 have f:=h.hG;have d:Blk W' G 27 #[.int .i64 al,v,vA]:=(hg.block G h.blk.lt (fun e=>zp h.acc h.blk dM e.symm rfl)).trans h.blk;have u:g≠G:=by
  rcases hat with s|s
  ·exact zp h.acc h.blk dM s
  ·have:=h.blk.lt;omega
 have q:Ext w0 W':=h.ext.grown hg (fun k hk=>(h.acc.lt k hk).1);have j:Frm (fun k=>vA.ownBlock=some k) W W':=Frm.ae hg;obtain⟨c,l,m⟩:=h.own;have t:W'.ownsRow w0.heap.size 110 1 v ls.length c:=zf l j (fun b hb hS=>zaW l h.acc dM hb hS);have n:zH W' w0.heap.size c ls:=m.frm j (fun i r b hr hb hS=>by
  obtain⟨y,_,o⟩:=m.row hr;exact zaW o h.acc dM hb hS)
 have a:=dE W' G 2 (.slice (some g) (acc.length+1) cap);refine⟨d.cell 2,d.frozen 2,⟨by simpa using d.ab 2 _,⟨c,zf t a (fun b hb hS=>zp t d dM hb hS),n.frm a (fun i r b hr hb hS=>?_)⟩,?_,q.setCell (p:=⟨G,2,none⟩) f _,f⟩⟩
 ·obtain⟨y,_,o⟩:=n.row hr;exact zp o d dM hb hS
 ·rw [List.length_append,List.length_singleton,show zaB (acc++[x])=zaB acc++[.bool x] by simp [zaB]];exact zf zhD a (fun b hv hS=>by
   have:g=b:=by simpa [Value.ownBlock] using hv
   omega)
end
theorem Frm.grown {S:Nat->Prop} {a w w':World} {row:Option Nat}(h:Frm S a w)(hg:w.grownBy w' row)(hr:∀ k,row=some k->a.heap.size<=k):Frm S a w':=
 ⟨hg.os.trans h.os,hg.tape.trans h.tape,hg.output.trans h.output,Nat.le_trans h.size hg.size,fun k hk hS=>(hg.block k (Nat.lt_of_lt_of_le hk h.size) (fun e=>by have:=hr k e.symm;omega)).trans (h.block k hk hS)⟩
def RetAutB (w:World) (a:Aut) (e:Ending) (w':World):Prop:=
 ∃ A n c A' n' c',e=.returned (.tuple #[.agg #[a.al,.slice A n c,.slice A' n' c'],.bool true])∧zK w' w.heap.size A n c A' n' c' a∧Ext w w'
section
variable {w W:World} {n c m d m' d' L:Nat} {A B B':Option Addr} {s:Sys} {p:Aut} {nr nc cr cc:Nat} {R C:Option Addr} {rows cols:List ByteArray}
theorem zbq (h:Tch w A n B m B' m' s p L)(hT:TabAt w R nr C nc rows cols)(hI:zcT L (zr s p L) rows cols)(hcr:nr<=cr)(hcc:nc<=cc)(hcl:zaZ L (zr s p L) rows cols=none) :
  Calls Tryz.prog 58 #[.agg #[.bool false,(0:Int),(),(),s.al,s.st,.slice A n c,p.al,.slice B m d,.slice B' m' d',L],.agg #[.slice R nr cr,.slice C nc cc]] w (RetAutB w (zdL L (zr s p L) rows cols)):=by
 obtain⟨e1,e2⟩:=hT.nr;have bg:=hI.r12;have bd:=hI.c20;rw [e1] at bg;rw [e2] at bd;have bH:=za (fun W (hW:Ext w W)=>zfr (c:=c) (d:=d) (d':=d') (h.ext hW) (hT.ext hW) hI hcr hcc hcl);have HA:=za (fun W (hW:Ext w W)=>zaE (c:=c) (d:=d) (d':=d') (h.ext hW));obtain⟨lo,hi,cW,cN,h1,h2⟩:=hT;have HR:=za (fun W (hW:Ext w W)=>zdx (c:=c) (d:=d) (d':=d') (cc:=cc) (cr:=cr) (h.ext hW) (h2.ext hW) (h1.ext hW) oM oM hI.rsz'.2 hI.rsz'.1);have HW:=za (fun W (hW:Ext w W) (y:ByteArray) hy=>zek (c:=c) (d:=d) (d':=d') (cc:=cc) (x:=y) (h.ext hW) (h2.ext hW) oM hy hI.rsz'.2);have H1:=za (fun W (hW:Ext w W)=>h1.ext hW);have hL:=h.lt;have bJ:=za (fun x hx=>hI.rin (x:=x) hx);have bK:=za (fun (r:ByteArray) (l:Nat) hr hl=>zeA (r:=r) (l:=l) hcl hr hl);have bI:=za (fun x=>rowM_head hI x);have aG:(zbo (zr s p L) cols rows).length=nr:=by rw [zbo,dW];exact e1
 have br:∀ (i:Nat) (r:ByteArray),rows[i]?=some r->(zbo (zr s p L) cols rows)[i]?=some (mkS (zcl (zr s p L) cols r)):=fun i r hr=>by rw [zbo,dQ,hr];rfl
 have bL:=za br;have aD:=za (show zdL L (zr s p L) rows cols=⟨(L:Int),rows.map (zfb L (zr s p L) rows cols),rows.map (zr s p L)⟩ from rfl);have ah:=za (fun r=>show zfb L (zr s p L) rows cols r=(letters L 6).map fun l=>((idxS (zbo (zr s p L) cols rows) (mkS (zcl (zr s p L) cols (r++zcY l))):Nat):Int) from rfl);generalize zdL L (zr s p L) rows cols=a6 at *;generalize zfb L (zr s p L) rows cols=a at *;generalize zbo (zr s p L) cols rows=zs at *;have af:=za aG;have He:=za e1;clear h h1 h2 hI e1 e2 aG br hcl
 go_enter Tryz.func58,Tryz.ntmps58
 go_upto_region 1 with fail
 generalize U0:((w.alloc _).alloc _).alloc _=w0 at *;obtain⟨Q,b1,b2,b3⟩:=Ext.x3_ U0;clear U0;have CB:=b1.cells;have CT:=b2.cells;have cK:=b3.lt;have ap:=cY w0;go_upto_region 4 with (first
  |(go_at_call 132;refine (bH.out _ Q).mono (mQ fun w1 aN=>?_))
  |(go_at_call 133;refine (HA.out _ (Q.trans aN)).mono (mQ fun w2 bn=>?_);have g:=aN.trans bn))
 have cQ:=g.size;have bp:=(cY w2).alloc (.cells #[.int .i64 (L:Nat),(),()] 27);have f:Gra w2 (w2.alloc (.cells #[.int .i64 (L:Nat),(),()] 27)) w2.heap.size (L:Nat) (.slice none 0 0) [] (.slice none 0 0) []:=
  ⟨Blk.new w2 _ _,⟨[],World.ownsRow_nil _ _ _ _,zH.nil _ _⟩,World.ownsRow_nil _ _ _ _,bp,Nat.le_refl _⟩
 clear bp;generalize hG:w2.heap.size=G at *;generalize w2.alloc _=w3 at *;have HG:=za hG;clear hG;have k3:=f.blk.cell;have Y:Ext w0 w3:=g.trans f.ext;have bD:=fun W (hW:Ext w3 W)=>CB W (Y.trans hW);have bF:=fun W (hW:Ext w3 W)=>CT W (Y.trans hW);go_wp2_with (first
  |(go_at_call 134;refine (zT L tM _).mono ?_;rintro e w4 ⟨HL,hc,rfl,M,Z⟩)
  |(go_at_call 135;refine (HR.out _ (Q.trans (Y.trans Z))).mono ?_;rintro e w5 ⟨ZA,zc,rfl,o,aq⟩;have aO:=Z.trans aq))
 have ao:=dY o;rw [af.out] at ao;have HZ:=za (fun W (hW:Ext w5 W)=>ao.ext hW);have U:=zg M aq;have a3:=za (fun W (hW:Ext w5 W)=>zg U hW);have aP:=za (fun b hb=>(M.lt b hb).1);have aQ:=za (f.blk.lt);have aK:=za Z.size;have bU:=za (fun l (hl:l∈letters L 6)=>(zF.1 hl).1);have cO:(letters L 6).length<=6:=zB L 6;have cg:=Y.trans aO;have aS:=f.aw aO;generalize letters L 6=ab at *;have cU:=af.out;rw [af.out] at o ⊢;have a5:=za o;have ag:=za (fun b hb=>(o.lt b hb).1);clear M U ao o Z aq k3 f bD bF ap
 go_loopw [9] (fun iv wr=>∃ (i:Nat) (v vA:Value),iv=.int .i64 i∧i<=nr∧Gra w2 wr G (L:Nat) v ((rows.take i).map a) vA ((rows.take i).map (zr s p L))∧Hid (∀ b,v.ownBlock=some b->w5.heap.size<=b)∧Hid (∀ b,vA.ownBlock=some b->w5.heap.size<=b)∧Frm (fun k=>k=G) w5 wr) (fun iv _=>nr - (intOf iv).toNat)
 case atStart=>exact⟨0,_,_,rfl,dG _,by simpa using aS,za (fun b hb=>by simp [Value.ownBlock] at hb),za (fun b hb=>by simp [Value.ownBlock] at hb),Frm.refl _ _⟩
 case round =>
  obtain⟨i,v,vA,rfl,hi,f,bm,bk,az⟩:=hrel;have u:=f.ext;have cI:=f.blk.lt;have bE:∀ W,Ext wr W->∀ q,W.cell? ⟨w.heap.size,q,none⟩=#[Value.bool false,.int .i64 0,.slice none 0 0,.slice none 0 0,.int .i64 s.al,.int .i64 s.st,.slice A n c,.int .i64 p.al,.slice B m d,.slice B' m' d',.int .i64 L][q]?:=fun W hW=>CB W ((g.trans u).trans hW);have bG:∀ W,Ext wr W->∀ q,W.cell? ⟨w.heap.size+1,q,none⟩=#[Value.slice R nr cr,.slice C nc cc][q]?:=fun W hW=>CT W ((g.trans u).trans hW)
  by_cases hlt:i<nr
  ·have ce:(i:Int)<(nr:Int):=oM;obtain⟨ad,r,rfl,_,_,hr,a8⟩:=(H1.out wr (Q.trans (g.trans u))).str hlt;have CR:∀ W,Ext wr W->W.cell? (ad.add i)=some (.string r):=fun W hW=>hW.aa a8;have cP:=(bJ.out r (dB hr.out)).2;have aX:=za (dB hr.out);have an:(wr.alloc (.cells #[] 3)).ownsRow wr.heap.size 3 1 (.slice (some wr.heap.size) 0 0) 0 (ints []):=World.ownsRow_lit wr #[] 0 (Nat.le_refl _) lM rfl;have bq:=(cY wr).alloc (.cells #[] 3);clear a8;obtain⟨wo,bW⟩:∃ wo,wo=wr:=⟨_,rfl⟩;subst bW;go_wp2_with fail
   go_loopw [10,11] (fun v10 kv wr=>∃ k:Nat,kv=.int .i64 k∧k<=ab.length∧wr.ownsRow wo.heap.size 3 1 v10 k (ints ((a r).take k))∧Ext wo wr) (fun _ kv _=>ab.length - (intOf kv).toNat)
   case atStart=>exact⟨0,rfl,dG _,by simpa [ints] using an,bq⟩
   case round =>
    clear an bq;obtain⟨k,rfl,hk,F,j⟩:=hrel
    by_cases hkl:k<ab.length
    ·have cd:(k:Int)<(ab.length:Int):=oM;obtain⟨l,hl⟩:∃ l,ab[k]?=some l:=⟨_,List.getElem?_eq_getElem hkl⟩;have bT:=bU.out l (dB hl);have aV:=za (dB hl);have D:=zf (a3.out w5 (cY _)) (az.trans j.aj) (fun b hb e=>by have:=aQ.out;have:=aP.out b hb;omega);have V:=zf a5.out (az.trans j.aj) (fun b hb e=>by have:=aQ.out;have:=aK.out;have:=ag.out b hb;omega);obtain⟨gl,rfl,cL,-⟩:=zak D oM;have cl:=zda D hkl;rw [dH,hl,fX] at cl;have CL:∀ W,Ext wr W->W.cell? ⟨gl,k,none⟩=some (.int .i64 (l:Nat)):=fun W hW=>hW.aa cl;have cs:=fun W (hW:Ext wr W)=>CR W (j.trans hW);have ct:=fun W (hW:Ext wr W)=>bG W (j.trans hW);have cp:=fun W (hW:Ext wr W)=>bE W (j.trans hW);have HT:=za (fun W=>zdy (w:=W) bT);have Hl:=za hl;have aW:=za (bK.out r l aX.out aV.out);obtain⟨z,hz⟩:∃ z,Hid (zcY l=z):=⟨_,rfl⟩;rw [hz.out] at HT;have cT:z.size=1:=by rw [← hz.out];exact zdq l
     have cR:¬ 9223372036854775807<r.size+1:=oM;have a4:=za (fun W (hW:Ext wr W)=>HW.out W ((Q.trans (g.trans (u.trans j))).trans hW) (r++z) (by rw [ByteArray.size_append];omega));have aI:=dY V;have ax:=za (fun W (hW:Ext wr W)=>zhl (c:=zc) (aI.ext hW) aW.out);rw [hz.out] at ax;have O:=za (show (a r)[k]?=some ((idxS zs (mkS (zcl (zr s p L) cols (r++z))):Nat):Int) by rw [ah.out,dQ,hl,← hz.out];rfl);obtain⟨y,hy⟩:∃ y,r++z=y:=⟨_,rfl⟩;rw [hy] at a4 ax O;obtain⟨I,hI⟩:∃ I,Hid (idxS zs (mkS (zcl (zr s p L) cols y))=I):=⟨_,rfl⟩;rw [hI.out] at ax O;generalize mkS (zcl (zr s p L) cols y)=ys at *;have bV:=za (show ints ((a r).take (k+1))=ints ((a r).take k)++[.int .i64 (I:Nat)] by rw [dJ,O.out];simp [ints]);have ap:=cY wr;clear hl cl aI D V;go_wp2_with fail
     refine uR (fun X=>Ext wr X) [19] (zv.of [0,1,2,3,4,5,6,7,8,9,10,11,12,13,14,15,16,17,18,19,20]) ?_;refine uQ ?_;refine zd fun K hK=>?_;go_simp;refine (HT.out _).mono (mQ fun w6 bX=>?_);have ar:Ext wr w6:=ap.drew.trans bX;refine hK.out _ _ ar ?_;refine pT ?_;refine uQ ?_;refine zd fun K hK=>?_;go_simp
     with_reducible refine (a4.out _ ar).mono ?_
     rintro e w7 ⟨rfl,bY⟩;have t:=ar.trans bY;refine hK.out _ _ t ?_;refine pT ?_;refine uQ ?_;refine zd fun K hK=>?_;go_simp
     with_reducible refine (ax.out _ t).mono ?_
     rintro e w8 ⟨rfl,rfl⟩;refine hK.out _ _ t ?_;refine pT ?_;refine uQ ?_;refine zd fun K hK=>?_;go_simp;refine hK.out _ _ (t.alloc _) ?_;refine pT ?_;refine zb fun K hK=>?_;refine zaI wo w7 _ _ _ rfl 3 _ 1 8 Tryz.underlying110 zZ rfl dM _ k (ints ((a r).take k)) _ _ rfl rfl (j.trans t).size (zg F t) rfl (zbd _) lM oM ?_;intro g9 cap9 w9 hown9 hg9 hat9 hlt9;refine hK.out _ _ ?_;refine pT ?_;refine uQ ?_;refine ze ?_;clear hy;go_wp2_with fail
     go_roundw
     case rel=>exact⟨k+1,gM,oM,by rw [bV.out];exact hown9,(j.trans t).grown hg9 (fun k hk=>(F.lt k hk).1)⟩
     case measure=>simp [intOf];omega
    ·have bS:(ab.length:Int)<=(k:Int):=oM;have aR:=za (show (a r).take k=a r from dI (by rw [ah.out,dW];omega));rw [aR.out] at F;obtain⟨S,T,rfl⟩:=zi F;have be:=za (show k=(a r).length by rw [ah.out,dW];omega);obtain⟨bs,J,aJ⟩:=f.own;have am:=za (show ((rows.take i).map a).length=i by rw [dW,eK];have:=He.out;omega);have aU:=za (show ((rows.take i).map (zr s p L)).length=i by rw [dW,eK];have:=He.out;omega);rw [am.out] at J;have H:=f.aw j;have kG:=H.blk.cell;have bj:=za (H.ext.size);have aH:=zg J j;have a9:=za aJ;have HO:=za (show wr.ownsRow wo.heap.size 3 1 (.slice S k T) (a r).length (ints (a r)) by rw [← be.out];exact F);clear F;go_upto_region 15 with (at_builtin;refine zao w2 wr rfl _ _ _ rfl 110 _ 1 24 Tryz.underlying24 zcf rfl dM v i bs _ _ rfl rfl bj.out aH rfl (zaS _ _ _) lM oM ?_;intro g6 cap6 w6 hown6 hg6 hat6 hlt6;obtain⟨q1,q2,q3⟩:=f.push (l:=a r) (row:=.slice S k T) a9.out (by rw [am.out];exact J) j HO.out (by rw [am.out];exact hown6) hg6 hat6;have bZ:=q1.out)
     have ak:Frm (fun k=>k=G) w5 (w6.setCell ⟨G,1,none⟩ (.slice (some g6) (((rows.take i).map a).length+1) cap6)):=((az.trans j.aj).grown hg6 (fun k hk=>bm.out k hk)).trans (dE w6 G 1 _);have aL:=za (show ∀ b,(Value.slice (some g6) (((rows.take i).map a).length+1) cap6).ownBlock=some b->w5.heap.size<=b from fun b hb=>by
      have aa:g6=b:=by simpa [Value.ownBlock] using hb
      subst aa;rcases hat6 with h1|h1
      ·exact bm.out _ h1
      ·have:=j.size;have:=az.size;omega)
     have bf:=za (show (rows.take (i+1)).map a=(rows.take i).map a++[a r] by rw [dJ,hr.out];simp);have aF:=za (show (rows.take (i+1)).map (zr s p L)=(rows.take i).map (zr s p L)++[zr s p L r] by rw [dJ,hr.out];simp);rw [← bf.out,am.out] at q3;rw [am.out] at ak aL;obtain⟨bb,aa⟩:∃ bb,Hid (zr s p L r=bb):=⟨_,rfl⟩;rw [aa.out] at aF;have aY:=bL.out i r hr.out;obtain⟨rr,bi⟩:=bI.out r;rw [bi,aa.out] at aY;obtain⟨bO,cb⟩:=mkS_head bb rr;generalize mkS (bb :: rr)=x at *;clear q1 bZ q2 hown6 hat6 hlt6 kG aH H bj HO a9 aJ J bi;generalize w6.setCell ⟨G,1,none⟩ (.slice (some g6) (i+1) cap6)=w7 at *;generalize Value.slice (some g6) (i+1) cap6=v7 at *;have E:=zf a5.out ak (fun b hb e=>by have:=aQ.out;have:=aK.out;have:=ag.out b hb;omega);obtain⟨gz,rfl,-,-⟩:=zak E oM;obtain⟨cA,x2,bP,-,-,bo,cx⟩:=(dY E).str hlt;obtain rfl:=Option.some.inj bP;rw [zP,Nat.zero_add] at cx;obtain rfl:x2=x:=Option.some.inj (bo.out.symm.trans aY);have cS:∀ W,Ext w7 W->W.cell? ⟨gz,i,none⟩=some (.string x2):=fun W hW=>hW.aa cx;have cG:=fun W (hW:Ext w7 W)=>(q3.blk.ext hW).cell;have ca:(0:Int)<(x2.size:Int):=oM;have cJ:=zcd x2 0 bO;have ap:=cY w7;clear cx bo E aY;go_wp2_with fail
     refine uR (fun X=>Ext w7 X) [9,11] (zv.of [0,1,2,3,4,5,6,7,8,9,10,11]) ?_;refine uQ ?_;refine zd fun K hK=>?_;go_simp;have aB:=ap.drew;refine hK.out _ _ (aB.alloc _) ?_;refine pT ?_;refine zb fun K hK=>?_;have aC:=q3.aw aB;have a0:=aC.acc;rw [aU.out] at a0;refine zaI w2 w7.drew _ _ _ rfl 4 _ 1 1 Tryz.underlying25 zbe rfl dM vA i (zaB ((rows.take i).map (zr s p L))) _ _ rfl rfl aC.ext.size a0 rfl (by simp [Value.oneCell']) lM oM ?_;intro g8 cap8 w8 hown8 hg8 hat8 hlt8;refine hK.out _ _ ?_;refine pT ?_;refine uQ ?_;obtain⟨p1,p2,p3⟩:=aC.ao (x:=bb) (W':=w8) (by rw [aU.out];exact hown8) hg8 hat8;rw [aU.out,← aF.out] at p3;have cX:=p1.out;have bR:Frm (fun k=>k=G) w5 (w8.setCell ⟨G,2,none⟩ (.slice (some g8) (i+1) cap8)):=((ak.trans aB.aj).grown hg8 (fun k hk=>bk.out k hk)).trans (dE w8 G 2 _);have bl:=za (show ∀ b,(Value.slice (some g8) (i+1) cap8).ownBlock=some b->w5.heap.size<=b from fun b hb=>by
      have aa:g8=b:=by simpa [Value.ownBlock] using hb
      subst aa;rcases hat8 with h1|h1
      ·exact bk.out _ h1
      ·have:=ak.size;have:=aB.size;omega)
     refine zb fun K hK=>?_;go_simp;refine hK.out _ _ ?_;refine ze ?_;clear hown8 hg8 hat8 a0 aC p1 q3 ak;generalize w8.setCell ⟨G,2,none⟩ (.slice (some g8) (i+1) cap8)=c0 at *;go_wp2_with fail
     go_roundw
     case rel=>exact⟨i+1,v7,_,gM,oM,p3,aL,bl,bR⟩
     case measure=>simp [intOf];omega
  ·have bS:(nr:Int)<=(i:Int):=oM;have bc:=za (show rows.take i=rows from dI (oH He.out));rw [bc.out] at f;obtain⟨S,T,rfl⟩:∃ S T,v=.slice S nr T:=by
    obtain⟨bs,J,-⟩:=f.own;rw [dW,He.out] at J;exact zi J
   obtain⟨A2,c2,rfl⟩:∃ A2 c2,vA=.slice A2 nr c2:=by
    have ba:=f.acc;rw [dW,He.out] at ba;exact zi ba
   have ay:=b3.ext (g.trans u);have kz:=ay.cell;have fz:=ay.frozen;have kG:=f.blk.cell;have hf:=zab wr (w.heap.size+1+1) (.int .i64 (L:Nat)) (.slice S nr T) (.slice A2 nr c2);have cf:=(zaj ay rfl (.int .i64 (L:Nat)) (.slice S nr T) (.slice A2 nr c2)).cell;have F:zK (((wr.setCell ⟨w.heap.size+1+1,0,none⟩ (.int .i64 (L:Nat))).setCell ⟨w.heap.size+1+1,1,none⟩ (.slice S nr T)).setCell ⟨w.heap.size+1+1,2,none⟩ (.slice A2 nr c2)) w.heap.size S nr T A2 nr c2 a6:=by
    rw [aD.out];have h1:=f.own;have h2:=f.acc;rw [show ((rows.map (zr s p L)).length)=nr by rw [dW];exact He.out] at h2;have h3:zK wr w2.heap.size S nr T A2 nr c2 ⟨(L:Int),rows.map a,rows.map (zr s p L)⟩:=⟨h1,by rw [dW];exact He.out.symm,h2,by rw [dW];exact He.out.symm⟩;exact (h3.aq ay hf dM).less (by have:=Q.size;have:=g.size;omega)
   have bh:=za (show RetAutB w a6 (.returned (.tuple #[.agg #[.int .i64 (L:Nat),.slice S nr T,.slice A2 nr c2],.bool true])) (((wr.setCell ⟨w.heap.size+1+1,0,none⟩ (.int .i64 (L:Nat))).setCell ⟨w.heap.size+1+1,1,none⟩ (.slice S nr T)).setCell ⟨w.heap.size+1+1,2,none⟩ (.slice A2 nr c2)) from
    ⟨S,nr,T,A2,nr,c2,by rw [aD.out],F,(Q.trans (g.trans u)).frm hf (fun k hk e=>oM)⟩)
   clear F hf;go_wp2_with fail
   exact bodyPost_ret (v:=.tuple #[.agg #[.int .i64 (L:Nat),.slice S nr T,.slice A2 nr c2],.bool true]) (by simp [results,Tryz.results58,go_sem,cf]) rfl bh.out
end
theorem zcE (h:zcT L f rows cols)(ho:zaZ L f rows cols=none)(hL:L<64):zh (zdL L f rows cols)=true:=by
 unfold zh zdL;simp only [dF,decide_eq_true_eq,dW,eC];refine⟨oM,⟨h.r1,h.r12⟩,trivial,fun row hrow=>?_⟩;obtain⟨r,b,rfl⟩:=List.mem_map.1 hrow;unfold rowB zfb;simp only [dF,decide_eq_true_eq,dW,eC];refine⟨by rw [eJ],fun q hq=>?_⟩;obtain⟨l,a,rfl⟩:=List.mem_map.1 hq;have:=idxS_lt (zeA ho b a);rw [zbo,dW] at this;exact⟨oM,by exact_mod_cast this⟩
section
variable {w W:World} {lo hi m d m' d':Nat} {B B':Option Addr} {p:Aut} {t:ByteArray}
theorem zgf (h:zE w lo hi B m B' m' p)(hv:zh p=true)(ht:inB t p.al.toNat=true) :
  Calls Tryz.prog 280 #[.agg #[p.al,.slice B m d,.slice B' m' d'],t] w fun e w'=>e=.returned (.int .i64 (zcm p 0 (wl t):Nat))∧Ext w w':=by
 obtain⟨j,k⟩:=(zk hv).1;obtain⟨al,a⟩:∃ al:Nat,Hid (p.al=al):=⟨p.al.toNat,by unfold Hid;omega⟩;have c:al<=63:=oH a.out;have l:=za (show p.al.toNat=al by have:=a.out;omega);have n:=zbj ht;have s:=zaX n;have g:=za (fun W (hW:Ext w W)=>zA _ _ _ _ d _ _ d' _ _ (h.ext hW));rw [hv] at g;have q:=za (fun W (hW:Ext w W)=>spec_l3Run (d:=d) (d':=d') (h.ext hW) hv n);rw [l.out] at ht;have i:=za ht;rw [a.out] at g q ⊢;clear h hv ht n j k
 go_enter Tryz.func280,Tryz.ntmps280
 go_upto_region 1 with fail
 generalize U0:w.alloc _=v at *;obtain⟨b,r⟩:=Ext.x1_ U0;clear U0;have x:=r.cells;have u:=cY v;go_wp2_with (first
  |(go_at_call 79;refine (g.out _ b).mono (mQ fun y f=>?_))
  |(go_at_call 146;refine (zaH oM c).mono ?_;rw [i.out];rintro e z ⟨rfl,rfl⟩)
  |(go_at_call 264;refine (q.out _ (b.trans f)).mono (mQ fun C o=>?_)))
 go_ret;exact⟨rfl,b.trans (f.trans o)⟩
theorem zfp (h:zE w lo hi B m B' m' p)(hv:zh p=true)(ht:inB t p.al.toNat=true) :
  Calls Tryz.prog 227 #[.agg #[p.al,.slice B m d,.slice B' m' d'],t] w fun e w'=>e=.returned (.bool (zcU p (zcm p 0 (wl t))))∧Ext w w':=by
 have g:=za (fun W (hW:Ext w W)=>zgf (d:=d) (d':=d') (h.ext hW) hv ht);have i:=za (fun W (hW:Ext w W) q hq=>zeo (q:=q) (h.ext hW) hq);have c:zcm p 0 (wl t)<p.next.length:=zga hv (wl_lt (zbj ht)) (by have:=(zk hv).2.1;omega);have b:m'=p.next.length:=by rw [h.n2,(zk hv).2.2.1]
 rw [← b] at c;generalize zcm p 0 (wl t)=q at *;have k:(q:Int)<(m':Int):=oM;clear h hv ht b
 go_enter Tryz.func227,Tryz.ntmps227
 go_upto_region 1 with fail
 generalize U0:w.alloc _=o at *;obtain⟨a,j⟩:=Ext.x1_ U0;clear U0;have s:=j.cells;have n:=cY o;go_upto_region 2 with (first
  |(go_at_call 280;refine (g.out _ a).mono (mQ fun r f=>?_)))
 obtain⟨u,rfl,v⟩:=i.out r (a.trans f) q c;have l:(0:Int)<=(q:Int):=oM;go_wp2_with fail
 go_ret;exact⟨zl sM,a.trans f⟩
end
noncomputable def stT (L:Nat) (f:ByteArray->Bool) (rows cols:List ByteArray) (x:ByteArray) (k:Nat):Nat:=zcm (zdL L f rows cols) 0 ((wl x).take k)
noncomputable def askT (L:Nat) (f:ByteArray->Bool) (rows cols:List ByteArray) (x:ByteArray) (k:Nat):Bool:=f (rows.getD (stT L f rows cols x k) ⟨#[]⟩++x.extract k x.size)
noncomputable def zdm (L:Nat) (f:ByteArray->Bool) (rows cols:List ByteArray) (x:ByteArray):Option ByteArray:=
 if (inB x L&&decide (x.size<=4000))=true∧zcU (zdL L f rows cols) (zcm (zdL L f rows cols) 0 (wl x))≠f x then
  ((fK x.size).find? fun k=>askT L f rows cols x k != askT L f rows cols x (k+1)).map fun k=>x.extract (k+1) x.size
 else none
theorem find_range {P:Nat->Bool} {n k:Nat}(hk:k<n)(hp:∀ j,j<k->P j=false)(hx:P k=true):(fK n).find? P=some k:=by
 rw [List.find?_range_eq_some];exact⟨hx,List.mem_range.2 hk,fun j hj=>by rw [hp j hj];rfl⟩
section
variable {w W:World} {n c m d m' d' L:Nat} {A B B':Option Addr} {s:Sys} {p:Aut} {nr nc cr cc:Nat} {R C:Option Addr} {rows cols:List ByteArray}
theorem zgB {x:ByteArray}(h:Tch w A n B m B' m' s p L)(hT:TabAt w R nr C nc rows cols)(hI:zcT L (zr s p L) rows cols)(hcr:nr<=cr)(hcc:nc<=cc)(hcl:zaZ L (zr s p L) rows cols=none)(hx:x.size<=9223372036854775807) :
  Calls Tryz.prog 151 #[.agg #[.bool false,(0:Int),(),(),s.al,s.st,.slice A n c,p.al,.slice B m d,.slice B' m' d',L],.agg #[.slice R nr cr,.slice C nc cc],x] w fun e w'=>e=.returned (.tuple #[.string ((zdm L (zr s p L) rows cols x).getD ⟨#[]⟩),.bool (zdm L (zr s p L) rows cols x).isSome])∧Ext w w':=by
 obtain⟨e1,e2⟩:=hT.nr;have aN:=zcE hI hcl h.lt;have aW:=hI.r12;rw [e1] at aW;have bi:=za (fun W (hW:Ext w W)=>zbq (c:=c) (d:=d) (d':=d') (h.ext hW) (hT.ext hW) hI hcr hcc hcl);have aj:=za (fun W (hW:Ext w W)=>zfg (c:=c) (d:=d) (d':=d') (h.ext hW) hx);have J:=za (fun W (hW:Ext w W) (y:ByteArray) hy=>zdv (c:=c) (d:=d) (d':=d') (t:=y) (h.ext hW) hy);obtain⟨lo,hi,ca,b0,h1,h2⟩:=hT;have H1:=za (fun W (hW:Ext w W)=>h1.ext hW);have aF:=za (fun x hx=>hI.rin (x:=x) hx);have He:=za e1;have F:=za (show (zdL L (zr s p L) rows cols).next.length=nr by unfold zdL;rw [dW];exact e1);have E:=za (show (zdL L (zr s p L) rows cols).al=(L:Int) from rfl);obtain⟨op,aT⟩:∃ op,Hid (zdm L (zr s p L) rows cols x=op):=⟨_,rfl⟩;rw [aT.out];have ak:=za (fun k=>show stT L (zr s p L) rows cols x k=zcm (zdL L (zr s p L) rows cols) 0 ((wl x).take k) from rfl);have M:=za (show zdm L (zr s p L) rows cols x=if (inB x L&&decide (x.size<=4000))=true∧zcU (zdL L (zr s p L) rows cols) (zcm (zdL L (zr s p L) rows cols) 0 (wl x))≠zr s p L x then
  ((fK x.size).find? fun k=>askT L (zr s p L) rows cols x k != askT L (zr s p L) rows cols x (k+1)).map fun k=>x.extract (k+1) x.size else none from rfl)
 rw [aT.out] at M;have aE:=za (fun k=>show askT L (zr s p L) rows cols x k=zr s p L (rows.getD (stT L (zr s p L) rows cols x k) ⟨#[]⟩++x.extract k x.size) from rfl);generalize askT L (zr s p L) rows cols x=v at *;generalize stT L (zr s p L) rows cols x=st at *;generalize zdL L (zr s p L) rows cols=O at *;have Y:=za aN;clear h h1 h2 hI e1 e2 aN hcl
 go_enter Tryz.func151,Tryz.ntmps151
 go_upto_region 1 with fail
 generalize U0:(w.alloc _).alloc _=w0 at *;obtain⟨f,b1,b2⟩:=Ext.x2_ U0;clear U0;have CB:=b1.cells;have CT:=b2.cells;have aY:=cY w0;go_upto_region 2 with (first
  |(go_at_call 58;refine (bi.out _ f).mono ?_;rintro e w1 ⟨X,k1,d1,X',bs,am,rfl,a7,aZ⟩))
 rw [E.out];have aL:=(a7.ext ((cY w1).alloc (.cells #[.int .i64 (L:Nat),.slice X k1 d1,.slice X' bs am] 27))).reads;generalize U0:w1.alloc _=G at *;have b3:=Ext.bl_ U0;have a0:=Ext.al_ U0;clear U0;have a:=aZ.trans a0;have be:=fun W (hW:Ext G W)=>CB W (a.trans hW);have bg:=fun W (hW:Ext G W)=>CT W (a.trans hW);have CA:=b3.cells;have aC:=za (fun W (hW:Ext G W)=>aL.ext hW);have r:=cY G;clear a7 aL aY;cases hok:(inB x L&&decide (x.size<=4000))
 ·have Z:=za hok;have S:=za (show op=none by rw [M.out,hok,if_neg (by rintro ⟨h,-⟩;cases h)]);clear hok;refine uR (fun X=>Ext G X) [] (zv.of [0,1,2,3,4,5,6,7,8,9,10,12,13,11,14,15,16]) ?_;refine uQ ?_;refine zd fun K hK=>?_;go_simp;refine (aj.out _ (f.trans (a.trans r.drew))).mono ?_;rw [Z.out];rintro e w3 ⟨rfl,H⟩;have b:Ext G w3:=r.drew.trans H;refine hK.out _ _ b ?_;refine pT ?_;refine uQ ?_;refine ze ?_;go_wp2_with fail
  go_ret2;exact⟨by rw [S.out];rfl,f.trans (a.trans b)⟩
 ·have Z:=za hok;have ae:=hok;simp only [dF,decide_eq_true_eq] at ae;obtain⟨Q,b8⟩:=ae;have D:=za (fun W (hW:Ext G W)=>zfp (d:=d1) (d':=am) (t:=x) (aC.out W hW) Y.out (by rw [E.out,eJ];exact Q));rw [E.out] at D;have ai:=za (fun W (hW:Ext G W)=>J.out W (f.trans (a.trans hW)) x hx);obtain⟨ac,aK⟩:∃ ac,Hid (zcU O (zcm O 0 (wl x))=ac):=⟨_,rfl⟩;obtain⟨fx,aQ⟩:∃ fx,Hid (zr s p L x=fx):=⟨_,rfl⟩;rw [aK.out] at D;rw [aQ.out] at ai;rw [aK.out,aQ.out,hok] at M;clear hok
  by_cases heq:ac=fx
  ·subst heq;have S:=za (show op=none by rw [M.out,if_neg (by rintro ⟨-,h⟩;exact h rfl)]);refine uR (fun X=>Ext G X) [] (zv.of [0,1,2,3,4,5,6,7,8,9,10,12,13,11,14,15,16]) ?_;refine uQ ?_;refine zd fun K hK=>?_;go_simp;refine (aj.out _ (f.trans (a.trans r.drew))).mono ?_;rw [Z.out];rintro e w3 ⟨rfl,H⟩;have b:Ext G w3:=r.drew.trans H;refine hK.out _ _ b ?_;refine pT ?_;refine uQ ?_;refine zd fun K hK=>?_;go_simp;refine (D.out _ b).mono (mQ fun w4 aa=>?_);have g:=b.trans aa;refine hK.out _ _ g ?_;refine pT ?_;refine uQ ?_;refine zd fun K hK=>?_;go_simp;refine (ai.out _ g).mono (mQ fun w5 ab=>?_);have u:=g.trans ab;refine hK.out _ _ u ?_;refine pT ?_;refine uQ ?_;refine ze ?_;go_wp2_with fail
   go_ret2;exact⟨by rw [S.out];rfl,f.trans (a.trans u)⟩
  ·have b5:(ac==fx)=false:=by cases ac<;>cases fx<;>simp_all
   have aX:=za (show op=((fK x.size).find? fun k=>v k != v (k+1)).map fun k=>x.extract (k+1) x.size by rw [M.out,if_pos ⟨rfl,heq⟩]);clear heq;refine uR (fun X=>Ext G X) [] (zv.of [0,1,2,3,4,5,6,7,8,9,10,12,13,11,14,15,16]) ?_;refine uQ ?_;refine zd fun K hK=>?_;go_simp;refine (aj.out _ (f.trans (a.trans r.drew))).mono ?_;rw [Z.out];rintro e w3 ⟨rfl,H⟩;have b:Ext G w3:=r.drew.trans H;refine hK.out _ _ b ?_;refine pT ?_;refine uQ ?_;refine zd fun K hK=>?_;go_simp;refine (D.out _ b).mono (mQ fun w4 aa=>?_);have g:=b.trans aa;refine hK.out _ _ g ?_;refine pT ?_;refine uQ ?_;refine zd fun K hK=>?_;go_simp;refine (ai.out _ g).mono (mQ fun w5 ab=>?_);have u:=g.trans ab;refine hK.out _ _ u ?_;refine pT ?_;refine uQ ?_;refine ze ?_;have ar:=zbj Q;have Hb:=za (fun k hk=>zbi ar (k:=k) hk);have bS:=za (wl_lt ar);have aS:1<=nr:=by have:=(zk Y.out).2.1;rw [F.out] at this;exact this.1
   clear Q ar;go_wp2_with fail
   go_loopw [10,11] (fun qv iv wr=>∃ (k q:Nat),iv=.int .i64 k∧k<=x.size∧qv=.int .i64 q∧q<nr∧Hid (q=st k)∧Hid (∀ j,j<k->(v j != v (j+1))=false)∧Ext G wr) (fun _ iv _=>x.size - (intOf iv).toNat)
   case atStart=>exact⟨0,0,rfl,dG _,rfl,aS,za (by rw [ak.out];rfl),za (fun j h=>oM),u⟩
   case round =>
    clear u ab g aa b H;obtain⟨k,q,rfl,hk,rfl,hq,aV,z,o⟩:=hrel
    by_cases hlt:k<x.size
    ·have bB:(k:Int)<(x.size:Int):=oM;obtain⟨l,hl⟩:∃ l:Nat,Hid ((x[k].toNat:Int) - 97=l):=⟨x[k].toNat - 97,by unfold Hid;have:=Hb.out k hlt;omega⟩;have aR:l<6:=by have:=hl.out;have:=Hb.out k hlt;omega
     have af:=za (show aGo O q l=st (k+1) by
      rw [ak.out,dJ,zeL hlt,Option.toList_some,zeE,← ak.out,← aV.out]
      congr 1
      have:=hl.out;have:=Hb.out k hlt;omega)
     have aU:aGo O q l<nr:=by rw [← F.out];exact zfa Y.out (by rw [F.out];exact hq) aR
     have aD:=za (fun W (hW:Ext G W)=>zcN (d:=d1) (d':=am) (aC.out W hW) Y.out (by rw [F.out];exact hq) aR);rw [E.out] at aD;generalize aGo O q l=q2 at *;have bL:=fun W (hW:Ext wr W)=>CA W (o.trans hW);have bf:=fun W (hW:Ext wr W)=>be W (o.trans hW);have bh:=fun W (hW:Ext wr W)=>bg W (o.trans hW);have aY:=cY wr;go_wp2_with fail
     go_region_held3 (fun W=>Ext wr W) (first|assumption|(refine Ext.drew ?_;assumption)|(refine Ext.trans ?_ aM;assumption)|(refine Ext.trans ?_ aM;refine Ext.drew ?_;assumption)) (first
      |(go_at_call 144;refine (zbf x k hlt _).mono ?_;rw [hl.out];rintro e w6 ⟨rfl,rfl⟩)
      |(go_at_call 225;refine (aD.out _ (o.trans ?_)).mono ?_;(first|assumption|(refine Ext.drew ?_;assumption));rintro e I ⟨rfl,b7⟩))
     have i:Ext wr I:=aM;obtain⟨ad,r1,rfl,_,_,ap,aH⟩:=(H1.out I (f.trans (a.trans (o.trans i)))).str hq;obtain⟨bU,r2,e2,_,_,aq,aI⟩:=(H1.out I (f.trans (a.trans (o.trans i)))).str aU;obtain rfl:=Option.some.inj e2;have bD:=(aF.out r1 (dB ap.out)).2;have bE:=(aF.out r2 (dB aq.out)).2;have bO:∀ W,Ext I W->W.cell? (ad.add q)=some (.string r1):=fun W hW=>hW.aa aH;have bP:∀ W,Ext I W->W.cell? (ad.add q2)=some (.string r2):=fun W hW=>hW.aa aI;have bN:=fun W (hW:Ext I W)=>bf W (i.trans hW);have bR:=fun W (hW:Ext I W)=>bh W (i.trans hW);obtain⟨y1,au⟩:∃ y1,x.extract k x.size=y1:=⟨_,rfl⟩;obtain⟨y2,av⟩:∃ y2,x.extract (k+1) x.size=y2:=⟨_,rfl⟩;have bH:y1.size<=4000:=by rw [← au,ByteArray.size_extract];omega
     have bI:y2.size<=4000:=by rw [← av,ByteArray.size_extract];omega
     have bF:¬ 9223372036854775807<r1.size+y1.size:=oM;have bG:¬ 9223372036854775807<r2.size+y2.size:=oM;obtain⟨z1,aw⟩:∃ z1,r1++y1=z1:=⟨_,rfl⟩;obtain⟨z2,ax⟩:∃ z2,r2++y2=z2:=⟨_,rfl⟩;have aA:=za (fun W (hW:Ext I W)=>J.out W (f.trans (a.trans (o.trans (i.trans hW)))) z1 (by rw [← aw,ByteArray.size_append];omega));have aB:=za (fun W (hW:Ext I W)=>J.out W (f.trans (a.trans (o.trans (i.trans hW)))) z2 (by rw [← ax,ByteArray.size_append];omega));have an:=za (show v k=zr s p L z1 by rw [aE.out,← aV.out,dH,ap.out,fX,au,aw]);have ao:=za (show v (k+1)=zr s p L z2 by rw [aE.out,← af.out,dH,aq.out,fX,av,ax]);obtain⟨a1,aO⟩:∃ a1,Hid (zr s p L z1=a1):=⟨_,rfl⟩;obtain⟨a2,aP⟩:∃ a2,Hid (zr s p L z2=a2):=⟨_,rfl⟩;rw [aO.out] at aA an;rw [aP.out] at aB ao;have bk:=za av;have ag:=cY I;have bp:=IntWalk.i64_in ((k:Int)+1) oM;have b6:(q:Int)<(nr:Int):=oM;have bC:(q2:Int)<(nr:Int):=oM;have b4:(k:Int)+1<=(x.size:Int):=oM;have bA:(k:Int)<=(x.size:Int):=oM;have bz:(0:Int)<=(k:Int)+1:=oM;clear aH aI ap aq e2 aO aP;go_wp2_with fail
     refine uR (fun X=>Ext I X) [] (zv.of [0,1,2,3,4,5,6,7,8,9,11,12,13,14,15,16,17,18,19,20,21,10,22,23]) ?_;refine uQ ?_;refine zd fun K hK=>?_;go_simp;refine (aA.out _ ag.drew).mono (mQ fun w8 bq=>?_);have U:Ext I w8:=ag.drew.trans bq;refine hK.out _ _ U ?_;refine pT ?_;refine uQ ?_;refine zd fun K hK=>?_;go_simp;refine (aB.out _ U).mono (mQ fun w9 br=>?_);have ah:=U.trans br;refine hK.out _ _ ah ?_;refine pT ?_;refine uQ ?_;refine ze ?_;have V:=o.trans (i.trans ah);clear aw ax au bp
     by_cases hab:a1=a2
     ·subst hab;have bn:=za (show (v k != v (k+1))=false by rw [an.out,ao.out];simp);cases a1
      all_goals
       go_wp2_with fail
       go_roundw
       case rel=>exact⟨k+1,q2,gM,oM,rfl,aU,af,za (fun j hj=>by
        rcases Nat.lt_or_eq_of_le (Nat.le_of_lt_succ hj) with h1|rfl
        ·exact z.out j h1
        ·exact bn.out),V⟩
       case measure=>simp [intOf];omega
     ·have T:=za (show op=some y2 by
       rw [aX.out,find_range hlt (fun j hj=>z.out j hj) (by rw [an.out,ao.out];simpa using hab),Option.map_some,bk.out])
      cases a1<;>cases a2
      ·exact absurd rfl hab
      ·clear hab;go_wp2_with fail
       go_ret2;exact⟨by rw [T.out];rfl,f.trans (a.trans V)⟩
      ·clear hab;go_wp2_with fail
       go_ret2;exact⟨by rw [T.out];rfl,f.trans (a.trans V)⟩
      ·exact absurd rfl hab
    ·have bZ:(x.size:Int)<=(k:Int):=oM;have S:=za (show op=none by
      rw [aX.out,Option.map_eq_none_iff,List.find?_eq_none];intro j hj;rw [List.mem_range] at hj;rw [z.out j oM];decide)
     go_wp2_with fail
     go_ret2;exact⟨by rw [S.out];rfl,f.trans (a.trans o)⟩
end
end Go.Proofs.YtckbjnndaaoddaaGreatDoor
