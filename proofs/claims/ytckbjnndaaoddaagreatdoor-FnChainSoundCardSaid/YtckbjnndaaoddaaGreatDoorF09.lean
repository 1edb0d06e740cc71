/- The referenc -/
import Derived.Test.YtckbjnndaaoddaaGreatDoorF08
set_option maxHeartbeats 8000000
set_option maxRecDepth 100000
namespace Go.Proofs.YtckbjnndaaoddaaGreatDoor
open Go Go.RowKit
open Blk renaming new->dU
open Bool renaming and_eq_true->dF
open Ext renaming refl->cY,x2_->gV
open Frm renaming setCell->dE
open List renaming append_assoc->iK,drop_eq_getElem_cons->fC,getElem?_append_left->dL,getElem?_eq_getElem->dC,getElem?_eq_none->eD,length_map->dW,map_append->eU,mem_of_getElem?->dB,mem_singleton->eP,take_add_one->dJ,take_append_of_le_length->gL,take_of_length_le->dI
open Nat renaming le_refl->dD,zero_le->dG
open Reads renaming af->dY
variable {L c l n:Nat} {R:Option Addr} {W:World} {cols rows zs:List ByteArray} {f:ByteArray->Bool} {x y z:ByteArray}
theorem zcT.rsz' (h:zcT L f rows cols):(∀ y∈rows,y.size<=1000000)∧∀ y∈cols,y.size<=1000000:=
 ⟨fun y hy=>by have:=(h.rin hy).2;omega,fun y hy=>by have:=(h.cin hy).2;omega⟩
section
variable {w W:World} {n c m d m' d' L:Nat} {A B B':Option Addr} {s:Sys} {p:Aut} {nr nc cr cc:Nat} {R C:Option Addr} {rows cols:List ByteArray}
theorem zbC (h:Tch w A n B m B' m' s p L)(hT:TabAt w R nr C nc rows cols)(hI:zcT L (zr s p L) rows cols)(hcr:nr<=cr)(hcc:nc<=cc) :
  Calls Tryz.prog 211 #[.agg #[.bool false,(0:Int),(),(),s.al,s.st,.slice A n c,p.al,.slice B m d,.slice B' m' d',L],.agg #[.slice R nr cr,.slice C nc cc]] w fun e w'=>e=.returned (.bool true)∧Ext w w':=by
 obtain⟨M,V⟩:=hT.nr;have z:=hI.r12;have v:=hI.c20;rw [M] at z;rw [V] at v;have HA:=za (fun W (hW:Ext w W)=>zaE (c:=c) (d:=d) (d':=d') (h.ext hW));have HS:=za (fun W (hW:Ext w W)=>zhm (cr:=cr) (cc:=cc) (hT.ext hW) hI h.lt hcr hcc);obtain⟨lo,hi,ar,ao,h1,Y⟩:=hT;have HR:=za (fun W (hW:Ext w W)=>zdx (c:=c) (d:=d) (d':=d') (cc:=cc) (cr:=cr) (h.ext hW) (Y.ext hW) (h1.ext hW) oM oM hI.rsz'.2 hI.rsz'.1);have S:=za (rowsM_nodup hI);have l:(zbo (zr s p L) cols rows).length=nr:=by rw [zbo,dW];exact M
 generalize zbo (zr s p L) cols rows=zs at *;clear h h1 Y hI M V
 go_enter Tryz.func211,Tryz.ntmps211
 go_upto_region 1 with fail
 generalize U0:(w.alloc _).alloc _=w1 at *;obtain⟨o,b1,b2⟩:=gV U0;clear U0;have CB:=b1.cells;have CT:=b2.cells;have f:=cY w1;refine uR (fun X=>Ext w1 X) [] (zv.of [0,2,1,3,4]) ?_;refine uQ ?_;refine zd fun K hK=>?_;go_simp;refine (HA.out _ (o.trans f.drew)).mono (mQ fun w2 F=>?_);have a:Ext w1 w2:=f.drew.trans F;refine hK.out _ _ a ?_;refine pT ?_;refine uQ ?_;refine zd fun K hK=>?_;go_simp;refine (HS.out _ (o.trans a)).mono (mQ fun w3 H=>?_);have b:=a.trans H;refine hK.out _ _ b ?_;refine pT ?_;refine uQ ?_;refine ze ?_;clear a F H;go_wp2_with (first|(go_at_call 135;refine (HR.out _ (o.trans b)).mono ?_;rintro e T ⟨G,g,rfl,r,I⟩))
 rw [l] at r;have t:=za l;clear l;have E:=b.trans I;have D:=dY r;have u:=za (fun W (hW:Ext T W)=>D.ext hW);have aq:nr<=g:=by
  rcases r.2 with ⟨e,h0⟩|⟨g0,ak,am,e,_,_,Z,_⟩
  ·omega
  ·injection e with _ _ h3;omega
 clear b I r D
 go_loopw [6] (fun iv wr=>∃ k:Nat,k<=nr∧iv=.int .i64 k∧Ext T wr) (fun iv _=>nr - (intOf iv).toNat)
 case atStart=>exact⟨0,dG _,rfl,cY _⟩
 case round =>
  obtain⟨k,hk,rfl,q⟩:=hrel
  by_cases hlt:k<nr
  ·have aa:(k:Int)<(nr:Int):=oM;have ap:(k:Int)<=(g:Int):=oM;obtain⟨ad,x,rfl,_,_,hx,U⟩:=(u.out wr q).str hlt;have y:=za (show zfW (zs.take k) x=false by
    rw [zcb];intro hm;obtain⟨j,O⟩:=List.getElem?_of_mem hm;have Q:j<k:=by have:=(List.getElem?_eq_some_iff.1 O).1;rw [List.length_take] at this;omega
    rw [List.getElem?_take_of_lt Q] at O;have:=(List.getElem?_inj (i:=j) (j:=k) (oH t.out) S.out).1 (O.trans hx.out.symm);omega)
   have J:=za (fun W (hW:Ext T W)=>(u.out W hW).takeS hk);have CX:∀ W,Ext wr W->W.cell? (ad.add k)=some (.string x):=fun W hW=>hW.aa U;have f:=cY wr;clear U hx;go_wp2_with fail
   refine uR (fun X=>Ext wr X) [] (zv.of [0,1,2,3,4,5,6,7]) ?_;refine uQ ?_;refine zd fun K hK=>?_;go_simp;refine (zcM (J.out _ (q.trans f.drew))).mono ?_;rw [y.out];rintro e w5 ⟨rfl,rfl⟩;refine hK.out _ _ f.drew ?_;refine pT ?_;refine uQ ?_;refine ze ?_;go_wp2_with fail
   go_roundw
   case rel=>exact⟨k+1,oM,gM,q.trans f.drew⟩
   case measure=>simp [intOf];omega
  ·have an:(nr:Int)<=(k:Int):=oM;go_wp2_with fail
   go_ret;exact⟨rfl,o.trans (E.trans q)⟩
def candL (L:Nat) (rows:List ByteArray):List ByteArray:=rows.flatMap fun r=>(letters L 6).map fun l=>r++zcY l
noncomputable def zaZ (L:Nat) (f:ByteArray->Bool) (rows cols:List ByteArray):Option ByteArray:=(candL L rows).find? fun x=>!zfW (zbo f cols rows) (mkS (zcl f cols x))
theorem find_pre {α:Type} {P:α->Bool} {pre post l:List α} {x:α}(hl:l=pre++x :: post)(hp:∀ y∈pre,P y=false)(hx:P x=true):l.find? P=some x:=by
 rw [hl,List.find?_append,List.find?_eq_none.2 (fun y hy=>by rw [hp y hy];decide),Option.none_or,List.find?_cons_of_pos hx]
theorem open_find {ls:List Nat}  {i k:Nat} (hx:rows[i]?=some x)(hl:ls[k]?=some l)(hy:x++zcY l=y)
  (hd:∀ y∈(rows.take i).flatMap (fun r=>ls.map fun l=>r++zcY l),zfW zs (mkS (zcl f cols y))=true) (hdk:∀ y∈(ls.take k).map (fun l=>x++zcY l),zfW zs (mkS (zcl f cols y))=true) (hm:zfW zs (mkS (zcl f cols y))=false) :
  (rows.flatMap fun r=>ls.map fun l=>r++zcY l).find? (fun x=>!zfW zs (mkS (zcl f cols x)))=some y:=by
 have d:rows=rows.take i++x :: rows.drop (i+1):=by
  obtain⟨a,b⟩:=List.getElem?_eq_some_iff.1 hx;rw [← b,← fC a,List.take_append_drop]
 have c:ls=ls.take k++l :: ls.drop (k+1):=by
  obtain⟨a,b⟩:=List.getElem?_eq_some_iff.1 hl;rw [← b,← fC a,List.take_append_drop]
 have e:ls.map (fun l=>x++zcY l)=(ls.take k).map (fun l=>x++zcY l)++y :: (ls.drop (k+1)).map (fun l=>x++zcY l):=by
  conv=>lhs;rw [c]
  rw [eU,List.map_cons,hy]
 refine find_pre (pre:=(rows.take i).flatMap (fun r=>ls.map fun l=>r++zcY l)++(ls.take k).map (fun l=>x++zcY l)) (post:=(ls.drop (k+1)).map (fun l=>x++zcY l)++(rows.drop (i+1)).flatMap (fun r=>ls.map fun l=>r++zcY l)) ?_ ?_ ?_
 ·conv=>lhs;rw [d]
  rw [List.flatMap_append,List.flatMap_cons,e];simp only [iK,List.cons_append]
 ·intro y' hy';show (!zfW zs (mkS (zcl f cols y')))=false;rcases List.mem_append.1 hy' with h1|h1
  ·rw [hd y' h1,Bool.not_true]
  ·rw [hdk y' h1,Bool.not_true]
 ·show (!zfW zs (mkS (zcl f cols y)))=true;rw [hm,Bool.not_false]
theorem zdy (h1:l<6):Calls Tryz.prog 138 #[l] w fun e w'=>e=.returned (.string (zcY l))∧Ext w w':=zdU h1
theorem zff (h:Tch w A n B m B' m' s p L)(hT:TabAt w R nr C nc rows cols)(hI:zcT L (zr s p L) rows cols) :
  Calls Tryz.prog 212 #[.agg #[.bool false,(0:Int),(),(),s.al,s.st,.slice A n c,p.al,.slice B m d,.slice B' m' d',L],.agg #[.slice R nr cr,.slice C nc cc]] w fun e w'=>e=.returned (.tuple #[.string ((zaZ L (zr s p L) rows cols).getD ⟨#[]⟩),.bool (zaZ L (zr s p L) rows cols).isSome])∧Ext w w':=by
 obtain⟨e1,e2⟩:=hT.nr;have ag:=hI.r12;have ae:=hI.c20;rw [e1] at ag;rw [e2] at ae;have HA:=za (fun W (hW:Ext w W)=>zaE (c:=c) (d:=d) (d':=d') (h.ext hW));obtain⟨lo,hi,bb,a6,h1,h2⟩:=hT;have HR:=za (fun W (hW:Ext w W)=>zdx (c:=c) (d:=d) (d':=d') (cc:=cc) (cr:=cr) (h.ext hW) (h2.ext hW) (h1.ext hW) oM oM hI.rsz'.2 hI.rsz'.1);have HW:=za (fun W (hW:Ext w W) (y:ByteArray) v=>zek (c:=c) (d:=d) (d':=d') (cc:=cc) (x:=y) (h.ext hW) (h2.ext hW) oM v hI.rsz'.2);have H1:=za (fun W (hW:Ext w W)=>h1.ext hW);have hL:=h.lt;have aq:=za (fun x U=>hI.rin (x:=x) U);have J:(zbo (zr s p L) cols rows).length=nr:=by rw [zbo,dW];exact e1
 have af:zaZ L (zr s p L) rows cols=(candL L rows).find? fun x=>!zfW (zbo (zr s p L) cols rows) (mkS (zcl (zr s p L) cols x)):=rfl;generalize zaZ L (zr s p L) rows cols=op at *;generalize zbo (zr s p L) cols rows=zs at *;have ab:=za af;have aH:=za J;have He:=za e1;clear h h1 h2 hI e1 e2 af J
 go_enter Tryz.func212,Tryz.ntmps212
 go_upto_region 1 with fail
 generalize U0:(w.alloc _).alloc _=w1 at *;obtain⟨u,b1,b2⟩:=gV U0;clear U0;have CB:=b1.cells;have CT:=b2.cells;have j:=cY w1;go_wp2_with (first
  |(go_at_call 133;refine (HA.out _ u).mono (mQ fun w2 ah=>?_))
  |(go_at_call 134;refine (zT L tM _).mono ?_;rintro e w3 ⟨HL,hc,rfl,F,ai⟩;have H:=ah.trans ai)
  |(go_at_call 135;refine (HR.out _ (u.trans H)).mono ?_;rintro e w4 ⟨G,g,rfl,E,V⟩;have b:=H.trans V))
 have M:=dY E;have HG:=za (fun W (hW:Ext w4 W)=>M.ext hW);have t:=zg F V;have Z:=za (fun W (hW:Ext w4 W)=>zg t hW);have ay:=za (fun l (Y:l∈letters L 6)=>(zF.1 Y).1);have D:=za (show candL L rows=rows.flatMap fun r=>(letters L 6).map fun l=>r++zcY l from rfl);have a7:(letters L 6).length<=6:=zB L 6;generalize letters L 6=Q at *;clear F t M E ah ai H V j;have j:=cY w4
 go_loopw [8] (fun iv wr=>∃ i:Nat,i<=nr∧iv=.int .i64 i∧Hid (∀ x∈(rows.take i).flatMap (fun r=>Q.map fun l=>r++zcY l),zfW zs (mkS (zcl (zr s p L) cols x))=true)∧Ext w4 wr) (fun iv _=>nr - (intOf iv).toNat)
 case atStart=>exact⟨0,dG _,rfl,za (fun x U=>by simp at U),j⟩
 case round =>
  clear j;obtain⟨i,hi,rfl,o,f⟩:=hrel;have ao:=fun W (hW:Ext wr W)=>CT W (b.trans (f.trans hW));have j:=cY wr
  by_cases hlt:i<nr
  ·have aL:(i:Int)<(nr:Int):=oM;obtain⟨ad,x,rfl,_,_,U,cx⟩:=(H1.out wr (u.trans (b.trans f))).str hlt;have CX:∀ W,Ext wr W->W.cell? (ad.add i)=some (.string x):=fun W hW=>hW.aa cx;have a9:=(aq.out x (dB U.out)).2;have aj:=za U.out;clear cx U;go_wp2_with fail
   obtain⟨wo,aA⟩:∃ wo,wo=wr:=⟨_,rfl⟩;subst aA
   go_loopw [9] (fun kv wr=>∃ k:Nat,k<=Q.length∧kv=.int .i64 k∧Hid (∀ y∈(Q.take k).map (fun l=>x++zcY l),zfW zs (mkS (zcl (zr s p L) cols y))=true)∧Ext wo wr) (fun kv _=>Q.length - (intOf kv).toNat)
   case atStart=>exact⟨0,dG _,rfl,za (fun y v=>by simp at v),j⟩
   case round =>
    clear j;obtain⟨k,hk,rfl,S,a⟩:=hrel
    by_cases hkl:k<Q.length
    ·have aK:(k:Int)<(Q.length:Int):=oM;obtain⟨l,Y⟩:∃ l,Q[k]?=some l:=⟨_,dC hkl⟩;have ax:=ay.out l (dB Y);have X:=Z.out wr (f.trans a);obtain⟨gl,rfl,a4,-⟩:=zak X oM;have cl:=zda X hkl;rw [List.getD_eq_getElem?_getD,Y,Option.getD_some] at cl;have CL:∀ W,Ext wr W->W.cell? ⟨gl,k,none⟩=some (.int .i64 (l:Nat)):=fun W hW=>hW.aa cl;have aT:=fun W (hW:Ext wr W)=>CX W (a.trans hW);have aR:=fun W (hW:Ext wr W)=>ao W (a.trans hW);have aP:∀ W,Ext wr W->∀ q,W.cell? ⟨w.heap.size,q,none⟩=#[Value.bool false,.int .i64 0,.slice none 0 0,.slice none 0 0,.int .i64 s.al,.int .i64 s.st,.slice A n c,.int .i64 p.al,.slice B m d,.slice B' m' d',.int .i64 L][q]?:=fun W hW=>CB W ((b.trans (f.trans a)).trans hW);have HT:=za (fun W=>zdy (w:=W) ax);have Hl:=za Y;obtain⟨z,hz⟩:∃ z,Hid (zcY l=z):=⟨_,rfl⟩;rw [hz.out] at HT;have ba:z.size=1:=by rw [← hz.out];exact zdq l
     have hsz:¬ 9223372036854775807<x.size+1:=oM;have aa:=za (fun W (hW:Ext wr W)=>HW.out W ((u.trans (b.trans (f.trans a))).trans hW) (x++z) (by rw [ByteArray.size_append];omega));have ap:=za (fun W (hW:Ext wr W)=>HG.out W ((f.trans a).trans hW));have j:=cY wr;obtain⟨y,v⟩:∃ y,x++z=y:=⟨_,rfl⟩;rw [v] at aa;have ak:Hid (x++zcY l=y):=by unfold Hid;rw [hz.out];exact v
     clear Y cl X;go_wp2_with fail
     go_region_held3 (fun W=>Ext wr W) (first|assumption|(refine Ext.drew ?_;assumption)|(refine Ext.trans ?_ aM;assumption)|(refine Ext.trans ?_ aM;refine Ext.drew ?_;assumption)) (first
      |(go_at_call 138;refine (HT.out _).mono (mQ fun w7 a8=>?_)))
     have O:Ext wr w7:=aM;clear v;cases hm:zfW zs (mkS (zcl (zr s p L) cols y))
     all_goals
      have Hm:=za hm;clear hm;go_wp2_with (first
       |(go_at_call 137;refine (aa.out _ O).mono (mQ fun w8 aB=>?_);have I:=O.trans aB)
       |(go_at_call 228;with_reducible refine (zcM (ap.out _ I)).mono ?_;rw [Hm.out];rintro e w9 ⟨rfl,rfl⟩))
     ·have T:=za (show op=some y by
       rw [ab.out,D.out];exact open_find aj.out Hl.out ak.out o.out S.out Hm.out)
      go_ret2;exact⟨by rw [T.out];rfl,u.trans (b.trans (f.trans (a.trans I)))⟩
     ·go_roundw
      case rel=>exact⟨k+1,oM,gM,za (fun y' hy'=>by
       rw [dJ,Hl.out,eU] at hy';rcases List.mem_append.1 hy' with h1|h1
       ·exact S.out y' h1
       ·simp at h1;rw [h1,ak.out];exact Hm.out),a.trans I⟩
      case measure=>simp [intOf];omega
    ·have aw:(Q.length:Int)<=(k:Int):=oM;go_wp2_with fail
     go_roundw
     case rel=>exact⟨i+1,oM,gM,za (fun y v=>by
      rw [dJ,aj.out,List.flatMap_append] at v;rcases List.mem_append.1 v with h1|h1
      ·exact o.out y h1
      ·refine S.out y ?_;rw [dI oM];simpa using h1),f.trans a⟩
     case measure=>simp [intOf];omega
  ·have aw:(nr:Int)<=(i:Int):=oM;have az:=za (show op=none by
    rw [ab.out,D.out,List.find?_eq_none];intro y v;have:=o.out y (by rw [dI (oH He.out)];exact v);rw [this];decide)
   go_wp2_with fail
   go_ret2;exact⟨by rw [az.out];rfl,u.trans (b.trans f)⟩
end
theorem zt (l:List ByteArray):∀ u∈zM l,u.oneCell'=true:=by
 intro u hu;obtain⟨x,-,rfl⟩:=List.mem_map.1 hu;rfl
def TabV (w1:World) (rows cols:List ByteArray) (nr nc:Nat) (v:Value) (W:World):Prop:=
 ∃ (g:Nat) (R:Option Addr) (cr:Nat) (C:Option Addr) (cc:Nat),v=.pointer (some g)∧w1.heap.size<=g∧Blk W g 90 #[.slice R nr cr,.slice C nc cc] ∧
  W.ownsRow w1.heap.size 9 1 (.slice R nr cr) nr (zM rows)∧W.ownsRow w1.heap.size 9 1 (.slice C nc cc) nc (zM cols)∧Ext w1 W∧Hid (∀ k,(Value.slice R nr cr).ownBlock=some k->(Value.slice C nc cc).ownBlock≠some k)
theorem zam {w1:World}  {nr nc g cr cc:Nat} {C:Option Addr}(ha:W.ownsRow w1.heap.size 9 1 (.slice R nr cr) nr (zM rows))(hc:W.ownsRow w1.heap.size 9 1 (.slice C nc cc) nc (zM cols))(hb:Blk W g 90 #[(),()])(hx:Ext w1 W)(hg:w1.heap.size<=g)(hd:∀ k,(Value.slice R nr cr).ownBlock=some k->(Value.slice C nc cc).ownBlock≠some k) :
  TabV w1 rows cols nr nc (.pointer (some g)) ((W.setCell g (.slice R nr cr)).setCell ⟨g,1,none⟩ (.slice C nc cc)):=by
 have a:Frm (fun k=>k=g) W ((W.setCell g (.slice R nr cr)).setCell ⟨g,1,none⟩ (.slice C nc cc)):=(dE W g 0 _).trans (dE _ g 1 _);exact⟨g,R,cr,C,cc,rfl,hg,by simpa using (hb.ab 0 _).ab 1 _,zf ha a (fun b hv e=>zp ha hb dM hv e),zf hc a (fun b hv e=>zp hc hb dM hv e),(hx.setCell (p:=⟨g,0,none⟩) hg _).setCell (p:=⟨g,1,none⟩) hg _,za hd⟩
section
variable {w W:World} {n c m d m' d' L:Nat} {A B B':Option Addr} {s:Sys} {p:Aut} {nr nc cr cc:Nat} {R C:Option Addr} {rows cols:List ByteArray}
theorem zgz (h:Tch w A n B m B' m' s p L)(hT:TabAt w R nr C nc rows cols)(hI:zcT L (zr s p L) rows cols)(hcr:nr<=cr)(hcc:nc<=cc) :
  Calls Tryz.prog 213 #[.agg #[.bool false,(0:Int),(),(),s.al,s.st,.slice A n c,p.al,.slice B m d,.slice B' m' d',L],.agg #[.slice R nr cr,.slice C nc cc]] w fun e w'=>e=.returned (.tuple #[.string ((zaZ L (zr s p L) rows cols).getD ⟨#[]⟩),.bool (zaZ L (zr s p L) rows cols).isSome])∧Ext w w':=by
 have i:=za (fun W (hW:Ext w W)=>zbC (c:=c) (d:=d) (d':=d') (h.ext hW) (hT.ext hW) hI hcr hcc);have g:=za (fun W (hW:Ext w W)=>zff (c:=c) (d:=d) (d':=d') (cr:=cr) (cc:=cc) (h.ext hW) (hT.ext hW) hI);generalize zaZ L (zr s p L) rows cols=r at *;clear h hT hI
 go_enter Tryz.func213,Tryz.ntmps213
 go_upto_region 1 with fail
 generalize U0:(w.alloc _).alloc _=w1 at *;obtain⟨a,j,k⟩:=gV U0;clear U0;have o:=j.cells;have q:=k.cells;have l:=cY w1;go_wp2_with (first
  |(go_at_call 211;refine (i.out _ a).mono (mQ fun t b=>?_))
  |(go_at_call 212;refine (g.out _ (a.trans b)).mono (mQ fun u f=>?_)))
 go_ret2;exact⟨rfl,a.trans (b.trans f)⟩
theorem zfr (h:Tch w A n B m B' m' s p L)(hT:TabAt w R nr C nc rows cols)(hI:zcT L (zr s p L) rows cols)(hcr:nr<=cr)(hcc:nc<=cc)(hcl:zaZ L (zr s p L) rows cols=none) :
  Calls Tryz.prog 132 #[.agg #[.bool false,(0:Int),(),(),s.al,s.st,.slice A n c,p.al,.slice B m d,.slice B' m' d',L],.agg #[.slice R nr cr,.slice C nc cc]] w fun e w'=>e=.returned (.bool true)∧Ext w w':=by
 have i:=za (fun W (hW:Ext w W)=>zbC (c:=c) (d:=d) (d':=d') (h.ext hW) (hT.ext hW) hI hcr hcc);have g:=za (fun W (hW:Ext w W)=>zgz (c:=c) (d:=d) (d':=d') (cr:=cr) (cc:=cc) (h.ext hW) (hT.ext hW) hI hcr hcc);rw [hcl] at g;clear h hT hI hcl
 go_enter Tryz.func132,Tryz.ntmps132
 go_upto_region 1 with fail
 generalize U0:(w.alloc _).alloc _=w1 at *;obtain⟨a,j,k⟩:=gV U0;clear U0;have o:=j.cells;have q:=k.cells;have l:=cY w1;go_wp2_with (first
  |(go_at_call 213;refine (g.out _ a).mono (mQ fun r b=>?_))
  |(go_at_call 211;refine (i.out _ (a.trans b)).mono (mQ fun t f=>?_)))
 go_ret;exact⟨rfl,a.trans (b.trans f)⟩
theorem inB_snoc {r:ByteArray} (hr:inB r L=true)(hs:r.size<=1000)(hl:l<6)(hb:L.testBit l=true):inB (r++zcY l) L=true:=by
 unfold inB at hr ⊢;simp only [dF,decide_eq_true_eq] at hr ⊢;refine⟨by rw [ByteArray.size_append,zdq];omega,?_⟩;unfold overB at hr ⊢;rw [ByteArray.data_append,Array.toList_append,List.all_append,hr.2,Bool.true_and];have e:(zcY l).data.toList=[UInt8.ofNat (97+l)]:=by
  unfold zcY;rw [strOfNums_data];rfl
 rw [e];simp only [List.all_cons,List.all_nil,Bool.and_true];have a:(UInt8.ofNat (97+l)).toNat=97+l:=by rw [UInt8.toNat_ofNat'];omega
 rw [a];unfold hasB ltr;rw [if_neg oM];simp only [dF,decide_eq_true_eq];exact⟨oM,by rw [show (((97+l:Nat):Int) - 97).toNat=l by omega];exact hb⟩
theorem openW_some (h:zaZ L f rows cols=some x):(∃ r l,r∈rows∧l<6∧L.testBit l=true∧x=r++zcY l)∧zcl f cols x∉rows.map (zcl f cols):=by
 unfold zaZ at h;have h1:=List.mem_of_find?_eq_some h;have a:=List.find?_some h;unfold candL at h1;obtain⟨r,i,c⟩:=List.mem_flatMap.1 h1;obtain⟨l,g,rfl⟩:=List.mem_map.1 c;obtain⟨b,d⟩:=zF.1 g;refine⟨⟨r,l,i,b,d,rfl⟩,fun hm=>?_⟩;simp only [Bool.not_eq_true'] at a;rw [zcb] at a;refine a ?_;obtain⟨y,j,e⟩:=List.mem_map.1 hm;unfold zbo;exact List.mem_map.2 ⟨y,j,by rw [e]⟩
theorem zcT.grow (h:zcT L f rows cols)(hlen:rows.length<12)(hop:zaZ L f rows cols=some x):zcT L f (rows++[x]) cols:=by
 obtain⟨⟨r,l,j,g,o,rfl⟩,p⟩:=openW_some hop;refine⟨sM,by simp;omega,h.c1,h.c20,by rw [dL (oH h.r1)];exact h.r0,h.c0,fun i y hi hy=>?_,h.cw,?_⟩
 ·rcases Nat.lt_or_ge i rows.length with h1|h1
  ·rw [dL h1] at hy;obtain⟨c,z,q,k,m,n⟩:=h.rw_ i y hi hy;exact⟨c,z,q,k,m,by rw [gL oM];exact n⟩
  ·rw [List.getElem?_append_right h1] at hy;have d:i=rows.length:=by
    rcases Nat.eq_or_lt_of_le h1 with c|c
    ·exact c.symm
    ·rw [eD (by simp;omega)] at hy;cases hy
   subst d;simp at hy;subst hy;have c:=h.rin j;exact⟨inB_snoc c.1 oM g o,r,l,g,rfl,by rw [gL (dD _),List.take_length];exact j⟩
 ·rw [eU,List.map_singleton,List.nodup_append];refine⟨h.nd,sM,fun a ha b hb' e=>?_⟩;rw [eP] at hb';subst hb';subst e;exact p ha
noncomputable def zar (L:Nat) (f:ByteArray->Bool) (cols:List ByteArray):Nat->List ByteArray->Option (List ByteArray)
 |0,rows=>match zaZ L f rows cols with|none=>some rows|some _=>none
 |k+1,rows=>match zaZ L f rows cols with|none=>some rows|some x=>zar L f cols k (rows++[x])
theorem zdY (k:Nat)(h:zaZ L f rows cols=none):zar L f cols k rows=some rows:=by cases k<;>simp [zar,h]
theorem zea (h:zaZ L f rows cols=some x):zar L f cols 0 rows=none:=by simp [zar,h]
theorem zdZ (k:Nat)(h:zaZ L f rows cols=some x):zar L f cols (k+1) rows=zar L f cols k (rows++[x]):=by simp [zar,h]
theorem zfO :∀ (k:Nat) (rows rows':List ByteArray),zcT L f rows cols->rows.length+k<=12->zar L f cols k rows=some rows'->zcT L f rows' cols∧zaZ L f rows' cols=none∧∃ t,rows'=rows++t:=by
 intro k
 induction k with
 |zero =>
  intro rows rows' hI hk h;cases ho:zaZ L f rows cols with
  |none=>rw [zdY 0 ho] at h;obtain rfl:=Option.some.inj h;exact⟨hI,ho,[],sM⟩
  |some x=>rw [zea ho] at h;cases h
 |succ k ih =>
  intro rows rows' hI hk h;cases ho:zaZ L f rows cols with
  |none=>rw [zdY _ ho] at h;obtain rfl:=Option.some.inj h;exact⟨hI,ho,[],sM⟩
  |some x =>
   rw [zdZ _ ho] at h;obtain⟨h1,a,t,b⟩:=ih (rows++[x]) rows' (hI.grow oM ho) (by simp;omega) h;exact⟨h1,a,[x]++t,by rw [b,iK]⟩
def zbV (w:World) (o:Option (List ByteArray × List ByteArray)) (e:Ending) (w':World):Prop:=
 Ext w w'∧((o=none∧e=.returned (.tuple #[.agg #[(),()],.bool false])) ∨
  ∃ (rs cs:List ByteArray) (nr nc:Nat) (R:Option Addr) (cr:Nat) (C:Option Addr) (cc:Nat),o=some (rs,cs)∧e=.returned (.tuple #[.agg #[.slice R nr cr,.slice C nc cc],.bool true]) ∧
   w'.ownsRow w.heap.size 9 1 (.slice R nr cr) nr (zM rs)∧w'.ownsRow w.heap.size 9 1 (.slice C nc cc) nc (zM cs))
def lenAt0 (W:World) (G:Nat):Nat:=match W.cell? G with|some (.slice _ n _)=>n|_=>0
theorem zgJ {G:Nat}  {v:Value} {t:TypeId}(h:Blk W G t #[.slice R n c,v]):lenAt0 W G=n:=by
 unfold lenAt0;rw [h.cell 0];rfl
theorem yF09d1 {P:Prop}(h:P:=by
 have c6:=Blk.cell blk9;have f6:=Blk.frozen blk9;refine zb fun K hK=>?_;go_simp;refine hK.out _ _ ?_;refine ze ?_;go_wp2_with fail
 go_meet;exact zam zhK zhL blk9 hx35 HG0.out hdis.out
 ):P:=h
theorem yF09c1 {P:Prop}(h:P:=by
 refine zd (fun K hK=>?_);refine zu _ _ _ _ rfl w1.heap.size 9 _ 1 16 Tryz.underlying88 zn rfl dM (.slice (some bc9) 0 0) 0 [] rfl zhL _ _ C nc cc (zM cols) rfl (HC1.out v34 hx34) (zt _) lM oM hx34.size ?_;intro v9 v35 ownc8 hg hat;rw [Nat.zero_add,List.nil_append] at ownc8;obtain⟨Ac9,cc9,rfl⟩:=zi ownc8;have hx35:=hx34.grown hg (fun k hk=>(zhL.lt k hk).1);have hsz:=hg.size;have hbs:Hid (v34.heap.size=v34.heap.size):=za rfl;have zhK:=zf zhK (Frm.ae hg) (fun k hk hS=>hrn_a_bc9.out k hk (by simpa [Value.ownBlock] using hS.symm));have blk9:Blk v35 gbox9 90 #[.slice none 0 0,.slice none 0 0]:=(hg.block gbox9 (Blk.lt blk9) (fun e=>zp zhL blk9 dM e.symm rfl)).trans blk9;have hdis0:Hid (∀ k,(Value.slice Ac9 nc cc9).ownBlock=some k->(Value.slice Aa9 nr ca9).ownBlock≠some k):=za (fun k hk hS=>by rcases hat with h1|h1;(rw [h1] at hk;simp [Value.ownBlock] at hk;exact hrn_a_bc9.out k hS hk.symm);(rw [h1] at hk;have:=Option.some.inj hk;have:=hrl_a.out k hS;omega))
 have hdis:Hid (∀ k,(Value.slice Aa9 nr ca9).ownBlock=some k->(Value.slice Ac9 nc cc9).ownBlock≠some k):=za (fun k hk hS=>hdis0.out k hS hk);generalize hbe:v34.heap.size=nc9 at *;have hne_ba9_nc9:Hid (ba9≠nc9):=za (oH zhH.out);have hne_bc9_nc9:Hid (bc9≠nc9):=za (oH zhI.out);have zhH:Hid (ba9<v35.heap.size):=za (oH zhH.out);have zhI:Hid (bc9<v35.heap.size):=za (oH zhI.out);have hrl_a:Hid (∀ k,(Value.slice Aa9 nr ca9).ownBlock=some k->k<v35.heap.size):=za (fun k hk=>(zhK.lt k hk).2);have hrl_c:Hid (∀ k,(Value.slice Ac9 nc cc9).ownBlock=some k->k<v35.heap.size):=za (fun k hk=>(ownc8.lt k hk).2);clear hbs hsz hbe;refine hK.out _ _ hx35 ?_;refine pT ?_;have zhL:=ownc8;refine uQ ?_;exact yF09d1
 ):P:=h
theorem yF09b1 {P:Prop}(h:P:=by
 clear hbs zhF hbe;refine zd (fun K hK=>?_);refine zu _ _ _ _ rfl w1.heap.size 9 _ 1 16 Tryz.underlying88 zn rfl dM (.slice (some ba9) 0 0) 0 [] rfl zhK _ _ R nr cr (zM rows) rfl (HR1.out v33 hx33) (zt _) lM oM hx33.size ?_;intro v9 v34 owna8 hg hat;rw [Nat.zero_add,List.nil_append] at owna8;obtain⟨Aa9,ca9,rfl⟩:=zi owna8;have hx34:=hx33.grown hg (fun k hk=>(zhK.lt k hk).1);have hsz:=hg.size;have hbs:Hid (v33.heap.size=v33.heap.size):=za rfl;have zhL:=zf zhL (Frm.ae hg) (fun k hk hS=>by simp [Value.ownBlock] at hk hS;exact zhQ.out (hS.trans hk.symm));have blk9:Blk v34 gbox9 90 #[.slice none 0 0,.slice none 0 0]:=(hg.block gbox9 (Blk.lt blk9) (fun e=>zp zhK blk9 dM e.symm rfl)).trans blk9;generalize hbe:v33.heap.size=na9 at *;have hne_ba9_na9:Hid (ba9≠na9):=za (oH zhH.out);have hne_bc9_na9:Hid (bc9≠na9):=za (oH zhI.out);have zhH:Hid (ba9<v34.heap.size):=za (oH zhH.out);have zhI:Hid (bc9<v34.heap.size):=za (oH zhI.out);have hrn_a_bc9:Hid (∀ k,(Value.slice Aa9 nr ca9).ownBlock=some k->k≠bc9):=za (fun k hk=>by rcases hat with h1|h1;(rw [h1] at hk;simp [Value.ownBlock] at hk;rw [← hk];exact zhQ.out);(rw [h1] at hk;rw [← Option.some.inj hk];exact (Ne.symm hne_bc9_na9.out)))
 have hrl_a:Hid (∀ k,(Value.slice Aa9 nr ca9).ownBlock=some k->k<v34.heap.size):=za (fun k hk=>(owna8.lt k hk).2);clear hbs hsz hbe;refine hK.out _ _ hx34 ?_;refine pT ?_;have zhK:=owna8;exact yF09c1
 ):P:=h
theorem yF09b2 {P:Prop}(h:P:=by
 skip;refine zu _ _ _ _ rfl w1.heap.size 9 _ 1 16 Tryz.underlying88 zn rfl dM (.slice (some bc9) 0 0) 0 [] rfl zhL _ _ C nc cc (zM cols) rfl (HC1.out v33 hx33) (zt _) lM oM hx33.size ?_;intro v9 v34 ownc8 hg hat;rw [Nat.zero_add,List.nil_append] at ownc8;obtain⟨Ac9,cc9,rfl⟩:=zi ownc8;have hx34:=hx33.grown hg (fun k hk=>(zhL.lt k hk).1);have hsz:=hg.size;have hbs:Hid (v33.heap.size=v33.heap.size):=za rfl;have zhK:=zf zhK (Frm.ae hg) (fun k hk hS=>hrn_a_bc9.out k hk (by simpa [Value.ownBlock] using hS.symm));have hdis0:Hid (∀ k,(Value.slice Ac9 nc cc9).ownBlock=some k->(Value.slice Aa9 nr ca9).ownBlock≠some k):=za (fun k hk hS=>by rcases hat with h1|h1;(rw [h1] at hk;simp [Value.ownBlock] at hk;exact hrn_a_bc9.out k hS hk.symm);(rw [h1] at hk;have:=Option.some.inj hk;have:=hrl_a.out k hS;omega))
 have hdis:Hid (∀ k,(Value.slice Aa9 nr ca9).ownBlock=some k->(Value.slice Ac9 nc cc9).ownBlock≠some k):=za (fun k hk hS=>hdis0.out k hS hk);generalize hbe:v33.heap.size=nc9 at *;have hne_ba9_nc9:Hid (ba9≠nc9):=za (oH zhH.out);have hne_bc9_nc9:Hid (bc9≠nc9):=za (oH zhI.out);have zhH:Hid (ba9<v34.heap.size):=za (oH zhH.out);have zhI:Hid (bc9<v34.heap.size):=za (oH zhI.out);have hrl_a:Hid (∀ k,(Value.slice Aa9 nr ca9).ownBlock=some k->k<v34.heap.size):=za (fun k hk=>(zhK.lt k hk).2);have hrl_c:Hid (∀ k,(Value.slice Ac9 nc cc9).ownBlock=some k->k<v34.heap.size):=za (fun k hk=>(ownc8.lt k hk).2);clear hbs hsz hbe;refine hK.out _ _ hx34 ?_;refine pT ?_;have zhL:=ownc8;refine uQ ?_;refine zd fun K hK=>?_;go_simp;have hx35:=hx34.alloc (.cells #[(),()] 90);have zhF:=(Ext.refl v34).alloc (.cells #[(),()] 90);have blk9:=Blk.new v34 90 #[(),()];refine hK.out _ _ hx35 ?_;refine pT ?_;have zhK:=zg zhK zhF;have zhL:=zg zhL zhF;have HG0:=za hx34.size;have hbs:v34.heap.size<(v34.alloc (.cells #[(),()] 90)).heap.size:=sM;generalize hbe:v34.heap.size=gbox9 at *;generalize v34.alloc _=v35 at *;have zhH:Hid (ba9<v35.heap.size):=za (oH zhH.out);have zhI:Hid (bc9<v35.heap.size):=za (oH zhI.out);have hrl_a:Hid (∀ k,(Value.slice Aa9 nr ca9).ownBlock=some k->k<v35.heap.size):=za (fun k hk=>(zhK.lt k hk).2);have hrl_c:Hid (∀ k,(Value.slice Ac9 nc cc9).ownBlock=some k->k<v35.heap.size):=za (fun k hk=>(zhL.lt k hk).2);clear hbs zhF hbe;exact yF09d1
 ):P:=h
theorem yF09b3 {P:Prop}(h:P:=by
 clear hbs zhF hbe;exact yF09c1
 ):P:=h
theorem yF09a1 {P:Prop}(h:P:=by
 clear hbs zhF hbe;refine zm (fun K hK=>?_) (fun K hK=>?_)
 ·skip;refine zu _ _ _ _ rfl w1.heap.size 9 _ 1 16 Tryz.underlying88 zn rfl dM (.slice (some ba9) 0 0) 0 [] rfl zhK _ _ R nr cr (zM rows) rfl (HR1.out v32 hx32) (zt _) lM oM hx32.size ?_;intro v9 v33 owna8 hg hat;rw [Nat.zero_add,List.nil_append] at owna8;obtain⟨Aa9,ca9,rfl⟩:=zi owna8;have hx33:=hx32.grown hg (fun k hk=>(zhK.lt k hk).1);have hsz:=hg.size;have hbs:Hid (v32.heap.size=v32.heap.size):=za rfl;have zhL:=zf zhL (Frm.ae hg) (fun k hk hS=>by simp [Value.ownBlock] at hk hS;exact zhQ.out (hS.trans hk.symm));generalize hbe:v32.heap.size=na9 at *;have hne_ba9_na9:Hid (ba9≠na9):=za (oH zhH.out);have hne_bc9_na9:Hid (bc9≠na9):=za (oH zhI.out);have zhH:Hid (ba9<v33.heap.size):=za (oH zhH.out);have zhI:Hid (bc9<v33.heap.size):=za (oH zhI.out);have hrn_a_bc9:Hid (∀ k,(Value.slice Aa9 nr ca9).ownBlock=some k->k≠bc9):=za (fun k hk=>by rcases hat with h1|h1;(rw [h1] at hk;simp [Value.ownBlock] at hk;rw [← hk];exact zhQ.out);(rw [h1] at hk;rw [← Option.some.inj hk];exact (Ne.symm hne_bc9_na9.out)))
  have hrl_a:Hid (∀ k,(Value.slice Aa9 nr ca9).ownBlock=some k->k<v33.heap.size):=za (fun k hk=>(owna8.lt k hk).2);clear hbs hsz hbe;refine hK.out _ _ hx33 ?_;refine pT ?_;have zhK:=owna8;refine zm (fun K hK=>?_) (fun K hK=>?_)
  ·exact yF09b2
  ·go_simp;have hx34:=hx33.alloc (.cells #[(),()] 90);have zhF:=(Ext.refl v33).alloc (.cells #[(),()] 90);have blk9:=Blk.new v33 90 #[(),()];refine hK.out _ _ hx34 ?_;refine pT ?_;have zhK:=zg zhK zhF;have zhL:=zg zhL zhF;have HG0:=za hx33.size;have hbs:v33.heap.size<(v33.alloc (.cells #[(),()] 90)).heap.size:=sM;generalize hbe:v33.heap.size=gbox9 at *;generalize v33.alloc _=v34 at *;have zhH:Hid (ba9<v34.heap.size):=za (oH zhH.out);have zhI:Hid (bc9<v34.heap.size):=za (oH zhI.out);have hrl_a:Hid (∀ k,(Value.slice Aa9 nr ca9).ownBlock=some k->k<v34.heap.size):=za (fun k hk=>(zhK.lt k hk).2);exact yF09b3
 ·go_simp;have hx33:=hx32.alloc (.cells #[(),()] 90);have zhF:=(Ext.refl v32).alloc (.cells #[(),()] 90);have blk9:=Blk.new v32 90 #[(),()];refine hK.out _ _ hx33 ?_;refine pT ?_;have zhK:=zg zhK zhF;have zhL:=zg zhL zhF;have HG0:=za hx32.size;have hbs:v32.heap.size<(v32.alloc (.cells #[(),()] 90)).heap.size:=sM;generalize hbe:v32.heap.size=gbox9 at *;generalize v32.alloc _=v33 at *;have zhH:Hid (ba9<v33.heap.size):=za (oH zhH.out);have zhI:Hid (bc9<v33.heap.size):=za (oH zhI.out);exact yF09b1
 ):P:=h
theorem yF09a2 {P:Prop}(h:P:=by
 clear hbs zhF hbe;refine zm (fun K hK=>?_) (fun K hK=>?_)
 ·skip;refine zu _ _ _ _ rfl w1.heap.size 9 _ 1 16 Tryz.underlying88 zn rfl dM (.slice (some ba9) 0 0) 0 [] rfl zhK _ _ R nr cr (zM rows) rfl (HR1.out v32 hx32) (zt _) lM oM hx32.size ?_;intro v9 v33 owna8 hg hat;rw [Nat.zero_add,List.nil_append] at owna8;obtain⟨Aa9,ca9,rfl⟩:=zi owna8;have hx33:=hx32.grown hg (fun k hk=>(zhK.lt k hk).1);have hsz:=hg.size;have hbs:Hid (v32.heap.size=v32.heap.size):=za rfl;have blk9:Blk v33 gbox9 90 #[.slice none 0 0,.slice none 0 0]:=(hg.block gbox9 (Blk.lt blk9) (fun e=>zp zhK blk9 dM e.symm rfl)).trans blk9;generalize hbe:v32.heap.size=na9 at *;have hne_ba9_na9:Hid (ba9≠na9):=za (oH zhH.out);have zhH:Hid (ba9<v33.heap.size):=za (oH zhH.out);have hrl_a:Hid (∀ k,(Value.slice Aa9 nr ca9).ownBlock=some k->k<v33.heap.size):=za (fun k hk=>(owna8.lt k hk).2);clear hbs hsz hbe;refine hK.out _ _ hx33 ?_;refine pT ?_;have zhK:=owna8;refine zd fun K hK=>?_;go_simp;have hx34:=hx33.alloc (.cells #[] 9);have zhL:=zo (World.ownsRow_lit v33 (e:=9) (size:=1) #[] 0 (Nat.le_refl _) lM rfl) hx33.size;have zhF:=(Ext.refl v33).alloc (.cells #[] 9);refine hK.out _ _ hx34 ?_;refine pT ?_;have zhK:=zg zhK zhF;have blk9:=Blk.ext blk9 zhF;have hbs:v33.heap.size<(v33.alloc (.cells #[] 9)).heap.size:=sM;generalize hbe:v33.heap.size=bc9 at *;generalize v33.alloc _=v34 at *;have zhQ:Hid (ba9≠bc9):=za (oH zhH.out);have hrn_a_bc9:Hid (∀ k,(Value.slice Aa9 nr ca9).ownBlock=some k->k≠bc9):=za (fun k hk=>by have:=hrl_a.out k hk;omega);have zhH:Hid (ba9<v34.heap.size):=za (oH zhH.out);have hrl_a:Hid (∀ k,(Value.slice Aa9 nr ca9).ownBlock=some k->k<v34.heap.size):=za (fun k hk=>(zhK.lt k hk).2);have zhI:Hid (bc9<v34.heap.size):=za hbs;exact yF09b3
 ·go_simp;have hx33:=hx32.alloc (.cells #[] 9);have zhL:=zo (World.ownsRow_lit v32 (e:=9) (size:=1) #[] 0 (Nat.le_refl _) lM rfl) hx32.size;have zhF:=(Ext.refl v32).alloc (.cells #[] 9);refine hK.out _ _ hx33 ?_;refine pT ?_;have zhK:=zg zhK zhF;have blk9:=Blk.ext blk9 zhF;have hbs:v32.heap.size<(v32.alloc (.cells #[] 9)).heap.size:=sM;generalize hbe:v32.heap.size=bc9 at *;generalize v32.alloc _=v33 at *;have zhQ:Hid (ba9≠bc9):=za (oH zhH.out);have zhH:Hid (ba9<v33.heap.size):=za (oH zhH.out);have zhI:Hid (bc9<v33.heap.size):=za hbs;exact yF09b1
 ):P:=h
theorem yF09a3 {P:Prop}(h:P:=by
 clear hbs zhF hbe;refine zd fun K hK=>?_;go_simp;have hx33:=hx32.alloc (.cells #[] 9);have zhK:=zo (World.ownsRow_lit v32 (e:=9) (size:=1) #[] 0 (Nat.le_refl _) lM rfl) hx32.size;have zhF:=(Ext.refl v32).alloc (.cells #[] 9);refine hK.out _ _ hx33 ?_;refine pT ?_;have zhL:=zg zhL zhF;have blk9:=Blk.ext blk9 zhF;have hbs:v32.heap.size<(v32.alloc (.cells #[] 9)).heap.size:=sM;generalize hbe:v32.heap.size=ba9 at *;generalize v32.alloc _=v33 at *;have zhQ:Hid (ba9≠bc9):=za (oH zhI.out);have zhI:Hid (bc9<v33.heap.size):=za (oH zhI.out);have zhH:Hid (ba9<v33.heap.size):=za hbs;exact yF09b1
 ):P:=h
theorem yF09a4 {P:Prop}(h:P:=by
 exact yF09b3
 ):P:=h
theorem zdw (h:Tch w A n B m B' m' s p L)(hT:TabAt w R nr C nc rows cols)(hI:zcT L (zr s p L) rows cols)(hcr:nr<=cr)(hcc:nc<=cc) :
  Calls Tryz.prog 131 #[.agg #[.bool false,(0:Int),(),(),s.al,s.st,.slice A n c,p.al,.slice B m d,.slice B' m' d',L],.agg #[.slice R nr cr,.slice C nc cc]] w (zbV w ((zar L (zr s p L) cols (12 - rows.length) rows).map fun r=>(r,cols))):=by
 obtain⟨e1,e2⟩:=hT.nr;have aa:=hI.r12;have av:=hI.c20;rw [e1] at aa;rw [e2] at av;have HV:=za (fun W (hW:Ext w W)=>zbC (c:=c) (d:=d) (d':=d') (h.ext hW) (hT.ext hW) hI hcr hcc);have HO:=za (fun (R:Option Addr) (nr cr:Nat) (C:Option Addr) (nc cc:Nat) (rows:List ByteArray) W (hW:Ext w W) hT hI=>zff (c:=c) (d:=d) (d':=d') (nr:=nr) (nc:=nc) (R:=R) (C:=C) (cr:=cr) (cc:=cc) (rows:=rows) (cols:=cols) (h.ext hW) hT hI);obtain⟨lo,hi,bi,be,h1,h2⟩:=hT;have HR:=za (fun W (hW:Ext w W)=>h1.ext hW);have HC:=za (fun W (hW:Ext w W)=>h2.ext hW);have HI:=za hI;have He:=za (And.intro e1 e2);obtain⟨t,aE⟩:∃ t,Hid (zar L (zr s p L) cols (12 - rows.length) rows=t):=⟨_,rfl⟩;rw [aE.out];clear h h1 h2 hI e1 e2
 go_enter Tryz.func131,Tryz.ntmps131
 go_upto_region 1 with fail
 generalize U0:((w.alloc _).alloc _).alloc _=w0 at *;obtain⟨az,b1,b2,b3⟩:=Ext.x3_ U0;clear U0;have CB:=b1.cells;have CT:=b2.cells;have bc:=b3.lt;have ay:=cY w0;go_upto_region 3 with (first
  |(go_at_call 211;refine (HV.out _ az).mono (mQ fun w1 l=>?_)))
 have u:=az.trans l;have bg:=l.size;have HR1:=za (fun W (hW:Ext w1 W)=>HR.out W (u.trans hW));have HC1:=za (fun W (hW:Ext w1 W)=>HC.out W (u.trans hW));have aI:=fun W (hW:Ext w1 W)=>CT W (l.trans hW)
 go_cut [6] (fun v wx=>TabV w1 rows cols nr nc v wx)
 case first =>
  clear CB CT ay HV HO;have X0:Ext w1 w1.drew:=(cY w1).drew;refine uR (fun X=>Ext w1 X) [10] (zv.app [1,2,5,6] (zv.three 0 (zv.three 3 (zv.two 4 (zv.two 7 (zv.of [8,9,10]) 9 (zv.of [7,8,10])) 9 (zv.of [4,7,8,10])) 4 (zv.two 3 (zv.two 7 (zv.of [8,9,10]) 9 (zv.of [7,8,10])) 9 (zv.of [3,7,8,10])) 9 (zv.two 3 (zv.of [4,7,8,10]) 4 (zv.of [3,7,8,10]))) 4 (zv.two 0 (zv.two 3 (zv.two 7 (zv.of [8,9,10]) 9 (zv.of [7,8,10])) 9 (zv.of [3,7,8,10])) 9 (zv.of [0,3,7,8,10])) 9 (zv.two 0 (zv.two 3 (zv.of [4,7,8,10]) 4 (zv.of [3,7,8,10])) 4 (zv.of [0,3,7,8,10])))) ?_;generalize w1.drew=o at *;refine uQ ?_;refine zax (fun K hK=>?_) (fun K hK=>?_) (fun K hK=>?_)
  ·go_simp;have f:=X0.alloc (.cells #[] 9);have zhK:=zo (World.ownsRow_lit o (e:=9) (size:=1) #[] 0 (dD _) lM rfl) X0.size;have zhF:=(cY o).alloc (.cells #[] 9);refine hK.out _ _ f ?_;refine pT ?_;have hbs:o.heap.size<(o.alloc (.cells #[] 9)).heap.size:=sM;generalize hbe:o.heap.size=ba9 at *;generalize o.alloc _=a at *;have zhH:Hid (ba9<a.heap.size):=za hbs;clear hbs zhF hbe;refine zax (fun K hK=>?_) (fun K hK=>?_) (fun K hK=>?_)
   ·skip;refine zu _ _ _ _ rfl w1.heap.size 9 _ 1 16 Tryz.underlying88 zn rfl dM (.slice (some ba9) 0 0) 0 [] rfl zhK _ _ R nr cr (zM rows) rfl (HR1.out a f) (zt _) lM oM f.size ?_;intro v9 v32 owna8 hg hat;rw [Nat.zero_add,List.nil_append] at owna8;obtain⟨Aa9,ca9,rfl⟩:=zi owna8;have hx32:=f.grown hg (fun k hk=>(zhK.lt k hk).1);have hsz:=hg.size;have hbs:Hid (a.heap.size=a.heap.size):=za rfl;generalize hbe:a.heap.size=na9 at *;have hne_ba9_na9:Hid (ba9≠na9):=za (oH zhH.out);have zhH:Hid (ba9<v32.heap.size):=za (oH zhH.out);have hrl_a:Hid (∀ k,(Value.slice Aa9 nr ca9).ownBlock=some k->k<v32.heap.size):=za (fun k hk=>(owna8.lt k hk).2);clear hbs hsz hbe;refine hK.out _ _ hx32 ?_;refine pT ?_;have zhK:=owna8;refine zm (fun K hK=>?_) (fun K hK=>?_)
    ·go_simp;have hx33:=hx32.alloc (.cells #[] 9);have zhL:=zo (World.ownsRow_lit v32 (e:=9) (size:=1) #[] 0 (dD _) lM rfl) hx32.size;have zhF:=(cY v32).alloc (.cells #[] 9);refine hK.out _ _ hx33 ?_;refine pT ?_;have zhK:=zg zhK zhF;have hbs:v32.heap.size<(v32.alloc (.cells #[] 9)).heap.size:=sM;generalize hbe:v32.heap.size=bc9 at *;generalize v32.alloc _=v33 at *;have zhQ:Hid (ba9≠bc9):=za (oH zhH.out);have hrn_a_bc9:Hid (∀ k,(Value.slice Aa9 nr ca9).ownBlock=some k->k≠bc9):=za (fun k hk=>by have:=hrl_a.out k hk;omega);have zhH:Hid (ba9<v33.heap.size):=za (oH zhH.out);have hrl_a:Hid (∀ k,(Value.slice Aa9 nr ca9).ownBlock=some k->k<v33.heap.size):=za (fun k hk=>(zhK.lt k hk).2);have zhI:Hid (bc9<v33.heap.size):=za hbs;clear hbs zhF hbe;refine zm (fun K hK=>?_) (fun K hK=>?_)
     ·exact yF09b2
     ·go_simp;have hx34:=hx33.alloc (.cells #[(),()] 90);have zhF:=(cY v33).alloc (.cells #[(),()] 90);have blk9:=dU v33 90 #[(),()];refine hK.out _ _ hx34 ?_;refine pT ?_;have zhK:=zg zhK zhF;have zhL:=zg zhL zhF;have HG0:=za hx33.size;have hbs:v33.heap.size<(v33.alloc (.cells #[(),()] 90)).heap.size:=sM;generalize hbe:v33.heap.size=gbox9 at *;generalize v33.alloc _=v34 at *;have zhH:Hid (ba9<v34.heap.size):=za (oH zhH.out);have zhI:Hid (bc9<v34.heap.size):=za (oH zhI.out);have hrl_a:Hid (∀ k,(Value.slice Aa9 nr ca9).ownBlock=some k->k<v34.heap.size):=za (fun k hk=>(zhK.lt k hk).2);exact yF09a4
    ·go_simp;have hx33:=hx32.alloc (.cells #[(),()] 90);have zhF:=(cY v32).alloc (.cells #[(),()] 90);have blk9:=dU v32 90 #[(),()];refine hK.out _ _ hx33 ?_;refine pT ?_;have zhK:=zg zhK zhF;have HG0:=za hx32.size;have hbs:v32.heap.size<(v32.alloc (.cells #[(),()] 90)).heap.size:=sM;generalize hbe:v32.heap.size=gbox9 at *;generalize v32.alloc _=v33 at *;have zhH:Hid (ba9<v33.heap.size):=za (oH zhH.out);have hrl_a:Hid (∀ k,(Value.slice Aa9 nr ca9).ownBlock=some k->k<v33.heap.size):=za (fun k hk=>(zhK.lt k hk).2);clear hbs zhF hbe;refine zd fun K hK=>?_;go_simp;have hx34:=hx33.alloc (.cells #[] 9);have zhL:=zo (World.ownsRow_lit v33 (e:=9) (size:=1) #[] 0 (dD _) lM rfl) hx33.size;have zhF:=(cY v33).alloc (.cells #[] 9);refine hK.out _ _ hx34 ?_;refine pT ?_;have zhK:=zg zhK zhF;have blk9:=Blk.ext blk9 zhF;have hbs:v33.heap.size<(v33.alloc (.cells #[] 9)).heap.size:=sM;generalize hbe:v33.heap.size=bc9 at *;generalize v33.alloc _=v34 at *;have zhQ:Hid (ba9≠bc9):=za (oH zhH.out);have hrn_a_bc9:Hid (∀ k,(Value.slice Aa9 nr ca9).ownBlock=some k->k≠bc9):=za (fun k hk=>by have:=hrl_a.out k hk;omega);have zhH:Hid (ba9<v34.heap.size):=za (oH zhH.out);have hrl_a:Hid (∀ k,(Value.slice Aa9 nr ca9).ownBlock=some k->k<v34.heap.size):=za (fun k hk=>(zhK.lt k hk).2);have zhI:Hid (bc9<v34.heap.size):=za hbs;exact yF09a4
   ·go_simp;have hx32:=f.alloc (.cells #[] 9);have zhL:=zo (World.ownsRow_lit a (e:=9) (size:=1) #[] 0 (dD _) lM rfl) f.size;have zhF:=(cY a).alloc (.cells #[] 9);refine hK.out _ _ hx32 ?_;refine pT ?_;have zhK:=zg zhK zhF;have hbs:a.heap.size<(a.alloc (.cells #[] 9)).heap.size:=sM;generalize hbe:a.heap.size=bc9 at *;generalize a.alloc _=v32 at *;have zhQ:Hid (ba9≠bc9):=za (oH zhH.out);have zhH:Hid (ba9<v32.heap.size):=za (oH zhH.out);have zhI:Hid (bc9<v32.heap.size):=za hbs;exact yF09a1
   ·go_simp;have hx32:=f.alloc (.cells #[(),()] 90);have zhF:=(cY a).alloc (.cells #[(),()] 90);have blk9:=dU a 90 #[(),()];refine hK.out _ _ hx32 ?_;refine pT ?_;have zhK:=zg zhK zhF;have HG0:=za f.size;have hbs:a.heap.size<(a.alloc (.cells #[(),()] 90)).heap.size:=sM;generalize hbe:a.heap.size=gbox9 at *;generalize a.alloc _=v32 at *;have zhH:Hid (ba9<v32.heap.size):=za (oH zhH.out);exact yF09a2
  ·go_simp;have f:=X0.alloc (.cells #[] 9);have zhL:=zo (World.ownsRow_lit o (e:=9) (size:=1) #[] 0 (dD _) lM rfl) X0.size;have zhF:=(cY o).alloc (.cells #[] 9);refine hK.out _ _ f ?_;refine pT ?_;have hbs:o.heap.size<(o.alloc (.cells #[] 9)).heap.size:=sM;generalize hbe:o.heap.size=bc9 at *;generalize o.alloc _=a at *;have zhI:Hid (bc9<a.heap.size):=za hbs;clear hbs zhF hbe;refine zm (fun K hK=>?_) (fun K hK=>?_)
   ·go_simp;have hx32:=f.alloc (.cells #[] 9);have zhK:=zo (World.ownsRow_lit a (e:=9) (size:=1) #[] 0 (dD _) lM rfl) f.size;have zhF:=(cY a).alloc (.cells #[] 9);refine hK.out _ _ hx32 ?_;refine pT ?_;have zhL:=zg zhL zhF;have hbs:a.heap.size<(a.alloc (.cells #[] 9)).heap.size:=sM;generalize hbe:a.heap.size=ba9 at *;generalize a.alloc _=v32 at *;have zhQ:Hid (ba9≠bc9):=za (oH zhI.out);have zhI:Hid (bc9<v32.heap.size):=za (oH zhI.out);have zhH:Hid (ba9<v32.heap.size):=za hbs;exact yF09a1
   ·go_simp;have hx32:=f.alloc (.cells #[(),()] 90);have zhF:=(cY a).alloc (.cells #[(),()] 90);have blk9:=dU a 90 #[(),()];refine hK.out _ _ hx32 ?_;refine pT ?_;have zhL:=zg zhL zhF;have HG0:=za f.size;have hbs:a.heap.size<(a.alloc (.cells #[(),()] 90)).heap.size:=sM;generalize hbe:a.heap.size=gbox9 at *;generalize a.alloc _=v32 at *;have zhI:Hid (bc9<v32.heap.size):=za (oH zhI.out);exact yF09a3
  ·go_simp;have f:=X0.alloc (.cells #[(),()] 90);have zhF:=(cY o).alloc (.cells #[(),()] 90);have blk9:=dU o 90 #[(),()];refine hK.out _ _ f ?_;refine pT ?_;have HG0:=za X0.size;have hbs:o.heap.size<(o.alloc (.cells #[(),()] 90)).heap.size:=sM;generalize hbe:o.heap.size=gbox9 at *;generalize o.alloc _=a at *;clear hbs zhF hbe;refine zm (fun K hK=>?_) (fun K hK=>?_)
   ·go_simp;have hx32:=f.alloc (.cells #[] 9);have zhK:=zo (World.ownsRow_lit a (e:=9) (size:=1) #[] 0 (dD _) lM rfl) f.size;have zhF:=(cY a).alloc (.cells #[] 9);refine hK.out _ _ hx32 ?_;refine pT ?_;have blk9:=Blk.ext blk9 zhF;have hbs:a.heap.size<(a.alloc (.cells #[] 9)).heap.size:=sM;generalize hbe:a.heap.size=ba9 at *;generalize a.alloc _=v32 at *;have zhH:Hid (ba9<v32.heap.size):=za hbs;exact yF09a2
   ·go_simp;have hx32:=f.alloc (.cells #[] 9);have zhL:=zo (World.ownsRow_lit a (e:=9) (size:=1) #[] 0 (dD _) lM rfl) f.size;have zhF:=(cY a).alloc (.cells #[] 9);refine hK.out _ _ hx32 ?_;refine pT ?_;have blk9:=Blk.ext blk9 zhF;have hbs:a.heap.size<(a.alloc (.cells #[] 9)).heap.size:=sM;generalize hbe:a.heap.size=bc9 at *;generalize a.alloc _=v32 at *;have zhI:Hid (bc9<v32.heap.size):=za hbs;exact yF09a3
 case rest =>
  obtain⟨G,R1,F,y,g,rfl,aT,E,Y,V,am,hdis⟩:=hcut;obtain⟨wE,T⟩:∃ wE,wE=wc:=⟨_,rfl⟩;subst T;have aU:=za (And.intro He.out.1 HI.out);have aV:=u.trans am;have aK:=za (show TabAt wE R1 nr y nc rows cols from ⟨_,_,_,_,dY Y,dY V⟩);have k6:=fun W (hW:Ext wE W)=>(E.ext hW).cell;have T:=cY wE;have aA:=l.trans am;have aG:=fun W (hW:Ext wE W)=>CB W (aA.trans hW);go_wp2_with (first
   |(go_at_call 212;refine (HO.out _ _ _ _ _ _ rows _ aV aK.out HI.out).mono (mQ fun w3 M=>?_)))
  have ab:=am.trans M;have au:=E.ext M;have aD:=zg Y M;have aB:=zg V M;clear k6 Y V E aG CT aI T ay
  go_loopw [7,8] (fun v7 v8 wr=>∃ (q:List ByteArray) (k:Nat) (R1:Option Addr) (F:Nat),v7=.string ((zaZ L (zr s p L) q cols).getD ⟨#[]⟩)∧v8=.bool (zaZ L (zr s p L) q cols).isSome∧Hid (q.length=k∧zcT L (zr s p L) q cols)∧Hid (zar L (zr s p L) cols (12 - k) q=t)∧k<=12∧Blk wr G 90 #[.slice R1 k F,.slice y nc g]∧wr.ownsRow w1.heap.size 9 1 (.slice R1 k F) k (zM q)∧wr.ownsRow w1.heap.size 9 1 (.slice y nc g) nc (zM cols)∧Hid (∀ j,(Value.slice R1 k F).ownBlock=some j->(Value.slice y nc g).ownBlock≠some j)∧Ext w1 wr) (fun _ _ wr=>13 - lenAt0 wr G)
  case atStart=>exact⟨rows,nr,R1,F,rfl,rfl,aU,za (by rw [← He.out.1];exact aE.out),aa,au,aD,aB,hdis,ab⟩
  case round =>
   clear au aD aB hdis ab M;obtain⟨q,k,Q,i,rfl,rfl,ai,ae,a4,E,Y,V,hdis,U⟩:=hrel;obtain⟨op,I⟩:∃ op,Hid (zaZ L (zr s p L) q cols=op):=⟨_,rfl⟩;rw [I.out];have k6:=E.cell;have f6:=E.frozen;have ax:=za (zgJ E);have z:=b3.ext (l.trans U);have kz:=z.cell;have fz:=z.frozen;cases op with
   |none =>
    have ah:=za (show t=some q by rw [← ae.out,zdY _ I.out]);have hf:Frm (fun k=>k=w.heap.size+1+1) wr ((wr.setCell ⟨w.heap.size+1+1,0,none⟩ (.slice Q k i)).setCell ⟨w.heap.size+1+1,1,none⟩ (.slice y nc g)):=(dE wr _ 0 _).trans (dE _ _ 1 _);have cf:=(show Blk ((wr.setCell ⟨w.heap.size+1+1,0,none⟩ (.slice Q k i)).setCell ⟨w.heap.size+1+1,1,none⟩ (.slice y nc g)) (w.heap.size+1+1) 90 #[.slice Q k i,.slice y nc g] by simpa using (z.ab 0 (.slice Q k i)).ab 1 (.slice y nc g)).cell;have J:=za (show zbV w (t.map fun r=>(r,cols)) (.returned (.tuple #[.agg #[.slice Q k i,.slice y nc g],.bool true])) ((wr.setCell ⟨w.heap.size+1+1,0,none⟩ (.slice Q k i)).setCell ⟨w.heap.size+1+1,1,none⟩ (.slice y nc g)) from
     ⟨((u.trans U).setCell (p:=⟨w.heap.size+1+1,0,none⟩) (by dsimp only;omega) _).setCell (p:=⟨w.heap.size+1+1,1,none⟩) (by dsimp only;omega) _,.inr ⟨q,cols,k,nc,Q,i,y,g,by rw [ah.out];rfl,rfl,zf (zo Y u.size) hf (fun b hv e=>zp Y z dM hv e),zf (zo V u.size) hf (fun b hv e=>zp V z dM hv e)⟩⟩)
    clear hf;go_wp2_with fail
    exact bodyPost_ret (v:=.tuple #[.agg #[.slice Q k i,.slice y nc g],.bool true]) (by simp [results,Tryz.results131,go_sem,cf]) rfl J.out
   |some x =>
    by_cases h12:k=12
    ·have ah:=za (show t=none by rw [← ae.out,h12];exact zea I.out);have bd:((k:Int)==12)=true:=by rw [h12];rfl
     clear h12;have cf:=(show Blk ((wr.setCell ⟨w.heap.size+1+1,0,none⟩ ()).setCell ⟨w.heap.size+1+1,1,none⟩ ()) (w.heap.size+1+1) 90 #[(),()] by simpa using (z.ab 0 (.slice none 0 0)).ab 1 (.slice none 0 0)).cell;have J:=za (show zbV w (t.map fun r=>(r,cols)) (.returned (.tuple #[.agg #[(),()],.bool false])) ((wr.setCell ⟨w.heap.size+1+1,0,none⟩ ()).setCell ⟨w.heap.size+1+1,1,none⟩ ()) from
      ⟨((u.trans U).setCell (p:=⟨w.heap.size+1+1,0,none⟩) (by dsimp only;omega) _).setCell (p:=⟨w.heap.size+1+1,1,none⟩) (by dsimp only;omega) _,.inl ⟨by rw [ah.out];rfl,rfl⟩⟩)
     go_wp2_with fail
     exact bodyPost_ret (v:=.tuple #[.agg #[(),()],.bool false]) (by simp [results,Tryz.results131,go_sem,cf]) rfl J.out
    ·have bf:((k:Int)==12)=false:=by simp;omega
     have H:=za (show zcT L (zr s p L) (q++[x]) cols from ai.out.2.grow (by rw [ai.out.1];omega) I.out);have aw:=za (show zar L (zr s p L) cols (12 - (k+1)) (q++[x])=t by
      rw [← ae.out,show 12 - k=(12 - (k+1))+1 by omega,zdZ _ I.out])
     go_upto_region 9 with (at_builtin;refine zQ w1 wr rfl _ _ _ rfl 9 _ 1 16 Tryz.underlying88 zn rfl dM (.slice Q k i) k (zM q) _ _ rfl rfl U Y rfl (zbR _) lM oM ?_;intro v5 w5 hx5 zhP hg5 hat5;obtain⟨S,Z,rfl⟩:=zi zhP;have D:Blk w5 G 90 #[.slice Q k i,.slice y nc g]:=(hg5.block G (Blk.lt E) (fun e=>zp Y E dM e.symm rfl)).trans E;have aX:=Blk.cell D;have aQ:=Blk.frozen D)
     have an:=zf V (Frm.ae hg5) (fun b hv e=>hdis.out b e hv);have af:=za (show ∀ j,(Value.slice S (k+1) Z).ownBlock=some j->(Value.slice y nc g).ownBlock≠some j from fun j hj hc=>by
      rcases hat5 with h1|h1
      ·rw [h1] at hj;exact hdis.out j hj hc
      ·rw [h1] at hj;have:=Option.some.inj hj;have:=(V.lt j hc).2;omega)
     have ag:Frm (fun k=>k=G) w5 (w5.setCell G (.slice S (k+1) Z)):=dE w5 G 0 _;have aC:=zf an ag (fun b hv e=>zp an D dM hv e);have ao:=zf zhP ag (fun b hv e=>zp zhP D dM hv e);have ad:Blk (w5.setCell G (.slice S (k+1) Z)) G 90 #[.slice S (k+1) Z,.slice y nc g]:=by simpa using D.ab 0 (.slice S (k+1) Z)
     have ak:=hx5.setCell (p:=⟨G,0,none⟩) aT (.slice S (k+1) Z);rw [show zM q++#[Value.string x].toList=zM (q++[x]) by rw [strs_snoc]] at ao;clear k6 f6 kz fz z E Y V ag aX aQ D an zhP hx5 hg5 hat5 hdis;generalize w5.setCell G (.slice S (k+1) Z)=w6 at *;have a5:=fun W (hW:Ext w6 W)=>CB W (l.trans (ak.trans hW));have a6:=ad.cells;have aL:=za (show TabAt w6 S (k+1) y nc (q++[x]) cols from ⟨_,_,_,_,dY ao,dY aC⟩);have T:=cY w6;go_wp2_with (first
      |(go_at_call 212;refine (HO.out _ _ _ _ _ _ (q++[x]) _ (u.trans ak) aL.out H.out).mono (mQ fun w7 O=>?_)))
     have aj:=za (zgJ (ad.ext O));go_roundw
     case rel=>exact⟨q++[x],k+1,S,Z,rfl,rfl,za ⟨by rw [List.length_append,ai.out.1];rfl,H.out⟩,aw,oM,ad.ext O,zg ao O,zg aC O,af,ak.trans O⟩
     case measure=>have h1:=ax.out;have h2:=aj.out;omega
end
theorem zcT.first (L:Nat) (f:ByteArray->Bool):zcT L f [⟨#[]⟩] [⟨#[]⟩]:=
 ⟨dD _,dM,dD _,dM,rfl,rfl,(fun i x hi hx=>by rw [eD (by simpa using hi)] at hx;cases hx),(fun i x hi hx=>by rw [eD (by simpa using hi)] at hx;cases hx),sM⟩
noncomputable def idxS (zs:List ByteArray) (z:ByteArray):Nat:=zs.findIdx fun y=>zfW [y] z
theorem idxS_lt (h:z∈zs):idxS zs z<zs.length:=List.findIdx_lt_length_of_exists ⟨z,h,zdG.2 sM⟩
theorem idxS_at (h:z∈zs):zs[idxS zs z]?=some z:=by
 have h1:=idxS_lt h;have b:=List.findIdx_getElem (xs:=zs) (p:=fun y=>zfW [y] z) (w:=h1);have a:=zdG.1 b;rw [eP] at a;rw [dC h1];exact congrArg some a.symm
theorem idxS_first {j:Nat} (hj:j<idxS zs z)(hy:zs[j]?=some y):y≠z:=by
 have h1:=List.not_of_lt_findIdx hj;have a:zs[j]'(by have:=List.findIdx_le_length (p:=fun y=>zfW [y] z) (xs:=zs);unfold idxS at hj;omega)=y:=(List.getElem?_eq_some_iff.1 hy).2;rw [a] at h1;intro e;rw [zcb] at h1;exact h1 (by rw [e];simp)
theorem zhl {w:World} {lo hi:Nat} {A:Option Addr}  (h:Reads w lo hi 1 A n (zM zs))(hz:z∈zs) :
  Calls Tryz.prog 136 #[.slice A n c,z] w fun e w'=>e=.returned (.int .i64 (idxS zs z:Nat))∧w=w':=by
 have s:=h.len;have g:zs.length=n:=by have:=h.length;rw [zbs] at this;omega
 obtain⟨I,b⟩:∃ I,Hid (idxS zs z=I):=⟨_,rfl⟩;have o:I<n:=by rw [← b.out,← g];exact idxS_lt hz
 have hat:=za (b.out ▸ idxS_at hz);have a:=za (fun (j:Nat) (y:ByteArray) (hj:j<I)=>idxS_first (zs:=zs) (z:=z) (j:=j) (y:=y) (by rw [b.out];exact hj));rw [b.out];clear g hz
 go_enter Tryz.func136,Tryz.ntmps136
 go_wp2_with fail
 go_loop [5] (fun iv=>∃ i:Nat,iv=.int .i64 i∧i<=I) (fun iv=>n - (intOf iv).toNat)
 case atStart=>exact⟨0,rfl,dG _⟩
 case round =>
  obtain⟨i,rfl,hi⟩:=hrel;have d:i<n:=oM;have k:(i:Int)<(n:Int):=oM;obtain⟨q,y,rfl,_,_,l,r⟩:=h.str d
  by_cases he:i=I
  ·have f:y=z:=Option.some.inj (l.out.symm.trans (he ▸ hat.out));subst f;have m:=za he;clear he;go_wp2_with fail
   go_ret;exact⟨zG (by rw [m.out]),rfl⟩
  ·have p:=str_ne (a.out i y oM l.out);go_wp2_with fail
   go_round
   case rel=>exact⟨i+1,gM,oM⟩
   case measure=>simp [intOf];omega
section
variable {w W:World} {n c m d m' d' L:Nat} {A B B':Option Addr} {s:Sys} {p:Aut}
theorem zeF (h:Tch w A n B m B' m' s p L) :
  Calls Tryz.prog 57 #[.agg #[.bool false,(0:Int),(),(),s.al,s.st,.slice A n c,p.al,.slice B m d,.slice B' m' d',L]] w (zbV w ((zar L (zr s p L) [⟨#[]⟩] 11 [⟨#[]⟩]).map fun r=>(r,[⟨#[]⟩]))):=by
 have D:=za (fun (R C:Option Addr) W (hW:Ext w W) (u:TabAt W R 1 C 1 [⟨#[]⟩] [⟨#[]⟩])=>zdw (c:=c) (d:=d) (d':=d') (cr:=1) (cc:=1) (h.ext hW) u (zcT.first L _) (dD _) (dD _))
 rw [show 12 - ([⟨#[]⟩]:List ByteArray).length=11 from rfl] at D;generalize (zar L (zr s p L) [⟨#[]⟩] 11 [⟨#[]⟩]).map (fun r=>(r,[(⟨#[]⟩:ByteArray)]))=t at *;clear h
 go_enter Tryz.func57,Tryz.ntmps57
 go_upto_region 1 with fail
 generalize U0:(w.alloc _).alloc _=j at *;obtain⟨i,J,M⟩:=gV U0;have hsz:w.heap.size+1+1=j.heap.size:=by rw [← U0];simp
 clear U0;have I:=za hsz;clear hsz;have G:=J.cell;have f:Ext j ((j.alloc (.cells #[.string ⟨#[]⟩] 9)).alloc (.cells #[.string ⟨#[]⟩] 9)):=((cY _).alloc _).alloc _;have u:TabAt ((j.alloc (.cells #[.string ⟨#[]⟩] 9)).alloc (.cells #[.string ⟨#[]⟩] 9)) (some ⟨j.heap.size,0,none⟩) 1 (some ⟨j.heap.size+1,0,none⟩) 1 [⟨#[]⟩] [⟨#[]⟩]:=by
  obtain⟨T,U⟩:=zS (cY ((j.alloc (.cells #[.string ⟨#[]⟩] 9)).alloc (.cells #[.string ⟨#[]⟩] 9)));refine⟨_,_,_,_,dY (base:=j.heap.size) (e:=9) (c:=1) ⟨rfl,.inr ⟨j.heap.size,1,_,rfl,dD _,T,by unfold maxLen;simp [zM]⟩⟩,dY (base:=j.heap.size+1) (e:=9) (c:=1) ⟨rfl,.inr ⟨j.heap.size+1,1,_,rfl,dD _,U,by unfold maxLen;simp [zM]⟩⟩⟩
 have H:=za u;have q:=M.ext f;clear u;go_wp2_with fail
 refine (D.out _ _ _ (i.trans f) H.out).mono ?_;rintro e o ⟨l,⟨y,rfl⟩|⟨V,O,nr,nc,R,cr,C,cc,y,rfl,F,E⟩⟩
 ·have a:=q.ext l;have S:=a.cell;have Q:=a.frozen;have x:=(show Blk ((o.setCell ⟨w.heap.size+1,0,none⟩ ()).setCell ⟨w.heap.size+1,1,none⟩ ()) (w.heap.size+1) 90 #[(),()] by simpa using (a.ab 0 (.slice none 0 0)).ab 1 (.slice none 0 0)).cell;have g:=za (show zbV w t (.returned (.tuple #[.agg #[(),()],.bool false])) ((o.setCell ⟨w.heap.size+1,0,none⟩ ()).setCell ⟨w.heap.size+1,1,none⟩ ()) from
   ⟨(((i.trans f).trans l).setCell (p:=⟨w.heap.size+1,0,none⟩) (Nat.le_succ _) _).setCell (p:=⟨w.heap.size+1,1,none⟩) (Nat.le_succ _) _,.inl ⟨y,rfl⟩⟩)
  clear G;go_wp2_with fail
  exact bodyPost_ret (v:=.tuple #[.agg #[(),()],.bool false]) (by simp [results,Tryz.results57,go_sem,x]) rfl g.out
 ·have a:=q.ext l;have S:=a.cell;have Q:=a.frozen;have z:Frm (fun k=>k=w.heap.size+1) o ((o.setCell ⟨w.heap.size+1,0,none⟩ (.slice R nr cr)).setCell ⟨w.heap.size+1,1,none⟩ (.slice C nc cc)):=(dE o _ 0 _).trans (dE _ _ 1 _);have x:=(show Blk ((o.setCell ⟨w.heap.size+1,0,none⟩ (.slice R nr cr)).setCell ⟨w.heap.size+1,1,none⟩ (.slice C nc cc)) (w.heap.size+1) 90 #[.slice R nr cr,.slice C nc cc] by simpa using (a.ab 0 (.slice R nr cr)).ab 1 (.slice C nc cc)).cell;have g:=za (show zbV w t (.returned (.tuple #[.agg #[.slice R nr cr,.slice C nc cc],.bool true])) ((o.setCell ⟨w.heap.size+1,0,none⟩ (.slice R nr cr)).setCell ⟨w.heap.size+1,1,none⟩ (.slice C nc cc)) from
   ⟨(((i.trans f).trans l).setCell (p:=⟨w.heap.size+1,0,none⟩) (Nat.le_succ _) _).setCell (p:=⟨w.heap.size+1,1,none⟩) (Nat.le_succ _) _,.inr ⟨V,O,nr,nc,R,cr,C,cc,y,rfl,zf (zo F (i.trans f).size) z (fun b hv e=>zp F a dM hv e),zf (zo E (i.trans f).size) z (fun b hv e=>zp E a dM hv e)⟩⟩)
  clear G z;go_wp2_with fail
  exact bodyPost_ret (v:=.tuple #[.agg #[.slice R nr cr,.slice C nc cc],.bool true]) (by simp [results,Tryz.results57,go_sem,x]) rfl g.out
end
end Go.Proofs.YtckbjnndaaoddaaGreatDoor
