/- The referenc -/
import Derived.Test.YtckbjnndaaoddaaGreatDoorH08
set_option maxHeartbeats 8000000
set_option maxRecDepth 100000
namespace Go.Proofs.YtckbjnndaaoddaaGreatDoor
open Go Go.RowKit
open Blk renaming new->eM
open Bool renaming and_eq_true->dH
open Ext renaming refl->dB,x2_->gY
open Frm renaming setCell->dF
open List renaming append_assoc->jC,drop_eq_getElem_cons->gD,getElem?_append_left->eC,getElem?_eq_getElem->dE,getElem?_eq_none->eK,length_map->eL,length_take->e8,map_append->fB,mem_of_getElem?->dC,mem_singleton->fC,nil_append->eY,take_add_one->eA,take_append_drop->jA,take_append_of_le_length->iO,take_of_length_le->dU
open Nat renaming le_refl->dD,zero_add->eI,zero_le->dG
open Reads renaming af->eO
variable {A A' R:Option Addr} {G L base c c' hi k l lo n n' size:Nat} {W w w':World} {a:Aut} {cols rows zs:List ByteArray} {e t:TypeId} {f:ByteArray->Bool} {v:Value} {x y z:ByteArray} {xs:List Value}
theorem zcj.rsz' (h:zcj L f rows cols):(∀ y∈rows,y.size<=1000000)∧∀ y∈cols,y.size<=1000000:=
 ⟨fun y hy=>by have:=(h.rin hy).2;omega,fun y hy=>by have:=(h.cin hy).2;omega⟩
section
variable {w W:World} {n c m d m' d' L:Nat} {A B B':Option Addr} {s:Sys} {p:Aut} {nr nc cr cc:Nat} {R C:Option Addr} {rows cols:List ByteArray}
theorem zcq (h:Tch w A n B m B' m' s p L)(hT:TabAt w R nr C nc rows cols)(hI:zcj L (zo s p L) rows cols)(hcr:nr<=cr)(hcc:nc<=cc) :
  Calls Tryz.prog 211 #[.agg #[.bool false,(0:Int),(),(),s.al,s.st,.slice A n c,p.al,.slice B m d,.slice B' m' d',L],.agg #[.slice R nr cr,.slice C nc cc]] w fun e w'=>e=.returned (.bool true)∧Ext w w':=by
 obtain⟨J,T⟩:=hT.nr;have y:=hI.r12;have u:=hI.c20;rw [J] at y;rw [T] at u;have HA:=za (fun W (hW:Ext w W)=>zaZ (c:=c) (d:=d) (d':=d') (h.ext hW));have HS:=za (fun W (hW:Ext w W)=>zjH (cr:=cr) (cc:=cc) (hT.ext hW) hI h.lt hcr hcc);obtain⟨lo,hi,ap,am,h1,U⟩:=hT;have HR:=za (fun W (hW:Ext w W)=>zeN (c:=c) (d:=d) (d':=d') (cc:=cc) (cr:=cr) (h.ext hW) (U.ext hW) (h1.ext hW) oM oM hI.rsz'.2 hI.rsz'.1);have Q:=za (rowsM_nodup hI);have l:(zaD (zo s p L) cols rows).length=nr:=by rw [zaD,eL];exact J
 generalize zaD (zo s p L) cols rows=zs at *;clear h h1 U hI J T
 go_enter Tryz.func211,Tryz.ntmps211
 go_upto_region 1 with fail
 generalize U0:(w.alloc _).alloc _=w1 at *;obtain⟨hx0,b1,b2⟩:=gY U0;clear U0;have CB:=b1.cells;have CT:=b2.cells;have f:=dB w1;refine uR (fun X=>Ext w1 X) [] (zv.of [0,2,1,3,4]) ?_;refine uQ ?_;refine ze fun K hK=>?_;go_simp;refine (HA.out _ (hx0.trans f.drew)).mono (mQ fun w2 E=>?_);have a:Ext w1 w2:=f.drew.trans E;refine hK.out _ _ a ?_;refine pT ?_;refine uQ ?_;refine ze fun K hK=>?_;go_simp;refine (HS.out _ (hx0.trans a)).mono (mQ fun w3 F=>?_);have b:=a.trans F;refine hK.out _ _ b ?_;refine pT ?_;refine uQ ?_;refine zf ?_;clear a E F;go_wp2_with (first|(go_at_call 135;refine (HR.out _ (hx0.trans b)).mono ?_;rintro e w4 ⟨G,g,rfl,q,H⟩))
 rw [l] at q;have r:=za l;clear l;have D:=b.trans H;have z:=eO q;have t:=za (fun W (hW:Ext w4 W)=>z.ext hW);have ao:nr<=g:=by
  rcases q.2 with ⟨e,h0⟩|⟨g0,ai,aj,e,_,_,V,_⟩
  ·omega
  ·injection e with _ _ h3;omega
 clear b H q z
 go_loopw [6] (fun iv wr=>∃ k:Nat,k<=nr∧iv=.int .i64 k∧Ext w4 wr) (fun iv _=>nr - (intOf iv).toNat)
 case atStart=>exact⟨0,dG _,rfl,dB _⟩
 case round =>
  obtain⟨k,hk,rfl,o⟩:=hrel
  by_cases hlt:k<nr
  ·have Y:(k:Int)<(nr:Int):=oM;have an:(k:Int)<=(g:Int):=oM;obtain⟨ad,x,rfl,_,_,Z,S⟩:=(t.out wr o).str hlt;have v:=za (show zcZ (zs.take k) x=false by
    rw [zcA];intro hm;obtain⟨j,M⟩:=List.getElem?_of_mem hm;have O:j<k:=by have:=(List.getElem?_eq_some_iff.1 M).1;rw [e8] at this;omega
    rw [List.getElem?_take_of_lt O] at M;have:=(List.getElem?_inj (i:=j) (j:=k) (oH r.out) Q.out).1 (M.trans Z.out.symm);omega)
   have I:=za (fun W (hW:Ext w4 W)=>(t.out W hW).takeS hk);have CX:∀ W,Ext wr W->W.cell? (ad.add k)=some (.string x):=fun W hW=>hW.aa S;have f:=dB wr;clear S Z;go_wp2_with fail
   refine uR (fun X=>Ext wr X) [] (zv.of [0,1,2,3,4,5,6,7]) ?_;refine uQ ?_;refine ze fun K hK=>?_;go_simp;refine (zdV (I.out _ (o.trans f.drew))).mono ?_;rw [v.out];rintro e w5 ⟨rfl,rfl⟩;refine hK.out _ _ f.drew ?_;refine pT ?_;refine uQ ?_;refine zf ?_;go_wp2_with fail
   go_roundw
   case rel=>exact⟨k+1,oM,gM,o.trans f.drew⟩
   case measure=>simp [intOf];omega
  ·have ak:(nr:Int)<=(k:Int):=oM;go_wp2_with fail
   go_ret;exact⟨rfl,hx0.trans (D.trans o)⟩
def candL (L:Nat) (rows:List ByteArray):List ByteArray:=rows.flatMap fun r=>(letters L 6).map fun l=>r++zck l
noncomputable def zaR (L:Nat) (f:ByteArray->Bool) (rows cols:List ByteArray):Option ByteArray:=(candL L rows).find? fun x=>!zcZ (zaD f cols rows) (mkS (zbS f cols x))
theorem find_pre {α:Type} {P:α->Bool} {pre post l:List α} {x:α}(hl:l=pre++x :: post)(hp:∀ y∈pre,P y=false)(hx:P x=true):l.find? P=some x:=by
 rw [hl,List.find?_append,List.find?_eq_none.2 (fun y hy=>by rw [hp y hy];decide),Option.none_or,List.find?_cons_of_pos hx]
theorem open_find {ls:List Nat}  {i:Nat} (hx:rows[i]?=some x)(hl:ls[k]?=some l)(hy:x++zck l=y)
  (hd:∀ y∈(rows.take i).flatMap (fun r=>ls.map fun l=>r++zck l),zcZ zs (mkS (zbS f cols y))=true) (hdk:∀ y∈(ls.take k).map (fun l=>x++zck l),zcZ zs (mkS (zbS f cols y))=true) (hm:zcZ zs (mkS (zbS f cols y))=false) :
  (rows.flatMap fun r=>ls.map fun l=>r++zck l).find? (fun x=>!zcZ zs (mkS (zbS f cols x)))=some y:=by
 have d:rows=rows.take i++x :: rows.drop (i+1):=by
  obtain⟨a,b⟩:=List.getElem?_eq_some_iff.1 hx;rw [← b,← gD a,jA]
 have c:ls=ls.take k++l :: ls.drop (k+1):=by
  obtain⟨a,b⟩:=List.getElem?_eq_some_iff.1 hl;rw [← b,← gD a,jA]
 have e:ls.map (fun l=>x++zck l)=(ls.take k).map (fun l=>x++zck l)++y :: (ls.drop (k+1)).map (fun l=>x++zck l):=by
  conv=>lhs;rw [c]
  rw [fB,List.map_cons,hy]
 refine find_pre (pre:=(rows.take i).flatMap (fun r=>ls.map fun l=>r++zck l)++(ls.take k).map (fun l=>x++zck l)) (post:=(ls.drop (k+1)).map (fun l=>x++zck l)++(rows.drop (i+1)).flatMap (fun r=>ls.map fun l=>r++zck l)) ?_ ?_ ?_
 ·conv=>lhs;rw [d]
  rw [List.flatMap_append,List.flatMap_cons,e];simp only [jC,List.cons_append]
 ·intro y' hy';show (!zcZ zs (mkS (zbS f cols y')))=false;rcases List.mem_append.1 hy' with h1|h1
  ·rw [hd y' h1,Bool.not_true]
  ·rw [hdk y' h1,Bool.not_true]
 ·show (!zcZ zs (mkS (zbS f cols y)))=true;rw [hm,Bool.not_false]
theorem zeO (h1:l<6):Calls Tryz.prog 138 #[l] w fun e w'=>e=.returned (.string (zck l))∧Ext w w':=zfo h1
theorem zgJ (h:Tch w A n B m B' m' s p L)(hT:TabAt w R nr C nc rows cols)(hI:zcj L (zo s p L) rows cols) :
  Calls Tryz.prog 212 #[.agg #[.bool false,(0:Int),(),(),s.al,s.st,.slice A n c,p.al,.slice B m d,.slice B' m' d',L],.agg #[.slice R nr cr,.slice C nc cc]] w fun e w'=>e=.returned (.tuple #[.string ((zaR L (zo s p L) rows cols).getD ⟨#[]⟩),.bool (zaR L (zo s p L) rows cols).isSome])∧Ext w w':=by
 obtain⟨e1,e2⟩:=hT.nr;have af:=hI.r12;have ab:=hI.c20;rw [e1] at af;rw [e2] at ab;have HA:=za (fun W (hW:Ext w W)=>zaZ (c:=c) (d:=d) (d':=d') (h.ext hW));obtain⟨lo,hi,a9,a4,h1,h2⟩:=hT;have HR:=za (fun W (hW:Ext w W)=>zeN (c:=c) (d:=d) (d':=d') (cc:=cc) (cr:=cr) (h.ext hW) (h2.ext hW) (h1.ext hW) oM oM hI.rsz'.2 hI.rsz'.1);have HW:=za (fun W (hW:Ext w W) (y:ByteArray) u=>zfz (c:=c) (d:=d) (d':=d') (cc:=cc) (x:=y) (h.ext hW) (h2.ext hW) oM u hI.rsz'.2);have H1:=za (fun W (hW:Ext w W)=>h1.ext hW);have hL:=h.lt;have ao:=za (fun x T=>hI.rin (x:=x) T);have I:(zaD (zo s p L) cols rows).length=nr:=by rw [zaD,eL];exact e1
 have ae:zaR L (zo s p L) rows cols=(candL L rows).find? fun x=>!zcZ (zaD (zo s p L) cols rows) (mkS (zbS (zo s p L) cols x)):=rfl;generalize zaR L (zo s p L) rows cols=op at *;generalize zaD (zo s p L) cols rows=zs at *;have aa:=za ae;have aF:=za I;have He:=za e1;clear h h1 h2 hI e1 e2 ae I
 go_enter Tryz.func212,Tryz.ntmps212
 go_upto_region 1 with fail
 generalize U0:(w.alloc _).alloc _=w1 at *;obtain⟨hx0,b1,b2⟩:=gY U0;clear U0;have CB:=b1.cells;have CT:=b2.cells;have j:=dB w1;go_wp2_with (first
  |(go_at_call 133;refine (HA.out _ hx0).mono (mQ fun w2 ag=>?_))
  |(go_at_call 134;refine (zaj L tM _).mono ?_;rintro e w3 ⟨HL,hc,rfl,E,ah⟩;have F:=ag.trans ah)
  |(go_at_call 135;refine (HR.out _ (hx0.trans F)).mono ?_;rintro e w4 ⟨G,g,rfl,D,U⟩;have b:=F.trans U))
 have J:=eO D;have HG:=za (fun W (hW:Ext w4 W)=>J.ext hW);have t:=zh E U;have Y:=za (fun W (hW:Ext w4 W)=>zh t hW);have aw:=za (fun l (X:l∈letters L 6)=>(zG.1 X).1);have v:=za (show candL L rows=rows.flatMap fun r=>(letters L 6).map fun l=>r++zck l from rfl);have a5:(letters L 6).length<=6:=zE L 6;generalize letters L 6=O at *;clear E t J D ag ah F U j;have j:=dB w4
 go_loopw [8] (fun iv wr=>∃ i:Nat,i<=nr∧iv=.int .i64 i∧Hid (∀ x∈(rows.take i).flatMap (fun r=>O.map fun l=>r++zck l),zcZ zs (mkS (zbS (zo s p L) cols x))=true)∧Ext w4 wr) (fun iv _=>nr - (intOf iv).toNat)
 case atStart=>exact⟨0,dG _,rfl,za (fun x T=>by simp at T),j⟩
 case round =>
  clear j;obtain⟨i,hi,rfl,o,f⟩:=hrel;have am:=fun W (hW:Ext wr W)=>CT W (b.trans (f.trans hW));have j:=dB wr
  by_cases hlt:i<nr
  ·have aJ:(i:Int)<(nr:Int):=oM;obtain⟨ad,x,rfl,_,_,T,cx⟩:=(H1.out wr (hx0.trans (b.trans f))).str hlt;have CX:∀ W,Ext wr W->W.cell? (ad.add i)=some (.string x):=fun W hW=>hW.aa cx;have a7:=(ao.out x (dC T.out)).2;have ai:=za T.out;clear cx T;go_wp2_with fail
   obtain⟨wo,ay⟩:∃ wo,wo=wr:=⟨_,rfl⟩;subst ay
   go_loopw [9] (fun kv wr=>∃ k:Nat,k<=O.length∧kv=.int .i64 k∧Hid (∀ y∈(O.take k).map (fun l=>x++zck l),zcZ zs (mkS (zbS (zo s p L) cols y))=true)∧Ext wo wr) (fun kv _=>O.length - (intOf kv).toNat)
   case atStart=>exact⟨0,dG _,rfl,za (fun y u=>by simp at u),j⟩
   case round =>
    clear j;obtain⟨k,hk,rfl,Q,a⟩:=hrel
    by_cases hkl:k<O.length
    ·have aI:(k:Int)<(O.length:Int):=oM;obtain⟨l,X⟩:∃ l,O[k]?=some l:=⟨_,dE hkl⟩;have av:=aw.out l (dC X);have V:=Y.out wr (f.trans a);obtain⟨gl,rfl,a2,-⟩:=zae V oM;have cl:=zdj V hkl;rw [List.getD_eq_getElem?_getD,X,Option.getD_some] at cl;have CL:∀ W,Ext wr W->W.cell? ⟨gl,k,none⟩=some (.int .i64 (l:Nat)):=fun W hW=>hW.aa cl;have aR:=fun W (hW:Ext wr W)=>CX W (a.trans hW);have aP:=fun W (hW:Ext wr W)=>am W (a.trans hW);have aN:∀ W,Ext wr W->∀ q,W.cell? ⟨w.heap.size,q,none⟩=#[Value.bool false,.int .i64 0,.slice none 0 0,.slice none 0 0,.int .i64 s.al,.int .i64 s.st,.slice A n c,.int .i64 p.al,.slice B m d,.slice B' m' d',.int .i64 L][q]?:=fun W hW=>CB W ((b.trans (f.trans a)).trans hW);have HT:=za (fun W=>zeO (w:=W) av);have Hl:=za X;obtain⟨z,hz⟩:∃ z,Hid (zck l=z):=⟨_,rfl⟩;rw [hz.out] at HT;have a8:z.size=1:=by rw [← hz.out];exact zcO l
     have hsz:¬ 9223372036854775807<x.size+1:=oM;have Z:=za (fun W (hW:Ext wr W)=>HW.out W ((hx0.trans (b.trans (f.trans a))).trans hW) (x++z) (by rw [ByteArray.size_append];omega));have an:=za (fun W (hW:Ext wr W)=>HG.out W ((f.trans a).trans hW));have j:=dB wr;obtain⟨y,u⟩:∃ y,x++z=y:=⟨_,rfl⟩;rw [u] at Z;have aj:Hid (x++zck l=y):=by unfold Hid;rw [hz.out];exact u
     clear X cl V;go_wp2_with fail
     go_region_held3 (fun W=>Ext wr W) (first|assumption|(refine Ext.drew ?_;assumption)|(refine Ext.trans ?_ aM;assumption)|(refine Ext.trans ?_ aM;refine Ext.drew ?_;assumption)) (first
      |(go_at_call 138;refine (HT.out _).mono (mQ fun w7 a6=>?_)))
     have M:Ext wr w7:=aM;clear u;cases hm:zcZ zs (mkS (zbS (zo s p L) cols y))
     all_goals
      have Hm:=za hm;clear hm;go_wp2_with (first
       |(go_at_call 137;refine (Z.out _ M).mono (mQ fun w8 az=>?_);have H:=M.trans az)
       |(go_at_call 228;with_reducible refine (zdV (an.out _ H)).mono ?_;rw [Hm.out];rintro e w9 ⟨rfl,rfl⟩))
     ·have S:=za (show op=some y by
       rw [aa.out,v.out];exact open_find ai.out Hl.out aj.out o.out Q.out Hm.out)
      go_ret2;exact⟨by rw [S.out];rfl,hx0.trans (b.trans (f.trans (a.trans H)))⟩
     ·go_roundw
      case rel=>exact⟨k+1,oM,gM,za (fun y' hy'=>by
       rw [eA,Hl.out,fB] at hy';rcases List.mem_append.1 hy' with h1|h1
       ·exact Q.out y' h1
       ·simp at h1;rw [h1,aj.out];exact Hm.out),a.trans H⟩
      case measure=>simp [intOf];omega
    ·have au:(O.length:Int)<=(k:Int):=oM;go_wp2_with fail
     go_roundw
     case rel=>exact⟨i+1,oM,gM,za (fun y u=>by
      rw [eA,ai.out,List.flatMap_append] at u;rcases List.mem_append.1 u with h1|h1
      ·exact o.out y h1
      ·refine Q.out y ?_;rw [dU oM];simpa using h1),f.trans a⟩
     case measure=>simp [intOf];omega
  ·have au:(nr:Int)<=(i:Int):=oM;have ax:=za (show op=none by
    rw [aa.out,v.out,List.find?_eq_none];intro y u;have:=o.out y (by rw [dU (oH He.out)];exact u);rw [this];decide)
   go_wp2_with fail
   go_ret2;exact⟨by rw [ax.out];rfl,hx0.trans (b.trans f)⟩
end
theorem zu (l:List ByteArray):∀ u∈zO l,u.oneCell'=true:=by
 intro u hu;obtain⟨x,-,rfl⟩:=List.mem_map.1 hu;rfl
def TabV (w1:World) (rows cols:List ByteArray) (nr nc:Nat) (v:Value) (W:World):Prop:=
 ∃ (g:Nat) (R:Option Addr) (cr:Nat) (C:Option Addr) (cc:Nat),v=.pointer (some g)∧w1.heap.size<=g∧Blk W g 90 #[.slice R nr cr,.slice C nc cc] ∧
  W.ownsRow w1.heap.size 9 1 (.slice R nr cr) nr (zO rows)∧W.ownsRow w1.heap.size 9 1 (.slice C nc cc) nc (zO cols)∧Ext w1 W∧Hid (∀ k,(Value.slice R nr cr).ownBlock=some k->(Value.slice C nc cc).ownBlock≠some k)
theorem zaC {w1:World}  {nr nc g cr cc:Nat} {C:Option Addr}(ha:W.ownsRow w1.heap.size 9 1 (.slice R nr cr) nr (zO rows))(hc:W.ownsRow w1.heap.size 9 1 (.slice C nc cc) nc (zO cols))(hb:Blk W g 90 #[(),()])(hx:Ext w1 W)(hg:w1.heap.size<=g)(hd:∀ k,(Value.slice R nr cr).ownBlock=some k->(Value.slice C nc cc).ownBlock≠some k) :
  TabV w1 rows cols nr nc (.pointer (some g)) ((W.setCell g (.slice R nr cr)).setCell ⟨g,1,none⟩ (.slice C nc cc)):=by
 have a:Frm (fun k=>k=g) W ((W.setCell g (.slice R nr cr)).setCell ⟨g,1,none⟩ (.slice C nc cc)):=(dF W g 0 _).trans (dF _ g 1 _);exact⟨g,R,cr,C,cc,rfl,hg,by simpa using (hb.ab 0 _).ab 1 _,zg ha a (fun b hv e=>zr ha hb dM hv e),zg hc a (fun b hv e=>zr hc hb dM hv e),(hx.setCell (p:=⟨g,0,none⟩) hg _).setCell (p:=⟨g,1,none⟩) hg _,za hd⟩
section
variable {w W:World} {n c m d m' d' L:Nat} {A B B':Option Addr} {s:Sys} {p:Aut} {nr nc cr cc:Nat} {R C:Option Addr} {rows cols:List ByteArray}
theorem zis (h:Tch w A n B m B' m' s p L)(hT:TabAt w R nr C nc rows cols)(hI:zcj L (zo s p L) rows cols)(hcr:nr<=cr)(hcc:nc<=cc) :
  Calls Tryz.prog 213 #[.agg #[.bool false,(0:Int),(),(),s.al,s.st,.slice A n c,p.al,.slice B m d,.slice B' m' d',L],.agg #[.slice R nr cr,.slice C nc cc]] w fun e w'=>e=.returned (.tuple #[.string ((zaR L (zo s p L) rows cols).getD ⟨#[]⟩),.bool (zaR L (zo s p L) rows cols).isSome])∧Ext w w':=by
 have g:=za (fun W (hW:Ext w W)=>zcq (c:=c) (d:=d) (d':=d') (h.ext hW) (hT.ext hW) hI hcr hcc);have f:=za (fun W (hW:Ext w W)=>zgJ (c:=c) (d:=d) (d':=d') (cr:=cr) (cc:=cc) (h.ext hW) (hT.ext hW) hI);generalize zaR L (zo s p L) rows cols=q at *;clear h hT hI
 go_enter Tryz.func213,Tryz.ntmps213
 go_upto_region 1 with fail
 generalize U0:(w.alloc _).alloc _=w1 at *;obtain⟨hx0,i,j⟩:=gY U0;clear U0;have l:=i.cells;have o:=j.cells;have k:=dB w1;go_wp2_with (first
  |(go_at_call 211;refine (g.out _ hx0).mono (mQ fun w2 a=>?_))
  |(go_at_call 212;refine (f.out _ (hx0.trans a)).mono (mQ fun r b=>?_)))
 go_ret2;exact⟨rfl,hx0.trans (a.trans b)⟩
theorem zgZ (h:Tch w A n B m B' m' s p L)(hT:TabAt w R nr C nc rows cols)(hI:zcj L (zo s p L) rows cols)(hcr:nr<=cr)(hcc:nc<=cc)(hcl:zaR L (zo s p L) rows cols=none) :
  Calls Tryz.prog 132 #[.agg #[.bool false,(0:Int),(),(),s.al,s.st,.slice A n c,p.al,.slice B m d,.slice B' m' d',L],.agg #[.slice R nr cr,.slice C nc cc]] w fun e w'=>e=.returned (.bool true)∧Ext w w':=by
 have g:=za (fun W (hW:Ext w W)=>zcq (c:=c) (d:=d) (d':=d') (h.ext hW) (hT.ext hW) hI hcr hcc);have f:=za (fun W (hW:Ext w W)=>zis (c:=c) (d:=d) (d':=d') (cr:=cr) (cc:=cc) (h.ext hW) (hT.ext hW) hI hcr hcc);rw [hcl] at f;clear h hT hI hcl
 go_enter Tryz.func132,Tryz.ntmps132
 go_upto_region 1 with fail
 generalize U0:(w.alloc _).alloc _=w1 at *;obtain⟨hx0,i,j⟩:=gY U0;clear U0;have l:=i.cells;have o:=j.cells;have k:=dB w1;go_wp2_with (first
  |(go_at_call 213;refine (f.out _ hx0).mono (mQ fun w2 a=>?_))
  |(go_at_call 211;refine (g.out _ (hx0.trans a)).mono (mQ fun q b=>?_)))
 go_ret;exact⟨rfl,hx0.trans (a.trans b)⟩
theorem inB_snoc {r:ByteArray} (hr:inB r L=true)(hs:r.size<=1000)(hl:l<6)(hb:L.testBit l=true):inB (r++zck l) L=true:=by
 unfold inB at hr ⊢;simp only [dH,decide_eq_true_eq] at hr ⊢;refine⟨by rw [ByteArray.size_append,zcO];omega,?_⟩;unfold zex at hr ⊢;rw [ByteArray.data_append,Array.toList_append,List.all_append,hr.2,Bool.true_and];have e:(zck l).data.toList=[UInt8.ofNat (97+l)]:=by
  unfold zck;rw [strOfNums_data];rfl
 rw [e];simp only [List.all_cons,List.all_nil,Bool.and_true];have a:(UInt8.ofNat (97+l)).toNat=97+l:=by rw [UInt8.toNat_ofNat'];omega
 rw [a];unfold hasB ltr;rw [if_neg oM];simp only [dH,decide_eq_true_eq];exact⟨oM,by rw [show (((97+l:Nat):Int) - 97).toNat=l by omega];exact hb⟩
theorem openW_some (h:zaR L f rows cols=some x):(∃ r l,r∈rows∧l<6∧L.testBit l=true∧x=r++zck l)∧zbS f cols x∉rows.map (zbS f cols):=by
 unfold zaR at h;have h1:=List.mem_of_find?_eq_some h;have a:=List.find?_some h;unfold candL at h1;obtain⟨r,g,c⟩:=List.mem_flatMap.1 h1;obtain⟨l,d,rfl⟩:=List.mem_map.1 c;obtain⟨b,hb⟩:=zG.1 d;refine⟨⟨r,l,g,b,hb,rfl⟩,fun hm=>?_⟩;simp only [Bool.not_eq_true'] at a;rw [zcA] at a;refine a ?_;obtain⟨y,i,e⟩:=List.mem_map.1 hm;unfold zaD;exact List.mem_map.2 ⟨y,i,by rw [e]⟩
theorem zcj.grow (h:zcj L f rows cols)(hlen:rows.length<12)(hop:zaR L f rows cols=some x):zcj L f (rows++[x]) cols:=by
 obtain⟨⟨r,l,j,g,hb,rfl⟩,o⟩:=openW_some hop;refine⟨sM,by simp;omega,h.c1,h.c20,by rw [eC (oH h.r1)];exact h.r0,h.c0,fun i y hi hy=>?_,h.cw,?_⟩
 ·rcases Nat.lt_or_ge i rows.length with h1|h1
  ·rw [eC h1] at hy;obtain⟨c,z,p,k,m,n⟩:=h.rw_ i y hi hy;exact⟨c,z,p,k,m,by rw [iO oM];exact n⟩
  ·rw [List.getElem?_append_right h1] at hy;have d:i=rows.length:=by
    rcases Nat.eq_or_lt_of_le h1 with c|c
    ·exact c.symm
    ·rw [eK (by simp;omega)] at hy;cases hy
   subst d;simp at hy;subst hy;have c:=h.rin j;exact⟨inB_snoc c.1 oM g hb,r,l,g,rfl,by rw [iO (dD _),List.take_length];exact j⟩
 ·rw [fB,List.map_singleton,List.nodup_append];refine⟨h.nd,sM,fun a ha b hb' e=>?_⟩;rw [fC] at hb';subst hb';subst e;exact o ha
noncomputable def zX (L:Nat) (f:ByteArray->Bool) (cols:List ByteArray):Nat->List ByteArray->Option (List ByteArray)
 |0,rows=>match zaR L f rows cols with|none=>some rows|some _=>none
 |k+1,rows=>match zaR L f rows cols with|none=>some rows|some x=>zX L f cols k (rows++[x])
theorem zcv (k:Nat)(h:zaR L f rows cols=none):zX L f cols k rows=some rows:=by cases k<;>simp [zX,h]
theorem zed (h:zaR L f rows cols=some x):zX L f cols 0 rows=none:=by simp [zX,h]
theorem zdg (k:Nat)(h:zaR L f rows cols=some x):zX L f cols (k+1) rows=zX L f cols k (rows++[x]):=by simp [zX,h]
theorem zhx :∀ (k:Nat) (rows rows':List ByteArray),zcj L f rows cols->rows.length+k<=12->zX L f cols k rows=some rows'->zcj L f rows' cols∧zaR L f rows' cols=none∧∃ t,rows'=rows++t:=by
 intro k
 induction k with
 |zero =>
  intro rows rows' hI hk h;cases ho:zaR L f rows cols with
  |none=>rw [zcv 0 ho] at h;obtain rfl:=Option.some.inj h;exact⟨hI,ho,[],sM⟩
  |some x=>rw [zed ho] at h;cases h
 |succ k ih =>
  intro rows rows' hI hk h;cases ho:zaR L f rows cols with
  |none=>rw [zcv _ ho] at h;obtain rfl:=Option.some.inj h;exact⟨hI,ho,[],sM⟩
  |some x =>
   rw [zdg _ ho] at h;obtain⟨h1,a,t,b⟩:=ih (rows++[x]) rows' (hI.grow oM ho) (by simp;omega) h;exact⟨h1,a,[x]++t,by rw [b,jC]⟩
def zcT (w:World) (o:Option (List ByteArray × List ByteArray)) (e:Ending) (w':World):Prop:=
 Ext w w'∧((o=none∧e=.returned (.tuple #[.agg #[(),()],.bool false])) ∨
  ∃ (rs cs:List ByteArray) (nr nc:Nat) (R:Option Addr) (cr:Nat) (C:Option Addr) (cc:Nat),o=some (rs,cs)∧e=.returned (.tuple #[.agg #[.slice R nr cr,.slice C nc cc],.bool true]) ∧
   w'.ownsRow w.heap.size 9 1 (.slice R nr cr) nr (zO rs)∧w'.ownsRow w.heap.size 9 1 (.slice C nc cc) nc (zO cs))
def lenAt0 (W:World) (G:Nat):Nat:=match W.cell? G with|some (.slice _ n _)=>n|_=>0
theorem zeW (h:Blk W G t #[.slice R n c,v]):lenAt0 W G=n:=by
 unfold lenAt0;rw [h.cell 0];rfl
theorem yH09d1 {P:Prop}(h:P:=by
 have c6:=Blk.cell blk9;have f6:=Blk.frozen blk9;refine zb fun K hK=>?_;go_simp;refine hK.out _ _ ?_;refine zf ?_;go_wp2_with fail
 go_meet;exact zaC zke zkf blk9 hx35 HG0.out hdis.out
 ):P:=h
theorem yH09c1 {P:Prop}(h:P:=by
 refine ze (fun K hK=>?_);refine zx _ _ _ _ rfl w1.heap.size 9 _ 1 16 Tryz.underlying88 zt rfl dM (.slice (some bc9) 0 0) 0 [] rfl zkf _ _ C nc cc (zO cols) rfl (HC1.out v34 hx34) (zu _) lM oM hx34.size ?_;intro v9 v35 ownc8 hg hat;rw [Nat.zero_add,List.nil_append] at ownc8;obtain⟨Ac9,cc9,rfl⟩:=zi ownc8;have hx35:=hx34.grown hg (fun k hk=>(zkf.lt k hk).1);have hsz:=hg.size;have hbs:Hid (v34.heap.size=v34.heap.size):=za rfl;have zke:=zg zke (Frm.ae hg) (fun k hk hS=>hrn_a_bc9.out k hk (by simpa [Value.ownBlock] using hS.symm));have blk9:Blk v35 gbox9 90 #[.slice none 0 0,.slice none 0 0]:=(hg.block gbox9 (Blk.lt blk9) (fun e=>zr zkf blk9 dM e.symm rfl)).trans blk9;have hdis0:Hid (∀ k,(Value.slice Ac9 nc cc9).ownBlock=some k->(Value.slice Aa9 nr ca9).ownBlock≠some k):=za (fun k hk hS=>by rcases hat with h1|h1;(rw [h1] at hk;simp [Value.ownBlock] at hk;exact hrn_a_bc9.out k hS hk.symm);(rw [h1] at hk;have:=Option.some.inj hk;have:=hrl_a.out k hS;omega))
 have hdis:Hid (∀ k,(Value.slice Aa9 nr ca9).ownBlock=some k->(Value.slice Ac9 nc cc9).ownBlock≠some k):=za (fun k hk hS=>hdis0.out k hS hk);generalize hbe:v34.heap.size=nc9 at *;have hne_ba9_nc9:Hid (ba9≠nc9):=za (oH zkb.out);have hne_bc9_nc9:Hid (bc9≠nc9):=za (oH zkc.out);have zkb:Hid (ba9<v35.heap.size):=za (oH zkb.out);have zkc:Hid (bc9<v35.heap.size):=za (oH zkc.out);have hrl_a:Hid (∀ k,(Value.slice Aa9 nr ca9).ownBlock=some k->k<v35.heap.size):=za (fun k hk=>(zke.lt k hk).2);have hrl_c:Hid (∀ k,(Value.slice Ac9 nc cc9).ownBlock=some k->k<v35.heap.size):=za (fun k hk=>(ownc8.lt k hk).2);clear hbs hsz hbe;refine hK.out _ _ hx35 ?_;refine pT ?_;have zkf:=ownc8;refine uQ ?_;exact yH09d1
 ):P:=h
theorem yH09b1 {P:Prop}(h:P:=by
 clear hbs zjZ hbe;refine ze (fun K hK=>?_);refine zx _ _ _ _ rfl w1.heap.size 9 _ 1 16 Tryz.underlying88 zt rfl dM (.slice (some ba9) 0 0) 0 [] rfl zke _ _ R nr cr (zO rows) rfl (HR1.out v33 hx33) (zu _) lM oM hx33.size ?_;intro v9 v34 owna8 hg hat;rw [Nat.zero_add,List.nil_append] at owna8;obtain⟨Aa9,ca9,rfl⟩:=zi owna8;have hx34:=hx33.grown hg (fun k hk=>(zke.lt k hk).1);have hsz:=hg.size;have hbs:Hid (v33.heap.size=v33.heap.size):=za rfl;have zkf:=zg zkf (Frm.ae hg) (fun k hk hS=>by simp [Value.ownBlock] at hk hS;exact zkk.out (hS.trans hk.symm));have blk9:Blk v34 gbox9 90 #[.slice none 0 0,.slice none 0 0]:=(hg.block gbox9 (Blk.lt blk9) (fun e=>zr zke blk9 dM e.symm rfl)).trans blk9;generalize hbe:v33.heap.size=na9 at *;have hne_ba9_na9:Hid (ba9≠na9):=za (oH zkb.out);have hne_bc9_na9:Hid (bc9≠na9):=za (oH zkc.out);have zkb:Hid (ba9<v34.heap.size):=za (oH zkb.out);have zkc:Hid (bc9<v34.heap.size):=za (oH zkc.out);have hrn_a_bc9:Hid (∀ k,(Value.slice Aa9 nr ca9).ownBlock=some k->k≠bc9):=za (fun k hk=>by rcases hat with h1|h1;(rw [h1] at hk;simp [Value.ownBlock] at hk;rw [← hk];exact zkk.out);(rw [h1] at hk;rw [← Option.some.inj hk];exact (Ne.symm hne_bc9_na9.out)))
 have hrl_a:Hid (∀ k,(Value.slice Aa9 nr ca9).ownBlock=some k->k<v34.heap.size):=za (fun k hk=>(owna8.lt k hk).2);clear hbs hsz hbe;refine hK.out _ _ hx34 ?_;refine pT ?_;have zke:=owna8;exact yH09c1
 ):P:=h
theorem yH09b2 {P:Prop}(h:P:=by
 skip;refine zx _ _ _ _ rfl w1.heap.size 9 _ 1 16 Tryz.underlying88 zt rfl dM (.slice (some bc9) 0 0) 0 [] rfl zkf _ _ C nc cc (zO cols) rfl (HC1.out v33 hx33) (zu _) lM oM hx33.size ?_;intro v9 v34 ownc8 hg hat;rw [Nat.zero_add,List.nil_append] at ownc8;obtain⟨Ac9,cc9,rfl⟩:=zi ownc8;have hx34:=hx33.grown hg (fun k hk=>(zkf.lt k hk).1);have hsz:=hg.size;have hbs:Hid (v33.heap.size=v33.heap.size):=za rfl;have zke:=zg zke (Frm.ae hg) (fun k hk hS=>hrn_a_bc9.out k hk (by simpa [Value.ownBlock] using hS.symm));have hdis0:Hid (∀ k,(Value.slice Ac9 nc cc9).ownBlock=some k->(Value.slice Aa9 nr ca9).ownBlock≠some k):=za (fun k hk hS=>by rcases hat with h1|h1;(rw [h1] at hk;simp [Value.ownBlock] at hk;exact hrn_a_bc9.out k hS hk.symm);(rw [h1] at hk;have:=Option.some.inj hk;have:=hrl_a.out k hS;omega))
 have hdis:Hid (∀ k,(Value.slice Aa9 nr ca9).ownBlock=some k->(Value.slice Ac9 nc cc9).ownBlock≠some k):=za (fun k hk hS=>hdis0.out k hS hk);generalize hbe:v33.heap.size=nc9 at *;have hne_ba9_nc9:Hid (ba9≠nc9):=za (oH zkb.out);have hne_bc9_nc9:Hid (bc9≠nc9):=za (oH zkc.out);have zkb:Hid (ba9<v34.heap.size):=za (oH zkb.out);have zkc:Hid (bc9<v34.heap.size):=za (oH zkc.out);have hrl_a:Hid (∀ k,(Value.slice Aa9 nr ca9).ownBlock=some k->k<v34.heap.size):=za (fun k hk=>(zke.lt k hk).2);have hrl_c:Hid (∀ k,(Value.slice Ac9 nc cc9).ownBlock=some k->k<v34.heap.size):=za (fun k hk=>(ownc8.lt k hk).2);clear hbs hsz hbe;refine hK.out _ _ hx34 ?_;refine pT ?_;have zkf:=ownc8;refine uQ ?_;refine ze fun K hK=>?_;go_simp;have hx35:=hx34.alloc (.cells #[(),()] 90);have zjZ:=(Ext.refl v34).alloc (.cells #[(),()] 90);have blk9:=Blk.new v34 90 #[(),()];refine hK.out _ _ hx35 ?_;refine pT ?_;have zke:=zh zke zjZ;have zkf:=zh zkf zjZ;have HG0:=za hx34.size;have hbs:v34.heap.size<(v34.alloc (.cells #[(),()] 90)).heap.size:=sM;generalize hbe:v34.heap.size=gbox9 at *;generalize v34.alloc _=v35 at *;have zkb:Hid (ba9<v35.heap.size):=za (oH zkb.out);have zkc:Hid (bc9<v35.heap.size):=za (oH zkc.out);have hrl_a:Hid (∀ k,(Value.slice Aa9 nr ca9).ownBlock=some k->k<v35.heap.size):=za (fun k hk=>(zke.lt k hk).2);have hrl_c:Hid (∀ k,(Value.slice Ac9 nc cc9).ownBlock=some k->k<v35.heap.size):=za (fun k hk=>(zkf.lt k hk).2);clear hbs zjZ hbe;exact yH09d1
 ):P:=h
theorem yH09b3 {P:Prop}(h:P:=by
 clear hbs zjZ hbe;exact yH09c1
 ):P:=h
theorem yH09a1 {P:Prop}(h:P:=by
 clear hbs zjZ hbe;refine zn (fun K hK=>?_) (fun K hK=>?_)
 ·skip;refine zx _ _ _ _ rfl w1.heap.size 9 _ 1 16 Tryz.underlying88 zt rfl dM (.slice (some ba9) 0 0) 0 [] rfl zke _ _ R nr cr (zO rows) rfl (HR1.out v32 hx32) (zu _) lM oM hx32.size ?_;intro v9 v33 owna8 hg hat;rw [Nat.zero_add,List.nil_append] at owna8;obtain⟨Aa9,ca9,rfl⟩:=zi owna8;have hx33:=hx32.grown hg (fun k hk=>(zke.lt k hk).1);have hsz:=hg.size;have hbs:Hid (v32.heap.size=v32.heap.size):=za rfl;have zkf:=zg zkf (Frm.ae hg) (fun k hk hS=>by simp [Value.ownBlock] at hk hS;exact zkk.out (hS.trans hk.symm));generalize hbe:v32.heap.size=na9 at *;have hne_ba9_na9:Hid (ba9≠na9):=za (oH zkb.out);have hne_bc9_na9:Hid (bc9≠na9):=za (oH zkc.out);have zkb:Hid (ba9<v33.heap.size):=za (oH zkb.out);have zkc:Hid (bc9<v33.heap.size):=za (oH zkc.out);have hrn_a_bc9:Hid (∀ k,(Value.slice Aa9 nr ca9).ownBlock=some k->k≠bc9):=za (fun k hk=>by rcases hat with h1|h1;(rw [h1] at hk;simp [Value.ownBlock] at hk;rw [← hk];exact zkk.out);(rw [h1] at hk;rw [← Option.some.inj hk];exact (Ne.symm hne_bc9_na9.out)))
  have hrl_a:Hid (∀ k,(Value.slice Aa9 nr ca9).ownBlock=some k->k<v33.heap.size):=za (fun k hk=>(owna8.lt k hk).2);clear hbs hsz hbe;refine hK.out _ _ hx33 ?_;refine pT ?_;have zke:=owna8;refine zn (fun K hK=>?_) (fun K hK=>?_)
  ·exact yH09b2
  ·go_simp;have hx34:=hx33.alloc (.cells #[(),()] 90);have zjZ:=(Ext.refl v33).alloc (.cells #[(),()] 90);have blk9:=Blk.new v33 90 #[(),()];refine hK.out _ _ hx34 ?_;refine pT ?_;have zke:=zh zke zjZ;have zkf:=zh zkf zjZ;have HG0:=za hx33.size;have hbs:v33.heap.size<(v33.alloc (.cells #[(),()] 90)).heap.size:=sM;generalize hbe:v33.heap.size=gbox9 at *;generalize v33.alloc _=v34 at *;have zkb:Hid (ba9<v34.heap.size):=za (oH zkb.out);have zkc:Hid (bc9<v34.heap.size):=za (oH zkc.out);have hrl_a:Hid (∀ k,(Value.slice Aa9 nr ca9).ownBlock=some k->k<v34.heap.size):=za (fun k hk=>(zke.lt k hk).2);exact yH09b3
 ·go_simp;have hx33:=hx32.alloc (.cells #[(),()] 90);have zjZ:=(Ext.refl v32).alloc (.cells #[(),()] 90);have blk9:=Blk.new v32 90 #[(),()];refine hK.out _ _ hx33 ?_;refine pT ?_;have zke:=zh zke zjZ;have zkf:=zh zkf zjZ;have HG0:=za hx32.size;have hbs:v32.heap.size<(v32.alloc (.cells #[(),()] 90)).heap.size:=sM;generalize hbe:v32.heap.size=gbox9 at *;generalize v32.alloc _=v33 at *;have zkb:Hid (ba9<v33.heap.size):=za (oH zkb.out);have zkc:Hid (bc9<v33.heap.size):=za (oH zkc.out);exact yH09b1
 ):P:=h
theorem yH09a2 {P:Prop}(h:P:=by
 clear hbs zjZ hbe;refine zn (fun K hK=>?_) (fun K hK=>?_)
 ·skip;refine zx _ _ _ _ rfl w1.heap.size 9 _ 1 16 Tryz.underlying88 zt rfl dM (.slice (some ba9) 0 0) 0 [] rfl zke _ _ R nr cr (zO rows) rfl (HR1.out v32 hx32) (zu _) lM oM hx32.size ?_;intro v9 v33 owna8 hg hat;rw [Nat.zero_add,List.nil_append] at owna8;obtain⟨Aa9,ca9,rfl⟩:=zi owna8;have hx33:=hx32.grown hg (fun k hk=>(zke.lt k hk).1);have hsz:=hg.size;have hbs:Hid (v32.heap.size=v32.heap.size):=za rfl;have blk9:Blk v33 gbox9 90 #[.slice none 0 0,.slice none 0 0]:=(hg.block gbox9 (Blk.lt blk9) (fun e=>zr zke blk9 dM e.symm rfl)).trans blk9;generalize hbe:v32.heap.size=na9 at *;have hne_ba9_na9:Hid (ba9≠na9):=za (oH zkb.out);have zkb:Hid (ba9<v33.heap.size):=za (oH zkb.out);have hrl_a:Hid (∀ k,(Value.slice Aa9 nr ca9).ownBlock=some k->k<v33.heap.size):=za (fun k hk=>(owna8.lt k hk).2);clear hbs hsz hbe;refine hK.out _ _ hx33 ?_;refine pT ?_;have zke:=owna8;refine ze fun K hK=>?_;go_simp;have hx34:=hx33.alloc (.cells #[] 9);have zkf:=zq (World.ownsRow_lit v33 (e:=9) (size:=1) #[] 0 (Nat.le_refl _) lM rfl) hx33.size;have zjZ:=(Ext.refl v33).alloc (.cells #[] 9);refine hK.out _ _ hx34 ?_;refine pT ?_;have zke:=zh zke zjZ;have blk9:=Blk.ext blk9 zjZ;have hbs:v33.heap.size<(v33.alloc (.cells #[] 9)).heap.size:=sM;generalize hbe:v33.heap.size=bc9 at *;generalize v33.alloc _=v34 at *;have zkk:Hid (ba9≠bc9):=za (oH zkb.out);have hrn_a_bc9:Hid (∀ k,(Value.slice Aa9 nr ca9).ownBlock=some k->k≠bc9):=za (fun k hk=>by have:=hrl_a.out k hk;omega);have zkb:Hid (ba9<v34.heap.size):=za (oH zkb.out);have hrl_a:Hid (∀ k,(Value.slice Aa9 nr ca9).ownBlock=some k->k<v34.heap.size):=za (fun k hk=>(zke.lt k hk).2);have zkc:Hid (bc9<v34.heap.size):=za hbs;exact yH09b3
 ·go_simp;have hx33:=hx32.alloc (.cells #[] 9);have zkf:=zq (World.ownsRow_lit v32 (e:=9) (size:=1) #[] 0 (Nat.le_refl _) lM rfl) hx32.size;have zjZ:=(Ext.refl v32).alloc (.cells #[] 9);refine hK.out _ _ hx33 ?_;refine pT ?_;have zke:=zh zke zjZ;have blk9:=Blk.ext blk9 zjZ;have hbs:v32.heap.size<(v32.alloc (.cells #[] 9)).heap.size:=sM;generalize hbe:v32.heap.size=bc9 at *;generalize v32.alloc _=v33 at *;have zkk:Hid (ba9≠bc9):=za (oH zkb.out);have zkb:Hid (ba9<v33.heap.size):=za (oH zkb.out);have zkc:Hid (bc9<v33.heap.size):=za hbs;exact yH09b1
 ):P:=h
theorem yH09a3 {P:Prop}(h:P:=by
 clear hbs zjZ hbe;refine ze fun K hK=>?_;go_simp;have hx33:=hx32.alloc (.cells #[] 9);have zke:=zq (World.ownsRow_lit v32 (e:=9) (size:=1) #[] 0 (Nat.le_refl _) lM rfl) hx32.size;have zjZ:=(Ext.refl v32).alloc (.cells #[] 9);refine hK.out _ _ hx33 ?_;refine pT ?_;have zkf:=zh zkf zjZ;have blk9:=Blk.ext blk9 zjZ;have hbs:v32.heap.size<(v32.alloc (.cells #[] 9)).heap.size:=sM;generalize hbe:v32.heap.size=ba9 at *;generalize v32.alloc _=v33 at *;have zkk:Hid (ba9≠bc9):=za (oH zkc.out);have zkc:Hid (bc9<v33.heap.size):=za (oH zkc.out);have zkb:Hid (ba9<v33.heap.size):=za hbs;exact yH09b1
 ):P:=h
theorem yH09a4 {P:Prop}(h:P:=by
 exact yH09b3
 ):P:=h
theorem zeL (h:Tch w A n B m B' m' s p L)(hT:TabAt w R nr C nc rows cols)(hI:zcj L (zo s p L) rows cols)(hcr:nr<=cr)(hcc:nc<=cc) :
  Calls Tryz.prog 131 #[.agg #[.bool false,(0:Int),(),(),s.al,s.st,.slice A n c,p.al,.slice B m d,.slice B' m' d',L],.agg #[.slice R nr cr,.slice C nc cc]] w (zcT w ((zX L (zo s p L) cols (12 - rows.length) rows).map fun r=>(r,cols))):=by
 obtain⟨e1,e2⟩:=hT.nr;have aa:=hI.r12;have av:=hI.c20;rw [e1] at aa;rw [e2] at av;have HV:=za (fun W (hW:Ext w W)=>zcq (c:=c) (d:=d) (d':=d') (h.ext hW) (hT.ext hW) hI hcr hcc);have HO:=za (fun (R:Option Addr) (nr cr:Nat) (C:Option Addr) (nc cc:Nat) (rows:List ByteArray) W (hW:Ext w W) hT hI=>zgJ (c:=c) (d:=d) (d':=d') (nr:=nr) (nc:=nc) (R:=R) (C:=C) (cr:=cr) (cc:=cc) (rows:=rows) (cols:=cols) (h.ext hW) hT hI);obtain⟨lo,hi,bg,bc,h1,h2⟩:=hT;have HR:=za (fun W (hW:Ext w W)=>h1.ext hW);have HC:=za (fun W (hW:Ext w W)=>h2.ext hW);have HI:=za hI;have He:=za (And.intro e1 e2);obtain⟨t,zka⟩:∃ t,Hid (zX L (zo s p L) cols (12 - rows.length) rows=t):=⟨_,rfl⟩;rw [zka.out];clear h h1 h2 hI e1 e2
 go_enter Tryz.func131,Tryz.ntmps131
 go_upto_region 1 with fail
 generalize U0:((w.alloc _).alloc _).alloc _=w0 at *;obtain⟨hx0,b1,b2,b3⟩:=Ext.x3_ U0;clear U0;have CB:=b1.cells;have CT:=b2.cells;have ba:=b3.lt;have ay:=dB w0;go_upto_region 3 with (first
  |(go_at_call 211;refine (HV.out _ hx0).mono (mQ fun w1 l=>?_)))
 have u:=hx0.trans l;have be:=l.size;have HR1:=za (fun W (hW:Ext w1 W)=>HR.out W (u.trans hW));have HC1:=za (fun W (hW:Ext w1 W)=>HC.out W (u.trans hW));have aG:=fun W (hW:Ext w1 W)=>CT W (l.trans hW)
 go_cut [6] (fun v wx=>TabV w1 rows cols nr nc v wx)
 case first =>
  clear CB CT ay HV HO;have X0:Ext w1 w1.drew:=(dB w1).drew;refine uR (fun X=>Ext w1 X) [10] (zv.app [1,2,5,6] (zv.three 0 (zv.three 3 (zv.two 4 (zv.two 7 (zv.of [8,9,10]) 9 (zv.of [7,8,10])) 9 (zv.of [4,7,8,10])) 4 (zv.two 3 (zv.two 7 (zv.of [8,9,10]) 9 (zv.of [7,8,10])) 9 (zv.of [3,7,8,10])) 9 (zv.two 3 (zv.of [4,7,8,10]) 4 (zv.of [3,7,8,10]))) 4 (zv.two 0 (zv.two 3 (zv.two 7 (zv.of [8,9,10]) 9 (zv.of [7,8,10])) 9 (zv.of [3,7,8,10])) 9 (zv.of [0,3,7,8,10])) 9 (zv.two 0 (zv.two 3 (zv.of [4,7,8,10]) 4 (zv.of [3,7,8,10])) 4 (zv.of [0,3,7,8,10])))) ?_;generalize w1.drew=o at *;refine uQ ?_;refine zaT (fun K hK=>?_) (fun K hK=>?_) (fun K hK=>?_)
  ·go_simp;have f:=X0.alloc (.cells #[] 9);have zke:=zq (World.ownsRow_lit o (e:=9) (size:=1) #[] 0 (dD _) lM rfl) X0.size;have zjZ:=(dB o).alloc (.cells #[] 9);refine hK.out _ _ f ?_;refine pT ?_;have hbs:o.heap.size<(o.alloc (.cells #[] 9)).heap.size:=sM;generalize hbe:o.heap.size=ba9 at *;generalize o.alloc _=a at *;have zkb:Hid (ba9<a.heap.size):=za hbs;clear hbs zjZ hbe;refine zaT (fun K hK=>?_) (fun K hK=>?_) (fun K hK=>?_)
   ·skip;refine zx _ _ _ _ rfl w1.heap.size 9 _ 1 16 Tryz.underlying88 zt rfl dM (.slice (some ba9) 0 0) 0 [] rfl zke _ _ R nr cr (zO rows) rfl (HR1.out a f) (zu _) lM oM f.size ?_;intro v9 v32 owna8 hg hat;rw [eI,eY] at owna8;obtain⟨Aa9,ca9,rfl⟩:=zi owna8;have hx32:=f.grown hg (fun k hk=>(zke.lt k hk).1);have hsz:=hg.size;have hbs:Hid (a.heap.size=a.heap.size):=za rfl;generalize hbe:a.heap.size=na9 at *;have hne_ba9_na9:Hid (ba9≠na9):=za (oH zkb.out);have zkb:Hid (ba9<v32.heap.size):=za (oH zkb.out);have hrl_a:Hid (∀ k,(Value.slice Aa9 nr ca9).ownBlock=some k->k<v32.heap.size):=za (fun k hk=>(owna8.lt k hk).2);clear hbs hsz hbe;refine hK.out _ _ hx32 ?_;refine pT ?_;have zke:=owna8;refine zn (fun K hK=>?_) (fun K hK=>?_)
    ·go_simp;have hx33:=hx32.alloc (.cells #[] 9);have zkf:=zq (World.ownsRow_lit v32 (e:=9) (size:=1) #[] 0 (dD _) lM rfl) hx32.size;have zjZ:=(dB v32).alloc (.cells #[] 9);refine hK.out _ _ hx33 ?_;refine pT ?_;have zke:=zh zke zjZ;have hbs:v32.heap.size<(v32.alloc (.cells #[] 9)).heap.size:=sM;generalize hbe:v32.heap.size=bc9 at *;generalize v32.alloc _=v33 at *;have zkk:Hid (ba9≠bc9):=za (oH zkb.out);have hrn_a_bc9:Hid (∀ k,(Value.slice Aa9 nr ca9).ownBlock=some k->k≠bc9):=za (fun k hk=>by have:=hrl_a.out k hk;omega);have zkb:Hid (ba9<v33.heap.size):=za (oH zkb.out);have hrl_a:Hid (∀ k,(Value.slice Aa9 nr ca9).ownBlock=some k->k<v33.heap.size):=za (fun k hk=>(zke.lt k hk).2);have zkc:Hid (bc9<v33.heap.size):=za hbs;clear hbs zjZ hbe;refine zn (fun K hK=>?_) (fun K hK=>?_)
     ·exact yH09b2
     ·go_simp;have hx34:=hx33.alloc (.cells #[(),()] 90);have zjZ:=(dB v33).alloc (.cells #[(),()] 90);have blk9:=eM v33 90 #[(),()];refine hK.out _ _ hx34 ?_;refine pT ?_;have zke:=zh zke zjZ;have zkf:=zh zkf zjZ;have HG0:=za hx33.size;have hbs:v33.heap.size<(v33.alloc (.cells #[(),()] 90)).heap.size:=sM;generalize hbe:v33.heap.size=gbox9 at *;generalize v33.alloc _=v34 at *;have zkb:Hid (ba9<v34.heap.size):=za (oH zkb.out);have zkc:Hid (bc9<v34.heap.size):=za (oH zkc.out);have hrl_a:Hid (∀ k,(Value.slice Aa9 nr ca9).ownBlock=some k->k<v34.heap.size):=za (fun k hk=>(zke.lt k hk).2);exact yH09a4
    ·go_simp;have hx33:=hx32.alloc (.cells #[(),()] 90);have zjZ:=(dB v32).alloc (.cells #[(),()] 90);have blk9:=eM v32 90 #[(),()];refine hK.out _ _ hx33 ?_;refine pT ?_;have zke:=zh zke zjZ;have HG0:=za hx32.size;have hbs:v32.heap.size<(v32.alloc (.cells #[(),()] 90)).heap.size:=sM;generalize hbe:v32.heap.size=gbox9 at *;generalize v32.alloc _=v33 at *;have zkb:Hid (ba9<v33.heap.size):=za (oH zkb.out);have hrl_a:Hid (∀ k,(Value.slice Aa9 nr ca9).ownBlock=some k->k<v33.heap.size):=za (fun k hk=>(zke.lt k hk).2);clear hbs zjZ hbe;refine ze fun K hK=>?_;go_simp;have hx34:=hx33.alloc (.cells #[] 9);have zkf:=zq (World.ownsRow_lit v33 (e:=9) (size:=1) #[] 0 (dD _) lM rfl) hx33.size;have zjZ:=(dB v33).alloc (.cells #[] 9);refine hK.out _ _ hx34 ?_;refine pT ?_;have zke:=zh zke zjZ;have blk9:=Blk.ext blk9 zjZ;have hbs:v33.heap.size<(v33.alloc (.cells #[] 9)).heap.size:=sM;generalize hbe:v33.heap.size=bc9 at *;generalize v33.alloc _=v34 at *;have zkk:Hid (ba9≠bc9):=za (oH zkb.out);have hrn_a_bc9:Hid (∀ k,(Value.slice Aa9 nr ca9).ownBlock=some k->k≠bc9):=za (fun k hk=>by have:=hrl_a.out k hk;omega);have zkb:Hid (ba9<v34.heap.size):=za (oH zkb.out);have hrl_a:Hid (∀ k,(Value.slice Aa9 nr ca9).ownBlock=some k->k<v34.heap.size):=za (fun k hk=>(zke.lt k hk).2);have zkc:Hid (bc9<v34.heap.size):=za hbs;exact yH09a4
   ·go_simp;have hx32:=f.alloc (.cells #[] 9);have zkf:=zq (World.ownsRow_lit a (e:=9) (size:=1) #[] 0 (dD _) lM rfl) f.size;have zjZ:=(dB a).alloc (.cells #[] 9);refine hK.out _ _ hx32 ?_;refine pT ?_;have zke:=zh zke zjZ;have hbs:a.heap.size<(a.alloc (.cells #[] 9)).heap.size:=sM;generalize hbe:a.heap.size=bc9 at *;generalize a.alloc _=v32 at *;have zkk:Hid (ba9≠bc9):=za (oH zkb.out);have zkb:Hid (ba9<v32.heap.size):=za (oH zkb.out);have zkc:Hid (bc9<v32.heap.size):=za hbs;exact yH09a1
   ·go_simp;have hx32:=f.alloc (.cells #[(),()] 90);have zjZ:=(dB a).alloc (.cells #[(),()] 90);have blk9:=eM a 90 #[(),()];refine hK.out _ _ hx32 ?_;refine pT ?_;have zke:=zh zke zjZ;have HG0:=za f.size;have hbs:a.heap.size<(a.alloc (.cells #[(),()] 90)).heap.size:=sM;generalize hbe:a.heap.size=gbox9 at *;generalize a.alloc _=v32 at *;have zkb:Hid (ba9<v32.heap.size):=za (oH zkb.out);exact yH09a2
  ·go_simp;have f:=X0.alloc (.cells #[] 9);have zkf:=zq (World.ownsRow_lit o (e:=9) (size:=1) #[] 0 (dD _) lM rfl) X0.size;have zjZ:=(dB o).alloc (.cells #[] 9);refine hK.out _ _ f ?_;refine pT ?_;have hbs:o.heap.size<(o.alloc (.cells #[] 9)).heap.size:=sM;generalize hbe:o.heap.size=bc9 at *;generalize o.alloc _=a at *;have zkc:Hid (bc9<a.heap.size):=za hbs;clear hbs zjZ hbe;refine zn (fun K hK=>?_) (fun K hK=>?_)
   ·go_simp;have hx32:=f.alloc (.cells #[] 9);have zke:=zq (World.ownsRow_lit a (e:=9) (size:=1) #[] 0 (dD _) lM rfl) f.size;have zjZ:=(dB a).alloc (.cells #[] 9);refine hK.out _ _ hx32 ?_;refine pT ?_;have zkf:=zh zkf zjZ;have hbs:a.heap.size<(a.alloc (.cells #[] 9)).heap.size:=sM;generalize hbe:a.heap.size=ba9 at *;generalize a.alloc _=v32 at *;have zkk:Hid (ba9≠bc9):=za (oH zkc.out);have zkc:Hid (bc9<v32.heap.size):=za (oH zkc.out);have zkb:Hid (ba9<v32.heap.size):=za hbs;exact yH09a1
   ·go_simp;have hx32:=f.alloc (.cells #[(),()] 90);have zjZ:=(dB a).alloc (.cells #[(),()] 90);have blk9:=eM a 90 #[(),()];refine hK.out _ _ hx32 ?_;refine pT ?_;have zkf:=zh zkf zjZ;have HG0:=za f.size;have hbs:a.heap.size<(a.alloc (.cells #[(),()] 90)).heap.size:=sM;generalize hbe:a.heap.size=gbox9 at *;generalize a.alloc _=v32 at *;have zkc:Hid (bc9<v32.heap.size):=za (oH zkc.out);exact yH09a3
  ·go_simp;have f:=X0.alloc (.cells #[(),()] 90);have zjZ:=(dB o).alloc (.cells #[(),()] 90);have blk9:=eM o 90 #[(),()];refine hK.out _ _ f ?_;refine pT ?_;have HG0:=za X0.size;have hbs:o.heap.size<(o.alloc (.cells #[(),()] 90)).heap.size:=sM;generalize hbe:o.heap.size=gbox9 at *;generalize o.alloc _=a at *;clear hbs zjZ hbe;refine zn (fun K hK=>?_) (fun K hK=>?_)
   ·go_simp;have hx32:=f.alloc (.cells #[] 9);have zke:=zq (World.ownsRow_lit a (e:=9) (size:=1) #[] 0 (dD _) lM rfl) f.size;have zjZ:=(dB a).alloc (.cells #[] 9);refine hK.out _ _ hx32 ?_;refine pT ?_;have blk9:=Blk.ext blk9 zjZ;have hbs:a.heap.size<(a.alloc (.cells #[] 9)).heap.size:=sM;generalize hbe:a.heap.size=ba9 at *;generalize a.alloc _=v32 at *;have zkb:Hid (ba9<v32.heap.size):=za hbs;exact yH09a2
   ·go_simp;have hx32:=f.alloc (.cells #[] 9);have zkf:=zq (World.ownsRow_lit a (e:=9) (size:=1) #[] 0 (dD _) lM rfl) f.size;have zjZ:=(dB a).alloc (.cells #[] 9);refine hK.out _ _ hx32 ?_;refine pT ?_;have blk9:=Blk.ext blk9 zjZ;have hbs:a.heap.size<(a.alloc (.cells #[] 9)).heap.size:=sM;generalize hbe:a.heap.size=bc9 at *;generalize a.alloc _=v32 at *;have zkc:Hid (bc9<v32.heap.size):=za hbs;exact yH09a3
 case rest =>
  obtain⟨G,R1,F,y,g,rfl,aR,E,Y,V,am,hdis⟩:=hcut;obtain⟨wE,T⟩:∃ wE,wE=wc:=⟨_,rfl⟩;subst T;have aS:=za (And.intro He.out.1 HI.out);have aT:=u.trans am;have aI:=za (show TabAt wE R1 nr y nc rows cols from ⟨_,_,_,_,eO Y,eO V⟩);have k6:=fun W (hW:Ext wE W)=>(E.ext hW).cell;have T:=dB wE;have az:=l.trans am;have aE:=fun W (hW:Ext wE W)=>CB W (az.trans hW);go_wp2_with (first
   |(go_at_call 212;refine (HO.out _ _ _ _ _ _ rows _ aT aI.out HI.out).mono (mQ fun w3 M=>?_)))
  have ab:=am.trans M;have au:=E.ext M;have aC:=zh Y M;have aA:=zh V M;clear k6 Y V E aE CT aG T ay
  go_loopw [7,8] (fun v7 v8 wr=>∃ (q:List ByteArray) (k:Nat) (R1:Option Addr) (F:Nat),v7=.string ((zaR L (zo s p L) q cols).getD ⟨#[]⟩)∧v8=.bool (zaR L (zo s p L) q cols).isSome∧Hid (q.length=k∧zcj L (zo s p L) q cols)∧Hid (zX L (zo s p L) cols (12 - k) q=t)∧k<=12∧Blk wr G 90 #[.slice R1 k F,.slice y nc g]∧wr.ownsRow w1.heap.size 9 1 (.slice R1 k F) k (zO q)∧wr.ownsRow w1.heap.size 9 1 (.slice y nc g) nc (zO cols)∧Hid (∀ j,(Value.slice R1 k F).ownBlock=some j->(Value.slice y nc g).ownBlock≠some j)∧Ext w1 wr) (fun _ _ wr=>13 - lenAt0 wr G)
  case atStart=>exact⟨rows,nr,R1,F,rfl,rfl,aS,za (by rw [← He.out.1];exact zka.out),aa,au,aC,aA,hdis,ab⟩
  case round =>
   clear au aC aA hdis ab M;obtain⟨q,k,Q,i,rfl,rfl,ai,ae,a2,E,Y,V,hdis,U⟩:=hrel;obtain⟨op,I⟩:∃ op,Hid (zaR L (zo s p L) q cols=op):=⟨_,rfl⟩;rw [I.out];have k6:=E.cell;have f6:=E.frozen;have ax:=za (zeW E);have z:=b3.ext (l.trans U);have kz:=z.cell;have fz:=z.frozen;cases op with
   |none =>
    have ah:=za (show t=some q by rw [← ae.out,zcv _ I.out]);have hf:Frm (fun k=>k=w.heap.size+1+1) wr ((wr.setCell ⟨w.heap.size+1+1,0,none⟩ (.slice Q k i)).setCell ⟨w.heap.size+1+1,1,none⟩ (.slice y nc g)):=(dF wr _ 0 _).trans (dF _ _ 1 _);have cf:=(show Blk ((wr.setCell ⟨w.heap.size+1+1,0,none⟩ (.slice Q k i)).setCell ⟨w.heap.size+1+1,1,none⟩ (.slice y nc g)) (w.heap.size+1+1) 90 #[.slice Q k i,.slice y nc g] by simpa using (z.ab 0 (.slice Q k i)).ab 1 (.slice y nc g)).cell;have J:=za (show zcT w (t.map fun r=>(r,cols)) (.returned (.tuple #[.agg #[.slice Q k i,.slice y nc g],.bool true])) ((wr.setCell ⟨w.heap.size+1+1,0,none⟩ (.slice Q k i)).setCell ⟨w.heap.size+1+1,1,none⟩ (.slice y nc g)) from
     ⟨((u.trans U).setCell (p:=⟨w.heap.size+1+1,0,none⟩) (by dsimp only;omega) _).setCell (p:=⟨w.heap.size+1+1,1,none⟩) (by dsimp only;omega) _,.inr ⟨q,cols,k,nc,Q,i,y,g,by rw [ah.out];rfl,rfl,zg (zq Y u.size) hf (fun b hv e=>zr Y z dM hv e),zg (zq V u.size) hf (fun b hv e=>zr V z dM hv e)⟩⟩)
    clear hf;go_wp2_with fail
    exact bodyPost_ret (v:=.tuple #[.agg #[.slice Q k i,.slice y nc g],.bool true]) (by simp [results,Tryz.results131,go_sem,cf]) rfl J.out
   |some x =>
    by_cases h12:k=12
    ·have ah:=za (show t=none by rw [← ae.out,h12];exact zed I.out);have bb:((k:Int)==12)=true:=by rw [h12];rfl
     clear h12;have cf:=(show Blk ((wr.setCell ⟨w.heap.size+1+1,0,none⟩ ()).setCell ⟨w.heap.size+1+1,1,none⟩ ()) (w.heap.size+1+1) 90 #[(),()] by simpa using (z.ab 0 (.slice none 0 0)).ab 1 (.slice none 0 0)).cell;have J:=za (show zcT w (t.map fun r=>(r,cols)) (.returned (.tuple #[.agg #[(),()],.bool false])) ((wr.setCell ⟨w.heap.size+1+1,0,none⟩ ()).setCell ⟨w.heap.size+1+1,1,none⟩ ()) from
      ⟨((u.trans U).setCell (p:=⟨w.heap.size+1+1,0,none⟩) (by dsimp only;omega) _).setCell (p:=⟨w.heap.size+1+1,1,none⟩) (by dsimp only;omega) _,.inl ⟨by rw [ah.out];rfl,rfl⟩⟩)
     go_wp2_with fail
     exact bodyPost_ret (v:=.tuple #[.agg #[(),()],.bool false]) (by simp [results,Tryz.results131,go_sem,cf]) rfl J.out
    ·have bd:((k:Int)==12)=false:=by simp;omega
     have H:=za (show zcj L (zo s p L) (q++[x]) cols from ai.out.2.grow (by rw [ai.out.1];omega) I.out);have aw:=za (show zX L (zo s p L) cols (12 - (k+1)) (q++[x])=t by
      rw [← ae.out,show 12 - k=(12 - (k+1))+1 by omega,zdg _ I.out])
     go_upto_region 9 with (at_builtin;refine zU w1 wr rfl _ _ _ rfl 9 _ 1 16 Tryz.underlying88 zt rfl dM (.slice Q k i) k (zO q) _ _ rfl rfl U Y rfl (zcK _) lM oM ?_;intro v5 w5 hx5 zkj hg5 hat5;obtain⟨S,Z,rfl⟩:=zi zkj;have D:Blk w5 G 90 #[.slice Q k i,.slice y nc g]:=(hg5.block G (Blk.lt E) (fun e=>zr Y E dM e.symm rfl)).trans E;have aV:=Blk.cell D;have aO:=Blk.frozen D)
     have an:=zg V (Frm.ae hg5) (fun b hv e=>hdis.out b e hv);have af:=za (show ∀ j,(Value.slice S (k+1) Z).ownBlock=some j->(Value.slice y nc g).ownBlock≠some j from fun j hj hc=>by
      rcases hat5 with h1|h1
      ·rw [h1] at hj;exact hdis.out j hj hc
      ·rw [h1] at hj;have:=Option.some.inj hj;have:=(V.lt j hc).2;omega)
     have ag:Frm (fun k=>k=G) w5 (w5.setCell G (.slice S (k+1) Z)):=dF w5 G 0 _;have aB:=zg an ag (fun b hv e=>zr an D dM hv e);have ao:=zg zkj ag (fun b hv e=>zr zkj D dM hv e);have ad:Blk (w5.setCell G (.slice S (k+1) Z)) G 90 #[.slice S (k+1) Z,.slice y nc g]:=by simpa using D.ab 0 (.slice S (k+1) Z)
     have ak:=hx5.setCell (p:=⟨G,0,none⟩) aR (.slice S (k+1) Z);rw [show zO q++#[Value.string x].toList=zO (q++[x]) by rw [strs_snoc]] at ao;clear k6 f6 kz fz z E Y V ag aV aO D an zkj hx5 hg5 hat5 hdis;generalize w5.setCell G (.slice S (k+1) Z)=w6 at *;have a3:=fun W (hW:Ext w6 W)=>CB W (l.trans (ak.trans hW));have a4:=ad.cells;have aJ:=za (show TabAt w6 S (k+1) y nc (q++[x]) cols from ⟨_,_,_,_,eO ao,eO aB⟩);have T:=dB w6;go_wp2_with (first
      |(go_at_call 212;refine (HO.out _ _ _ _ _ _ (q++[x]) _ (u.trans ak) aJ.out H.out).mono (mQ fun w7 O=>?_)))
     have aj:=za (zeW (ad.ext O));go_roundw
     case rel=>exact⟨q++[x],k+1,S,Z,rfl,rfl,za ⟨by rw [List.length_append,ai.out.1];rfl,H.out⟩,aw,oM,ad.ext O,zh ao O,zh aB O,af,ak.trans O⟩
     case measure=>have h1:=ax.out;have h2:=aj.out;omega
end
theorem zcj.first (L:Nat) (f:ByteArray->Bool):zcj L f [⟨#[]⟩] [⟨#[]⟩]:=
 ⟨dD _,dM,dD _,dM,rfl,rfl,(fun i x hi hx=>by rw [eK (by simpa using hi)] at hx;cases hx),(fun i x hi hx=>by rw [eK (by simpa using hi)] at hx;cases hx),sM⟩
noncomputable def ziJ (zs:List ByteArray) (z:ByteArray):Nat:=zs.findIdx fun y=>zcZ [y] z
theorem zjs (h:z∈zs):ziJ zs z<zs.length:=List.findIdx_lt_length_of_exists ⟨z,h,zaA.2 sM⟩
theorem idxS_at (h:z∈zs):zs[ziJ zs z]?=some z:=by
 have h1:=zjs h;have b:=List.findIdx_getElem (xs:=zs) (p:=fun y=>zcZ [y] z) (w:=h1);have a:=zaA.1 b;rw [fC] at a;rw [dE h1];exact congrArg some a.symm
theorem idxS_first {j:Nat} (hj:j<ziJ zs z)(hy:zs[j]?=some y):y≠z:=by
 have h1:=List.not_of_lt_findIdx hj;have a:zs[j]'(by have:=List.findIdx_le_length (p:=fun y=>zcZ [y] z) (xs:=zs);unfold ziJ at hj;omega)=y:=(List.getElem?_eq_some_iff.1 hy).2;rw [a] at h1;intro e;rw [zcA] at h1;exact h1 (by rw [e];simp)
theorem zjG (h:Reads w lo hi 1 A n (zO zs))(hz:z∈zs) :
  Calls Tryz.prog 136 #[.slice A n c,z] w fun e w'=>e=.returned (.int .i64 (ziJ zs z:Nat))∧w=w':=by
 have s:=h.len;have g:zs.length=n:=by have:=h.length;rw [zaV] at this;omega
 obtain⟨I,b⟩:∃ I,Hid (ziJ zs z=I):=⟨_,rfl⟩;have o:I<n:=by rw [← b.out,← g];exact zjs hz
 have hat:=za (b.out ▸ idxS_at hz);have a:=za (fun (j:Nat) (y:ByteArray) (hj:j<I)=>idxS_first (zs:=zs) (z:=z) (j:=j) (y:=y) (by rw [b.out];exact hj));rw [b.out];clear g hz
 go_enter Tryz.func136,Tryz.ntmps136
 go_wp2_with fail
 go_loop [5] (fun iv=>∃ i:Nat,iv=.int .i64 i∧i<=I) (fun iv=>n - (intOf iv).toNat)
 case atStart=>exact⟨0,rfl,dG _⟩
 case round =>
  obtain⟨i,rfl,hi⟩:=hrel;have d:i<n:=oM;have k:(i:Int)<(n:Int):=oM;obtain⟨q,y,rfl,_,_,l,r⟩:=h.str d
  by_cases he:i=I
  ·have f:y=z:=Option.some.inj (l.out.symm.trans (he ▸ hat.out));subst f;have m:=za he;clear he;go_wp2_with fail
   go_ret;exact⟨zH (by rw [m.out]),rfl⟩
  ·have p:=str_ne (a.out i y oM l.out);go_wp2_with fail
   go_round
   case rel=>exact⟨i+1,gM,oM⟩
   case measure=>simp [intOf];omega
section
variable {w W:World} {n c m d m' d' L:Nat} {A B B':Option Addr} {s:Sys} {p:Aut}
theorem zgf (h:Tch w A n B m B' m' s p L) :
  Calls Tryz.prog 57 #[.agg #[.bool false,(0:Int),(),(),s.al,s.st,.slice A n c,p.al,.slice B m d,.slice B' m' d',L]] w (zcT w ((zX L (zo s p L) [⟨#[]⟩] 11 [⟨#[]⟩]).map fun r=>(r,[⟨#[]⟩]))):=by
 have y:=za (fun (R C:Option Addr) W (hW:Ext w W) (q:TabAt W R 1 C 1 [⟨#[]⟩] [⟨#[]⟩])=>zeL (c:=c) (d:=d) (d':=d') (cr:=1) (cc:=1) (h.ext hW) q (zcj.first L _) (dD _) (dD _))
 rw [show 12 - ([⟨#[]⟩]:List ByteArray).length=11 from rfl] at y;generalize (zX L (zo s p L) [⟨#[]⟩] 11 [⟨#[]⟩]).map (fun r=>(r,[(⟨#[]⟩:ByteArray)]))=o at *;clear h
 go_enter Tryz.func57,Tryz.ntmps57
 go_upto_region 1 with fail
 generalize U0:(w.alloc _).alloc _=i at *;obtain⟨hx0,H,I⟩:=gY U0;have hsz:w.heap.size+1+1=i.heap.size:=by rw [← U0];simp
 clear U0;have G:=za hsz;clear hsz;have E:=H.cell;have f:Ext i ((i.alloc (.cells #[.string ⟨#[]⟩] 9)).alloc (.cells #[.string ⟨#[]⟩] 9)):=((dB _).alloc _).alloc _;have q:TabAt ((i.alloc (.cells #[.string ⟨#[]⟩] 9)).alloc (.cells #[.string ⟨#[]⟩] 9)) (some ⟨i.heap.size,0,none⟩) 1 (some ⟨i.heap.size+1,0,none⟩) 1 [⟨#[]⟩] [⟨#[]⟩]:=by
  obtain⟨Q,S⟩:=zJ (dB ((i.alloc (.cells #[.string ⟨#[]⟩] 9)).alloc (.cells #[.string ⟨#[]⟩] 9)));refine⟨_,_,_,_,eO (base:=i.heap.size) (e:=9) (c:=1) ⟨rfl,.inr ⟨i.heap.size,1,_,rfl,dD _,Q,by unfold maxLen;simp [zO]⟩⟩,eO (base:=i.heap.size+1) (e:=9) (c:=1) ⟨rfl,.inr ⟨i.heap.size+1,1,_,rfl,dD _,S,by unfold maxLen;simp [zO]⟩⟩⟩
 have F:=za q;have l:=I.ext f;clear q;go_wp2_with fail
 refine (y.out _ _ _ (hx0.trans f) F.out).mono ?_;rintro e w2 ⟨j,⟨u,rfl⟩|⟨T,J,nr,nc,R,cr,C,cc,u,rfl,D,z⟩⟩
 ·have a:=l.ext j;have O:=a.cell;have M:=a.frozen;have t:=(show Blk ((w2.setCell ⟨w.heap.size+1,0,none⟩ ()).setCell ⟨w.heap.size+1,1,none⟩ ()) (w.heap.size+1) 90 #[(),()] by simpa using (a.ab 0 (.slice none 0 0)).ab 1 (.slice none 0 0)).cell;have g:=za (show zcT w o (.returned (.tuple #[.agg #[(),()],.bool false])) ((w2.setCell ⟨w.heap.size+1,0,none⟩ ()).setCell ⟨w.heap.size+1,1,none⟩ ()) from
   ⟨(((hx0.trans f).trans j).setCell (p:=⟨w.heap.size+1,0,none⟩) (Nat.le_succ _) _).setCell (p:=⟨w.heap.size+1,1,none⟩) (Nat.le_succ _) _,.inl ⟨u,rfl⟩⟩)
  clear E;go_wp2_with fail
  exact bodyPost_ret (v:=.tuple #[.agg #[(),()],.bool false]) (by simp [results,Tryz.results57,go_sem,t]) rfl g.out
 ·have a:=l.ext j;have O:=a.cell;have M:=a.frozen;have x:Frm (fun k=>k=w.heap.size+1) w2 ((w2.setCell ⟨w.heap.size+1,0,none⟩ (.slice R nr cr)).setCell ⟨w.heap.size+1,1,none⟩ (.slice C nc cc)):=(dF w2 _ 0 _).trans (dF _ _ 1 _);have t:=(show Blk ((w2.setCell ⟨w.heap.size+1,0,none⟩ (.slice R nr cr)).setCell ⟨w.heap.size+1,1,none⟩ (.slice C nc cc)) (w.heap.size+1) 90 #[.slice R nr cr,.slice C nc cc] by simpa using (a.ab 0 (.slice R nr cr)).ab 1 (.slice C nc cc)).cell;have g:=za (show zcT w o (.returned (.tuple #[.agg #[.slice R nr cr,.slice C nc cc],.bool true])) ((w2.setCell ⟨w.heap.size+1,0,none⟩ (.slice R nr cr)).setCell ⟨w.heap.size+1,1,none⟩ (.slice C nc cc)) from
   ⟨(((hx0.trans f).trans j).setCell (p:=⟨w.heap.size+1,0,none⟩) (Nat.le_succ _) _).setCell (p:=⟨w.heap.size+1,1,none⟩) (Nat.le_succ _) _,.inr ⟨T,J,nr,nc,R,cr,C,cc,u,rfl,zg (zq D (hx0.trans f).size) x (fun b hv e=>zr D a dM hv e),zg (zq z (hx0.trans f).size) x (fun b hv e=>zr z a dM hv e)⟩⟩)
  clear E x;go_wp2_with fail
  exact bodyPost_ret (v:=.tuple #[.agg #[.slice R nr cr,.slice C nc cc],.bool true]) (by simp [results,Tryz.results57,go_sem,t]) rfl g.out
end
theorem yH09a5 {P:Prop}(h:P:=by
 intro vA w4 hownA hgA hatA;rw [Nat.zero_add,List.nil_append] at hownA;obtain⟨BA,dA,rfl⟩:=zi hownA;have hxA:Ext w2 w4:=hx0.grown hgA (fun k hk=>(hm.lt k hk).1);have hb:Blk w4 G 27 #[.int .i64 0,.slice none 0 0,.slice none 0 0]:=(hgA.block G hb.lt (fun e=>zr hm hb dM e.symm rfl)).trans hb;replace hx0:=hxA;refine hK.out _ _ hx0 ?_;refine pT ?_;refine uQ ?_;have cG:=hb.cell;have fG:=hb.frozen;refine zb fun K hK=>?_;go_simp;refine hK.out _ _ ?_;refine zf ?_;have zka:Gra w2 (((w4.setCell G a.al).setCell ⟨G,1,none⟩ ()).setCell ⟨G,2,none⟩ (.slice BA n' dA)) G a.al (.slice none 0 0) [] (.slice BA n' dA) a.acc:=⟨zag hb rfl _ _ _,⟨[],World.ownsRow_nil _ _ _ _,zB.nil _ _⟩,by
  rw [← hL'.out];exact zg hownA (zZ w4 G _ _ _) (fun b hv hS=>zr hownA hb dM hv hS),hx0.frm (zZ w4 G _ _ _) (fun k hk e=>oM),hG⟩
 go_wp2_with fail
 go_meet;exact⟨G,_,rfl,zka⟩
 ):P:=h
theorem zfB (h:zD w lo hi A n A' n' a)(hs:a.size<=1048576) :
  Calls Tryz.prog 165 #[.agg #[a.al,.slice A n c,.slice A' n' c']] w (RetAut w a):=by
 have h1:n<=1048576:=by have:=h.n1;unfold Aut.size at hs;omega
 have h2:n'<=1048576:=by have:=h.n2;unfold Aut.size at hs;omega
 have g:∀ (k:Nat) (l:List Int),a.next[k]?=some l->l.length<=1048576:=fun k l L=>by
  have h1:=zgk L;have h2:=zhZ a.next (k+1);unfold Aut.size at hs;omega
 have D:=za g;have F:=za h.n1;have hL':=za h.n2;have HS:=za (fun W (hW:Ext w W)=>h.1.ext hW);have Q:=za (fun W (hW:Ext w W)=>h.2.2.ext hW);have aa:=h.1.len;clear g h hs
 go_enter Tryz.func165,Tryz.ntmps165
 go_upto_region 1 with fail
 generalize U0:(w.alloc _).alloc _=w2 at *;obtain⟨o,E,bz⟩:=gY U0;have ae:w.heap.size+2=w2.heap.size:=by rw [← U0];simp
 clear U0
 go_cut [3] (fun v wx=>∃ (G:Nat) (vA:Value),v=.pointer (some G)∧Gra w2 wx G a.al (.slice none 0 0) [] vA a.acc)
 case first =>
  have c1:=fun W (hW:Ext w2 W)=>(E.ext hW).cell;have C:=dB w2;refine uR (fun X=>Ext w2 X) [8] (zv.app [0,1,3,4] (zv.two 2 (zv.two 5 (zv.of [6,7,8]) 7 (zv.of [5,6,8])) 7 (zv.of [2,5,6,8]))) ?_;refine uQ ?_;have hx0:Ext w2 w2.drew:=C.drew;generalize w2.drew=m at *;refine zn (fun K hK=>?_) (fun K hK=>?_)
  ·go_simp;have hm:=World.ownsRow_made (base:=w2.heap.size) (e:=4) (size:=1) m #[] 0 hx0.size (dG _) rfl;have f:=(dB m).alloc (.cells #[] 4);replace hx0:=hx0.trans f;refine hK.out _ _ hx0 ?_;generalize m.alloc _=t at *;generalize m.heap.size=M at *;refine pT ?_;refine uQ ?_;clear hK;refine zn (fun K hK=>?_) (fun K hK=>?_)
   ·skip;refine zx t _ _ 25 rfl w2.heap.size 4 _ 1 1 Tryz.underlying25 zbk rfl dM (.slice (some M) 0 0) 0 [] rfl hm _ _ A' n' c' (zap a.acc) rfl (Q.out _ (o.trans hx0)) (zfI _) lM oM hx0.size ?_;intro vA w4 hownA hgA hatA;rw [eI,eY] at hownA;obtain⟨BA,dA,rfl⟩:=zi hownA;have hxA:Ext w2 w4:=hx0.grown hgA (fun k hk=>(hm.lt k hk).1);replace hx0:=hxA;refine hK.out _ _ hx0 ?_;refine pT ?_;refine uQ ?_;refine ze fun K hK=>?_;go_simp;have f:=(dB w4).alloc (.cells #[(0:Int),(),()] 27);have hG:=hx0.size;replace hownA:=zh hownA f;replace hx0:=hx0.trans f;refine hK.out _ _ hx0 ?_;generalize U0:w4.alloc _=p at *;have hb:=Ext.bl_ U0;clear U0;generalize w4.heap.size=G at *;refine pT ?_;refine uQ ?_;have cG:=hb.cell;have fG:=hb.frozen;refine zb fun K hK=>?_;go_simp;refine hK.out _ _ ?_;refine zf ?_;have zka:Gra w2 (((p.setCell G a.al).setCell ⟨G,1,none⟩ ()).setCell ⟨G,2,none⟩ (.slice BA n' dA)) G a.al (.slice none 0 0) [] (.slice BA n' dA) a.acc:=⟨zag hb rfl _ _ _,⟨[],World.ownsRow_nil _ _ _ _,zB.nil _ _⟩,by
     rw [← hL'.out];exact zg hownA (zZ p G _ _ _) (fun b hv hS=>zr hownA hb dM hv hS),hx0.frm (zZ p G _ _ _) (fun k hk e=>oM),hG⟩
    go_wp2_with fail
    go_meet;exact⟨G,_,rfl,zka⟩
   ·go_simp;have f:=(dB t).alloc (.cells #[(0:Int),(),()] 27);have hG:=hx0.size;replace hm:=zh hm f;replace hx0:=hx0.trans f;refine hK.out _ _ hx0 ?_;generalize U0:t.alloc _=p at *;have hb:=Ext.bl_ U0;clear U0;generalize t.heap.size=G at *;refine pT ?_;refine uQ ?_;refine ze (fun K hK=>?_);refine zx p _ _ 25 rfl w2.heap.size 4 _ 1 1 Tryz.underlying25 zbk rfl dM (.slice (some M) 0 0) 0 [] rfl hm _ _ A' n' c' (zap a.acc) rfl (Q.out _ (o.trans hx0)) (zfI _) lM oM hx0.size ?_;exact yH09a5
  ·go_simp;have f:=(dB m).alloc (.cells #[(0:Int),(),()] 27);have hG:=hx0.size;replace hx0:=hx0.trans f;refine hK.out _ _ hx0 ?_;generalize U0:m.alloc _=p at *;have hb:=Ext.bl_ U0;clear U0;generalize m.heap.size=G at *;refine pT ?_;refine uQ ?_;refine ze fun K hK=>?_;go_simp;have hm:=World.ownsRow_made (base:=w2.heap.size) (e:=4) (size:=1) p #[] 0 hx0.size (dG _) rfl;have f:=(dB p).alloc (.cells #[] 4);replace hb:=hb.ext f;replace hx0:=hx0.trans f;refine hK.out _ _ hx0 ?_;generalize p.alloc _=t at *;generalize p.heap.size=M at *;refine pT ?_;refine uQ ?_;refine ze (fun K hK=>?_);refine zx t _ _ 25 rfl w2.heap.size 4 _ 1 1 Tryz.underlying25 zbk rfl dM (.slice (some M) 0 0) 0 [] rfl hm _ _ A' n' c' (zap a.acc) rfl (Q.out _ (o.trans hx0)) (zfI _) lM oM hx0.size ?_;exact yH09a5
 case rest =>
  obtain⟨G,vA,rfl,d⟩:=hcut;have O:=(E.ext d.ext).cell;go_wp2_with fail
  go_loopw [4] (fun i wr=>∃ (k:Nat) (v:Value),k<=n∧i=.int .i64 k∧Gra w2 wr G a.al v (a.next.take k) vA a.acc) (fun i _=>n - (intOf i).toNat)
  case atStart=>exact⟨0,_,dG _,rfl,by simpa using d⟩
  case round =>
   clear d O;obtain⟨k,v,hk,rfl,d⟩:=hrel
   by_cases hlt:k<n
   ·obtain⟨Y,V,Z,l,rfl,_,_,L,H,I⟩:=(HS.out wr (o.trans d.ext)).row hlt;have am:=D.out k l L.out;have S:=za (show a.next.take (k+1)=a.next.take k++[l] by rw [eA,L.out];rfl);have J:=za (show (a.next.take k).length=k by rw [e8];have:=F.out;omega);obtain⟨rows,hv,B⟩:=d.own;have O:=(E.ext d.ext).cell;go_upto_region 5 with fail
    clear O;have cG:=fun W (hW:Ext wr W)=>(d.blk.ext hW).cell;have C:=dB wr;have R:=za (fun W (hW:Ext wr W)=>I.ext hW);have C1:∀ W,Ext wr W->∀ q,W.cell? ⟨w.heap.size,q,none⟩=#[Value.int .i64 a.al,.slice (some Y) n c,.slice A' n' c'][q]?:=fun W hW=>((E.ext d.ext).ext hW).cell;have Cr:∀ W,Ext wr W->W.cell? (Y.add k)=some (.slice V l.length Z):=fun W hW=>hW.aa H;have ak:(k:Int)<(n:Int):=oM;clear H I;refine uR (fun X=>Ext wr X) [10,12] (zv.of [0,1,3,4,5,6,7,2,8,9,10,11,12]) ?_;refine uQ ?_;have hx0:Ext wr wr.drew:=C.drew;generalize wr.drew=m at *;refine ze fun K hK=>?_;go_simp;have hm:=World.ownsRow_made (base:=wr.heap.size) (e:=3) (size:=1) m #[] 0 hx0.size (dG _) rfl;have f:=(dB m).alloc (.cells #[] 3);replace hx0:=hx0.trans f;refine hK.out _ _ hx0 ?_;generalize m.alloc _=t at *;generalize m.heap.size=M at *;refine pT ?_;refine uQ ?_;refine ze (fun K hK=>?_);refine zx t _ _ 110 rfl wr.heap.size 3 _ 1 8 Tryz.underlying110 zal rfl dM (.slice (some M) 0 0) 0 [] rfl hm _ _ V l.length Z (ints l) rfl (R.out _ hx0) (zjw _) lM oM hx0.size ?_;intro vR w3 g hgR hatR;rw [eI,eY] at g;obtain⟨BR,dR,rfl⟩:=zi g;have j:Ext wr w3:=hx0.grown hgR (fun k hk=>(hm.lt k hk).1);refine hK.out _ _ j ?_;refine pT ?_;refine uQ ?_;refine ze fun K hK=>?_;go_simp;refine hK.out _ _ (j.alloc _) ?_;refine pT ?_;refine zb fun K hK=>?_;refine zaN w2 w3 _ _ _ rfl 110 _ 1 24 Tryz.underlying24 zcN rfl dM v (a.next.take k).length rows _ _ rfl rfl (d.ext.trans j).size (zh hv j) rfl (zbf _ _ _) (by unfold maxLen;have:=J.out;omega) (oH J.out) ?_;intro g5 cap5 w5 zkj hg5 hat5 hlt5;refine hK.out _ _ ?_;refine pT ?_;refine uQ ?_;obtain⟨p1,p2,p3⟩:=d.push B hv j g (W':=w5) zkj hg5 hat5;have ao:=p1.out;refine zb fun K hK=>?_;go_simp;refine hK.out _ _ ?_;refine zf ?_;go_wp2_with fail
    go_roundw
    case rel=>exact⟨k+1,_,oM,gM,by rw [S.out];first|exact p3|simpa using p3⟩
    case measure=>simp [intOf];omega
   ·obtain rfl:n=k:=oM;obtain⟨r,s,rfl⟩:∃ r s,v=.slice r n s:=by
     obtain⟨rows,hv,_⟩:=d.own;rw [dU (oH F.out),← F.out] at hv;exact zi hv
    obtain⟨u,x,rfl⟩:=zi d.acc;have O:=(E.ext d.ext).cell;have cG:=d.blk.cell;have y:=bz.ext d.ext;have cZ:=y.cell;have fZ:=y.frozen;have z:=zZ wr (w.heap.size+1) (.int .i64 a.al) (.slice r n s) (.slice u a.acc.length x);have T:=zag y rfl (.int .i64 a.al) (.slice r n s) (.slice u a.acc.length x);have U:=(o.trans d.ext).frm z (fun k hk e=>oM);have zka:=za (show RetAut w a (.returned (.agg #[a.al,.slice r n s,.slice u a.acc.length x])) (((wr.setCell ⟨w.heap.size+1,0,none⟩ a.al).setCell ⟨w.heap.size+1,1,none⟩ (.slice r n s)).setCell ⟨w.heap.size+1,2,none⟩ (.slice u a.acc.length x)) from by
     refine⟨r,n,s,u,a.acc.length,x,rfl,⟨?_,F.out,?_,rfl⟩,U⟩
     ·have ho:=d.own;rw [dU (oH F.out)] at ho;exact (ho.keep z (fun b h1 e=>oM)).less oM
     ·exact zq (zaQ d.acc z (fun b h1 e=>oM)) oM)
    go_wp2_with fail
    generalize ((wr.setCell ⟨w.heap.size+1,0,none⟩ a.al).setCell ⟨w.heap.size+1,1,none⟩ (.slice r n s)).setCell ⟨w.heap.size+1,2,none⟩ (.slice u a.acc.length x)=wf at *;have cf:=T.cell;exact bodyPost_ret (v:=.agg #[a.al,.slice r n s,.slice u a.acc.length x]) (by simp [results,Tryz.results165,go_sem,cf]) rfl zka.out
theorem zjC {b:Nat}  (h:w.ownsRow base e size v n xs)(hb:v.ownBlock=some b):∃ cur,w.heap[b]?=some (.cells cur e (0,0)):=by
 rcases h.2 with ⟨rfl,_⟩|⟨g,a,cur,rfl,_,c,_⟩
 ·simp [Value.ownBlock] at hb
 ·have:g=b:=by simpa [Value.ownBlock] using hb
  subst this;exact⟨cur,c⟩
theorem zP.frmT {S:Nat->Prop}       (h:zP w base A n c A' n' c' a)(hb:Frm S w w')
  (hS:∀ k,S k->∀ cs t,w.heap[k]?=some (.cells cs t (0,0))->t≠3∧t≠110∧t≠4):zP w' base A n c A' n' c' a:=by
 obtain⟨⟨rows,h1,f⟩,j,g,l⟩:=h;refine⟨⟨rows,zg h1 hb (fun b hv hs=>?_),f.frm hb (fun i r b hr hb hs=>?_)⟩,j,zg g hb (fun b hv hs=>?_),l⟩
 ·obtain⟨cs,d⟩:=zjC h1 hv;exact (hS b hs cs _ d).2.1 rfl
 ·obtain⟨o,_,m⟩:=f.row hr;obtain⟨cs,d⟩:=zjC m hb;exact (hS b hs cs _ d).1 rfl
 ·obtain⟨cs,d⟩:=zjC g hv;exact (hS b hs cs _ d).2.2 rfl
theorem zP.aq {cs:Array Value} (h:zP w base A n c A' n' c' a)(hB:Blk w G t cs)(hf:Frm (fun k=>k=G) w w')(ht:t≠3∧t≠110∧t≠4):zP w' base A n c A' n' c' a:=
 h.frmT hf (fun k hk cs' t' hh=>by
  subst hk
  unfold Blk at hB
  rw [hB] at hh
  injection hh with hh
  injection hh with _ h2
  subst h2
  exact ht)
theorem zP.farR {b1:Nat}        (h:zP w base A n c A' n' c' a)(ho:w.ownsRow b1 e size v k xs)(hf:Frm (fun k=>v.ownBlock=some k) w w')(ht:e≠3∧e≠110∧e≠4):zP w' base A n c A' n' c' a:=
 h.frmT hf (fun k hk cs' t' hh=>by
  obtain⟨cs,hc⟩:=zjC ho hk
  rw [hc] at hh
  injection hh with hh
  injection hh with _ h2
  subst h2
  exact ht)
end Go.Proofs.YtckbjnndaaoddaaGreatDoor
