/- impl.addColu -/
import Derived.Test.YtckbjnndaaoddaaGreatDoorY13
import Derived.Deep.MidRow
import Derived.Deep.WholeRow
set_option maxHeartbeats 2000000
set_option maxRecDepth 100000
namespace Go.Proofs.YtckbjnndaaoddaaGreatDoor
open Go Go.RowKit
open Blk renaming new->eX
open Ext renaming eq_->gO,refl->dE
open Frm renaming setCell->eB
open List renaming getD_eq_getElem?_getD->eE,getElem?_eq_none->eR,getElem?_toArray->fJ,length_append->eK,length_singleton->eY,mem_of_getElem?->dG,replicate->eQ
open Nat renaming le_refl->dI,zero_le->eC
open Reads renaming af->eW
variable {A B L Z c g j l n q:Nat} {S:Nat->Prop} {T T0 U V:List Nat} {W w w0 w1:World} {a:Act} {p:Aut} {s:Sys} {t:TypeId} {x:ByteArray}
section
variable {J:zbx} {B b0 L base nr cr nc cc kn:Nat} {S S':Nat->Prop} {W W':World} {R C:Option Addr} {rows cols:List ByteArray} {f:ByteArray->Bool} {rc:Value}
noncomputable def addT (rows cols:List ByteArray) (x:ByteArray):Option (List ByteArray × List ByteArray):=if (!zcS cols x&&decide (cols.length≠20))=true then some (rows,cols++[x]) else none
theorem add_fin {W5:World} {b2 b8:Nat} {v2 v8:Value} (hfr:∀ q,W.heap.size<=q->¬ S q)(hx0:Ext W w1)(hx:Ext w1 W5)(hb:Blk W5 Z 90 #[(),()])(hZ:W.heap.size<=Z)(h2:W5.ownsRow b2 9 1 v2 rows.length (zM rows))(h8:W5.ownsRow b8 9 1 v8 (cols.length+1) (zM cols++[.string x]))(hb2:W.heap.size<=b2)(hb8:W.heap.size<=b8) :
  Ext W ((W5.setCell Z v2).setCell ⟨Z,1,none⟩ v8)∧Blk ((W5.setCell Z v2).setCell ⟨Z,1,none⟩ v8) Z 90 #[v2,v8] ∧
  ∃ R' cr' C' cc',v2=.slice R' rows.length cr'∧v8=.slice C' (cols++[x]).length cc'∧zhb ((W5.setCell Z v2).setCell ⟨Z,1,none⟩ v8) S W.heap.size R' rows.length cr' C' (cols++[x]).length cc' rows (cols++[x]):=by
 have d:=(eB W5 Z 0 v2).trans (eB _ Z 1 v8);have a:=zdt h2 hb2;have c:=zdt h8 hb8;have f:(cols++[x]).length=cols.length+1:=sM;obtain⟨R',cr',rfl⟩:=zi h2;obtain⟨C',cc',rfl⟩:=zi h8;refine⟨(hx0.trans hx).frm d (fun q hq e=>by have g:q=Z:=e;omega),by simpa using (hb.ab 0 (.slice R' rows.length cr')).ab 1 (.slice C' (cols.length+1) cc'),R',cr',C',cc',rfl,by rw [f],⟨⟨zf a d (fun b hb' e=>zK a hb dM hb' e),fun b hb'=>hfr b (a.lt b hb').1⟩,⟨?_,fun b hb'=>?_⟩⟩⟩
 ·rw [f,zjc];exact zf c d (fun b hb' e=>zK c hb dM hb' e)
 ·rw [f] at hb';exact hfr b (c.lt b hb').1
theorem yY14b1 {P:Prop}(h:P:=by
 have ho28:=zf ho2 hf8 (fun b hb e=>hdis b hb e);have hb48:=hb4.frm hf8 (fun e=>zK ho5 hb4 dM e rfl);obtain⟨C8,c8,rfl⟩:=zi ho8;have k8:=hb48.cell;have f8:=hb48.frozen;refine uQ ?_;refine zb fun K hK=>?_;go_simp;refine hK.out _ _ ?_;refine pT ?_;refine uQ ?_;refine zg ?_;have zki:=add_fin (x:=x) hwS.out hx1 hx8 hb48 oM ho28 ho8 oM oM;obtain⟨h1,h2,R9,cr9,C9,cc9,h3,h4,h5⟩:=zki;have cf:=h2.cell;have HT9:=za h5;have Hk9:=za (hkW.out.ext HJ.out h1);have H3:=za h3;have H4:=za h4;clear h3 h4 h2 h5 k8 f8 hb48 ho28 ho8 hg8 hat8;generalize (w8.setCell ⟨W.heap.size+1,0,none⟩ (.slice R6 rows.length cr6)).setCell ⟨W.heap.size+1,1,none⟩ (.slice C8 (cols.length+1) c8)=w9 at *;go_wp2_with fail
 have hv9:Value.tuple #[.agg #[.slice R6 rows.length cr6,.slice C8 (cols.length+1) c8],.bool true]=.tuple #[.agg #[.slice R9 rows.length cr9,.slice C9 (cols++[x]).length cc9],.bool true]:=by rw [H3.out,H4.out]
 exact bodyPost_ret (v:=.tuple #[.agg #[.slice R6 rows.length cr6,.slice C8 (cols.length+1) c8],.bool true]) (by simp [results,Tryz.results129,go_sem,cf]) rfl ⟨S,Hk9.out,.inr ⟨rows,cols++[x],R9,C9,cr9,cc9,had.out,by rw [hv9],HT9.out⟩⟩
 ):P:=h
theorem yY14a1 {P:Prop}(h:P:=by
 refine hK.out _ _ hxw5 ?_;refine pT ?_;refine uQ ?_;have hb4:=b4.ext hxw5;refine zb fun K hK=>?_;refine zx w5 _ _ 88 rfl _ 9 _ 1 16 Tryz.underlying88 zt rfl dM _ cols.length (zM cols) rfl ho5 _ _ _ 1 1 #[Value.string x].toList rfl (Reads.af ho7) (by simp [Value.oneCell']) lM oM (by have:=hy5.size;have:=hy7.size;omega) ?_;intro v8 w8 ho8 hg8 hat8;refine hK.out _ _ ?_;refine pT ?_;have hx8:Ext w1 w8:=hxw5.grown hg8 (fun q hq=>by have:=(ho5.lt q hq).1;omega);have hf8:Frm (fun q=>(Value.slice C6 cols.length cc6).ownBlock=some q) w5 w8:=Frm.ae hg8;exact yY14b1
 ):P:=h
theorem ziu (hJ:zbx.Ok b0 J)(hj:J B W S)(hT:zhb W S base R nr cr C nc cc rows cols)(hI:zbX L f rows cols) :
  Calls Tryz.prog 129 #[.agg #[.slice R nr cr,.slice C nc cc],x] W (RetTO J (addT rows cols x) B S W):=by
 obtain⟨rfl,rfl⟩:=hT.lens;have G:=hI.r12;have F:=hI.c20;have HJ:=za hJ;have hwS:=za (fun (q:Nat) (hq:W.heap.size<=q)=>zbx.fresh hJ hj hq);obtain⟨w1,U0⟩:∃ x,Hid ((W.alloc (.cells #[.slice R rows.length cr,.slice C cols.length cc] 90)).alloc (.cells #[(),()] 90)=x):=⟨_,za rfl⟩;have hx1:Ext W w1:=(((dE _).alloc _).alloc _).trans (gO U0.out);obtain⟨u,b4⟩:=zJ (gO U0.out);have k:=za (hT.ext hx1);have O:=za (hJ.keep hj hx1 (fun _ _ h=>h.elim));have hkW:=za (Kp.refl (J:=J) hj);clear hT hI hJ hj
 go_enter Tryz.func129,Tryz.ntmps129
 go_upto_region 1 with fail
 rw [U0.out] at *;have Y:=u.cell;have Q:=b4.cell;have I:=b4.frozen;have g:=za (contains_str (x:=x) (c:=cc) (eW k.out.c.own));have d:∀ (_:addT rows cols x=none),Hid (Kp J B S W ((w1.setCell ⟨W.heap.size+1,0,none⟩ ()).setCell ⟨W.heap.size+1,1,none⟩ ()) S∧∀ i,((w1.setCell ⟨W.heap.size+1,0,none⟩ ()).setCell ⟨W.heap.size+1,1,none⟩ ()).cell? ⟨W.heap.size+1,i,none⟩=#[Value.slice none 0 0,.slice none 0 0][i]?):=fun _=>by
  have M:=(eB w1 (W.heap.size+1) 0 (.slice none 0 0)).trans (eB _ (W.heap.size+1) 1 (.slice none 0 0));have E:Ext W ((w1.setCell ⟨W.heap.size+1,0,none⟩ ()).setCell ⟨W.heap.size+1,1,none⟩ ()):=hx1.frm M (fun q hq e=>by have V:q=W.heap.size+1:=e;omega);refine⟨hkW.out.ext HJ.out E,fun i=>?_⟩;have:=((b4.ab 0 (.slice none 0 0)).ab 1 (.slice none 0 0)).cell i;simpa using this
 by_cases h20:cols.length=20
 ·have had:=za (show addT rows cols x=none by unfold addT;rw [if_neg];rw [h20];simp);have o:=d had.out;have n:((cols.length:Int)==20)=true:=by rw [h20];rfl
  clear h20 d u b4;go_wp2_with fail
  have cf:=o.out.2;generalize (w1.setCell ⟨W.heap.size+1,0,none⟩ ()).setCell ⟨W.heap.size+1,1,none⟩ ()=w9 at *;exact bodyPost_ret (v:=.tuple #[.agg #[(),()],.bool false]) (by simp [results,Tryz.results129,go_sem,cf]) rfl ⟨S,o.out.1,.inl ⟨had.out,rfl⟩⟩
 ·have n:((cols.length:Int)==20)=false:=by simp;omega
  cases hm:zcS cols x with
  |true =>
   have had:=za (show addT rows cols x=none by unfold addT;rw [if_neg];rw [hm];simp);have o:=d had.out;rw [hm] at g;clear h20 d u b4 hm;go_wp2_with (go_at_call 210;refine g.out.mono ?_;rintro e m ⟨rfl,rfl⟩)
   have cf:=o.out.2;generalize (w1.setCell ⟨W.heap.size+1,0,none⟩ ()).setCell ⟨W.heap.size+1,1,none⟩ ()=w9 at *;exact bodyPost_ret (v:=.tuple #[.agg #[(),()],.bool false]) (by simp [results,Tryz.results129,go_sem,cf]) rfl ⟨S,o.out.1,.inl ⟨had.out,rfl⟩⟩
  |false =>
   have had:=za (show addT rows cols x=some (rows,cols++[x]) by unfold addT;rw [if_pos];rw [hm];simp;exact h20);rw [hm] at g;clear d hm Q I;go_upto_region 3 with (go_at_call 210;refine g.out.mono ?_;rintro e m ⟨rfl,rfl⟩)
   have U:∀ X,Ext w1 X->∀ q,X.cell? ⟨W.heap.size,q,none⟩=#[Value.slice R rows.length cr,.slice C cols.length cc][q]?:=fun X hX=>(u.ext hX).cell;have D:=dE w1;have H:=hx1.size;refine uR (fun X=>Ext w1 X) [5,8,10] (zw.app [0,1,3,4,6] (zw.two 2 (zw.two 5 (zw.of [7,8,9,10,11]) 7 (zw.of [5,8,9,10,11])) 7 (zw.of [2,5,8,9,10,11]))) ?_;refine uQ ?_;have j:=D.drew;generalize w1.drew=t at *;refine zm (fun K hK=>?_) (fun K hK=>?_)
   ·go_simp;refine (zby (eW (zh k.out.r.own j)) oM).mono ?_;rintro e m ⟨T,rfl,ho2,l⟩;have b:=j.trans l;obtain⟨R6,cr6,rfl⟩:=zi ho2;have z:=j.size;refine hK.out _ _ b ?_;refine pT ?_;refine uQ ?_;refine zm (fun K hK=>?_) (fun K hK=>?_)
    ·go_simp;refine (zby (eW (zh k.out.c.own b)) oM).mono ?_;rintro e w5 ⟨s,rfl,ho5,hy5⟩;have hdis:∀ q,(Value.slice R6 rows.length cr6).ownBlock=some q->s.ownBlock≠some q:=fun q h1 h2=>by have:=(ho2.lt q h1).2;have:=(ho5.lt q h2).1;omega
     have hxw5:=b.trans hy5;obtain⟨C6,cc6,rfl⟩:=zi ho5;have p:=b.size;replace ho2:=zh ho2 hy5;refine hK.out _ _ hxw5 ?_;refine pT ?_;refine uQ ?_;refine ze fun K hK=>?_;go_simp;have ho7:=World.ownsRow_lit (base:=w5.heap.size) (e:=9) (size:=1) w5 #[x] 1 (dI _) dM rfl;have hy7:Ext w5 (w5.alloc (.cells #[x] 9)):=(dE _).alloc _;have a:=hxw5.trans hy7;replace ho2:=zh ho2 hy7;replace ho5:=zh ho5 hy7;refine hK.out _ _ a ?_;generalize w5.alloc _=y at *;refine pT ?_;refine uQ ?_;have hb4:=b4.ext a;refine zb fun K hK=>?_;refine zx y _ _ 88 rfl _ 9 _ 1 16 Tryz.underlying88 zt rfl dM _ cols.length (zM cols) rfl ho5 _ _ _ 1 1 #[Value.string x].toList rfl (eW ho7) (by simp [Value.oneCell']) lM oM (by have:=hy5.size;have:=hy7.size;omega) ?_;intro v8 w8 ho8 hg8 hat8;refine hK.out _ _ ?_;refine pT ?_;have hx8:Ext w1 w8:=a.grown hg8 (fun q hq=>by have:=(ho5.lt q hq).1;omega);have hf8:Frm (fun q=>(Value.slice C6 cols.length cc6).ownBlock=some q) y w8:=Frm.ae hg8;exact yY14b1
    ·go_simp;have ho7:=World.ownsRow_lit (base:=m.heap.size) (e:=9) (size:=1) m #[x] 1 (dI _) dM rfl;have hy7:Ext m (m.alloc (.cells #[x] 9)):=(dE _).alloc _;have a:=b.trans hy7;replace ho2:=zh ho2 hy7;refine hK.out _ _ a ?_;generalize m.alloc _=y at *;refine pT ?_;refine uQ ?_;refine ze fun K hK=>?_;go_simp;refine (zby (eW (zh k.out.c.own a)) oM).mono ?_;rintro e w5 ⟨s,rfl,ho5,hy5⟩;have hdis:∀ q,(Value.slice R6 rows.length cr6).ownBlock=some q->s.ownBlock≠some q:=fun q h1 h2=>by have:=(ho2.lt q h1).2;have:=(ho5.lt q h2).1;omega
     have hxw5:=a.trans hy5;obtain⟨C6,cc6,rfl⟩:=zi ho5;have p:=a.size;replace ho2:=zh ho2 hy5;replace ho7:=zh ho7 hy5;exact yY14a1
   ·go_simp;have ho7:=World.ownsRow_lit (base:=t.heap.size) (e:=9) (size:=1) t #[x] 1 (dI _) dM rfl;have hy7:Ext t (t.alloc (.cells #[x] 9)):=(dE _).alloc _;have a:=j.trans hy7;refine hK.out _ _ a ?_;generalize t.alloc _=y at *;refine pT ?_;refine uQ ?_;refine ze fun K hK=>?_;go_simp;refine (zby (eW (zh k.out.r.own a)) oM).mono ?_;rintro e m ⟨T,rfl,ho2,l⟩;have b:=a.trans l;obtain⟨R6,cr6,rfl⟩:=zi ho2;have z:=a.size;replace ho7:=zh ho7 l;refine hK.out _ _ b ?_;refine pT ?_;refine uQ ?_;refine ze fun K hK=>?_;go_simp;refine (zby (eW (zh k.out.c.own b)) oM).mono ?_;rintro e w5 ⟨s,rfl,ho5,hy5⟩;have hdis:∀ q,(Value.slice R6 rows.length cr6).ownBlock=some q->s.ownBlock≠some q:=fun q h1 h2=>by have:=(ho2.lt q h1).2;have:=(ho5.lt q h2).1;omega
    have hxw5:=b.trans hy5;obtain⟨C6,cc6,rfl⟩:=zi ho5;have p:=b.size;replace ho7:=zh ho7 hy5;replace ho2:=zh ho2 hy5;exact yY14a1
end
section
variable {J:zbx} {B b0 L base nr cr nc cc kn:Nat} {S S':Nat->Prop} {W W':World} {R C:Option Addr} {rows cols:List ByteArray} {f:ByteArray->Bool} {rc:Value}
theorem zhi {w5:World} {S5:Nat->Prop}  {u0 u1:Value}(hJ:zbx.Ok b0 J)(hk:Kp J B S W w5 S5)(hb:Blk w5 Z 90 #[u0,u1])(hZ:¬ S5 Z)(hWZ:W.heap.size<=Z)(hbZ:b0<=Z) :
  Blk ((w5.setCell Z ()).setCell ⟨Z,1,none⟩ ()) Z 90 #[(),()]∧Kp J B S W ((w5.setCell Z ()).setCell ⟨Z,1,none⟩ ()) S5:=by
 have b:=(eB w5 Z 0 (.slice none 0 0)).trans (eB _ Z 1 (.slice none 0 0));exact⟨by simpa using (hb.ab 0 (.slice none 0 0)).ab 1 (.slice none 0 0),hk.own hJ b (fun q _ e=>by have a:q=Z:=e;rw [a];exact⟨hWZ,hbZ,hZ⟩)⟩
theorem Blk.far2 {cs:Array Value}(h:Blk w g t cs)(hne:g≠Z) (u v:Value):Blk ((w.setCell Z u).setCell ⟨Z,1,none⟩ v) g t cs:=(h.far (p:=⟨Z,0,none⟩) hne u).far (p:=⟨Z,1,none⟩) hne v
theorem zds (hO:zfE b0 L f J kn rc)(hj:J B W S)(hB:B+27840<10000000)(hT:zhb W S base R nr cr C nc cc rows cols)(hI:zbX L f rows cols)(hcl:zaJ L f rows cols=none)(hb0:b0<=W.heap.size)(hL:L<64)(hx:inB x L=true)(hxs:x.size<=4000) :
  Calls Tryz.prog 54 #[orcV L kn rc,.agg #[.slice R nr cr,.slice C nc cc],x] W (RetTO J (zaB L f rows cols x) (B+27840) S W):=by
 have s:=za hO;have HI:=za hI;have aa:=za (learn_same hI hx hxs);have V:=za (fun (col:ByteArray) (h:zcD L f rows cols x=some col)=>split_col hx hxs h);obtain⟨w1,U0⟩:∃ x,Hid (((W.alloc (.cells #[(L:Int),.func (.func kn) #[rc] #[]] 83)).alloc (.cells #[.slice R nr cr,.slice C nc cc] 90)).alloc (.cells #[(),()] 90)=x):=⟨_,za rfl⟩;have hx1:Ext W w1:=((((dE _).alloc _).alloc _).alloc _).trans (gO U0.out);obtain⟨b2,b3,b4⟩:=zU (gO U0.out);have G:=za (fun (q:Nat) (hq:W.heap.size<=q)=>zbx.fresh hO.ok hj hq);have az:=hO.ok.keep hj hx1 (fun _ _ h=>h.elim);have ay:=za (hT.ext hx1);have o:=za (or_splitWord (x:=x) hO az oM (hT.ext hx1) hI hcl (Nat.le_trans hb0 hx1.size) hL hx hxs);have aI:W.heap.size+1+1<w1.heap.size:=by rw [← U0.out];simp
 clear hO hI hT hj hx
 go_enter Tryz.func54,Tryz.ntmps54
 go_upto_region 1 with fail
 rw [U0.out] at *;have k2:=b2.cell;have k3:=b3.cell;cases hsp:zcD L f rows cols x with
 |none =>
  have l:=za (show zaB L f rows cols x=none by rw [aa.out,hsp]);rw [hsp] at o;clear hsp;go_upto_region 2 with (go_at_call 128;refine o.out.mono ?_;rintro e w2 ⟨S2,rfl,b⟩)
  have a:=b.blk b4 (G.out _ oM);have k4:=a.1.cell;have f4:=a.1.frozen;have zki:=zhi s.out.ok ((b.more s.out.ok (show B+6000<=B+27840 by omega)).back hx1) a.1 a.2 oM oM;have cf:=zki.1.cell;have Hk:=za zki.2;clear zki k2 k3 b2 b3 b4 b;go_wp2_with fail
  clear k4 f4 a;generalize (w2.setCell ⟨W.heap.size+1+1,0,none⟩ ()).setCell ⟨W.heap.size+1+1,1,none⟩ ()=w9 at *;exact bodyPost_ret (v:=.tuple #[.agg #[(),()],.bool false]) (by simp [results,Tryz.results54,go_sem,cf]) rfl ⟨S2,Hk.out,.inl ⟨l.out,rfl⟩⟩
 |some col =>
  have E:=za hsp;rw [hsp] at o;clear hsp;go_upto_region 4 with (go_at_call 128;refine o.out.mono ?_;rintro e w2 ⟨S2,rfl,b⟩)
  have an:=za ((b).back hx1);have ax:=za (ay.out.kp b);have t:=b.blk b2 (G.out _ oM);have n:=b.blk b3 (G.out _ oM);have a:=b.blk b4 (G.out _ oM);have k3:=n.1.cell;have O:=za (ziu (x:=col) s.out.ok b.j ax.out HI.out);have aE:=b.size;clear k2 b2 b3 b4;go_upto_region 99 with fail
  refine O.out.mono ?_;rintro e w3 ⟨S3,p,k⟩;have m:=p.blk t.1 t.2;have c:=p.blk n.1 n.2;have g:=p.blk a.1 a.2;have T:=za (an.out.trans p);have k3:=c.1.cell;have f3:=c.1.frozen;clear t n a O;rcases k with ⟨hn,rfl⟩|⟨rs,cs,R',C',Y,X,I,rfl,aj⟩
  ·have l:=za (show zaB L f rows cols x=none by
    rw [aa.out,E.out];unfold addT at hn
    by_cases z:(!zcS cols col&&decide (cols.length≠20))=true
    ·rw [if_pos z] at hn;cases hn
    ·show (if (!zcS cols col&&decide (cols.length≠20))=true then _ else none)=none;rw [if_neg z])
   have h3:=zhi s.out.ok T.out c.1 c.2 oM oM;have i:=g.1.far2 (Z:=W.heap.size+1) oM (.slice none 0 0) (.slice none 0 0);have k4:=i.cell;have f4:=i.frozen;have zki:=zhi s.out.ok (h3.2.more s.out.ok (show B+6000<=B+27840 by omega)) i g.2 oM oM;have cf:=zki.1.cell;have Hk:=za zki.2;clear zki h3 hn p b;go_wp2_with fail
   clear k3 f3 k4 f4 i m c g;generalize (((w3.setCell ⟨W.heap.size+1,0,none⟩ ()).setCell ⟨W.heap.size+1,1,none⟩ ()).setCell ⟨W.heap.size+1+1,0,none⟩ ()).setCell ⟨W.heap.size+1+1,1,none⟩ ()=w9 at *;exact bodyPost_ret (v:=.tuple #[.agg #[(),()],.bool false]) (by simp [results,Tryz.results54,go_sem,cf]) rfl ⟨S3,Hk.out,.inl ⟨l.out,rfl⟩⟩
  ·obtain⟨z,rfl,u⟩:(!zcS cols col&&decide (cols.length≠20))=true∧rows=rs∧cols++[col]=cs:=by
    unfold addT at I
    by_cases z:(!zcS cols col&&decide (cols.length≠20))=true
    ·rw [if_pos z] at I;have h1:=Option.some.inj I;exact⟨z,(Prod.mk.inj h1).1,(Prod.mk.inj h1).2⟩
    ·rw [if_neg z] at I;cases I
   have l:=za (show zaB L f rows cols x=(zX L f (cols++[col]) (12 - rows.length) rows).map fun r=>(r,cols++[col]) by
    rw [aa.out,E.out];show (if (!zcS cols col&&decide (cols.length≠20))=true then _ else none)=_;rw [if_pos z])
   have aw:=za (show zbX L f rows cs by
    rw [← u];exact HI.out.addC (x:=col) (by
     unfold zgO;rw [(V.out col E.out).1,z];simpa using (V.out col E.out).2))
   rw [u] at l;clear u;have h3:=zfK s.out.ok T.out aj c.1 c.2 oM oM (oH hx1.size);have al:=za (m.1.far2 (Z:=W.heap.size+1) oM (.slice R' rows.length Y) (.slice C' cs.length X));have i:=za (g.1.far2 (Z:=W.heap.size+1) oM (.slice R' rows.length Y) (.slice C' cs.length X));have am:=za h3.1;have D:=za h3.2.1;have au:=za h3.2.2;have aD:=za m.2;have ai:=za g.2;clear h3 I p b z aj;go_upto_region 7 with fail
   clear k3 f3 m c g;generalize (w3.setCell ⟨W.heap.size+1,0,none⟩ (.slice R' rows.length Y)).setCell ⟨W.heap.size+1,1,none⟩ (.slice C' cs.length X)=w4 at *;have k2:=al.out.cell;have k3:=am.out.cell;have Q:=za (zfU s.out D.out.j oM au.out aw.out (oH D.out.size) hL);go_upto_region 99 with fail
   refine Q.out.mono ?_;rintro e w5 ⟨S5,H,k⟩;have d:=H.blk i.out ai.out;have U:=za ((D.out.trans H).more s.out.ok (show B+6000+21840<=B+27840 by omega));have k4:=d.1.cell;have f4:=d.1.frozen;clear k2 k3 Q;rcases k with ⟨hn,rfl⟩|⟨rs,F,R9,C9,cr9,cc9,I,rfl,ak⟩
   ·have y:=za (show zaB L f rows cols x=none by rw [l.out,hn]);have zki:=zhi s.out.ok U.out d.1 d.2 oM oM;have cf:=zki.1.cell;have Hk:=za zki.2;clear zki hn H;go_wp2_with fail
    clear k4 f4 d;generalize (w5.setCell ⟨W.heap.size+1+1,0,none⟩ ()).setCell ⟨W.heap.size+1+1,1,none⟩ ()=w9 at *;exact bodyPost_ret (v:=.tuple #[.agg #[(),()],.bool false]) (by simp [results,Tryz.results54,go_sem,cf]) rfl ⟨S5,Hk.out,.inl ⟨y.out,rfl⟩⟩
   ·have y:=za (show zaB L f rows cols x=some (rs,F) by rw [l.out,I]);have zki:=zfK s.out.ok U.out ak d.1 d.2 oM oM (oH D.out.size);have cf:=zki.1.cell;have M:=za zki.2;clear zki I H ak;go_wp2_with fail
    clear k4 f4 d;generalize (w5.setCell ⟨W.heap.size+1+1,0,none⟩ (.slice R9 rs.length cr9)).setCell ⟨W.heap.size+1+1,1,none⟩ (.slice C9 F.length cc9)=w9 at *;exact bodyPost_ret (v:=.tuple #[.agg #[.slice R9 rs.length cr9,.slice C9 F.length cc9],.bool true]) (by simp [results,Tryz.results54,go_sem,cf]) rfl ⟨S5,M.out.1,.inr ⟨rs,F,R9,C9,cr9,cc9,y.out,rfl,M.out.2⟩⟩
end
theorem zero_pset (w:World):(zeroValue 222).run Tryz.prog w=.ok (.agg (Array.replicate 12 (.int .u16 0))) w:=kM
theorem zaO:((Tryz.prog).info? 222).map (·.size)=some 12:=kM
theorem zif:(zbm (eQ 12 0)).toArray=Array.replicate 12 (Value.int .u16 0):=by rfl
theorem zdD (hT:T.length=12) {k:Nat}(hk:k<12) (w:World):(Instr.index 222 (.agg (zbm T).toArray) (.int .i64 (k:Int))).run Tryz.prog w=.ok (.int .u16 (T.getD k 0:Nat)) w:=by
 have b:=Tryz.underlying222;have a:=Tryz.isAgg220;have c:=Tryz.sizeOf220;have h1:(zbm T)[k]?=some (.int .u16 (T.getD k 0:Nat)):=zeY oM;simp [Instr.index,run_underlying b,asIntOf,go_sem,hk,a,c,part,h1]
theorem zcW {ops:Array Oper} {rest:List Oper} {o:Oper}   {Q:Exit->Act->World->Prop}(hgd:o.guard=none) (x y:Operand)(ho:o.op=.store 222 x y) (g:Nat)(hx:a.eval x=.pointer (some g))
  {T U:List Nat} (hy:a.eval y=.agg (zbm U).toArray) (hb:Blk w g 222 (zbm T).toArray) (hT:T.length=12) (hU:U.length=12)
  (h:∀ w',Blk w' g 222 (zbm U).toArray->Frm (fun k=>k=g) w w'->wpList Tryz.prog ops Q rest (a.put o.dst undef) w'):wpList Tryz.prog ops Q (o :: rest) a w:=by
 have h1:(zbm U).toArray.all (·.oneCell')=true:=all_oneCell_toArray (fun v hv=>by
  obtain⟨z,_,rfl⟩:=List.mem_map.1 hv;rfl)
 have b:((Tryz.prog).info? 222).map (·.size)=some (zbm U).toArray.size:=by
  rw [zaO];simp [zbm,hU]
 refine wpList_plain hgd fun _ hK=>?_;unfold Oper.wp execOp;simp only [ho,hx,hy,Instr.storeAt,Instr.sureAddr,Sem.run_bind,Sem.run_pure,Result.andThen_ok,run_storeVar_row w g 222 222 _ _ hb b (by simp [zbm,hT,hU]) h1];refine hK _ _ (h _ ?_ ⟨rfl,rfl,rfl,sM,fun k hk hn=>?_⟩)
 ·exact setRow_heap w g _ _ _ _ hb
 ·exact setRow_other w g k _ hn
def RetSMv (F:Sfx) (l:Nat) (T:List Nat) (W:World) (e:Ending) (W':World):Prop:=∃ U,e=.returned (zgS U)∧MvP F.s F.p l T 12 U∧Ext W W'
theorem zka {x:Nat}:(zbm U).toArray.setIfInBounds j (.int .u16 (x:Nat))=(zbm (U.set j x)).toArray:=by
 simp [zbm,List.map_set]
section
variable {F:Sfx} {Ts:List (List Nat)} {nx:Nat->Nat->Int} {k:Nat} {M:List Nat->Option Nat} {vs vn vu:Value} {W:World}
theorem sf_move (hF:ziH F)(h:zfa F Ts nx k M vs vn vu W) (hT:WS F.p T) (hl:l<6) :
  Calls Tryz.prog 198 #[.pointer (some ⟨F.G,0,none⟩),zgS T,l] W (RetSMv F l T W):=by
 have R:=zck hF.hs;have hp:=hF.hp;obtain⟨ae,af⟩:=zG hF.hs;obtain⟨C,E⟩:∃ C:Nat,Hid (F.s.al=C):=⟨F.s.al.toNat,by unfold Hid;omega⟩;have ag:C<64:=oH E.out;have HF:=za hF;have HM:=za h;have HT:=za hT;have g:=za R;have Hp:=za hp;have bG:=h.blk;have O:=h.red hF;have HR:=za O;have HV:=za (show ∀ x∈T,x<65536 from hT.lt);have zp:=zero_pset;have t:=za hT.len;obtain⟨lo,hi,b⟩:=O.rule;have B:=za b;have L:=za O.mov;have Htab:=za O.tab;clear hF h hT R hp O b ae af;unfold zgS
 go_enter Tryz.func198,Tryz.ntmps198
 go_upto_region 2 with fail
 obtain⟨b4,o,f⟩:=zU (dE (((W.alloc (.cells (zbm T).toArray 222)).alloc (.cells (Array.replicate 12 (.int .u16 0)) 222)).alloc (.cells (Array.replicate 12 (.int .u16 0)) 222)));have V:Ext W (((W.alloc (.cells (zbm T).toArray 222)).alloc (.cells (Array.replicate 12 (.int .u16 0)) 222)).alloc (.cells (Array.replicate 12 (.int .u16 0)) 222)):=(((dE _).alloc _).alloc _).alloc _;generalize ((W.alloc (.cells (zbm T).toArray 222)).alloc (.cells (Array.replicate 12 (.int .u16 0)) 222)).alloc (.cells (Array.replicate 12 (.int .u16 0)) 222)=w3 at *;rw [← zif] at f o;have S:(zbm T).toArray.size=12:=by simp [zbm,t.out]
 go_upto_region 3 with (refine wpList_load_row rfl _ _ rfl _ rfl _ _ _ _ b4 Tryz.underlying222 rfl (by rw [S];exact zaO) ?_)
 go_wp2_with fail
 go_loopw [8,9,10,12] (fun _ _ _ i wr=>∃ (k:Nat) (U:List Nat),i=.int .i64 k∧k<=12∧Hid (MvP F.s F.p l T k U)∧Blk wr (W.heap.size+1+1) 222 (zbm U).toArray∧Blk wr (W.heap.size+1) 222 (zbm (eQ 12 0)).toArray∧Ext W wr) (fun _ _ _ i _=>12 - (intOf i).toNat)
 case atStart=>exact⟨0,_,rfl,eC _,za MvP.zero,f,o,V⟩
 case round =>
  clear b4 o f V;obtain⟨k,U,rfl,hk,m,f,o,n⟩:=hrel
  by_cases hlt:k<12
  ·have ah:=zdD t.out hlt;obtain⟨x,d⟩:∃ x,Hid (T.getD k 0=x):=⟨_,rfl⟩;rw [d.out] at ah;have u:x<65536:=by rw [← d.out];exact zbK HV.out k
   by_cases h0:x=0
   ·have a:=za (m.out.skip (by rw [d.out];exact h0));subst h0;go_wp2_with fail
    go_roundw
    case rel=>exact⟨k+1,U,gM,oM,a,f,o,n⟩
    case measure=>simp [intOf];omega
   ·have Q:k<F.p.next.length:=HT.out.idx (by rw [d.out];exact h0);have ar:(k:Int)<(F.p.next.length:Int):=oM;have aB:(l:Int)<6:=oM;have aC:((x:Int)==0)=false:=by simp;omega
    obtain⟨gR,oR,D,H⟩:=(B.out.ext n).at_ Q hl;have aw:=za D;have hj:aGo F.p k l<12:=by
     have h1:=zer Hp.out Q hl;have h2:=(zl Hp.out).2.1;omega
    have a:=za (m.out.step g.out HV.out hj);rw [d.out] at a;obtain⟨j,aj⟩:∃ j,Hid (aGo F.p k l=j):=⟨_,rfl⟩;rw [aj.out] at H hj a;have aA:(j:Int)<12:=oM;have ad:=za (show j<U.length by rw [m.out.1];exact hj);obtain⟨z,hz⟩:∃ z,Hid (U.getD j 0=z):=⟨_,rfl⟩;have C7:∀ X,Ext wr X->X.cell? ⟨W.heap.size+1+1,j,none⟩=some (.int .u16 (z:Nat)):=fun X hX=>by
     rw [(f.ext hX).cell,fJ,zeY ad.out,hz.out]
    have F7:∀ X,Ext wr X->X.frozen? ⟨W.heap.size+1+1,j,none⟩=false:=fun X hX=>(f.ext hX).frozen j;have Z:z<65536:=by rw [← hz.out];exact zbK m.out.2.1 j
    have BG:∀ X,Ext wr X->∀ i,X.cell? ⟨F.G,i,none⟩=(sfC F vs vn vu)[i]?:=fun X hX=>(bG.ext (n.trans hX)).cell;simp only [sfC,E.out] at BG;have CR:∀ X,Ext wr X->X.cell? ⟨gR,oR+k*6+l,none⟩=some (.int .i64 (j:Nat)):=fun X hX=>hX.aa H;have aE:=dE wr;have J:=za (show C=F.s.al.toNat by have:=E.out;omega);obtain⟨y,hy⟩:∃ y,Hid (goS F.s l x=y):=⟨_,rfl⟩;have Y:y<65536:=by rw [← hy.out];exact goS_lt g.out u
    have aD:=u16_or_nat z y Z Y;have aF:IntKind.u16.wrap (y:Int)=y:=by rw [IntKind.wrap_u16];omega
    rw [hz.out,hy.out] at a;have B7:=za f;have B6:=za o;rw [D] at BG;clear f o H D h0;cases hb:hasB C (l:Int) with
    |false =>
     have Hb:=za hb;have I:=za (show x=y by
      rw [← hy.out];unfold goS;rw [if_neg];rw [← J.out];simpa [hasB] using hb)
     clear hb;obtain rfl:=I.out;go_wp2_with (go_at_call 127;refine (zcw C (l:Int) tM _).mono ?_;rw [Hb.out];rintro e w' ⟨rfl,rfl⟩)
     go_roundw
     case rel=>exact⟨k+1,U.set j (z|||x),gM,oM,a,by rw [← zka];exact B7.out.ab j _,B6.out.far sM _,n.setCell (p:=⟨W.heap.size+1+1,j,none⟩) (by simp;omega) _⟩
     case measure=>simp [intOf];omega
    |true =>
     have Hb:=za hb;have I:=za (show zcj F.s.edges x (l:Int)=y by
      rw [← hy.out];unfold goS;rw [if_pos];rw [← J.out];simpa [hasB] using hb)
     clear hb;go_wp2_with (first
      |(go_at_call 127;refine (zcw C (l:Int) tM _).mono ?_;rw [Hb.out];rintro e w' ⟨rfl,rfl⟩)
      |(go_at_call 191;refine (impl_step (k0:=F.s.st.toNat) (L.out.ext n) (Htab.out.ext n) u hl g.out.2.2.1 (oH g.out.2.1)).mono ?_;rw [I.out];rintro e w5 ⟨rfl,c⟩))
     go_roundw
     case rel=>exact⟨k+1,U.set j (z|||y),gM,oM,a,by rw [← zka];exact (B7.out.ext c).ab j _,(B6.out.ext c).far sM _,(n.trans c).setCell (p:=⟨W.heap.size+1+1,j,none⟩) (by simp;omega) _⟩
     case measure=>simp [intOf];omega
  ·obtain rfl:k=12:=oM;have ak:(zbm U).toArray.size=12:=by simp [zbm,m.out.1]
   have av:=za (show RetSMv F l T W (.returned (zgS U)) wr from ⟨U,rfl,m.out,n⟩);have r:(zbm U).toArray.size=12:=by simp [zbm,m.out.1]
   go_wp2_with (first
    |(refine wpList_load_row rfl _ _ rfl _ rfl _ _ _ _ f Tryz.underlying222 rfl (by rw [r];exact zaO) ?_)
    |(refine zcW rfl _ _ rfl _ rfl rfl o sM m.out.1 ?_;intro w5 b6' hf5))
   have c:Ext W w5:=n.frm hf5 (fun q hq e=>by subst e;omega);exact bodyPost_ret (v:=zgS U) (results_cell_row (p:=6) (ty:=222) Tryz.results198 _ _ (W.heap.size+1) _ _ _ _ rfl b6' Tryz.underlying222 rfl (by rw [r];exact zaO)) rfl ⟨U,rfl,m.out,c⟩
end
theorem ziS:((Tryz.prog).info? 222).map (fun i=>(i.zero,i.size,i.bytes))=some (some (.agg (Array.replicate 12 (.int .u16 0))),12,24):=kM
theorem row12_len:(Value.agg (Array.replicate 12 (.int .u16 0))).cells.size=12:=dM
theorem fold_set:∀ (l:List Value) (k:Nat) (cs:Array Value),k+l.length=cs.size->(l.zipIdx k).foldl (fun cs x=>cs.setIfInBounds x.snd x.fst) cs=(cs.toList.take k++l).toArray
 |[],k,cs,h=>by
  have h1:cs.toList.take k=cs.toList:=List.take_of_length_le (by simp at h ⊢;omega);simp only [List.zipIdx_nil,List.foldl_nil,List.append_nil,h1,Array.toArray_toList]
 |a :: r,k,cs,h=>by
  simp only [List.length_cons] at h;have hk:k<cs.toList.length:=by simp;omega
  rw [List.zipIdx_cons,List.foldl_cons,fold_set r (k+1) _ (by simp;omega)]
  congr 1
  rw [Array.toList_setIfInBounds,List.take_add_one,List.take_set_of_le (dI _),List.getElem?_set_self hk];simp
theorem fold_u16s (hU:U.length=12):List.foldl (fun cs x=>cs.setIfInBounds x.snd x.fst) #[Value.int .u16 0,.int .u16 0,.int .u16 0,.int .u16 0,.int .u16 0,.int .u16 0,.int .u16 0,.int .u16 0,.int .u16 0,.int .u16 0,.int .u16 0,.int .u16 0] (zbm U).zipIdx=(zbm U).toArray:=by
 rw [fold_set _ 0 _ (by rw [zbR,hU];rfl)];rfl
theorem zgB {l:List Oper}  {Q:Exit->Act->World->Prop} {S:World->Prop} {i:Nat} {rest:zw} {o:Oper}  (ho:l[i]?=some o)(hq:zdw o.op=true)(hp:zgv o.op=false)(hw:Region.wanted o (yielded l.toArray a.tmps)=true)
  (x:Operand) (hop:o.op=.load 222 x) (g:Nat) (hx:a.eval x=.pointer (some g)) {U:List Nat} (hU:U.length=12) (hb:∀ X,S X->Blk X g 222 (zbm U).toArray) (h:zau Tryz.prog l T Q S rest (a.put o.dst (.agg (zbm U).toArray)) w):zau Tryz.prog l T Q S (.one i rest) a w:=
 zbE ho hq hp hw (fun X hX=>by
  have h12:(zbm U).toArray.size=12:=by simp [zbm,hU]
  unfold execOp;simp only [hop,hx,Instr.loadAt,Instr.sureAddr,Sem.run_bind,Sem.run_pure,Result.andThen_ok,run_loadVar_row X g 222 222 _ _ _ (hb X hX) Tryz.underlying222 rfl (by rw [h12];exact zaO)]) h
def RetSAdd (F:Sfx) (Ts:List (List Nat)) (nx:Nat->Nat->Int) (U:List Nat) (S:Nat->Prop) (W:World) (e:Ending) (W':World):Prop:=
 ∃ (j:Nat) (Ts':List (List Nat)) (nx':Nat->Nat->Int) (k':Nat) (M':List Nat->Option Nat) (vs' vn' vu':Value),e=.returned (.int .i64 (j:Int))∧((Ts'=Ts∧nx'=nx)∨(Ts'=Ts++[U]∧nx'=fun k l=>if k=Ts.length then -1 else nx k l))∧Ts'[j]?=some U ∧
  zfa F Ts' nx' k' M' vs' vn' vu' W'∧Kq S W W' (sfS F vs' vn' vu')
section
variable {F:Sfx} {Ts:List (List Nat)} {nx:Nat->Nat->Int} {k:Nat} {M:List Nat->Option Nat} {vs vn vu:Value} {W:World}
theorem yY14a2 {P:Prop}(h:P:=by
 refine ze fun K hK=>?_;go_simp;refine hK.out _ _ (hwd.alloc _) ?_;have hPe:=hP5.ext hwd;have hqe:=hq5'.out.ext hwd;have B3e:=za (B35.out.ext hwd);generalize wd6=we at *;refine pT ?_;refine uQ ?_;refine zb fun K hK=>?_;rw [fold_u16s HU.out.len];refine zaH F.w9 we _ _ _ rfl 222 _ 12 24 Tryz.underlying149 ziS row12_len dM (.slice As Ts.length cs) Ts.length (stC Ts) (zbm U).toArray _ rfl rfl hPe.frm.size hPe.sets h12 hone lM oM ?_;intro g8 cap8 w8 hown8 hg8 hat8 hlt8;refine hK.out _ _ ?_;refine pT ?_;obtain⟨hB8,hP8,hq8⟩:=hPe.pushS HF.out (U:=U) hown8 hg8 hat8;have k8:=hB8.cell;have f8:=hB8.frozen;simp only [sfC] at k8;refine zb fun K hK=>?_;go_simp;refine hK.out _ _ ?_;refine pT ?_;refine uQ ?_;refine zb fun K hK=>?_;go_simp;refine hK.out _ _ ?_;refine zg ?_;have hq:=za (hqe.trans hq8);have hP:=za hP8;have B38:=za ((B3e.out.frm (Frm.ae hg8) (fun e=>hWs e rfl)).far (p:=⟨F.G,10,none⟩) (by show W.heap.size≠F.G;omega) (.slice (some g8) (Ts.length+1) cap8));clear hown8 hg8 hat8 hB8 hP8 hq8 k8 f8 hPe hqe B3e hWs;generalize w8.setCell ⟨F.G,10,none⟩ (.slice (some g8) (Ts.length+1) cap8)=w9' at *;go_wp2_with fail
 go_meet;exact⟨g8,cap8,hq.out,hP.out,B38.out⟩
 ):P:=h
theorem sf_add (hF:ziH F)(h:zfa F Ts nx k M vs vn vu W) (hU:WS F.p U)(hn:Ts.length<=1000000000000) :
  Calls Tryz.prog 196 #[.pointer (some ⟨F.G,0,none⟩),zgS U] W (RetSAdd F Ts nx U (sfS F vs vn vu) W):=by
 have HF:=za hF;have HU:=za hU;have l:=za (show domP U from ⟨hU.len,hU.lt⟩);have h12:(zbm U).toArray.size=12:=by simp [zbm,hU.len]
 have aI:k<=Ts.length:=h.le;have aL:=h.frm.size;have hx1:Ext W (W.alloc (.cells (zbm U).toArray 222)):=(dE _).alloc _;have E:=za (h.ext hF hx1);have b3:=eX W 222 (zbm U).toArray;obtain⟨As,cs,rfl⟩:=zi h.sets;obtain⟨n,o,rfl⟩:=zi h.next;obtain⟨r,s,rfl⟩:=zi h.uns;have d:=za (show ¬ sfS F (.slice As Ts.length cs) (.slice n Ts.length o) (.slice r Ts.length s) W.heap.size from fun hs=>by have:=h.lt hs;omega);clear hF h hU;unfold zgS
 go_enter Tryz.func196,Tryz.ntmps196
 go_upto_region 1 with fail
 generalize W.alloc (.cells (zbm U).toArray 222)=w1 at *;have C:∀ X,Ext w1 X->∀ i,X.cell? ⟨F.G,i,none⟩=(sfC F (.slice As Ts.length cs) (.slice n Ts.length o) (.slice r Ts.length s))[i]?:=fun X hX=>(E.out.blk.ext hX).cell;simp only [sfC] at C;have b:=dE w1;have B3:=za b3;clear b3;refine uR (fun X=>Ext w1 X) [5] (zw.of [0,4,1,2,3,5,6,7,8,9,10]) ?_;refine uQ ?_;refine zgB rfl rfl rfl rfl _ rfl W.heap.size rfl HU.out.len (fun X hX=>B3.out.ext hX) ?_;refine pT ?_;refine ze fun K hK=>?_;go_simp;refine hK.out _ _ b.drew ?_;refine pT ?_;refine uQ ?_;have a:=E.out.ext HF.out b.drew;have ag:=hx1.trans b.drew;have J:=za (B3.out.ext b.drew);clear C B3 E hx1;generalize w1.drew=wd at *;cases hMU:M U with
 |some j =>
  have g:=za hMU;clear hMU;refine zb fun K hK=>?_;refine wp_mapOkG _ keyP _ _ rfl rfl a.map U rfl l.out ?_;rw [g.out];intro cc hcc;obtain rfl:=hcc j rfl;refine hK.out _ _ ?_;refine pT ?_;clear hcc;refine uQ ?_;refine zg ?_;have ae:=za (show RetSAdd F Ts nx U (sfS F (.slice As Ts.length cs) (.slice n Ts.length o) (.slice r Ts.length s)) W (.returned (.int .i64 (j:Int))) wd from
   ⟨j,Ts,nx,k,M,_,_,_,rfl,.inl ⟨rfl,rfl⟩,(a.num U j).1 g.out,a,Kq.refl.ext ag⟩)
  go_wp2_with fail
  go_ret;exact ae.out
 |none =>
  have g:=za hMU;clear hMU;refine zb fun K hK=>?_;refine wp_mapOkG _ keyP _ _ rfl rfl a.map U rfl l.out ?_;rw [g.out];intro cc hcc;refine hK.out _ _ ?_;refine pT ?_;clear hcc;refine uQ ?_;refine zg ?_;have kd:=a.blk.cell;simp only [sfC] at kd;have aF:=a.frm.size;go_upto_region 5 with fail
  have af:=ag.drew;have C:∀ X,Ext wd X->∀ i,X.cell? ⟨F.G,i,none⟩=(sfC F (.slice As Ts.length cs) (.slice n Ts.length o) (.slice r Ts.length s))[i]?:=fun X hX=>(a.blk.ext hX).cell;simp only [sfC] at C;have b:=dE wd;refine uR (fun X=>Ext wd X) [6] (zw.of [0,4,5,1,2,3,6]) ?_;refine uQ ?_;refine zgB rfl rfl rfl rfl _ rfl W.heap.size rfl HU.out.len (fun X hX=>J.out.ext hX) ?_;refine pT ?_;refine uQ ?_;refine ze fun K hK=>?_;go_simp;refine hK.out _ _ b.drew ?_;refine pT ?_;refine uQ ?_;refine zb fun K hK=>?_;refine wp_mapSetG _ keyP _ _ _ (.inl rfl) rfl (a.ext HF.out b.drew).map oM U Ts.length rfl rfl l.out oM ?_;intro w5 hmap5 hg5;refine hK.out _ _ ?_;refine pT ?_;refine zg ?_;obtain⟨hP5,aa⟩:=(a.ext HF.out b.drew).p.mapSet HF.out hmap5 hg5;have B35:=za ((J.out.ext b.drew).frm (Frm.ae hg5) (fun e=>by
   have h1:=Option.some.inj e;exact d.out (.inl ⟨by rw [← h1];exact HF.out.b0m,by rw [← h1];exact HF.out.mw⟩)))
  have hq5':=za (Kq.back af aa);have Z:=za (a.num.add g.out);have au:=za a.ws;clear C b a hmap5 hg5 aa kd af;go_upto_region 6 with fail
  go_cut [] (fun wx=>∃ (g8 cap8:Nat),Kq (sfS F (.slice As Ts.length cs) (.slice n Ts.length o) (.slice r Ts.length s)) W wx (sfS F (.slice (some g8) (Ts.length+1) cap8) (.slice n Ts.length o) (.slice r Ts.length s))∧zin F (Ts++[U]) Ts.length nx (unC F.p Ts) (k+1) (updG M U Ts.length) (.slice (some g8) (Ts.length+1) cap8) (.slice n Ts.length o) (.slice r Ts.length s) wx∧Blk wx W.heap.size 222 (zbm U).toArray)
  case first =>
   have C:∀ X,Ext w5 X->∀ i,X.cell? ⟨F.G,i,none⟩=(sfC F (.slice As Ts.length cs) (.slice n Ts.length o) (.slice r Ts.length s))[i]?:=fun X hX=>(hP5.blk.ext hX).cell;simp only [sfC] at C;have b:=dE w5;have hone:∀ u∈(zbm U).toArray.toList,u.oneCell'=true:=fun u hu=>by
    have aq:u∈zbm U:=by simpa using hu
    obtain⟨z,_,rfl⟩:=List.mem_map.1 aq;rfl
   have al:F.G<W.heap.size:=oH HF.out.Gw;have hWs:∀ {q:Nat},(Value.slice As Ts.length cs).ownBlock=some q->W.heap.size≠q:=fun hq e=>d.out (.inr (.inl (by rw [e];exact hq)));refine uR (fun X=>Ext w5 X) [7,8,10] (zw.app [0,1,5] (zw.two 2 (zw.of [3,4,6,7,8,9,10]) 6 (zw.of [2,3,4,7,8,9,10]))) ?_;refine uQ ?_;refine zgB rfl rfl rfl rfl _ rfl W.heap.size rfl HU.out.len (fun X hX=>B35.out.ext hX) ?_;refine pT ?_;have hwd:=b.drew;generalize w5.drew=wd6 at *;refine zm (fun K hK=>?_) (fun K hK=>?_)
   ·go_simp;refine hK.out _ _ hwd ?_;refine pT ?_;refine uQ ?_;exact yY14a2
   ·go_simp;refine hK.out _ _ (hwd.alloc _) ?_;refine pT ?_;exact yY14a2
  case rest =>
   obtain⟨g8,cap8,hq8,hP8,O⟩:=hcut;clear hP5 hq5' B35;have k8:=hP8.blk.cell;simp only [sfC] at k8;have L:=za hq8;have V:∀ {q:Nat},(Value.slice n Ts.length o).ownBlock=some q->W.heap.size≠q:=fun hq e=>d.out (.inr (.inr (.inl (by rw [e];exact hq))));have al:F.G<W.heap.size:=oH HF.out.Gw;go_upto_region 8 with (at_builtin;refine zW F.w9 wc rfl _ _ _ rfl 166 _ 6 48 Tryz.underlying148 info_row6 row6_len dM (.slice n Ts.length o) Ts.length (nxC Ts.length nx) _ _ rfl rfl hP8.frm.size hP8.next rfl (by simp [Value.oneCell']) lM oM ?_;intro g7 cap7 w7 hown7 hg7 hat7 hlt7;obtain⟨D,S,ad⟩:=hP8.pushN HF.out hown7 hg7 hat7;have k7:=D.cell;have f7:=D.frozen;simp only [sfC] at k7)
   have H:=za (L.out.trans ad);have t:=za S;have ak:=(O.frm (Frm.ae hg7) (fun e=>V e rfl)).far (p:=⟨F.G,12,none⟩) (by show W.heap.size≠F.G;omega) (.slice (some g7) (Ts.length+1) cap7);clear hown7 hg7 hat7 D S ad k7 f7 hP8 hq8 L O k8 V;generalize w7.setCell ⟨F.G,12,none⟩ (.slice (some g7) (Ts.length+1) cap7)=wn at *;go_upto_block 0 with (refine wpList_load_row rfl _ _ rfl _ rfl _ _ _ _ ak Tryz.underlying222 rfl (by rw [h12];exact zaO) ?_)
   have kn:=t.out.blk.cell;simp only [sfC] at kn;have am:=za (HF.out.red wn t.out.frm);go_wp2_with fail
   go_loopw [8,9,10,54] (fun v8 _ _ i wr=>∃ q:Nat,v8=.bool (zgm F.p U q)∧i=.int .i64 q∧q<=12∧wr=wn) (fun _ _ _ i _=>12 - (intOf i).toNat)
   case atStart=>exact⟨0,rfl,rfl,eC _,rfl⟩
   case round =>
    obtain⟨q,rfl,rfl,hq,rfl⟩:=hrel
    by_cases hlt:q<12
    ·have ap:=zdD HU.out.len hlt;have ay:(q:Int)<12:=oM;obtain⟨x,I⟩:∃ x,Hid (U.getD q 0=x):=⟨_,rfl⟩;rw [I.out] at ap;have f:=za (show zgm F.p U (q+1)=(zgm F.p U q || (x != 0&&!zct F.p q)) by rw [← I.out];rfl);cases hb:zgm F.p U q with
     |true =>
      have c:=za (show zgm F.p U (q+1)=true by rw [f.out,hb];rfl);clear f;go_wp2_with fail
      go_roundw
      case rel=>exact⟨q+1,by rw [c.out],gM,oM,trivial⟩
      case measure=>simp [intOf];omega
     |false =>
      by_cases h0:x=0
      ·have c:=za (show zgm F.p U (q+1)=false by rw [f.out,hb,h0];rfl);subst h0;clear f;go_wp2_with fail
       go_roundw
       case rel=>exact⟨q+1,by rw [c.out],gM,oM,trivial⟩
       case measure=>simp [intOf];omega
      ·have H:=HU.out.idx (i:=q) (by rw [I.out];exact h0);obtain⟨aP,aH,v⟩:=am.out.acc;have an:=(zl HF.out.hp).2;obtain⟨aA,y,hA,_,_,hy,aG⟩:=v.bool (k:=q) (by have:=v.length;rw [zbT] at this;omega);have c:=za (show zgm F.p U (q+1)=!y by
        rw [f.out,hb];have:zct F.p q=y:=by unfold zct;rw [eE,hy.out];rfl
        rw [this];simp [h0])
       have aJ:((x:Int) != 0)=true:=by simp;omega
       rw [hA] at kn;have aK:(q:Int)<(F.m':Int):=by have:=v.length;rw [zbT] at this;omega
       clear f v hA an;go_wp2_with fail
       go_roundw
       case rel=>exact⟨q+1,by rw [c.out],gM,oM,trivial⟩
       case measure=>simp [intOf];omega
    ·obtain rfl:q=12:=oM;have hPe:=t.out;have ul:(unC F.p Ts).length=Ts.length:=by simp [unC]
     have B:=hPe.uns;rw [ul] at B;have hqe:=H.out;have ao:=za (show zgm F.p U 12=badS F.p U from rfl);obtain⟨bb,Y⟩:∃ bb,Hid (bb=zgm F.p U 12):=⟨_,rfl⟩;rw [← Y.out];clear t H;go_wp2_with (at_builtin;refine zW F.w9 wr rfl _ _ _ rfl 4 _ 1 1 Tryz.underlying25 zbh rfl dM (.slice r Ts.length s) Ts.length (zak (unC F.p Ts)) _ _ rfl rfl hPe.frm.size B rfl (by simp [Value.oneCell']) lM oM ?_;intro g6 cap6 w6 hown6 hg6 hat6 hlt6;rw [← ul] at hown6;obtain⟨Q,R,ab⟩:=hPe.pushU HF.out (x:=bb) hown6 hg6 hat6;have k6:=Q.cell;have f6:=Q.frozen;simp only [sfC] at k6)
     go_ret;rw [ul] at R ab;have ar:unC F.p (Ts++[U])=unC F.p Ts++[bb]:=by rw [unC_snoc,← ao.out,← Y.out]
     refine⟨Ts.length,Ts++[U],_,k+1,updG M U Ts.length,_,_,_,rfl,.inr ⟨rfl,rfl⟩,sM,zin.m (by rw [ar,eK,eY];exact R) Z.out (by rw [eK,eY];omega) (fun T hT=>?_),hqe.trans ab⟩;rcases List.mem_append.1 hT with h1|h1
     ·exact au.out T h1
     ·obtain rfl:=List.mem_singleton.1 h1;exact HU.out.len
end
section
open Go.WideMaps Go.Maps
def memP (W:World) (g:Nat):List Nat:=(List.range 12).map fun j=>match W.cell? ⟨g,j,none⟩ with|some (.int _ z)=>z.toNat|_=>0
theorem memP_blk (h:Blk W g t (zbm T).toArray)(hT:T.length=12):memP W g=T:=by
 refine List.ext_getElem? fun j=>?_;unfold memP;rw [List.getElem?_map];rcases Nat.lt_or_ge j 12 with a|a
 ·rw [List.getElem?_range a,Option.map_some,h.cell,fJ,zeY oM,eE,List.getElem?_eq_getElem oM];simp
 ·rw [eR (by simpa using a),eR oM];rfl
theorem run_eq_pset (hT:domP T)(hU:domP U) (w:World):(Op.equalIn 10000 222 (zgS T) (zgS U)).run Tryz.prog w=.ok (decide (T=U)) w:=by
 show (Op.equal 222 (zgS T) (zgS U)).run Tryz.prog w=.ok (decide (T=U)) w;obtain⟨l,b⟩:=Option.isSome_iff_exists.1 (zeB hT);obtain⟨k,a⟩:=Option.isSome_iff_exists.1 (zeB hU);obtain⟨r,d,c⟩:=run_equal_deep w (m:=2) oM (ziU.at 0) ziU.wide b a;rw [d]
 congr 1
 rw [Bool.eq_iff_iff,c,decide_eq_true_eq];constructor
 ·rintro rfl;exact pset_inj ((Keyed.of_law ziU.law).inj b a)
 ·rintro rfl;exact Option.some.inj (b.symm.trans a)
def RetSCl (F:Sfx) (T:List Nat) (W:World) (e:Ending) (W':World):Prop:=∃ U,e=.returned (zgS U)∧zbr U 12 (Cl F.s F.p F.L (bq T))∧Ext W W'
section
variable {F:Sfx} {Ts:List (List Nat)} {nx:Nat->Nat->Int} {k:Nat} {M:List Nat->Option Nat} {vs vn vu:Value} {W:World}
theorem ClI.ws (hp:zj p=true)(h0:WS p T0)(h:ClI s p A (bq T0) 12 T):WS p T:=
 ⟨h.len,h.lt,fun i q hb=>cl_row hp (fun q i hb=>h0.row i q hb) (h.sub i q hb)⟩
theorem hidS_iff :l∈hidS s L↔hidL s L l:=by
 unfold hidS hidL;rw [zD,zjv];simp
theorem sf_close (hF:ziH F)(h:zfa F Ts nx k M vs vn vu W) (hT0:WS F.p T0) :
  Calls Tryz.prog 197 #[.pointer (some ⟨F.G,0,none⟩),zgS T0] W (RetSCl F T0 W):=by
 have HF:=za hF;have HM:=za h;have az:=za hT0;have aK:=zck hF.hs;have Hp:=za hF.hp;have bG:=h.blk;have zp:=zero_pset;obtain⟨a4,a1,hid⟩:=(h.red hF).hid;have af:=za hid;have ah:(zbm T0).toArray.size=12:=by simp [zbm,hT0.len]
 have aj:=za (show ClI F.s F.p F.L (bq T0) 12 T0 from hT0.stand.clI);clear hF h hT0 aK hid;unfold zgS
 go_enter Tryz.func197,Tryz.ntmps197
 go_upto_block 0 with fail
 obtain⟨E,b4⟩:=zJ (dE ((W.alloc (.cells (zbm T0).toArray 222)).alloc (.cells (Array.replicate 12 (.int .u16 0)) 222)));have ar:Ext W ((W.alloc (.cells (zbm T0).toArray 222)).alloc (.cells (Array.replicate 12 (.int .u16 0)) 222)):=((dE _).alloc _).alloc _;generalize (W.alloc (.cells (zbm T0).toArray 222)).alloc (.cells (Array.replicate 12 (.int .u16 0)) 222)=w2 at *;rw [← zif] at b4;have aI:=room (memP w2 W.heap.size);go_wp2_with fail
 go_loopw [5,7,8,9] (fun _ _ _ _ wr=>∃ T,Blk wr W.heap.size 222 (zbm T).toArray∧Blk wr (W.heap.size+1) 222 (zbm (eQ 12 0)).toArray∧Hid (ClI F.s F.p F.L (bq T0) 12 T)∧Ext W wr) (fun _ _ _ _ wr=>room (memP wr W.heap.size))
 case atStart=>exact⟨T0,E,b4,aj,ar⟩
 case round =>
  clear E b4 ar aj ah aI;obtain⟨u,aN⟩:∃ u,u=wr:=⟨_,rfl⟩;subst aN;obtain⟨T,E,b4,t,Y⟩:=hrel;have h12:(zbm T).toArray.size=12:=by simp [zbm,t.out.len]
  have J:=eX u 222 (Array.replicate 12 (.int .u16 0));rw [← zif] at J;have au:Ext u (u.alloc (.cells (Array.replicate 12 (.int .u16 0)) 222)):=(dE _).alloc _;go_upto_region 2 with (first
    |(refine wpList_load_row rfl _ _ rfl _ rfl _ _ _ _ E Tryz.underlying222 rfl (by rw [h12];exact zaO) ?_)
    |(refine zcW rfl _ _ rfl _ rfl rfl J sM t.out.len ?_;intro w5 r hf5))
  have a:Ext u w5:=au.frm hf5 (fun q hq e=>by subst e;omega);have aC:=E.ext a;have BG:∀ X,Ext u X->∀ i,X.cell? ⟨F.G,i,none⟩=(sfC F vs vn vu)[i]?:=fun X hX=>(bG.ext (Y.trans hX)).cell;simp only [sfC] at BG;have I:=za E;have aE:=za b4;obtain⟨H,an⟩:∃ H,Hid (H=u.heap.size):=⟨_,rfl⟩;rw [← an.out] at r hf5 ⊢;have b:Hid (ClI F.s F.p F.L (bq T0) 12 T∧(∀ i q,zdJ T i q->zdJ T i q)∧∀ (c l:Nat),c<0->(hidS F.s F.L)[c]?=some l->∃ V,MvP F.s F.p l T 12 V∧Has T V 12):=⟨t.out,fun _ _ h=>h,fun c l h=>oM⟩;clear E b4 aC hf5 J au;obtain⟨o,y⟩:∃ o,Hid (o=hidS F.s F.L):=⟨_,rfl⟩;rw [← y.out] at BG b;have Hh:=za af.out;rw [← y.out] at Hh;obtain⟨HA,ai⟩:∃ HA,Hid (HA=F.HA):=⟨_,rfl⟩;rw [← ai.out] at BG Hh;have a0:o.length<=6:=by rw [y.out];exact zA _ 6
  go_wp2_with fail
  go_loopw [7,8,9,16] (fun _ _ _ i wr=>∃ (j:Nat) (f:List Nat),i=.int .i64 j∧j<=o.length∧Blk wr H 222 (zbm f).toArray∧Ext u wr∧Hid (ClI F.s F.p F.L (bq T0) 12 f∧(∀ i q,zdJ T i q->zdJ f i q)∧∀ (c l:Nat),c<j->o[c]?=some l->∃ V,MvP F.s F.p l T 12 V∧Has f V 12)) (fun _ _ _ i _=>o.length - (intOf i).toNat)
  case atStart=>exact⟨0,T,rfl,eC _,r,a,b⟩
  case round =>
   clear r a b;obtain⟨j,f,rfl,hj,r,a,b⟩:=hrel
   by_cases hjl:j<o.length
   ·obtain⟨bl,ol,l,rfl,_,_,hl,O⟩:=(Hh.out.ext zbq.ok (Y.trans a)).num hjl;have ao:hidL F.s F.L l:=hidS_iff.1 (by rw [← y.out];exact dG hl.out);have ag:=za ao;have aV:(j:Int)<(o.length:Int):=oM;have n:=I.out.ext a;have aD:=BG wr a;clear ao;go_upto_region 6 with (first
     |(refine wpList_load_row rfl _ _ rfl _ rfl _ _ _ _ n Tryz.underlying222 rfl (by rw [h12];exact zaO) ?_)
     |(go_at_call 198;refine (sf_move HF.out (HM.out.ext HF.out (Y.trans a)) (ClI.ws Hp.out az.out t.out) ag.out.1).mono ?_;rintro e w6 ⟨V,rfl,hV,Z⟩))
    have D:=a.trans Z;have al:=r.ext Z;have ak:=za hV.1;have HV:=za hV;have d:Hid ((ClI F.s F.p F.L (bq T0) 12 f∧(∀ i q,zdJ T i q->zdJ f i q)∧∀ (c l:Nat),c<j->o[c]?=some l->∃ V,MvP F.s F.p l T 12 V∧Has f V 12)∧Has f V 0):=⟨b.out,Has.zero _ _⟩;clear b hV r O n aD Z;go_wp2_with fail
    go_loopw [8,9,24] (fun _ _ i wr=>∃ (k:Nat) (g:List Nat),i=.int .i64 k∧k<=12∧Blk wr H 222 (zbm g).toArray∧Ext u wr∧Hid ((ClI F.s F.p F.L (bq T0) 12 g∧(∀ i q,zdJ T i q->zdJ g i q)∧∀ (c l:Nat),c<j->o[c]?=some l->∃ V,MvP F.s F.p l T 12 V∧Has g V 12)∧Has g V k)) (fun _ _ i _=>12 - (intOf i).toNat)
    case atStart=>exact⟨0,f,rfl,eC _,al,D,d⟩
    case round =>
     clear al D d;obtain⟨k,g,rfl,hk,r,a,d⟩:=hrel
     by_cases hlt:k<12
     ·have aH:∀ X:World,(Instr.index 222 (zgS V) (.int .i64 (k:Int))).run Tryz.prog X=.ok (.int .u16 (V.getD k 0:Nat)) X:=fun X=>zdD ak.out hlt X;have m:=za d.out.1.1.len;have a2:(k:Int)<12:=oM;obtain⟨x,ab⟩:∃ x,Hid (V.getD k 0=x):=⟨_,rfl⟩;obtain⟨z,hz⟩:∃ z,Hid (g.getD k 0=z):=⟨_,rfl⟩;rw [ab.out] at aH;have aq:x<65536:=by rw [← ab.out];exact zbK HV.out.2.1 k
      have av:z<65536:=by rw [← hz.out];exact zbK d.out.1.1.lt k
      have a3:=u16_or_nat z x av aq;have c5:wr.cell? ⟨H,k,none⟩=some (.int .u16 (z:Nat)):=by
       rw [r.cell,fJ,zeY (by rw [m.out];exact hlt),hz.out]
      have f5:=r.frozen k;have S:k<g.length:=by rw [m.out];exact hlt
      have B:Hid ((ClI F.s F.p F.L (bq T0) 12 (g.set k (z|||x))∧(∀ i q,zdJ T i q->zdJ (g.set k (z|||x)) i q)∧∀ (c l:Nat),c<j->o[c]?=some l->∃ V,MvP F.s F.p l T 12 V∧Has (g.set k (z|||x)) V 12)∧Has (g.set k (z|||x)) V (k+1)):=by
       obtain⟨⟨i1,i2,i3⟩,i4⟩:=d.out;rw [← hz.out,← ab.out];exact⟨⟨i1.join t.out HV.out ag.out hlt,fun i q hb=>(zcP S _ _ _).2 (.inl (i2 i q hb)),fun c l h1 h2=>by
        obtain⟨V,v1,v2⟩:=i3 c l h1 h2;exact⟨V,v1,v2.set S⟩⟩,i4.step S⟩
      have aG:u.heap.size<=H:=by rw [an.out];exact dI _
      clear d;go_wp2_with fail
      go_roundw
      case rel=>exact⟨k+1,g.set k (z|||x),gM,oM,by rw [← zka];exact r.ab k _,a.setCell (p:=⟨H,k,none⟩) aG _,B⟩
      case measure=>simp [intOf];omega
     ·have aX:12<=k:=oM;have B:Hid (ClI F.s F.p F.L (bq T0) 12 g∧(∀ i q,zdJ T i q->zdJ g i q)∧∀ (c l:Nat),c<j+1->o[c]?=some l->∃ V,MvP F.s F.p l T 12 V∧Has g V 12):=by
       obtain⟨⟨i1,i2,i3⟩,i4⟩:=d.out;refine⟨i1,i2,fun c l' h1 h2=>?_⟩;rcases Nat.lt_or_eq_of_le (Nat.le_of_lt_succ h1) with h3|rfl
       ·exact i3 c l' h3 h2
       ·have h4:=hl.out;rw [h2] at h4;obtain rfl:=Option.some.inj h4;exact⟨V,HV.out,fun i q hi hb=>i4 i q oM hb⟩
      clear d;go_wp2_with fail
      go_roundw
      case rel=>exact⟨j+1,g,gM,oM,r,a,B⟩
      case measure=>simp [intOf];omega
   ·have aW:¬ (j:Int)<(o.length:Int):=oM;have O:∀ l,hidL F.s F.L l->∃ V,MvP F.s F.p l T 12 V∧Has f V 12:=fun l hl=>by
     obtain⟨c,R⟩:=List.getElem?_of_mem (hidS_iff.2 hl);rw [← y.out] at R;exact b.out.2.2 c l (by have:=(List.getElem?_eq_some_iff.1 R).1;omega) R
    have n:=I.out.ext a;have ae:=aE.out.ext a;have m:(zbm f).toArray.size=12:=by simp [zbm,b.out.1.len]
    have Q:=run_eq_pset (T:=f) (U:=T) ⟨b.out.1.len,b.out.1.lt⟩ ⟨t.out.len,t.out.lt⟩;unfold zgS at Q
    by_cases hMT:f=T
    ·have C:decide (f=T)=true:=by simpa using hMT
     rw [C] at Q;have ay:=za hMT;clear hMT;go_wp2_with (first
      |(refine wpList_load_row rfl _ _ rfl _ rfl _ _ _ _ r Tryz.underlying222 rfl (by rw [m];exact zaO) ?_)
      |(refine wpList_load_row rfl _ _ rfl _ rfl _ _ _ _ n Tryz.underlying222 rfl (by rw [h12];exact zaO) ?_)
      |(refine zcW rfl _ _ rfl _ rfl rfl ae sM t.out.len ?_;intro w7 b7 hf7))
     have aL:=(Y.trans a).size;have aa:Ext W w7:=(Y.trans a).frm hf7 (fun q hq e=>by subst e;omega);have am:zbr T 12 (Cl F.s F.p F.L (bq T0)):=t.out.stop (fun l hl=>by
      obtain⟨V,v1,v2⟩:=O l hl;rw [ay.out] at v2;exact⟨V,v1,v2⟩)
     exact bodyPost_ret (v:=zgS T) (results_cell_row (p:=4) (ty:=222) Tryz.results197 _ _ (W.heap.size+1) _ _ _ _ rfl b7 Tryz.underlying222 rfl (by rw [h12];exact zaO)) rfl ⟨T,rfl,am,aa⟩
    ·have C:decide (f=T)=false:=by simpa using hMT
     rw [C] at Q;have aJ:=za (room_grow (by rw [t.out.len,b.out.1.len]) b.out.1.lt b.out.2.1 (fun e=>hMT e.symm));have ap:=za (memP_blk I.out t.out.len);clear hMT;go_wp2_with (first
      |(refine wpList_load_row rfl _ _ rfl _ rfl _ _ _ _ r Tryz.underlying222 rfl (by rw [m];exact zaO) ?_)
      |(refine wpList_load_row rfl _ _ rfl _ rfl _ _ _ _ n Tryz.underlying222 rfl (by rw [h12];exact zaO) ?_)
      |(refine zcW rfl _ _ rfl _ rfl rfl n t.out.len b.out.1.len ?_;intro w7 b7 hf7))
     have aL:=(Y.trans a).size;have aa:Ext W w7:=(Y.trans a).frm hf7 (fun q hq e=>by subst e;omega);go_roundw
     case rel=>exact⟨f,b7,ae.frm hf7 oM,za b.out.1,aa⟩
     case measure =>
      show room (memP w7 W.heap.size)<room (memP u W.heap.size);rw [memP_blk b7 b.out.1.len,ap.out];exact aJ.out
end
end
theorem MvP.ws (h:MvP s p l T 12 V)(hp:zj p=true)(hl:l<6)(hT:WS p T):WS p V:=
 ⟨h.1,h.2.1,fun j q' hb=>by
  obtain⟨i,q,-,h2,-,rfl⟩:=(h.2.2 j q').1 hb
  exact zer hp (hT.row i q h2) hl⟩
theorem zjD (hT:WS p T)(hV:MvP s p l T 12 V)(hU:zbr U 12 (Cl s p A (bq V))):Lead s p A l T U:=by
 unfold Lead;rw [← (hV.fin hT.stand).eq];exact hU
section
variable {F:Sfx} {Ts:List (List Nat)} {nx:Nat->Nat->Int} {k:Nat} {M:List Nat->Option Nat} {vs vn vu:Value} {W W':World}
theorem zfa.setN {v:Int}(h:zfa F Ts nx k M vs (.slice (some g) n c) vu W)(hq:q<Ts.length)(hl:l<6) :
  zfa F Ts (fun k' l'=>if k'=q∧l'=l then v else nx k' l') k M vs (.slice (some g) n c) vu (W.setCell ⟨g,q*6+l,none⟩ v)∧Kq (sfS F vs (.slice (some g) n c) vu) W (W.setCell ⟨g,q*6+l,none⟩ v) (sfS F vs (.slice (some g) n c) vu):=by
 have d:=eB W g (q*6+l) (.int .i64 v);have a:=h.next;have m:(Value.slice (some g) n c).ownBlock=some g:=rfl;have i:n=Ts.length:=by
  rcases a.2 with ⟨h1,h2⟩|⟨r,p,o,h1,_⟩
  ·injection h1 with h1;cases h1
  ·injection h1
 subst i;have f:=(a.stored (q*6+l) (.int .i64 v)).1;rw [nxC_set hq hl] at f;refine⟨⟨⟨h.frm.os,h.frm.tape,h.frm.output,by simpa using h.frm.size,fun j hj hn'=>?_⟩,h.blk.far (fun e=>zK a h.blk dM m e.symm) _,zf h.sets d (fun b hb e=>zas h.sets a dM hb (by rw [e];rfl)),f,zf h.uns d (fun b hb e=>zas h.uns a dM hb (by rw [e];rfl)),h.map.frm d (fun e=>h.map.aj a (by rw [e];rfl)),h.num,h.le,h.ws⟩,d.mono (fun b _ e=>.inr (.inr (.inl (by rw [e];rfl)))),fun b hb=>.inl hb⟩;refine (d.block j (oH h.frm.size) (fun e=>?_)).trans (h.frm.block j hj hn');have:=(a.lt g m).1;omega
def RetSAf (F:Sfx) (Ts:List (List Nat)) (T:List Nat) (_n l:Nat) (S:Nat->Prop) (W:World) (e:Ending) (W':World):Prop:=
 ∃ (j:Nat) (Ts':List (List Nat)) (nx':Nat->Nat->Int) (k':Nat) (M':List Nat->Option Nat) (vs' vn' vu':Value) (V:List Nat),e=.returned (.int .i64 (j:Int))∧SfI F.s F.p F.L Ts' nx'∧Ts'.length<=Ts.length+1∧(∀ (i:Nat) (U:List Nat),Ts[i]?=some U->Ts'[i]?=some U)∧Ts'[j]?=some V∧Lead F.s F.p F.L l T V ∧
  zfa F Ts' nx' k' M' vs' vn' vu' W'∧Kq S W W' (sfS F vs' vn' vu')
theorem sf_after (hF:ziH F)(h:zfa F Ts nx k M vs vn vu W)(hI:SfI F.s F.p F.L Ts nx)  (hT:Ts[n]?=some T)(hl:l<6)(hn:Ts.length<=200000000000) :
  Calls Tryz.prog 108 #[.pointer (some ⟨F.G,0,none⟩),n,l] W (RetSAf F Ts T n l (sfS F vs vn vu) W):=by
 have HF:=za hF;have S:=za hI;have Y:=za hT;have D:=(List.getElem?_eq_some_iff.1 hT).1;have an:(n:Int)<(Ts.length:Int):=oM;have aB:(l:Int)<6:=oM;have a:=za (hI.ws T (dG hT));obtain⟨As,cs,rfl⟩:=zi h.sets;obtain⟨An,cn,rfl⟩:=zi h.next;obtain⟨gn,rfl,ay,-⟩:=zad h.next oM;obtain⟨gs,rfl,az,-⟩:=zad h.sets oM;have y:=za h;have kG:=h.blk.cell;simp only [sfC] at kG;have cN:W.cell? ⟨gn,n*6+l,none⟩=some (.int .i64 (nx n l)):=by rw [h.next.cellAt _ oM,zfw D hl]
 have ag:=za (hI.nx n l D hl);clear hF h hI hT;rcases ag.out with m|⟨j,T1,U,hj,C,g,B⟩
 ·rw [m] at cN;have f:W.rangeAt gs (n*12) (zbm T):=fun i u hu=>by
   have hi:i<12:=by have:=(List.getElem?_eq_some_iff.1 hu).1;rw [zbR,a.out.len] at this;exact this
   rw [y.out.sets.cellAt _ oM];exact stC_drop y.out.ws Y.out i u hu
  have h12:(zbm T).length=12:=by rw [zbR];exact a.out.len
  clear m
  go_enter Tryz.func108,Tryz.ntmps108
  go_upto_region 3 with (first
   |(refine wpList_load_mid rfl _ _ rfl gs (n*12) rfl (zbm T) _ f Tryz.underlying222 rfl (by rw [h12];exact zaO) ?_)
   |(go_at_call 198;refine (sf_move HF.out y.out a.out hl).mono ?_;rintro e w1 ⟨V,rfl,z,hx1⟩)
   |(go_at_call 197;refine (sf_close HF.out (y.out.ext HF.out hx1) (z.ws HF.out.hp hl a.out)).mono ?_;rintro e w2 ⟨U,rfl,g,R⟩)
   |(go_at_call 196;refine (sf_add HF.out (y.out.ext HF.out (hx1.trans R)) ((zjD a.out z g).ws HF.out.hp hl a.out) oM).mono ?_;rintro e w3 ⟨j,c,aj,k',M',aG,aF,aH,rfl,E,r,b,H⟩))
  have Q:c.length<=Ts.length+1∧(∀ (i:Nat) (U:List Nat),Ts[i]?=some U->c[i]?=some U)∧SfI F.s F.p F.L c aj:=by
   rcases E with ⟨rfl,rfl⟩|⟨rfl,rfl⟩
   ·exact⟨oM,fun _ _ h=>h,S.out⟩
   ·exact⟨sM,fun i U h=>by rw [List.getElem?_append_left (List.getElem?_eq_some_iff.1 h).1];exact h,S.out.add ((zjD a.out z g).ws HF.out.hp hl a.out)⟩
  obtain⟨ai,x,O⟩:=Q;have t:=x n T Y.out;have ab:=za x;have o:n<c.length:=(List.getElem?_eq_some_iff.1 t).1;have af:(n:Int)<(c.length:Int):=oM;obtain⟨aq,av,rfl⟩:=zi b.next;obtain⟨q,rfl,-,-⟩:=zad b.next oM;have k3:=b.blk.cell;simp only [sfC] at k3;obtain⟨o0,g0⟩:=zbd b.next (n*6+l) oM;have f0:=b.next.frozenAt (n*6+l);obtain⟨d,I⟩:=b.setN (v:=(j:Int)) o hl;have ae:=za (O.set (k:=n) (l:=l) (j:=j) t r (zjD a.out z g));have Z:=za r;have aa:=za (zjD a.out z g);have ah:=za ((Kq.back (hx1.trans R) H).trans I);clear t x O r z g H I E;go_upto_region 4 with fail
  have k4:=d.blk.cell;simp only [sfC] at k4;have c4:(w3.setCell ⟨q,n*6+l,none⟩ (.int .i64 (j:Int))).cell? ⟨q,n*6+l,none⟩=some (.int .i64 (j:Int)):=by
   rw [d.next.cellAt _ oM,zfw o hl,if_pos ⟨rfl,rfl⟩]
  have X:=za d;clear k3 g0 f0 b d;generalize w3.setCell ⟨q,n*6+l,none⟩ (.int .i64 (j:Int))=w4 at *;go_wp2_with fail
  go_ret;exact⟨j,c,_,k',M',_,_,_,U,rfl,ae.out,ai,ab.out,Z.out,aa.out,X.out,ah.out⟩
 ·rw [hj] at cN;have J:=za (show RetSAf F Ts T n l (sfS F (.slice (some gs) Ts.length cs) (.slice (some gn) Ts.length cn) vu) W (.returned (.int .i64 (j:Int))) W from by
   obtain rfl:=Option.some.inj (Y.out.symm.trans C);exact⟨j,Ts,nx,k,M,_,_,_,U,rfl,S.out,oM,fun _ _ h=>h,g,B,y.out,Kq.refl⟩)
  have aA:¬ ((j:Int)<0):=oM;clear hj C g B
  go_enter Tryz.func108,Tryz.ntmps108
  go_wp2_with fail
  go_ret;exact J.out
end
def zhs (F:Sfx):zbx:=fun B W S=>∃ (Ts:List (List Nat)) (nx:Nat->Nat->Int) (k:Nat) (M:List Nat->Option Nat) (vs vn vu:Value),SfI F.s F.p F.L Ts nx∧zfa F Ts nx k M vs vn vu W∧Ts.length<=10000*B+1∧S=sfS F vs vn vu
theorem zhs.ok {F:Sfx}(hF:ziH F):zbx.Ok F.lo (zhs F) where
 lt:=fun ⟨_,_,_,_,_,_,_,_,h,_,e⟩ j hj=>by subst e;exact h.lt hj
 low:=fun ⟨_,_,_,_,_,_,_,_,h,_,e⟩ j hj=>by subst e;exact h.low hF hj
 keep:=fun ⟨Ts,nx,k,M,vs,vn,vu,hI,h,hl,e⟩ hf hT=>by subst e;exact⟨Ts,nx,k,M,vs,vn,vu,hI,h.frmT hF hf hT,hl,rfl⟩
 more:=fun ⟨Ts,nx,k,M,vs,vn,vu,hI,h,hl,e⟩ hBC=>⟨Ts,nx,k,M,vs,vn,vu,hI,h,oM,e⟩
section
variable {F:Sfx} {Ts:List (List Nat)} {nx:Nat->Nat->Int} {k:Nat} {M:List Nat->Option Nat} {vs vn vu:Value} {W:World}
theorem zfa.bad {A:Option Addr} (h:zfa F Ts nx k M vs vn (.slice A n c) W)(hT:Ts[q]?=some T):∃ g,A=some ⟨g,0,none⟩∧n=Ts.length∧W.cell? ⟨g,q,none⟩=some (.bool (badS F.p T)):=by
 have b:=h.uns;have f:=(List.getElem?_eq_some_iff.1 hT).1;have a:n=Ts.length:=by
  rcases b.2 with ⟨h1,h2⟩|⟨j,i,d,h1,_⟩
  ·injection h1 with _ h3;omega
  ·injection h1
 subst a;obtain⟨g,rfl,-,-⟩:=zad b oM;refine⟨g,rfl,rfl,?_⟩;rw [b.cellAt q oM];simp [zak,unC,hT]
theorem sf_safe (hF:ziH F)   (hJ:zhs F B W S)(hB:B<10000000)(hx:inB x F.L=true)(hxs:x.size<=9000) :
  Calls Tryz.prog 122 #[.pointer (some ⟨F.G,0,none⟩),x] W (RetO (zhs F) (.bool (zo F.s F.p F.L x)) (B+1) S W):=by
 have HF:=za hF;have Hx:=za hx;have Hb:=za (fun k hk=>zaQ (zaT hx) (k:=k) hk);obtain⟨Ts,nx,k,M,y,u,C,hI,h,hl,rfl⟩:=hJ;obtain⟨Z,I,U⟩:=hI.start;have g:Hid (SfI F.s F.p F.L Ts nx∧Ts[0]?=some Z∧SfW F.s F.p F.L x 0 Z∧zfa F Ts nx k M y u C W∧Kq (sfS F y u C) W W (sfS F y u C)∧Ts.length<=10000*B+1+0):=⟨hI,I,SfW.zero U,h,Kq.refl,oM⟩;clear hF hx hI I U h hl
 go_enter Tryz.func122,Tryz.ntmps122
 go_upto_block 0 with fail
 go_wp2_with fail
 go_loopw [5,6] (fun n i wr=>∃ (q a:Nat) (c:List (List Nat)) (m:Nat->Nat->Int) (k':Nat) (Y:List Nat->Option Nat) (r o D:Value) (T:List Nat),n=.int .i64 q∧i=.int .i64 a∧a<=x.size∧Hid (SfI F.s F.p F.L c m∧c[q]?=some T∧SfW F.s F.p F.L x a T∧zfa F c m k' Y r o D wr∧Kq (sfS F y u C) W wr (sfS F r o D)∧c.length<=10000*B+1+a)) (fun _ i _=>x.size - (intOf i).toNat)
 case atStart=>exact⟨0,0,Ts,nx,k,M,y,u,C,Z,rfl,rfl,eC _,g⟩
 case round =>
  clear g;obtain⟨q,a,c,m,k',Y,r,o,D,T,rfl,rfl,ha,X⟩:=hrel;obtain⟨h1,h2,h3,h4,h5,h6⟩:=X.out;obtain⟨Au,nu,rfl⟩:=zi h4.uns;obtain⟨gu,rfl,-,cu⟩:=h4.bad h2;have kG:=h4.blk.cell;simp only [sfC] at kG;have av:(q:Int)<(c.length:Int):=by have:=(List.getElem?_eq_some_iff.1 h2).1;omega
  have b:(a=x.size∨badS F.p T=true)->Hid (RetO (zhs F) (.bool (zo F.s F.p F.L x)) (B+1) (sfS F y u C) W (.returned (.bool (!badS F.p T))) wr):=fun he=>by
   refine⟨_,by rw [h3.fin Hx.out (he.elim (fun e=>.inl (by rw [e,zgh])) (fun e=>.inr e))],⟨⟨c,m,k',Y,r,o,_,h1,h4,oM,rfl⟩,h5.frm,h5.new⟩⟩
  by_cases hlt:a<x.size
  ·have aj:(a:Int)<(x.size:Int):=oM;cases hb:badS F.p T with
   |true =>
    have d:=b (.inr hb);rw [hb] at d cu;clear b h1 h2 h3 h4 h5 h6 X;go_wp2_with fail
    go_ret;exact d.out
   |false =>
    have H:=za hb;rw [hb] at cu;have aq:=Hb.out a hlt;have J:=za (zev hlt);have Q:=za (show ltr (x[a].toNat)=((x[a].toNat - 97:Nat):Int) by unfold ltr;rw [if_neg oM];omega);obtain⟨l,O⟩:∃ l,Hid (l=x[a].toNat - 97):=⟨x[a].toNat - 97,za rfl⟩;rw [← O.out] at J Q;have ab:l<6:=oH O.out;have H1:=za h1;have H2:=za h2;have H3:=za h3;have H4:=za h4;have H5:=za h5;clear b h1 h2 h3 h4 h5 X hb;go_wp2_with (first
     |(go_at_call 121;refine (zcd x a hlt _).mono ?_;rw [Q.out];rintro e w6 ⟨rfl,rfl⟩)
     |(go_at_call 108;refine (sf_after HF.out H4.out H1.out H2.out ab oM).mono ?_;rintro e w6 ⟨j,f,t,k2,M2,z,v,E,V,rfl,i1,i2,i3,i4,i5,i6,i7⟩))
    have R:Hid (SfI F.s F.p F.L f t∧f[j]?=some V∧SfW F.s F.p F.L x (a+1) V∧zfa F f t k2 M2 z v E w6∧Kq (sfS F y u C) W w6 (sfS F z v E)∧f.length<=10000*B+1+(a+1)):=
     ⟨i1,i4,H3.out.step H.out J.out i5,i6,H5.out.trans i7,oM⟩
    go_roundw
    case rel=>exact⟨j,a+1,f,t,k2,M2,z,v,E,V,rfl,gM,oM,R⟩
    case measure=>simp [intOf];omega
  ·have ar:¬ (a:Int)<(x.size:Int):=oM;have d:=b (.inl oM);clear b h1 h2 h3 h4 h5 h6 X;go_wp2_with fail
   go_ret;exact d.out
end
theorem Tab.frm {T:Nat->Prop} {W':World}(h:Tab w)(hx:Ext w W)(hf:Frm T W W')(hT:∀ q,T q->w.heap.size<=q):Tab W':=fun j hj=>by
 have h1:=hx.aa (h j hj)
 have h0:=World.block_lt_of_cell? w _ (h j hj)
 have h2:=World.block_lt_of_cell? W _ h1
 exact (World.cell?_of_block (w:=W) (hf.block _ h2 (fun e=>by have:=hT _ e;omega))).trans h1
structure NsI (F:Sfx) (s:Sys) (p:Aut) (L:Nat) (w wx:World):Prop where
 ok:ziH F
 hs:F.s=s
 hp:F.p=p
 hL:F.L=L
 b0:F.b0=w.heap.size
 blk:Blk wx F.G 152 (sfC F (.slice none 0 0) (.slice none 0 0) (.slice none 0 0))
 map:zeq 222 litP domP wx F.mb 0 (fun _=>none)
 w9:wx=F.w9
 ext:Ext w wx
section
variable {w W:World} {lo hi n c m d m' d' L:Nat} {A B B':Option Addr} {s:Sys} {p:Aut}
theorem ns_fin {mv rc hc mb base:Nat} {RA HA:Option Addr}(hs:zk s=true)(hp:zj p=true)(hL:L<64)(hP:zF w lo hi B m B' m' p)(h0:Ext w0 w)(hhi:hi<=w0.heap.size)(hT:Tab w0)(hw1:Ext w w1)(hx:Ext w1 W)(hmvg:w.heap.size<=mv)(hbg:w.heap.size<=base)
  (hmv:MovB W mv s.edges) (htb:∃ bt,w.heap.size<=bt∧W.ownsRow bt 166 6 (.slice RA p.next.length rc) p.next.length (tbC p.next.length (aGo p))) (hhd:W.ownsRow base 3 1 (.slice HA (hidS s L).length hc) (hidS s L).length (zac (hidS s L))) (hmp:zeq 222 litP domP W mb 0 (fun _=>none)) (hmb:w.heap.size<=mb) :
  ∃ F:Sfx,Value.pointer (some W.heap.size)=.pointer (some ⟨F.G,0,none⟩)∧F.lo=w0.heap.size∧NsI F s p L w (W.alloc (.cells #[s.al,s.st,.slice A n c,p.al,.slice B m d,.slice B' m' d',L,.pointer (some mv),.slice RA p.next.length rc,.slice HA (hidS s L).length hc,(),.map (some mb),(),()] 152)):=by
 have hb:=eX W 152 #[s.al,s.st,.slice A n c,p.al,.slice B m d,.slice B' m' d',L,.pointer (some mv),.slice RA p.next.length rc,.slice HA (hidS s L).length hc,(),.map (some mb),(),()];have f:Ext W (W.alloc (.cells #[s.al,s.st,.slice A n c,p.al,.slice B m d,.slice B' m' d',L,.pointer (some mv),.slice RA p.next.length rc,.slice HA (hidS s L).length hc,(),.map (some mb),(),()] 152)):=(dE _).alloc _;generalize W.alloc _=X at *;have u:=(hw1.trans hx).size;have r:=hb.lt;have D:=hmp.lt;have g:=(hw1.trans hx).trans f;have i:=hmp.ext f;obtain⟨y,j,C⟩:=hmv.ext f;obtain⟨bt,o,t⟩:=htb;have h:=zh t f;have x:=zh hhd f;refine⟨⟨s,p,L,A,n,c,B,m,d,B',m',d',mv,RA,rc,HA,hc,W.heap.size,mb,w.heap.size,w0.heap.size,X⟩,rfl,rfl,⟨⟨hs,hp,hL,fun Y hY=>?_,h0.size,u,r,hmb,i.lt,by show mb≠W.heap.size;omega⟩,rfl,rfl,rfl,rfl,hb,i,rfl,g⟩⟩;have h2:∀ q,Sfx.two ⟨s,p,L,A,n,c,B,m,d,B',m',d',mv,RA,rc,HA,hc,W.heap.size,mb,w.heap.size,w0.heap.size,X⟩ q->w0.heap.size<=q:=fun q hq=>by
  have z:=h0.size;rcases hq with e|e|e
  ·have l:q=W.heap.size:=e;omega
  ·have l:q=mb:=e;omega
  ·exact e.1
 have h3:∀ {e:TypeId} {sz k b:Nat} {v:Value} {xs:List Value},X.ownsRow b e sz v k xs->w.heap.size<=b->e≠152->∀ q,v.ownBlock=some q->¬ Sfx.two ⟨s,p,L,A,n,c,B,m,d,B',m',d',mv,RA,rc,HA,hc,W.heap.size,mb,w.heap.size,w0.heap.size,X⟩ q:=fun ho hbb hne q hq h=>by
  rcases h with e|e|e
  ·exact zK ho hb hne hq e
  ·have l:q=mb:=e;subst l;exact i.aj ho hq
  ·have h4:q<w.heap.size:=e.2;have h5:=(ho.lt q hq).1;omega
 have a:Frm (Sfx.two ⟨s,p,L,A,n,c,B,m,d,B',m',d',mv,RA,rc,HA,hc,W.heap.size,mb,w.heap.size,w0.heap.size,X⟩) X Y:=hY;refine⟨hT.frm (h0.trans g) a h2,MovB.at_ ⟨y,j.frm a (fun h=>?_),C⟩,?_,?_,⟨lo,hi,((hP.2.2.ext g).frm a (fun q _ h5 h6=>by have:=h2 q h6;omega))⟩⟩
 ·rcases h with e|e|e
  ·exact j.diff hb dM e
  ·exact i.far j e
  ·have h4:mv<w.heap.size:=e.2;omega
 ·exact TbO.at_ ⟨bt,zf h a (h3 h o dM)⟩
 ·exact⟨_,_,Lst.ai (zf x a (h3 x hbg dM))⟩
def T00:List Nat:=(eQ 12 0).set 0 1
theorem zfG:zbr T00 12 (fun q i=>q=0∧i=0):=zid (n:=12) dM
theorem T00_ws (h:0<p.next.length):WS p T00:=⟨zfG.1,zfG.2.1,fun i q hb=>by rw [((zfG.2.2 i q).1 hb).2];exact h⟩
def RetNs (s:Sys) (p:Aut) (L z:Nat) (w:World) (e:Ending) (w':World):Prop:=∃ (F:Sfx) (S:Nat->Prop),e=.returned (.pointer (some ⟨F.G,0,none⟩))∧ziH F∧F.s=s∧F.p=p∧F.L=L∧F.lo=z∧F.b0=w.heap.size∧zhs F 0 w' S∧Ext w w'
theorem yY14b2 {P:Prop}(h:P:=by
 go_simp;refine hK.out _ _ ?_;refine pT ?_;refine uQ ?_;refine zg ?_;go_wp2_with fail
 go_meet;obtain⟨F,f1,f2,f3⟩:=zki;exact⟨F,f1,f2,f3⟩
 ):P:=h
theorem yY14a3 {P:Prop}(h:P:=by
 replace htb:=zh htb hy13;refine uQ ?_;refine zb fun K hK=>?_;have zki:=ns_fin (A:=A) (n:=n) (c:=c) (d:=d) (d':=d') Hs.out Hp.out hL64 HP0.out h0 hhi Htab.out hw1 hxw13 hmvw hbhd hmv ⟨bt,hbtw,htb⟩ hhd hmp0 hmbge;exact yY14b2
 ):P:=h
theorem yY14a4 {P:Prop}(h:P:=by
 exact yY14b2
 ):P:=h
theorem ziv (h0:Ext w0 w)(hS:zV w lo hi A n s)(hP:zF w lo hi B m B' m' p)(hs:zk s=true)(hp:zj p=true)(hL64:L<64)(hhi:hi<=w0.heap.size)(hT:Tab w0) :
  Calls Tryz.prog 106 #[.agg #[s.al,s.st,.slice A n c,p.al,.slice B m d,.slice B' m' d',L]] w (RetNs s p L w0.heap.size w):=by
 have Hs:=za hs;have Hp:=za hp;have HP0:=za hP;have Htab:=za hT;have C:=zck hs;have J:=za (show Few 16 s.edges from fun e he=>by have:=C.2.2.1 e he;have:=C.2.1;omega);obtain⟨aj,ak⟩:=zG hs;have aK:s.al.toNat<64:=oM;have D:Sm (diff s.al.toNat L):=by
  have:=diff_le s.al.toNat L;unfold Sm;omega
 have aC:bits .andNot .i64 s.al (L:Int)=((diff s.al.toNat L:Nat):Int):=by
  have h1:=bits_andNot (a:=s.al.toNat) (b:=L) tM tM;rwa [show ((s.al.toNat:Nat):Int)=s.al by omega] at h1
 have hw1:Ext w (w.alloc (.cells #[s.al,s.st,.slice A n c,p.al,.slice B m d,.slice B' m' d',L] 70)):=(dE _).alloc _;have b1:=eX w 70 #[s.al,s.st,.slice A n c,p.al,.slice B m d,.slice B' m' d',L];have HS:=za (fun X (hX:Ext (w.alloc (.cells #[s.al,s.st,.slice A n c,p.al,.slice B m d,.slice B' m' d',L] 70)) X)=>hS.ext (hw1.trans hX));have HP:=za (fun X (hX:Ext (w.alloc (.cells #[s.al,s.st,.slice A n c,p.al,.slice B m d,.slice B' m' d',L] 70)) X)=>hP.ext (hw1.trans hX));have aN:=(zl hp).2.1;clear hs hp hS hP hT C aj ak;have aL:=@run_makeMap Tryz.prog
 go_enter Tryz.func106,Tryz.ntmps106
 go_upto_region 1 with fail
 generalize w.alloc _=w1 at *;have aD:=hw1.size
 go_cut [3] (fun v3 wx=>∃ F:Sfx,v3=.pointer (some ⟨F.G,0,none⟩)∧F.lo=w0.heap.size∧NsI F s p L w wx)
 case first =>
  have CX:∀ X,Ext w1 X->∀ q,X.cell? ⟨w.heap.size,q,none⟩=#[Value.int .i64 s.al,.int .i64 s.st,.slice A n c,.int .i64 p.al,.slice B m d,.slice B' m' d',.int .i64 L][q]?:=fun X hX=>(b1.ext hX).cell;have au:=dE w1;refine uR (fun X=>Ext w1 X) [16] (zw.app [0,1,2,4,5,7,8,9,10,11,12] (zw.two 3 (zw.two 6 (zw.two 13 (zw.of [14,15,16,17]) 14 (zw.of [13,15,16,17])) 14 (zw.of [6,13,15,16,17])) 14 (zw.of [3,6,13,15,16,17]))) ?_;refine uQ ?_;have v:=au.drew;generalize w1.drew=R at *;refine zm (fun K hK=>?_) (fun K hK=>?_)
  ·go_simp;refine (zeA (HS.out _ v) J.out).mono ?_;rintro e I ⟨mv,rfl,O,hmv,E⟩;have hmvw:w.heap.size<=mv:=oH v.size;have o:=v.trans E;refine hK.out _ _ o ?_;refine pT ?_;refine zm (fun K hK=>?_) (fun K hK=>?_)
   ·go_simp;refine (zce (HP.out _ o) Hp.out).mono ?_;rintro e z ⟨RA,rc,rfl,⟨bt,aa,htb⟩,t⟩;have hbtw:w.heap.size<=bt:=oH o.size;have g:=o.trans t;refine hK.out _ _ g ?_;refine pT ?_;replace hmv:=hmv.ext t;refine zm (fun K hK=>?_) (fun K hK=>?_)
    ·go_simp;refine (zag (diff s.al.toNat L) D _).mono ?_;rintro e u ⟨HA,hc,rfl,hhd,hy13⟩;have hbhd:w.heap.size<=z.heap.size:=oH g.size;have hxw13:=g.trans hy13;refine hK.out _ _ hxw13 ?_;refine pT ?_;replace hmv:=hmv.ext hy13;replace htb:=zh htb hy13;refine ze fun K hK=>?_;go_simp;have hmp0:zeq 222 litP domP (u.alloc (.map #[] 0)) u.heap.size 0 (fun _=>none):=zeq.made u;have h:Ext u (u.alloc (.map #[] 0)):=(dE _).alloc _;obtain⟨x,r⟩:∃ x,Hid (x=u.heap.size):=⟨_,rfl⟩;have hmbge:w.heap.size<=x:=by have:=hxw13.size;have:=r.out;omega
     have f:=hxw13.trans h;rw [← r.out] at hmp0 ⊢;refine hK.out _ _ f ?_;generalize u.alloc (.map #[] 0)=H at *;refine pT ?_;replace hmv:=hmv.ext h;replace htb:=zh htb h;replace hhd:=zh hhd h;refine uQ ?_;refine zb fun K hK=>?_;have zki:=ns_fin (A:=A) (n:=n) (c:=c) (d:=d) (d':=d') Hs.out Hp.out hL64 HP0.out h0 hhi Htab.out hw1 f hmvw hbhd hmv ⟨bt,hbtw,htb⟩ hhd hmp0 hmbge;exact yY14a4
    ·go_simp;have hmp0:zeq 222 litP domP (z.alloc (.map #[] 0)) z.heap.size 0 (fun _=>none):=zeq.made z;have h:Ext z (z.alloc (.map #[] 0)):=(dE _).alloc _;obtain⟨x,r⟩:∃ x,Hid (x=z.heap.size):=⟨_,rfl⟩;have hmbge:w.heap.size<=x:=by have:=g.size;have:=r.out;omega
     have f:=g.trans h;rw [← r.out] at hmp0 ⊢;refine hK.out _ _ f ?_;generalize z.alloc (.map #[] 0)=H at *;refine pT ?_;replace hmv:=hmv.ext h;replace htb:=zh htb h;refine ze fun K hK=>?_;go_simp;refine (zag (diff s.al.toNat L) D _).mono ?_;rintro e u ⟨HA,hc,rfl,hhd,hy13⟩;have hbhd:w.heap.size<=H.heap.size:=oH f.size;have hxw13:=f.trans hy13;refine hK.out _ _ hxw13 ?_;refine pT ?_;replace hmv:=hmv.ext hy13;replace htb:=zh htb hy13;replace hmp0:=hmp0.ext hy13;refine uQ ?_;refine zb fun K hK=>?_;have zki:=ns_fin (A:=A) (n:=n) (c:=c) (d:=d) (d':=d') Hs.out Hp.out hL64 HP0.out h0 hhi Htab.out hw1 hxw13 hmvw hbhd hmv ⟨bt,hbtw,htb⟩ hhd hmp0 hmbge;exact yY14a4
   ·go_simp;have hmp0:zeq 222 litP domP (I.alloc (.map #[] 0)) I.heap.size 0 (fun _=>none):=zeq.made I;have h:Ext I (I.alloc (.map #[] 0)):=(dE _).alloc _;obtain⟨x,r⟩:∃ x,Hid (x=I.heap.size):=⟨_,rfl⟩;have hmbge:w.heap.size<=x:=by have:=o.size;have:=r.out;omega
    have f:=o.trans h;rw [← r.out] at hmp0 ⊢;refine hK.out _ _ f ?_;generalize I.alloc (.map #[] 0)=H at *;refine pT ?_;replace hmv:=hmv.ext h;refine ze fun K hK=>?_;go_simp;refine (zce (HP.out _ f) Hp.out).mono ?_;rintro e z ⟨RA,rc,rfl,⟨bt,aa,htb⟩,t⟩;have hbtw:w.heap.size<=bt:=oH f.size;have g:=f.trans t;refine hK.out _ _ g ?_;refine pT ?_;replace hmv:=hmv.ext t;replace hmp0:=hmp0.ext t;refine ze fun K hK=>?_;go_simp;refine (zag (diff s.al.toNat L) D _).mono ?_;rintro e u ⟨HA,hc,rfl,hhd,hy13⟩;have hbhd:w.heap.size<=z.heap.size:=oH g.size;have hxw13:=g.trans hy13;refine hK.out _ _ hxw13 ?_;refine pT ?_;replace hmv:=hmv.ext hy13;replace hmp0:=hmp0.ext hy13;exact yY14a3
  ·go_simp;have hmp0:zeq 222 litP domP (R.alloc (.map #[] 0)) R.heap.size 0 (fun _=>none):=zeq.made R;have h:Ext R (R.alloc (.map #[] 0)):=(dE _).alloc _;obtain⟨x,r⟩:∃ x,Hid (x=R.heap.size):=⟨_,rfl⟩;have hmbge:w.heap.size<=x:=by have:=v.size;have:=r.out;omega
   have f:=v.trans h;rw [← r.out] at hmp0 ⊢;refine hK.out _ _ f ?_;generalize R.alloc (.map #[] 0)=H at *;refine pT ?_;refine ze fun K hK=>?_;go_simp;refine (zeA (HS.out _ f) J.out).mono ?_;rintro e I ⟨mv,rfl,O,hmv,E⟩;have hmvw:w.heap.size<=mv:=oH f.size;have o:=f.trans E;refine hK.out _ _ o ?_;refine pT ?_;replace hmp0:=hmp0.ext E;refine ze fun K hK=>?_;go_simp;refine (zce (HP.out _ o) Hp.out).mono ?_;rintro e z ⟨RA,rc,rfl,⟨bt,aa,htb⟩,t⟩;have hbtw:w.heap.size<=bt:=oH o.size;have g:=o.trans t;refine hK.out _ _ g ?_;refine pT ?_;replace hmp0:=hmp0.ext t;replace hmv:=hmv.ext t;refine ze fun K hK=>?_;go_simp;refine (zag (diff s.al.toNat L) D _).mono ?_;rintro e u ⟨HA,hc,rfl,hhd,hy13⟩;have hbhd:w.heap.size<=z.heap.size:=oH g.size;have hxw13:=g.trans hy13;refine hK.out _ _ hxw13 ?_;refine pT ?_;replace hmp0:=hmp0.ext hy13;replace hmv:=hmv.ext hy13;exact yY14a3
 case rest =>
  obtain⟨F,rfl,ap,hN⟩:=hcut;obtain⟨ad,rfl,rfl,rfl,am,Z,ab,ae,av⟩:=hN;have V:zfa F [] (fun _ _ => -1) 0 (fun _=>none) (.slice none 0 0) (.slice none 0 0) (.slice none 0 0) wc:=by
   refine⟨by rw [ae];exact Frm.refl _ _,Z,World.ownsRow_nil _ _ _ _,World.ownsRow_nil _ _ _ _,World.ownsRow_nil _ _ _ _,ab,NumI.nil,dI _,fun T hT=>by simp at hT⟩
  have M:=za V;have y:=za ad;have S:=za (T00_ws (p:=F.p) oM);clear V ad Z ab ae;go_wp2_with (first
   |(go_at_call 197;refine (sf_close (T0:=T00) y.out M.out S.out).mono ?_;rintro e w2 ⟨U,rfl,hU,Q⟩)
   |(go_at_call 196;refine (sf_add (U:=U) y.out (M.out.ext y.out Q) ⟨hU.1,hU.2.1,fun i q hb=>cl_row Hp.out (fun q i hb=>S.out.row i q hb) ((hU.2.2 i q).1 hb)⟩ dM).mono ?_;rintro e I ⟨j,aG,aP,k',M',ay,ax,az,rfl,aq,ao,ai,ar⟩))
  go_ret;rcases aq with ⟨rfl,rfl⟩|⟨rfl,rfl⟩
  ·simp at ao
  have Y:zbr U 12 (PR F.s F.p F.L []):=by
   rw [PR_nil,← zfG.eq];exact hU
  have hI:SfI F.s F.p F.L ([]++[U]) (fun k l=>if k=([]:List (List Nat)).length then -1 else (fun _ _=>(-1:Int)) k l):=
   ⟨fun T hT=>by
    obtain rfl:T=U:=by simpa using hT
    exact start_ws Y Hp.out oM,⟨U,rfl,Y⟩,fun k l _ _=>.inl (by dsimp only;split<;>rfl)⟩
  refine⟨F,_,rfl,y.out,rfl,rfl,rfl,ap,am,⟨_,_,k',M',ay,ax,az,hI,ai,sM,rfl⟩,(av.trans Q).frm ar.frm (fun q hq hs=>?_)⟩;have:=(M.out.ext y.out Q).low0 y.out hs;omega
end
section
variable {w W:World} {lo hi n c m d m' d' L:Nat} {A B B':Option Addr} {s:Sys} {p:Aut}
theorem zit (hS:zV w lo hi A n s)(hP:zF w lo hi B m B' m' p)(hv:zk s=true)(hp:zj p=true)(hL:L<64) :
  Calls Tryz.prog 105 #[.agg #[s.al,s.st,.slice A n c,p.al,.slice B m d,.slice B' m' d',L]] w fun e w'=>e=.returned (.bool true)∧Ext w w':=by
 have i:=za (fun W (hW:Ext w W)=>zaE (c:=c) (hS.ext hW));have h:=za (fun W (hW:Ext w W)=>zaa _ _ _ _ d _ _ d' _ _ (hP.ext hW));rw [hv] at i;rw [hp] at h;have f:=za (show (decide ((0:Int)<=L∧(L:Int)<=63))=true by simp;omega);clear hS hP hv hp
 go_enter Tryz.func105,Tryz.ntmps105
 go_upto_region 1 with fail
 generalize U0:w.alloc _=w1 at *;obtain⟨hw1,j⟩:=Ext.x1_ U0;clear U0;have l:=j.cells;have k:=dE w1;go_wp2_with (first
  |(go_at_call 65;refine (i.out _ hw1).mono (mQ fun o a=>?_))
  |(go_at_call 25;refine (h.out _ (hw1.trans a)).mono (mQ fun q g=>?_);have b:=a.trans g)
  |(go_at_call 82;refine (zaz _ _).mono ?_;rw [f.out];rintro e r ⟨rfl,rfl⟩))
 go_ret;exact⟨rfl,hw1.trans b⟩
theorem zfb (hS:zV w lo hi A n s)(hP:zF w lo hi B m B' m' p)(hv:zk s=true)(hp:zj p=true)(hL:L<64) :
  Calls Tryz.prog 118 #[.agg #[.bool false,(0:Int),(),(),s.al,s.st,.slice A n c,p.al,.slice B m d,.slice B' m' d',L]] w fun e w'=>e=.returned (.int .i64 L)∧Ext w w':=by
 have b:=za (fun W (hW:Ext w W)=>zit (c:=c) (d:=d) (d':=d') (hS.ext hW) (hP.ext hW) hv hp hL);clear hS hP hv hp
 go_enter Tryz.func118,Tryz.ntmps118
 go_upto_region 1 with fail
 generalize U0:w.alloc _=w1 at *;obtain⟨hw1,f⟩:=Ext.x1_ U0;clear U0;have h:=f.cells;have g:=dE w1;go_wp2_with (go_at_call 105;refine (b.out _ hw1).mono (mQ fun i a=>?_))
 go_ret;exact⟨rfl,hw1.trans a⟩
theorem sf_orc {F:Sfx}(hF:ziH F):zfE F.lo F.L (zo F.s F.p F.L) (zhs F) 122 (.pointer (some ⟨F.G,0,none⟩)) where
 ok:=zhs.ok hF
 in_:=fun args W=>kM
 ask:=fun B W S x hJ hB hx hxs=>sf_safe hF hJ hB hx hxs
def RetOr (s:Sys) (p:Aut) (L z:Nat) (w:World) (e:Ending) (w':World):Prop:=
 ∃ (F:Sfx) (S:Nat->Prop),e=.returned (.tuple #[orcV L 122 (.pointer (some ⟨F.G,0,none⟩)),.bool true])∧ziH F∧F.s=s∧F.p=p∧F.L=L∧F.lo=z∧w.heap.size<=F.b0∧zhs F 0 w' S∧Ext w w'
theorem zhs.low0 {F:Sfx}(hF:ziH F) {B:Nat}  (h:zhs F B W S) (hj:S j):F.b0<=j:=by
 obtain⟨Ts,d,k,M,g,f,i,b,a,c,rfl⟩:=h;exact a.low0 hF hj
theorem zfg (h0:Ext w0 w)(hS:zV w lo hi A n s)(hP:zF w lo hi B m B' m' p)(hv:zk s=true)(hp:zj p=true)(hL:L<64)(hhi:hi<=w0.heap.size)(hT:Tab w0) :
  Calls Tryz.prog 49 #[.agg #[.bool false,(0:Int),(),(),s.al,s.st,.slice A n c,p.al,.slice B m d,.slice B' m' d',L]] w (RetOr s p L w0.heap.size w):=by
 have T:=za (fun W (hW:Ext w W)=>zfb (c:=c) (d:=d) (d':=d') (hS.ext hW) (hP.ext hW) hv hp hL);have U:=za (fun W (hW:Ext w W)=>ziv (c:=c) (d:=d) (d':=d') (h0.trans hW) (hS.ext hW) (hP.ext hW) hv hp hL hhi hT);clear hS hP hv hp;have aa:¬ ((L:Int)<0):=oM
 go_enter Tryz.func49,Tryz.ntmps49
 go_upto_region 1 with fail
 generalize U0:(w.alloc _).alloc _=w1 at *;obtain⟨hw1,V,Y⟩:=Ext.x2_ U0;have ab:w.heap.size+1<w1.heap.size:=by rw [← U0];simp
 clear U0;have R:∀ X,Ext w1 X->∀ q,X.cell? ⟨w.heap.size,q,none⟩=#[Value.bool false,.int .i64 0,.slice none 0 0,.slice none 0 0,.int .i64 s.al,.int .i64 s.st,.slice A n c,.int .i64 p.al,.slice B m d,.slice B' m' d',.int .i64 L][q]?:=fun X hX=>(V.ext hX).cell;have ae:=dE w1;have Z:=h0.size;go_upto_region 99 with (go_at_call 118;refine (T.out _ hw1).mono (mQ fun w2 g=>?_))
 refine (U.out _ (hw1.trans g)).mono ?_;rintro e x ⟨F,S,rfl,f,o,l,k,b,I,y,O⟩;have h:=g.trans O;have a:=Y.ext h;have k2:=a.cell;have f2:=a.frozen;have H:=za f;have HJ:=za y;have E:=za o;have D:=za l;have z:=za k;have j:=za b;have C:=za (show w.heap.size<=F.b0 by have:=g.size;have:=hw1.size;omega);have r:¬ S (w.heap.size+1):=fun hs=>by
  have h1:=zhs.low0 f y hs;have h2:=g.size;omega
 have M:=(eB x (w.heap.size+1) 0 (.int .i64 (L:Int))).trans (eB _ (w.heap.size+1) 1 (.func (.func 122) #[.pointer (some ⟨F.G,0,none⟩)] #[]));have J:=za ((zhs.ok f).keep y M (fun q _ e=>by have Q:q=w.heap.size+1:=e;rw [Q,b];exact⟨oM,r⟩));have u:=za ((hw1.trans h).frm M (fun q hq e=>by have Q:q=w.heap.size+1:=e;omega));have t:=(a.ab 0 (.int .i64 (L:Int))).ab 1 (.func (.func 122) #[.pointer (some ⟨F.G,0,none⟩)] #[]);have cf:∀ i,((x.setCell ⟨w.heap.size+1,0,none⟩ (.int .i64 (L:Int))).setCell ⟨w.heap.size+1,1,none⟩ (.func (.func 122) #[.pointer (some ⟨F.G,0,none⟩)] #[])).cell? ⟨w.heap.size+1,i,none⟩=#[Value.int .i64 (L:Int),.func (.func 122) #[.pointer (some ⟨F.G,0,none⟩)] #[]][i]?:=fun i=>by
  have:=t.cell i;simpa using this
 have ad:(store ⟨w.heap.size+1,1,none⟩ (.func (.func 122) #[.pointer (some ⟨F.G,0,none⟩)] #[])).run Tryz.prog (x.setCell ⟨w.heap.size+1,0,none⟩ (.int .i64 (L:Int)))=.ok () ((x.setCell ⟨w.heap.size+1,0,none⟩ (.int .i64 (L:Int))).setCell ⟨w.heap.size+1,1,none⟩ (.func (.func 122) #[.pointer (some ⟨F.G,0,none⟩)] #[])):=by
  rw [run_store _ _ _ _ _ rfl];have h1:=a.ab 0 (.int .i64 (L:Int));rw [h1.cell,h1.frozen];rfl
 clear f y o l k b I r M t a R;go_wp2_with fail
 clear k2 f2;generalize (x.setCell ⟨w.heap.size+1,0,none⟩ (.int .i64 (L:Int))).setCell ⟨w.heap.size+1,1,none⟩ (.func (.func 122) #[.pointer (some ⟨F.G,0,none⟩)] #[])=w9 at *;exact bodyPost_ret (v:=.tuple #[orcV L 122 (.pointer (some ⟨F.G,0,none⟩)),.bool true]) (by simp [results,Tryz.results49,go_sem,cf]) rfl ⟨F,S,rfl,H.out,E.out,D.out,z.out,j.out,C.out,J.out,u.out⟩
end
section
variable {w:World} {lo hi n c lo1 hi1 m d m' d' lo2 hi2 k c2:Nat} {A B B' C:Option Addr} {s t:Sys} {p:Aut}
theorem impl_TaskOf (hs:zV w lo hi A n s)(hp:zF w lo1 hi1 B m B' m' p)(ht:zV w lo2 hi2 C k t)(hif:iface s p t=(L:Int))(hn:n<=1000000) :
  Calls Tryz.prog 39 #[.agg #[s.al,s.st,.slice A n c],.agg #[p.al,.slice B m d,.slice B' m' d'],.agg #[t.al,t.st,.slice C k c2]] w (zjh w s p L):=by
 obtain⟨vs,vp,vt⟩:=zbz (show 0<=iface s p t by omega);have hL:L<64:=by
  rw [zda vs vp vt] at hif;have h1:=zG vt;have h2:((s.al.toNat|||p.al.toNat)&&&t.al.toNat)<=t.al.toNat:=Nat.and_le_right;omega
 have J:=za (fun W (hW:Ext w W)=>zes (c:=c) (d1:=d) (d1':=d') (c2:=c2) (hs.ext hW) (hp.ext hW) (ht.ext hW));rw [hif] at J;have HK:=za (fun W (hW:Ext w W)=>clone_edge (c:=c) (hs.2.ext hW) oM);have HC:=za (fun W (hW:Ext w W)=>zfQ (c:=d) (c':=d') (hp.ext hW) (zcO vp));have hV:=za (And.intro vs (And.intro vp hL));have ah:=za hs.1;clear hs hp ht hif vs vp vt;obtain⟨w0,U0⟩:∃ x,Hid ((((w.alloc (.cells #[s.al,s.st,.slice A n c] 38)).alloc (.cells #[p.al,.slice B m d,.slice B' m' d'] 27)).alloc (.cells #[t.al,t.st,.slice C k c2] 38)).alloc (.cells #[(0:Int),(0:Int),(),(0:Int),(),(),(0:Int)] 70)=x):=⟨_,za rfl⟩;have H:Ext w w0:=(((((dE _).alloc _).alloc _).alloc _).alloc _).trans (gO U0.out);obtain⟨b1,b2,b3⟩:=zU (((dE _).alloc (.cells #[(0:Int),(0:Int),(),(0:Int),(),(),(0:Int)] 70)).trans (gO U0.out));have b4:=Ext.bl_ U0.out;simp only [World.size_alloc] at b4;have aE:¬ ((L:Int)<0):=oM
 go_enter Tryz.func39,Tryz.ntmps39
 go_upto_region 1 with fail
 rw [U0.out] at *;have k1:=b1.cell;have k2:=b2.cell;have k3:=b3.cell;go_upto_region 4 with (go_at_call 83;refine (J.out _ H).mono (mQ fun w1 i=>?_))
 have hx1:=H.trans i;have F:=b1.ext i;have k1:=F.cell;go_upto_region 99 with fail
 refine (HK.out _ hx1).mono ?_;rintro e w2 ⟨v',rfl,Z,y⟩;obtain⟨g,h,rfl⟩:=zi Z;have l:=F.ext y;have k1:=l.cell;have f1:=l.frozen;have O:=b4.ext (i.trans y);have M:=b2.ext (i.trans y);go_upto_region 5 with fail
 have G:=eB w2 w.heap.size 2 (.slice g n h);have o:Ext w (w2.setCell ⟨w.heap.size,2,none⟩ (.slice g n h)):=(hx1.trans y).frm G (fun q hq e=>by have e':q=w.heap.size:=e;omega);have ad:Blk (w2.setCell ⟨w.heap.size,2,none⟩ (.slice g n h)) w.heap.size 38 #[.int .i64 s.al,.int .i64 s.st,.slice g n h]:=by simpa using l.ab 2 (.slice g n h)
 have Q:=O.far (p:=⟨w.heap.size,2,none⟩) (by show w.heap.size+1+1+1≠w.heap.size;omega) (.slice g n h);have ae:=M.far (p:=⟨w.heap.size,2,none⟩) (by show w.heap.size+1≠w.heap.size;omega) (.slice g n h);have ax:=hx1.size;have aw:=H.size;have ar:=b4.lt;have av:=i.size;have T:=zf Z G (fun b hb e=>zK Z l dM hb e);clear k1 f1 k2 k3 F l O M G Z;generalize w2.setCell ⟨w.heap.size,2,none⟩ (.slice g n h)=I at *;have C1:∀ X,Ext I X->∀ q,X.cell? ⟨w.heap.size,q,none⟩=#[Value.int .i64 s.al,.int .i64 s.st,.slice g n h][q]?:=fun X hX=>(ad.ext hX).cell;have C2:∀ X,Ext I X->∀ q,X.cell? ⟨w.heap.size+1,q,none⟩=#[Value.int .i64 p.al,.slice B m d,.slice B' m' d'][q]?:=fun X hX=>(ae.ext hX).cell;have Y:=dE I;refine uR (fun X=>Ext I X) [5] (zw.of [0,1,3,2,4,5,6]) ?_;refine uQ ?_;refine ze fun K hK=>?_;go_simp;refine (HC.out _ (o.trans Y.drew)).mono ?_;rintro e r ⟨u,z,d1,a,f,d1',rfl,ho2,ai⟩;have j:=Y.drew.trans ai;refine hK.out _ _ j ?_;refine pT ?_;refine uQ ?_;have R:=Q.ext j;have kz:=R.cell;have fz:=R.frozen;have V:=zh T j;have au:=R.lt;have aq:=j.size;have aC:=o.size;have E:zV r (w.heap.size+1+1+1+1) r.heap.size g n s:=⟨ah.out,(eW V).more oM (dI _)⟩;have ag:=Q.lt;have aF:I.drew.heap.size=I.heap.size:=rfl;have D:zF r (w.heap.size+1+1+1+1) r.heap.size u z a f p:=(ho2.reads).more oM (dI _);have S:Frm (fun k=>k=w.heap.size+1+1+1) r (((((((r.setCell ⟨w.heap.size+1+1+1,0,none⟩ s.al).setCell ⟨w.heap.size+1+1+1,1,none⟩ s.st).setCell ⟨w.heap.size+1+1+1,2,none⟩ (.slice g n h)).setCell ⟨w.heap.size+1+1+1,3,none⟩ p.al).setCell ⟨w.heap.size+1+1+1,4,none⟩ (.slice u z d1)).setCell ⟨w.heap.size+1+1+1,5,none⟩ (.slice a f d1')).setCell ⟨w.heap.size+1+1+1,6,none⟩ L):=
  ((((((eB r _ 0 _).trans (eB _ _ 1 _)).trans (eB _ _ 2 _)).trans (eB _ _ 3 _)).trans (eB _ _ 4 _)).trans (eB _ _ 5 _)).trans (eB _ _ 6 _)
 have bW:Blk (((((((r.setCell ⟨w.heap.size+1+1+1,0,none⟩ s.al).setCell ⟨w.heap.size+1+1+1,1,none⟩ s.st).setCell ⟨w.heap.size+1+1+1,2,none⟩ (.slice g n h)).setCell ⟨w.heap.size+1+1+1,3,none⟩ p.al).setCell ⟨w.heap.size+1+1+1,4,none⟩ (.slice u z d1)).setCell ⟨w.heap.size+1+1+1,5,none⟩ (.slice a f d1')).setCell ⟨w.heap.size+1+1+1,6,none⟩ L) (w.heap.size+1+1+1) 70 #[.int .i64 s.al,.int .i64 s.st,.slice g n h,.int .i64 p.al,.slice u z d1,.slice a f d1',.int .i64 L]:=by
  simpa using ((((((R.ab 0 (.int .i64 s.al)).ab 1 (.int .i64 s.st)).ab 2 (.slice g n h)).ab 3 (.int .i64 p.al)).ab 4 (.slice u z d1)).ab 5 (.slice a f d1')).ab 6 (.int .i64 L)
 refine zb fun K hK=>?_;go_simp;generalize (((((((r.setCell ⟨w.heap.size+1+1+1,0,none⟩ s.al).setCell ⟨w.heap.size+1+1+1,1,none⟩ s.st).setCell ⟨w.heap.size+1+1+1,2,none⟩ (.slice g n h)).setCell ⟨w.heap.size+1+1+1,3,none⟩ p.al).setCell ⟨w.heap.size+1+1+1,4,none⟩ (.slice u z d1)).setCell ⟨w.heap.size+1+1+1,5,none⟩ (.slice a f d1')).setCell ⟨w.heap.size+1+1+1,6,none⟩ L)=X at *;have U:=za (show zjh w s p L (.returned (.tuple #[.agg #[s.al,s.st,.slice g n h,p.al,.slice u z d1,.slice a f d1',L],.bool true])) X from
  ⟨g,n,h,u,z,d1,a,f,d1',rfl,⟨⟨w.heap.size+1+1+1+1,r.heap.size,E.frm S (fun k h1 h2 e=>oM),D.frm S (fun k h1 h2 e=>oM),S.size⟩,hV.out.1,hV.out.2.1,hV.out.2.2⟩,(o.trans j).frm S (fun k hk e=>oM)⟩)
 have cf:=bW.cell;clear S bW E D kz fz R V ho2 T;refine hK.out _ _ ?_;clear hK;refine pT ?_;refine uQ ?_;refine zg ?_;go_wp2_with fail
 exact bodyPost_ret (v:=.tuple #[.agg #[s.al,s.st,.slice g n h,p.al,.slice u z d1,.slice a f d1',L],.bool true]) (by simp [results,Tryz.results39,go_sem,cf]) rfl U.out
end
end Go.Proofs.YtckbjnndaaoddaaGreatDoor
