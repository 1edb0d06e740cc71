/- The referenc -/
import Derived.Test.YtckbjnndaaoddaaGreatDoorY08
set_option maxHeartbeats 8000000
set_option maxRecDepth 100000
namespace Go.Proofs.YtckbjnndaaoddaaGreatDoor
open Go Go.RowKit
open Blk renaming new->eX
open Bool renaming and_eq_true->eD
open Ext renaming refl->dE,x2_->iS
open Frm renaming setCell->eB
open List renaming getElem?_append_left->eH,getElem?_eq_none->eR,mem_singleton->fN,nil_append->e9,take_append_of_le_length->jE,take_of_length_le->eF
open Nat renaming le_refl->dI,zero_add->eO,zero_le->eC
open Reads renaming af->eW
variable {A A' R:Option Addr} {G base c c' hi lo n n' size:Nat} {W w w':World} {a:Aut} {e t:TypeId} {f:ByteArray->Bool} {v:Value} {x z:ByteArray} {xs:List Value} {zs:List ByteArray}
theorem zv (l:List ByteArray):∀ u∈zM l,u.oneCell'=true:=by
 intro u hu;obtain⟨x,-,rfl⟩:=List.mem_map.1 hu;rfl
def TabV (w1:World) (rows cols:List ByteArray) (nr nc:Nat) (v:Value) (W:World):Prop:=
 ∃ (g:Nat) (R:Option Addr) (cr:Nat) (C:Option Addr) (cc:Nat),v=.pointer (some g)∧w1.heap.size<=g∧Blk W g 90 #[.slice R nr cr,.slice C nc cc] ∧
  W.ownsRow w1.heap.size 9 1 (.slice R nr cr) nr (zM rows)∧W.ownsRow w1.heap.size 9 1 (.slice C nc cc) nc (zM cols)∧Ext w1 W∧Hid (∀ k,(Value.slice R nr cr).ownBlock=some k->(Value.slice C nc cc).ownBlock≠some k)
theorem zax {w1:World} {rows cols:List ByteArray} {nr nc g cr cc:Nat} {C:Option Addr}(ha:W.ownsRow w1.heap.size 9 1 (.slice R nr cr) nr (zM rows))(hc:W.ownsRow w1.heap.size 9 1 (.slice C nc cc) nc (zM cols))(hb:Blk W g 90 #[(),()])(hx:Ext w1 W)(hg:w1.heap.size<=g)(hd:∀ k,(Value.slice R nr cr).ownBlock=some k->(Value.slice C nc cc).ownBlock≠some k) :
  TabV w1 rows cols nr nc (.pointer (some g)) ((W.setCell g (.slice R nr cr)).setCell ⟨g,1,none⟩ (.slice C nc cc)):=by
 have a:Frm (fun k=>k=g) W ((W.setCell g (.slice R nr cr)).setCell ⟨g,1,none⟩ (.slice C nc cc)):=(eB W g 0 _).trans (eB _ g 1 _);exact⟨g,R,cr,C,cc,rfl,hg,by simpa using (hb.ab 0 _).ab 1 _,zf ha a (fun b hv e=>zr ha hb dM hv e),zf hc a (fun b hv e=>zr hc hb dM hv e),(hx.setCell (p:=⟨g,0,none⟩) hg _).setCell (p:=⟨g,1,none⟩) hg _,za hd⟩
section
variable {w W:World} {n c m d m' d' L:Nat} {A B B':Option Addr} {s:Sys} {p:Aut} {nr nc cr cc:Nat} {R C:Option Addr} {rows cols:List ByteArray}
theorem zix (h:Tch w A n B m B' m' s p L)(hT:TabAt w R nr C nc rows cols)(hI:zbX L (zo s p L) rows cols)(hcr:nr<=cr)(hcc:nc<=cc) :
  Calls Tryz.prog 213 #[.agg #[.bool false,(0:Int),(),(),s.al,s.st,.slice A n c,p.al,.slice B m d,.slice B' m' d',L],.agg #[.slice R nr cr,.slice C nc cc]] w fun e w'=>e=.returned (.tuple #[.string ((zaJ L (zo s p L) rows cols).getD ⟨#[]⟩),.bool (zaJ L (zo s p L) rows cols).isSome])∧Ext w w':=by
 have g:=za (fun W (hW:Ext w W)=>zch (c:=c) (d:=d) (d':=d') (h.ext hW) (hT.ext hW) hI hcr hcc);have f:=za (fun W (hW:Ext w W)=>zgK (c:=c) (d:=d) (d':=d') (cr:=cr) (cc:=cc) (h.ext hW) (hT.ext hW) hI);generalize zaJ L (zo s p L) rows cols=q at *;clear h hT hI
 go_enter Tryz.func213,Tryz.ntmps213
 go_upto_region 1 with fail
 generalize U0:(w.alloc _).alloc _=w1 at *;obtain⟨hx0,i,j⟩:=iS U0;clear U0;have l:=i.cells;have o:=j.cells;have k:=dE w1;go_wp2_with (first
  |(go_at_call 211;refine (g.out _ hx0).mono (mQ fun w2 a=>?_))
  |(go_at_call 212;refine (f.out _ (hx0.trans a)).mono (mQ fun r b=>?_)))
 go_ret2;exact⟨rfl,hx0.trans (a.trans b)⟩
theorem zgV (h:Tch w A n B m B' m' s p L)(hT:TabAt w R nr C nc rows cols)(hI:zbX L (zo s p L) rows cols)(hcr:nr<=cr)(hcc:nc<=cc)(hcl:zaJ L (zo s p L) rows cols=none) :
  Calls Tryz.prog 132 #[.agg #[.bool false,(0:Int),(),(),s.al,s.st,.slice A n c,p.al,.slice B m d,.slice B' m' d',L],.agg #[.slice R nr cr,.slice C nc cc]] w fun e w'=>e=.returned (.bool true)∧Ext w w':=by
 have g:=za (fun W (hW:Ext w W)=>zch (c:=c) (d:=d) (d':=d') (h.ext hW) (hT.ext hW) hI hcr hcc);have f:=za (fun W (hW:Ext w W)=>zix (c:=c) (d:=d) (d':=d') (cr:=cr) (cc:=cc) (h.ext hW) (hT.ext hW) hI hcr hcc);rw [hcl] at f;clear h hT hI hcl
 go_enter Tryz.func132,Tryz.ntmps132
 go_upto_region 1 with fail
 generalize U0:(w.alloc _).alloc _=w1 at *;obtain⟨hx0,i,j⟩:=iS U0;clear U0;have l:=i.cells;have o:=j.cells;have k:=dE w1;go_wp2_with (first
  |(go_at_call 213;refine (f.out _ hx0).mono (mQ fun w2 a=>?_))
  |(go_at_call 211;refine (g.out _ (hx0.trans a)).mono (mQ fun q b=>?_)))
 go_ret;exact⟨rfl,hx0.trans (a.trans b)⟩
theorem inB_snoc {r:ByteArray} {L l:Nat}(hr:inB r L=true)(hs:r.size<=1000)(hl:l<6)(hb:L.testBit l=true):inB (r++zbY l) L=true:=by
 unfold inB at hr ⊢;simp only [eD,decide_eq_true_eq] at hr ⊢;refine⟨by rw [ByteArray.size_append,zcC];omega,?_⟩;unfold overB at hr ⊢;rw [ByteArray.data_append,Array.toList_append,List.all_append,hr.2,Bool.true_and];have e:(zbY l).data.toList=[UInt8.ofNat (97+l)]:=by
  unfold zbY;rw [strOfNums_data];rfl
 rw [e];simp only [List.all_cons,List.all_nil,Bool.and_true];have a:(UInt8.ofNat (97+l)).toNat=97+l:=by rw [UInt8.toNat_ofNat'];omega
 rw [a];unfold hasB ltr;rw [if_neg oM];simp only [eD,decide_eq_true_eq];exact⟨oM,by rw [show (((97+l:Nat):Int) - 97).toNat=l by omega];exact hb⟩
theorem openW_some (h:zaJ L f rows cols=some x):(∃ r l,r∈rows∧l<6∧L.testBit l=true∧x=r++zbY l)∧zbF f cols x∉rows.map (zbF f cols):=by
 unfold zaJ at h;have h1:=List.mem_of_find?_eq_some h;have a:=List.find?_some h;unfold candL at h1;obtain⟨r,g,c⟩:=List.mem_flatMap.1 h1;obtain⟨l,d,rfl⟩:=List.mem_map.1 c;obtain⟨b,hb⟩:=zD.1 d;refine⟨⟨r,l,g,b,hb,rfl⟩,fun hm=>?_⟩;simp only [Bool.not_eq_true'] at a;rw [zcp] at a;refine a ?_;obtain⟨y,i,e⟩:=List.mem_map.1 hm;unfold zaA;exact List.mem_map.2 ⟨y,i,by rw [e]⟩
theorem zbX.grow (h:zbX L f rows cols)(hlen:rows.length<12)(hop:zaJ L f rows cols=some x):zbX L f (rows++[x]) cols:=by
 obtain⟨⟨r,l,j,g,hb,rfl⟩,o⟩:=openW_some hop;refine⟨sM,by simp;omega,h.c1,h.c20,by rw [eH (oH h.r1)];exact h.r0,h.c0,fun i y hi hy=>?_,h.cw,?_⟩
 ·rcases Nat.lt_or_ge i rows.length with h1|h1
  ·rw [eH h1] at hy;obtain⟨c,z,p,k,m,n⟩:=h.rw_ i y hi hy;exact⟨c,z,p,k,m,by rw [jE oM];exact n⟩
  ·rw [List.getElem?_append_right h1] at hy;have d:i=rows.length:=by
    rcases Nat.eq_or_lt_of_le h1 with c|c
    ·exact c.symm
    ·rw [eR (by simp;omega)] at hy;cases hy
   subst d;simp at hy;subst hy;have c:=h.rin j;exact⟨inB_snoc c.1 oM g hb,r,l,g,rfl,by rw [jE (dI _),List.take_length];exact j⟩
 ·rw [List.map_append,List.map_singleton,List.nodup_append];refine⟨h.nd,sM,fun a ha b hb' e=>?_⟩;rw [fN] at hb';subst hb';subst e;exact o ha
noncomputable def zX (L:Nat) (f:ByteArray->Bool) (cols:List ByteArray):Nat->List ByteArray->Option (List ByteArray)
 |0,rows=>match zaJ L f rows cols with|none=>some rows|some _=>none
 |k+1,rows=>match zaJ L f rows cols with|none=>some rows|some x=>zX L f cols k (rows++[x])
theorem zcl (k:Nat)(h:zaJ L f rows cols=none):zX L f cols k rows=some rows:=by cases k<;>simp [zX,h]
theorem zeb (h:zaJ L f rows cols=some x):zX L f cols 0 rows=none:=by simp [zX,h]
theorem zcZ (k:Nat)(h:zaJ L f rows cols=some x):zX L f cols (k+1) rows=zX L f cols k (rows++[x]):=by simp [zX,h]
theorem zhu :∀ (k:Nat) (rows rows':List ByteArray),zbX L f rows cols->rows.length+k<=12->zX L f cols k rows=some rows'->zbX L f rows' cols∧zaJ L f rows' cols=none∧∃ t,rows'=rows++t:=by
 intro k
 induction k with
 |zero =>
  intro rows rows' hI hk h;cases ho:zaJ L f rows cols with
  |none=>rw [zcl 0 ho] at h;obtain rfl:=Option.some.inj h;exact⟨hI,ho,[],sM⟩
  |some x=>rw [zeb ho] at h;cases h
 |succ k ih =>
  intro rows rows' hI hk h;cases ho:zaJ L f rows cols with
  |none=>rw [zcl _ ho] at h;obtain rfl:=Option.some.inj h;exact⟨hI,ho,[],sM⟩
  |some x =>
   rw [zcZ _ ho] at h;obtain⟨h1,a,t,b⟩:=ih (rows++[x]) rows' (hI.grow oM ho) (by simp;omega) h;exact⟨h1,a,[x]++t,by rw [b,List.append_assoc]⟩
def zcJ (w:World) (o:Option (List ByteArray × List ByteArray)) (e:Ending) (w':World):Prop:=
 Ext w w'∧((o=none∧e=.returned (.tuple #[.agg #[(),()],.bool false])) ∨
  ∃ (rs cs:List ByteArray) (nr nc:Nat) (R:Option Addr) (cr:Nat) (C:Option Addr) (cc:Nat),o=some (rs,cs)∧e=.returned (.tuple #[.agg #[.slice R nr cr,.slice C nc cc],.bool true]) ∧
   w'.ownsRow w.heap.size 9 1 (.slice R nr cr) nr (zM rs)∧w'.ownsRow w.heap.size 9 1 (.slice C nc cc) nc (zM cs))
def lenAt0 (W:World) (G:Nat):Nat:=match W.cell? G with|some (.slice _ n _)=>n|_=>0
theorem zeV (h:Blk W G t #[.slice R n c,v]):lenAt0 W G=n:=by
 unfold lenAt0;rw [h.cell 0];rfl
theorem yY09d1 {P:Prop}(h:P:=by
 have c6:=Blk.cell blk9;have f6:=Blk.frozen blk9;refine zb fun K hK=>?_;go_simp;refine hK.out _ _ ?_;refine zg ?_;go_wp2_with fail
 go_meet;exact zax zkm zkn blk9 hx35 HG0.out hdis.out
 ):P:=h
theorem yY09c1 {P:Prop}(h:P:=by
 refine ze (fun K hK=>?_);refine zx _ _ _ _ rfl w1.heap.size 9 _ 1 16 Tryz.underlying88 zt rfl dM (.slice (some bc9) 0 0) 0 [] rfl zkn _ _ C nc cc (zM cols) rfl (HC1.out v34 hx34) (zv _) lM oM hx34.size ?_;intro v9 v35 ownc8 hg hat;rw [Nat.zero_add,List.nil_append] at ownc8;obtain⟨Ac9,cc9,rfl⟩:=zi ownc8;have hx35:=hx34.grown hg (fun k hk=>(zkn.lt k hk).1);have hsz:=hg.size;have hbs:Hid (v34.heap.size=v34.heap.size):=za rfl;have zkm:=zf zkm (Frm.ae hg) (fun k hk hS=>hrn_a_bc9.out k hk (by simpa [Value.ownBlock] using hS.symm));have blk9:Blk v35 gbox9 90 #[.slice none 0 0,.slice none 0 0]:=(hg.block gbox9 (Blk.lt blk9) (fun e=>zr zkn blk9 dM e.symm rfl)).trans blk9;have hdis0:Hid (∀ k,(Value.slice Ac9 nc cc9).ownBlock=some k->(Value.slice Aa9 nr ca9).ownBlock≠some k):=za (fun k hk hS=>by rcases hat with h1|h1;(rw [h1] at hk;simp [Value.ownBlock] at hk;exact hrn_a_bc9.out k hS hk.symm);(rw [h1] at hk;have:=Option.some.inj hk;have:=hrl_a.out k hS;omega))
 have hdis:Hid (∀ k,(Value.slice Aa9 nr ca9).ownBlock=some k->(Value.slice Ac9 nc cc9).ownBlock≠some k):=za (fun k hk hS=>hdis0.out k hS hk);generalize hbe:v34.heap.size=nc9 at *;have hne_ba9_nc9:Hid (ba9≠nc9):=za (oH zkj.out);have hne_bc9_nc9:Hid (bc9≠nc9):=za (oH zkk.out);have zkj:Hid (ba9<v35.heap.size):=za (oH zkj.out);have zkk:Hid (bc9<v35.heap.size):=za (oH zkk.out);have hrl_a:Hid (∀ k,(Value.slice Aa9 nr ca9).ownBlock=some k->k<v35.heap.size):=za (fun k hk=>(zkm.lt k hk).2);have hrl_c:Hid (∀ k,(Value.slice Ac9 nc cc9).ownBlock=some k->k<v35.heap.size):=za (fun k hk=>(ownc8.lt k hk).2);clear hbs hsz hbe;refine hK.out _ _ hx35 ?_;refine pT ?_;have zkn:=ownc8;refine uQ ?_;exact yY09d1
 ):P:=h
theorem yY09b1 {P:Prop}(h:P:=by
 clear hbs zkh hbe;refine ze (fun K hK=>?_);refine zx _ _ _ _ rfl w1.heap.size 9 _ 1 16 Tryz.underlying88 zt rfl dM (.slice (some ba9) 0 0) 0 [] rfl zkm _ _ R nr cr (zM rows) rfl (HR1.out v33 hx33) (zv _) lM oM hx33.size ?_;intro v9 v34 owna8 hg hat;rw [Nat.zero_add,List.nil_append] at owna8;obtain⟨Aa9,ca9,rfl⟩:=zi owna8;have hx34:=hx33.grown hg (fun k hk=>(zkm.lt k hk).1);have hsz:=hg.size;have hbs:Hid (v33.heap.size=v33.heap.size):=za rfl;have zkn:=zf zkn (Frm.ae hg) (fun k hk hS=>by simp [Value.ownBlock] at hk hS;exact zks.out (hS.trans hk.symm));have blk9:Blk v34 gbox9 90 #[.slice none 0 0,.slice none 0 0]:=(hg.block gbox9 (Blk.lt blk9) (fun e=>zr zkm blk9 dM e.symm rfl)).trans blk9;generalize hbe:v33.heap.size=na9 at *;have hne_ba9_na9:Hid (ba9≠na9):=za (oH zkj.out);have hne_bc9_na9:Hid (bc9≠na9):=za (oH zkk.out);have zkj:Hid (ba9<v34.heap.size):=za (oH zkj.out);have zkk:Hid (bc9<v34.heap.size):=za (oH zkk.out);have hrn_a_bc9:Hid (∀ k,(Value.slice Aa9 nr ca9).ownBlock=some k->k≠bc9):=za (fun k hk=>by rcases hat with h1|h1;(rw [h1] at hk;simp [Value.ownBlock] at hk;rw [← hk];exact zks.out);(rw [h1] at hk;rw [← Option.some.inj hk];exact (Ne.symm hne_bc9_na9.out)))
 have hrl_a:Hid (∀ k,(Value.slice Aa9 nr ca9).ownBlock=some k->k<v34.heap.size):=za (fun k hk=>(owna8.lt k hk).2);clear hbs hsz hbe;refine hK.out _ _ hx34 ?_;refine pT ?_;have zkm:=owna8;exact yY09c1
 ):P:=h
theorem yY09b2 {P:Prop}(h:P:=by
 skip;refine zx _ _ _ _ rfl w1.heap.size 9 _ 1 16 Tryz.underlying88 zt rfl dM (.slice (some bc9) 0 0) 0 [] rfl zkn _ _ C nc cc (zM cols) rfl (HC1.out v33 hx33) (zv _) lM oM hx33.size ?_;intro v9 v34 ownc8 hg hat;rw [Nat.zero_add,List.nil_append] at ownc8;obtain⟨Ac9,cc9,rfl⟩:=zi ownc8;have hx34:=hx33.grown hg (fun k hk=>(zkn.lt k hk).1);have hsz:=hg.size;have hbs:Hid (v33.heap.size=v33.heap.size):=za rfl;have zkm:=zf zkm (Frm.ae hg) (fun k hk hS=>hrn_a_bc9.out k hk (by simpa [Value.ownBlock] using hS.symm));have hdis0:Hid (∀ k,(Value.slice Ac9 nc cc9).ownBlock=some k->(Value.slice Aa9 nr ca9).ownBlock≠some k):=za (fun k hk hS=>by rcases hat with h1|h1;(rw [h1] at hk;simp [Value.ownBlock] at hk;exact hrn_a_bc9.out k hS hk.symm);(rw [h1] at hk;have:=Option.some.inj hk;have:=hrl_a.out k hS;omega))
 have hdis:Hid (∀ k,(Value.slice Aa9 nr ca9).ownBlock=some k->(Value.slice Ac9 nc cc9).ownBlock≠some k):=za (fun k hk hS=>hdis0.out k hS hk);generalize hbe:v33.heap.size=nc9 at *;have hne_ba9_nc9:Hid (ba9≠nc9):=za (oH zkj.out);have hne_bc9_nc9:Hid (bc9≠nc9):=za (oH zkk.out);have zkj:Hid (ba9<v34.heap.size):=za (oH zkj.out);have zkk:Hid (bc9<v34.heap.size):=za (oH zkk.out);have hrl_a:Hid (∀ k,(Value.slice Aa9 nr ca9).ownBlock=some k->k<v34.heap.size):=za (fun k hk=>(zkm.lt k hk).2);have hrl_c:Hid (∀ k,(Value.slice Ac9 nc cc9).ownBlock=some k->k<v34.heap.size):=za (fun k hk=>(ownc8.lt k hk).2);clear hbs hsz hbe;refine hK.out _ _ hx34 ?_;refine pT ?_;have zkn:=ownc8;refine uQ ?_;refine ze fun K hK=>?_;go_simp;have hx35:=hx34.alloc (.cells #[(),()] 90);have zkh:=(Ext.refl v34).alloc (.cells #[(),()] 90);have blk9:=Blk.new v34 90 #[(),()];refine hK.out _ _ hx35 ?_;refine pT ?_;have zkm:=zh zkm zkh;have zkn:=zh zkn zkh;have HG0:=za hx34.size;have hbs:v34.heap.size<(v34.alloc (.cells #[(),()] 90)).heap.size:=sM;generalize hbe:v34.heap.size=gbox9 at *;generalize v34.alloc _=v35 at *;have zkj:Hid (ba9<v35.heap.size):=za (oH zkj.out);have zkk:Hid (bc9<v35.heap.size):=za (oH zkk.out);have hrl_a:Hid (∀ k,(Value.slice Aa9 nr ca9).ownBlock=some k->k<v35.heap.size):=za (fun k hk=>(zkm.lt k hk).2);have hrl_c:Hid (∀ k,(Value.slice Ac9 nc cc9).ownBlock=some k->k<v35.heap.size):=za (fun k hk=>(zkn.lt k hk).2);clear hbs zkh hbe;exact yY09d1
 ):P:=h
theorem yY09b3 {P:Prop}(h:P:=by
 clear hbs zkh hbe;exact yY09c1
 ):P:=h
theorem yY09a1 {P:Prop}(h:P:=by
 clear hbs zkh hbe;refine zm (fun K hK=>?_) (fun K hK=>?_)
 ·skip;refine zx _ _ _ _ rfl w1.heap.size 9 _ 1 16 Tryz.underlying88 zt rfl dM (.slice (some ba9) 0 0) 0 [] rfl zkm _ _ R nr cr (zM rows) rfl (HR1.out v32 hx32) (zv _) lM oM hx32.size ?_;intro v9 v33 owna8 hg hat;rw [Nat.zero_add,List.nil_append] at owna8;obtain⟨Aa9,ca9,rfl⟩:=zi owna8;have hx33:=hx32.grown hg (fun k hk=>(zkm.lt k hk).1);have hsz:=hg.size;have hbs:Hid (v32.heap.size=v32.heap.size):=za rfl;have zkn:=zf zkn (Frm.ae hg) (fun k hk hS=>by simp [Value.ownBlock] at hk hS;exact zks.out (hS.trans hk.symm));generalize hbe:v32.heap.size=na9 at *;have hne_ba9_na9:Hid (ba9≠na9):=za (oH zkj.out);have hne_bc9_na9:Hid (bc9≠na9):=za (oH zkk.out);have zkj:Hid (ba9<v33.heap.size):=za (oH zkj.out);have zkk:Hid (bc9<v33.heap.size):=za (oH zkk.out);have hrn_a_bc9:Hid (∀ k,(Value.slice Aa9 nr ca9).ownBlock=some k->k≠bc9):=za (fun k hk=>by rcases hat with h1|h1;(rw [h1] at hk;simp [Value.ownBlock] at hk;rw [← hk];exact zks.out);(rw [h1] at hk;rw [← Option.some.inj hk];exact (Ne.symm hne_bc9_na9.out)))
  have hrl_a:Hid (∀ k,(Value.slice Aa9 nr ca9).ownBlock=some k->k<v33.heap.size):=za (fun k hk=>(owna8.lt k hk).2);clear hbs hsz hbe;refine hK.out _ _ hx33 ?_;refine pT ?_;have zkm:=owna8;refine zm (fun K hK=>?_) (fun K hK=>?_)
  ·exact yY09b2
  ·go_simp;have hx34:=hx33.alloc (.cells #[(),()] 90);have zkh:=(Ext.refl v33).alloc (.cells #[(),()] 90);have blk9:=Blk.new v33 90 #[(),()];refine hK.out _ _ hx34 ?_;refine pT ?_;have zkm:=zh zkm zkh;have zkn:=zh zkn zkh;have HG0:=za hx33.size;have hbs:v33.heap.size<(v33.alloc (.cells #[(),()] 90)).heap.size:=sM;generalize hbe:v33.heap.size=gbox9 at *;generalize v33.alloc _=v34 at *;have zkj:Hid (ba9<v34.heap.size):=za (oH zkj.out);have zkk:Hid (bc9<v34.heap.size):=za (oH zkk.out);have hrl_a:Hid (∀ k,(Value.slice Aa9 nr ca9).ownBlock=some k->k<v34.heap.size):=za (fun k hk=>(zkm.lt k hk).2);exact yY09b3
 ·go_simp;have hx33:=hx32.alloc (.cells #[(),()] 90);have zkh:=(Ext.refl v32).alloc (.cells #[(),()] 90);have blk9:=Blk.new v32 90 #[(),()];refine hK.out _ _ hx33 ?_;refine pT ?_;have zkm:=zh zkm zkh;have zkn:=zh zkn zkh;have HG0:=za hx32.size;have hbs:v32.heap.size<(v32.alloc (.cells #[(),()] 90)).heap.size:=sM;generalize hbe:v32.heap.size=gbox9 at *;generalize v32.alloc _=v33 at *;have zkj:Hid (ba9<v33.heap.size):=za (oH zkj.out);have zkk:Hid (bc9<v33.heap.size):=za (oH zkk.out);exact yY09b1
 ):P:=h
theorem yY09a2 {P:Prop}(h:P:=by
 clear hbs zkh hbe;refine zm (fun K hK=>?_) (fun K hK=>?_)
 ·skip;refine zx _ _ _ _ rfl w1.heap.size 9 _ 1 16 Tryz.underlying88 zt rfl dM (.slice (some ba9) 0 0) 0 [] rfl zkm _ _ R nr cr (zM rows) rfl (HR1.out v32 hx32) (zv _) lM oM hx32.size ?_;intro v9 v33 owna8 hg hat;rw [Nat.zero_add,List.nil_append] at owna8;obtain⟨Aa9,ca9,rfl⟩:=zi owna8;have hx33:=hx32.grown hg (fun k hk=>(zkm.lt k hk).1);have hsz:=hg.size;have hbs:Hid (v32.heap.size=v32.heap.size):=za rfl;have blk9:Blk v33 gbox9 90 #[.slice none 0 0,.slice none 0 0]:=(hg.block gbox9 (Blk.lt blk9) (fun e=>zr zkm blk9 dM e.symm rfl)).trans blk9;generalize hbe:v32.heap.size=na9 at *;have hne_ba9_na9:Hid (ba9≠na9):=za (oH zkj.out);have zkj:Hid (ba9<v33.heap.size):=za (oH zkj.out);have hrl_a:Hid (∀ k,(Value.slice Aa9 nr ca9).ownBlock=some k->k<v33.heap.size):=za (fun k hk=>(owna8.lt k hk).2);clear hbs hsz hbe;refine hK.out _ _ hx33 ?_;refine pT ?_;have zkm:=owna8;refine ze fun K hK=>?_;go_simp;have hx34:=hx33.alloc (.cells #[] 9);have zkn:=zq (World.ownsRow_lit v33 (e:=9) (size:=1) #[] 0 (Nat.le_refl _) lM rfl) hx33.size;have zkh:=(Ext.refl v33).alloc (.cells #[] 9);refine hK.out _ _ hx34 ?_;refine pT ?_;have zkm:=zh zkm zkh;have blk9:=Blk.ext blk9 zkh;have hbs:v33.heap.size<(v33.alloc (.cells #[] 9)).heap.size:=sM;generalize hbe:v33.heap.size=bc9 at *;generalize v33.alloc _=v34 at *;have zks:Hid (ba9≠bc9):=za (oH zkj.out);have hrn_a_bc9:Hid (∀ k,(Value.slice Aa9 nr ca9).ownBlock=some k->k≠bc9):=za (fun k hk=>by have:=hrl_a.out k hk;omega);have zkj:Hid (ba9<v34.heap.size):=za (oH zkj.out);have hrl_a:Hid (∀ k,(Value.slice Aa9 nr ca9).ownBlock=some k->k<v34.heap.size):=za (fun k hk=>(zkm.lt k hk).2);have zkk:Hid (bc9<v34.heap.size):=za hbs;exact yY09b3
 ·go_simp;have hx33:=hx32.alloc (.cells #[] 9);have zkn:=zq (World.ownsRow_lit v32 (e:=9) (size:=1) #[] 0 (Nat.le_refl _) lM rfl) hx32.size;have zkh:=(Ext.refl v32).alloc (.cells #[] 9);refine hK.out _ _ hx33 ?_;refine pT ?_;have zkm:=zh zkm zkh;have blk9:=Blk.ext blk9 zkh;have hbs:v32.heap.size<(v32.alloc (.cells #[] 9)).heap.size:=sM;generalize hbe:v32.heap.size=bc9 at *;generalize v32.alloc _=v33 at *;have zks:Hid (ba9≠bc9):=za (oH zkj.out);have zkj:Hid (ba9<v33.heap.size):=za (oH zkj.out);have zkk:Hid (bc9<v33.heap.size):=za hbs;exact yY09b1
 ):P:=h
theorem yY09a3 {P:Prop}(h:P:=by
 clear hbs zkh hbe;refine ze fun K hK=>?_;go_simp;have hx33:=hx32.alloc (.cells #[] 9);have zkm:=zq (World.ownsRow_lit v32 (e:=9) (size:=1) #[] 0 (Nat.le_refl _) lM rfl) hx32.size;have zkh:=(Ext.refl v32).alloc (.cells #[] 9);refine hK.out _ _ hx33 ?_;refine pT ?_;have zkn:=zh zkn zkh;have blk9:=Blk.ext blk9 zkh;have hbs:v32.heap.size<(v32.alloc (.cells #[] 9)).heap.size:=sM;generalize hbe:v32.heap.size=ba9 at *;generalize v32.alloc _=v33 at *;have zks:Hid (ba9≠bc9):=za (oH zkk.out);have zkk:Hid (bc9<v33.heap.size):=za (oH zkk.out);have zkj:Hid (ba9<v33.heap.size):=za hbs;exact yY09b1
 ):P:=h
theorem yY09a4 {P:Prop}(h:P:=by
 exact yY09b3
 ):P:=h
theorem zeL (h:Tch w A n B m B' m' s p L)(hT:TabAt w R nr C nc rows cols)(hI:zbX L (zo s p L) rows cols)(hcr:nr<=cr)(hcc:nc<=cc) :
  Calls Tryz.prog 131 #[.agg #[.bool false,(0:Int),(),(),s.al,s.st,.slice A n c,p.al,.slice B m d,.slice B' m' d',L],.agg #[.slice R nr cr,.slice C nc cc]] w (zcJ w ((zX L (zo s p L) cols (12 - rows.length) rows).map fun r=>(r,cols))):=by
 obtain⟨e1,e2⟩:=hT.nr;have aa:=hI.r12;have av:=hI.c20;rw [e1] at aa;rw [e2] at av;have HV:=za (fun W (hW:Ext w W)=>zch (c:=c) (d:=d) (d':=d') (h.ext hW) (hT.ext hW) hI hcr hcc);have HO:=za (fun (R:Option Addr) (nr cr:Nat) (C:Option Addr) (nc cc:Nat) (rows:List ByteArray) W (hW:Ext w W) hT hI=>zgK (c:=c) (d:=d) (d':=d') (nr:=nr) (nc:=nc) (R:=R) (C:=C) (cr:=cr) (cc:=cc) (rows:=rows) (cols:=cols) (h.ext hW) hT hI);obtain⟨lo,hi,bg,bc,h1,h2⟩:=hT;have HR:=za (fun W (hW:Ext w W)=>h1.ext hW);have HC:=za (fun W (hW:Ext w W)=>h2.ext hW);have HI:=za hI;have He:=za (And.intro e1 e2);obtain⟨t,zki⟩:∃ t,Hid (zX L (zo s p L) cols (12 - rows.length) rows=t):=⟨_,rfl⟩;rw [zki.out];clear h h1 h2 hI e1 e2
 go_enter Tryz.func131,Tryz.ntmps131
 go_upto_region 1 with fail
 generalize U0:((w.alloc _).alloc _).alloc _=w0 at *;obtain⟨hx0,b1,b2,b3⟩:=Ext.x3_ U0;clear U0;have CB:=b1.cells;have CT:=b2.cells;have ba:=b3.lt;have ay:=dE w0;go_upto_region 3 with (first
  |(go_at_call 211;refine (HV.out _ hx0).mono (mQ fun w1 l=>?_)))
 have u:=hx0.trans l;have be:=l.size;have HR1:=za (fun W (hW:Ext w1 W)=>HR.out W (u.trans hW));have HC1:=za (fun W (hW:Ext w1 W)=>HC.out W (u.trans hW));have aG:=fun W (hW:Ext w1 W)=>CT W (l.trans hW)
 go_cut [6] (fun v wx=>TabV w1 rows cols nr nc v wx)
 case first =>
  clear CB CT ay HV HO;have X0:Ext w1 w1.drew:=(dE w1).drew;refine uR (fun X=>Ext w1 X) [10] (zw.app [1,2,5,6] (zw.three 0 (zw.three 3 (zw.two 4 (zw.two 7 (zw.of [8,9,10]) 9 (zw.of [7,8,10])) 9 (zw.of [4,7,8,10])) 4 (zw.two 3 (zw.two 7 (zw.of [8,9,10]) 9 (zw.of [7,8,10])) 9 (zw.of [3,7,8,10])) 9 (zw.two 3 (zw.of [4,7,8,10]) 4 (zw.of [3,7,8,10]))) 4 (zw.two 0 (zw.two 3 (zw.two 7 (zw.of [8,9,10]) 9 (zw.of [7,8,10])) 9 (zw.of [3,7,8,10])) 9 (zw.of [0,3,7,8,10])) 9 (zw.two 0 (zw.two 3 (zw.of [4,7,8,10]) 4 (zw.of [3,7,8,10])) 4 (zw.of [0,3,7,8,10])))) ?_;generalize w1.drew=o at *;refine uQ ?_;refine zaL (fun K hK=>?_) (fun K hK=>?_) (fun K hK=>?_)
  ·go_simp;have f:=X0.alloc (.cells #[] 9);have zkm:=zq (World.ownsRow_lit o (e:=9) (size:=1) #[] 0 (dI _) lM rfl) X0.size;have zkh:=(dE o).alloc (.cells #[] 9);refine hK.out _ _ f ?_;refine pT ?_;have hbs:o.heap.size<(o.alloc (.cells #[] 9)).heap.size:=sM;generalize hbe:o.heap.size=ba9 at *;generalize o.alloc _=a at *;have zkj:Hid (ba9<a.heap.size):=za hbs;clear hbs zkh hbe;refine zaL (fun K hK=>?_) (fun K hK=>?_) (fun K hK=>?_)
   ·skip;refine zx _ _ _ _ rfl w1.heap.size 9 _ 1 16 Tryz.underlying88 zt rfl dM (.slice (some ba9) 0 0) 0 [] rfl zkm _ _ R nr cr (zM rows) rfl (HR1.out a f) (zv _) lM oM f.size ?_;intro v9 v32 owna8 hg hat;rw [eO,e9] at owna8;obtain⟨Aa9,ca9,rfl⟩:=zi owna8;have hx32:=f.grown hg (fun k hk=>(zkm.lt k hk).1);have hsz:=hg.size;have hbs:Hid (a.heap.size=a.heap.size):=za rfl;generalize hbe:a.heap.size=na9 at *;have hne_ba9_na9:Hid (ba9≠na9):=za (oH zkj.out);have zkj:Hid (ba9<v32.heap.size):=za (oH zkj.out);have hrl_a:Hid (∀ k,(Value.slice Aa9 nr ca9).ownBlock=some k->k<v32.heap.size):=za (fun k hk=>(owna8.lt k hk).2);clear hbs hsz hbe;refine hK.out _ _ hx32 ?_;refine pT ?_;have zkm:=owna8;refine zm (fun K hK=>?_) (fun K hK=>?_)
    ·go_simp;have hx33:=hx32.alloc (.cells #[] 9);have zkn:=zq (World.ownsRow_lit v32 (e:=9) (size:=1) #[] 0 (dI _) lM rfl) hx32.size;have zkh:=(dE v32).alloc (.cells #[] 9);refine hK.out _ _ hx33 ?_;refine pT ?_;have zkm:=zh zkm zkh;have hbs:v32.heap.size<(v32.alloc (.cells #[] 9)).heap.size:=sM;generalize hbe:v32.heap.size=bc9 at *;generalize v32.alloc _=v33 at *;have zks:Hid (ba9≠bc9):=za (oH zkj.out);have hrn_a_bc9:Hid (∀ k,(Value.slice Aa9 nr ca9).ownBlock=some k->k≠bc9):=za (fun k hk=>by have:=hrl_a.out k hk;omega);have zkj:Hid (ba9<v33.heap.size):=za (oH zkj.out);have hrl_a:Hid (∀ k,(Value.slice Aa9 nr ca9).ownBlock=some k->k<v33.heap.size):=za (fun k hk=>(zkm.lt k hk).2);have zkk:Hid (bc9<v33.heap.size):=za hbs;clear hbs zkh hbe;refine zm (fun K hK=>?_) (fun K hK=>?_)
     ·exact yY09b2
     ·go_simp;have hx34:=hx33.alloc (.cells #[(),()] 90);have zkh:=(dE v33).alloc (.cells #[(),()] 90);have blk9:=eX v33 90 #[(),()];refine hK.out _ _ hx34 ?_;refine pT ?_;have zkm:=zh zkm zkh;have zkn:=zh zkn zkh;have HG0:=za hx33.size;have hbs:v33.heap.size<(v33.alloc (.cells #[(),()] 90)).heap.size:=sM;generalize hbe:v33.heap.size=gbox9 at *;generalize v33.alloc _=v34 at *;have zkj:Hid (ba9<v34.heap.size):=za (oH zkj.out);have zkk:Hid (bc9<v34.heap.size):=za (oH zkk.out);have hrl_a:Hid (∀ k,(Value.slice Aa9 nr ca9).ownBlock=some k->k<v34.heap.size):=za (fun k hk=>(zkm.lt k hk).2);exact yY09a4
    ·go_simp;have hx33:=hx32.alloc (.cells #[(),()] 90);have zkh:=(dE v32).alloc (.cells #[(),()] 90);have blk9:=eX v32 90 #[(),()];refine hK.out _ _ hx33 ?_;refine pT ?_;have zkm:=zh zkm zkh;have HG0:=za hx32.size;have hbs:v32.heap.size<(v32.alloc (.cells #[(),()] 90)).heap.size:=sM;generalize hbe:v32.heap.size=gbox9 at *;generalize v32.alloc _=v33 at *;have zkj:Hid (ba9<v33.heap.size):=za (oH zkj.out);have hrl_a:Hid (∀ k,(Value.slice Aa9 nr ca9).ownBlock=some k->k<v33.heap.size):=za (fun k hk=>(zkm.lt k hk).2);clear hbs zkh hbe;refine ze fun K hK=>?_;go_simp;have hx34:=hx33.alloc (.cells #[] 9);have zkn:=zq (World.ownsRow_lit v33 (e:=9) (size:=1) #[] 0 (dI _) lM rfl) hx33.size;have zkh:=(dE v33).alloc (.cells #[] 9);refine hK.out _ _ hx34 ?_;refine pT ?_;have zkm:=zh zkm zkh;have blk9:=Blk.ext blk9 zkh;have hbs:v33.heap.size<(v33.alloc (.cells #[] 9)).heap.size:=sM;generalize hbe:v33.heap.size=bc9 at *;generalize v33.alloc _=v34 at *;have zks:Hid (ba9≠bc9):=za (oH zkj.out);have hrn_a_bc9:Hid (∀ k,(Value.slice Aa9 nr ca9).ownBlock=some k->k≠bc9):=za (fun k hk=>by have:=hrl_a.out k hk;omega);have zkj:Hid (ba9<v34.heap.size):=za (oH zkj.out);have hrl_a:Hid (∀ k,(Value.slice Aa9 nr ca9).ownBlock=some k->k<v34.heap.size):=za (fun k hk=>(zkm.lt k hk).2);have zkk:Hid (bc9<v34.heap.size):=za hbs;exact yY09a4
   ·go_simp;have hx32:=f.alloc (.cells #[] 9);have zkn:=zq (World.ownsRow_lit a (e:=9) (size:=1) #[] 0 (dI _) lM rfl) f.size;have zkh:=(dE a).alloc (.cells #[] 9);refine hK.out _ _ hx32 ?_;refine pT ?_;have zkm:=zh zkm zkh;have hbs:a.heap.size<(a.alloc (.cells #[] 9)).heap.size:=sM;generalize hbe:a.heap.size=bc9 at *;generalize a.alloc _=v32 at *;have zks:Hid (ba9≠bc9):=za (oH zkj.out);have zkj:Hid (ba9<v32.heap.size):=za (oH zkj.out);have zkk:Hid (bc9<v32.heap.size):=za hbs;exact yY09a1
   ·go_simp;have hx32:=f.alloc (.cells #[(),()] 90);have zkh:=(dE a).alloc (.cells #[(),()] 90);have blk9:=eX a 90 #[(),()];refine hK.out _ _ hx32 ?_;refine pT ?_;have zkm:=zh zkm zkh;have HG0:=za f.size;have hbs:a.heap.size<(a.alloc (.cells #[(),()] 90)).heap.size:=sM;generalize hbe:a.heap.size=gbox9 at *;generalize a.alloc _=v32 at *;have zkj:Hid (ba9<v32.heap.size):=za (oH zkj.out);exact yY09a2
  ·go_simp;have f:=X0.alloc (.cells #[] 9);have zkn:=zq (World.ownsRow_lit o (e:=9) (size:=1) #[] 0 (dI _) lM rfl) X0.size;have zkh:=(dE o).alloc (.cells #[] 9);refine hK.out _ _ f ?_;refine pT ?_;have hbs:o.heap.size<(o.alloc (.cells #[] 9)).heap.size:=sM;generalize hbe:o.heap.size=bc9 at *;generalize o.alloc _=a at *;have zkk:Hid (bc9<a.heap.size):=za hbs;clear hbs zkh hbe;refine zm (fun K hK=>?_) (fun K hK=>?_)
   ·go_simp;have hx32:=f.alloc (.cells #[] 9);have zkm:=zq (World.ownsRow_lit a (e:=9) (size:=1) #[] 0 (dI _) lM rfl) f.size;have zkh:=(dE a).alloc (.cells #[] 9);refine hK.out _ _ hx32 ?_;refine pT ?_;have zkn:=zh zkn zkh;have hbs:a.heap.size<(a.alloc (.cells #[] 9)).heap.size:=sM;generalize hbe:a.heap.size=ba9 at *;generalize a.alloc _=v32 at *;have zks:Hid (ba9≠bc9):=za (oH zkk.out);have zkk:Hid (bc9<v32.heap.size):=za (oH zkk.out);have zkj:Hid (ba9<v32.heap.size):=za hbs;exact yY09a1
   ·go_simp;have hx32:=f.alloc (.cells #[(),()] 90);have zkh:=(dE a).alloc (.cells #[(),()] 90);have blk9:=eX a 90 #[(),()];refine hK.out _ _ hx32 ?_;refine pT ?_;have zkn:=zh zkn zkh;have HG0:=za f.size;have hbs:a.heap.size<(a.alloc (.cells #[(),()] 90)).heap.size:=sM;generalize hbe:a.heap.size=gbox9 at *;generalize a.alloc _=v32 at *;have zkk:Hid (bc9<v32.heap.size):=za (oH zkk.out);exact yY09a3
  ·go_simp;have f:=X0.alloc (.cells #[(),()] 90);have zkh:=(dE o).alloc (.cells #[(),()] 90);have blk9:=eX o 90 #[(),()];refine hK.out _ _ f ?_;refine pT ?_;have HG0:=za X0.size;have hbs:o.heap.size<(o.alloc (.cells #[(),()] 90)).heap.size:=sM;generalize hbe:o.heap.size=gbox9 at *;generalize o.alloc _=a at *;clear hbs zkh hbe;refine zm (fun K hK=>?_) (fun K hK=>?_)
   ·go_simp;have hx32:=f.alloc (.cells #[] 9);have zkm:=zq (World.ownsRow_lit a (e:=9) (size:=1) #[] 0 (dI _) lM rfl) f.size;have zkh:=(dE a).alloc (.cells #[] 9);refine hK.out _ _ hx32 ?_;refine pT ?_;have blk9:=Blk.ext blk9 zkh;have hbs:a.heap.size<(a.alloc (.cells #[] 9)).heap.size:=sM;generalize hbe:a.heap.size=ba9 at *;generalize a.alloc _=v32 at *;have zkj:Hid (ba9<v32.heap.size):=za hbs;exact yY09a2
   ·go_simp;have hx32:=f.alloc (.cells #[] 9);have zkn:=zq (World.ownsRow_lit a (e:=9) (size:=1) #[] 0 (dI _) lM rfl) f.size;have zkh:=(dE a).alloc (.cells #[] 9);refine hK.out _ _ hx32 ?_;refine pT ?_;have blk9:=Blk.ext blk9 zkh;have hbs:a.heap.size<(a.alloc (.cells #[] 9)).heap.size:=sM;generalize hbe:a.heap.size=bc9 at *;generalize a.alloc _=v32 at *;have zkk:Hid (bc9<v32.heap.size):=za hbs;exact yY09a3
 case rest =>
  obtain⟨G,R1,F,y,g,rfl,aR,E,Y,V,am,hdis⟩:=hcut;obtain⟨wE,T⟩:∃ wE,wE=wc:=⟨_,rfl⟩;subst T;have aS:=za (And.intro He.out.1 HI.out);have aT:=u.trans am;have aI:=za (show TabAt wE R1 nr y nc rows cols from ⟨_,_,_,_,eW Y,eW V⟩);have k6:=fun W (hW:Ext wE W)=>(E.ext hW).cell;have T:=dE wE;have az:=l.trans am;have aE:=fun W (hW:Ext wE W)=>CB W (az.trans hW);go_wp2_with (first
   |(go_at_call 212;refine (HO.out _ _ _ _ _ _ rows _ aT aI.out HI.out).mono (mQ fun w3 M=>?_)))
  have ab:=am.trans M;have au:=E.ext M;have aC:=zh Y M;have aA:=zh V M;clear k6 Y V E aE CT aG T ay
  go_loopw [7,8] (fun v7 v8 wr=>∃ (q:List ByteArray) (k:Nat) (R1:Option Addr) (F:Nat),v7=.string ((zaJ L (zo s p L) q cols).getD ⟨#[]⟩)∧v8=.bool (zaJ L (zo s p L) q cols).isSome∧Hid (q.length=k∧zbX L (zo s p L) q cols)∧Hid (zX L (zo s p L) cols (12 - k) q=t)∧k<=12∧Blk wr G 90 #[.slice R1 k F,.slice y nc g]∧wr.ownsRow w1.heap.size 9 1 (.slice R1 k F) k (zM q)∧wr.ownsRow w1.heap.size 9 1 (.slice y nc g) nc (zM cols)∧Hid (∀ j,(Value.slice R1 k F).ownBlock=some j->(Value.slice y nc g).ownBlock≠some j)∧Ext w1 wr) (fun _ _ wr=>13 - lenAt0 wr G)
  case atStart=>exact⟨rows,nr,R1,F,rfl,rfl,aS,za (by rw [← He.out.1];exact zki.out),aa,au,aC,aA,hdis,ab⟩
  case round =>
   clear au aC aA hdis ab M;obtain⟨q,k,Q,i,rfl,rfl,ai,ae,a2,E,Y,V,hdis,U⟩:=hrel;obtain⟨op,I⟩:∃ op,Hid (zaJ L (zo s p L) q cols=op):=⟨_,rfl⟩;rw [I.out];have k6:=E.cell;have f6:=E.frozen;have ax:=za (zeV E);have z:=b3.ext (l.trans U);have kz:=z.cell;have fz:=z.frozen;cases op with
   |none =>
    have ah:=za (show t=some q by rw [← ae.out,zcl _ I.out]);have hf:Frm (fun k=>k=w.heap.size+1+1) wr ((wr.setCell ⟨w.heap.size+1+1,0,none⟩ (.slice Q k i)).setCell ⟨w.heap.size+1+1,1,none⟩ (.slice y nc g)):=(eB wr _ 0 _).trans (eB _ _ 1 _);have cf:=(show Blk ((wr.setCell ⟨w.heap.size+1+1,0,none⟩ (.slice Q k i)).setCell ⟨w.heap.size+1+1,1,none⟩ (.slice y nc g)) (w.heap.size+1+1) 90 #[.slice Q k i,.slice y nc g] by simpa using (z.ab 0 (.slice Q k i)).ab 1 (.slice y nc g)).cell;have J:=za (show zcJ w (t.map fun r=>(r,cols)) (.returned (.tuple #[.agg #[.slice Q k i,.slice y nc g],.bool true])) ((wr.setCell ⟨w.heap.size+1+1,0,none⟩ (.slice Q k i)).setCell ⟨w.heap.size+1+1,1,none⟩ (.slice y nc g)) from
     ⟨((u.trans U).setCell (p:=⟨w.heap.size+1+1,0,none⟩) (by dsimp only;omega) _).setCell (p:=⟨w.heap.size+1+1,1,none⟩) (by dsimp only;omega) _,.inr ⟨q,cols,k,nc,Q,i,y,g,by rw [ah.out];rfl,rfl,zf (zq Y u.size) hf (fun b hv e=>zr Y z dM hv e),zf (zq V u.size) hf (fun b hv e=>zr V z dM hv e)⟩⟩)
    clear hf;go_wp2_with fail
    exact bodyPost_ret (v:=.tuple #[.agg #[.slice Q k i,.slice y nc g],.bool true]) (by simp [results,Tryz.results131,go_sem,cf]) rfl J.out
   |some x =>
    by_cases h12:k=12
    ·have ah:=za (show t=none by rw [← ae.out,h12];exact zeb I.out);have bb:((k:Int)==12)=true:=by rw [h12];rfl
     clear h12;have cf:=(show Blk ((wr.setCell ⟨w.heap.size+1+1,0,none⟩ ()).setCell ⟨w.heap.size+1+1,1,none⟩ ()) (w.heap.size+1+1) 90 #[(),()] by simpa using (z.ab 0 (.slice none 0 0)).ab 1 (.slice none 0 0)).cell;have J:=za (show zcJ w (t.map fun r=>(r,cols)) (.returned (.tuple #[.agg #[(),()],.bool false])) ((wr.setCell ⟨w.heap.size+1+1,0,none⟩ ()).setCell ⟨w.heap.size+1+1,1,none⟩ ()) from
      ⟨((u.trans U).setCell (p:=⟨w.heap.size+1+1,0,none⟩) (by dsimp only;omega) _).setCell (p:=⟨w.heap.size+1+1,1,none⟩) (by dsimp only;omega) _,.inl ⟨by rw [ah.out];rfl,rfl⟩⟩)
     go_wp2_with fail
     exact bodyPost_ret (v:=.tuple #[.agg #[(),()],.bool false]) (by simp [results,Tryz.results131,go_sem,cf]) rfl J.out
    ·have bd:((k:Int)==12)=false:=by simp;omega
     have H:=za (show zbX L (zo s p L) (q++[x]) cols from ai.out.2.grow (by rw [ai.out.1];omega) I.out);have aw:=za (show zX L (zo s p L) cols (12 - (k+1)) (q++[x])=t by
      rw [← ae.out,show 12 - k=(12 - (k+1))+1 by omega,zcZ _ I.out])
     go_upto_region 9 with (at_builtin;refine zO w1 wr rfl _ _ _ rfl 9 _ 1 16 Tryz.underlying88 zt rfl dM (.slice Q k i) k (zM q) _ _ rfl rfl U Y rfl (zcz _) lM oM ?_;intro v5 w5 hx5 zkr hg5 hat5;obtain⟨S,Z,rfl⟩:=zi zkr;have D:Blk w5 G 90 #[.slice Q k i,.slice y nc g]:=(hg5.block G (Blk.lt E) (fun e=>zr Y E dM e.symm rfl)).trans E;have aV:=Blk.cell D;have aO:=Blk.frozen D)
     have an:=zf V (Frm.ae hg5) (fun b hv e=>hdis.out b e hv);have af:=za (show ∀ j,(Value.slice S (k+1) Z).ownBlock=some j->(Value.slice y nc g).ownBlock≠some j from fun j hj hc=>by
      rcases hat5 with h1|h1
      ·rw [h1] at hj;exact hdis.out j hj hc
      ·rw [h1] at hj;have:=Option.some.inj hj;have:=(V.lt j hc).2;omega)
     have ag:Frm (fun k=>k=G) w5 (w5.setCell G (.slice S (k+1) Z)):=eB w5 G 0 _;have aB:=zf an ag (fun b hv e=>zr an D dM hv e);have ao:=zf zkr ag (fun b hv e=>zr zkr D dM hv e);have ad:Blk (w5.setCell G (.slice S (k+1) Z)) G 90 #[.slice S (k+1) Z,.slice y nc g]:=by simpa using D.ab 0 (.slice S (k+1) Z)
     have ak:=hx5.setCell (p:=⟨G,0,none⟩) aR (.slice S (k+1) Z);rw [show zM q++#[Value.string x].toList=zM (q++[x]) by rw [strs_snoc]] at ao;clear k6 f6 kz fz z E Y V ag aV aO D an zkr hx5 hg5 hat5 hdis;generalize w5.setCell G (.slice S (k+1) Z)=w6 at *;have a3:=fun W (hW:Ext w6 W)=>CB W (l.trans (ak.trans hW));have a4:=ad.cells;have aJ:=za (show TabAt w6 S (k+1) y nc (q++[x]) cols from ⟨_,_,_,_,eW ao,eW aB⟩);have T:=dE w6;go_wp2_with (first
      |(go_at_call 212;refine (HO.out _ _ _ _ _ _ (q++[x]) _ (u.trans ak) aJ.out H.out).mono (mQ fun w7 O=>?_)))
     have aj:=za (zeV (ad.ext O));go_roundw
     case rel=>exact⟨q++[x],k+1,S,Z,rfl,rfl,za ⟨by rw [List.length_append,ai.out.1];rfl,H.out⟩,aw,oM,ad.ext O,zh ao O,zh aB O,af,ak.trans O⟩
     case measure=>have h1:=ax.out;have h2:=aj.out;omega
end
theorem zbX.first (L:Nat) (f:ByteArray->Bool):zbX L f [⟨#[]⟩] [⟨#[]⟩]:=
 ⟨dI _,dM,dI _,dM,rfl,rfl,(fun i x hi hx=>by rw [eR (by simpa using hi)] at hx;cases hx),(fun i x hi hx=>by rw [eR (by simpa using hi)] at hx;cases hx),sM⟩
noncomputable def ziQ (zs:List ByteArray) (z:ByteArray):Nat:=zs.findIdx fun y=>zcS [y] z
theorem zjz (h:z∈zs):ziQ zs z<zs.length:=List.findIdx_lt_length_of_exists ⟨z,h,zaw.2 sM⟩
theorem idxS_at (h:z∈zs):zs[ziQ zs z]?=some z:=by
 have h1:=zjz h;have b:=List.findIdx_getElem (xs:=zs) (p:=fun y=>zcS [y] z) (w:=h1);have a:=zaw.1 b;rw [fN] at a;rw [List.getElem?_eq_getElem h1];exact congrArg some a.symm
theorem idxS_first {j:Nat} {y:ByteArray}(hj:j<ziQ zs z)(hy:zs[j]?=some y):y≠z:=by
 have h1:=List.not_of_lt_findIdx hj;have a:zs[j]'(by have:=List.findIdx_le_length (p:=fun y=>zcS [y] z) (xs:=zs);unfold ziQ at hj;omega)=y:=(List.getElem?_eq_some_iff.1 hy).2;rw [a] at h1;intro e;rw [zcp] at h1;exact h1 (by rw [e];simp)
theorem zjN (h:Reads w lo hi 1 A n (zM zs))(hz:z∈zs) :
  Calls Tryz.prog 136 #[.slice A n c,z] w fun e w'=>e=.returned (.int .i64 (ziQ zs z:Nat))∧w=w':=by
 have s:=h.len;have g:zs.length=n:=by have:=h.length;rw [zaR] at this;omega
 obtain⟨I,b⟩:∃ I,Hid (ziQ zs z=I):=⟨_,rfl⟩;have o:I<n:=by rw [← b.out,← g];exact zjz hz
 have hat:=za (b.out ▸ idxS_at hz);have a:=za (fun (j:Nat) (y:ByteArray) (hj:j<I)=>idxS_first (zs:=zs) (z:=z) (j:=j) (y:=y) (by rw [b.out];exact hj));rw [b.out];clear g hz
 go_enter Tryz.func136,Tryz.ntmps136
 go_wp2_with fail
 go_loop [5] (fun iv=>∃ i:Nat,iv=.int .i64 i∧i<=I) (fun iv=>n - (intOf iv).toNat)
 case atStart=>exact⟨0,rfl,eC _⟩
 case round =>
  obtain⟨i,rfl,hi⟩:=hrel;have d:i<n:=oM;have k:(i:Int)<(n:Int):=oM;obtain⟨q,y,rfl,_,_,l,r⟩:=h.str d
  by_cases he:i=I
  ·have f:y=z:=Option.some.inj (l.out.symm.trans (he ▸ hat.out));subst f;have m:=za he;clear he;go_wp2_with fail
   go_ret;exact⟨zap (by rw [m.out]),rfl⟩
  ·have p:=str_ne (a.out i y oM l.out);go_wp2_with fail
   go_round
   case rel=>exact⟨i+1,gM,oM⟩
   case measure=>simp [intOf];omega
section
variable {w W:World} {n c m d m' d' L:Nat} {A B B':Option Addr} {s:Sys} {p:Aut}
theorem zfY (h:Tch w A n B m B' m' s p L) :
  Calls Tryz.prog 57 #[.agg #[.bool false,(0:Int),(),(),s.al,s.st,.slice A n c,p.al,.slice B m d,.slice B' m' d',L]] w (zcJ w ((zX L (zo s p L) [⟨#[]⟩] 11 [⟨#[]⟩]).map fun r=>(r,[⟨#[]⟩]))):=by
 have y:=za (fun (R C:Option Addr) W (hW:Ext w W) (q:TabAt W R 1 C 1 [⟨#[]⟩] [⟨#[]⟩])=>zeL (c:=c) (d:=d) (d':=d') (cr:=1) (cc:=1) (h.ext hW) q (zbX.first L _) (dI _) (dI _))
 rw [show 12 - ([⟨#[]⟩]:List ByteArray).length=11 from rfl] at y;generalize (zX L (zo s p L) [⟨#[]⟩] 11 [⟨#[]⟩]).map (fun r=>(r,[(⟨#[]⟩:ByteArray)]))=o at *;clear h
 go_enter Tryz.func57,Tryz.ntmps57
 go_upto_region 1 with fail
 generalize U0:(w.alloc _).alloc _=i at *;obtain⟨hx0,H,I⟩:=iS U0;have hsz:w.heap.size+1+1=i.heap.size:=by rw [← U0];simp
 clear U0;have G:=za hsz;clear hsz;have E:=H.cell;have f:Ext i ((i.alloc (.cells #[.string ⟨#[]⟩] 9)).alloc (.cells #[.string ⟨#[]⟩] 9)):=((dE _).alloc _).alloc _;have q:TabAt ((i.alloc (.cells #[.string ⟨#[]⟩] 9)).alloc (.cells #[.string ⟨#[]⟩] 9)) (some ⟨i.heap.size,0,none⟩) 1 (some ⟨i.heap.size+1,0,none⟩) 1 [⟨#[]⟩] [⟨#[]⟩]:=by
  obtain⟨Q,S⟩:=zJ (dE ((i.alloc (.cells #[.string ⟨#[]⟩] 9)).alloc (.cells #[.string ⟨#[]⟩] 9)));refine⟨_,_,_,_,eW (base:=i.heap.size) (e:=9) (c:=1) ⟨rfl,.inr ⟨i.heap.size,1,_,rfl,dI _,Q,by unfold maxLen;simp [zM]⟩⟩,eW (base:=i.heap.size+1) (e:=9) (c:=1) ⟨rfl,.inr ⟨i.heap.size+1,1,_,rfl,dI _,S,by unfold maxLen;simp [zM]⟩⟩⟩
 have F:=za q;have l:=I.ext f;clear q;go_wp2_with fail
 refine (y.out _ _ _ (hx0.trans f) F.out).mono ?_;rintro e w2 ⟨j,⟨u,rfl⟩|⟨T,J,nr,nc,R,cr,C,cc,u,rfl,D,z⟩⟩
 ·have a:=l.ext j;have O:=a.cell;have M:=a.frozen;have t:=(show Blk ((w2.setCell ⟨w.heap.size+1,0,none⟩ ()).setCell ⟨w.heap.size+1,1,none⟩ ()) (w.heap.size+1) 90 #[(),()] by simpa using (a.ab 0 (.slice none 0 0)).ab 1 (.slice none 0 0)).cell;have g:=za (show zcJ w o (.returned (.tuple #[.agg #[(),()],.bool false])) ((w2.setCell ⟨w.heap.size+1,0,none⟩ ()).setCell ⟨w.heap.size+1,1,none⟩ ()) from
   ⟨(((hx0.trans f).trans j).setCell (p:=⟨w.heap.size+1,0,none⟩) (Nat.le_succ _) _).setCell (p:=⟨w.heap.size+1,1,none⟩) (Nat.le_succ _) _,.inl ⟨u,rfl⟩⟩)
  clear E;go_wp2_with fail
  exact bodyPost_ret (v:=.tuple #[.agg #[(),()],.bool false]) (by simp [results,Tryz.results57,go_sem,t]) rfl g.out
 ·have a:=l.ext j;have O:=a.cell;have M:=a.frozen;have x:Frm (fun k=>k=w.heap.size+1) w2 ((w2.setCell ⟨w.heap.size+1,0,none⟩ (.slice R nr cr)).setCell ⟨w.heap.size+1,1,none⟩ (.slice C nc cc)):=(eB w2 _ 0 _).trans (eB _ _ 1 _);have t:=(show Blk ((w2.setCell ⟨w.heap.size+1,0,none⟩ (.slice R nr cr)).setCell ⟨w.heap.size+1,1,none⟩ (.slice C nc cc)) (w.heap.size+1) 90 #[.slice R nr cr,.slice C nc cc] by simpa using (a.ab 0 (.slice R nr cr)).ab 1 (.slice C nc cc)).cell;have g:=za (show zcJ w o (.returned (.tuple #[.agg #[.slice R nr cr,.slice C nc cc],.bool true])) ((w2.setCell ⟨w.heap.size+1,0,none⟩ (.slice R nr cr)).setCell ⟨w.heap.size+1,1,none⟩ (.slice C nc cc)) from
   ⟨(((hx0.trans f).trans j).setCell (p:=⟨w.heap.size+1,0,none⟩) (Nat.le_succ _) _).setCell (p:=⟨w.heap.size+1,1,none⟩) (Nat.le_succ _) _,.inr ⟨T,J,nr,nc,R,cr,C,cc,u,rfl,zf (zq D (hx0.trans f).size) x (fun b hv e=>zr D a dM hv e),zf (zq z (hx0.trans f).size) x (fun b hv e=>zr z a dM hv e)⟩⟩)
  clear E x;go_wp2_with fail
  exact bodyPost_ret (v:=.tuple #[.agg #[.slice R nr cr,.slice C nc cc],.bool true]) (by simp [results,Tryz.results57,go_sem,t]) rfl g.out
end
theorem yY09a5 {P:Prop}(h:P:=by
 intro vA w4 hownA hgA hatA;rw [Nat.zero_add,List.nil_append] at hownA;obtain⟨BA,dA,rfl⟩:=zi hownA;have hxA:Ext w2 w4:=hx0.grown hgA (fun k hk=>(hm.lt k hk).1);have hb:Blk w4 G 27 #[.int .i64 0,.slice none 0 0,.slice none 0 0]:=(hgA.block G hb.lt (fun e=>zr hm hb dM e.symm rfl)).trans hb;replace hx0:=hxA;refine hK.out _ _ hx0 ?_;refine pT ?_;refine uQ ?_;have cG:=hb.cell;have fG:=hb.frozen;refine zb fun K hK=>?_;go_simp;refine hK.out _ _ ?_;refine zg ?_;have zki:Gra w2 (((w4.setCell G a.al).setCell ⟨G,1,none⟩ ()).setCell ⟨G,2,none⟩ (.slice BA n' dA)) G a.al (.slice none 0 0) [] (.slice BA n' dA) a.acc:=⟨zaf hb rfl _ _ _,⟨[],World.ownsRow_nil _ _ _ _,zC.nil _ _⟩,by
  rw [← hL'.out];exact zf hownA (zZ w4 G _ _ _) (fun b hv hS=>zr hownA hb dM hv hS),hx0.frm (zZ w4 G _ _ _) (fun k hk e=>oM),hG⟩
 go_wp2_with fail
 go_meet;exact⟨G,_,rfl,zki⟩
 ):P:=h
theorem zfA (h:zF w lo hi A n A' n' a)(hs:a.size<=1048576) :
  Calls Tryz.prog 165 #[.agg #[a.al,.slice A n c,.slice A' n' c']] w (RetAut w a):=by
 have h1:n<=1048576:=by have:=h.n1;unfold Aut.size at hs;omega
 have h2:n'<=1048576:=by have:=h.n2;unfold Aut.size at hs;omega
 have g:∀ (k:Nat) (l:List Int),a.next[k]?=some l->l.length<=1048576:=fun k l L=>by
  have h1:=zge L;have h2:=zie a.next (k+1);unfold Aut.size at hs;omega
 have D:=za g;have F:=za h.n1;have hL':=za h.n2;have HS:=za (fun W (hW:Ext w W)=>h.1.ext hW);have Q:=za (fun W (hW:Ext w W)=>h.2.2.ext hW);have aa:=h.1.len;clear g h hs
 go_enter Tryz.func165,Tryz.ntmps165
 go_upto_region 1 with fail
 generalize U0:(w.alloc _).alloc _=w2 at *;obtain⟨o,E,bz⟩:=iS U0;have ae:w.heap.size+2=w2.heap.size:=by rw [← U0];simp
 clear U0
 go_cut [3] (fun v wx=>∃ (G:Nat) (vA:Value),v=.pointer (some G)∧Gra w2 wx G a.al (.slice none 0 0) [] vA a.acc)
 case first =>
  have c1:=fun W (hW:Ext w2 W)=>(E.ext hW).cell;have C:=dE w2;refine uR (fun X=>Ext w2 X) [8] (zw.app [0,1,3,4] (zw.two 2 (zw.two 5 (zw.of [6,7,8]) 7 (zw.of [5,6,8])) 7 (zw.of [2,5,6,8]))) ?_;refine uQ ?_;have hx0:Ext w2 w2.drew:=C.drew;generalize w2.drew=m at *;refine zm (fun K hK=>?_) (fun K hK=>?_)
  ·go_simp;have hm:=World.ownsRow_made (base:=w2.heap.size) (e:=4) (size:=1) m #[] 0 hx0.size (eC _) rfl;have f:=(dE m).alloc (.cells #[] 4);replace hx0:=hx0.trans f;refine hK.out _ _ hx0 ?_;generalize m.alloc _=t at *;generalize m.heap.size=M at *;refine pT ?_;refine uQ ?_;clear hK;refine zm (fun K hK=>?_) (fun K hK=>?_)
   ·skip;refine zx t _ _ 25 rfl w2.heap.size 4 _ 1 1 Tryz.underlying25 zbh rfl dM (.slice (some M) 0 0) 0 [] rfl hm _ _ A' n' c' (zak a.acc) rfl (Q.out _ (o.trans hx0)) (zfI _) lM oM hx0.size ?_;intro vA w4 hownA hgA hatA;rw [eO,e9] at hownA;obtain⟨BA,dA,rfl⟩:=zi hownA;have hxA:Ext w2 w4:=hx0.grown hgA (fun k hk=>(hm.lt k hk).1);replace hx0:=hxA;refine hK.out _ _ hx0 ?_;refine pT ?_;refine uQ ?_;refine ze fun K hK=>?_;go_simp;have f:=(dE w4).alloc (.cells #[(0:Int),(),()] 27);have hG:=hx0.size;replace hownA:=zh hownA f;replace hx0:=hx0.trans f;refine hK.out _ _ hx0 ?_;generalize U0:w4.alloc _=p at *;have hb:=Ext.bl_ U0;clear U0;generalize w4.heap.size=G at *;refine pT ?_;refine uQ ?_;have cG:=hb.cell;have fG:=hb.frozen;refine zb fun K hK=>?_;go_simp;refine hK.out _ _ ?_;refine zg ?_;have zki:Gra w2 (((p.setCell G a.al).setCell ⟨G,1,none⟩ ()).setCell ⟨G,2,none⟩ (.slice BA n' dA)) G a.al (.slice none 0 0) [] (.slice BA n' dA) a.acc:=⟨zaf hb rfl _ _ _,⟨[],World.ownsRow_nil _ _ _ _,zC.nil _ _⟩,by
     rw [← hL'.out];exact zf hownA (zZ p G _ _ _) (fun b hv hS=>zr hownA hb dM hv hS),hx0.frm (zZ p G _ _ _) (fun k hk e=>oM),hG⟩
    go_wp2_with fail
    go_meet;exact⟨G,_,rfl,zki⟩
   ·go_simp;have f:=(dE t).alloc (.cells #[(0:Int),(),()] 27);have hG:=hx0.size;replace hm:=zh hm f;replace hx0:=hx0.trans f;refine hK.out _ _ hx0 ?_;generalize U0:t.alloc _=p at *;have hb:=Ext.bl_ U0;clear U0;generalize t.heap.size=G at *;refine pT ?_;refine uQ ?_;refine ze (fun K hK=>?_);refine zx p _ _ 25 rfl w2.heap.size 4 _ 1 1 Tryz.underlying25 zbh rfl dM (.slice (some M) 0 0) 0 [] rfl hm _ _ A' n' c' (zak a.acc) rfl (Q.out _ (o.trans hx0)) (zfI _) lM oM hx0.size ?_;exact yY09a5
  ·go_simp;have f:=(dE m).alloc (.cells #[(0:Int),(),()] 27);have hG:=hx0.size;replace hx0:=hx0.trans f;refine hK.out _ _ hx0 ?_;generalize U0:m.alloc _=p at *;have hb:=Ext.bl_ U0;clear U0;generalize m.heap.size=G at *;refine pT ?_;refine uQ ?_;refine ze fun K hK=>?_;go_simp;have hm:=World.ownsRow_made (base:=w2.heap.size) (e:=4) (size:=1) p #[] 0 hx0.size (eC _) rfl;have f:=(dE p).alloc (.cells #[] 4);replace hb:=hb.ext f;replace hx0:=hx0.trans f;refine hK.out _ _ hx0 ?_;generalize p.alloc _=t at *;generalize p.heap.size=M at *;refine pT ?_;refine uQ ?_;refine ze (fun K hK=>?_);refine zx t _ _ 25 rfl w2.heap.size 4 _ 1 1 Tryz.underlying25 zbh rfl dM (.slice (some M) 0 0) 0 [] rfl hm _ _ A' n' c' (zak a.acc) rfl (Q.out _ (o.trans hx0)) (zfI _) lM oM hx0.size ?_;exact yY09a5
 case rest =>
  obtain⟨G,vA,rfl,d⟩:=hcut;have O:=(E.ext d.ext).cell;go_wp2_with fail
  go_loopw [4] (fun i wr=>∃ (k:Nat) (v:Value),k<=n∧i=.int .i64 k∧Gra w2 wr G a.al v (a.next.take k) vA a.acc) (fun i _=>n - (intOf i).toNat)
  case atStart=>exact⟨0,_,eC _,rfl,by simpa using d⟩
  case round =>
   clear d O;obtain⟨k,v,hk,rfl,d⟩:=hrel
   by_cases hlt:k<n
   ·obtain⟨Y,V,Z,l,rfl,_,_,L,H,I⟩:=(HS.out wr (o.trans d.ext)).row hlt;have am:=D.out k l L.out;have S:=za (show a.next.take (k+1)=a.next.take k++[l] by rw [List.take_add_one,L.out];rfl);have J:=za (show (a.next.take k).length=k by rw [List.length_take];have:=F.out;omega);obtain⟨rows,hv,B⟩:=d.own;have O:=(E.ext d.ext).cell;go_upto_region 5 with fail
    clear O;have cG:=fun W (hW:Ext wr W)=>(d.blk.ext hW).cell;have C:=dE wr;have R:=za (fun W (hW:Ext wr W)=>I.ext hW);have C1:∀ W,Ext wr W->∀ q,W.cell? ⟨w.heap.size,q,none⟩=#[Value.int .i64 a.al,.slice (some Y) n c,.slice A' n' c'][q]?:=fun W hW=>((E.ext d.ext).ext hW).cell;have Cr:∀ W,Ext wr W->W.cell? (Y.add k)=some (.slice V l.length Z):=fun W hW=>hW.aa H;have ak:(k:Int)<(n:Int):=oM;clear H I;refine uR (fun X=>Ext wr X) [10,12] (zw.of [0,1,3,4,5,6,7,2,8,9,10,11,12]) ?_;refine uQ ?_;have hx0:Ext wr wr.drew:=C.drew;generalize wr.drew=m at *;refine ze fun K hK=>?_;go_simp;have hm:=World.ownsRow_made (base:=wr.heap.size) (e:=3) (size:=1) m #[] 0 hx0.size (eC _) rfl;have f:=(dE m).alloc (.cells #[] 3);replace hx0:=hx0.trans f;refine hK.out _ _ hx0 ?_;generalize m.alloc _=t at *;generalize m.heap.size=M at *;refine pT ?_;refine uQ ?_;refine ze (fun K hK=>?_);refine zx t _ _ 110 rfl wr.heap.size 3 _ 1 8 Tryz.underlying110 zae rfl dM (.slice (some M) 0 0) 0 [] rfl hm _ _ V l.length Z (ints l) rfl (R.out _ hx0) (zjC _) lM oM hx0.size ?_;intro vR w3 g hgR hatR;rw [eO,e9] at g;obtain⟨BR,dR,rfl⟩:=zi g;have j:Ext wr w3:=hx0.grown hgR (fun k hk=>(hm.lt k hk).1);refine hK.out _ _ j ?_;refine pT ?_;refine uQ ?_;refine ze fun K hK=>?_;go_simp;refine hK.out _ _ (j.alloc _) ?_;refine pT ?_;refine zb fun K hK=>?_;refine zaH w2 w3 _ _ _ rfl 110 _ 1 24 Tryz.underlying24 zcB rfl dM v (a.next.take k).length rows _ _ rfl rfl (d.ext.trans j).size (zh hv j) rfl (zbc _ _ _) (by unfold maxLen;have:=J.out;omega) (oH J.out) ?_;intro g5 cap5 w5 zkr hg5 hat5 hlt5;refine hK.out _ _ ?_;refine pT ?_;refine uQ ?_;obtain⟨p1,p2,p3⟩:=d.push B hv j g (W':=w5) zkr hg5 hat5;have ao:=p1.out;refine zb fun K hK=>?_;go_simp;refine hK.out _ _ ?_;refine zg ?_;go_wp2_with fail
    go_roundw
    case rel=>exact⟨k+1,_,oM,gM,by rw [S.out];first|exact p3|simpa using p3⟩
    case measure=>simp [intOf];omega
   ·obtain rfl:n=k:=oM;obtain⟨r,s,rfl⟩:∃ r s,v=.slice r n s:=by
     obtain⟨rows,hv,_⟩:=d.own;rw [eF (oH F.out),← F.out] at hv;exact zi hv
    obtain⟨u,x,rfl⟩:=zi d.acc;have O:=(E.ext d.ext).cell;have cG:=d.blk.cell;have y:=bz.ext d.ext;have cZ:=y.cell;have fZ:=y.frozen;have z:=zZ wr (w.heap.size+1) (.int .i64 a.al) (.slice r n s) (.slice u a.acc.length x);have T:=zaf y rfl (.int .i64 a.al) (.slice r n s) (.slice u a.acc.length x);have U:=(o.trans d.ext).frm z (fun k hk e=>oM);have zki:=za (show RetAut w a (.returned (.agg #[a.al,.slice r n s,.slice u a.acc.length x])) (((wr.setCell ⟨w.heap.size+1,0,none⟩ a.al).setCell ⟨w.heap.size+1,1,none⟩ (.slice r n s)).setCell ⟨w.heap.size+1,2,none⟩ (.slice u a.acc.length x)) from by
     refine⟨r,n,s,u,a.acc.length,x,rfl,⟨?_,F.out,?_,rfl⟩,U⟩
     ·have ho:=d.own;rw [eF (oH F.out)] at ho;exact (ho.keep z (fun b h1 e=>oM)).less oM
     ·exact zq (zaF d.acc z (fun b h1 e=>oM)) oM)
    go_wp2_with fail
    generalize ((wr.setCell ⟨w.heap.size+1,0,none⟩ a.al).setCell ⟨w.heap.size+1,1,none⟩ (.slice r n s)).setCell ⟨w.heap.size+1,2,none⟩ (.slice u a.acc.length x)=wf at *;have cf:=T.cell;exact bodyPost_ret (v:=.agg #[a.al,.slice r n s,.slice u a.acc.length x]) (by simp [results,Tryz.results165,go_sem,cf]) rfl zki.out
theorem zjK {b:Nat}  (h:w.ownsRow base e size v n xs)(hb:v.ownBlock=some b):∃ cur,w.heap[b]?=some (.cells cur e (0,0)):=by
 rcases h.2 with ⟨rfl,_⟩|⟨g,a,cur,rfl,_,c,_⟩
 ·simp [Value.ownBlock] at hb
 ·have:g=b:=by simpa [Value.ownBlock] using hb
  subst this;exact⟨cur,c⟩
theorem zN.frmT {S:Nat->Prop}       (h:zN w base A n c A' n' c' a)(hb:Frm S w w')
  (hS:∀ k,S k->∀ cs t,w.heap[k]?=some (.cells cs t (0,0))->t≠3∧t≠110∧t≠4):zN w' base A n c A' n' c' a:=by
 obtain⟨⟨rows,h1,f⟩,j,g,l⟩:=h;refine⟨⟨rows,zf h1 hb (fun b hv hs=>?_),f.frm hb (fun i r b hr hb hs=>?_)⟩,j,zf g hb (fun b hv hs=>?_),l⟩
 ·obtain⟨cs,d⟩:=zjK h1 hv;exact (hS b hs cs _ d).2.1 rfl
 ·obtain⟨o,_,m⟩:=f.row hr;obtain⟨cs,d⟩:=zjK m hb;exact (hS b hs cs _ d).1 rfl
 ·obtain⟨cs,d⟩:=zjK g hv;exact (hS b hs cs _ d).2.2 rfl
theorem zN.aq {cs:Array Value} (h:zN w base A n c A' n' c' a)(hB:Blk w G t cs)(hf:Frm (fun k=>k=G) w w')(ht:t≠3∧t≠110∧t≠4):zN w' base A n c A' n' c' a:=
 h.frmT hf (fun k hk cs' t' hh=>by
  subst hk
  unfold Blk at hB
  rw [hB] at hh
  injection hh with hh
  injection hh with _ h2
  subst h2
  exact ht)
theorem zN.farR {b1 k:Nat}        (h:zN w base A n c A' n' c' a)(ho:w.ownsRow b1 e size v k xs)(hf:Frm (fun k=>v.ownBlock=some k) w w')(ht:e≠3∧e≠110∧e≠4):zN w' base A n c A' n' c' a:=
 h.frmT hf (fun k hk cs' t' hh=>by
  obtain⟨cs,hc⟩:=zjK ho hk
  rw [hc] at hh
  injection hh with hh
  injection hh with _ h2
  subst h2
  exact ht)
end Go.Proofs.YtckbjnndaaoddaaGreatDoor
