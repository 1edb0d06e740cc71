/- The referenc -/
import Derived.Test.YtfcjhpodichpjaaGreatDoorQ11
set_option maxHeartbeats 8000000
set_option maxRecDepth 100000
namespace Go.Proofs.YtfcjhpodichpjaaGreatDoor
open Go Go.RowKit
open Blk renaming new->dT
open Bool renaming and_eq_true->dF,not_eq_true'->iB
open Ext renaming refl->cW
open Frm renaming setCell->dE
open List renaming all_eq_true->eG,getElem?_append_left->dK,getElem?_eq_getElem->dC,getElem?_eq_none->dZ,getElem?_map->dQ,length_append->dL,length_map->dO,length_take->eO,mem_of_getElem?->cX,mem_singleton->e8,take_add_one->dH,take_append_of_le_length->gL,take_of_length_le->dG
open Nat renaming le_refl->cY,zero_le->dD
open Reads renaming af->dY
variable {L c g l n:Nat} {R:Option Addr} {W w:World} {cols rows zs:List ByteArray} {f:ByteArray->Bool} {r x z:ByteArray}
theorem zr (l:List ByteArray):∀ u∈zM l,u.oneCell'=true:=by
 intro u hu;obtain⟨x,-,rfl⟩:=List.mem_map.1 hu;rfl
def TabV (w1:World) (rows cols:List ByteArray) (nr nc:Nat) (v:Value) (W:World):Prop:=
 ∃ (g:Nat) (R:Option Addr) (cr:Nat) (C:Option Addr) (cc:Nat),v=.pointer (some g)∧w1.heap.size<=g∧Blk W g 205 #[.slice R nr cr,.slice C nc cc] ∧
  W.ownsRow w1.heap.size 9 1 (.slice R nr cr) nr (zM rows)∧W.ownsRow w1.heap.size 9 1 (.slice C nc cc) nc (zM cols)∧Ext w1 W∧Hid (∀ k,(Value.slice R nr cr).ownBlock=some k->(Value.slice C nc cc).ownBlock≠some k)
theorem zau {w1:World}  {nr nc cr cc:Nat} {C:Option Addr}(ha:W.ownsRow w1.heap.size 9 1 (.slice R nr cr) nr (zM rows))(hc:W.ownsRow w1.heap.size 9 1 (.slice C nc cc) nc (zM cols))(hb:Blk W g 205 #[(),()])(hx:Ext w1 W)(hg:w1.heap.size<=g)(hd:∀ k,(Value.slice R nr cr).ownBlock=some k->(Value.slice C nc cc).ownBlock≠some k) :
  TabV w1 rows cols nr nc (.pointer (some g)) ((W.setCell g (.slice R nr cr)).setCell ⟨g,1,none⟩ (.slice C nc cc)):=by
 have a:Frm (fun k=>k=g) W ((W.setCell g (.slice R nr cr)).setCell ⟨g,1,none⟩ (.slice C nc cc)):=(dE W g 0 _).trans (dE _ g 1 _);exact⟨g,R,cr,C,cc,rfl,hg,by simpa using (hb.ab 0 _).ab 1 _,zf ha a (fun b hv e=>zq ha hb dM hv e),zf hc a (fun b hv e=>zq hc hb dM hv e),(hx.setCell (p:=⟨g,0,none⟩) hg _).setCell (p:=⟨g,1,none⟩) hg _,za hd⟩
section
variable {w W:World} {n c m d m' d' L:Nat} {A B B':Option Addr} {s:Sys} {p:Aut} {nr nc cr cc:Nat} {R C:Option Addr} {rows cols:List ByteArray}
theorem zhA (h:Tch w A n B m B' m' s p L)(hT:TabAt w R nr C nc rows cols)(hI:zdv L (zy s p L) rows cols)(hcr:nr<=cr)(hcc:nc<=cc) :
  Calls Tryz.prog 253 #[.agg #[.bool false,(0:Int),(),(),s.al,s.st,.slice A n c,p.al,.slice B m d,.slice B' m' d',L],.agg #[.slice R nr cr,.slice C nc cc]] w fun e w'=>e=.returned (.tuple #[.string ((zbK L (zy s p L) rows cols).getD ⟨#[]⟩),.bool (zbK L (zy s p L) rows cols).isSome])∧Ext w w':=by
 have i:=za (fun W (hW:Ext w W)=>zbM (c:=c) (d:=d) (d':=d') (h.ext hW) (hT.ext hW) hI hcr hcc);have g:=za (fun W (hW:Ext w W)=>zfL (c:=c) (d:=d) (d':=d') (cr:=cr) (cc:=cc) (h.ext hW) (hT.ext hW) hI);generalize zbK L (zy s p L) rows cols=r at *;clear h hT hI
 go_enter Tryz.func253,Tryz.ntmps253
 go_upto_region 1 with fail
 generalize U0:(w.alloc _).alloc _=w1 at *;obtain⟨a,j,k⟩:=Ext.x2_ U0;clear U0;have o:=j.cells;have q:=k.cells;have l:=cW w1;go_wp2_with (first
  |(go_at_call 251;refine (i.out _ a).mono (mQ fun t b=>?_))
  |(go_at_call 252;refine (g.out _ (a.trans b)).mono (mQ fun u f=>?_)))
 go_ret2;exact⟨rfl,a.trans (b.trans f)⟩
theorem zga (h:Tch w A n B m B' m' s p L)(hT:TabAt w R nr C nc rows cols)(hI:zdv L (zy s p L) rows cols)(hcr:nr<=cr)(hcc:nc<=cc)(hcl:zbK L (zy s p L) rows cols=none) :
  Calls Tryz.prog 227 #[.agg #[.bool false,(0:Int),(),(),s.al,s.st,.slice A n c,p.al,.slice B m d,.slice B' m' d',L],.agg #[.slice R nr cr,.slice C nc cc]] w fun e w'=>e=.returned (.bool true)∧Ext w w':=by
 have i:=za (fun W (hW:Ext w W)=>zbM (c:=c) (d:=d) (d':=d') (h.ext hW) (hT.ext hW) hI hcr hcc);have g:=za (fun W (hW:Ext w W)=>zhA (c:=c) (d:=d) (d':=d') (cr:=cr) (cc:=cc) (h.ext hW) (hT.ext hW) hI hcr hcc);rw [hcl] at g;clear h hT hI hcl
 go_enter Tryz.func227,Tryz.ntmps227
 go_upto_region 1 with fail
 generalize U0:(w.alloc _).alloc _=w1 at *;obtain⟨a,j,k⟩:=Ext.x2_ U0;clear U0;have o:=j.cells;have q:=k.cells;have l:=cW w1;go_wp2_with (first
  |(go_at_call 253;refine (g.out _ a).mono (mQ fun r b=>?_))
  |(go_at_call 251;refine (i.out _ (a.trans b)).mono (mQ fun t f=>?_)))
 go_ret;exact⟨rfl,a.trans (b.trans f)⟩
theorem inB_snoc (hr:inB r L=true)(hs:r.size<=1000)(hl:l<6)(hb:L.testBit l=true):inB (r++zeN l) L=true:=by
 unfold inB at hr ⊢;simp only [dF,decide_eq_true_eq] at hr ⊢;refine⟨by rw [ByteArray.size_append,zdB];omega,?_⟩;unfold zdD at hr ⊢;rw [ByteArray.data_append,Array.toList_append,List.all_append,hr.2,Bool.true_and];have e:(zeN l).data.toList=[UInt8.ofNat (97+l)]:=by
  unfold zeN;rw [strOfNums_data];rfl
 rw [e];simp only [List.all_cons,List.all_nil,Bool.and_true];have a:(UInt8.ofNat (97+l)).toNat=97+l:=by rw [UInt8.toNat_ofNat'];omega
 rw [a];unfold hasB ltr;rw [if_neg oM];simp only [dF,decide_eq_true_eq];exact⟨oM,by rw [show (((97+l:Nat):Int) - 97).toNat=l by omega];exact hb⟩
theorem openW_some (h:zbK L f rows cols=some x):(∃ r l,r∈rows∧l<6∧L.testBit l=true∧x=r++zeN l)∧zdw f cols x∉rows.map (zdw f cols):=by
 unfold zbK at h;have h1:=List.mem_of_find?_eq_some h;have a:=List.find?_some h;unfold candL at h1;obtain⟨r,i,c⟩:=List.mem_flatMap.1 h1;obtain⟨l,g,rfl⟩:=List.mem_map.1 c;obtain⟨b,d⟩:=zW.1 g;refine⟨⟨r,l,i,b,d,rfl⟩,fun hm=>?_⟩;simp only [iB] at a;rw [zcq] at a;refine a ?_;obtain⟨y,j,e⟩:=List.mem_map.1 hm;unfold zbL;exact List.mem_map.2 ⟨y,j,by rw [e]⟩
theorem zdv.grow (h:zdv L f rows cols)(hlen:rows.length<12)(hop:zbK L f rows cols=some x):zdv L f (rows++[x]) cols:=by
 obtain⟨⟨r,l,j,g,o,rfl⟩,p⟩:=openW_some hop;refine⟨sM,by simp;omega,h.c1,h.c20,by rw [dK (oH h.r1)];exact h.r0,h.c0,fun i y hi hy=>?_,h.cw,?_⟩
 ·rcases Nat.lt_or_ge i rows.length with h1|h1
  ·rw [dK h1] at hy;obtain⟨c,z,q,k,m,n⟩:=h.rw_ i y hi hy;exact⟨c,z,q,k,m,by rw [gL oM];exact n⟩
  ·rw [List.getElem?_append_right h1] at hy;have d:i=rows.length:=by
    rcases Nat.eq_or_lt_of_le h1 with c|c
    ·exact c.symm
    ·rw [dZ (by simp;omega)] at hy;cases hy
   subst d;simp at hy;subst hy;have c:=h.rin j;exact⟨inB_snoc c.1 oM g o,r,l,g,rfl,by rw [gL (cY _),List.take_length];exact j⟩
 ·rw [List.map_append,List.map_singleton,List.nodup_append];refine⟨h.nd,sM,fun a ha b hb' e=>?_⟩;rw [e8] at hb';subst hb';subst e;exact p ha
noncomputable def zaY (L:Nat) (f:ByteArray->Bool) (cols:List ByteArray):Nat->List ByteArray->Option (List ByteArray)
 |0,rows=>match zbK L f rows cols with|none=>some rows|some _=>none
 |k+1,rows=>match zbK L f rows cols with|none=>some rows|some x=>zaY L f cols k (rows++[x])
theorem zew (k:Nat)(h:zbK L f rows cols=none):zaY L f cols k rows=some rows:=by cases k<;>simp [zaY,h]
theorem zgz (h:zbK L f rows cols=some x):zaY L f cols 0 rows=none:=by simp [zaY,h]
theorem zgy (k:Nat)(h:zbK L f rows cols=some x):zaY L f cols (k+1) rows=zaY L f cols k (rows++[x]):=by simp [zaY,h]
theorem closeT_ok :∀ (k:Nat) (rows rows':List ByteArray),zdv L f rows cols->rows.length+k<=12->zaY L f cols k rows=some rows'->zdv L f rows' cols∧zbK L f rows' cols=none∧∃ t,rows'=rows++t:=by
 intro k
 induction k with
 |zero =>
  intro rows rows' hI hk h;cases ho:zbK L f rows cols with
  |none=>rw [zew 0 ho] at h;obtain rfl:=Option.some.inj h;exact⟨hI,ho,[],sM⟩
  |some x=>rw [zgz ho] at h;cases h
 |succ k ih =>
  intro rows rows' hI hk h;cases ho:zbK L f rows cols with
  |none=>rw [zew _ ho] at h;obtain rfl:=Option.some.inj h;exact⟨hI,ho,[],sM⟩
  |some x =>
   rw [zgy _ ho] at h;obtain⟨h1,a,t,b⟩:=ih (rows++[x]) rows' (hI.grow oM ho) (by simp;omega) h;exact⟨h1,a,[x]++t,by rw [b,List.append_assoc]⟩
def zcl (w:World) (o:Option (List ByteArray × List ByteArray)) (e:Ending) (w':World):Prop:=
 Ext w w'∧((o=none∧e=.returned (.tuple #[.agg #[(),()],.bool false])) ∨
  ∃ (rs cs:List ByteArray) (nr nc:Nat) (R:Option Addr) (cr:Nat) (C:Option Addr) (cc:Nat),o=some (rs,cs)∧e=.returned (.tuple #[.agg #[.slice R nr cr,.slice C nc cc],.bool true]) ∧
   w'.ownsRow w.heap.size 9 1 (.slice R nr cr) nr (zM rs)∧w'.ownsRow w.heap.size 9 1 (.slice C nc cc) nc (zM cs))
def lenAt0 (W:World) (G:Nat):Nat:=match W.cell? G with|some (.slice _ n _)=>n|_=>0
theorem zhQ {G:Nat}  {v:Value} {t:TypeId}(h:Blk W G t #[.slice R n c,v]):lenAt0 W G=n:=by
 unfold lenAt0;rw [h.cell 0];rfl
theorem yQ12d1 {P:Prop}(h:P:=by
 have c6:=Blk.cell blk9;have f6:=Blk.frozen blk9;refine zb fun K hK=>?_;go_simp;refine hK.out _ _ ?_;refine ze ?_;go_wp2_with fail
 go_meet;exact zau zjj zjk blk9 hx35 HG0.out hdis.out
 ):P:=h
theorem yQ12c1 {P:Prop}(h:P:=by
 refine zd (fun K hK=>?_);refine zv _ _ _ _ rfl w1.heap.size 9 _ 1 16 Tryz.underlying61 zo rfl dM (.slice (some bc9) 0 0) 0 [] rfl zjk _ _ C nc cc (zM cols) rfl (HC1.out v34 hx34) (zr _) lM oM hx34.size ?_;intro v9 v35 ownc8 hg hat;rw [Nat.zero_add,List.nil_append] at ownc8;obtain⟨Ac9,cc9,rfl⟩:=zi ownc8;have hx35:=hx34.grown hg (fun k hk=>(zjk.lt k hk).1);have hsz:=hg.size;have hbs:Hid (v34.heap.size=v34.heap.size):=za rfl;have zjj:=zf zjj (Frm.ae hg) (fun k hk hS=>hrn_a_bc9.out k hk (by simpa [Value.ownBlock] using hS.symm));have blk9:Blk v35 gbox9 205 #[.slice none 0 0,.slice none 0 0]:=(hg.block gbox9 (Blk.lt blk9) (fun e=>zq zjk blk9 dM e.symm rfl)).trans blk9;have hdis0:Hid (∀ k,(Value.slice Ac9 nc cc9).ownBlock=some k->(Value.slice Aa9 nr ca9).ownBlock≠some k):=za (fun k hk hS=>by rcases hat with h1|h1;(rw [h1] at hk;simp [Value.ownBlock] at hk;exact hrn_a_bc9.out k hS hk.symm);(rw [h1] at hk;have:=Option.some.inj hk;have:=hrl_a.out k hS;omega))
 have hdis:Hid (∀ k,(Value.slice Aa9 nr ca9).ownBlock=some k->(Value.slice Ac9 nc cc9).ownBlock≠some k):=za (fun k hk hS=>hdis0.out k hS hk);generalize hbe:v34.heap.size=nc9 at *;have hne_ba9_nc9:Hid (ba9≠nc9):=za (oH zjg.out);have hne_bc9_nc9:Hid (bc9≠nc9):=za (oH zjh.out);have zjg:Hid (ba9<v35.heap.size):=za (oH zjg.out);have zjh:Hid (bc9<v35.heap.size):=za (oH zjh.out);have hrl_a:Hid (∀ k,(Value.slice Aa9 nr ca9).ownBlock=some k->k<v35.heap.size):=za (fun k hk=>(zjj.lt k hk).2);have hrl_c:Hid (∀ k,(Value.slice Ac9 nc cc9).ownBlock=some k->k<v35.heap.size):=za (fun k hk=>(ownc8.lt k hk).2);clear hbs hsz hbe;refine hK.out _ _ hx35 ?_;refine pT ?_;have zjk:=ownc8;refine uQ ?_;exact yQ12d1
 ):P:=h
theorem yQ12b1 {P:Prop}(h:P:=by
 clear hbs zje hbe;refine zd (fun K hK=>?_);refine zv _ _ _ _ rfl w1.heap.size 9 _ 1 16 Tryz.underlying61 zo rfl dM (.slice (some ba9) 0 0) 0 [] rfl zjj _ _ R nr cr (zM rows) rfl (HR1.out v33 hx33) (zr _) lM oM hx33.size ?_;intro v9 v34 owna8 hg hat;rw [Nat.zero_add,List.nil_append] at owna8;obtain⟨Aa9,ca9,rfl⟩:=zi owna8;have hx34:=hx33.grown hg (fun k hk=>(zjj.lt k hk).1);have hsz:=hg.size;have hbs:Hid (v33.heap.size=v33.heap.size):=za rfl;have zjk:=zf zjk (Frm.ae hg) (fun k hk hS=>by simp [Value.ownBlock] at hk hS;exact zjp.out (hS.trans hk.symm));have blk9:Blk v34 gbox9 205 #[.slice none 0 0,.slice none 0 0]:=(hg.block gbox9 (Blk.lt blk9) (fun e=>zq zjj blk9 dM e.symm rfl)).trans blk9;generalize hbe:v33.heap.size=na9 at *;have hne_ba9_na9:Hid (ba9≠na9):=za (oH zjg.out);have hne_bc9_na9:Hid (bc9≠na9):=za (oH zjh.out);have zjg:Hid (ba9<v34.heap.size):=za (oH zjg.out);have zjh:Hid (bc9<v34.heap.size):=za (oH zjh.out);have hrn_a_bc9:Hid (∀ k,(Value.slice Aa9 nr ca9).ownBlock=some k->k≠bc9):=za (fun k hk=>by rcases hat with h1|h1;(rw [h1] at hk;simp [Value.ownBlock] at hk;rw [← hk];exact zjp.out);(rw [h1] at hk;rw [← Option.some.inj hk];exact (Ne.symm hne_bc9_na9.out)))
 have hrl_a:Hid (∀ k,(Value.slice Aa9 nr ca9).ownBlock=some k->k<v34.heap.size):=za (fun k hk=>(owna8.lt k hk).2);clear hbs hsz hbe;refine hK.out _ _ hx34 ?_;refine pT ?_;have zjj:=owna8;exact yQ12c1
 ):P:=h
theorem yQ12b2 {P:Prop}(h:P:=by
 skip;refine zv _ _ _ _ rfl w1.heap.size 9 _ 1 16 Tryz.underlying61 zo rfl dM (.slice (some bc9) 0 0) 0 [] rfl zjk _ _ C nc cc (zM cols) rfl (HC1.out v33 hx33) (zr _) lM oM hx33.size ?_;intro v9 v34 ownc8 hg hat;rw [Nat.zero_add,List.nil_append] at ownc8;obtain⟨Ac9,cc9,rfl⟩:=zi ownc8;have hx34:=hx33.grown hg (fun k hk=>(zjk.lt k hk).1);have hsz:=hg.size;have hbs:Hid (v33.heap.size=v33.heap.size):=za rfl;have zjj:=zf zjj (Frm.ae hg) (fun k hk hS=>hrn_a_bc9.out k hk (by simpa [Value.ownBlock] using hS.symm));have hdis0:Hid (∀ k,(Value.slice Ac9 nc cc9).ownBlock=some k->(Value.slice Aa9 nr ca9).ownBlock≠some k):=za (fun k hk hS=>by rcases hat with h1|h1;(rw [h1] at hk;simp [Value.ownBlock] at hk;exact hrn_a_bc9.out k hS hk.symm);(rw [h1] at hk;have:=Option.some.inj hk;have:=hrl_a.out k hS;omega))
 have hdis:Hid (∀ k,(Value.slice Aa9 nr ca9).ownBlock=some k->(Value.slice Ac9 nc cc9).ownBlock≠some k):=za (fun k hk hS=>hdis0.out k hS hk);generalize hbe:v33.heap.size=nc9 at *;have hne_ba9_nc9:Hid (ba9≠nc9):=za (oH zjg.out);have hne_bc9_nc9:Hid (bc9≠nc9):=za (oH zjh.out);have zjg:Hid (ba9<v34.heap.size):=za (oH zjg.out);have zjh:Hid (bc9<v34.heap.size):=za (oH zjh.out);have hrl_a:Hid (∀ k,(Value.slice Aa9 nr ca9).ownBlock=some k->k<v34.heap.size):=za (fun k hk=>(zjj.lt k hk).2);have hrl_c:Hid (∀ k,(Value.slice Ac9 nc cc9).ownBlock=some k->k<v34.heap.size):=za (fun k hk=>(ownc8.lt k hk).2);clear hbs hsz hbe;refine hK.out _ _ hx34 ?_;refine pT ?_;have zjk:=ownc8;refine uQ ?_;refine zd fun K hK=>?_;go_simp;have hx35:=hx34.alloc (.cells #[(),()] 205);have zje:=(Ext.refl v34).alloc (.cells #[(),()] 205);have blk9:=Blk.new v34 205 #[(),()];refine hK.out _ _ hx35 ?_;refine pT ?_;have zjj:=zg zjj zje;have zjk:=zg zjk zje;have HG0:=za hx34.size;have hbs:v34.heap.size<(v34.alloc (.cells #[(),()] 205)).heap.size:=sM;generalize hbe:v34.heap.size=gbox9 at *;generalize v34.alloc _=v35 at *;have zjg:Hid (ba9<v35.heap.size):=za (oH zjg.out);have zjh:Hid (bc9<v35.heap.size):=za (oH zjh.out);have hrl_a:Hid (∀ k,(Value.slice Aa9 nr ca9).ownBlock=some k->k<v35.heap.size):=za (fun k hk=>(zjj.lt k hk).2);have hrl_c:Hid (∀ k,(Value.slice Ac9 nc cc9).ownBlock=some k->k<v35.heap.size):=za (fun k hk=>(zjk.lt k hk).2);clear hbs zje hbe;exact yQ12d1
 ):P:=h
theorem yQ12b3 {P:Prop}(h:P:=by
 clear hbs zje hbe;exact yQ12c1
 ):P:=h
theorem yQ12a1 {P:Prop}(h:P:=by
 clear hbs zje hbe;refine zm (fun K hK=>?_) (fun K hK=>?_)
 ·skip;refine zv _ _ _ _ rfl w1.heap.size 9 _ 1 16 Tryz.underlying61 zo rfl dM (.slice (some ba9) 0 0) 0 [] rfl zjj _ _ R nr cr (zM rows) rfl (HR1.out v32 hx32) (zr _) lM oM hx32.size ?_;intro v9 v33 owna8 hg hat;rw [Nat.zero_add,List.nil_append] at owna8;obtain⟨Aa9,ca9,rfl⟩:=zi owna8;have hx33:=hx32.grown hg (fun k hk=>(zjj.lt k hk).1);have hsz:=hg.size;have hbs:Hid (v32.heap.size=v32.heap.size):=za rfl;have zjk:=zf zjk (Frm.ae hg) (fun k hk hS=>by simp [Value.ownBlock] at hk hS;exact zjp.out (hS.trans hk.symm));generalize hbe:v32.heap.size=na9 at *;have hne_ba9_na9:Hid (ba9≠na9):=za (oH zjg.out);have hne_bc9_na9:Hid (bc9≠na9):=za (oH zjh.out);have zjg:Hid (ba9<v33.heap.size):=za (oH zjg.out);have zjh:Hid (bc9<v33.heap.size):=za (oH zjh.out);have hrn_a_bc9:Hid (∀ k,(Value.slice Aa9 nr ca9).ownBlock=some k->k≠bc9):=za (fun k hk=>by rcases hat with h1|h1;(rw [h1] at hk;simp [Value.ownBlock] at hk;rw [← hk];exact zjp.out);(rw [h1] at hk;rw [← Option.some.inj hk];exact (Ne.symm hne_bc9_na9.out)))
  have hrl_a:Hid (∀ k,(Value.slice Aa9 nr ca9).ownBlock=some k->k<v33.heap.size):=za (fun k hk=>(owna8.lt k hk).2);clear hbs hsz hbe;refine hK.out _ _ hx33 ?_;refine pT ?_;have zjj:=owna8;refine zm (fun K hK=>?_) (fun K hK=>?_)
  ·exact yQ12b2
  ·go_simp;have hx34:=hx33.alloc (.cells #[(),()] 205);have zje:=(Ext.refl v33).alloc (.cells #[(),()] 205);have blk9:=Blk.new v33 205 #[(),()];refine hK.out _ _ hx34 ?_;refine pT ?_;have zjj:=zg zjj zje;have zjk:=zg zjk zje;have HG0:=za hx33.size;have hbs:v33.heap.size<(v33.alloc (.cells #[(),()] 205)).heap.size:=sM;generalize hbe:v33.heap.size=gbox9 at *;generalize v33.alloc _=v34 at *;have zjg:Hid (ba9<v34.heap.size):=za (oH zjg.out);have zjh:Hid (bc9<v34.heap.size):=za (oH zjh.out);have hrl_a:Hid (∀ k,(Value.slice Aa9 nr ca9).ownBlock=some k->k<v34.heap.size):=za (fun k hk=>(zjj.lt k hk).2);exact yQ12b3
 ·go_simp;have hx33:=hx32.alloc (.cells #[(),()] 205);have zje:=(Ext.refl v32).alloc (.cells #[(),()] 205);have blk9:=Blk.new v32 205 #[(),()];refine hK.out _ _ hx33 ?_;refine pT ?_;have zjj:=zg zjj zje;have zjk:=zg zjk zje;have HG0:=za hx32.size;have hbs:v32.heap.size<(v32.alloc (.cells #[(),()] 205)).heap.size:=sM;generalize hbe:v32.heap.size=gbox9 at *;generalize v32.alloc _=v33 at *;have zjg:Hid (ba9<v33.heap.size):=za (oH zjg.out);have zjh:Hid (bc9<v33.heap.size):=za (oH zjh.out);exact yQ12b1
 ):P:=h
theorem yQ12a2 {P:Prop}(h:P:=by
 clear hbs zje hbe;refine zm (fun K hK=>?_) (fun K hK=>?_)
 ·skip;refine zv _ _ _ _ rfl w1.heap.size 9 _ 1 16 Tryz.underlying61 zo rfl dM (.slice (some ba9) 0 0) 0 [] rfl zjj _ _ R nr cr (zM rows) rfl (HR1.out v32 hx32) (zr _) lM oM hx32.size ?_;intro v9 v33 owna8 hg hat;rw [Nat.zero_add,List.nil_append] at owna8;obtain⟨Aa9,ca9,rfl⟩:=zi owna8;have hx33:=hx32.grown hg (fun k hk=>(zjj.lt k hk).1);have hsz:=hg.size;have hbs:Hid (v32.heap.size=v32.heap.size):=za rfl;have blk9:Blk v33 gbox9 205 #[.slice none 0 0,.slice none 0 0]:=(hg.block gbox9 (Blk.lt blk9) (fun e=>zq zjj blk9 dM e.symm rfl)).trans blk9;generalize hbe:v32.heap.size=na9 at *;have hne_ba9_na9:Hid (ba9≠na9):=za (oH zjg.out);have zjg:Hid (ba9<v33.heap.size):=za (oH zjg.out);have hrl_a:Hid (∀ k,(Value.slice Aa9 nr ca9).ownBlock=some k->k<v33.heap.size):=za (fun k hk=>(owna8.lt k hk).2);clear hbs hsz hbe;refine hK.out _ _ hx33 ?_;refine pT ?_;have zjj:=owna8;refine zd fun K hK=>?_;go_simp;have hx34:=hx33.alloc (.cells #[] 9);have zjk:=zn (World.ownsRow_lit v33 (e:=9) (size:=1) #[] 0 (Nat.le_refl _) lM rfl) hx33.size;have zje:=(Ext.refl v33).alloc (.cells #[] 9);refine hK.out _ _ hx34 ?_;refine pT ?_;have zjj:=zg zjj zje;have blk9:=Blk.ext blk9 zje;have hbs:v33.heap.size<(v33.alloc (.cells #[] 9)).heap.size:=sM;generalize hbe:v33.heap.size=bc9 at *;generalize v33.alloc _=v34 at *;have zjp:Hid (ba9≠bc9):=za (oH zjg.out);have hrn_a_bc9:Hid (∀ k,(Value.slice Aa9 nr ca9).ownBlock=some k->k≠bc9):=za (fun k hk=>by have:=hrl_a.out k hk;omega);have zjg:Hid (ba9<v34.heap.size):=za (oH zjg.out);have hrl_a:Hid (∀ k,(Value.slice Aa9 nr ca9).ownBlock=some k->k<v34.heap.size):=za (fun k hk=>(zjj.lt k hk).2);have zjh:Hid (bc9<v34.heap.size):=za hbs;exact yQ12b3
 ·go_simp;have hx33:=hx32.alloc (.cells #[] 9);have zjk:=zn (World.ownsRow_lit v32 (e:=9) (size:=1) #[] 0 (Nat.le_refl _) lM rfl) hx32.size;have zje:=(Ext.refl v32).alloc (.cells #[] 9);refine hK.out _ _ hx33 ?_;refine pT ?_;have zjj:=zg zjj zje;have blk9:=Blk.ext blk9 zje;have hbs:v32.heap.size<(v32.alloc (.cells #[] 9)).heap.size:=sM;generalize hbe:v32.heap.size=bc9 at *;generalize v32.alloc _=v33 at *;have zjp:Hid (ba9≠bc9):=za (oH zjg.out);have zjg:Hid (ba9<v33.heap.size):=za (oH zjg.out);have zjh:Hid (bc9<v33.heap.size):=za hbs;exact yQ12b1
 ):P:=h
theorem yQ12a3 {P:Prop}(h:P:=by
 clear hbs zje hbe;refine zd fun K hK=>?_;go_simp;have hx33:=hx32.alloc (.cells #[] 9);have zjj:=zn (World.ownsRow_lit v32 (e:=9) (size:=1) #[] 0 (Nat.le_refl _) lM rfl) hx32.size;have zje:=(Ext.refl v32).alloc (.cells #[] 9);refine hK.out _ _ hx33 ?_;refine pT ?_;have zjk:=zg zjk zje;have blk9:=Blk.ext blk9 zje;have hbs:v32.heap.size<(v32.alloc (.cells #[] 9)).heap.size:=sM;generalize hbe:v32.heap.size=ba9 at *;generalize v32.alloc _=v33 at *;have zjp:Hid (ba9≠bc9):=za (oH zjh.out);have zjh:Hid (bc9<v33.heap.size):=za (oH zjh.out);have zjg:Hid (ba9<v33.heap.size):=za hbs;exact yQ12b1
 ):P:=h
theorem yQ12a4 {P:Prop}(h:P:=by
 exact yQ12b3
 ):P:=h
theorem zdH (h:Tch w A n B m B' m' s p L)(hT:TabAt w R nr C nc rows cols)(hI:zdv L (zy s p L) rows cols)(hcr:nr<=cr)(hcc:nc<=cc) :
  Calls Tryz.prog 226 #[.agg #[.bool false,(0:Int),(),(),s.al,s.st,.slice A n c,p.al,.slice B m d,.slice B' m' d',L],.agg #[.slice R nr cr,.slice C nc cc]] w (zcl w ((zaY L (zy s p L) cols (12 - rows.length) rows).map fun r=>(r,cols))):=by
 obtain⟨e1,e2⟩:=hT.nr;have aa:=hI.r12;have av:=hI.c20;rw [e1] at aa;rw [e2] at av;have HV:=za (fun W (hW:Ext w W)=>zbM (c:=c) (d:=d) (d':=d') (h.ext hW) (hT.ext hW) hI hcr hcc);have HO:=za (fun (R:Option Addr) (nr cr:Nat) (C:Option Addr) (nc cc:Nat) (rows:List ByteArray) W (hW:Ext w W) hT hI=>zfL (c:=c) (d:=d) (d':=d') (nr:=nr) (nc:=nc) (R:=R) (C:=C) (cr:=cr) (cc:=cc) (rows:=rows) (cols:=cols) (h.ext hW) hT hI);obtain⟨lo,hi,bi,be,h1,h2⟩:=hT;have HR:=za (fun W (hW:Ext w W)=>h1.ext hW);have HC:=za (fun W (hW:Ext w W)=>h2.ext hW);have HI:=za hI;have He:=za (And.intro e1 e2);obtain⟨t,aE⟩:∃ t,Hid (zaY L (zy s p L) cols (12 - rows.length) rows=t):=⟨_,rfl⟩;rw [aE.out];clear h h1 h2 hI e1 e2
 go_enter Tryz.func226,Tryz.ntmps226
 go_upto_region 1 with fail
 generalize U0:((w.alloc _).alloc _).alloc _=w0 at *;obtain⟨az,b1,b2,b3⟩:=Ext.x3_ U0;clear U0;have CB:=b1.cells;have CT:=b2.cells;have bc:=b3.lt;have ay:=cW w0;go_upto_region 3 with (first
  |(go_at_call 251;refine (HV.out _ az).mono (mQ fun w1 l=>?_)))
 have u:=az.trans l;have bg:=l.size;have HR1:=za (fun W (hW:Ext w1 W)=>HR.out W (u.trans hW));have HC1:=za (fun W (hW:Ext w1 W)=>HC.out W (u.trans hW));have aI:=fun W (hW:Ext w1 W)=>CT W (l.trans hW)
 go_cut [6] (fun v wx=>TabV w1 rows cols nr nc v wx)
 case first =>
  clear CB CT ay HV HO;have X0:Ext w1 w1.drew:=(cW w1).drew;refine uR (fun X=>Ext w1 X) [10] (zw.app [1,2,5,6] (zw.three 0 (zw.three 3 (zw.two 4 (zw.two 7 (zw.of [8,9,10]) 9 (zw.of [7,8,10])) 9 (zw.of [4,7,8,10])) 4 (zw.two 3 (zw.two 7 (zw.of [8,9,10]) 9 (zw.of [7,8,10])) 9 (zw.of [3,7,8,10])) 9 (zw.two 3 (zw.of [4,7,8,10]) 4 (zw.of [3,7,8,10]))) 4 (zw.two 0 (zw.two 3 (zw.two 7 (zw.of [8,9,10]) 9 (zw.of [7,8,10])) 9 (zw.of [3,7,8,10])) 9 (zw.of [0,3,7,8,10])) 9 (zw.two 0 (zw.two 3 (zw.of [4,7,8,10]) 4 (zw.of [3,7,8,10])) 4 (zw.of [0,3,7,8,10])))) ?_;generalize w1.drew=o at *;refine uQ ?_;refine zaH (fun K hK=>?_) (fun K hK=>?_) (fun K hK=>?_)
  ·go_simp;have f:=X0.alloc (.cells #[] 9);have zjj:=zn (World.ownsRow_lit o (e:=9) (size:=1) #[] 0 (cY _) lM rfl) X0.size;have zje:=(cW o).alloc (.cells #[] 9);refine hK.out _ _ f ?_;refine pT ?_;have hbs:o.heap.size<(o.alloc (.cells #[] 9)).heap.size:=sM;generalize hbe:o.heap.size=ba9 at *;generalize o.alloc _=a at *;have zjg:Hid (ba9<a.heap.size):=za hbs;clear hbs zje hbe;refine zaH (fun K hK=>?_) (fun K hK=>?_) (fun K hK=>?_)
   ·skip;refine zv _ _ _ _ rfl w1.heap.size 9 _ 1 16 Tryz.underlying61 zo rfl dM (.slice (some ba9) 0 0) 0 [] rfl zjj _ _ R nr cr (zM rows) rfl (HR1.out a f) (zr _) lM oM f.size ?_;intro v9 v32 owna8 hg hat;rw [Nat.zero_add,List.nil_append] at owna8;obtain⟨Aa9,ca9,rfl⟩:=zi owna8;have hx32:=f.grown hg (fun k hk=>(zjj.lt k hk).1);have hsz:=hg.size;have hbs:Hid (a.heap.size=a.heap.size):=za rfl;generalize hbe:a.heap.size=na9 at *;have hne_ba9_na9:Hid (ba9≠na9):=za (oH zjg.out);have zjg:Hid (ba9<v32.heap.size):=za (oH zjg.out);have hrl_a:Hid (∀ k,(Value.slice Aa9 nr ca9).ownBlock=some k->k<v32.heap.size):=za (fun k hk=>(owna8.lt k hk).2);clear hbs hsz hbe;refine hK.out _ _ hx32 ?_;refine pT ?_;have zjj:=owna8;refine zm (fun K hK=>?_) (fun K hK=>?_)
    ·go_simp;have hx33:=hx32.alloc (.cells #[] 9);have zjk:=zn (World.ownsRow_lit v32 (e:=9) (size:=1) #[] 0 (cY _) lM rfl) hx32.size;have zje:=(cW v32).alloc (.cells #[] 9);refine hK.out _ _ hx33 ?_;refine pT ?_;have zjj:=zg zjj zje;have hbs:v32.heap.size<(v32.alloc (.cells #[] 9)).heap.size:=sM;generalize hbe:v32.heap.size=bc9 at *;generalize v32.alloc _=v33 at *;have zjp:Hid (ba9≠bc9):=za (oH zjg.out);have hrn_a_bc9:Hid (∀ k,(Value.slice Aa9 nr ca9).ownBlock=some k->k≠bc9):=za (fun k hk=>by have:=hrl_a.out k hk;omega);have zjg:Hid (ba9<v33.heap.size):=za (oH zjg.out);have hrl_a:Hid (∀ k,(Value.slice Aa9 nr ca9).ownBlock=some k->k<v33.heap.size):=za (fun k hk=>(zjj.lt k hk).2);have zjh:Hid (bc9<v33.heap.size):=za hbs;clear hbs zje hbe;refine zm (fun K hK=>?_) (fun K hK=>?_)
     ·exact yQ12b2
     ·go_simp;have hx34:=hx33.alloc (.cells #[(),()] 205);have zje:=(cW v33).alloc (.cells #[(),()] 205);have blk9:=dT v33 205 #[(),()];refine hK.out _ _ hx34 ?_;refine pT ?_;have zjj:=zg zjj zje;have zjk:=zg zjk zje;have HG0:=za hx33.size;have hbs:v33.heap.size<(v33.alloc (.cells #[(),()] 205)).heap.size:=sM;generalize hbe:v33.heap.size=gbox9 at *;generalize v33.alloc _=v34 at *;have zjg:Hid (ba9<v34.heap.size):=za (oH zjg.out);have zjh:Hid (bc9<v34.heap.size):=za (oH zjh.out);have hrl_a:Hid (∀ k,(Value.slice Aa9 nr ca9).ownBlock=some k->k<v34.heap.size):=za (fun k hk=>(zjj.lt k hk).2);exact yQ12a4
    ·go_simp;have hx33:=hx32.alloc (.cells #[(),()] 205);have zje:=(cW v32).alloc (.cells #[(),()] 205);have blk9:=dT v32 205 #[(),()];refine hK.out _ _ hx33 ?_;refine pT ?_;have zjj:=zg zjj zje;have HG0:=za hx32.size;have hbs:v32.heap.size<(v32.alloc (.cells #[(),()] 205)).heap.size:=sM;generalize hbe:v32.heap.size=gbox9 at *;generalize v32.alloc _=v33 at *;have zjg:Hid (ba9<v33.heap.size):=za (oH zjg.out);have hrl_a:Hid (∀ k,(Value.slice Aa9 nr ca9).ownBlock=some k->k<v33.heap.size):=za (fun k hk=>(zjj.lt k hk).2);clear hbs zje hbe;refine zd fun K hK=>?_;go_simp;have hx34:=hx33.alloc (.cells #[] 9);have zjk:=zn (World.ownsRow_lit v33 (e:=9) (size:=1) #[] 0 (cY _) lM rfl) hx33.size;have zje:=(cW v33).alloc (.cells #[] 9);refine hK.out _ _ hx34 ?_;refine pT ?_;have zjj:=zg zjj zje;have blk9:=Blk.ext blk9 zje;have hbs:v33.heap.size<(v33.alloc (.cells #[] 9)).heap.size:=sM;generalize hbe:v33.heap.size=bc9 at *;generalize v33.alloc _=v34 at *;have zjp:Hid (ba9≠bc9):=za (oH zjg.out);have hrn_a_bc9:Hid (∀ k,(Value.slice Aa9 nr ca9).ownBlock=some k->k≠bc9):=za (fun k hk=>by have:=hrl_a.out k hk;omega);have zjg:Hid (ba9<v34.heap.size):=za (oH zjg.out);have hrl_a:Hid (∀ k,(Value.slice Aa9 nr ca9).ownBlock=some k->k<v34.heap.size):=za (fun k hk=>(zjj.lt k hk).2);have zjh:Hid (bc9<v34.heap.size):=za hbs;exact yQ12a4
   ·go_simp;have hx32:=f.alloc (.cells #[] 9);have zjk:=zn (World.ownsRow_lit a (e:=9) (size:=1) #[] 0 (cY _) lM rfl) f.size;have zje:=(cW a).alloc (.cells #[] 9);refine hK.out _ _ hx32 ?_;refine pT ?_;have zjj:=zg zjj zje;have hbs:a.heap.size<(a.alloc (.cells #[] 9)).heap.size:=sM;generalize hbe:a.heap.size=bc9 at *;generalize a.alloc _=v32 at *;have zjp:Hid (ba9≠bc9):=za (oH zjg.out);have zjg:Hid (ba9<v32.heap.size):=za (oH zjg.out);have zjh:Hid (bc9<v32.heap.size):=za hbs;exact yQ12a1
   ·go_simp;have hx32:=f.alloc (.cells #[(),()] 205);have zje:=(cW a).alloc (.cells #[(),()] 205);have blk9:=dT a 205 #[(),()];refine hK.out _ _ hx32 ?_;refine pT ?_;have zjj:=zg zjj zje;have HG0:=za f.size;have hbs:a.heap.size<(a.alloc (.cells #[(),()] 205)).heap.size:=sM;generalize hbe:a.heap.size=gbox9 at *;generalize a.alloc _=v32 at *;have zjg:Hid (ba9<v32.heap.size):=za (oH zjg.out);exact yQ12a2
  ·go_simp;have f:=X0.alloc (.cells #[] 9);have zjk:=zn (World.ownsRow_lit o (e:=9) (size:=1) #[] 0 (cY _) lM rfl) X0.size;have zje:=(cW o).alloc (.cells #[] 9);refine hK.out _ _ f ?_;refine pT ?_;have hbs:o.heap.size<(o.alloc (.cells #[] 9)).heap.size:=sM;generalize hbe:o.heap.size=bc9 at *;generalize o.alloc _=a at *;have zjh:Hid (bc9<a.heap.size):=za hbs;clear hbs zje hbe;refine zm (fun K hK=>?_) (fun K hK=>?_)
   ·go_simp;have hx32:=f.alloc (.cells #[] 9);have zjj:=zn (World.ownsRow_lit a (e:=9) (size:=1) #[] 0 (cY _) lM rfl) f.size;have zje:=(cW a).alloc (.cells #[] 9);refine hK.out _ _ hx32 ?_;refine pT ?_;have zjk:=zg zjk zje;have hbs:a.heap.size<(a.alloc (.cells #[] 9)).heap.size:=sM;generalize hbe:a.heap.size=ba9 at *;generalize a.alloc _=v32 at *;have zjp:Hid (ba9≠bc9):=za (oH zjh.out);have zjh:Hid (bc9<v32.heap.size):=za (oH zjh.out);have zjg:Hid (ba9<v32.heap.size):=za hbs;exact yQ12a1
   ·go_simp;have hx32:=f.alloc (.cells #[(),()] 205);have zje:=(cW a).alloc (.cells #[(),()] 205);have blk9:=dT a 205 #[(),()];refine hK.out _ _ hx32 ?_;refine pT ?_;have zjk:=zg zjk zje;have HG0:=za f.size;have hbs:a.heap.size<(a.alloc (.cells #[(),()] 205)).heap.size:=sM;generalize hbe:a.heap.size=gbox9 at *;generalize a.alloc _=v32 at *;have zjh:Hid (bc9<v32.heap.size):=za (oH zjh.out);exact yQ12a3
  ·go_simp;have f:=X0.alloc (.cells #[(),()] 205);have zje:=(cW o).alloc (.cells #[(),()] 205);have blk9:=dT o 205 #[(),()];refine hK.out _ _ f ?_;refine pT ?_;have HG0:=za X0.size;have hbs:o.heap.size<(o.alloc (.cells #[(),()] 205)).heap.size:=sM;generalize hbe:o.heap.size=gbox9 at *;generalize o.alloc _=a at *;clear hbs zje hbe;refine zm (fun K hK=>?_) (fun K hK=>?_)
   ·go_simp;have hx32:=f.alloc (.cells #[] 9);have zjj:=zn (World.ownsRow_lit a (e:=9) (size:=1) #[] 0 (cY _) lM rfl) f.size;have zje:=(cW a).alloc (.cells #[] 9);refine hK.out _ _ hx32 ?_;refine pT ?_;have blk9:=Blk.ext blk9 zje;have hbs:a.heap.size<(a.alloc (.cells #[] 9)).heap.size:=sM;generalize hbe:a.heap.size=ba9 at *;generalize a.alloc _=v32 at *;have zjg:Hid (ba9<v32.heap.size):=za hbs;exact yQ12a2
   ·go_simp;have hx32:=f.alloc (.cells #[] 9);have zjk:=zn (World.ownsRow_lit a (e:=9) (size:=1) #[] 0 (cY _) lM rfl) f.size;have zje:=(cW a).alloc (.cells #[] 9);refine hK.out _ _ hx32 ?_;refine pT ?_;have blk9:=Blk.ext blk9 zje;have hbs:a.heap.size<(a.alloc (.cells #[] 9)).heap.size:=sM;generalize hbe:a.heap.size=bc9 at *;generalize a.alloc _=v32 at *;have zjh:Hid (bc9<v32.heap.size):=za hbs;exact yQ12a3
 case rest =>
  obtain⟨G,R1,F,y,g,rfl,aT,E,Y,V,am,hdis⟩:=hcut;obtain⟨wE,T⟩:∃ wE,wE=wc:=⟨_,rfl⟩;subst T;have aU:=za (And.intro He.out.1 HI.out);have aV:=u.trans am;have aK:=za (show TabAt wE R1 nr y nc rows cols from ⟨_,_,_,_,dY Y,dY V⟩);have k6:=fun W (hW:Ext wE W)=>(E.ext hW).cell;have T:=cW wE;have aA:=l.trans am;have aG:=fun W (hW:Ext wE W)=>CB W (aA.trans hW);go_wp2_with (first
   |(go_at_call 252;refine (HO.out _ _ _ _ _ _ rows _ aV aK.out HI.out).mono (mQ fun w3 M=>?_)))
  have ab:=am.trans M;have au:=E.ext M;have aD:=zg Y M;have aB:=zg V M;clear k6 Y V E aG CT aI T ay
  go_loopw [7,8] (fun v7 v8 wr=>∃ (q:List ByteArray) (k:Nat) (R1:Option Addr) (F:Nat),v7=.string ((zbK L (zy s p L) q cols).getD ⟨#[]⟩)∧v8=.bool (zbK L (zy s p L) q cols).isSome∧Hid (q.length=k∧zdv L (zy s p L) q cols)∧Hid (zaY L (zy s p L) cols (12 - k) q=t)∧k<=12∧Blk wr G 205 #[.slice R1 k F,.slice y nc g]∧wr.ownsRow w1.heap.size 9 1 (.slice R1 k F) k (zM q)∧wr.ownsRow w1.heap.size 9 1 (.slice y nc g) nc (zM cols)∧Hid (∀ j,(Value.slice R1 k F).ownBlock=some j->(Value.slice y nc g).ownBlock≠some j)∧Ext w1 wr) (fun _ _ wr=>13 - lenAt0 wr G)
  case atStart=>exact⟨rows,nr,R1,F,rfl,rfl,aU,za (by rw [← He.out.1];exact aE.out),aa,au,aD,aB,hdis,ab⟩
  case round =>
   clear au aD aB hdis ab M;obtain⟨q,k,Q,i,rfl,rfl,ai,ae,a4,E,Y,V,hdis,U⟩:=hrel;obtain⟨op,I⟩:∃ op,Hid (zbK L (zy s p L) q cols=op):=⟨_,rfl⟩;rw [I.out];have k6:=E.cell;have f6:=E.frozen;have ax:=za (zhQ E);have z:=b3.ext (l.trans U);have kz:=z.cell;have fz:=z.frozen;cases op with
   |none =>
    have ah:=za (show t=some q by rw [← ae.out,zew _ I.out]);have hf:Frm (fun k=>k=w.heap.size+1+1) wr ((wr.setCell ⟨w.heap.size+1+1,0,none⟩ (.slice Q k i)).setCell ⟨w.heap.size+1+1,1,none⟩ (.slice y nc g)):=(dE wr _ 0 _).trans (dE _ _ 1 _);have cf:=(show Blk ((wr.setCell ⟨w.heap.size+1+1,0,none⟩ (.slice Q k i)).setCell ⟨w.heap.size+1+1,1,none⟩ (.slice y nc g)) (w.heap.size+1+1) 205 #[.slice Q k i,.slice y nc g] by simpa using (z.ab 0 (.slice Q k i)).ab 1 (.slice y nc g)).cell;have J:=za (show zcl w (t.map fun r=>(r,cols)) (.returned (.tuple #[.agg #[.slice Q k i,.slice y nc g],.bool true])) ((wr.setCell ⟨w.heap.size+1+1,0,none⟩ (.slice Q k i)).setCell ⟨w.heap.size+1+1,1,none⟩ (.slice y nc g)) from
     ⟨((u.trans U).setCell (p:=⟨w.heap.size+1+1,0,none⟩) (by dsimp only;omega) _).setCell (p:=⟨w.heap.size+1+1,1,none⟩) (by dsimp only;omega) _,.inr ⟨q,cols,k,nc,Q,i,y,g,by rw [ah.out];rfl,rfl,zf (zn Y u.size) hf (fun b hv e=>zq Y z dM hv e),zf (zn V u.size) hf (fun b hv e=>zq V z dM hv e)⟩⟩)
    clear hf;go_wp2_with fail
    exact bodyPost_ret (v:=.tuple #[.agg #[.slice Q k i,.slice y nc g],.bool true]) (by simp [results,Tryz.results226,go_sem,cf]) rfl J.out
   |some x =>
    by_cases h12:k=12
    ·have ah:=za (show t=none by rw [← ae.out,h12];exact zgz I.out);have bd:((k:Int)==12)=true:=by rw [h12];rfl
     clear h12;have cf:=(show Blk ((wr.setCell ⟨w.heap.size+1+1,0,none⟩ ()).setCell ⟨w.heap.size+1+1,1,none⟩ ()) (w.heap.size+1+1) 205 #[(),()] by simpa using (z.ab 0 (.slice none 0 0)).ab 1 (.slice none 0 0)).cell;have J:=za (show zcl w (t.map fun r=>(r,cols)) (.returned (.tuple #[.agg #[(),()],.bool false])) ((wr.setCell ⟨w.heap.size+1+1,0,none⟩ ()).setCell ⟨w.heap.size+1+1,1,none⟩ ()) from
      ⟨((u.trans U).setCell (p:=⟨w.heap.size+1+1,0,none⟩) (by dsimp only;omega) _).setCell (p:=⟨w.heap.size+1+1,1,none⟩) (by dsimp only;omega) _,.inl ⟨by rw [ah.out];rfl,rfl⟩⟩)
     go_wp2_with fail
     exact bodyPost_ret (v:=.tuple #[.agg #[(),()],.bool false]) (by simp [results,Tryz.results226,go_sem,cf]) rfl J.out
    ·have bf:((k:Int)==12)=false:=by simp;omega
     have H:=za (show zdv L (zy s p L) (q++[x]) cols from ai.out.2.grow (by rw [ai.out.1];omega) I.out);have aw:=za (show zaY L (zy s p L) cols (12 - (k+1)) (q++[x])=t by
      rw [← ae.out,show 12 - k=(12 - (k+1))+1 by omega,zgy _ I.out])
     go_upto_region 9 with (at_builtin;refine zL w1 wr rfl _ _ _ rfl 9 _ 1 16 Tryz.underlying61 zo rfl dM (.slice Q k i) k (zM q) _ _ rfl rfl U Y rfl (zbZ _) lM oM ?_;intro v5 w5 hx5 zjo hg5 hat5;obtain⟨S,Z,rfl⟩:=zi zjo;have D:Blk w5 G 205 #[.slice Q k i,.slice y nc g]:=(hg5.block G (Blk.lt E) (fun e=>zq Y E dM e.symm rfl)).trans E;have aX:=Blk.cell D;have aQ:=Blk.frozen D)
     have an:=zf V (Frm.ae hg5) (fun b hv e=>hdis.out b e hv);have af:=za (show ∀ j,(Value.slice S (k+1) Z).ownBlock=some j->(Value.slice y nc g).ownBlock≠some j from fun j hj hc=>by
      rcases hat5 with h1|h1
      ·rw [h1] at hj;exact hdis.out j hj hc
      ·rw [h1] at hj;have:=Option.some.inj hj;have:=(V.lt j hc).2;omega)
     have ag:Frm (fun k=>k=G) w5 (w5.setCell G (.slice S (k+1) Z)):=dE w5 G 0 _;have aC:=zf an ag (fun b hv e=>zq an D dM hv e);have ao:=zf zjo ag (fun b hv e=>zq zjo D dM hv e);have ad:Blk (w5.setCell G (.slice S (k+1) Z)) G 205 #[.slice S (k+1) Z,.slice y nc g]:=by simpa using D.ab 0 (.slice S (k+1) Z)
     have ak:=hx5.setCell (p:=⟨G,0,none⟩) aT (.slice S (k+1) Z);rw [show zM q++#[Value.string x].toList=zM (q++[x]) by rw [strs_snoc]] at ao;clear k6 f6 kz fz z E Y V ag aX aQ D an zjo hx5 hg5 hat5 hdis;generalize w5.setCell G (.slice S (k+1) Z)=w6 at *;have a5:=fun W (hW:Ext w6 W)=>CB W (l.trans (ak.trans hW));have a6:=ad.cells;have aL:=za (show TabAt w6 S (k+1) y nc (q++[x]) cols from ⟨_,_,_,_,dY ao,dY aC⟩);have T:=cW w6;go_wp2_with (first
      |(go_at_call 252;refine (HO.out _ _ _ _ _ _ (q++[x]) _ (u.trans ak) aL.out H.out).mono (mQ fun w7 O=>?_)))
     have aj:=za (zhQ (ad.ext O));go_roundw
     case rel=>exact⟨q++[x],k+1,S,Z,rfl,rfl,za ⟨by rw [dL,ai.out.1];rfl,H.out⟩,aw,oM,ad.ext O,zg ao O,zg aC O,af,ak.trans O⟩
     case measure=>have h1:=ax.out;have h2:=aj.out;omega
end
theorem zdv.first (L:Nat) (f:ByteArray->Bool):zdv L f [⟨#[]⟩] [⟨#[]⟩]:=
 ⟨cY _,dM,cY _,dM,rfl,rfl,(fun i x hi hx=>by rw [dZ (by simpa using hi)] at hx;cases hx),(fun i x hi hx=>by rw [dZ (by simpa using hi)] at hx;cases hx),sM⟩
noncomputable def idxS (zs:List ByteArray) (z:ByteArray):Nat:=zs.findIdx fun y=>zgP [y] z
theorem idxS_lt (h:z∈zs):idxS zs z<zs.length:=List.findIdx_lt_length_of_exists ⟨z,h,zdP.2 sM⟩
theorem idxS_at (h:z∈zs):zs[idxS zs z]?=some z:=by
 have h1:=idxS_lt h;have b:=List.findIdx_getElem (xs:=zs) (p:=fun y=>zgP [y] z) (w:=h1);have a:=zdP.1 b;rw [e8] at a;rw [dC h1];exact congrArg some a.symm
theorem idxS_first {j:Nat} {y:ByteArray}(hj:j<idxS zs z)(hy:zs[j]?=some y):y≠z:=by
 have h1:=List.not_of_lt_findIdx hj;have a:zs[j]'(by have:=List.findIdx_le_length (p:=fun y=>zgP [y] z) (xs:=zs);unfold idxS at hj;omega)=y:=(List.getElem?_eq_some_iff.1 hy).2;rw [a] at h1;intro e;rw [zcq] at h1;exact h1 (by rw [e];simp)
theorem ziJ {lo hi:Nat} {A:Option Addr}  (h:Reads w lo hi 1 A n (zM zs))(hz:z∈zs) :
  Calls Tryz.prog 230 #[.slice A n c,z] w fun e w'=>e=.returned (.int .i64 (idxS zs z:Nat))∧w=w':=by
 have s:=h.len;have g:zs.length=n:=by have:=h.length;rw [zbC] at this;omega
 obtain⟨I,b⟩:∃ I,Hid (idxS zs z=I):=⟨_,rfl⟩;have o:I<n:=by rw [← b.out,← g];exact idxS_lt hz
 have hat:=za (b.out ▸ idxS_at hz);have a:=za (fun (j:Nat) (y:ByteArray) (hj:j<I)=>idxS_first (zs:=zs) (z:=z) (j:=j) (y:=y) (by rw [b.out];exact hj));rw [b.out];clear g hz
 go_enter Tryz.func230,Tryz.ntmps230
 go_wp2_with fail
 go_loop [5] (fun iv=>∃ i:Nat,iv=.int .i64 i∧i<=I) (fun iv=>n - (intOf iv).toNat)
 case atStart=>exact⟨0,rfl,dD _⟩
 case round =>
  obtain⟨i,rfl,hi⟩:=hrel;have d:i<n:=oM;have k:(i:Int)<(n:Int):=oM;obtain⟨q,y,rfl,_,_,l,r⟩:=h.str d
  by_cases he:i=I
  ·have f:y=z:=Option.some.inj (l.out.symm.trans (he ▸ hat.out));subst f;have m:=za he;clear he;go_wp2_with fail
   go_ret;exact⟨zD (by rw [m.out]),rfl⟩
  ·have p:=str_ne (a.out i y oM l.out);go_wp2_with fail
   go_round
   case rel=>exact⟨i+1,gM,oM⟩
   case measure=>simp [intOf];omega
section
variable {w W:World} {n c m d m' d' L:Nat} {A B B':Option Addr} {s:Sys} {p:Aut}
theorem ziI (h:Tch w A n B m B' m' s p L) :
  Calls Tryz.prog 192 #[.agg #[.bool false,(0:Int),(),(),s.al,s.st,.slice A n c,p.al,.slice B m d,.slice B' m' d',L]] w (zcl w ((zaY L (zy s p L) [⟨#[]⟩] 11 [⟨#[]⟩]).map fun r=>(r,[⟨#[]⟩]))):=by
 have D:=za (fun (R C:Option Addr) W (hW:Ext w W) (u:TabAt W R 1 C 1 [⟨#[]⟩] [⟨#[]⟩])=>zdH (c:=c) (d:=d) (d':=d') (cr:=1) (cc:=1) (h.ext hW) u (zdv.first L _) (cY _) (cY _))
 rw [show 12 - ([⟨#[]⟩]:List ByteArray).length=11 from rfl] at D;generalize (zaY L (zy s p L) [⟨#[]⟩] 11 [⟨#[]⟩]).map (fun r=>(r,[(⟨#[]⟩:ByteArray)]))=t at *;clear h
 go_enter Tryz.func192,Tryz.ntmps192
 go_upto_region 1 with fail
 generalize U0:(w.alloc _).alloc _=j at *;obtain⟨i,J,M⟩:=Ext.x2_ U0;have hsz:w.heap.size+1+1=j.heap.size:=by rw [← U0];simp
 clear U0;have I:=za hsz;clear hsz;have G:=J.cell;have f:Ext j ((j.alloc (.cells #[.string ⟨#[]⟩] 9)).alloc (.cells #[.string ⟨#[]⟩] 9)):=((cW _).alloc _).alloc _;have u:TabAt ((j.alloc (.cells #[.string ⟨#[]⟩] 9)).alloc (.cells #[.string ⟨#[]⟩] 9)) (some ⟨j.heap.size,0,none⟩) 1 (some ⟨j.heap.size+1,0,none⟩) 1 [⟨#[]⟩] [⟨#[]⟩]:=by
  obtain⟨T,U⟩:=zT (cW ((j.alloc (.cells #[.string ⟨#[]⟩] 9)).alloc (.cells #[.string ⟨#[]⟩] 9)));refine⟨_,_,_,_,dY (base:=j.heap.size) (e:=9) (c:=1) ⟨rfl,.inr ⟨j.heap.size,1,_,rfl,cY _,T,by unfold maxLen;simp [zM]⟩⟩,dY (base:=j.heap.size+1) (e:=9) (c:=1) ⟨rfl,.inr ⟨j.heap.size+1,1,_,rfl,cY _,U,by unfold maxLen;simp [zM]⟩⟩⟩
 have H:=za u;have q:=M.ext f;clear u;go_wp2_with fail
 refine (D.out _ _ _ (i.trans f) H.out).mono ?_;rintro e o ⟨l,⟨y,rfl⟩|⟨V,O,nr,nc,R,cr,C,cc,y,rfl,F,E⟩⟩
 ·have a:=q.ext l;have S:=a.cell;have Q:=a.frozen;have x:=(show Blk ((o.setCell ⟨w.heap.size+1,0,none⟩ ()).setCell ⟨w.heap.size+1,1,none⟩ ()) (w.heap.size+1) 205 #[(),()] by simpa using (a.ab 0 (.slice none 0 0)).ab 1 (.slice none 0 0)).cell;have g:=za (show zcl w t (.returned (.tuple #[.agg #[(),()],.bool false])) ((o.setCell ⟨w.heap.size+1,0,none⟩ ()).setCell ⟨w.heap.size+1,1,none⟩ ()) from
   ⟨(((i.trans f).trans l).setCell (p:=⟨w.heap.size+1,0,none⟩) (Nat.le_succ _) _).setCell (p:=⟨w.heap.size+1,1,none⟩) (Nat.le_succ _) _,.inl ⟨y,rfl⟩⟩)
  clear G;go_wp2_with fail
  exact bodyPost_ret (v:=.tuple #[.agg #[(),()],.bool false]) (by simp [results,Tryz.results192,go_sem,x]) rfl g.out
 ·have a:=q.ext l;have S:=a.cell;have Q:=a.frozen;have z:Frm (fun k=>k=w.heap.size+1) o ((o.setCell ⟨w.heap.size+1,0,none⟩ (.slice R nr cr)).setCell ⟨w.heap.size+1,1,none⟩ (.slice C nc cc)):=(dE o _ 0 _).trans (dE _ _ 1 _);have x:=(show Blk ((o.setCell ⟨w.heap.size+1,0,none⟩ (.slice R nr cr)).setCell ⟨w.heap.size+1,1,none⟩ (.slice C nc cc)) (w.heap.size+1) 205 #[.slice R nr cr,.slice C nc cc] by simpa using (a.ab 0 (.slice R nr cr)).ab 1 (.slice C nc cc)).cell;have g:=za (show zcl w t (.returned (.tuple #[.agg #[.slice R nr cr,.slice C nc cc],.bool true])) ((o.setCell ⟨w.heap.size+1,0,none⟩ (.slice R nr cr)).setCell ⟨w.heap.size+1,1,none⟩ (.slice C nc cc)) from
   ⟨(((i.trans f).trans l).setCell (p:=⟨w.heap.size+1,0,none⟩) (Nat.le_succ _) _).setCell (p:=⟨w.heap.size+1,1,none⟩) (Nat.le_succ _) _,.inr ⟨V,O,nr,nc,R,cr,C,cc,y,rfl,zf (zn F (i.trans f).size) z (fun b hv e=>zq F a dM hv e),zf (zn E (i.trans f).size) z (fun b hv e=>zq E a dM hv e)⟩⟩)
  clear G z;go_wp2_with fail
  exact bodyPost_ret (v:=.tuple #[.agg #[.slice R nr cr,.slice C nc cc],.bool true]) (by simp [results,Tryz.results192,go_sem,x]) rfl g.out
end
noncomputable def autRow (L:Nat) (f:ByteArray->Bool) (rows cols:List ByteArray) (r:ByteArray):List Int:=(letters L 6).map fun l=>((idxS (zbL f cols rows) (mkS (zdw f cols (r++zeN l))):Nat):Int)
noncomputable def zhK (L:Nat) (f:ByteArray->Bool) (rows cols:List ByteArray):Aut:=⟨(L:Int),rows.map (autRow L f rows cols),rows.map f⟩
theorem open_none (h:zbK L f rows cols=none)  (hr:r∈rows)(hl:l∈letters L 6):mkS (zdw f cols (r++zeN l))∈zbL f cols rows:=by
 unfold zbK at h;rw [List.find?_eq_none] at h;have:=h (r++zeN l) (List.mem_flatMap.2 ⟨r,hr,List.mem_map.2 ⟨l,hl,rfl⟩⟩);simp only [iB,Bool.not_eq_false] at this;exact zdP.1 this
theorem mkS_head (b:Bool) (r:List Bool):∃ h:0<(mkS (b :: r)).size,((((mkS (b :: r))[0]'h).toNat:Int)==43)=b:=by
 have a:0<(mkS (b :: r)).size:=by rw [mkS_size];simp
 refine⟨a,?_⟩;have h1:=zbs (mkS (b :: r)) 0 a;rw [zgk,List.map_cons,List.getElem?_cons_zero] at h1;have c:=Option.some.inj h1;rw [← c];cases b<;>rfl
theorem rowM_head (h:zdv L f rows cols) (x:ByteArray):∃ r,zdw f cols x=f x :: r:=by
 have a:=h.c0
 match cols,a with
 |c :: cs,a =>
  simp at a;subst a;refine⟨cs.map fun c=>f (x++c),?_⟩;unfold zdw;rw [List.map_cons]
  congr 1
  exact congrArg f (ByteArray.append_empty)
section
variable {w0 W W':World} {G:Nat} {al:Int} {v vA:Value} {ls:List (List Int)} {acc:List Bool}
theorem Gra.ao {x:Bool} {cap:Nat}(h:Gra w0 W G al v ls vA acc)
  (zjc:W'.ownsRow w0.heap.size 4 1 (.slice (some g) (acc.length+1) cap) (acc.length+1) (zaA acc++[.bool x]))
  (hg:W.grownBy W' vA.ownBlock) (hat:vA.ownBlock=some g∨g=W.heap.size+1) :
  Hid (W'.cell? ⟨G,2,none⟩=some vA)∧W'.frozen? ⟨G,2,none⟩=false∧Gra w0 (W'.setCell ⟨G,2,none⟩ (.slice (some g) (acc.length+1) cap)) G al v ls (.slice (some g) (acc.length+1) cap) (acc++[x]):=by
 have d:=h.hG;have c:Blk W' G 26 #[.int .i64 al,v,vA]:=(hg.block G h.blk.lt (fun e=>zq h.acc h.blk dM e.symm rfl)).trans h.blk;have s:g≠G:=by
  rcases hat with h1|h1
  ·exact zq h.acc h.blk dM h1
  ·have:=h.blk.lt;omega
 have o:Ext w0 W':=h.ext.grown hg (fun k hk=>(h.acc.lt k hk).1);have f:Frm (fun k=>vA.ownBlock=some k) W W':=Frm.ae hg;obtain⟨rows,j,l⟩:=h.own;have q:W'.ownsRow w0.heap.size 74 1 v ls.length rows:=zf j f (fun b hb hS=>zaM j h.acc dM hb hS);have m:zG W' w0.heap.size rows ls:=l.frm f (fun i r b hr hb hS=>by
  obtain⟨t,_,n⟩:=l.row hr;exact zaM n h.acc dM hb hS)
 have a:=dE W' G 2 (.slice (some g) (acc.length+1) cap);refine⟨c.cell 2,c.frozen 2,⟨by simpa using c.ab 2 _,⟨rows,zf q a (fun b hb hS=>zq q c dM hb hS),m.frm a (fun i r b hr hb hS=>?_)⟩,?_,o.setCell (p:=⟨G,2,none⟩) d _,d⟩⟩
 ·obtain⟨t,_,n⟩:=m.row hr;exact zq n c dM hb hS
 ·rw [dL,List.length_singleton,show zaA (acc++[x])=zaA acc++[.bool x] by simp [zaA]];exact zf zjc a (fun b hv hS=>by
   have:g=b:=by simpa [Value.ownBlock] using hv
   omega)
end
theorem Frm.grown {S:Nat->Prop} {a w':World} {row:Option Nat}(h:Frm S a w)(hg:w.grownBy w' row)(hr:∀ k,row=some k->a.heap.size<=k):Frm S a w':=
 ⟨hg.os.trans h.os,hg.tape.trans h.tape,hg.output.trans h.output,Nat.le_trans h.size hg.size,fun k hk hS=>(hg.block k (Nat.lt_of_lt_of_le hk h.size) (fun e=>by have:=hr k e.symm;omega)).trans (h.block k hk hS)⟩
def RetAutB (w:World) (a:Aut) (e:Ending) (w':World):Prop:=
 ∃ A n c A' n' c',e=.returned (.tuple #[.agg #[a.al,.slice A n c,.slice A' n' c'],.bool true])∧zX w' w.heap.size A n c A' n' c' a∧Ext w w'
section
variable {w W:World} {n c m d m' d' L:Nat} {A B B':Option Addr} {s:Sys} {p:Aut} {nr nc cr cc:Nat} {R C:Option Addr} {rows cols:List ByteArray}
theorem zcu (h:Tch w A n B m B' m' s p L)(hT:TabAt w R nr C nc rows cols)(hI:zdv L (zy s p L) rows cols)(hcr:nr<=cr)(hcc:nc<=cc)(hcl:zbK L (zy s p L) rows cols=none) :
  Calls Tryz.prog 193 #[.agg #[.bool false,(0:Int),(),(),s.al,s.st,.slice A n c,p.al,.slice B m d,.slice B' m' d',L],.agg #[.slice R nr cr,.slice C nc cc]] w (RetAutB w (zhK L (zy s p L) rows cols)):=by
 obtain⟨e1,e2⟩:=hT.nr;have bc:=hI.r12;have a8:=hI.c20;rw [e1] at bc;rw [e2] at a8;have bD:=za (fun W (hW:Ext w W)=>zga (c:=c) (d:=d) (d':=d') (h.ext hW) (hT.ext hW) hI hcr hcc hcl);have HA:=za (fun W (hW:Ext w W)=>zaO (c:=c) (d:=d) (d':=d') (h.ext hW));obtain⟨lo,hi,cQ,cJ,h1,h2⟩:=hT;have HR:=za (fun W (hW:Ext w W)=>zdI (c:=c) (d:=d) (d':=d') (cc:=cc) (cr:=cr) (h.ext hW) (h2.ext hW) (h1.ext hW) oM oM hI.rsz'.2 hI.rsz'.1);have HW:=za (fun W (hW:Ext w W) (y:ByteArray) hy=>zeK (c:=c) (d:=d) (d':=d') (cc:=cc) (x:=y) (h.ext hW) (h2.ext hW) oM hy hI.rsz'.2);have H1:=za (fun W (hW:Ext w W)=>h1.ext hW);have hL:=h.lt;have bF:=za (fun x hx=>hI.rin (x:=x) hx);have bG:=za (fun (r:ByteArray) (l:Nat) hr hl=>open_none (r:=r) (l:=l) hcl hr hl);have bE:=za (fun x=>rowM_head hI x);have aE:(zbL (zy s p L) cols rows).length=nr:=by rw [zbL,dO];exact e1
 have bn:∀ (i:Nat) (r:ByteArray),rows[i]?=some r->(zbL (zy s p L) cols rows)[i]?=some (mkS (zdw (zy s p L) cols r)):=fun i r hr=>by rw [zbL,dQ,hr];rfl
 have bH:=za bn;have aB:=za (show zhK L (zy s p L) rows cols=⟨(L:Int),rows.map (autRow L (zy s p L) rows cols),rows.map (zy s p L)⟩ from rfl);have ag:=za (fun r=>show autRow L (zy s p L) rows cols r=(letters L 6).map fun l=>((idxS (zbL (zy s p L) cols rows) (mkS (zdw (zy s p L) cols (r++zeN l))):Nat):Int) from rfl);generalize zhK L (zy s p L) rows cols=a2 at *;generalize autRow L (zy s p L) rows cols=a at *;generalize zbL (zy s p L) cols rows=zs at *;have ae:=za aE;have He:=za e1;clear h h1 h2 hI e1 e2 aE bn hcl
 go_enter Tryz.func193,Tryz.ntmps193
 go_upto_region 1 with fail
 generalize U0:((w.alloc _).alloc _).alloc _=w0 at *;obtain⟨Q,b1,b2,b3⟩:=Ext.x3_ U0;clear U0;have CB:=b1.cells;have CT:=b2.cells;have cF:=b3.lt;have an:=cW w0;go_upto_region 4 with (first
  |(go_at_call 227;refine (bD.out _ Q).mono (mQ fun w1 aK=>?_))
  |(go_at_call 228;refine (HA.out _ (Q.trans aK)).mono (mQ fun w2 bj=>?_);have g:=aK.trans bj))
 have cM:=g.size;have bl:=(cW w2).alloc (.cells #[.int .i64 (L:Nat),(),()] 26);have f:Gra w2 (w2.alloc (.cells #[.int .i64 (L:Nat),(),()] 26)) w2.heap.size (L:Nat) (.slice none 0 0) [] (.slice none 0 0) []:=
  ⟨dT w2 _ _,⟨[],World.ownsRow_nil _ _ _ _,zG.nil _ _⟩,World.ownsRow_nil _ _ _ _,bl,cY _⟩
 clear bl;generalize hG:w2.heap.size=G at *;generalize w2.alloc _=w3 at *;have HG:=za hG;clear hG;have k3:=f.blk.cell;have Y:Ext w0 w3:=g.trans f.ext;have bz:=fun W (hW:Ext w3 W)=>CB W (Y.trans hW);have bB:=fun W (hW:Ext w3 W)=>CT W (Y.trans hW);go_wp2_with (first
  |(go_at_call 61;refine (zU L tM _).mono ?_;rintro e w4 ⟨HL,hc,rfl,M,hx34⟩)
  |(go_at_call 229;refine (HR.out _ (Q.trans (Y.trans hx34))).mono ?_;rintro e w5 ⟨ZA,zc,rfl,o,ao⟩;have hx35:=hx34.trans ao))
 have am:=dY o;rw [ae.out] at am;have HZ:=za (fun W (hW:Ext w5 W)=>am.ext hW);have U:=zg M ao;have aZ:=za (fun W (hW:Ext w5 W)=>zg U hW);have aL:=za (fun b hb=>(M.lt b hb).1);have aN:=za (f.blk.lt);have aI:=za hx34.size;have bQ:=za (fun l (hl:l∈letters L 6)=>(zW.1 hl).1);have cK:(letters L 6).length<=6:=zB L 6;have ca:=Y.trans hx35;have aP:=f.ax hx35;generalize letters L 6=aa at *;have cO:=ae.out;rw [ae.out] at o ⊢;have a1:=za o;have af:=za (fun b hb=>(o.lt b hb).1);clear M U am o hx34 ao k3 f bz bB an
 go_loopw [9] (fun iv wr=>∃ (i:Nat) (v vA:Value),iv=.int .i64 i∧i<=nr∧Gra w2 wr G (L:Nat) v ((rows.take i).map a) vA ((rows.take i).map (zy s p L))∧Hid (∀ b,v.ownBlock=some b->w5.heap.size<=b)∧Hid (∀ b,vA.ownBlock=some b->w5.heap.size<=b)∧Frm (fun k=>k=G) w5 wr) (fun iv _=>nr - (intOf iv).toNat)
 case atStart=>exact⟨0,_,_,rfl,dD _,by simpa using aP,za (fun b hb=>by simp [Value.ownBlock] at hb),za (fun b hb=>by simp [Value.ownBlock] at hb),Frm.refl _ _⟩
 case round =>
  obtain⟨i,v,vA,rfl,hi,f,bi,bg,ax⟩:=hrel;have u:=f.ext;have cD:=f.blk.lt;have bA:∀ W,Ext wr W->∀ q,W.cell? ⟨w.heap.size,q,none⟩=#[Value.bool false,.int .i64 0,.slice none 0 0,.slice none 0 0,.int .i64 s.al,.int .i64 s.st,.slice A n c,.int .i64 p.al,.slice B m d,.slice B' m' d',.int .i64 L][q]?:=fun W hW=>CB W ((g.trans u).trans hW);have bC:∀ W,Ext wr W->∀ q,W.cell? ⟨w.heap.size+1,q,none⟩=#[Value.slice R nr cr,.slice C nc cc][q]?:=fun W hW=>CT W ((g.trans u).trans hW)
  by_cases hlt:i<nr
  ·have b9:(i:Int)<(nr:Int):=oM;obtain⟨ad,r,rfl,_,_,hr,a4⟩:=(H1.out wr (Q.trans (g.trans u))).str hlt;have CR:∀ W,Ext wr W->W.cell? (ad.add i)=some (.string r):=fun W hW=>hW.aa a4;have cL:=(bF.out r (cX hr.out)).2;have aT:=za (cX hr.out);have ak:(wr.alloc (.cells #[] 3)).ownsRow wr.heap.size 3 1 (.slice (some wr.heap.size) 0 0) 0 (ints []):=World.ownsRow_lit wr #[] 0 (cY _) lM rfl;have bm:=(cW wr).alloc (.cells #[] 3);clear a4;obtain⟨wo,bS⟩:∃ wo,wo=wr:=⟨_,rfl⟩;subst bS;go_wp2_with fail
   go_loopw [10,11] (fun v10 kv wr=>∃ k:Nat,kv=.int .i64 k∧k<=aa.length∧wr.ownsRow wo.heap.size 3 1 v10 k (ints ((a r).take k))∧Ext wo wr) (fun _ kv _=>aa.length - (intOf kv).toNat)
   case atStart=>exact⟨0,rfl,dD _,by simpa [ints] using ak,bm⟩
   case round =>
    clear ak bm;obtain⟨k,rfl,hk,F,j⟩:=hrel
    by_cases hkl:k<aa.length
    ·have b8:(k:Int)<(aa.length:Int):=oM;obtain⟨l,hl⟩:∃ l,aa[k]?=some l:=⟨_,dC hkl⟩;have bP:=bQ.out l (cX hl);have aR:=za (cX hl);have D:=zf (aZ.out w5 (cW _)) (ax.trans j.ai) (fun b hb e=>by have:=aN.out;have:=aL.out b hb;omega);have V:=zf a1.out (ax.trans j.ai) (fun b hb e=>by have:=aN.out;have:=aI.out;have:=af.out b hb;omega);obtain⟨gl,rfl,cH,-⟩:=zac D oM;have cl:=zdg D hkl;rw [List.getD_eq_getElem?_getD,hl,Option.getD_some] at cl;have CL:∀ W,Ext wr W->W.cell? ⟨gl,k,none⟩=some (.int .i64 (l:Nat)):=fun W hW=>hW.aa cl;have cn:=fun W (hW:Ext wr W)=>CR W (j.trans hW);have co:=fun W (hW:Ext wr W)=>bC W (j.trans hW);have ck:=fun W (hW:Ext wr W)=>bA W (j.trans hW);have HT:=za (fun W=>zdJ (w:=W) bP);have Hl:=za hl;have aS:=za (bG.out r l aT.out aR.out);obtain⟨z,hz⟩:∃ z,Hid (zeN l=z):=⟨_,rfl⟩;rw [hz.out] at HT;have cN:z.size=1:=by rw [← hz.out];exact zdB l
     have hsz:¬ 9223372036854775807<r.size+1:=oM;have a0:=za (fun W (hW:Ext wr W)=>HW.out W ((Q.trans (g.trans (u.trans j))).trans hW) (r++z) (by rw [ByteArray.size_append];omega));have aG:=dY V;have av:=za (fun W (hW:Ext wr W)=>ziJ (c:=zc) (aG.ext hW) aS.out);rw [hz.out] at av;have O:=za (show (a r)[k]?=some ((idxS zs (mkS (zdw (zy s p L) cols (r++z))):Nat):Int) by rw [ag.out,dQ,hl,← hz.out];rfl);obtain⟨y,hy⟩:∃ y,r++z=y:=⟨_,rfl⟩;rw [hy] at a0 av O;obtain⟨I,hI⟩:∃ I,Hid (idxS zs (mkS (zdw (zy s p L) cols y))=I):=⟨_,rfl⟩;rw [hI.out] at av O;generalize mkS (zdw (zy s p L) cols y)=ys at *;have bR:=za (show ints ((a r).take (k+1))=ints ((a r).take k)++[.int .i64 (I:Nat)] by rw [dH,O.out];simp [ints]);have an:=cW wr;clear hl cl aG D V;go_wp2_with fail
     refine uR (fun X=>Ext wr X) [19] (zw.of [0,1,2,3,4,5,6,7,8,9,10,11,12,13,14,15,16,17,18,19,20]) ?_;refine uQ ?_;refine zd fun K hK=>?_;go_simp;refine (HT.out _).mono (mQ fun w6 bT=>?_);have ap:Ext wr w6:=an.drew.trans bT;refine hK.out _ _ ap ?_;refine pT ?_;refine uQ ?_;refine zd fun K hK=>?_;go_simp
     with_reducible refine (a0.out _ ap).mono ?_
     rintro e w7 ⟨rfl,bU⟩;have t:=ap.trans bU;refine hK.out _ _ t ?_;refine pT ?_;refine uQ ?_;refine zd fun K hK=>?_;go_simp
     with_reducible refine (av.out _ t).mono ?_
     rintro e w8 ⟨rfl,rfl⟩;refine hK.out _ _ t ?_;refine pT ?_;refine uQ ?_;refine zd fun K hK=>?_;go_simp;refine hK.out _ _ (t.alloc _) ?_;refine pT ?_;refine zb fun K hK=>?_;refine zaL wo w7 _ _ _ rfl 3 _ 1 8 Tryz.underlying74 zae rfl dM _ k (ints ((a r).take k)) _ _ rfl rfl (j.trans t).size (zg F t) rfl (zbq _) lM oM ?_;intro g9 cap9 w9 hown9 hg9 hat9 hlt9;refine hK.out _ _ ?_;refine pT ?_;refine uQ ?_;refine ze ?_;clear hy;go_wp2_with fail
     go_roundw
     case rel=>exact⟨k+1,gM,oM,by rw [bR.out];exact hown9,(j.trans t).grown hg9 (fun k hk=>(F.lt k hk).1)⟩
     case measure=>simp [intOf];omega
    ·have bO:(aa.length:Int)<=(k:Int):=oM;have aO:=za (show (a r).take k=a r from dG (by rw [ag.out,dO];omega));rw [aO.out] at F;obtain⟨S,T,rfl⟩:=zi F;have a9:=za (show k=(a r).length by rw [ag.out,dO];omega);obtain⟨bo,J,aH⟩:=f.own;have aj:=za (show ((rows.take i).map a).length=i by rw [dO,eO];have:=He.out;omega);have aQ:=za (show ((rows.take i).map (zy s p L)).length=i by rw [dO,eO];have:=He.out;omega);rw [aj.out] at J;have H:=f.ax j;have kG:=H.blk.cell;have bf:=za (H.ext.size);have aF:=zg J j;have a5:=za aH;have HO:=za (show wr.ownsRow wo.heap.size 3 1 (.slice S k T) (a r).length (ints (a r)) by rw [← a9.out];exact F);clear F;go_upto_region 15 with (at_builtin;refine zar w2 wr rfl _ _ _ rfl 74 _ 1 24 Tryz.underlying23 zcd rfl dM v i bo _ _ rfl rfl bf.out aF rfl (zaU _ _ _) lM oM ?_;intro g6 cap6 w6 hown6 hg6 hat6 hlt6;obtain⟨q1,q2,q3⟩:=f.push (l:=a r) (row:=.slice S k T) a5.out (by rw [aj.out];exact J) j HO.out (by rw [aj.out];exact hown6) hg6 hat6;have bV:=q1.out)
     have ai:Frm (fun k=>k=G) w5 (w6.setCell ⟨G,1,none⟩ (.slice (some g6) (((rows.take i).map a).length+1) cap6)):=((ax.trans j.ai).grown hg6 (fun k hk=>bi.out k hk)).trans (dE w6 G 1 _);have aJ:=za (show ∀ b,(Value.slice (some g6) (((rows.take i).map a).length+1) cap6).ownBlock=some b->w5.heap.size<=b from fun b hb=>by
      have Z:g6=b:=by simpa [Value.ownBlock] using hb
      subst Z;rcases hat6 with h1|h1
      ·exact bi.out _ h1
      ·have:=j.size;have:=ax.size;omega)
     have ba:=za (show (rows.take (i+1)).map a=(rows.take i).map a++[a r] by rw [dH,hr.out];simp);have aD:=za (show (rows.take (i+1)).map (zy s p L)=(rows.take i).map (zy s p L)++[zy s p L r] by rw [dH,hr.out];simp);rw [← ba.out,aj.out] at q3;rw [aj.out] at ai aJ;obtain⟨bb,Z⟩:∃ bb,Hid (zy s p L r=bb):=⟨_,rfl⟩;rw [Z.out] at aD;have aU:=bH.out i r hr.out;obtain⟨rr,be⟩:=bE.out r;rw [be,Z.out] at aU;obtain⟨bK,b7⟩:=mkS_head bb rr;generalize mkS (bb :: rr)=x at *;clear q1 bV q2 hown6 hat6 hlt6 kG aF H bf HO a5 aH J be;generalize w6.setCell ⟨G,1,none⟩ (.slice (some g6) (i+1) cap6)=w7 at *;generalize Value.slice (some g6) (i+1) cap6=v7 at *;have E:=zf a1.out ai (fun b hb e=>by have:=aN.out;have:=aI.out;have:=af.out b hb;omega);obtain⟨gz,rfl,-,-⟩:=zac E oM;obtain⟨cv,x2,bL,-,-,bk,cx⟩:=(dY E).str hlt;obtain rfl:=Option.some.inj bL;rw [zK,Nat.zero_add] at cx;obtain rfl:x2=x:=Option.some.inj (bk.out.symm.trans aU);have cS:∀ W,Ext w7 W->W.cell? ⟨gz,i,none⟩=some (.string x2):=fun W hW=>hW.aa cx;have cG:=fun W (hW:Ext w7 W)=>(q3.blk.ext hW).cell;have b6:(0:Int)<(x2.size:Int):=oM;have cE:=zbS x2 0 bK;have an:=cW w7;clear cx bk E aU;go_wp2_with fail
     refine uR (fun X=>Ext w7 X) [9,11] (zw.of [0,1,2,3,4,5,6,7,8,9,10,11]) ?_;refine uQ ?_;refine zd fun K hK=>?_;go_simp;have az:=an.drew;refine hK.out _ _ (az.alloc _) ?_;refine pT ?_;refine zb fun K hK=>?_;have aA:=q3.ax az;have aW:=aA.acc;rw [aQ.out] at aW;refine zaL w2 w7.drew _ _ _ rfl 4 _ 1 1 Tryz.underlying24 zbf rfl dM vA i (zaA ((rows.take i).map (zy s p L))) _ _ rfl rfl aA.ext.size aW rfl (by simp [Value.oneCell']) lM oM ?_;intro g8 cap8 w8 hown8 hg8 hat8 hlt8;refine hK.out _ _ ?_;refine pT ?_;refine uQ ?_;obtain⟨p1,p2,p3⟩:=aA.ao (x:=bb) (W':=w8) (by rw [aQ.out];exact hown8) hg8 hat8;rw [aQ.out,← aD.out] at p3;have cR:=p1.out;have bN:Frm (fun k=>k=G) w5 (w8.setCell ⟨G,2,none⟩ (.slice (some g8) (i+1) cap8)):=((ai.trans az.ai).grown hg8 (fun k hk=>bg.out k hk)).trans (dE w8 G 2 _);have bh:=za (show ∀ b,(Value.slice (some g8) (i+1) cap8).ownBlock=some b->w5.heap.size<=b from fun b hb=>by
      have Z:g8=b:=by simpa [Value.ownBlock] using hb
      subst Z;rcases hat8 with h1|h1
      ·exact bg.out _ h1
      ·have:=ai.size;have:=az.size;omega)
     refine zb fun K hK=>?_;go_simp;refine hK.out _ _ ?_;refine ze ?_;clear hown8 hg8 hat8 aW aA p1 q3 ai;generalize w8.setCell ⟨G,2,none⟩ (.slice (some g8) (i+1) cap8)=cV at *;go_wp2_with fail
     go_roundw
     case rel=>exact⟨i+1,v7,_,gM,oM,p3,aJ,bh,bN⟩
     case measure=>simp [intOf];omega
  ·have bO:(nr:Int)<=(i:Int):=oM;have a7:=za (show rows.take i=rows from dG (oH He.out));rw [a7.out] at f;obtain⟨S,T,rfl⟩:∃ S T,v=.slice S nr T:=by
    obtain⟨bo,J,-⟩:=f.own;rw [dO,He.out] at J;exact zi J
   obtain⟨A2,c2,rfl⟩:∃ A2 c2,vA=.slice A2 nr c2:=by
    have a6:=f.acc;rw [dO,He.out] at a6;exact zi a6
   have aw:=b3.ext (g.trans u);have kz:=aw.cell;have fz:=aw.frozen;have kG:=f.blk.cell;have hf:=zaD wr (w.heap.size+1+1) (.int .i64 (L:Nat)) (.slice S nr T) (.slice A2 nr c2);have cf:=(zal aw rfl (.int .i64 (L:Nat)) (.slice S nr T) (.slice A2 nr c2)).cell;have F:zX (((wr.setCell ⟨w.heap.size+1+1,0,none⟩ (.int .i64 (L:Nat))).setCell ⟨w.heap.size+1+1,1,none⟩ (.slice S nr T)).setCell ⟨w.heap.size+1+1,2,none⟩ (.slice A2 nr c2)) w.heap.size S nr T A2 nr c2 a2:=by
    rw [aB.out];have h1:=f.own;have h2:=f.acc;rw [show ((rows.map (zy s p L)).length)=nr by rw [dO];exact He.out] at h2;have h3:zX wr w2.heap.size S nr T A2 nr c2 ⟨(L:Int),rows.map a,rows.map (zy s p L)⟩:=⟨h1,by rw [dO];exact He.out.symm,h2,by rw [dO];exact He.out.symm⟩;exact (h3.ay aw hf dM).less (by have:=Q.size;have:=g.size;omega)
   have bd:=za (show RetAutB w a2 (.returned (.tuple #[.agg #[.int .i64 (L:Nat),.slice S nr T,.slice A2 nr c2],.bool true])) (((wr.setCell ⟨w.heap.size+1+1,0,none⟩ (.int .i64 (L:Nat))).setCell ⟨w.heap.size+1+1,1,none⟩ (.slice S nr T)).setCell ⟨w.heap.size+1+1,2,none⟩ (.slice A2 nr c2)) from
    ⟨S,nr,T,A2,nr,c2,by rw [aB.out],F,(Q.trans (g.trans u)).frm hf (fun k hk e=>oM)⟩)
   clear F hf;go_wp2_with fail
   exact bodyPost_ret (v:=.tuple #[.agg #[.int .i64 (L:Nat),.slice S nr T,.slice A2 nr c2],.bool true]) (by simp [results,Tryz.results193,go_sem,cf]) rfl bd.out
end
theorem zdL (h:zdv L f rows cols)(ho:zbK L f rows cols=none)(hL:L<64):zh (zhK L f rows cols)=true:=by
 unfold zh zhK;simp only [dF,decide_eq_true_eq,dO,eG];refine⟨oM,⟨h.r1,h.r12⟩,trivial,fun row hrow=>?_⟩;obtain⟨r,b,rfl⟩:=List.mem_map.1 hrow;unfold ziE autRow;simp only [dF,decide_eq_true_eq,dO,eG];refine⟨by rw [Int.toNat_natCast],fun q hq=>?_⟩;obtain⟨l,a,rfl⟩:=List.mem_map.1 hq;have:=idxS_lt (open_none ho b a);rw [zbL,dO] at this;exact⟨oM,by exact_mod_cast this⟩
section
variable {w W:World} {lo hi m d m' d':Nat} {B B':Option Addr} {p:Aut} {t:ByteArray}
theorem zhe (h:zI w lo hi B m B' m' p)(hv:zh p=true)(ht:inB t p.al.toNat=true) :
  Calls Tryz.prog 266 #[.agg #[p.al,.slice B m d,.slice B' m' d'],t] w fun e w'=>e=.returned (.int .i64 (zdE p 0 (wl t):Nat))∧Ext w w':=by
 obtain⟨j,k⟩:=(zk hv).1;obtain⟨al,a⟩:∃ al:Nat,Hid (p.al=al):=⟨p.al.toNat,by unfold Hid;omega⟩;have c:al<=63:=oH a.out;have l:=za (show p.al.toNat=al by have:=a.out;omega);have n:=zaW ht;have hsz:=zaR n;have g:=za (fun W (hW:Ext w W)=>zH _ _ _ _ d _ _ d' _ _ (h.ext hW));rw [hv] at g;have q:=za (fun W (hW:Ext w W)=>zhY (d:=d) (d':=d') (h.ext hW) hv n);rw [l.out] at ht;have i:=za ht;rw [a.out] at g q ⊢;clear h hv ht n j k
 go_enter Tryz.func266,Tryz.ntmps266
 go_upto_region 1 with fail
 generalize U0:w.alloc _=w1 at *;obtain⟨b,r⟩:=Ext.x1_ U0;clear U0;have u:=r.cells;have s:=cW w1;go_wp2_with (first
  |(go_at_call 27;refine (g.out _ b).mono (mQ fun v f=>?_))
  |(go_at_call 140;refine (zad oM c).mono ?_;rw [i.out];rintro e x ⟨rfl,rfl⟩)
  |(go_at_call 143;refine (q.out _ (b.trans f)).mono (mQ fun y o=>?_)))
 go_ret;exact⟨rfl,b.trans (f.trans o)⟩
theorem zfY (h:zI w lo hi B m B' m' p)(hv:zh p=true)(ht:inB t p.al.toNat=true) :
  Calls Tryz.prog 260 #[.agg #[p.al,.slice B m d,.slice B' m' d'],t] w fun e w'=>e=.returned (.bool (zdr p (zdE p 0 (wl t))))∧Ext w w':=by
 have g:=za (fun W (hW:Ext w W)=>zhe (d:=d) (d':=d') (h.ext hW) hv ht);have i:=za (fun W (hW:Ext w W) q hq=>zcJ (q:=q) (h.ext hW) hq);have c:zdE p 0 (wl t)<p.next.length:=zgW hv (wl_lt (zaW ht)) (by have:=(zk hv).2.1;omega);have b:m'=p.next.length:=by rw [h.n2,(zk hv).2.2.1]
 rw [← b] at c;generalize zdE p 0 (wl t)=q at *;have k:(q:Int)<(m':Int):=oM;clear h hv ht b
 go_enter Tryz.func260,Tryz.ntmps260
 go_upto_region 1 with fail
 generalize U0:w.alloc _=w1 at *;obtain⟨a,j⟩:=Ext.x1_ U0;clear U0;have r:=j.cells;have n:=cW w1;go_upto_region 2 with (first
  |(go_at_call 266;refine (g.out _ a).mono (mQ fun o f=>?_)))
 obtain⟨s,rfl,u⟩:=i.out o (a.trans f) q c;have l:(0:Int)<=(q:Int):=oM;go_wp2_with fail
 go_ret;exact⟨zj sM,a.trans f⟩
end
end Go.Proofs.YtfcjhpodichpjaaGreatDoor
