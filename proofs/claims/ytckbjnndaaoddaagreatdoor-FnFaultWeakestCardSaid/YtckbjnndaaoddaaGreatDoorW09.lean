/- The referenc -/
import Derived.Test.YtckbjnndaaoddaaGreatDoorW08
set_option maxHeartbeats 8000000
set_option maxRecDepth 100000
namespace Go.Proofs.YtckbjnndaaoddaaGreatDoor
open Go Go.RowKit
open Blk renaming new->dZ
open Bool renaming and_eq_true->dH,false->j1
open Ext renaming refl->cY,x2_->gU
open Frm renaming setCell->dG
open List renaming getElem?_append_left->dI,getElem?_eq_none->dV,mem_singleton->eS,nil_append->eI,take_append_of_le_length->gS,take_of_length_le->dJ,mem_map->kC
open Nat renaming le_refl->dD,zero_add->dW,zero_le->dF
open Reads renaming af->eE
open Go renaming World->jX
open Go.Ending renaming returned->j5
open Go.Value renaming agg->j2,bool->j7,slice->fC,string->kA
open Option renaming none->fV,some->fU
open Option.some renaming inj->j8
open _root_.Go.Proofs.Tryz renaming prog->j3
variable {A A' R:Option Addr}{G base c c' hi lo n n':Nat}{W w w':jX}{a:Aut}{f:ByteArray->Bool}{t:TypeId}{v:Value}{x z:ByteArray}{zs:List ByteArray}
theorem zv (l:List ByteArray):∀ u∈zO l,u.oneCell'=true:=by
 intro u hu;obtain⟨x,-,rfl⟩:=kC.1 hu;rfl
def TabV (w1:jX) (rows cols:List ByteArray) (nr nc:Nat) (v:Value) (W:jX):Prop:=
 ∃ (g:Nat) (R:Option Addr) (cr:Nat) (C:Option Addr) (cc:Nat),v=.pointer (fU g)/\w1.heap.size<=g/\Blk W g 90 #[fC R nr cr,fC C nc cc] /\
  W.ownsRow w1.heap.size 9 1 (fC R nr cr) nr (zO rows)/\W.ownsRow w1.heap.size 9 1 (fC C nc cc) nc (zO cols)/\Ext w1 W/\Hid (∀ k,(fC R nr cr).ownBlock=fU k->(fC C nc cc).ownBlock≠fU k)
theorem zaA {w1:jX}{rows cols:List ByteArray}{nr nc g cr cc:Nat}{C:Option Addr}(ha:W.ownsRow w1.heap.size 9 1 (fC R nr cr) nr (zO rows))(hc:W.ownsRow w1.heap.size 9 1 (fC C nc cc) nc (zO cols))(hb:Blk W g 90 #[(),()])(hx:Ext w1 W)(hg:w1.heap.size<=g)(hd:∀ k,(fC R nr cr).ownBlock=fU k->(fC C nc cc).ownBlock≠fU k) :
  TabV w1 rows cols nr nc (.pointer (fU g)) ((W.setCell g (fC R nr cr)).setCell ⟨g,1,fV⟩ (fC C nc cc)):=by
 have a:Frm (fun k=>k=g) W ((W.setCell g (fC R nr cr)).setCell ⟨g,1,fV⟩ (fC C nc cc)):=(dG W g 0 _).trans (dG _ g 1 _);exact⟨g,R,cr,C,cc,rfl,hg,by simpa using (hb.ae 0 _).ae 1 _,zf ha a (fun b hv e=>zq ha hb dM hv e),zf hc a (fun b hv e=>zq hc hb dM hv e),(hx.setCell (p:=⟨g,0,fV⟩) hg _).setCell (p:=⟨g,1,fV⟩) hg _,za hd⟩
section
variable {w W:jX}{n c m d m' d' L:Nat}{A B B':Option Addr}{s:Sys}{p:Aut}{nr nc cr cc:Nat}{R C:Option Addr}{rows cols:List ByteArray}
theorem zis (h:Tch w A n B m B' m' s p L)(hT:TabAt w R nr C nc rows cols)(hI:zbD L (zu s p L) rows cols)(hcr:nr<=cr)(hcc:nc<=cc) :
  Calls j3 213 #[j2 #[j7 j1,(0:Int),(),(),s.al,s.st,fC A n c,p.al,fC B m d,fC B' m' d',L],j2 #[fC R nr cr,fC C nc cc]] w fun e w'=>e=j5 (.tuple #[kA ((zaI L (zu s p L) rows cols).getD ⟨#[]⟩),j7 (zaI L (zu s p L) rows cols).isSome])/\Ext w w':=by
 have g:=za (fun W (hW:Ext w W)=>zck (c:=c) (d:=d) (d':=d') (h.ext hW) (hT.ext hW) hI hcr hcc);have f:=za (fun W (hW:Ext w W)=>zgF (c:=c) (d:=d) (d':=d') (cr:=cr) (cc:=cc) (h.ext hW) (hT.ext hW) hI);generalize zaI L (zu s p L) rows cols=q at *;clear h hT hI
 go_enter Tryz.func213,Tryz.ntmps213
 go_upto_region 1 with fail
 generalize U0:(w.alloc _).alloc _=w1 at *;obtain⟨hx0,i,j⟩:=gU U0;clear U0;have l:=i.cells;have o:=j.cells;have k:=cY w1;go_wp2_with (first
  |(go_at_call 211;refine (g.out _ hx0).mono (mQ fun w2 a=>?_))
  |(go_at_call 212;refine (f.out _ (hx0.trans a)).mono (mQ fun r b=>?_)))
 go_ret2;exact⟨rfl,hx0.trans (a.trans b)⟩
theorem zgR (h:Tch w A n B m B' m' s p L)(hT:TabAt w R nr C nc rows cols)(hI:zbD L (zu s p L) rows cols)(hcr:nr<=cr)(hcc:nc<=cc)(hcl:zaI L (zu s p L) rows cols=fV) :
  Calls j3 132 #[j2 #[j7 j1,(0:Int),(),(),s.al,s.st,fC A n c,p.al,fC B m d,fC B' m' d',L],j2 #[fC R nr cr,fC C nc cc]] w fun e w'=>e=j5 (.bool true)/\Ext w w':=by
 have g:=za (fun W (hW:Ext w W)=>zck (c:=c) (d:=d) (d':=d') (h.ext hW) (hT.ext hW) hI hcr hcc);have f:=za (fun W (hW:Ext w W)=>zis (c:=c) (d:=d) (d':=d') (cr:=cr) (cc:=cc) (h.ext hW) (hT.ext hW) hI hcr hcc);rw [hcl] at f;clear h hT hI hcl
 go_enter Tryz.func132,Tryz.ntmps132
 go_upto_region 1 with fail
 generalize U0:(w.alloc _).alloc _=w1 at *;obtain⟨hx0,i,j⟩:=gU U0;clear U0;have l:=i.cells;have o:=j.cells;have k:=cY w1;go_wp2_with (first
  |(go_at_call 213;refine (f.out _ hx0).mono (mQ fun w2 a=>?_))
  |(go_at_call 211;refine (g.out _ (hx0.trans a)).mono (mQ fun q b=>?_)))
 go_ret;exact⟨rfl,hx0.trans (a.trans b)⟩
theorem zjC {r:ByteArray}{L l:Nat}(hr:inB r L=true)(hs:r.size<=1000)(hl:l<6)(hb:L.testBit l=true):inB (r++zbU l) L=true:=by
 unfold inB at hr ⊢;simp only [dH,decide_eq_true_eq] at hr ⊢;refine⟨by rw [ByteArray.size_append,zci];omega,?_⟩;unfold zjJ at hr ⊢;rw [ByteArray.data_append,Array.toList_append,List.all_append,hr.2,Bool.true_and];have e:(zbU l).data.toList=[UInt8.ofNat (97+l)]:=by
  unfold zbU;rw [strOfNums_data];rfl
 rw [e];simp only [List.all_cons,List.all_nil,Bool.and_true];have a:(UInt8.ofNat (97+l)).toNat=97+l:=by rw [UInt8.toNat_ofNat'];omega
 rw [a];unfold hasB ltr;rw [if_neg oM];simp only [dH,decide_eq_true_eq];exact⟨oM,by rw [show (((97+l:Nat):Int) - 97).toNat=l by omega];exact hb⟩
theorem ziS (h:zaI L f rows cols=fU x):(∃ r l,r∈rows/\l<6/\L.testBit l=true/\x=r++zbU l)/\zby f cols x∉rows.map (zby f cols):=by
 unfold zaI at h;have h1:=List.mem_of_find?_eq_some h;have a:=List.find?_some h;unfold candL at h1;obtain⟨r,g,c⟩:=List.mem_flatMap.1 h1;obtain⟨l,d,rfl⟩:=kC.1 c;obtain⟨b,hb⟩:=zC.1 d;refine⟨⟨r,l,g,b,hb,rfl⟩,fun hm=>?_⟩;simp only [Bool.not_eq_true'] at a;rw [zbV] at a;refine a ?_;obtain⟨y,i,e⟩:=kC.1 hm;unfold zaB;exact kC.2 ⟨y,i,by rw [e]⟩
theorem zbD.grow (h:zbD L f rows cols)(hlen:rows.length<12)(hop:zaI L f rows cols=fU x):zbD L f (rows++[x]) cols:=by
 obtain⟨⟨r,l,j,g,hb,rfl⟩,o⟩:=ziS hop;refine⟨sM,by simp;omega,h.c1,h.c20,by rw [dI (oH h.r1)];exact h.r0,h.c0,fun i y hi hy=>?_,h.cw,?_⟩
 ·rcases Nat.lt_or_ge i rows.length with h1|h1
  ·rw [dI h1] at hy;obtain⟨c,z,p,k,m,n⟩:=h.rw_ i y hi hy;exact⟨c,z,p,k,m,by rw [gS oM];exact n⟩
  ·rw [List.getElem?_append_right h1] at hy;have d:i=rows.length:=by
    rcases Nat.eq_or_lt_of_le h1 with c|c
    ·exact c.symm
    ·rw [dV (by simp;omega)] at hy;cases hy
   subst d;simp at hy;subst hy;have c:=h.rin j;exact⟨zjC c.1 oM g hb,r,l,g,rfl,by rw [gS (dD _),List.take_length];exact j⟩
 ·rw [List.map_append,List.map_singleton,List.nodup_append];refine⟨h.nd,sM,fun a ha b hb' e=>?_⟩;rw [eS] at hb';subst hb';subst e;exact o ha
noncomputable def zar (L:Nat) (f:ByteArray->Bool) (cols:List ByteArray):Nat->List ByteArray->Option (List ByteArray)
 |0,rows=>match zaI L f rows cols with|none=>fU rows|some _=>fV
 |k+1,rows=>match zaI L f rows cols with|none=>fU rows|some x=>zar L f cols k (rows++[x])
theorem zcp (k:Nat)(h:zaI L f rows cols=fV):zar L f cols k rows=fU rows:=by cases k<;>simp [zar,h]
theorem zeb (h:zaI L f rows cols=fU x):zar L f cols 0 rows=fV:=by simp [zar,h]
theorem zcU (k:Nat)(h:zaI L f rows cols=fU x):zar L f cols (k+1) rows=zar L f cols k (rows++[x]):=by simp [zar,h]
theorem zhq :∀ (k:Nat) (rows rows':List ByteArray),zbD L f rows cols->rows.length+k<=12->zar L f cols k rows=fU rows'->zbD L f rows' cols/\zaI L f rows' cols=fV/\∃ t,rows'=rows++t:=by
 intro k
 induction k with
 |zero =>
  intro rows rows' hI hk h;cases ho:zaI L f rows cols with
  |none=>rw [zcp 0 ho] at h;obtain rfl:=j8 h;exact⟨hI,ho,[],sM⟩
  |some x=>rw [zeb ho] at h;cases h
 |succ k ih =>
  intro rows rows' hI hk h;cases ho:zaI L f rows cols with
  |none=>rw [zcp _ ho] at h;obtain rfl:=j8 h;exact⟨hI,ho,[],sM⟩
  |some x =>
   rw [zcU _ ho] at h;obtain⟨h1,a,t,b⟩:=ih (rows++[x]) rows' (hI.grow oM ho) (by simp;omega) h;exact⟨h1,a,[x]++t,by rw [b,List.append_assoc]⟩
def zcI (w:jX) (o:Option (List ByteArray × List ByteArray)) (e:Ending) (w':jX):Prop:=
 Ext w w'/\((o=fV/\e=j5 (.tuple #[j2 #[(),()],j7 j1])) \/
  ∃ (rs cs:List ByteArray) (nr nc:Nat) (R:Option Addr) (cr:Nat) (C:Option Addr) (cc:Nat),o=fU (rs,cs)/\e=j5 (.tuple #[j2 #[fC R nr cr,fC C nc cc],j7 true]) /\
   w'.ownsRow w.heap.size 9 1 (fC R nr cr) nr (zO rs)/\w'.ownsRow w.heap.size 9 1 (fC C nc cc) nc (zO cs))
def lenAt0 (W:jX) (G:Nat):Nat:=match W.cell? G with|some (fC _ n _)=>n|_=>0
theorem zeQ (h:Blk W G t #[fC R n c,v]):lenAt0 W G=n:=by
 unfold lenAt0;rw [h.cell 0];rfl
theorem yW09d1 {P:Prop}(h:P:=by
 have c6:=Blk.cell blk9;have f6:=Blk.frozen blk9;refine zb fun K hK=>?_;go_simp;refine hK.out _ _ ?_;refine zg ?_;go_wp2_with fail
 go_meet;exact zaA zko zkp blk9 hx35 HG0.out hdis.out
 ):P:=h
theorem yW09c1 {P:Prop}(h:P:=by
 refine ze (fun K hK=>?_);refine zx _ _ _ _ rfl w1.heap.size 9 _ 1 16 Tryz.underlying88 zo rfl dM (.slice (some bc9) 0 0) 0 [] rfl zkp _ _ C nc cc (zO cols) rfl (HC1.out v34 hx34) (zv _) lM oM hx34.size ?_;intro v9 v35 ownc8 hg hat;rw [Nat.zero_add,List.nil_append] at ownc8;obtain⟨Ac9,cc9,rfl⟩:=zh ownc8;have hx35:=hx34.grown hg (fun k hk=>(zkp.lt k hk).1);have hsz:=hg.size;have hbs:Hid (v34.heap.size=v34.heap.size):=za rfl;have zko:=zf zko (Frm.ab hg) (fun k hk hS=>hrn_a_bc9.out k hk (by simpa [Value.ownBlock] using hS.symm));have blk9:Blk v35 gbox9 90 #[.slice none 0 0,.slice none 0 0]:=(hg.block gbox9 (Blk.lt blk9) (fun e=>zq zkp blk9 dM e.symm rfl)).trans blk9;have hdis0:Hid (∀ k,(Value.slice Ac9 nc cc9).ownBlock=some k->(Value.slice Aa9 nr ca9).ownBlock≠some k):=za (fun k hk hS=>by rcases hat with h1|h1;(rw [h1] at hk;simp [Value.ownBlock] at hk;exact hrn_a_bc9.out k hS hk.symm);(rw [h1] at hk;have:=Option.some.inj hk;have:=hrl_a.out k hS;omega))
 have hdis:Hid (∀ k,(Value.slice Aa9 nr ca9).ownBlock=some k->(Value.slice Ac9 nc cc9).ownBlock≠some k):=za (fun k hk hS=>hdis0.out k hS hk);generalize hbe:v34.heap.size=nc9 at *;have hne_ba9_nc9:Hid (ba9≠nc9):=za (oH zkl.out);have hne_bc9_nc9:Hid (bc9≠nc9):=za (oH zkm.out);have zkl:Hid (ba9<v35.heap.size):=za (oH zkl.out);have zkm:Hid (bc9<v35.heap.size):=za (oH zkm.out);have hrl_a:Hid (∀ k,(Value.slice Aa9 nr ca9).ownBlock=some k->k<v35.heap.size):=za (fun k hk=>(zko.lt k hk).2);have hrl_c:Hid (∀ k,(Value.slice Ac9 nc cc9).ownBlock=some k->k<v35.heap.size):=za (fun k hk=>(ownc8.lt k hk).2);clear hbs hsz hbe;refine hK.out _ _ hx35 ?_;refine pT ?_;have zkp:=ownc8;refine uQ ?_;exact yW09d1
 ):P:=h
theorem yW09b1 {P:Prop}(h:P:=by
 clear hbs zkj hbe;refine ze (fun K hK=>?_);refine zx _ _ _ _ rfl w1.heap.size 9 _ 1 16 Tryz.underlying88 zo rfl dM (.slice (some ba9) 0 0) 0 [] rfl zko _ _ R nr cr (zO rows) rfl (HR1.out v33 hx33) (zv _) lM oM hx33.size ?_;intro v9 v34 owna8 hg hat;rw [Nat.zero_add,List.nil_append] at owna8;obtain⟨Aa9,ca9,rfl⟩:=zh owna8;have hx34:=hx33.grown hg (fun k hk=>(zko.lt k hk).1);have hsz:=hg.size;have hbs:Hid (v33.heap.size=v33.heap.size):=za rfl;have zkp:=zf zkp (Frm.ab hg) (fun k hk hS=>by simp [Value.ownBlock] at hk hS;exact zku.out (hS.trans hk.symm));have blk9:Blk v34 gbox9 90 #[.slice none 0 0,.slice none 0 0]:=(hg.block gbox9 (Blk.lt blk9) (fun e=>zq zko blk9 dM e.symm rfl)).trans blk9;generalize hbe:v33.heap.size=na9 at *;have hne_ba9_na9:Hid (ba9≠na9):=za (oH zkl.out);have hne_bc9_na9:Hid (bc9≠na9):=za (oH zkm.out);have zkl:Hid (ba9<v34.heap.size):=za (oH zkl.out);have zkm:Hid (bc9<v34.heap.size):=za (oH zkm.out);have hrn_a_bc9:Hid (∀ k,(Value.slice Aa9 nr ca9).ownBlock=some k->k≠bc9):=za (fun k hk=>by rcases hat with h1|h1;(rw [h1] at hk;simp [Value.ownBlock] at hk;rw [← hk];exact zku.out);(rw [h1] at hk;rw [← Option.some.inj hk];exact (Ne.symm hne_bc9_na9.out)))
 have hrl_a:Hid (∀ k,(Value.slice Aa9 nr ca9).ownBlock=some k->k<v34.heap.size):=za (fun k hk=>(owna8.lt k hk).2);clear hbs hsz hbe;refine hK.out _ _ hx34 ?_;refine pT ?_;have zko:=owna8;exact yW09c1
 ):P:=h
theorem yW09b2 {P:Prop}(h:P:=by
 skip;refine zx _ _ _ _ rfl w1.heap.size 9 _ 1 16 Tryz.underlying88 zo rfl dM (.slice (some bc9) 0 0) 0 [] rfl zkp _ _ C nc cc (zO cols) rfl (HC1.out v33 hx33) (zv _) lM oM hx33.size ?_;intro v9 v34 ownc8 hg hat;rw [Nat.zero_add,List.nil_append] at ownc8;obtain⟨Ac9,cc9,rfl⟩:=zh ownc8;have hx34:=hx33.grown hg (fun k hk=>(zkp.lt k hk).1);have hsz:=hg.size;have hbs:Hid (v33.heap.size=v33.heap.size):=za rfl;have zko:=zf zko (Frm.ab hg) (fun k hk hS=>hrn_a_bc9.out k hk (by simpa [Value.ownBlock] using hS.symm));have hdis0:Hid (∀ k,(Value.slice Ac9 nc cc9).ownBlock=some k->(Value.slice Aa9 nr ca9).ownBlock≠some k):=za (fun k hk hS=>by rcases hat with h1|h1;(rw [h1] at hk;simp [Value.ownBlock] at hk;exact hrn_a_bc9.out k hS hk.symm);(rw [h1] at hk;have:=Option.some.inj hk;have:=hrl_a.out k hS;omega))
 have hdis:Hid (∀ k,(Value.slice Aa9 nr ca9).ownBlock=some k->(Value.slice Ac9 nc cc9).ownBlock≠some k):=za (fun k hk hS=>hdis0.out k hS hk);generalize hbe:v33.heap.size=nc9 at *;have hne_ba9_nc9:Hid (ba9≠nc9):=za (oH zkl.out);have hne_bc9_nc9:Hid (bc9≠nc9):=za (oH zkm.out);have zkl:Hid (ba9<v34.heap.size):=za (oH zkl.out);have zkm:Hid (bc9<v34.heap.size):=za (oH zkm.out);have hrl_a:Hid (∀ k,(Value.slice Aa9 nr ca9).ownBlock=some k->k<v34.heap.size):=za (fun k hk=>(zko.lt k hk).2);have hrl_c:Hid (∀ k,(Value.slice Ac9 nc cc9).ownBlock=some k->k<v34.heap.size):=za (fun k hk=>(ownc8.lt k hk).2);clear hbs hsz hbe;refine hK.out _ _ hx34 ?_;refine pT ?_;have zkp:=ownc8;refine uQ ?_;refine ze fun K hK=>?_;go_simp;have hx35:=hx34.alloc (.cells #[(),()] 90);have zkj:=(Ext.refl v34).alloc (.cells #[(),()] 90);have blk9:=Blk.new v34 90 #[(),()];refine hK.out _ _ hx35 ?_;refine pT ?_;have zko:=zi zko zkj;have zkp:=zi zkp zkj;have HG0:=za hx34.size;have hbs:v34.heap.size<(v34.alloc (.cells #[(),()] 90)).heap.size:=sM;generalize hbe:v34.heap.size=gbox9 at *;generalize v34.alloc _=v35 at *;have zkl:Hid (ba9<v35.heap.size):=za (oH zkl.out);have zkm:Hid (bc9<v35.heap.size):=za (oH zkm.out);have hrl_a:Hid (∀ k,(Value.slice Aa9 nr ca9).ownBlock=some k->k<v35.heap.size):=za (fun k hk=>(zko.lt k hk).2);have hrl_c:Hid (∀ k,(Value.slice Ac9 nc cc9).ownBlock=some k->k<v35.heap.size):=za (fun k hk=>(zkp.lt k hk).2);clear hbs zkj hbe;exact yW09d1
 ):P:=h
theorem yW09b3 {P:Prop}(h:P:=by
 clear hbs zkj hbe;exact yW09c1
 ):P:=h
theorem yW09a1 {P:Prop}(h:P:=by
 clear hbs zkj hbe;refine zn (fun K hK=>?_) (fun K hK=>?_)
 ·skip;refine zx _ _ _ _ rfl w1.heap.size 9 _ 1 16 Tryz.underlying88 zo rfl dM (.slice (some ba9) 0 0) 0 [] rfl zko _ _ R nr cr (zO rows) rfl (HR1.out v32 hx32) (zv _) lM oM hx32.size ?_;intro v9 v33 owna8 hg hat;rw [Nat.zero_add,List.nil_append] at owna8;obtain⟨Aa9,ca9,rfl⟩:=zh owna8;have hx33:=hx32.grown hg (fun k hk=>(zko.lt k hk).1);have hsz:=hg.size;have hbs:Hid (v32.heap.size=v32.heap.size):=za rfl;have zkp:=zf zkp (Frm.ab hg) (fun k hk hS=>by simp [Value.ownBlock] at hk hS;exact zku.out (hS.trans hk.symm));generalize hbe:v32.heap.size=na9 at *;have hne_ba9_na9:Hid (ba9≠na9):=za (oH zkl.out);have hne_bc9_na9:Hid (bc9≠na9):=za (oH zkm.out);have zkl:Hid (ba9<v33.heap.size):=za (oH zkl.out);have zkm:Hid (bc9<v33.heap.size):=za (oH zkm.out);have hrn_a_bc9:Hid (∀ k,(Value.slice Aa9 nr ca9).ownBlock=some k->k≠bc9):=za (fun k hk=>by rcases hat with h1|h1;(rw [h1] at hk;simp [Value.ownBlock] at hk;rw [← hk];exact zku.out);(rw [h1] at hk;rw [← Option.some.inj hk];exact (Ne.symm hne_bc9_na9.out)))
  have hrl_a:Hid (∀ k,(Value.slice Aa9 nr ca9).ownBlock=some k->k<v33.heap.size):=za (fun k hk=>(owna8.lt k hk).2);clear hbs hsz hbe;refine hK.out _ _ hx33 ?_;refine pT ?_;have zko:=owna8;refine zn (fun K hK=>?_) (fun K hK=>?_)
  ·exact yW09b2
  ·go_simp;have hx34:=hx33.alloc (.cells #[(),()] 90);have zkj:=(Ext.refl v33).alloc (.cells #[(),()] 90);have blk9:=Blk.new v33 90 #[(),()];refine hK.out _ _ hx34 ?_;refine pT ?_;have zko:=zi zko zkj;have zkp:=zi zkp zkj;have HG0:=za hx33.size;have hbs:v33.heap.size<(v33.alloc (.cells #[(),()] 90)).heap.size:=sM;generalize hbe:v33.heap.size=gbox9 at *;generalize v33.alloc _=v34 at *;have zkl:Hid (ba9<v34.heap.size):=za (oH zkl.out);have zkm:Hid (bc9<v34.heap.size):=za (oH zkm.out);have hrl_a:Hid (∀ k,(Value.slice Aa9 nr ca9).ownBlock=some k->k<v34.heap.size):=za (fun k hk=>(zko.lt k hk).2);exact yW09b3
 ·go_simp;have hx33:=hx32.alloc (.cells #[(),()] 90);have zkj:=(Ext.refl v32).alloc (.cells #[(),()] 90);have blk9:=Blk.new v32 90 #[(),()];refine hK.out _ _ hx33 ?_;refine pT ?_;have zko:=zi zko zkj;have zkp:=zi zkp zkj;have HG0:=za hx32.size;have hbs:v32.heap.size<(v32.alloc (.cells #[(),()] 90)).heap.size:=sM;generalize hbe:v32.heap.size=gbox9 at *;generalize v32.alloc _=v33 at *;have zkl:Hid (ba9<v33.heap.size):=za (oH zkl.out);have zkm:Hid (bc9<v33.heap.size):=za (oH zkm.out);exact yW09b1
 ):P:=h
theorem yW09a2 {P:Prop}(h:P:=by
 clear hbs zkj hbe;refine zn (fun K hK=>?_) (fun K hK=>?_)
 ·skip;refine zx _ _ _ _ rfl w1.heap.size 9 _ 1 16 Tryz.underlying88 zo rfl dM (.slice (some ba9) 0 0) 0 [] rfl zko _ _ R nr cr (zO rows) rfl (HR1.out v32 hx32) (zv _) lM oM hx32.size ?_;intro v9 v33 owna8 hg hat;rw [Nat.zero_add,List.nil_append] at owna8;obtain⟨Aa9,ca9,rfl⟩:=zh owna8;have hx33:=hx32.grown hg (fun k hk=>(zko.lt k hk).1);have hsz:=hg.size;have hbs:Hid (v32.heap.size=v32.heap.size):=za rfl;have blk9:Blk v33 gbox9 90 #[.slice none 0 0,.slice none 0 0]:=(hg.block gbox9 (Blk.lt blk9) (fun e=>zq zko blk9 dM e.symm rfl)).trans blk9;generalize hbe:v32.heap.size=na9 at *;have hne_ba9_na9:Hid (ba9≠na9):=za (oH zkl.out);have zkl:Hid (ba9<v33.heap.size):=za (oH zkl.out);have hrl_a:Hid (∀ k,(Value.slice Aa9 nr ca9).ownBlock=some k->k<v33.heap.size):=za (fun k hk=>(owna8.lt k hk).2);clear hbs hsz hbe;refine hK.out _ _ hx33 ?_;refine pT ?_;have zko:=owna8;refine ze fun K hK=>?_;go_simp;have hx34:=hx33.alloc (.cells #[] 9);have zkp:=zm (World.ownsRow_lit v33 (e:=9) (size:=1) #[] 0 (Nat.le_refl _) lM rfl) hx33.size;have zkj:=(Ext.refl v33).alloc (.cells #[] 9);refine hK.out _ _ hx34 ?_;refine pT ?_;have zko:=zi zko zkj;have blk9:=Blk.ext blk9 zkj;have hbs:v33.heap.size<(v33.alloc (.cells #[] 9)).heap.size:=sM;generalize hbe:v33.heap.size=bc9 at *;generalize v33.alloc _=v34 at *;have zku:Hid (ba9≠bc9):=za (oH zkl.out);have hrn_a_bc9:Hid (∀ k,(Value.slice Aa9 nr ca9).ownBlock=some k->k≠bc9):=za (fun k hk=>by have:=hrl_a.out k hk;omega);have zkl:Hid (ba9<v34.heap.size):=za (oH zkl.out);have hrl_a:Hid (∀ k,(Value.slice Aa9 nr ca9).ownBlock=some k->k<v34.heap.size):=za (fun k hk=>(zko.lt k hk).2);have zkm:Hid (bc9<v34.heap.size):=za hbs;exact yW09b3
 ·go_simp;have hx33:=hx32.alloc (.cells #[] 9);have zkp:=zm (World.ownsRow_lit v32 (e:=9) (size:=1) #[] 0 (Nat.le_refl _) lM rfl) hx32.size;have zkj:=(Ext.refl v32).alloc (.cells #[] 9);refine hK.out _ _ hx33 ?_;refine pT ?_;have zko:=zi zko zkj;have blk9:=Blk.ext blk9 zkj;have hbs:v32.heap.size<(v32.alloc (.cells #[] 9)).heap.size:=sM;generalize hbe:v32.heap.size=bc9 at *;generalize v32.alloc _=v33 at *;have zku:Hid (ba9≠bc9):=za (oH zkl.out);have zkl:Hid (ba9<v33.heap.size):=za (oH zkl.out);have zkm:Hid (bc9<v33.heap.size):=za hbs;exact yW09b1
 ):P:=h
theorem yW09a3 {P:Prop}(h:P:=by
 clear hbs zkj hbe;refine ze fun K hK=>?_;go_simp;have hx33:=hx32.alloc (.cells #[] 9);have zko:=zm (World.ownsRow_lit v32 (e:=9) (size:=1) #[] 0 (Nat.le_refl _) lM rfl) hx32.size;have zkj:=(Ext.refl v32).alloc (.cells #[] 9);refine hK.out _ _ hx33 ?_;refine pT ?_;have zkp:=zi zkp zkj;have blk9:=Blk.ext blk9 zkj;have hbs:v32.heap.size<(v32.alloc (.cells #[] 9)).heap.size:=sM;generalize hbe:v32.heap.size=ba9 at *;generalize v32.alloc _=v33 at *;have zku:Hid (ba9≠bc9):=za (oH zkm.out);have zkm:Hid (bc9<v33.heap.size):=za (oH zkm.out);have zkl:Hid (ba9<v33.heap.size):=za hbs;exact yW09b1
 ):P:=h
theorem yW09a4 {P:Prop}(h:P:=by
 exact yW09b3
 ):P:=h
theorem zeG (h:Tch w A n B m B' m' s p L)(hT:TabAt w R nr C nc rows cols)(hI:zbD L (zu s p L) rows cols)(hcr:nr<=cr)(hcc:nc<=cc) :
  Calls j3 131 #[j2 #[j7 j1,(0:Int),(),(),s.al,s.st,fC A n c,p.al,fC B m d,fC B' m' d',L],j2 #[fC R nr cr,fC C nc cc]] w (zcI w ((zar L (zu s p L) cols (12 - rows.length) rows).map fun r=>(r,cols))):=by
 obtain⟨e1,e2⟩:=hT.nr;have aa:=hI.r12;have av:=hI.c20;rw [e1] at aa;rw [e2] at av;have HV:=za (fun W (hW:Ext w W)=>zck (c:=c) (d:=d) (d':=d') (h.ext hW) (hT.ext hW) hI hcr hcc);have HO:=za (fun (R:Option Addr) (nr cr:Nat) (C:Option Addr) (nc cc:Nat) (rows:List ByteArray) W (hW:Ext w W) hT hI=>zgF (c:=c) (d:=d) (d':=d') (nr:=nr) (nc:=nc) (R:=R) (C:=C) (cr:=cr) (cc:=cc) (rows:=rows) (cols:=cols) (h.ext hW) hT hI);obtain⟨lo,hi,bg,bc,h1,h2⟩:=hT;have HR:=za (fun W (hW:Ext w W)=>h1.ext hW);have HC:=za (fun W (hW:Ext w W)=>h2.ext hW);have HI:=za hI;have He:=za (And.intro e1 e2);obtain⟨t,zkk⟩:∃ t,Hid (zar L (zu s p L) cols (12 - rows.length) rows=t):=⟨_,rfl⟩;rw [zkk.out];clear h h1 h2 hI e1 e2
 go_enter Tryz.func131,Tryz.ntmps131
 go_upto_region 1 with fail
 generalize U0:((w.alloc _).alloc _).alloc _=w0 at *;obtain⟨hx0,b1,b2,b3⟩:=Ext.x3_ U0;clear U0;have CB:=b1.cells;have CT:=b2.cells;have ba:=b3.lt;have ay:=cY w0;go_upto_region 3 with (first
  |(go_at_call 211;refine (HV.out _ hx0).mono (mQ fun w1 l=>?_)))
 have u:=hx0.trans l;have be:=l.size;have HR1:=za (fun W (hW:Ext w1 W)=>HR.out W (u.trans hW));have HC1:=za (fun W (hW:Ext w1 W)=>HC.out W (u.trans hW));have aG:=fun W (hW:Ext w1 W)=>CT W (l.trans hW)
 go_cut [6] (fun v wx=>TabV w1 rows cols nr nc v wx)
 case first =>
  clear CB CT ay HV HO;have X0:Ext w1 w1.drew:=(cY w1).drew;refine uR (fun X=>Ext w1 X) [10] (zy.app [1,2,5,6] (zy.three 0 (zy.three 3 (zy.two 4 (zy.two 7 (zy.of [8,9,10]) 9 (zy.of [7,8,10])) 9 (zy.of [4,7,8,10])) 4 (zy.two 3 (zy.two 7 (zy.of [8,9,10]) 9 (zy.of [7,8,10])) 9 (zy.of [3,7,8,10])) 9 (zy.two 3 (zy.of [4,7,8,10]) 4 (zy.of [3,7,8,10]))) 4 (zy.two 0 (zy.two 3 (zy.two 7 (zy.of [8,9,10]) 9 (zy.of [7,8,10])) 9 (zy.of [3,7,8,10])) 9 (zy.of [0,3,7,8,10])) 9 (zy.two 0 (zy.two 3 (zy.of [4,7,8,10]) 4 (zy.of [3,7,8,10])) 4 (zy.of [0,3,7,8,10])))) ?_;generalize w1.drew=o at *;refine uQ ?_;refine zaQ (fun K hK=>?_) (fun K hK=>?_) (fun K hK=>?_)
  ·go_simp;have f:=X0.alloc (.cells #[] 9);have zko:=zm (World.ownsRow_lit o (e:=9) (size:=1) #[] 0 (dD _) lM rfl) X0.size;have zkj:=(cY o).alloc (.cells #[] 9);refine hK.out _ _ f ?_;refine pT ?_;have hbs:o.heap.size<(o.alloc (.cells #[] 9)).heap.size:=sM;generalize hbe:o.heap.size=ba9 at *;generalize o.alloc _=a at *;have zkl:Hid (ba9<a.heap.size):=za hbs;clear hbs zkj hbe;refine zaQ (fun K hK=>?_) (fun K hK=>?_) (fun K hK=>?_)
   ·skip;refine zx _ _ _ _ rfl w1.heap.size 9 _ 1 16 Tryz.underlying88 zo rfl dM (fC (fU ba9) 0 0) 0 [] rfl zko _ _ R nr cr (zO rows) rfl (HR1.out a f) (zv _) lM oM f.size ?_;intro v9 v32 owna8 hg hat;rw [dW,eI] at owna8;obtain⟨Aa9,ca9,rfl⟩:=zh owna8;have hx32:=f.grown hg (fun k hk=>(zko.lt k hk).1);have hsz:=hg.size;have hbs:Hid (a.heap.size=a.heap.size):=za rfl;generalize hbe:a.heap.size=na9 at *;have hne_ba9_na9:Hid (ba9≠na9):=za (oH zkl.out);have zkl:Hid (ba9<v32.heap.size):=za (oH zkl.out);have hrl_a:Hid (∀ k,(fC Aa9 nr ca9).ownBlock=fU k->k<v32.heap.size):=za (fun k hk=>(owna8.lt k hk).2);clear hbs hsz hbe;refine hK.out _ _ hx32 ?_;refine pT ?_;have zko:=owna8;refine zn (fun K hK=>?_) (fun K hK=>?_)
    ·go_simp;have hx33:=hx32.alloc (.cells #[] 9);have zkp:=zm (World.ownsRow_lit v32 (e:=9) (size:=1) #[] 0 (dD _) lM rfl) hx32.size;have zkj:=(cY v32).alloc (.cells #[] 9);refine hK.out _ _ hx33 ?_;refine pT ?_;have zko:=zi zko zkj;have hbs:v32.heap.size<(v32.alloc (.cells #[] 9)).heap.size:=sM;generalize hbe:v32.heap.size=bc9 at *;generalize v32.alloc _=v33 at *;have zku:Hid (ba9≠bc9):=za (oH zkl.out);have hrn_a_bc9:Hid (∀ k,(fC Aa9 nr ca9).ownBlock=fU k->k≠bc9):=za (fun k hk=>by have:=hrl_a.out k hk;omega);have zkl:Hid (ba9<v33.heap.size):=za (oH zkl.out);have hrl_a:Hid (∀ k,(fC Aa9 nr ca9).ownBlock=fU k->k<v33.heap.size):=za (fun k hk=>(zko.lt k hk).2);have zkm:Hid (bc9<v33.heap.size):=za hbs;clear hbs zkj hbe;refine zn (fun K hK=>?_) (fun K hK=>?_)
     ·exact yW09b2
     ·go_simp;have hx34:=hx33.alloc (.cells #[(),()] 90);have zkj:=(cY v33).alloc (.cells #[(),()] 90);have blk9:=dZ v33 90 #[(),()];refine hK.out _ _ hx34 ?_;refine pT ?_;have zko:=zi zko zkj;have zkp:=zi zkp zkj;have HG0:=za hx33.size;have hbs:v33.heap.size<(v33.alloc (.cells #[(),()] 90)).heap.size:=sM;generalize hbe:v33.heap.size=gbox9 at *;generalize v33.alloc _=v34 at *;have zkl:Hid (ba9<v34.heap.size):=za (oH zkl.out);have zkm:Hid (bc9<v34.heap.size):=za (oH zkm.out);have hrl_a:Hid (∀ k,(fC Aa9 nr ca9).ownBlock=fU k->k<v34.heap.size):=za (fun k hk=>(zko.lt k hk).2);exact yW09a4
    ·go_simp;have hx33:=hx32.alloc (.cells #[(),()] 90);have zkj:=(cY v32).alloc (.cells #[(),()] 90);have blk9:=dZ v32 90 #[(),()];refine hK.out _ _ hx33 ?_;refine pT ?_;have zko:=zi zko zkj;have HG0:=za hx32.size;have hbs:v32.heap.size<(v32.alloc (.cells #[(),()] 90)).heap.size:=sM;generalize hbe:v32.heap.size=gbox9 at *;generalize v32.alloc _=v33 at *;have zkl:Hid (ba9<v33.heap.size):=za (oH zkl.out);have hrl_a:Hid (∀ k,(fC Aa9 nr ca9).ownBlock=fU k->k<v33.heap.size):=za (fun k hk=>(zko.lt k hk).2);clear hbs zkj hbe;refine ze fun K hK=>?_;go_simp;have hx34:=hx33.alloc (.cells #[] 9);have zkp:=zm (World.ownsRow_lit v33 (e:=9) (size:=1) #[] 0 (dD _) lM rfl) hx33.size;have zkj:=(cY v33).alloc (.cells #[] 9);refine hK.out _ _ hx34 ?_;refine pT ?_;have zko:=zi zko zkj;have blk9:=Blk.ext blk9 zkj;have hbs:v33.heap.size<(v33.alloc (.cells #[] 9)).heap.size:=sM;generalize hbe:v33.heap.size=bc9 at *;generalize v33.alloc _=v34 at *;have zku:Hid (ba9≠bc9):=za (oH zkl.out);have hrn_a_bc9:Hid (∀ k,(fC Aa9 nr ca9).ownBlock=fU k->k≠bc9):=za (fun k hk=>by have:=hrl_a.out k hk;omega);have zkl:Hid (ba9<v34.heap.size):=za (oH zkl.out);have hrl_a:Hid (∀ k,(fC Aa9 nr ca9).ownBlock=fU k->k<v34.heap.size):=za (fun k hk=>(zko.lt k hk).2);have zkm:Hid (bc9<v34.heap.size):=za hbs;exact yW09a4
   ·go_simp;have hx32:=f.alloc (.cells #[] 9);have zkp:=zm (World.ownsRow_lit a (e:=9) (size:=1) #[] 0 (dD _) lM rfl) f.size;have zkj:=(cY a).alloc (.cells #[] 9);refine hK.out _ _ hx32 ?_;refine pT ?_;have zko:=zi zko zkj;have hbs:a.heap.size<(a.alloc (.cells #[] 9)).heap.size:=sM;generalize hbe:a.heap.size=bc9 at *;generalize a.alloc _=v32 at *;have zku:Hid (ba9≠bc9):=za (oH zkl.out);have zkl:Hid (ba9<v32.heap.size):=za (oH zkl.out);have zkm:Hid (bc9<v32.heap.size):=za hbs;exact yW09a1
   ·go_simp;have hx32:=f.alloc (.cells #[(),()] 90);have zkj:=(cY a).alloc (.cells #[(),()] 90);have blk9:=dZ a 90 #[(),()];refine hK.out _ _ hx32 ?_;refine pT ?_;have zko:=zi zko zkj;have HG0:=za f.size;have hbs:a.heap.size<(a.alloc (.cells #[(),()] 90)).heap.size:=sM;generalize hbe:a.heap.size=gbox9 at *;generalize a.alloc _=v32 at *;have zkl:Hid (ba9<v32.heap.size):=za (oH zkl.out);exact yW09a2
  ·go_simp;have f:=X0.alloc (.cells #[] 9);have zkp:=zm (World.ownsRow_lit o (e:=9) (size:=1) #[] 0 (dD _) lM rfl) X0.size;have zkj:=(cY o).alloc (.cells #[] 9);refine hK.out _ _ f ?_;refine pT ?_;have hbs:o.heap.size<(o.alloc (.cells #[] 9)).heap.size:=sM;generalize hbe:o.heap.size=bc9 at *;generalize o.alloc _=a at *;have zkm:Hid (bc9<a.heap.size):=za hbs;clear hbs zkj hbe;refine zn (fun K hK=>?_) (fun K hK=>?_)
   ·go_simp;have hx32:=f.alloc (.cells #[] 9);have zko:=zm (World.ownsRow_lit a (e:=9) (size:=1) #[] 0 (dD _) lM rfl) f.size;have zkj:=(cY a).alloc (.cells #[] 9);refine hK.out _ _ hx32 ?_;refine pT ?_;have zkp:=zi zkp zkj;have hbs:a.heap.size<(a.alloc (.cells #[] 9)).heap.size:=sM;generalize hbe:a.heap.size=ba9 at *;generalize a.alloc _=v32 at *;have zku:Hid (ba9≠bc9):=za (oH zkm.out);have zkm:Hid (bc9<v32.heap.size):=za (oH zkm.out);have zkl:Hid (ba9<v32.heap.size):=za hbs;exact yW09a1
   ·go_simp;have hx32:=f.alloc (.cells #[(),()] 90);have zkj:=(cY a).alloc (.cells #[(),()] 90);have blk9:=dZ a 90 #[(),()];refine hK.out _ _ hx32 ?_;refine pT ?_;have zkp:=zi zkp zkj;have HG0:=za f.size;have hbs:a.heap.size<(a.alloc (.cells #[(),()] 90)).heap.size:=sM;generalize hbe:a.heap.size=gbox9 at *;generalize a.alloc _=v32 at *;have zkm:Hid (bc9<v32.heap.size):=za (oH zkm.out);exact yW09a3
  ·go_simp;have f:=X0.alloc (.cells #[(),()] 90);have zkj:=(cY o).alloc (.cells #[(),()] 90);have blk9:=dZ o 90 #[(),()];refine hK.out _ _ f ?_;refine pT ?_;have HG0:=za X0.size;have hbs:o.heap.size<(o.alloc (.cells #[(),()] 90)).heap.size:=sM;generalize hbe:o.heap.size=gbox9 at *;generalize o.alloc _=a at *;clear hbs zkj hbe;refine zn (fun K hK=>?_) (fun K hK=>?_)
   ·go_simp;have hx32:=f.alloc (.cells #[] 9);have zko:=zm (World.ownsRow_lit a (e:=9) (size:=1) #[] 0 (dD _) lM rfl) f.size;have zkj:=(cY a).alloc (.cells #[] 9);refine hK.out _ _ hx32 ?_;refine pT ?_;have blk9:=Blk.ext blk9 zkj;have hbs:a.heap.size<(a.alloc (.cells #[] 9)).heap.size:=sM;generalize hbe:a.heap.size=ba9 at *;generalize a.alloc _=v32 at *;have zkl:Hid (ba9<v32.heap.size):=za hbs;exact yW09a2
   ·go_simp;have hx32:=f.alloc (.cells #[] 9);have zkp:=zm (World.ownsRow_lit a (e:=9) (size:=1) #[] 0 (dD _) lM rfl) f.size;have zkj:=(cY a).alloc (.cells #[] 9);refine hK.out _ _ hx32 ?_;refine pT ?_;have blk9:=Blk.ext blk9 zkj;have hbs:a.heap.size<(a.alloc (.cells #[] 9)).heap.size:=sM;generalize hbe:a.heap.size=bc9 at *;generalize a.alloc _=v32 at *;have zkm:Hid (bc9<v32.heap.size):=za hbs;exact yW09a3
 case rest =>
  obtain⟨G,R1,F,y,g,rfl,aR,E,Y,V,am,hdis⟩:=hcut;obtain⟨wE,T⟩:∃ wE,wE=wc:=⟨_,rfl⟩;subst T;have aS:=za (And.intro He.out.1 HI.out);have aT:=u.trans am;have aI:=za (show TabAt wE R1 nr y nc rows cols from ⟨_,_,_,_,eE Y,eE V⟩);have k6:=fun W (hW:Ext wE W)=>(E.ext hW).cell;have T:=cY wE;have az:=l.trans am;have aE:=fun W (hW:Ext wE W)=>CB W (az.trans hW);go_wp2_with (first
   |(go_at_call 212;refine (HO.out _ _ _ _ _ _ rows _ aT aI.out HI.out).mono (mQ fun w3 M=>?_)))
  have ab:=am.trans M;have au:=E.ext M;have aC:=zi Y M;have aA:=zi V M;clear k6 Y V E aE CT aG T ay
  go_loopw [7,8] (fun v7 v8 wr=>∃ (q:List ByteArray) (k:Nat) (R1:Option Addr) (F:Nat),v7=.string ((zaI L (zu s p L) q cols).getD ⟨#[]⟩)/\v8=.bool (zaI L (zu s p L) q cols).isSome/\Hid (q.length=k/\zbD L (zu s p L) q cols)/\Hid (zar L (zu s p L) cols (12 - k) q=t)/\k<=12/\Blk wr G 90 #[fC R1 k F,fC y nc g]/\wr.ownsRow w1.heap.size 9 1 (fC R1 k F) k (zO q)/\wr.ownsRow w1.heap.size 9 1 (fC y nc g) nc (zO cols)/\Hid (∀ j,(fC R1 k F).ownBlock=fU j->(fC y nc g).ownBlock≠fU j)/\Ext w1 wr) (fun _ _ wr=>13 - lenAt0 wr G)
  case atStart=>exact⟨rows,nr,R1,F,rfl,rfl,aS,za (by rw [<- He.out.1];exact zkk.out),aa,au,aC,aA,hdis,ab⟩
  case round =>
   clear au aC aA hdis ab M;obtain⟨q,k,Q,i,rfl,rfl,ai,ae,a2,E,Y,V,hdis,U⟩:=hrel;obtain⟨op,I⟩:∃ op,Hid (zaI L (zu s p L) q cols=op):=⟨_,rfl⟩;rw [I.out];have k6:=E.cell;have f6:=E.frozen;have ax:=za (zeQ E);have z:=b3.ext (l.trans U);have kz:=z.cell;have fz:=z.frozen;cases op with
   |none =>
    have ah:=za (show t=fU q by rw [<- ae.out,zcp _ I.out]);have hf:Frm (fun k=>k=w.heap.size+1+1) wr ((wr.setCell ⟨w.heap.size+1+1,0,fV⟩ (fC Q k i)).setCell ⟨w.heap.size+1+1,1,fV⟩ (fC y nc g)):=(dG wr _ 0 _).trans (dG _ _ 1 _);have cf:=(show Blk ((wr.setCell ⟨w.heap.size+1+1,0,fV⟩ (fC Q k i)).setCell ⟨w.heap.size+1+1,1,fV⟩ (fC y nc g)) (w.heap.size+1+1) 90 #[fC Q k i,fC y nc g] by simpa using (z.ae 0 (fC Q k i)).ae 1 (fC y nc g)).cell;have J:=za (show zcI w (t.map fun r=>(r,cols)) (j5 (.tuple #[j2 #[fC Q k i,fC y nc g],j7 true])) ((wr.setCell ⟨w.heap.size+1+1,0,fV⟩ (fC Q k i)).setCell ⟨w.heap.size+1+1,1,fV⟩ (fC y nc g)) from
     ⟨((u.trans U).setCell (p:=⟨w.heap.size+1+1,0,fV⟩) (by dsimp only;omega) _).setCell (p:=⟨w.heap.size+1+1,1,fV⟩) (by dsimp only;omega) _,.inr ⟨q,cols,k,nc,Q,i,y,g,by rw [ah.out];rfl,rfl,zf (zm Y u.size) hf (fun b hv e=>zq Y z dM hv e),zf (zm V u.size) hf (fun b hv e=>zq V z dM hv e)⟩⟩)
    clear hf;go_wp2_with fail
    exact bodyPost_ret (v:=.tuple #[j2 #[fC Q k i,fC y nc g],j7 true]) (by simp [results,Tryz.results131,go_sem,cf]) rfl J.out
   |some x =>
    by_cases h12:k=12
    ·have ah:=za (show t=fV by rw [<- ae.out,h12];exact zeb I.out);have bb:((k:Int)==12)=true:=by rw [h12];rfl
     clear h12;have cf:=(show Blk ((wr.setCell ⟨w.heap.size+1+1,0,fV⟩ ()).setCell ⟨w.heap.size+1+1,1,fV⟩ ()) (w.heap.size+1+1) 90 #[(),()] by simpa using (z.ae 0 (fC fV 0 0)).ae 1 (fC fV 0 0)).cell;have J:=za (show zcI w (t.map fun r=>(r,cols)) (j5 (.tuple #[j2 #[(),()],j7 j1])) ((wr.setCell ⟨w.heap.size+1+1,0,fV⟩ ()).setCell ⟨w.heap.size+1+1,1,fV⟩ ()) from
      ⟨((u.trans U).setCell (p:=⟨w.heap.size+1+1,0,fV⟩) (by dsimp only;omega) _).setCell (p:=⟨w.heap.size+1+1,1,fV⟩) (by dsimp only;omega) _,.inl ⟨by rw [ah.out];rfl,rfl⟩⟩)
     go_wp2_with fail
     exact bodyPost_ret (v:=.tuple #[j2 #[(),()],j7 j1]) (by simp [results,Tryz.results131,go_sem,cf]) rfl J.out
    ·have bd:((k:Int)==12)=j1:=by simp;omega
     have H:=za (show zbD L (zu s p L) (q++[x]) cols from ai.out.2.grow (by rw [ai.out.1];omega) I.out);have aw:=za (show zar L (zu s p L) cols (12 - (k+1)) (q++[x])=t by
      rw [<- ae.out,show 12 - k=(12 - (k+1))+1 by omega,zcU _ I.out])
     go_upto_region 9 with (at_builtin;refine zW w1 wr rfl _ _ _ rfl 9 _ 1 16 Tryz.underlying88 zo rfl dM (fC Q k i) k (zO q) _ _ rfl rfl U Y rfl (zcx _) lM oM ?_;intro v5 w5 hx5 zkt hg5 hat5;obtain⟨S,Z,rfl⟩:=zh zkt;have D:Blk w5 G 90 #[fC Q k i,fC y nc g]:=(hg5.block G (Blk.lt E) (fun e=>zq Y E dM e.symm rfl)).trans E;have aV:=Blk.cell D;have aO:=Blk.frozen D)
     have an:=zf V (Frm.ab hg5) (fun b hv e=>hdis.out b e hv);have af:=za (show ∀ j,(fC S (k+1) Z).ownBlock=fU j->(fC y nc g).ownBlock≠fU j from fun j hj hc=>by
      rcases hat5 with h1|h1
      ·rw [h1] at hj;exact hdis.out j hj hc
      ·rw [h1] at hj;have:=j8 hj;have:=(V.lt j hc).2;omega)
     have ag:Frm (fun k=>k=G) w5 (w5.setCell G (fC S (k+1) Z)):=dG w5 G 0 _;have aB:=zf an ag (fun b hv e=>zq an D dM hv e);have ao:=zf zkt ag (fun b hv e=>zq zkt D dM hv e);have ad:Blk (w5.setCell G (fC S (k+1) Z)) G 90 #[fC S (k+1) Z,fC y nc g]:=by simpa using D.ae 0 (fC S (k+1) Z)
     have ak:=hx5.setCell (p:=⟨G,0,fV⟩) aR (fC S (k+1) Z);rw [show zO q++#[kA x].toList=zO (q++[x]) by rw [strs_snoc]] at ao;clear k6 f6 kz fz z E Y V ag aV aO D an zkt hx5 hg5 hat5 hdis;generalize w5.setCell G (fC S (k+1) Z)=w6 at *;have a3:=fun W (hW:Ext w6 W)=>CB W (l.trans (ak.trans hW));have a4:=ad.cells;have aJ:=za (show TabAt w6 S (k+1) y nc (q++[x]) cols from ⟨_,_,_,_,eE ao,eE aB⟩);have T:=cY w6;go_wp2_with (first
      |(go_at_call 212;refine (HO.out _ _ _ _ _ _ (q++[x]) _ (u.trans ak) aJ.out H.out).mono (mQ fun w7 O=>?_)))
     have aj:=za (zeQ (ad.ext O));go_roundw
     case rel=>exact⟨q++[x],k+1,S,Z,rfl,rfl,za ⟨by rw [List.length_append,ai.out.1];rfl,H.out⟩,aw,oM,ad.ext O,zi ao O,zi aB O,af,ak.trans O⟩
     case measure=>have h1:=ax.out;have h2:=aj.out;omega
end
theorem zbD.first (L:Nat) (f:ByteArray->Bool):zbD L f [⟨#[]⟩] [⟨#[]⟩]:=
 ⟨dD _,dM,dD _,dM,rfl,rfl,(fun i x hi hx=>by rw [dV (by simpa using hi)] at hx;cases hx),(fun i x hi hx=>by rw [dV (by simpa using hi)] at hx;cases hx),sM⟩
noncomputable def ziL (zs:List ByteArray) (z:ByteArray):Nat:=zs.findIdx fun y=>zcJ [y] z
theorem zjy (h:z∈zs):ziL zs z<zs.length:=List.findIdx_lt_length_of_exists ⟨z,h,zau.2 sM⟩
theorem idxS_at (h:z∈zs):zs[ziL zs z]?=fU z:=by
 have h1:=zjy h;have b:=List.findIdx_getElem (xs:=zs) (p:=fun y=>zcJ [y] z) (w:=h1);have a:=zau.1 b;rw [eS] at a;rw [List.getElem?_eq_getElem h1];exact congrArg fU a.symm
theorem idxS_first {j:Nat}{y:ByteArray}(hj:j<ziL zs z)(hy:zs[j]?=fU y):y≠z:=by
 have h1:=List.not_of_lt_findIdx hj;have a:zs[j]'(by have:=List.findIdx_le_length (p:=fun y=>zcJ [y] z) (xs:=zs);unfold ziL at hj;omega)=y:=(List.getElem?_eq_some_iff.1 hy).2;rw [a] at h1;intro e;rw [zbV] at h1;exact h1 (by rw [e];simp)
theorem zjP (h:Reads w lo hi 1 A n (zO zs))(hz:z∈zs) :
  Calls j3 136 #[fC A n c,z] w fun e w'=>e=j5 (.int .i64 (ziL zs z:Nat))/\w=w':=by
 have s:=h.len;have g:zs.length=n:=by have:=h.length;rw [zaW] at this;omega
 obtain⟨I,b⟩:∃ I,Hid (ziL zs z=I):=⟨_,rfl⟩;have o:I<n:=by rw [<- b.out,<- g];exact zjy hz
 have hat:=za (b.out ▸ idxS_at hz);have a:=za (fun (j:Nat) (y:ByteArray) (hj:j<I)=>idxS_first (zs:=zs) (z:=z) (j:=j) (y:=y) (by rw [b.out];exact hj));rw [b.out];clear g hz
 go_enter Tryz.func136,Tryz.ntmps136
 go_wp2_with fail
 go_loop [5] (fun iv=>∃ i:Nat,iv=.int .i64 i/\i<=I) (fun iv=>n - (intOf iv).toNat)
 case atStart=>exact⟨0,rfl,dF _⟩
 case round =>
  obtain⟨i,rfl,hi⟩:=hrel;have d:i<n:=oM;have k:(i:Int)<(n:Int):=oM;obtain⟨q,y,rfl,_,_,l,r⟩:=h.str d
  by_cases he:i=I
  ·have f:y=z:=j8 (l.out.symm.trans (he ▸ hat.out));subst f;have m:=za he;clear he;go_wp2_with fail
   go_ret;exact⟨zaa (by rw [m.out]),rfl⟩
  ·have p:=str_ne (a.out i y oM l.out);go_wp2_with fail
   go_round
   case rel=>exact⟨i+1,gM,oM⟩
   case measure=>exact uM
section
variable {w W:jX}{n c m d m' d' L:Nat}{A B B':Option Addr}{s:Sys}{p:Aut}
theorem zjO (h:Tch w A n B m B' m' s p L) :
  Calls j3 57 #[j2 #[j7 j1,(0:Int),(),(),s.al,s.st,fC A n c,p.al,fC B m d,fC B' m' d',L]] w (zcI w ((zar L (zu s p L) [⟨#[]⟩] 11 [⟨#[]⟩]).map fun r=>(r,[⟨#[]⟩]))):=by
 have y:=za (fun (R C:Option Addr) W (hW:Ext w W) (q:TabAt W R 1 C 1 [⟨#[]⟩] [⟨#[]⟩])=>zeG (c:=c) (d:=d) (d':=d') (cr:=1) (cc:=1) (h.ext hW) q (zbD.first L _) (dD _) (dD _))
 rw [show 12 - ([⟨#[]⟩]:List ByteArray).length=11 from rfl] at y;generalize (zar L (zu s p L) [⟨#[]⟩] 11 [⟨#[]⟩]).map (fun r=>(r,[(⟨#[]⟩:ByteArray)]))=o at *;clear h
 go_enter Tryz.func57,Tryz.ntmps57
 go_upto_region 1 with fail
 generalize U0:(w.alloc _).alloc _=i at *;obtain⟨hx0,H,I⟩:=gU U0;have hsz:w.heap.size+1+1=i.heap.size:=by rw [<- U0];simp
 clear U0;have G:=za hsz;clear hsz;have E:=H.cell;have f:Ext i ((i.alloc (.cells #[kA ⟨#[]⟩] 9)).alloc (.cells #[kA ⟨#[]⟩] 9)):=((cY _).alloc _).alloc _;have q:TabAt ((i.alloc (.cells #[kA ⟨#[]⟩] 9)).alloc (.cells #[kA ⟨#[]⟩] 9)) (fU ⟨i.heap.size,0,fV⟩) 1 (fU ⟨i.heap.size+1,0,fV⟩) 1 [⟨#[]⟩] [⟨#[]⟩]:=by
  obtain⟨Q,S⟩:=zN (cY ((i.alloc (.cells #[kA ⟨#[]⟩] 9)).alloc (.cells #[kA ⟨#[]⟩] 9)));refine⟨_,_,_,_,eE (base:=i.heap.size) (e:=9) (c:=1) ⟨rfl,.inr ⟨i.heap.size,1,_,rfl,dD _,Q,by unfold maxLen;simp [zO]⟩⟩,eE (base:=i.heap.size+1) (e:=9) (c:=1) ⟨rfl,.inr ⟨i.heap.size+1,1,_,rfl,dD _,S,by unfold maxLen;simp [zO]⟩⟩⟩
 have F:=za q;have l:=I.ext f;clear q;go_wp2_with fail
 refine (y.out _ _ _ (hx0.trans f) F.out).mono ?_;rintro e w2 ⟨j,⟨u,rfl⟩|⟨T,J,nr,nc,R,cr,C,cc,u,rfl,D,z⟩⟩
 ·have a:=l.ext j;have O:=a.cell;have M:=a.frozen;have t:=(show Blk ((w2.setCell ⟨w.heap.size+1,0,fV⟩ ()).setCell ⟨w.heap.size+1,1,fV⟩ ()) (w.heap.size+1) 90 #[(),()] by simpa using (a.ae 0 (fC fV 0 0)).ae 1 (fC fV 0 0)).cell;have g:=za (show zcI w o (j5 (.tuple #[j2 #[(),()],j7 j1])) ((w2.setCell ⟨w.heap.size+1,0,fV⟩ ()).setCell ⟨w.heap.size+1,1,fV⟩ ()) from
   ⟨(((hx0.trans f).trans j).setCell (p:=⟨w.heap.size+1,0,fV⟩) (Nat.le_succ _) _).setCell (p:=⟨w.heap.size+1,1,fV⟩) (Nat.le_succ _) _,.inl ⟨u,rfl⟩⟩)
  clear E;go_wp2_with fail
  exact bodyPost_ret (v:=.tuple #[j2 #[(),()],j7 j1]) (by simp [results,Tryz.results57,go_sem,t]) rfl g.out
 ·have a:=l.ext j;have O:=a.cell;have M:=a.frozen;have x:Frm (fun k=>k=w.heap.size+1) w2 ((w2.setCell ⟨w.heap.size+1,0,fV⟩ (fC R nr cr)).setCell ⟨w.heap.size+1,1,fV⟩ (fC C nc cc)):=(dG w2 _ 0 _).trans (dG _ _ 1 _);have t:=(show Blk ((w2.setCell ⟨w.heap.size+1,0,fV⟩ (fC R nr cr)).setCell ⟨w.heap.size+1,1,fV⟩ (fC C nc cc)) (w.heap.size+1) 90 #[fC R nr cr,fC C nc cc] by simpa using (a.ae 0 (fC R nr cr)).ae 1 (fC C nc cc)).cell;have g:=za (show zcI w o (j5 (.tuple #[j2 #[fC R nr cr,fC C nc cc],j7 true])) ((w2.setCell ⟨w.heap.size+1,0,fV⟩ (fC R nr cr)).setCell ⟨w.heap.size+1,1,fV⟩ (fC C nc cc)) from
   ⟨(((hx0.trans f).trans j).setCell (p:=⟨w.heap.size+1,0,fV⟩) (Nat.le_succ _) _).setCell (p:=⟨w.heap.size+1,1,fV⟩) (Nat.le_succ _) _,.inr ⟨T,J,nr,nc,R,cr,C,cc,u,rfl,zf (zm D (hx0.trans f).size) x (fun b hv e=>zq D a dM hv e),zf (zm z (hx0.trans f).size) x (fun b hv e=>zq z a dM hv e)⟩⟩)
  clear E x;go_wp2_with fail
  exact bodyPost_ret (v:=.tuple #[j2 #[fC R nr cr,fC C nc cc],j7 true]) (by simp [results,Tryz.results57,go_sem,t]) rfl g.out
end
theorem yW09a5 {P:Prop}(h:P:=by
 intro vA w4 hownA hgA hatA;rw [Nat.zero_add,List.nil_append] at hownA;obtain⟨BA,dA,rfl⟩:=zh hownA;have hxA:Ext w2 w4:=hx0.grown hgA (fun k hk=>(hm.lt k hk).1);have hb:Blk w4 G 27 #[.int .i64 0,.slice none 0 0,.slice none 0 0]:=(hgA.block G hb.lt (fun e=>zq hm hb dM e.symm rfl)).trans hb;replace hx0:=hxA;refine hK.out _ _ hx0 ?_;refine pT ?_;refine uQ ?_;have cG:=hb.cell;have fG:=hb.frozen;refine zb fun K hK=>?_;go_simp;refine hK.out _ _ ?_;refine zg ?_;have zkk:Gra w2 (((w4.setCell G a.al).setCell ⟨G,1,none⟩ ()).setCell ⟨G,2,none⟩ (.slice BA n' dA)) G a.al (.slice none 0 0) [] (.slice BA n' dA) a.acc:=⟨zah hb rfl _ _ _,⟨[],World.ownsRow_nil _ _ _ _,zB.nil _ _⟩,by
  rw [← hL'.out];exact zf hownA (zV w4 G _ _ _) (fun b hv hS=>zq hownA hb dM hv hS),hx0.frm (zV w4 G _ _ _) (fun k hk e=>oM),hG⟩
 go_wp2_with fail
 go_meet;exact⟨G,_,rfl,zkk⟩
 ):P:=h
theorem zen (h:zJ w lo hi A n A' n' a)(hs:a.size<=1048576) :
  Calls j3 165 #[j2 #[a.al,fC A n c,fC A' n' c']] w (RetAut w a):=by
 have h1:n<=1048576:=by have:=h.n1;unfold Aut.size at hs;omega
 have h2:n'<=1048576:=by have:=h.n2;unfold Aut.size at hs;omega
 have g:∀ (k:Nat) (l:List Int),a.next[k]?=fU l->l.length<=1048576:=fun k l L=>by
  have h1:=zgh L;have h2:=zib a.next (k+1);unfold Aut.size at hs;omega
 have D:=za g;have F:=za h.n1;have hL':=za h.n2;have HS:=za (fun W (hW:Ext w W)=>h.1.ext hW);have Q:=za (fun W (hW:Ext w W)=>h.2.2.ext hW);have aa:=h.1.len;clear g h hs
 go_enter Tryz.func165,Tryz.ntmps165
 go_upto_region 1 with fail
 generalize U0:(w.alloc _).alloc _=w2 at *;obtain⟨o,E,bz⟩:=gU U0;have ae:w.heap.size+2=w2.heap.size:=by rw [<- U0];simp
 clear U0
 go_cut [3] (fun v wx=>∃ (G:Nat) (vA:Value),v=.pointer (fU G)/\Gra w2 wx G a.al (fC fV 0 0) [] vA a.acc)
 case first =>
  have c1:=fun W (hW:Ext w2 W)=>(E.ext hW).cell;have C:=cY w2;refine uR (fun X=>Ext w2 X) [8] (zy.app [0,1,3,4] (zy.two 2 (zy.two 5 (zy.of [6,7,8]) 7 (zy.of [5,6,8])) 7 (zy.of [2,5,6,8]))) ?_;refine uQ ?_;have hx0:Ext w2 w2.drew:=C.drew;generalize w2.drew=m at *;refine zn (fun K hK=>?_) (fun K hK=>?_)
  ·go_simp;have hm:=World.ownsRow_made (base:=w2.heap.size) (e:=4) (size:=1) m #[] 0 hx0.size (dF _) rfl;have f:=(cY m).alloc (.cells #[] 4);replace hx0:=hx0.trans f;refine hK.out _ _ hx0 ?_;generalize m.alloc _=t at *;generalize m.heap.size=M at *;refine pT ?_;refine uQ ?_;clear hK;refine zn (fun K hK=>?_) (fun K hK=>?_)
   ·skip;refine zx t _ _ 25 rfl w2.heap.size 4 _ 1 1 Tryz.underlying25 zaJ rfl dM (fC (fU M) 0 0) 0 [] rfl hm _ _ A' n' c' (zY a.acc) rfl (Q.out _ (o.trans hx0)) (zfG _) lM oM hx0.size ?_;intro vA w4 hownA hgA hatA;rw [dW,eI] at hownA;obtain⟨BA,dA,rfl⟩:=zh hownA;have hxA:Ext w2 w4:=hx0.grown hgA (fun k hk=>(hm.lt k hk).1);replace hx0:=hxA;refine hK.out _ _ hx0 ?_;refine pT ?_;refine uQ ?_;refine ze fun K hK=>?_;go_simp;have f:=(cY w4).alloc (.cells #[(0:Int),(),()] 27);have hG:=hx0.size;replace hownA:=zi hownA f;replace hx0:=hx0.trans f;refine hK.out _ _ hx0 ?_;generalize U0:w4.alloc _=p at *;have hb:=Ext.bl_ U0;clear U0;generalize w4.heap.size=G at *;refine pT ?_;refine uQ ?_;have cG:=hb.cell;have fG:=hb.frozen;refine zb fun K hK=>?_;go_simp;refine hK.out _ _ ?_;refine zg ?_;have zkk:Gra w2 (((p.setCell G a.al).setCell ⟨G,1,fV⟩ ()).setCell ⟨G,2,fV⟩ (fC BA n' dA)) G a.al (fC fV 0 0) [] (fC BA n' dA) a.acc:=⟨zah hb rfl _ _ _,⟨[],World.ownsRow_nil _ _ _ _,zB.nil _ _⟩,by
     rw [<- hL'.out];exact zf hownA (zV p G _ _ _) (fun b hv hS=>zq hownA hb dM hv hS),hx0.frm (zV p G _ _ _) (fun k hk e=>oM),hG⟩
    go_wp2_with fail
    go_meet;exact⟨G,_,rfl,zkk⟩
   ·go_simp;have f:=(cY t).alloc (.cells #[(0:Int),(),()] 27);have hG:=hx0.size;replace hm:=zi hm f;replace hx0:=hx0.trans f;refine hK.out _ _ hx0 ?_;generalize U0:t.alloc _=p at *;have hb:=Ext.bl_ U0;clear U0;generalize t.heap.size=G at *;refine pT ?_;refine uQ ?_;refine ze (fun K hK=>?_);refine zx p _ _ 25 rfl w2.heap.size 4 _ 1 1 Tryz.underlying25 zaJ rfl dM (fC (fU M) 0 0) 0 [] rfl hm _ _ A' n' c' (zY a.acc) rfl (Q.out _ (o.trans hx0)) (zfG _) lM oM hx0.size ?_;exact yW09a5
  ·go_simp;have f:=(cY m).alloc (.cells #[(0:Int),(),()] 27);have hG:=hx0.size;replace hx0:=hx0.trans f;refine hK.out _ _ hx0 ?_;generalize U0:m.alloc _=p at *;have hb:=Ext.bl_ U0;clear U0;generalize m.heap.size=G at *;refine pT ?_;refine uQ ?_;refine ze fun K hK=>?_;go_simp;have hm:=World.ownsRow_made (base:=w2.heap.size) (e:=4) (size:=1) p #[] 0 hx0.size (dF _) rfl;have f:=(cY p).alloc (.cells #[] 4);replace hb:=hb.ext f;replace hx0:=hx0.trans f;refine hK.out _ _ hx0 ?_;generalize p.alloc _=t at *;generalize p.heap.size=M at *;refine pT ?_;refine uQ ?_;refine ze (fun K hK=>?_);refine zx t _ _ 25 rfl w2.heap.size 4 _ 1 1 Tryz.underlying25 zaJ rfl dM (fC (fU M) 0 0) 0 [] rfl hm _ _ A' n' c' (zY a.acc) rfl (Q.out _ (o.trans hx0)) (zfG _) lM oM hx0.size ?_;exact yW09a5
 case rest =>
  obtain⟨G,vA,rfl,d⟩:=hcut;have O:=(E.ext d.ext).cell;go_wp2_with fail
  go_loopw [4] (fun i wr=>∃ (k:Nat) (v:Value),k<=n/\i=.int .i64 k/\Gra w2 wr G a.al v (a.next.take k) vA a.acc) (fun i _=>n - (intOf i).toNat)
  case atStart=>exact⟨0,_,dF _,rfl,by simpa using d⟩
  case round =>
   clear d O;obtain⟨k,v,hk,rfl,d⟩:=hrel
   by_cases hlt:k<n
   ·obtain⟨Y,V,Z,l,rfl,_,_,L,H,I⟩:=(HS.out wr (o.trans d.ext)).row hlt;have am:=D.out k l L.out;have S:=za (show a.next.take (k+1)=a.next.take k++[l] by rw [List.take_add_one,L.out];rfl);have J:=za (show (a.next.take k).length=k by rw [List.length_take];have:=F.out;omega);obtain⟨rows,hv,B⟩:=d.own;have O:=(E.ext d.ext).cell;go_upto_region 5 with fail
    clear O;have cG:=fun W (hW:Ext wr W)=>(d.blk.ext hW).cell;have C:=cY wr;have R:=za (fun W (hW:Ext wr W)=>I.ext hW);have C1:∀ W,Ext wr W->∀ q,W.cell? ⟨w.heap.size,q,fV⟩=#[Value.int .i64 a.al,fC (fU Y) n c,fC A' n' c'][q]?:=fun W hW=>((E.ext d.ext).ext hW).cell;have Cr:∀ W,Ext wr W->W.cell? (Y.add k)=fU (fC V l.length Z):=fun W hW=>hW.aa H;have ak:(k:Int)<(n:Int):=oM;clear H I;refine uR (fun X=>Ext wr X) [10,12] (zy.of [0,1,3,4,5,6,7,2,8,9,10,11,12]) ?_;refine uQ ?_;have hx0:Ext wr wr.drew:=C.drew;generalize wr.drew=m at *;refine ze fun K hK=>?_;go_simp;have hm:=World.ownsRow_made (base:=wr.heap.size) (e:=3) (size:=1) m #[] 0 hx0.size (dF _) rfl;have f:=(cY m).alloc (.cells #[] 3);replace hx0:=hx0.trans f;refine hK.out _ _ hx0 ?_;generalize m.alloc _=t at *;generalize m.heap.size=M at *;refine pT ?_;refine uQ ?_;refine ze (fun K hK=>?_);refine zx t _ _ 110 rfl wr.heap.size 3 _ 1 8 Tryz.underlying110 zS rfl dM (fC (fU M) 0 0) 0 [] rfl hm _ _ V l.length Z (ints l) rfl (R.out _ hx0) (zhc _) lM oM hx0.size ?_;intro vR w3 g hgR hatR;rw [dW,eI] at g;obtain⟨BR,dR,rfl⟩:=zh g;have j:Ext wr w3:=hx0.grown hgR (fun k hk=>(hm.lt k hk).1);refine hK.out _ _ j ?_;refine pT ?_;refine uQ ?_;refine ze fun K hK=>?_;go_simp;refine hK.out _ _ (j.alloc _) ?_;refine pT ?_;refine zb fun K hK=>?_;refine zaC w2 w3 _ _ _ rfl 110 _ 1 24 Tryz.underlying24 zbp rfl dM v (a.next.take k).length rows _ _ rfl rfl (d.ext.trans j).size (zi hv j) rfl (zaG _ _ _) (by unfold maxLen;have:=J.out;omega) (oH J.out) ?_;intro g5 cap5 w5 zkt hg5 hat5 hlt5;refine hK.out _ _ ?_;refine pT ?_;refine uQ ?_;obtain⟨p1,p2,p3⟩:=d.push B hv j g (W':=w5) zkt hg5 hat5;have ao:=p1.out;refine zb fun K hK=>?_;go_simp;refine hK.out _ _ ?_;refine zg ?_;go_wp2_with fail
    go_roundw
    case rel=>exact⟨k+1,_,oM,gM,by rw [S.out];first|exact p3|simpa using p3⟩
    case measure=>exact uM
   ·obtain rfl:n=k:=oM;obtain⟨r,s,rfl⟩:∃ r s,v=fC r n s:=by
     obtain⟨rows,hv,_⟩:=d.own;rw [dJ (oH F.out),<- F.out] at hv;exact zh hv
    obtain⟨u,x,rfl⟩:=zh d.acc;have O:=(E.ext d.ext).cell;have cG:=d.blk.cell;have y:=bz.ext d.ext;have cZ:=y.cell;have fZ:=y.frozen;have z:=zV wr (w.heap.size+1) (.int .i64 a.al) (fC r n s) (fC u a.acc.length x);have T:=zah y rfl (.int .i64 a.al) (fC r n s) (fC u a.acc.length x);have U:=(o.trans d.ext).frm z (fun k hk e=>oM);have zkk:=za (show RetAut w a (j5 (j2 #[a.al,fC r n s,fC u a.acc.length x])) (((wr.setCell ⟨w.heap.size+1,0,fV⟩ a.al).setCell ⟨w.heap.size+1,1,fV⟩ (fC r n s)).setCell ⟨w.heap.size+1,2,fV⟩ (fC u a.acc.length x)) from by
     refine⟨r,n,s,u,a.acc.length,x,rfl,⟨?_,F.out,?_,rfl⟩,U⟩
     ·have ho:=d.own;rw [dJ (oH F.out)] at ho;exact (ho.keep z (fun b h1 e=>oM)).less oM
     ·exact zm (zbw d.acc z (fun b h1 e=>oM)) oM)
    go_wp2_with fail
    generalize ((wr.setCell ⟨w.heap.size+1,0,fV⟩ a.al).setCell ⟨w.heap.size+1,1,fV⟩ (fC r n s)).setCell ⟨w.heap.size+1,2,fV⟩ (fC u a.acc.length x)=wf at *;have cf:=T.cell;exact bodyPost_ret (v:=j2 #[a.al,fC r n s,fC u a.acc.length x]) (by simp [results,Tryz.results165,go_sem,cf]) rfl zkk.out
theorem own_typ {e:TypeId}{size b:Nat}{xs:List Value}(h:w.ownsRow base e size v n xs)(hb:v.ownBlock=fU b):∃ cur,w.heap[b]?=fU (.cells cur e (0,0)):=by
 rcases h.2 with ⟨rfl,_⟩|⟨g,a,cur,rfl,_,c,_⟩
 ·simp [Value.ownBlock] at hb
 ·have:g=b:=by simpa [Value.ownBlock] using hb
  subst this;exact⟨cur,c⟩
theorem zac.frmT {S:Nat->Prop}(h:zac w base A n c A' n' c' a)(hb:Frm S w w')
  (hS:∀ k,S k->∀ cs t,w.heap[k]?=fU (.cells cs t (0,0))->t≠3/\t≠110/\t≠4):zac w' base A n c A' n' c' a:=by
 obtain⟨⟨rows,h1,f⟩,j,g,l⟩:=h;refine⟨⟨rows,zf h1 hb (fun b hv hs=>?_),f.frm hb (fun i r b hr hb hs=>?_)⟩,j,zf g hb (fun b hv hs=>?_),l⟩
 ·obtain⟨cs,d⟩:=own_typ h1 hv;exact (hS b hs cs _ d).2.1 rfl
 ·obtain⟨o,_,m⟩:=f.row hr;obtain⟨cs,d⟩:=own_typ m hb;exact (hS b hs cs _ d).1 rfl
 ·obtain⟨cs,d⟩:=own_typ g hv;exact (hS b hs cs _ d).2.2 rfl
theorem zac.ay {cs:Array Value}(h:zac w base A n c A' n' c' a)(hB:Blk w G t cs)(hf:Frm (fun k=>k=G) w w')(ht:t≠3/\t≠110/\t≠4):zac w' base A n c A' n' c' a:=
 h.frmT hf (fun k hk cs' t' hh=>by
  subst hk
  unfold Blk at hB
  rw [hB] at hh
  injection hh with hh
  injection hh with _ h2
  subst h2
  exact ht)
end Go.Proofs.YtckbjnndaaoddaaGreatDoor
