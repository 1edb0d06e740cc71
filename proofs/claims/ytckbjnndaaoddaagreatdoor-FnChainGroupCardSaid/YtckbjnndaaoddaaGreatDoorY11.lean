/- The referenc -/
import Derived.Test.YtckbjnndaaoddaaGreatDoorY10
set_option maxHeartbeats 4000000
set_option maxRecDepth 100000
namespace Go.Proofs.YtckbjnndaaoddaaGreatDoor
open Go Go.RowKit
open Bool renaming and_eq_true->eD,not_eq_true'->iR
open Ext renaming refl->dE
open Frm renaming setCell->eB
open List renaming extract_eq_take_drop->kI,getD_eq_getElem?_getD->eE,getElem?_append_left->eH,getElem?_eq_getElem->dH,getElem?_map->eM,mem_of_getElem?->dG,take_add_one->eG,take_append_of_le_length->jE,take_of_length_le->eF
open Nat renaming le_refl->dI,lt_or_eq_of_le->fC,testBit_and->iE
variable {C R:Option Addr} {L Z cc cr l nc nr q:Nat} {W w w1:World} {cols cs rows rs:List ByteArray} {f:ByteArray->Bool} {r x:ByteArray} {u v:Value}
theorem zal (a b:List ByteArray):zM (a++b)=zM a++zM b:=by simp [zM]
noncomputable def zgO (L:Nat) (cols:List ByteArray) (x:ByteArray):Bool:=(inB x L&&decide (x.size<=4000))&&(!zcS cols x&&decide (cols.length≠20))
theorem zfX (f:ByteArray->Bool) (cols:List ByteArray) (x y:ByteArray):zbF f (cols++[x]) y=zbF f cols y++[f (y++x)]:=by simp [zbF]
theorem zbX.addC (h:zbX L f rows cols)(ha:zgO L cols x=true):zbX L f rows (cols++[x]):=by
 unfold zgO at ha;simp only [eD,decide_eq_true_eq,iR] at ha;obtain⟨⟨h1,g⟩,d,l⟩:=ha;rw [zcp] at d;refine⟨h.r1,h.r12,sM,by have:=h.c20;simp;omega,h.r0,by rw [eH (oH h.c1)];exact h.c0,h.rw_,fun i y hi hy=>?_,?_⟩
 ·rcases Nat.lt_or_ge i cols.length with a|a
  ·rw [eH a] at hy;obtain⟨b,j,k⟩:=h.cw i y hi hy;exact⟨b,j,by rw [jE oM];exact k⟩
  ·rw [List.getElem?_append_right a] at hy;have c:i=cols.length:=by
    rcases Nat.eq_or_lt_of_le a with b|b
    ·exact b.symm
    ·rw [List.getElem?_eq_none (by simp;omega)] at hy;cases hy
   subst c;simp at hy;subst hy;exact⟨h1,g,by rw [jE (dI _),List.take_length];exact d⟩
 ·have a:=h.nd;rw [List.nodup_iff_pairwise_ne,List.pairwise_map] at a ⊢;refine a.imp fun hne e=>hne ?_;rw [zfX,zfX] at e;exact (List.append_inj' e rfl).1
def AddV (w:World) (Z:Nat) (rows cols:List ByteArray) (nr nc:Nat) (v:Value) (W:World):Prop:=
 ∃ (R:Option Addr) (cr:Nat) (C:Option Addr) (cc:Nat),v=.bool true∧Blk W Z 90 #[.slice R nr cr,.slice C nc cc] ∧
  W.ownsRow w.heap.size 9 1 (.slice R nr cr) nr (zM rows)∧W.ownsRow w.heap.size 9 1 (.slice C nc cc) nc (zM cols)∧Ext w W
theorem zba {g:Nat}  (ha:W.ownsRow w1.heap.size 9 1 (.slice R nr cr) nr (zM rows))(hc:W.ownsRow w1.heap.size 9 1 (.slice C nc cc) nc (zM cols))(hb:Blk W g 90 #[u,v])(hx:Ext w1 W)(hw:Ext w w1)(hg:w.heap.size<=g) :
  AddV w g rows cols nr nc (.bool true) ((W.setCell g (.slice R nr cr)).setCell ⟨g,1,none⟩ (.slice C nc cc)):=by
 have a:Frm (fun k=>k=g) W ((W.setCell g (.slice R nr cr)).setCell ⟨g,1,none⟩ (.slice C nc cc)):=(eB W g 0 _).trans (eB _ g 1 _);exact⟨R,cr,C,cc,rfl,by simpa using (hb.ab 0 _).ab 1 _,zq (zf ha a (fun b hv e=>zr ha hb dM hv e)) hw.size,zq (zf hc a (fun b hv e=>zr hc hb dM hv e)) hw.size,((hw.trans hx).setCell (p:=⟨g,0,none⟩) hg _).setCell (p:=⟨g,1,none⟩) hg _⟩
section
variable {w W:World} {n c m d m' d' L:Nat} {A B B':Option Addr} {s:Sys} {p:Aut} {nr nc cr cc:Nat} {R C:Option Addr} {rows cols:List ByteArray}
theorem yY11d1 {P:Prop}(h:P:=by
 refine ze (fun K hK=>?_);refine zx _ _ _ _ rfl w1.heap.size 9 _ 1 16 Tryz.underlying88 zt rfl dM (.slice Ac9 nc cc9) nc (zM cols) rfl zkn _ _ (some ⟨bo9,0,none⟩) 1 1 (zM [x]) rfl (Reads.af owno9) (zv _) lM oM hx35.size ?_;intro v9 v36 ownc8 hg hat;rw [← zal] at ownc8;obtain⟨Ac8,cc8,rfl⟩:=zi ownc8;have hx36:=hx35.grown hg (fun k hk=>(zkn.lt k hk).1);have zkm:=zf zkm (Frm.ae hg) (fun k hk hS=>hdis.out k hk hS);refine hK.out _ _ hx36 ?_;refine pT ?_;have zkn:=ownc8;refine uQ ?_;have bz:=b3.ext (hx01.trans hx36);have c6:=Blk.cell bz;have f6:=Blk.frozen bz;refine zb fun K hK=>?_;go_simp;refine hK.out _ _ ?_;refine pT ?_;refine uQ ?_;refine zg ?_;go_wp2_with fail
 go_meet;exact zba zkm zkn bz hx36 hx1 oM
 ):P:=h
theorem yY11c1 {P:Prop}(h:P:=by
 refine ze (fun K hK=>?_);refine zx _ _ _ _ rfl w1.heap.size 9 _ 1 16 Tryz.underlying88 zt rfl dM (.slice (some bc9) 0 0) 0 [] rfl zkn _ _ C nc cc (zM cols) rfl (HC1.out v34 hx34) (zv _) lM oM hx34.size ?_;intro v9 v35 ownc8 hg hat;rw [Nat.zero_add,List.nil_append] at ownc8;obtain⟨Ac9,cc9,rfl⟩:=zi ownc8;have hx35:=hx34.grown hg (fun k hk=>(zkn.lt k hk).1);have hsz:=hg.size;have hbs:Hid (v34.heap.size=v34.heap.size):=za rfl;have zkm:=zf zkm (Frm.ae hg) (fun k hk hS=>hrn_a_bc9.out k hk (by simpa [Value.ownBlock] using hS.symm));have owno9:=zf owno9 (Frm.ae hg) (fun k hk hS=>by simp [Value.ownBlock] at hk hS;exact hne_bc9_bo9.out (hS.trans hk.symm));have hdis0:Hid (∀ k,(Value.slice Ac9 nc cc9).ownBlock=some k->(Value.slice Aa9 nr ca9).ownBlock≠some k):=za (fun k hk hS=>by rcases hat with h1|h1;(rw [h1] at hk;simp [Value.ownBlock] at hk;exact hrn_a_bc9.out k hS hk.symm);(rw [h1] at hk;have:=Option.some.inj hk;have:=hrl_a.out k hS;omega))
 have hdis:Hid (∀ k,(Value.slice Aa9 nr ca9).ownBlock=some k->(Value.slice Ac9 nc cc9).ownBlock≠some k):=za (fun k hk hS=>hdis0.out k hS hk);generalize hbe:v34.heap.size=nc9 at *;have hne_ba9_nc9:Hid (ba9≠nc9):=za (oH zkj.out);have hne_bc9_nc9:Hid (bc9≠nc9):=za (oH zkk.out);have hne_bo9_nc9:Hid (bo9≠nc9):=za (oH zkl.out);have zkj:Hid (ba9<v35.heap.size):=za (oH zkj.out);have zkk:Hid (bc9<v35.heap.size):=za (oH zkk.out);have zkl:Hid (bo9<v35.heap.size):=za (oH zkl.out);have hrl_a:Hid (∀ k,(Value.slice Aa9 nr ca9).ownBlock=some k->k<v35.heap.size):=za (fun k hk=>(zkm.lt k hk).2);have hrn_c_bo9:Hid (∀ k,(Value.slice Ac9 nc cc9).ownBlock=some k->k≠bo9):=za (fun k hk=>by rcases hat with h1|h1;(rw [h1] at hk;simp [Value.ownBlock] at hk;rw [← hk];exact hne_bc9_bo9.out);(rw [h1] at hk;rw [← Option.some.inj hk];exact (Ne.symm hne_bo9_nc9.out)))
 have hrl_c:Hid (∀ k,(Value.slice Ac9 nc cc9).ownBlock=some k->k<v35.heap.size):=za (fun k hk=>(ownc8.lt k hk).2);clear hbs hsz hbe;refine hK.out _ _ hx35 ?_;refine pT ?_;have zkn:=ownc8;exact yY11d1
 ):P:=h
theorem yY11b1 {P:Prop}(h:P:=by
 clear hbs zkh hbe;refine ze (fun K hK=>?_);refine zx _ _ _ _ rfl w1.heap.size 9 _ 1 16 Tryz.underlying88 zt rfl dM (.slice (some ba9) 0 0) 0 [] rfl zkm _ _ R nr cr (zM rows) rfl (HR1.out v33 hx33) (zv _) lM oM hx33.size ?_;intro v9 v34 owna8 hg hat;rw [Nat.zero_add,List.nil_append] at owna8;obtain⟨Aa9,ca9,rfl⟩:=zi owna8;have hx34:=hx33.grown hg (fun k hk=>(zkm.lt k hk).1);have hsz:=hg.size;have hbs:Hid (v33.heap.size=v33.heap.size):=za rfl;have zkn:=zf zkn (Frm.ae hg) (fun k hk hS=>by simp [Value.ownBlock] at hk hS;exact zks.out (hS.trans hk.symm));have owno9:=zf owno9 (Frm.ae hg) (fun k hk hS=>by simp [Value.ownBlock] at hk hS;exact hne_ba9_bo9.out (hS.trans hk.symm));generalize hbe:v33.heap.size=na9 at *;have hne_ba9_na9:Hid (ba9≠na9):=za (oH zkj.out);have hne_bc9_na9:Hid (bc9≠na9):=za (oH zkk.out);have hne_bo9_na9:Hid (bo9≠na9):=za (oH zkl.out);have zkj:Hid (ba9<v34.heap.size):=za (oH zkj.out);have zkk:Hid (bc9<v34.heap.size):=za (oH zkk.out);have zkl:Hid (bo9<v34.heap.size):=za (oH zkl.out);have hrn_a_bc9:Hid (∀ k,(Value.slice Aa9 nr ca9).ownBlock=some k->k≠bc9):=za (fun k hk=>by rcases hat with h1|h1;(rw [h1] at hk;simp [Value.ownBlock] at hk;rw [← hk];exact zks.out);(rw [h1] at hk;rw [← Option.some.inj hk];exact (Ne.symm hne_bc9_na9.out)))
 have hrn_a_bo9:Hid (∀ k,(Value.slice Aa9 nr ca9).ownBlock=some k->k≠bo9):=za (fun k hk=>by rcases hat with h1|h1;(rw [h1] at hk;simp [Value.ownBlock] at hk;rw [← hk];exact hne_ba9_bo9.out);(rw [h1] at hk;rw [← Option.some.inj hk];exact (Ne.symm hne_bo9_na9.out)))
 have hrl_a:Hid (∀ k,(Value.slice Aa9 nr ca9).ownBlock=some k->k<v34.heap.size):=za (fun k hk=>(owna8.lt k hk).2);clear hbs hsz hbe;refine hK.out _ _ hx34 ?_;refine pT ?_;have zkm:=owna8;exact yY11c1
 ):P:=h
theorem yY11b2 {P:Prop}(h:P:=by
 skip;refine zx _ _ _ _ rfl w1.heap.size 9 _ 1 16 Tryz.underlying88 zt rfl dM (.slice (some bc9) 0 0) 0 [] rfl zkn _ _ C nc cc (zM cols) rfl (HC1.out v33 hx33) (zv _) lM oM hx33.size ?_;intro v9 v34 ownc8 hg hat;rw [Nat.zero_add,List.nil_append] at ownc8;obtain⟨Ac9,cc9,rfl⟩:=zi ownc8;have hx34:=hx33.grown hg (fun k hk=>(zkn.lt k hk).1);have hsz:=hg.size;have hbs:Hid (v33.heap.size=v33.heap.size):=za rfl;have zkm:=zf zkm (Frm.ae hg) (fun k hk hS=>hrn_a_bc9.out k hk (by simpa [Value.ownBlock] using hS.symm));have hdis0:Hid (∀ k,(Value.slice Ac9 nc cc9).ownBlock=some k->(Value.slice Aa9 nr ca9).ownBlock≠some k):=za (fun k hk hS=>by rcases hat with h1|h1;(rw [h1] at hk;simp [Value.ownBlock] at hk;exact hrn_a_bc9.out k hS hk.symm);(rw [h1] at hk;have:=Option.some.inj hk;have:=hrl_a.out k hS;omega))
 have hdis:Hid (∀ k,(Value.slice Aa9 nr ca9).ownBlock=some k->(Value.slice Ac9 nc cc9).ownBlock≠some k):=za (fun k hk hS=>hdis0.out k hS hk);generalize hbe:v33.heap.size=nc9 at *;have hne_ba9_nc9:Hid (ba9≠nc9):=za (oH zkj.out);have hne_bc9_nc9:Hid (bc9≠nc9):=za (oH zkk.out);have zkj:Hid (ba9<v34.heap.size):=za (oH zkj.out);have zkk:Hid (bc9<v34.heap.size):=za (oH zkk.out);have hrl_a:Hid (∀ k,(Value.slice Aa9 nr ca9).ownBlock=some k->k<v34.heap.size):=za (fun k hk=>(zkm.lt k hk).2);have hrl_c:Hid (∀ k,(Value.slice Ac9 nc cc9).ownBlock=some k->k<v34.heap.size):=za (fun k hk=>(ownc8.lt k hk).2);clear hbs hsz hbe;refine hK.out _ _ hx34 ?_;refine pT ?_;have zkn:=ownc8;refine ze fun K hK=>?_;go_simp;have hx35:=hx34.alloc (.cells #[x] 9);have owno9:=zq (World.ownsRow_lit v34 (e:=9) (size:=1) #[x] 1 (Nat.le_refl _) lM rfl) hx34.size;have zkh:=(Ext.refl v34).alloc (.cells #[x] 9);refine hK.out _ _ hx35 ?_;refine pT ?_;have zkm:=zh zkm zkh;have zkn:=zh zkn zkh;have hbs:v34.heap.size<(v34.alloc (.cells #[x] 9)).heap.size:=sM;generalize hbe:v34.heap.size=bo9 at *;generalize v34.alloc _=v35 at *;have hne_ba9_bo9:Hid (ba9≠bo9):=za (oH zkj.out);have hne_bc9_bo9:Hid (bc9≠bo9):=za (oH zkk.out);have zkj:Hid (ba9<v35.heap.size):=za (oH zkj.out);have zkk:Hid (bc9<v35.heap.size):=za (oH zkk.out);have hrl_a:Hid (∀ k,(Value.slice Aa9 nr ca9).ownBlock=some k->k<v35.heap.size):=za (fun k hk=>(zkm.lt k hk).2);have hrl_c:Hid (∀ k,(Value.slice Ac9 nc cc9).ownBlock=some k->k<v35.heap.size):=za (fun k hk=>(zkn.lt k hk).2);have zkl:Hid (bo9<v35.heap.size):=za hbs;clear hbs zkh hbe;exact yY11d1
 ):P:=h
theorem yY11b3 {P:Prop}(h:P:=by
 clear hbs zkh hbe;exact yY11c1
 ):P:=h
theorem yY11a1 {P:Prop}(h:P:=by
 clear hbs zkh hbe;refine zm (fun K hK=>?_) (fun K hK=>?_)
 ·skip;refine zx _ _ _ _ rfl w1.heap.size 9 _ 1 16 Tryz.underlying88 zt rfl dM (.slice (some ba9) 0 0) 0 [] rfl zkm _ _ R nr cr (zM rows) rfl (HR1.out v32 hx32) (zv _) lM oM hx32.size ?_;intro v9 v33 owna8 hg hat;rw [Nat.zero_add,List.nil_append] at owna8;obtain⟨Aa9,ca9,rfl⟩:=zi owna8;have hx33:=hx32.grown hg (fun k hk=>(zkm.lt k hk).1);have hsz:=hg.size;have hbs:Hid (v32.heap.size=v32.heap.size):=za rfl;have zkn:=zf zkn (Frm.ae hg) (fun k hk hS=>by simp [Value.ownBlock] at hk hS;exact zks.out (hS.trans hk.symm));generalize hbe:v32.heap.size=na9 at *;have hne_ba9_na9:Hid (ba9≠na9):=za (oH zkj.out);have hne_bc9_na9:Hid (bc9≠na9):=za (oH zkk.out);have zkj:Hid (ba9<v33.heap.size):=za (oH zkj.out);have zkk:Hid (bc9<v33.heap.size):=za (oH zkk.out);have hrn_a_bc9:Hid (∀ k,(Value.slice Aa9 nr ca9).ownBlock=some k->k≠bc9):=za (fun k hk=>by rcases hat with h1|h1;(rw [h1] at hk;simp [Value.ownBlock] at hk;rw [← hk];exact zks.out);(rw [h1] at hk;rw [← Option.some.inj hk];exact (Ne.symm hne_bc9_na9.out)))
  have hrl_a:Hid (∀ k,(Value.slice Aa9 nr ca9).ownBlock=some k->k<v33.heap.size):=za (fun k hk=>(owna8.lt k hk).2);clear hbs hsz hbe;refine hK.out _ _ hx33 ?_;refine pT ?_;have zkm:=owna8;refine zm (fun K hK=>?_) (fun K hK=>?_)
  ·exact yY11b2
  ·go_simp;have hx34:=hx33.alloc (.cells #[x] 9);have owno9:=zq (World.ownsRow_lit v33 (e:=9) (size:=1) #[x] 1 (Nat.le_refl _) lM rfl) hx33.size;have zkh:=(Ext.refl v33).alloc (.cells #[x] 9);refine hK.out _ _ hx34 ?_;refine pT ?_;have zkm:=zh zkm zkh;have zkn:=zh zkn zkh;have hbs:v33.heap.size<(v33.alloc (.cells #[x] 9)).heap.size:=sM;generalize hbe:v33.heap.size=bo9 at *;generalize v33.alloc _=v34 at *;have hne_ba9_bo9:Hid (ba9≠bo9):=za (oH zkj.out);have hne_bc9_bo9:Hid (bc9≠bo9):=za (oH zkk.out);have zkj:Hid (ba9<v34.heap.size):=za (oH zkj.out);have zkk:Hid (bc9<v34.heap.size):=za (oH zkk.out);have hrl_a:Hid (∀ k,(Value.slice Aa9 nr ca9).ownBlock=some k->k<v34.heap.size):=za (fun k hk=>(zkm.lt k hk).2);have zkl:Hid (bo9<v34.heap.size):=za hbs;exact yY11b3
 ·go_simp;have hx33:=hx32.alloc (.cells #[x] 9);have owno9:=zq (World.ownsRow_lit v32 (e:=9) (size:=1) #[x] 1 (Nat.le_refl _) lM rfl) hx32.size;have zkh:=(Ext.refl v32).alloc (.cells #[x] 9);refine hK.out _ _ hx33 ?_;refine pT ?_;have zkm:=zh zkm zkh;have zkn:=zh zkn zkh;have hbs:v32.heap.size<(v32.alloc (.cells #[x] 9)).heap.size:=sM;generalize hbe:v32.heap.size=bo9 at *;generalize v32.alloc _=v33 at *;have hne_ba9_bo9:Hid (ba9≠bo9):=za (oH zkj.out);have hne_bc9_bo9:Hid (bc9≠bo9):=za (oH zkk.out);have zkj:Hid (ba9<v33.heap.size):=za (oH zkj.out);have zkk:Hid (bc9<v33.heap.size):=za (oH zkk.out);have zkl:Hid (bo9<v33.heap.size):=za hbs;exact yY11b1
 ):P:=h
theorem yY11a2 {P:Prop}(h:P:=by
 clear hbs zkh hbe;refine zm (fun K hK=>?_) (fun K hK=>?_)
 ·skip;refine zx _ _ _ _ rfl w1.heap.size 9 _ 1 16 Tryz.underlying88 zt rfl dM (.slice (some ba9) 0 0) 0 [] rfl zkm _ _ R nr cr (zM rows) rfl (HR1.out v32 hx32) (zv _) lM oM hx32.size ?_;intro v9 v33 owna8 hg hat;rw [Nat.zero_add,List.nil_append] at owna8;obtain⟨Aa9,ca9,rfl⟩:=zi owna8;have hx33:=hx32.grown hg (fun k hk=>(zkm.lt k hk).1);have hsz:=hg.size;have hbs:Hid (v32.heap.size=v32.heap.size):=za rfl;have owno9:=zf owno9 (Frm.ae hg) (fun k hk hS=>by simp [Value.ownBlock] at hk hS;exact hne_ba9_bo9.out (hS.trans hk.symm));generalize hbe:v32.heap.size=na9 at *;have hne_ba9_na9:Hid (ba9≠na9):=za (oH zkj.out);have hne_bo9_na9:Hid (bo9≠na9):=za (oH zkl.out);have zkj:Hid (ba9<v33.heap.size):=za (oH zkj.out);have zkl:Hid (bo9<v33.heap.size):=za (oH zkl.out);have hrn_a_bo9:Hid (∀ k,(Value.slice Aa9 nr ca9).ownBlock=some k->k≠bo9):=za (fun k hk=>by rcases hat with h1|h1;(rw [h1] at hk;simp [Value.ownBlock] at hk;rw [← hk];exact hne_ba9_bo9.out);(rw [h1] at hk;rw [← Option.some.inj hk];exact (Ne.symm hne_bo9_na9.out)))
  have hrl_a:Hid (∀ k,(Value.slice Aa9 nr ca9).ownBlock=some k->k<v33.heap.size):=za (fun k hk=>(owna8.lt k hk).2);clear hbs hsz hbe;refine hK.out _ _ hx33 ?_;refine pT ?_;have zkm:=owna8;refine ze fun K hK=>?_;go_simp;have hx34:=hx33.alloc (.cells #[] 9);have zkn:=zq (World.ownsRow_lit v33 (e:=9) (size:=1) #[] 0 (Nat.le_refl _) lM rfl) hx33.size;have zkh:=(Ext.refl v33).alloc (.cells #[] 9);refine hK.out _ _ hx34 ?_;refine pT ?_;have zkm:=zh zkm zkh;have owno9:=zh owno9 zkh;have hbs:v33.heap.size<(v33.alloc (.cells #[] 9)).heap.size:=sM;generalize hbe:v33.heap.size=bc9 at *;generalize v33.alloc _=v34 at *;have zks:Hid (ba9≠bc9):=za (oH zkj.out);have hne_bc9_bo9:Hid (bc9≠bo9):=za (oH zkl.out);have hrn_a_bc9:Hid (∀ k,(Value.slice Aa9 nr ca9).ownBlock=some k->k≠bc9):=za (fun k hk=>by have:=hrl_a.out k hk;omega);have zkj:Hid (ba9<v34.heap.size):=za (oH zkj.out);have zkl:Hid (bo9<v34.heap.size):=za (oH zkl.out);have hrl_a:Hid (∀ k,(Value.slice Aa9 nr ca9).ownBlock=some k->k<v34.heap.size):=za (fun k hk=>(zkm.lt k hk).2);have zkk:Hid (bc9<v34.heap.size):=za hbs;exact yY11b3
 ·go_simp;have hx33:=hx32.alloc (.cells #[] 9);have zkn:=zq (World.ownsRow_lit v32 (e:=9) (size:=1) #[] 0 (Nat.le_refl _) lM rfl) hx32.size;have zkh:=(Ext.refl v32).alloc (.cells #[] 9);refine hK.out _ _ hx33 ?_;refine pT ?_;have zkm:=zh zkm zkh;have owno9:=zh owno9 zkh;have hbs:v32.heap.size<(v32.alloc (.cells #[] 9)).heap.size:=sM;generalize hbe:v32.heap.size=bc9 at *;generalize v32.alloc _=v33 at *;have zks:Hid (ba9≠bc9):=za (oH zkj.out);have hne_bc9_bo9:Hid (bc9≠bo9):=za (oH zkl.out);have zkj:Hid (ba9<v33.heap.size):=za (oH zkj.out);have zkl:Hid (bo9<v33.heap.size):=za (oH zkl.out);have zkk:Hid (bc9<v33.heap.size):=za hbs;exact yY11b1
 ):P:=h
theorem yY11a3 {P:Prop}(h:P:=by
 clear hbs zkh hbe;refine ze fun K hK=>?_;go_simp;have hx33:=hx32.alloc (.cells #[] 9);have zkm:=zq (World.ownsRow_lit v32 (e:=9) (size:=1) #[] 0 (Nat.le_refl _) lM rfl) hx32.size;have zkh:=(Ext.refl v32).alloc (.cells #[] 9);refine hK.out _ _ hx33 ?_;refine pT ?_;have zkn:=zh zkn zkh;have owno9:=zh owno9 zkh;have hbs:v32.heap.size<(v32.alloc (.cells #[] 9)).heap.size:=sM;generalize hbe:v32.heap.size=ba9 at *;generalize v32.alloc _=v33 at *;have zks:Hid (ba9≠bc9):=za (oH zkk.out);have hne_ba9_bo9:Hid (ba9≠bo9):=za (oH zkl.out);have zkk:Hid (bc9<v33.heap.size):=za (oH zkk.out);have zkl:Hid (bo9<v33.heap.size):=za (oH zkl.out);have zkj:Hid (ba9<v33.heap.size):=za hbs;exact yY11b1
 ):P:=h
theorem yY11a4 {P:Prop}(h:P:=by
 exact yY11b3
 ):P:=h
theorem yY11a5 {P:Prop}(h:P:=by
 clear hgo
 go_enter Tryz.func152,Tryz.ntmps152
 go_upto_region 1 with fail
 generalize ((w.alloc _).alloc _).alloc _=w0 at *;have CB:=b1.cells;have CT:=b2.cells;have hb3:=b3.lt;have hww:=Ext.refl w0;go_upto_region 2 with (first
  |(go_at_call 211;refine (HV.out _ hx0).mono (mQ fun wa hxa=>?_))
  |(go_at_call 226;refine (HWd.out _ (hx0.trans hxa)).mono (mQ fun w1 hxb=>?_);have hx01:=hxa.trans hxb)
  |(go_at_call 228;refine (HIn.out _ (hx0.trans hx01)).mono ?_;rintro e wc ⟨rfl,rfl⟩))
 have bz:=b3.ext hx01;have kz:=bz.cell;have fz:=bz.frozen;have cf:=(show Blk ((w1.setCell ⟨w.heap.size+1+1,0,none⟩ ()).setCell ⟨w.heap.size+1+1,1,none⟩ ()) (w.heap.size+1+1) 90 #[(),()] by simpa using (bz.ab 0 (.slice none 0 0)).ab 1 (.slice none 0 0)).cell;have hret:=za (show zcJ w none (.returned (.tuple #[.agg #[(),()],.bool false])) ((w1.setCell ⟨w.heap.size+1+1,0,none⟩ ()).setCell ⟨w.heap.size+1+1,1,none⟩ ()) from
  ⟨((hx0.trans hx01).setCell (p:=⟨w.heap.size+1+1,0,none⟩) (by dsimp only;omega) _).setCell (p:=⟨w.heap.size+1+1,1,none⟩) (by dsimp only;omega) _,.inl ⟨rfl,rfl⟩⟩)
 go_wp2_with fail
 exact bodyPost_ret (v:=.tuple #[.agg #[(),()],.bool false]) (by simp [results,Tryz.results152,go_sem,cf]) rfl hret.out
 ):P:=h
theorem ziw (h:Tch w A n B m B' m' s p L)(hT:TabAt w R nr C nc rows cols)(hI:zbX L (zo s p L) rows cols)(hcr:nr<=cr)(hcc:nc<=cc)(hx:x.size<=9223372036854775807) :
  Calls Tryz.prog 152 #[.agg #[.bool false,(0:Int),(),(),s.al,s.st,.slice A n c,p.al,.slice B m d,.slice B' m' d',L],.agg #[.slice R nr cr,.slice C nc cc],x] w (zcJ w (if zgO L cols x=true then some (rows,cols++[x]) else none)):=by
 obtain⟨Q,J⟩:=hT.nr;have D:=hI.r12;have z:=hI.c20;rw [Q] at D;rw [J] at z;have HV:=za (fun W (hW:Ext w W)=>zch (c:=c) (d:=d) (d':=d') (h.ext hW) (hT.ext hW) hI hcr hcc);have HWd:=za (fun W (hW:Ext w W)=>zgL (c:=c) (d:=d) (d':=d') (h.ext hW) hx);obtain⟨lo,hi,aa,Y,h1,S⟩:=hT;have V:=za (fun W (hW:Ext w W)=>h1.ext hW);have O:=za (fun W (hW:Ext w W)=>S.ext hW);have f:=za (show zgO L cols x=((inB x L&&decide (x.size<=4000))&&(!zcS cols x&&decide (nc≠20))) by unfold zgO;rw [J]);have hx0:Ext w (((w.alloc (.cells #[.bool false,(0:Int),(),(),s.al,s.st,.slice A n c,p.al,.slice B m d,.slice B' m' d',L] 87)).alloc (.cells #[.slice R nr cr,.slice C nc cc] 90)).alloc (.cells #[(),()] 90)):=(((dE _).alloc _).alloc _).alloc _;obtain⟨b1,b2,b3⟩:=zU (dE (((w.alloc (.cells #[.bool false,(0:Int),(),(),s.al,s.st,.slice A n c,p.al,.slice B m d,.slice B' m' d',L] 87)).alloc (.cells #[.slice R nr cr,.slice C nc cc] 90)).alloc (.cells #[(),()] 90)));clear h h1 S hI Q J;obtain⟨F,t⟩:∃ F,Hid (zgO L cols x=F):=⟨_,rfl⟩;rw [t.out] at f ⊢;obtain⟨G,u⟩:∃ G,Hid ((inB x L&&decide (x.size<=4000))=G):=⟨_,rfl⟩;rw [u.out] at HWd f;obtain⟨E,i⟩:∃ E,Hid (zcS cols x=E):=⟨_,rfl⟩;rw [i.out] at f;have HIn:=za (fun W (hW:Ext w W)=>zdT (c:=cc) (x:=x) (O.out W hW));rw [i.out] at HIn
 by_cases hgo:G=true∧E=false∧nc≠20
 ·obtain⟨rfl,rfl,r⟩:=hgo;have l:=za (show F=true by rw [f.out];simpa using r);rw [l.out,if_pos rfl];have T:((nc:Int)==20)=false:=by simp;omega
  clear r f t l u i
  go_enter Tryz.func152,Tryz.ntmps152
  go_upto_region 1 with fail
  generalize ((w.alloc _).alloc _).alloc _=w0 at *;have CB:=b1.cells;have CT:=b2.cells;have hb3:=b3.lt;have hww:=dE w0;go_upto_region 3 with (first
   |(go_at_call 211;refine (HV.out _ hx0).mono (mQ fun wa hxa=>?_))
   |(go_at_call 226;refine (HWd.out _ (hx0.trans hxa)).mono (mQ fun w1 hxb=>?_);have hx01:=hxa.trans hxb)
   |(go_at_call 228;refine (HIn.out _ (hx0.trans hx01)).mono ?_;rintro e wc ⟨rfl,rfl⟩))
  have hx1:=hx0.trans hx01;have Z:=hx01.size;have HR1:=za (fun W (hW:Ext w1 W)=>V.out W (hx1.trans hW));have HC1:=za (fun W (hW:Ext w1 W)=>O.out W (hx1.trans hW));have U:=fun W (hW:Ext w1 W)=>CT W (hx01.trans hW)
  go_cut [7] (fun v wx=>AddV w (w.heap.size+1+1) rows (cols++[x]) nr (nc+1) v wx)
  case first =>
   clear CB CT hww HV HWd HIn hxa hxb;have y:Ext w1 w1.drew:=(dE w1).drew;refine uR (fun X=>Ext w1 X) [12] (zw.app [1,2,5,6,8] (zw.three 0 (zw.three 3 (zw.two 4 (zw.two 7 (zw.of [9,10,11,12,13]) 9 (zw.of [7,10,11,12,13])) 9 (zw.of [4,7,10,11,12,13])) 4 (zw.two 3 (zw.two 7 (zw.of [9,10,11,12,13]) 9 (zw.of [7,10,11,12,13])) 9 (zw.of [3,7,10,11,12,13])) 9 (zw.two 3 (zw.of [4,7,10,11,12,13]) 4 (zw.of [3,7,10,11,12,13]))) 4 (zw.two 0 (zw.two 3 (zw.two 7 (zw.of [9,10,11,12,13]) 9 (zw.of [7,10,11,12,13])) 9 (zw.of [3,7,10,11,12,13])) 9 (zw.of [0,3,7,10,11,12,13])) 9 (zw.two 0 (zw.two 3 (zw.of [4,7,10,11,12,13]) 4 (zw.of [3,7,10,11,12,13])) 4 (zw.of [0,3,7,10,11,12,13])))) ?_;generalize w1.drew=g at *;refine uQ ?_;refine zaL (fun K hK=>?_) (fun K hK=>?_) (fun K hK=>?_)
   ·go_simp;have b:=y.alloc (.cells #[] 9);have zkm:=zq (World.ownsRow_lit g (e:=9) (size:=1) #[] 0 (dI _) lM rfl) y.size;have zkh:=(dE g).alloc (.cells #[] 9);refine hK.out _ _ b ?_;refine pT ?_;have hbs:g.heap.size<(g.alloc (.cells #[] 9)).heap.size:=sM;generalize hbe:g.heap.size=ba9 at *;generalize g.alloc _=a at *;have zkj:Hid (ba9<a.heap.size):=za hbs;clear hbs zkh hbe;refine zaL (fun K hK=>?_) (fun K hK=>?_) (fun K hK=>?_)
    ·skip;refine zx _ _ _ _ rfl w1.heap.size 9 _ 1 16 Tryz.underlying88 zt rfl dM (.slice (some ba9) 0 0) 0 [] rfl zkm _ _ R nr cr (zM rows) rfl (HR1.out a b) (zv _) lM oM b.size ?_;intro v9 v32 owna8 hg hat;rw [Nat.zero_add,List.nil_append] at owna8;obtain⟨Aa9,ca9,rfl⟩:=zi owna8;have hx32:=b.grown hg (fun k hk=>(zkm.lt k hk).1);have hsz:=hg.size;have hbs:Hid (a.heap.size=a.heap.size):=za rfl;generalize hbe:a.heap.size=na9 at *;have hne_ba9_na9:Hid (ba9≠na9):=za (oH zkj.out);have zkj:Hid (ba9<v32.heap.size):=za (oH zkj.out);have hrl_a:Hid (∀ k,(Value.slice Aa9 nr ca9).ownBlock=some k->k<v32.heap.size):=za (fun k hk=>(owna8.lt k hk).2);clear hbs hsz hbe;refine hK.out _ _ hx32 ?_;refine pT ?_;have zkm:=owna8;refine zm (fun K hK=>?_) (fun K hK=>?_)
     ·go_simp;have hx33:=hx32.alloc (.cells #[] 9);have zkn:=zq (World.ownsRow_lit v32 (e:=9) (size:=1) #[] 0 (dI _) lM rfl) hx32.size;have zkh:=(dE v32).alloc (.cells #[] 9);refine hK.out _ _ hx33 ?_;refine pT ?_;have zkm:=zh zkm zkh;have hbs:v32.heap.size<(v32.alloc (.cells #[] 9)).heap.size:=sM;generalize hbe:v32.heap.size=bc9 at *;generalize v32.alloc _=v33 at *;have zks:Hid (ba9≠bc9):=za (oH zkj.out);have hrn_a_bc9:Hid (∀ k,(Value.slice Aa9 nr ca9).ownBlock=some k->k≠bc9):=za (fun k hk=>by have:=hrl_a.out k hk;omega);have zkj:Hid (ba9<v33.heap.size):=za (oH zkj.out);have hrl_a:Hid (∀ k,(Value.slice Aa9 nr ca9).ownBlock=some k->k<v33.heap.size):=za (fun k hk=>(zkm.lt k hk).2);have zkk:Hid (bc9<v33.heap.size):=za hbs;clear hbs zkh hbe;refine zm (fun K hK=>?_) (fun K hK=>?_)
      ·exact yY11b2
      ·go_simp;have hx34:=hx33.alloc (.cells #[x] 9);have owno9:=zq (World.ownsRow_lit v33 (e:=9) (size:=1) #[x] 1 (dI _) lM rfl) hx33.size;have zkh:=(dE v33).alloc (.cells #[x] 9);refine hK.out _ _ hx34 ?_;refine pT ?_;have zkm:=zh zkm zkh;have zkn:=zh zkn zkh;have hbs:v33.heap.size<(v33.alloc (.cells #[x] 9)).heap.size:=sM;generalize hbe:v33.heap.size=bo9 at *;generalize v33.alloc _=v34 at *;have hne_ba9_bo9:Hid (ba9≠bo9):=za (oH zkj.out);have hne_bc9_bo9:Hid (bc9≠bo9):=za (oH zkk.out);have zkj:Hid (ba9<v34.heap.size):=za (oH zkj.out);have zkk:Hid (bc9<v34.heap.size):=za (oH zkk.out);have hrl_a:Hid (∀ k,(Value.slice Aa9 nr ca9).ownBlock=some k->k<v34.heap.size):=za (fun k hk=>(zkm.lt k hk).2);have zkl:Hid (bo9<v34.heap.size):=za hbs;exact yY11a4
     ·go_simp;have hx33:=hx32.alloc (.cells #[x] 9);have owno9:=zq (World.ownsRow_lit v32 (e:=9) (size:=1) #[x] 1 (dI _) lM rfl) hx32.size;have zkh:=(dE v32).alloc (.cells #[x] 9);refine hK.out _ _ hx33 ?_;refine pT ?_;have zkm:=zh zkm zkh;have hbs:v32.heap.size<(v32.alloc (.cells #[x] 9)).heap.size:=sM;generalize hbe:v32.heap.size=bo9 at *;generalize v32.alloc _=v33 at *;have hne_ba9_bo9:Hid (ba9≠bo9):=za (oH zkj.out);have zkj:Hid (ba9<v33.heap.size):=za (oH zkj.out);have hrl_a:Hid (∀ k,(Value.slice Aa9 nr ca9).ownBlock=some k->k<v33.heap.size):=za (fun k hk=>(zkm.lt k hk).2);have zkl:Hid (bo9<v33.heap.size):=za hbs;clear hbs zkh hbe;refine ze fun K hK=>?_;go_simp;have hx34:=hx33.alloc (.cells #[] 9);have zkn:=zq (World.ownsRow_lit v33 (e:=9) (size:=1) #[] 0 (dI _) lM rfl) hx33.size;have zkh:=(dE v33).alloc (.cells #[] 9);refine hK.out _ _ hx34 ?_;refine pT ?_;have zkm:=zh zkm zkh;have owno9:=zh owno9 zkh;have hbs:v33.heap.size<(v33.alloc (.cells #[] 9)).heap.size:=sM;generalize hbe:v33.heap.size=bc9 at *;generalize v33.alloc _=v34 at *;have zks:Hid (ba9≠bc9):=za (oH zkj.out);have hne_bc9_bo9:Hid (bc9≠bo9):=za (oH zkl.out);have hrn_a_bc9:Hid (∀ k,(Value.slice Aa9 nr ca9).ownBlock=some k->k≠bc9):=za (fun k hk=>by have:=hrl_a.out k hk;omega);have zkj:Hid (ba9<v34.heap.size):=za (oH zkj.out);have zkl:Hid (bo9<v34.heap.size):=za (oH zkl.out);have hrl_a:Hid (∀ k,(Value.slice Aa9 nr ca9).ownBlock=some k->k<v34.heap.size):=za (fun k hk=>(zkm.lt k hk).2);have zkk:Hid (bc9<v34.heap.size):=za hbs;exact yY11a4
    ·go_simp;have hx32:=b.alloc (.cells #[] 9);have zkn:=zq (World.ownsRow_lit a (e:=9) (size:=1) #[] 0 (dI _) lM rfl) b.size;have zkh:=(dE a).alloc (.cells #[] 9);refine hK.out _ _ hx32 ?_;refine pT ?_;have zkm:=zh zkm zkh;have hbs:a.heap.size<(a.alloc (.cells #[] 9)).heap.size:=sM;generalize hbe:a.heap.size=bc9 at *;generalize a.alloc _=v32 at *;have zks:Hid (ba9≠bc9):=za (oH zkj.out);have zkj:Hid (ba9<v32.heap.size):=za (oH zkj.out);have zkk:Hid (bc9<v32.heap.size):=za hbs;exact yY11a1
    ·go_simp;have hx32:=b.alloc (.cells #[x] 9);have owno9:=zq (World.ownsRow_lit a (e:=9) (size:=1) #[x] 1 (dI _) lM rfl) b.size;have zkh:=(dE a).alloc (.cells #[x] 9);refine hK.out _ _ hx32 ?_;refine pT ?_;have zkm:=zh zkm zkh;have hbs:a.heap.size<(a.alloc (.cells #[x] 9)).heap.size:=sM;generalize hbe:a.heap.size=bo9 at *;generalize a.alloc _=v32 at *;have hne_ba9_bo9:Hid (ba9≠bo9):=za (oH zkj.out);have zkj:Hid (ba9<v32.heap.size):=za (oH zkj.out);have zkl:Hid (bo9<v32.heap.size):=za hbs;exact yY11a2
   ·go_simp;have b:=y.alloc (.cells #[] 9);have zkn:=zq (World.ownsRow_lit g (e:=9) (size:=1) #[] 0 (dI _) lM rfl) y.size;have zkh:=(dE g).alloc (.cells #[] 9);refine hK.out _ _ b ?_;refine pT ?_;have hbs:g.heap.size<(g.alloc (.cells #[] 9)).heap.size:=sM;generalize hbe:g.heap.size=bc9 at *;generalize g.alloc _=a at *;have zkk:Hid (bc9<a.heap.size):=za hbs;clear hbs zkh hbe;refine zm (fun K hK=>?_) (fun K hK=>?_)
    ·go_simp;have hx32:=b.alloc (.cells #[] 9);have zkm:=zq (World.ownsRow_lit a (e:=9) (size:=1) #[] 0 (dI _) lM rfl) b.size;have zkh:=(dE a).alloc (.cells #[] 9);refine hK.out _ _ hx32 ?_;refine pT ?_;have zkn:=zh zkn zkh;have hbs:a.heap.size<(a.alloc (.cells #[] 9)).heap.size:=sM;generalize hbe:a.heap.size=ba9 at *;generalize a.alloc _=v32 at *;have zks:Hid (ba9≠bc9):=za (oH zkk.out);have zkk:Hid (bc9<v32.heap.size):=za (oH zkk.out);have zkj:Hid (ba9<v32.heap.size):=za hbs;exact yY11a1
    ·go_simp;have hx32:=b.alloc (.cells #[x] 9);have owno9:=zq (World.ownsRow_lit a (e:=9) (size:=1) #[x] 1 (dI _) lM rfl) b.size;have zkh:=(dE a).alloc (.cells #[x] 9);refine hK.out _ _ hx32 ?_;refine pT ?_;have zkn:=zh zkn zkh;have hbs:a.heap.size<(a.alloc (.cells #[x] 9)).heap.size:=sM;generalize hbe:a.heap.size=bo9 at *;generalize a.alloc _=v32 at *;have hne_bc9_bo9:Hid (bc9≠bo9):=za (oH zkk.out);have zkk:Hid (bc9<v32.heap.size):=za (oH zkk.out);have zkl:Hid (bo9<v32.heap.size):=za hbs;exact yY11a3
   ·go_simp;have b:=y.alloc (.cells #[x] 9);have owno9:=zq (World.ownsRow_lit g (e:=9) (size:=1) #[x] 1 (dI _) lM rfl) y.size;have zkh:=(dE g).alloc (.cells #[x] 9);refine hK.out _ _ b ?_;refine pT ?_;have hbs:g.heap.size<(g.alloc (.cells #[x] 9)).heap.size:=sM;generalize hbe:g.heap.size=bo9 at *;generalize g.alloc _=a at *;have zkl:Hid (bo9<a.heap.size):=za hbs;clear hbs zkh hbe;refine zm (fun K hK=>?_) (fun K hK=>?_)
    ·go_simp;have hx32:=b.alloc (.cells #[] 9);have zkm:=zq (World.ownsRow_lit a (e:=9) (size:=1) #[] 0 (dI _) lM rfl) b.size;have zkh:=(dE a).alloc (.cells #[] 9);refine hK.out _ _ hx32 ?_;refine pT ?_;have owno9:=zh owno9 zkh;have hbs:a.heap.size<(a.alloc (.cells #[] 9)).heap.size:=sM;generalize hbe:a.heap.size=ba9 at *;generalize a.alloc _=v32 at *;have hne_ba9_bo9:Hid (ba9≠bo9):=za (oH zkl.out);have zkl:Hid (bo9<v32.heap.size):=za (oH zkl.out);have zkj:Hid (ba9<v32.heap.size):=za hbs;exact yY11a2
    ·go_simp;have hx32:=b.alloc (.cells #[] 9);have zkn:=zq (World.ownsRow_lit a (e:=9) (size:=1) #[] 0 (dI _) lM rfl) b.size;have zkh:=(dE a).alloc (.cells #[] 9);refine hK.out _ _ hx32 ?_;refine pT ?_;have owno9:=zh owno9 zkh;have hbs:a.heap.size<(a.alloc (.cells #[] 9)).heap.size:=sM;generalize hbe:a.heap.size=bc9 at *;generalize a.alloc _=v32 at *;have hne_bc9_bo9:Hid (bc9≠bo9):=za (oH zkl.out);have zkl:Hid (bo9<v32.heap.size):=za (oH zkl.out);have zkk:Hid (bc9<v32.heap.size):=za hbs;exact yY11a3
  case rest =>
   obtain⟨I,q,H,o,rfl,bz,oR,oC,M⟩:=hcut;have hret:=za (show zcJ w (some (rows,cols++[x])) (.returned (.tuple #[.agg #[.slice I nr q,.slice H (nc+1) o],.bool true])) wc from ⟨M,.inr ⟨rows,cols++[x],nr,nc+1,I,q,H,o,rfl,rfl,oR,oC⟩⟩);have cf:=bz.cell;go_wp2_with fail
   exact bodyPost_ret (v:=.tuple #[.agg #[.slice I nr q,.slice H (nc+1) o],.bool true]) (by simp [results,Tryz.results152,go_sem,cf]) rfl hret.out
 ·have j:=za (show F=false by
   rw [f.out,Bool.eq_false_iff];intro h;simp only [eD,iR,decide_eq_true_eq] at h;exact hgo ⟨h.1,h.2.1,h.2.2⟩)
  rw [j.out,if_neg dM];clear f t j u i;cases G
  ·exact yY11a5
  ·cases E
   ·have r:((nc:Int)==20)=true:=by
     have:nc=20:=Decidable.byContradiction fun h=>hgo ⟨rfl,rfl,h⟩;rw [this];rfl
    exact yY11a5
   ·exact yY11a5
noncomputable def zaB (L:Nat) (f:ByteArray->Bool) (rows cols:List ByteArray) (x:ByteArray):Option (List ByteArray × List ByteArray):=
 match zdA L f rows cols x with
 |none=>none
 |some col=>if zgO L cols col=true then (zX L f (cols++[col]) (12 - rows.length) rows).map fun r=>(r,cols++[col]) else none
end
theorem zhk {base:Nat} {e:TypeId} {size n c:Nat} {A:Option Addr} {xs:List Value}(h:w.ownsRow base e size (.slice A n c) n xs):n<=c:=by
 rcases h.2 with ⟨h1,d⟩|⟨g,a,b,h1,_,_,f,_⟩
 ·omega
 ·injection h1 with _ _ h3;omega
theorem splitT_size {y:ByteArray}(h:zdA L f rows cols x=some y):y.size<=4000:=by
 unfold zdA at h
 split at h
 ·rename_i hc;have h1:=hc.1;simp only [eD,decide_eq_true_eq] at h1;obtain⟨k,-,rfl⟩:=Option.map_eq_some_iff.1 h;rw [ByteArray.size_extract];omega
 ·cases h
theorem zjZ (hx:Ext w W)(hb:Blk W Z 90 #[u,v])(hZ:w.heap.size<=Z) :
  Hid (zcJ w none (.returned (.tuple #[.agg #[(),()],.bool false])) ((W.setCell Z ()).setCell ⟨Z,1,none⟩ ())) ∧
  Blk ((W.setCell Z ()).setCell ⟨Z,1,none⟩ ()) Z 90 #[.slice none 0 0,.slice none 0 0]:=
 ⟨za ⟨(hx.setCell (p:=⟨Z,0,none⟩) hZ _).setCell (p:=⟨Z,1,none⟩) hZ _,.inl ⟨rfl,rfl⟩⟩,by simpa using (hb.ab 0 (.slice none 0 0)).ab 1 (.slice none 0 0)⟩
theorem tab_some {o:Option (List ByteArray × List ByteArray)} (hx:Ext w W)(hb:Blk W Z 90 #[u,v])(hZ:w.heap.size<=Z)(ho:o=some (rs,cs))(hw:w.heap.size<=w1.heap.size)
  (hR:W.ownsRow w1.heap.size 9 1 (.slice R nr cr) nr (zM rs)) (hC:W.ownsRow w1.heap.size 9 1 (.slice C nc cc) nc (zM cs)) :
  Hid (zcJ w o (.returned (.tuple #[.agg #[.slice R nr cr,.slice C nc cc],.bool true])) ((W.setCell Z (.slice R nr cr)).setCell ⟨Z,1,none⟩ (.slice C nc cc))) ∧
  Blk ((W.setCell Z (.slice R nr cr)).setCell ⟨Z,1,none⟩ (.slice C nc cc)) Z 90 #[.slice R nr cr,.slice C nc cc]:=by
 have a:Frm (fun k=>k=Z) W ((W.setCell Z (.slice R nr cr)).setCell ⟨Z,1,none⟩ (.slice C nc cc)):=(eB W _ 0 _).trans (eB _ _ 1 _);exact⟨za ⟨(hx.setCell (p:=⟨Z,0,none⟩) hZ _).setCell (p:=⟨Z,1,none⟩) hZ _,.inr ⟨rs,cs,nr,nc,R,cr,C,cc,ho,rfl,zq (zf hR a (fun b hv e=>zr hR hb dM hv e)) hw,zq (zf hC a (fun b hv e=>zr hC hb dM hv e)) hw⟩⟩,by simpa using (hb.ab 0 (.slice R nr cr)).ab 1 (.slice C nc cc)⟩
section
variable {w W:World} {n c m d m' d' L:Nat} {A B B':Option Addr} {s:Sys} {p:Aut} {nr nc cr cc:Nat} {R C:Option Addr} {rows cols:List ByteArray}
theorem yY11a6 {P:Prop}(h:P:=by
 go_wp2_with fail
 exact bodyPost_ret (v:=.tuple #[.agg #[(),()],.bool false]) (by simp [results,Tryz.results64,go_sem,cf]) rfl hret.out
 ):P:=h
theorem zfk (h:Tch w A n B m B' m' s p L)(hT:TabAt w R nr C nc rows cols)(hI:zbX L (zo s p L) rows cols)(hcr:nr<=cr)(hcc:nc<=cc)(hcl:zaJ L (zo s p L) rows cols=none)(hx:x.size<=9223372036854775807) :
  Calls Tryz.prog 64 #[.agg #[.bool false,(0:Int),(),(),s.al,s.st,.slice A n c,p.al,.slice B m d,.slice B' m' d',L],.agg #[.slice R nr cr,.slice C nc cc],x] w (zcJ w (zaB L (zo s p L) rows cols x)):=by
 have k:=za (fun W (hW:Ext w W)=>ziy (c:=c) (d:=d) (d':=d') (cr:=cr) (cc:=cc) (x:=x) (h.ext hW) (hT.ext hW) hI hcr hcc hcl hx);have z:=za (fun (y:ByteArray) W (hW:Ext w W) hy=>ziw (c:=c) (d:=d) (d':=d') (cr:=cr) (cc:=cc) (x:=y) (h.ext hW) (hT.ext hW) hI hcr hcc hy);have O:=za (fun (R:Option Addr) (nr cr:Nat) (C:Option Addr) (nc cc:Nat) (rows cols:List ByteArray) W (hW:Ext w W) hT hI (hcr:nr<=cr) (hcc:nc<=cc)=>zeL (c:=c) (d:=d) (d':=d') (nr:=nr) (nc:=nc) (R:=R) (C:=C) (cr:=cr) (cc:=cc) (rows:=rows) (cols:=cols) (h.ext hW) hT hI hcr hcc);have HI:=za (fun col (ha:zgO L cols col=true)=>hI.addC ha);have b:=za (show zaB L (zo s p L) rows cols x=match zdA L (zo s p L) rows cols x with
  |none=>none
  |some col=>if zgO L cols col=true then (zX L (zo s p L) (cols++[col]) (12 - rows.length) rows).map fun r=>(r,cols++[col]) else none from rfl)
 have T:=za (fun y (hy:zdA L (zo s p L) rows cols x=some y)=>splitT_size hy);generalize zaB L (zo s p L) rows cols x=q at *;have hx0:Ext w (((w.alloc (.cells #[.bool false,(0:Int),(),(),s.al,s.st,.slice A n c,p.al,.slice B m d,.slice B' m' d',L] 87)).alloc (.cells #[.slice R nr cr,.slice C nc cc] 90)).alloc (.cells #[(),()] 90)):=(((dE _).alloc _).alloc _).alloc _;obtain⟨b1,b2,b3⟩:=zU (dE (((w.alloc (.cells #[.bool false,(0:Int),(),(),s.al,s.st,.slice A n c,p.al,.slice B m d,.slice B' m' d',L] 87)).alloc (.cells #[.slice R nr cr,.slice C nc cc] 90)).alloc (.cells #[(),()] 90)));clear h hT hI hcl;cases hop:zdA L (zo s p L) rows cols x with
 |none =>
  rw [hop] at k b;have f:=za (show q=none from b.out);rw [f.out];clear b f hop
  go_enter Tryz.func64,Tryz.ntmps64
  go_upto_region 1 with fail
  generalize ((w.alloc _).alloc _).alloc _=w0 at *;have CB:=b1.cells;have CT:=b2.cells;have hww:=dE w0;go_upto_region 2 with (first
   |(go_at_call 151;refine (k.out _ hx0).mono (mQ fun w1 hx1=>?_)))
  have bz:=b3.ext hx1;have kz:=bz.cell;have fz:=bz.frozen;obtain⟨hret,t⟩:=zjZ (hx0.trans hx1) bz oM;have cf:=t.cell;go_wp2_with fail
  exact bodyPost_ret (v:=.tuple #[.agg #[(),()],.bool false]) (by simp [results,Tryz.results64,go_sem,cf]) rfl hret.out
 |some col =>
  have hsz:=T.out col hop;rw [hop] at k b;cases hok:zgO L cols col
  ·have f:=za (show q=none by rw [b.out];simp [hok]);have j:=za (fun W (hW:Ext w W)=>z.out col W hW oM);rw [hok,if_neg dM] at j;rw [f.out];clear b f hop hok
   go_enter Tryz.func64,Tryz.ntmps64
   go_upto_region 1 with fail
   generalize ((w.alloc _).alloc _).alloc _=w0 at *;have CB:=b1.cells;have CT:=b2.cells;have hww:=dE w0;go_upto_region 5 with (first
    |(go_at_call 151;refine (k.out _ hx0).mono (mQ fun w1 hx1=>?_))
    |(go_at_call 152;refine (j.out _ (hx0.trans hx1)).mono ?_;rintro e w2 ⟨u,⟨-,rfl⟩|⟨_,_,_,_,_,_,_,_,l,_⟩⟩;rotate_left;exact absurd l sM;have g:=hx1.trans u))
   generalize U0:w2.alloc _=M at *;have i:=Ext.al_ U0;clear U0;have bz:=b3.ext (g.trans i);have kz:=bz.cell;have fz:=bz.frozen;obtain⟨hret,t⟩:=zjZ ((hx0.trans g).trans i) bz oM;have cf:=t.cell;exact yY11a6
  ·have f:=za (show q=(zX L (zo s p L) (cols++[col]) (12 - rows.length) rows).map fun r=>(r,cols++[col]) by rw [b.out];simp [hok]);have j:=za (fun W (hW:Ext w W)=>z.out col W hW oM);rw [hok,if_pos rfl] at j;have Q:=za (HI.out col hok);clear b hop hok
   go_enter Tryz.func64,Tryz.ntmps64
   go_upto_region 1 with fail
   generalize ((w.alloc _).alloc _).alloc _=w0 at *;have CB:=b1.cells;have CT:=b2.cells;have hww:=dE w0;go_upto_region 5 with (first
    |(go_at_call 151;refine (k.out _ hx0).mono (mQ fun w1 hx1=>?_))
    |(go_at_call 152;refine (j.out _ (hx0.trans hx1)).mono ?_;rintro e w2 ⟨u,⟨l,_⟩|⟨rs,cs,Z,X,R2,ao,C2,an,l,rfl,I,G⟩⟩;exact absurd l sM;have g:=hx1.trans u;obtain⟨rfl,rfl⟩:=Prod.mk.inj (Option.some.inj l)))
   have E:=zhk I;have D:=zhk G;generalize U0:w2.alloc _=M at *;have bt:=Ext.bl_ U0;have i:=Ext.al_ U0;have J:=zh I i;have H:=zh G i;clear U0;have a:=g.trans i;have S:=za (show TabAt M R2 Z C2 X rows (cols++[col]) from ⟨_,_,_,_,Reads.af J,Reads.af H⟩);have ah:=fun W (hW:Ext M W)=>CB W (a.trans hW);have k2:=bt.cell;have ad:=dE M;clear I G J H;go_wp2_with fail
   refine (O.out _ _ _ _ _ _ rows (cols++[col]) _ (hx0.trans a) S.out Q.out E D).mono ?_;rintro e w4 ⟨o,⟨l,rfl⟩|⟨rs,cs,aa,Y,R3,V,C3,U,l,rfl,I,G⟩⟩
   ·have bz:=b3.ext (a.trans o);have kz:=bz.cell;have fz:=bz.frozen;obtain⟨hret,t⟩:=zjZ ((hx0.trans a).trans o) bz oM;have F:=za (f.out.trans l);rw [← F.out] at hret;have cf:=t.cell;clear k2 l;exact yY11a6
   ·have bz:=b3.ext (a.trans o);have kz:=bz.cell;have fz:=bz.frozen;obtain⟨hret,t⟩:=tab_some ((hx0.trans a).trans o) bz oM (f.out.trans l) (hx0.trans a).size I G;have cf:=t.cell;clear k2 l;go_wp2_with fail
    exact bodyPost_ret (v:=.tuple #[.agg #[.slice R3 aa V,.slice C3 Y U],.bool true]) (by simp [results,Tryz.results64,go_sem,cf]) rfl hret.out
end
theorem letS_data (l:Nat):(zbY l).data.toList=[UInt8.ofNat (97+l)]:=by
 unfold zbY;rw [strOfNums_data];rfl
theorem rest_letter (hw:zbj x=true) {k:Nat}(hk:k<x.size):x.extract k x.size=zbY (x[k].toNat - 97)++x.extract (k+1) x.size:=by
 have d:=zaQ hw hk;have f:x.data.toList.length=x.size:=sM;have e:(x.extract k x.size).data.toList=(zbY (x[k].toNat - 97)++x.extract (k+1) x.size).data.toList:=by
  rw [ByteArray.data_append,Array.toList_append,letS_data,ByteArray.data_extract,ByteArray.data_extract,Array.toList_extract,Array.toList_extract];rw [kI,kI,eF (by rw [List.length_drop];omega),eF (by rw [List.length_drop];omega)];rw [show 97+(x[k].toNat - 97)=x[k].toNat by omega,UInt8.ofNat_toNat];have h1:=zcu x k hk;obtain⟨b,c⟩:=List.getElem?_eq_some_iff.1 h1;rw [List.drop_eq_getElem_cons b,c];rfl
 have a:(x.extract k x.size).data=(zbY (x[k].toNat - 97)++x.extract (k+1) x.size).data:=Array.toList_inj.1 e;exact ByteArray.ext a
section
variable {L:Nat} {f:ByteArray->Bool} {rows cols:List ByteArray}
theorem autT_go (hq:rows[q]?=some r)(hl:l<6)(hb:L.testBit l=true):aGo (zcN L f rows cols) q l=ziQ (zaA f cols rows) (mkS (zbF f cols (r++zbY l))):=by
 unfold aGo zcN;simp only [Int.toNat_natCast];rw [if_pos hb];have h1:(rows.map (zdI L f rows cols)).getD q []=zdI L f rows cols r:=by
  rw [eE,eM,hq];rfl
 rw [h1];unfold zdI;rw [eE,eM,zhI hb 6 hl];simp
theorem autT_row (ho:zaJ L f rows cols=none)(hq:rows[q]?=some r)(hl:l<6)(hb:L.testBit l=true) :
  ∃ r2,rows[aGo (zcN L f rows cols) q l]?=some r2∧zbF f cols r2=zbF f cols (r++zbY l):=by
 rw [autT_go hq hl hb];have h1:=zeE ho (dG hq) (zD.2 ⟨hl,hb⟩);have a:=idxS_at h1;unfold zaA at a ⊢;rw [eM] at a;obtain⟨r2,b,c⟩:=Option.map_eq_some_iff.1 a;exact⟨r2,b,mkS_inj c⟩
theorem openW_of (hr:r∈rows)(hl:l<6)(hb:L.testBit l=true)(hx:x=r++zbY l)(hn:zbF f cols x∉rows.map (zbF f cols)):zaJ L f rows cols≠none:=by
 intro h;subst hx;have:=zeE h hr (zD.2 ⟨hl,hb⟩);obtain⟨y,a,e⟩:=List.mem_map.1 this;exact hn (List.mem_map.2 ⟨y,a,mkS_inj e⟩)
theorem split_open (hI:zbX L f rows cols)(ho:zaJ L f rows cols=none) {col:ByteArray}(hs:zdA L f rows cols x=some col):zaJ L f rows (cols++[col])≠none:=by
 unfold zdA at hs
 split at hs
 ·rename_i hc;obtain⟨c,-⟩:=hc;simp only [eD,decide_eq_true_eq] at c;obtain⟨k,hk,rfl⟩:=Option.map_eq_some_iff.1 hs;have d:=List.mem_range.1 (List.mem_of_find?_eq_some hk);have n:=List.find?_some hk;have O:=zaT c.1;have V:=zaQ O d;obtain⟨l,G⟩:∃ l,x[k].toNat - 97=l:=⟨_,rfl⟩;have o:l<6:=oM;have s:L.testBit l=true:=by
   have h1:=(zft.1 c.1).2;have m:(alB (wl x)).testBit l=true:=(zea _ _).2 (dG (by rw [zev d,G]));rw [← h1,iE,eD] at m;exact m.2
  have H:∀ j,j<=x.size->stT L f rows cols x j<rows.length:=fun j hj=>by
   have:=zeG (p:=zcN L f rows cols) (ls:=(wl x).take j) (q:=0);have hL:L % 64=L % 64:=rfl;unfold stT;have R:∀ (ls:List Nat) (q:Nat),q<rows.length->(∀ l∈ls,l<6∧L.testBit l=true)->zaW (zcN L f rows cols) q ls<rows.length:=by
    intro ls
    induction ls with
    |nil=>intro q hq _;exact hq
    |cons a r ih =>
     intro q hq h;obtain⟨h1,m⟩:=h a List.mem_cons_self;obtain⟨y,Q,-⟩:=autT_row ho (dH hq) h1 m;exact ih _ (List.getElem?_eq_some_iff.1 Q).1 (fun b V=>h b (List.mem_cons_of_mem _ V))
   refine R _ 0 hI.r1 fun a u=>?_;have u:=List.mem_of_mem_take u;refine⟨wl_lt O a u,?_⟩;have h1:=(zft.1 c.1).2;have m:(alB (wl x)).testBit a=true:=(zea _ _).2 u;rw [← h1,iE,eD] at m;exact m.2
  obtain⟨r,J⟩:∃ r,rows[stT L f rows cols x k]?=some r:=⟨_,dH (H k oM)⟩;have M:stT L f rows cols x (k+1)=aGo (zcN L f rows cols) (stT L f rows cols x k) l:=by
   unfold stT;rw [eG,zev d,Option.toList_some,zbB,G]
  obtain⟨Z,g,B⟩:=autT_row ho J o s;rw [← M] at g;have v:zir L f rows cols x k=f (r++zbY l++x.extract (k+1) x.size):=by
   unfold zir;rw [eE,J,rest_letter O d,G,ByteArray.append_assoc];rfl
  have z:zir L f rows cols x (k+1)=f (Z++x.extract (k+1) x.size):=by
   unfold zir;rw [eE,g];rfl
  rw [v,z] at n;refine openW_of (dG J) o s rfl fun hm=>?_;obtain⟨y,Q,e⟩:=List.mem_map.1 hm;rw [zfX,zfX] at e;obtain⟨U,X⟩:=List.append_inj' e rfl;rw [← B] at U;obtain⟨i,C⟩:=List.getElem?_of_mem Q;have I:=hI.nd;have E:(rows.map (zbF f cols))[i]?=some (zbF f cols y):=by rw [eM,C];rfl
  have F:(rows.map (zbF f cols))[stT L f rows cols x (k+1)]?=some (zbF f cols y):=by rw [eM,g,U];rfl
  have D:i=stT L f rows cols x (k+1):=by
   obtain⟨S,T⟩:=List.getElem?_eq_some_iff.1 E;obtain⟨b1,b2⟩:=List.getElem?_eq_some_iff.1 F;have t:=List.pairwise_iff_getElem.1 I;rcases Nat.lt_trichotomy i (stT L f rows cols x (k+1)) with h1|h1|h1
   ·exact absurd (T.trans b2.symm) (t _ _ S b1 h1)
   ·exact h1
   ·exact absurd (b2.trans T.symm) (t _ _ b1 S h1)
  rw [D,g] at C;obtain rfl:=Option.some.inj C;have Y:=List.head_eq_of_cons_eq X;rw [Y] at n;simp at n
 ·cases hs
theorem zfu (hI:zbX L f rows cols)(ho:zaJ L f rows cols=none)  (h:zaB L f rows cols x=some (rs,cs)):rows.length<rs.length∧cs.length=cols.length+1:=by
 unfold zaB at h
 split at h
 ·cases h
 ·rename_i col hcol
  split at h
  ·rename_i ha;obtain⟨r,a,e⟩:=Option.map_eq_some_iff.1 h;obtain⟨rfl,rfl⟩:=Prod.mk.inj e;refine⟨?_,sM⟩;have c:=split_open hI ho hcol;obtain⟨z,d⟩:=Option.ne_none_iff_exists'.1 c;have g:=hI.r12;cases hk:12 - rows.length with
   |zero=>rw [hk,zeb d] at a;cases a
   |succ k =>
    rw [hk,zcZ _ d] at a;have b:=(hI.addC ha).grow oM d;obtain⟨-,-,t,i⟩:=zhu _ _ _ b (by simp;omega) a;rw [i];simp<;>omega
  ·cases h
end
def SfW (s:Sys) (p:Aut) (L:Nat) (x:ByteArray) (i:Nat) (T:List Nat):Prop:=
 i<=(wl x).length∧zbr T 12 (PR s p L ((wl x).take i))∧∀ k,k<i->¬ Bad s p L ((wl x).take k)
section
variable {s:Sys} {p:Aut} {L i l:Nat} {x:ByteArray} {T U:List Nat}
theorem SfW.zero (h:zbr T 12 (PR s p L [])):SfW s p L x 0 T:=⟨Nat.zero_le _,by simpa using h,fun k hk=>oM⟩
theorem SfW.step (h:SfW s p L x i T)(hb:badS p T=false)(hl:(wl x)[i]?=some l)(hU:Lead s p L l T U):SfW s p L x (i+1) U:=by
 obtain⟨h1,a,b⟩:=h;have d:=(List.getElem?_eq_some_iff.1 hl).1;refine⟨oM,?_,fun k hk hbad=>?_⟩
 ·rw [eG,hl];exact hU.pr a
 ·rcases fC (Nat.le_of_lt_succ hk) with c|rfl
  ·exact b k c hbad
  ·rw [(zjl a).2 hbad] at hb;cases hb
theorem SfW.fin (h:SfW s p L x i T)(hin:inB x L=true)(he:i=(wl x).length∨badS p T=true):zo s p L x=!badS p T:=by
 obtain⟨h1,b,c⟩:=h;rw [Bool.eq_iff_iff,zeH];constructor
 ·rintro ⟨-,f⟩;cases hb:badS p T
  ·rfl
  ·exact absurd ((zjl b).1 hb) (f i h1)
 ·intro hb;refine⟨hin,fun k hk hbad=>?_⟩;have a:badS p T=false:=by simpa using hb
  rcases he with rfl|he
  ·rcases fC hk with d|rfl
   ·exact c k d hbad
   ·rw [(zjl b).2 hbad] at a;cases a
  ·rw [he] at a;cases a
end
end Go.Proofs.YtckbjnndaaoddaaGreatDoor
