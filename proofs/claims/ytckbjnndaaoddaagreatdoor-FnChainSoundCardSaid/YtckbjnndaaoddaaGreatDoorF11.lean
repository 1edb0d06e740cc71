/- The referenc -/
import Derived.Test.YtckbjnndaaoddaaGreatDoorF10
set_option maxHeartbeats 4000000
set_option maxRecDepth 100000
namespace Go.Proofs.YtckbjnndaaoddaaGreatDoor
open Go Go.RowKit
open Bool renaming and_eq_true->dF,not_eq_true'->fY
open Ext renaming refl->cY
open Frm renaming setCell->dE
open List renaming getElem?_append_left->dL,take_append_of_le_length->gL
open Nat renaming le_refl->dD
open Reads renaming af->dY
variable {C R:Option Addr} {L Z cc cr nc nr:Nat} {W w w1:World} {cols rows:List ByteArray} {f:ByteArray->Bool} {u v:Value} {x:ByteArray}
theorem zX (a b:List ByteArray):zM (a++b)=zM a++zM b:=by simp [zM]
noncomputable def zgt (L:Nat) (cols:List ByteArray) (x:ByteArray):Bool:=(inB x L&&decide (x.size<=4000))&&(!zfW cols x&&decide (cols.length≠20))
theorem zeD (f:ByteArray->Bool) (cols:List ByteArray) (x y:ByteArray):zcl f (cols++[x]) y=zcl f cols y++[f (y++x)]:=by simp [zcl]
theorem zcT.addC (h:zcT L f rows cols)(ha:zgt L cols x=true):zcT L f rows (cols++[x]):=by
 unfold zgt at ha;simp only [dF,decide_eq_true_eq,fY] at ha;obtain⟨⟨h1,g⟩,d,l⟩:=ha;rw [zcb] at d;refine⟨h.r1,h.r12,sM,by have:=h.c20;simp;omega,h.r0,by rw [dL (oH h.c1)];exact h.c0,h.rw_,fun i y hi hy=>?_,?_⟩
 ·rcases Nat.lt_or_ge i cols.length with a|a
  ·rw [dL a] at hy;obtain⟨b,j,k⟩:=h.cw i y hi hy;exact⟨b,j,by rw [gL oM];exact k⟩
  ·rw [List.getElem?_append_right a] at hy;have c:i=cols.length:=by
    rcases Nat.eq_or_lt_of_le a with b|b
    ·exact b.symm
    ·rw [List.getElem?_eq_none (by simp;omega)] at hy;cases hy
   subst c;simp at hy;subst hy;exact⟨h1,g,by rw [gL (dD _),List.take_length];exact d⟩
 ·have a:=h.nd;rw [List.nodup_iff_pairwise_ne,List.pairwise_map] at a ⊢;refine a.imp fun hne e=>hne ?_;rw [zeD,zeD] at e;exact (List.append_inj' e rfl).1
def AddV (w:World) (Z:Nat) (rows cols:List ByteArray) (nr nc:Nat) (v:Value) (W:World):Prop:=
 ∃ (R:Option Addr) (cr:Nat) (C:Option Addr) (cc:Nat),v=.bool true∧Blk W Z 90 #[.slice R nr cr,.slice C nc cc] ∧
  W.ownsRow w.heap.size 9 1 (.slice R nr cr) nr (zM rows)∧W.ownsRow w.heap.size 9 1 (.slice C nc cc) nc (zM cols)∧Ext w W
theorem zaK {g:Nat}  (ha:W.ownsRow w1.heap.size 9 1 (.slice R nr cr) nr (zM rows))(hc:W.ownsRow w1.heap.size 9 1 (.slice C nc cc) nc (zM cols))(hb:Blk W g 90 #[u,v])(hx:Ext w1 W)(hw:Ext w w1)(hg:w.heap.size<=g) :
  AddV w g rows cols nr nc (.bool true) ((W.setCell g (.slice R nr cr)).setCell ⟨g,1,none⟩ (.slice C nc cc)):=by
 have a:Frm (fun k=>k=g) W ((W.setCell g (.slice R nr cr)).setCell ⟨g,1,none⟩ (.slice C nc cc)):=(dE W g 0 _).trans (dE _ g 1 _);exact⟨R,cr,C,cc,rfl,by simpa using (hb.ab 0 _).ab 1 _,zo (zf ha a (fun b hv e=>zp ha hb dM hv e)) hw.size,zo (zf hc a (fun b hv e=>zp hc hb dM hv e)) hw.size,((hw.trans hx).setCell (p:=⟨g,0,none⟩) hg _).setCell (p:=⟨g,1,none⟩) hg _⟩
section
variable {w W:World} {n c m d m' d' L:Nat} {A B B':Option Addr} {s:Sys} {p:Aut} {nr nc cr cc:Nat} {R C:Option Addr} {rows cols:List ByteArray}
theorem yF11d1 {P:Prop}(h:P:=by
 refine zd (fun K hK=>?_);refine zu _ _ _ _ rfl w1.heap.size 9 _ 1 16 Tryz.underlying88 zn rfl dM (.slice Ac9 nc cc9) nc (zM cols) rfl zhL _ _ (some ⟨bo9,0,none⟩) 1 1 (zM [x]) rfl (Reads.af owno9) (zt _) lM oM hx35.size ?_;intro v9 v36 ownc8 hg hat;rw [← zX] at ownc8;obtain⟨Ac8,cc8,rfl⟩:=zi ownc8;have hx36:=hx35.grown hg (fun k hk=>(zhL.lt k hk).1);have zhK:=zf zhK (Frm.ae hg) (fun k hk hS=>hdis.out k hk hS);refine hK.out _ _ hx36 ?_;refine pT ?_;have zhL:=ownc8;refine uQ ?_;have bz:=b3.ext (hx01.trans hx36);have c6:=Blk.cell bz;have f6:=Blk.frozen bz;refine zb fun K hK=>?_;go_simp;refine hK.out _ _ ?_;refine pT ?_;refine uQ ?_;refine ze ?_;go_wp2_with fail
 go_meet;exact zaK zhK zhL bz hx36 hx1 oM
 ):P:=h
theorem yF11c1 {P:Prop}(h:P:=by
 refine zd (fun K hK=>?_);refine zu _ _ _ _ rfl w1.heap.size 9 _ 1 16 Tryz.underlying88 zn rfl dM (.slice (some bc9) 0 0) 0 [] rfl zhL _ _ C nc cc (zM cols) rfl (HC1.out v34 hx34) (zt _) lM oM hx34.size ?_;intro v9 v35 ownc8 hg hat;rw [Nat.zero_add,List.nil_append] at ownc8;obtain⟨Ac9,cc9,rfl⟩:=zi ownc8;have hx35:=hx34.grown hg (fun k hk=>(zhL.lt k hk).1);have hsz:=hg.size;have hbs:Hid (v34.heap.size=v34.heap.size):=za rfl;have zhK:=zf zhK (Frm.ae hg) (fun k hk hS=>hrn_a_bc9.out k hk (by simpa [Value.ownBlock] using hS.symm));have owno9:=zf owno9 (Frm.ae hg) (fun k hk hS=>by simp [Value.ownBlock] at hk hS;exact hne_bc9_bo9.out (hS.trans hk.symm));have hdis0:Hid (∀ k,(Value.slice Ac9 nc cc9).ownBlock=some k->(Value.slice Aa9 nr ca9).ownBlock≠some k):=za (fun k hk hS=>by rcases hat with h1|h1;(rw [h1] at hk;simp [Value.ownBlock] at hk;exact hrn_a_bc9.out k hS hk.symm);(rw [h1] at hk;have:=Option.some.inj hk;have:=hrl_a.out k hS;omega))
 have hdis:Hid (∀ k,(Value.slice Aa9 nr ca9).ownBlock=some k->(Value.slice Ac9 nc cc9).ownBlock≠some k):=za (fun k hk hS=>hdis0.out k hS hk);generalize hbe:v34.heap.size=nc9 at *;have hne_ba9_nc9:Hid (ba9≠nc9):=za (oH zhH.out);have hne_bc9_nc9:Hid (bc9≠nc9):=za (oH zhI.out);have hne_bo9_nc9:Hid (bo9≠nc9):=za (oH zhJ.out);have zhH:Hid (ba9<v35.heap.size):=za (oH zhH.out);have zhI:Hid (bc9<v35.heap.size):=za (oH zhI.out);have zhJ:Hid (bo9<v35.heap.size):=za (oH zhJ.out);have hrl_a:Hid (∀ k,(Value.slice Aa9 nr ca9).ownBlock=some k->k<v35.heap.size):=za (fun k hk=>(zhK.lt k hk).2);have hrn_c_bo9:Hid (∀ k,(Value.slice Ac9 nc cc9).ownBlock=some k->k≠bo9):=za (fun k hk=>by rcases hat with h1|h1;(rw [h1] at hk;simp [Value.ownBlock] at hk;rw [← hk];exact hne_bc9_bo9.out);(rw [h1] at hk;rw [← Option.some.inj hk];exact (Ne.symm hne_bo9_nc9.out)))
 have hrl_c:Hid (∀ k,(Value.slice Ac9 nc cc9).ownBlock=some k->k<v35.heap.size):=za (fun k hk=>(ownc8.lt k hk).2);clear hbs hsz hbe;refine hK.out _ _ hx35 ?_;refine pT ?_;have zhL:=ownc8;exact yF11d1
 ):P:=h
theorem yF11b1 {P:Prop}(h:P:=by
 clear hbs zhF hbe;refine zd (fun K hK=>?_);refine zu _ _ _ _ rfl w1.heap.size 9 _ 1 16 Tryz.underlying88 zn rfl dM (.slice (some ba9) 0 0) 0 [] rfl zhK _ _ R nr cr (zM rows) rfl (HR1.out v33 hx33) (zt _) lM oM hx33.size ?_;intro v9 v34 owna8 hg hat;rw [Nat.zero_add,List.nil_append] at owna8;obtain⟨Aa9,ca9,rfl⟩:=zi owna8;have hx34:=hx33.grown hg (fun k hk=>(zhK.lt k hk).1);have hsz:=hg.size;have hbs:Hid (v33.heap.size=v33.heap.size):=za rfl;have zhL:=zf zhL (Frm.ae hg) (fun k hk hS=>by simp [Value.ownBlock] at hk hS;exact zhQ.out (hS.trans hk.symm));have owno9:=zf owno9 (Frm.ae hg) (fun k hk hS=>by simp [Value.ownBlock] at hk hS;exact hne_ba9_bo9.out (hS.trans hk.symm));generalize hbe:v33.heap.size=na9 at *;have hne_ba9_na9:Hid (ba9≠na9):=za (oH zhH.out);have hne_bc9_na9:Hid (bc9≠na9):=za (oH zhI.out);have hne_bo9_na9:Hid (bo9≠na9):=za (oH zhJ.out);have zhH:Hid (ba9<v34.heap.size):=za (oH zhH.out);have zhI:Hid (bc9<v34.heap.size):=za (oH zhI.out);have zhJ:Hid (bo9<v34.heap.size):=za (oH zhJ.out);have hrn_a_bc9:Hid (∀ k,(Value.slice Aa9 nr ca9).ownBlock=some k->k≠bc9):=za (fun k hk=>by rcases hat with h1|h1;(rw [h1] at hk;simp [Value.ownBlock] at hk;rw [← hk];exact zhQ.out);(rw [h1] at hk;rw [← Option.some.inj hk];exact (Ne.symm hne_bc9_na9.out)))
 have hrn_a_bo9:Hid (∀ k,(Value.slice Aa9 nr ca9).ownBlock=some k->k≠bo9):=za (fun k hk=>by rcases hat with h1|h1;(rw [h1] at hk;simp [Value.ownBlock] at hk;rw [← hk];exact hne_ba9_bo9.out);(rw [h1] at hk;rw [← Option.some.inj hk];exact (Ne.symm hne_bo9_na9.out)))
 have hrl_a:Hid (∀ k,(Value.slice Aa9 nr ca9).ownBlock=some k->k<v34.heap.size):=za (fun k hk=>(owna8.lt k hk).2);clear hbs hsz hbe;refine hK.out _ _ hx34 ?_;refine pT ?_;have zhK:=owna8;exact yF11c1
 ):P:=h
theorem yF11b2 {P:Prop}(h:P:=by
 skip;refine zu _ _ _ _ rfl w1.heap.size 9 _ 1 16 Tryz.underlying88 zn rfl dM (.slice (some bc9) 0 0) 0 [] rfl zhL _ _ C nc cc (zM cols) rfl (HC1.out v33 hx33) (zt _) lM oM hx33.size ?_;intro v9 v34 ownc8 hg hat;rw [Nat.zero_add,List.nil_append] at ownc8;obtain⟨Ac9,cc9,rfl⟩:=zi ownc8;have hx34:=hx33.grown hg (fun k hk=>(zhL.lt k hk).1);have hsz:=hg.size;have hbs:Hid (v33.heap.size=v33.heap.size):=za rfl;have zhK:=zf zhK (Frm.ae hg) (fun k hk hS=>hrn_a_bc9.out k hk (by simpa [Value.ownBlock] using hS.symm));have hdis0:Hid (∀ k,(Value.slice Ac9 nc cc9).ownBlock=some k->(Value.slice Aa9 nr ca9).ownBlock≠some k):=za (fun k hk hS=>by rcases hat with h1|h1;(rw [h1] at hk;simp [Value.ownBlock] at hk;exact hrn_a_bc9.out k hS hk.symm);(rw [h1] at hk;have:=Option.some.inj hk;have:=hrl_a.out k hS;omega))
 have hdis:Hid (∀ k,(Value.slice Aa9 nr ca9).ownBlock=some k->(Value.slice Ac9 nc cc9).ownBlock≠some k):=za (fun k hk hS=>hdis0.out k hS hk);generalize hbe:v33.heap.size=nc9 at *;have hne_ba9_nc9:Hid (ba9≠nc9):=za (oH zhH.out);have hne_bc9_nc9:Hid (bc9≠nc9):=za (oH zhI.out);have zhH:Hid (ba9<v34.heap.size):=za (oH zhH.out);have zhI:Hid (bc9<v34.heap.size):=za (oH zhI.out);have hrl_a:Hid (∀ k,(Value.slice Aa9 nr ca9).ownBlock=some k->k<v34.heap.size):=za (fun k hk=>(zhK.lt k hk).2);have hrl_c:Hid (∀ k,(Value.slice Ac9 nc cc9).ownBlock=some k->k<v34.heap.size):=za (fun k hk=>(ownc8.lt k hk).2);clear hbs hsz hbe;refine hK.out _ _ hx34 ?_;refine pT ?_;have zhL:=ownc8;refine zd fun K hK=>?_;go_simp;have hx35:=hx34.alloc (.cells #[x] 9);have owno9:=zo (World.ownsRow_lit v34 (e:=9) (size:=1) #[x] 1 (Nat.le_refl _) lM rfl) hx34.size;have zhF:=(Ext.refl v34).alloc (.cells #[x] 9);refine hK.out _ _ hx35 ?_;refine pT ?_;have zhK:=zg zhK zhF;have zhL:=zg zhL zhF;have hbs:v34.heap.size<(v34.alloc (.cells #[x] 9)).heap.size:=sM;generalize hbe:v34.heap.size=bo9 at *;generalize v34.alloc _=v35 at *;have hne_ba9_bo9:Hid (ba9≠bo9):=za (oH zhH.out);have hne_bc9_bo9:Hid (bc9≠bo9):=za (oH zhI.out);have zhH:Hid (ba9<v35.heap.size):=za (oH zhH.out);have zhI:Hid (bc9<v35.heap.size):=za (oH zhI.out);have hrl_a:Hid (∀ k,(Value.slice Aa9 nr ca9).ownBlock=some k->k<v35.heap.size):=za (fun k hk=>(zhK.lt k hk).2);have hrl_c:Hid (∀ k,(Value.slice Ac9 nc cc9).ownBlock=some k->k<v35.heap.size):=za (fun k hk=>(zhL.lt k hk).2);have zhJ:Hid (bo9<v35.heap.size):=za hbs;clear hbs zhF hbe;exact yF11d1
 ):P:=h
theorem yF11b3 {P:Prop}(h:P:=by
 clear hbs zhF hbe;exact yF11c1
 ):P:=h
theorem yF11a1 {P:Prop}(h:P:=by
 clear hbs zhF hbe;refine zm (fun K hK=>?_) (fun K hK=>?_)
 ·skip;refine zu _ _ _ _ rfl w1.heap.size 9 _ 1 16 Tryz.underlying88 zn rfl dM (.slice (some ba9) 0 0) 0 [] rfl zhK _ _ R nr cr (zM rows) rfl (HR1.out v32 hx32) (zt _) lM oM hx32.size ?_;intro v9 v33 owna8 hg hat;rw [Nat.zero_add,List.nil_append] at owna8;obtain⟨Aa9,ca9,rfl⟩:=zi owna8;have hx33:=hx32.grown hg (fun k hk=>(zhK.lt k hk).1);have hsz:=hg.size;have hbs:Hid (v32.heap.size=v32.heap.size):=za rfl;have zhL:=zf zhL (Frm.ae hg) (fun k hk hS=>by simp [Value.ownBlock] at hk hS;exact zhQ.out (hS.trans hk.symm));generalize hbe:v32.heap.size=na9 at *;have hne_ba9_na9:Hid (ba9≠na9):=za (oH zhH.out);have hne_bc9_na9:Hid (bc9≠na9):=za (oH zhI.out);have zhH:Hid (ba9<v33.heap.size):=za (oH zhH.out);have zhI:Hid (bc9<v33.heap.size):=za (oH zhI.out);have hrn_a_bc9:Hid (∀ k,(Value.slice Aa9 nr ca9).ownBlock=some k->k≠bc9):=za (fun k hk=>by rcases hat with h1|h1;(rw [h1] at hk;simp [Value.ownBlock] at hk;rw [← hk];exact zhQ.out);(rw [h1] at hk;rw [← Option.some.inj hk];exact (Ne.symm hne_bc9_na9.out)))
  have hrl_a:Hid (∀ k,(Value.slice Aa9 nr ca9).ownBlock=some k->k<v33.heap.size):=za (fun k hk=>(owna8.lt k hk).2);clear hbs hsz hbe;refine hK.out _ _ hx33 ?_;refine pT ?_;have zhK:=owna8;refine zm (fun K hK=>?_) (fun K hK=>?_)
  ·exact yF11b2
  ·go_simp;have hx34:=hx33.alloc (.cells #[x] 9);have owno9:=zo (World.ownsRow_lit v33 (e:=9) (size:=1) #[x] 1 (Nat.le_refl _) lM rfl) hx33.size;have zhF:=(Ext.refl v33).alloc (.cells #[x] 9);refine hK.out _ _ hx34 ?_;refine pT ?_;have zhK:=zg zhK zhF;have zhL:=zg zhL zhF;have hbs:v33.heap.size<(v33.alloc (.cells #[x] 9)).heap.size:=sM;generalize hbe:v33.heap.size=bo9 at *;generalize v33.alloc _=v34 at *;have hne_ba9_bo9:Hid (ba9≠bo9):=za (oH zhH.out);have hne_bc9_bo9:Hid (bc9≠bo9):=za (oH zhI.out);have zhH:Hid (ba9<v34.heap.size):=za (oH zhH.out);have zhI:Hid (bc9<v34.heap.size):=za (oH zhI.out);have hrl_a:Hid (∀ k,(Value.slice Aa9 nr ca9).ownBlock=some k->k<v34.heap.size):=za (fun k hk=>(zhK.lt k hk).2);have zhJ:Hid (bo9<v34.heap.size):=za hbs;exact yF11b3
 ·go_simp;have hx33:=hx32.alloc (.cells #[x] 9);have owno9:=zo (World.ownsRow_lit v32 (e:=9) (size:=1) #[x] 1 (Nat.le_refl _) lM rfl) hx32.size;have zhF:=(Ext.refl v32).alloc (.cells #[x] 9);refine hK.out _ _ hx33 ?_;refine pT ?_;have zhK:=zg zhK zhF;have zhL:=zg zhL zhF;have hbs:v32.heap.size<(v32.alloc (.cells #[x] 9)).heap.size:=sM;generalize hbe:v32.heap.size=bo9 at *;generalize v32.alloc _=v33 at *;have hne_ba9_bo9:Hid (ba9≠bo9):=za (oH zhH.out);have hne_bc9_bo9:Hid (bc9≠bo9):=za (oH zhI.out);have zhH:Hid (ba9<v33.heap.size):=za (oH zhH.out);have zhI:Hid (bc9<v33.heap.size):=za (oH zhI.out);have zhJ:Hid (bo9<v33.heap.size):=za hbs;exact yF11b1
 ):P:=h
theorem yF11a2 {P:Prop}(h:P:=by
 clear hbs zhF hbe;refine zm (fun K hK=>?_) (fun K hK=>?_)
 ·skip;refine zu _ _ _ _ rfl w1.heap.size 9 _ 1 16 Tryz.underlying88 zn rfl dM (.slice (some ba9) 0 0) 0 [] rfl zhK _ _ R nr cr (zM rows) rfl (HR1.out v32 hx32) (zt _) lM oM hx32.size ?_;intro v9 v33 owna8 hg hat;rw [Nat.zero_add,List.nil_append] at owna8;obtain⟨Aa9,ca9,rfl⟩:=zi owna8;have hx33:=hx32.grown hg (fun k hk=>(zhK.lt k hk).1);have hsz:=hg.size;have hbs:Hid (v32.heap.size=v32.heap.size):=za rfl;have owno9:=zf owno9 (Frm.ae hg) (fun k hk hS=>by simp [Value.ownBlock] at hk hS;exact hne_ba9_bo9.out (hS.trans hk.symm));generalize hbe:v32.heap.size=na9 at *;have hne_ba9_na9:Hid (ba9≠na9):=za (oH zhH.out);have hne_bo9_na9:Hid (bo9≠na9):=za (oH zhJ.out);have zhH:Hid (ba9<v33.heap.size):=za (oH zhH.out);have zhJ:Hid (bo9<v33.heap.size):=za (oH zhJ.out);have hrn_a_bo9:Hid (∀ k,(Value.slice Aa9 nr ca9).ownBlock=some k->k≠bo9):=za (fun k hk=>by rcases hat with h1|h1;(rw [h1] at hk;simp [Value.ownBlock] at hk;rw [← hk];exact hne_ba9_bo9.out);(rw [h1] at hk;rw [← Option.some.inj hk];exact (Ne.symm hne_bo9_na9.out)))
  have hrl_a:Hid (∀ k,(Value.slice Aa9 nr ca9).ownBlock=some k->k<v33.heap.size):=za (fun k hk=>(owna8.lt k hk).2);clear hbs hsz hbe;refine hK.out _ _ hx33 ?_;refine pT ?_;have zhK:=owna8;refine zd fun K hK=>?_;go_simp;have hx34:=hx33.alloc (.cells #[] 9);have zhL:=zo (World.ownsRow_lit v33 (e:=9) (size:=1) #[] 0 (Nat.le_refl _) lM rfl) hx33.size;have zhF:=(Ext.refl v33).alloc (.cells #[] 9);refine hK.out _ _ hx34 ?_;refine pT ?_;have zhK:=zg zhK zhF;have owno9:=zg owno9 zhF;have hbs:v33.heap.size<(v33.alloc (.cells #[] 9)).heap.size:=sM;generalize hbe:v33.heap.size=bc9 at *;generalize v33.alloc _=v34 at *;have zhQ:Hid (ba9≠bc9):=za (oH zhH.out);have hne_bc9_bo9:Hid (bc9≠bo9):=za (oH zhJ.out);have hrn_a_bc9:Hid (∀ k,(Value.slice Aa9 nr ca9).ownBlock=some k->k≠bc9):=za (fun k hk=>by have:=hrl_a.out k hk;omega);have zhH:Hid (ba9<v34.heap.size):=za (oH zhH.out);have zhJ:Hid (bo9<v34.heap.size):=za (oH zhJ.out);have hrl_a:Hid (∀ k,(Value.slice Aa9 nr ca9).ownBlock=some k->k<v34.heap.size):=za (fun k hk=>(zhK.lt k hk).2);have zhI:Hid (bc9<v34.heap.size):=za hbs;exact yF11b3
 ·go_simp;have hx33:=hx32.alloc (.cells #[] 9);have zhL:=zo (World.ownsRow_lit v32 (e:=9) (size:=1) #[] 0 (Nat.le_refl _) lM rfl) hx32.size;have zhF:=(Ext.refl v32).alloc (.cells #[] 9);refine hK.out _ _ hx33 ?_;refine pT ?_;have zhK:=zg zhK zhF;have owno9:=zg owno9 zhF;have hbs:v32.heap.size<(v32.alloc (.cells #[] 9)).heap.size:=sM;generalize hbe:v32.heap.size=bc9 at *;generalize v32.alloc _=v33 at *;have zhQ:Hid (ba9≠bc9):=za (oH zhH.out);have hne_bc9_bo9:Hid (bc9≠bo9):=za (oH zhJ.out);have zhH:Hid (ba9<v33.heap.size):=za (oH zhH.out);have zhJ:Hid (bo9<v33.heap.size):=za (oH zhJ.out);have zhI:Hid (bc9<v33.heap.size):=za hbs;exact yF11b1
 ):P:=h
theorem yF11a3 {P:Prop}(h:P:=by
 clear hbs zhF hbe;refine zd fun K hK=>?_;go_simp;have hx33:=hx32.alloc (.cells #[] 9);have zhK:=zo (World.ownsRow_lit v32 (e:=9) (size:=1) #[] 0 (Nat.le_refl _) lM rfl) hx32.size;have zhF:=(Ext.refl v32).alloc (.cells #[] 9);refine hK.out _ _ hx33 ?_;refine pT ?_;have zhL:=zg zhL zhF;have owno9:=zg owno9 zhF;have hbs:v32.heap.size<(v32.alloc (.cells #[] 9)).heap.size:=sM;generalize hbe:v32.heap.size=ba9 at *;generalize v32.alloc _=v33 at *;have zhQ:Hid (ba9≠bc9):=za (oH zhI.out);have hne_ba9_bo9:Hid (ba9≠bo9):=za (oH zhJ.out);have zhI:Hid (bc9<v33.heap.size):=za (oH zhI.out);have zhJ:Hid (bo9<v33.heap.size):=za (oH zhJ.out);have zhH:Hid (ba9<v33.heap.size):=za hbs;exact yF11b1
 ):P:=h
theorem yF11a4 {P:Prop}(h:P:=by
 exact yF11b3
 ):P:=h
theorem yF11a5 {P:Prop}(h:P:=by
 clear hgo
 go_enter Tryz.func152,Tryz.ntmps152
 go_upto_region 1 with fail
 generalize ((w.alloc _).alloc _).alloc _=w0 at *;have CB:=b1.cells;have CT:=b2.cells;have hb3:=b3.lt;have hww:=Ext.refl w0;go_upto_region 2 with (first
  |(go_at_call 211;refine (HV.out _ hx0).mono (mQ fun wa hxa=>?_))
  |(go_at_call 226;refine (HWd.out _ (hx0.trans hxa)).mono (mQ fun w1 hxb=>?_);have hx01:=hxa.trans hxb)
  |(go_at_call 228;refine (HIn.out _ (hx0.trans hx01)).mono ?_;rintro e wc ⟨rfl,rfl⟩))
 have bz:=b3.ext hx01;have kz:=bz.cell;have fz:=bz.frozen;have cf:=(show Blk ((w1.setCell ⟨w.heap.size+1+1,0,none⟩ ()).setCell ⟨w.heap.size+1+1,1,none⟩ ()) (w.heap.size+1+1) 90 #[(),()] by simpa using (bz.ab 0 (.slice none 0 0)).ab 1 (.slice none 0 0)).cell;have hret:=za (show zbV w none (.returned (.tuple #[.agg #[(),()],.bool false])) ((w1.setCell ⟨w.heap.size+1+1,0,none⟩ ()).setCell ⟨w.heap.size+1+1,1,none⟩ ()) from
  ⟨((hx0.trans hx01).setCell (p:=⟨w.heap.size+1+1,0,none⟩) (by dsimp only;omega) _).setCell (p:=⟨w.heap.size+1+1,1,none⟩) (by dsimp only;omega) _,.inl ⟨rfl,rfl⟩⟩)
 go_wp2_with fail
 exact bodyPost_ret (v:=.tuple #[.agg #[(),()],.bool false]) (by simp [results,Tryz.results152,go_sem,cf]) rfl hret.out
 ):P:=h
theorem zgy (h:Tch w A n B m B' m' s p L)(hT:TabAt w R nr C nc rows cols)(hI:zcT L (zr s p L) rows cols)(hcr:nr<=cr)(hcc:nc<=cc)(hx:x.size<=9223372036854775807) :
  Calls Tryz.prog 152 #[.agg #[.bool false,(0:Int),(),(),s.al,s.st,.slice A n c,p.al,.slice B m d,.slice B' m' d',L],.agg #[.slice R nr cr,.slice C nc cc],x] w (zbV w (if zgt L cols x=true then some (rows,cols++[x]) else none)):=by
 obtain⟨Q,J⟩:=hT.nr;have D:=hI.r12;have z:=hI.c20;rw [Q] at D;rw [J] at z;have HV:=za (fun W (hW:Ext w W)=>zbC (c:=c) (d:=d) (d':=d') (h.ext hW) (hT.ext hW) hI hcr hcc);have HWd:=za (fun W (hW:Ext w W)=>zfg (c:=c) (d:=d) (d':=d') (h.ext hW) hx);obtain⟨lo,hi,aa,Y,h1,S⟩:=hT;have V:=za (fun W (hW:Ext w W)=>h1.ext hW);have O:=za (fun W (hW:Ext w W)=>S.ext hW);have f:=za (show zgt L cols x=((inB x L&&decide (x.size<=4000))&&(!zfW cols x&&decide (nc≠20))) by unfold zgt;rw [J]);have hx0:Ext w (((w.alloc (.cells #[.bool false,(0:Int),(),(),s.al,s.st,.slice A n c,p.al,.slice B m d,.slice B' m' d',L] 87)).alloc (.cells #[.slice R nr cr,.slice C nc cc] 90)).alloc (.cells #[(),()] 90)):=(((cY _).alloc _).alloc _).alloc _;obtain⟨b1,b2,b3⟩:=zaa (cY (((w.alloc (.cells #[.bool false,(0:Int),(),(),s.al,s.st,.slice A n c,p.al,.slice B m d,.slice B' m' d',L] 87)).alloc (.cells #[.slice R nr cr,.slice C nc cc] 90)).alloc (.cells #[(),()] 90)));clear h h1 S hI Q J;obtain⟨F,t⟩:∃ F,Hid (zgt L cols x=F):=⟨_,rfl⟩;rw [t.out] at f ⊢;obtain⟨G,u⟩:∃ G,Hid ((inB x L&&decide (x.size<=4000))=G):=⟨_,rfl⟩;rw [u.out] at HWd f;obtain⟨E,i⟩:∃ E,Hid (zfW cols x=E):=⟨_,rfl⟩;rw [i.out] at f;have HIn:=za (fun W (hW:Ext w W)=>zcM (c:=cc) (x:=x) (O.out W hW));rw [i.out] at HIn
 by_cases hgo:G=true∧E=false∧nc≠20
 ·obtain⟨rfl,rfl,r⟩:=hgo;have l:=za (show F=true by rw [f.out];simpa using r);rw [l.out,if_pos rfl];have T:((nc:Int)==20)=false:=by simp;omega
  clear r f t l u i
  go_enter Tryz.func152,Tryz.ntmps152
  go_upto_region 1 with fail
  generalize ((w.alloc _).alloc _).alloc _=w0 at *;have CB:=b1.cells;have CT:=b2.cells;have hb3:=b3.lt;have hww:=cY w0;go_upto_region 3 with (first
   |(go_at_call 211;refine (HV.out _ hx0).mono (mQ fun wa hxa=>?_))
   |(go_at_call 226;refine (HWd.out _ (hx0.trans hxa)).mono (mQ fun w1 hxb=>?_);have hx01:=hxa.trans hxb)
   |(go_at_call 228;refine (HIn.out _ (hx0.trans hx01)).mono ?_;rintro e wc ⟨rfl,rfl⟩))
  have hx1:=hx0.trans hx01;have Z:=hx01.size;have HR1:=za (fun W (hW:Ext w1 W)=>V.out W (hx1.trans hW));have HC1:=za (fun W (hW:Ext w1 W)=>O.out W (hx1.trans hW));have U:=fun W (hW:Ext w1 W)=>CT W (hx01.trans hW)
  go_cut [7] (fun v wx=>AddV w (w.heap.size+1+1) rows (cols++[x]) nr (nc+1) v wx)
  case first =>
   clear CB CT hww HV HWd HIn hxa hxb;have y:Ext w1 w1.drew:=(cY w1).drew;refine uR (fun X=>Ext w1 X) [12] (zv.app [1,2,5,6,8] (zv.three 0 (zv.three 3 (zv.two 4 (zv.two 7 (zv.of [9,10,11,12,13]) 9 (zv.of [7,10,11,12,13])) 9 (zv.of [4,7,10,11,12,13])) 4 (zv.two 3 (zv.two 7 (zv.of [9,10,11,12,13]) 9 (zv.of [7,10,11,12,13])) 9 (zv.of [3,7,10,11,12,13])) 9 (zv.two 3 (zv.of [4,7,10,11,12,13]) 4 (zv.of [3,7,10,11,12,13]))) 4 (zv.two 0 (zv.two 3 (zv.two 7 (zv.of [9,10,11,12,13]) 9 (zv.of [7,10,11,12,13])) 9 (zv.of [3,7,10,11,12,13])) 9 (zv.of [0,3,7,10,11,12,13])) 9 (zv.two 0 (zv.two 3 (zv.of [4,7,10,11,12,13]) 4 (zv.of [3,7,10,11,12,13])) 4 (zv.of [0,3,7,10,11,12,13])))) ?_;generalize w1.drew=g at *;refine uQ ?_;refine zax (fun K hK=>?_) (fun K hK=>?_) (fun K hK=>?_)
   ·go_simp;have b:=y.alloc (.cells #[] 9);have zhK:=zo (World.ownsRow_lit g (e:=9) (size:=1) #[] 0 (dD _) lM rfl) y.size;have zhF:=(cY g).alloc (.cells #[] 9);refine hK.out _ _ b ?_;refine pT ?_;have hbs:g.heap.size<(g.alloc (.cells #[] 9)).heap.size:=sM;generalize hbe:g.heap.size=ba9 at *;generalize g.alloc _=a at *;have zhH:Hid (ba9<a.heap.size):=za hbs;clear hbs zhF hbe;refine zax (fun K hK=>?_) (fun K hK=>?_) (fun K hK=>?_)
    ·skip;refine zu _ _ _ _ rfl w1.heap.size 9 _ 1 16 Tryz.underlying88 zn rfl dM (.slice (some ba9) 0 0) 0 [] rfl zhK _ _ R nr cr (zM rows) rfl (HR1.out a b) (zt _) lM oM b.size ?_;intro v9 v32 owna8 hg hat;rw [Nat.zero_add,List.nil_append] at owna8;obtain⟨Aa9,ca9,rfl⟩:=zi owna8;have hx32:=b.grown hg (fun k hk=>(zhK.lt k hk).1);have hsz:=hg.size;have hbs:Hid (a.heap.size=a.heap.size):=za rfl;generalize hbe:a.heap.size=na9 at *;have hne_ba9_na9:Hid (ba9≠na9):=za (oH zhH.out);have zhH:Hid (ba9<v32.heap.size):=za (oH zhH.out);have hrl_a:Hid (∀ k,(Value.slice Aa9 nr ca9).ownBlock=some k->k<v32.heap.size):=za (fun k hk=>(owna8.lt k hk).2);clear hbs hsz hbe;refine hK.out _ _ hx32 ?_;refine pT ?_;have zhK:=owna8;refine zm (fun K hK=>?_) (fun K hK=>?_)
     ·go_simp;have hx33:=hx32.alloc (.cells #[] 9);have zhL:=zo (World.ownsRow_lit v32 (e:=9) (size:=1) #[] 0 (dD _) lM rfl) hx32.size;have zhF:=(cY v32).alloc (.cells #[] 9);refine hK.out _ _ hx33 ?_;refine pT ?_;have zhK:=zg zhK zhF;have hbs:v32.heap.size<(v32.alloc (.cells #[] 9)).heap.size:=sM;generalize hbe:v32.heap.size=bc9 at *;generalize v32.alloc _=v33 at *;have zhQ:Hid (ba9≠bc9):=za (oH zhH.out);have hrn_a_bc9:Hid (∀ k,(Value.slice Aa9 nr ca9).ownBlock=some k->k≠bc9):=za (fun k hk=>by have:=hrl_a.out k hk;omega);have zhH:Hid (ba9<v33.heap.size):=za (oH zhH.out);have hrl_a:Hid (∀ k,(Value.slice Aa9 nr ca9).ownBlock=some k->k<v33.heap.size):=za (fun k hk=>(zhK.lt k hk).2);have zhI:Hid (bc9<v33.heap.size):=za hbs;clear hbs zhF hbe;refine zm (fun K hK=>?_) (fun K hK=>?_)
      ·exact yF11b2
      ·go_simp;have hx34:=hx33.alloc (.cells #[x] 9);have owno9:=zo (World.ownsRow_lit v33 (e:=9) (size:=1) #[x] 1 (dD _) lM rfl) hx33.size;have zhF:=(cY v33).alloc (.cells #[x] 9);refine hK.out _ _ hx34 ?_;refine pT ?_;have zhK:=zg zhK zhF;have zhL:=zg zhL zhF;have hbs:v33.heap.size<(v33.alloc (.cells #[x] 9)).heap.size:=sM;generalize hbe:v33.heap.size=bo9 at *;generalize v33.alloc _=v34 at *;have hne_ba9_bo9:Hid (ba9≠bo9):=za (oH zhH.out);have hne_bc9_bo9:Hid (bc9≠bo9):=za (oH zhI.out);have zhH:Hid (ba9<v34.heap.size):=za (oH zhH.out);have zhI:Hid (bc9<v34.heap.size):=za (oH zhI.out);have hrl_a:Hid (∀ k,(Value.slice Aa9 nr ca9).ownBlock=some k->k<v34.heap.size):=za (fun k hk=>(zhK.lt k hk).2);have zhJ:Hid (bo9<v34.heap.size):=za hbs;exact yF11a4
     ·go_simp;have hx33:=hx32.alloc (.cells #[x] 9);have owno9:=zo (World.ownsRow_lit v32 (e:=9) (size:=1) #[x] 1 (dD _) lM rfl) hx32.size;have zhF:=(cY v32).alloc (.cells #[x] 9);refine hK.out _ _ hx33 ?_;refine pT ?_;have zhK:=zg zhK zhF;have hbs:v32.heap.size<(v32.alloc (.cells #[x] 9)).heap.size:=sM;generalize hbe:v32.heap.size=bo9 at *;generalize v32.alloc _=v33 at *;have hne_ba9_bo9:Hid (ba9≠bo9):=za (oH zhH.out);have zhH:Hid (ba9<v33.heap.size):=za (oH zhH.out);have hrl_a:Hid (∀ k,(Value.slice Aa9 nr ca9).ownBlock=some k->k<v33.heap.size):=za (fun k hk=>(zhK.lt k hk).2);have zhJ:Hid (bo9<v33.heap.size):=za hbs;clear hbs zhF hbe;refine zd fun K hK=>?_;go_simp;have hx34:=hx33.alloc (.cells #[] 9);have zhL:=zo (World.ownsRow_lit v33 (e:=9) (size:=1) #[] 0 (dD _) lM rfl) hx33.size;have zhF:=(cY v33).alloc (.cells #[] 9);refine hK.out _ _ hx34 ?_;refine pT ?_;have zhK:=zg zhK zhF;have owno9:=zg owno9 zhF;have hbs:v33.heap.size<(v33.alloc (.cells #[] 9)).heap.size:=sM;generalize hbe:v33.heap.size=bc9 at *;generalize v33.alloc _=v34 at *;have zhQ:Hid (ba9≠bc9):=za (oH zhH.out);have hne_bc9_bo9:Hid (bc9≠bo9):=za (oH zhJ.out);have hrn_a_bc9:Hid (∀ k,(Value.slice Aa9 nr ca9).ownBlock=some k->k≠bc9):=za (fun k hk=>by have:=hrl_a.out k hk;omega);have zhH:Hid (ba9<v34.heap.size):=za (oH zhH.out);have zhJ:Hid (bo9<v34.heap.size):=za (oH zhJ.out);have hrl_a:Hid (∀ k,(Value.slice Aa9 nr ca9).ownBlock=some k->k<v34.heap.size):=za (fun k hk=>(zhK.lt k hk).2);have zhI:Hid (bc9<v34.heap.size):=za hbs;exact yF11a4
    ·go_simp;have hx32:=b.alloc (.cells #[] 9);have zhL:=zo (World.ownsRow_lit a (e:=9) (size:=1) #[] 0 (dD _) lM rfl) b.size;have zhF:=(cY a).alloc (.cells #[] 9);refine hK.out _ _ hx32 ?_;refine pT ?_;have zhK:=zg zhK zhF;have hbs:a.heap.size<(a.alloc (.cells #[] 9)).heap.size:=sM;generalize hbe:a.heap.size=bc9 at *;generalize a.alloc _=v32 at *;have zhQ:Hid (ba9≠bc9):=za (oH zhH.out);have zhH:Hid (ba9<v32.heap.size):=za (oH zhH.out);have zhI:Hid (bc9<v32.heap.size):=za hbs;exact yF11a1
    ·go_simp;have hx32:=b.alloc (.cells #[x] 9);have owno9:=zo (World.ownsRow_lit a (e:=9) (size:=1) #[x] 1 (dD _) lM rfl) b.size;have zhF:=(cY a).alloc (.cells #[x] 9);refine hK.out _ _ hx32 ?_;refine pT ?_;have zhK:=zg zhK zhF;have hbs:a.heap.size<(a.alloc (.cells #[x] 9)).heap.size:=sM;generalize hbe:a.heap.size=bo9 at *;generalize a.alloc _=v32 at *;have hne_ba9_bo9:Hid (ba9≠bo9):=za (oH zhH.out);have zhH:Hid (ba9<v32.heap.size):=za (oH zhH.out);have zhJ:Hid (bo9<v32.heap.size):=za hbs;exact yF11a2
   ·go_simp;have b:=y.alloc (.cells #[] 9);have zhL:=zo (World.ownsRow_lit g (e:=9) (size:=1) #[] 0 (dD _) lM rfl) y.size;have zhF:=(cY g).alloc (.cells #[] 9);refine hK.out _ _ b ?_;refine pT ?_;have hbs:g.heap.size<(g.alloc (.cells #[] 9)).heap.size:=sM;generalize hbe:g.heap.size=bc9 at *;generalize g.alloc _=a at *;have zhI:Hid (bc9<a.heap.size):=za hbs;clear hbs zhF hbe;refine zm (fun K hK=>?_) (fun K hK=>?_)
    ·go_simp;have hx32:=b.alloc (.cells #[] 9);have zhK:=zo (World.ownsRow_lit a (e:=9) (size:=1) #[] 0 (dD _) lM rfl) b.size;have zhF:=(cY a).alloc (.cells #[] 9);refine hK.out _ _ hx32 ?_;refine pT ?_;have zhL:=zg zhL zhF;have hbs:a.heap.size<(a.alloc (.cells #[] 9)).heap.size:=sM;generalize hbe:a.heap.size=ba9 at *;generalize a.alloc _=v32 at *;have zhQ:Hid (ba9≠bc9):=za (oH zhI.out);have zhI:Hid (bc9<v32.heap.size):=za (oH zhI.out);have zhH:Hid (ba9<v32.heap.size):=za hbs;exact yF11a1
    ·go_simp;have hx32:=b.alloc (.cells #[x] 9);have owno9:=zo (World.ownsRow_lit a (e:=9) (size:=1) #[x] 1 (dD _) lM rfl) b.size;have zhF:=(cY a).alloc (.cells #[x] 9);refine hK.out _ _ hx32 ?_;refine pT ?_;have zhL:=zg zhL zhF;have hbs:a.heap.size<(a.alloc (.cells #[x] 9)).heap.size:=sM;generalize hbe:a.heap.size=bo9 at *;generalize a.alloc _=v32 at *;have hne_bc9_bo9:Hid (bc9≠bo9):=za (oH zhI.out);have zhI:Hid (bc9<v32.heap.size):=za (oH zhI.out);have zhJ:Hid (bo9<v32.heap.size):=za hbs;exact yF11a3
   ·go_simp;have b:=y.alloc (.cells #[x] 9);have owno9:=zo (World.ownsRow_lit g (e:=9) (size:=1) #[x] 1 (dD _) lM rfl) y.size;have zhF:=(cY g).alloc (.cells #[x] 9);refine hK.out _ _ b ?_;refine pT ?_;have hbs:g.heap.size<(g.alloc (.cells #[x] 9)).heap.size:=sM;generalize hbe:g.heap.size=bo9 at *;generalize g.alloc _=a at *;have zhJ:Hid (bo9<a.heap.size):=za hbs;clear hbs zhF hbe;refine zm (fun K hK=>?_) (fun K hK=>?_)
    ·go_simp;have hx32:=b.alloc (.cells #[] 9);have zhK:=zo (World.ownsRow_lit a (e:=9) (size:=1) #[] 0 (dD _) lM rfl) b.size;have zhF:=(cY a).alloc (.cells #[] 9);refine hK.out _ _ hx32 ?_;refine pT ?_;have owno9:=zg owno9 zhF;have hbs:a.heap.size<(a.alloc (.cells #[] 9)).heap.size:=sM;generalize hbe:a.heap.size=ba9 at *;generalize a.alloc _=v32 at *;have hne_ba9_bo9:Hid (ba9≠bo9):=za (oH zhJ.out);have zhJ:Hid (bo9<v32.heap.size):=za (oH zhJ.out);have zhH:Hid (ba9<v32.heap.size):=za hbs;exact yF11a2
    ·go_simp;have hx32:=b.alloc (.cells #[] 9);have zhL:=zo (World.ownsRow_lit a (e:=9) (size:=1) #[] 0 (dD _) lM rfl) b.size;have zhF:=(cY a).alloc (.cells #[] 9);refine hK.out _ _ hx32 ?_;refine pT ?_;have owno9:=zg owno9 zhF;have hbs:a.heap.size<(a.alloc (.cells #[] 9)).heap.size:=sM;generalize hbe:a.heap.size=bc9 at *;generalize a.alloc _=v32 at *;have hne_bc9_bo9:Hid (bc9≠bo9):=za (oH zhJ.out);have zhJ:Hid (bo9<v32.heap.size):=za (oH zhJ.out);have zhI:Hid (bc9<v32.heap.size):=za hbs;exact yF11a3
  case rest =>
   obtain⟨I,q,H,o,rfl,bz,oR,oC,M⟩:=hcut;have hret:=za (show zbV w (some (rows,cols++[x])) (.returned (.tuple #[.agg #[.slice I nr q,.slice H (nc+1) o],.bool true])) wc from ⟨M,.inr ⟨rows,cols++[x],nr,nc+1,I,q,H,o,rfl,rfl,oR,oC⟩⟩);have cf:=bz.cell;go_wp2_with fail
   exact bodyPost_ret (v:=.tuple #[.agg #[.slice I nr q,.slice H (nc+1) o],.bool true]) (by simp [results,Tryz.results152,go_sem,cf]) rfl hret.out
 ·have j:=za (show F=false by
   rw [f.out,Bool.eq_false_iff];intro h;simp only [dF,fY,decide_eq_true_eq] at h;exact hgo ⟨h.1,h.2.1,h.2.2⟩)
  rw [j.out,if_neg dM];clear f t j u i;cases G
  ·exact yF11a5
  ·cases E
   ·have r:((nc:Int)==20)=true:=by
     have:nc=20:=Decidable.byContradiction fun h=>hgo ⟨rfl,rfl,h⟩;rw [this];rfl
    exact yF11a5
   ·exact yF11a5
noncomputable def zbB (L:Nat) (f:ByteArray->Bool) (rows cols:List ByteArray) (x:ByteArray):Option (List ByteArray × List ByteArray):=
 match zdm L f rows cols x with
 |none=>none
 |some col=>if zgt L cols col=true then (zar L f (cols++[col]) (12 - rows.length) rows).map fun r=>(r,cols++[col]) else none
end
theorem zfE {base:Nat} {e:TypeId} {size n c:Nat} {A:Option Addr} {xs:List Value}(h:w.ownsRow base e size (.slice A n c) n xs):n<=c:=by
 rcases h.2 with ⟨h1,d⟩|⟨g,a,b,h1,_,_,f,_⟩
 ·omega
 ·injection h1 with _ _ h3;omega
theorem splitT_size {y:ByteArray}(h:zdm L f rows cols x=some y):y.size<=4000:=by
 unfold zdm at h
 split at h
 ·rename_i hc;have h1:=hc.1;simp only [dF,decide_eq_true_eq] at h1;obtain⟨k,-,rfl⟩:=Option.map_eq_some_iff.1 h;rw [ByteArray.size_extract];omega
 ·cases h
theorem zhy (hx:Ext w W)(hb:Blk W Z 90 #[u,v])(hZ:w.heap.size<=Z) :
  Hid (zbV w none (.returned (.tuple #[.agg #[(),()],.bool false])) ((W.setCell Z ()).setCell ⟨Z,1,none⟩ ())) ∧
  Blk ((W.setCell Z ()).setCell ⟨Z,1,none⟩ ()) Z 90 #[.slice none 0 0,.slice none 0 0]:=
 ⟨za ⟨(hx.setCell (p:=⟨Z,0,none⟩) hZ _).setCell (p:=⟨Z,1,none⟩) hZ _,.inl ⟨rfl,rfl⟩⟩,by simpa using (hb.ab 0 (.slice none 0 0)).ab 1 (.slice none 0 0)⟩
theorem tab_some {rs cs:List ByteArray} {o:Option (List ByteArray × List ByteArray)} (hx:Ext w W)(hb:Blk W Z 90 #[u,v])(hZ:w.heap.size<=Z)(ho:o=some (rs,cs))(hw:w.heap.size<=w1.heap.size)
  (hR:W.ownsRow w1.heap.size 9 1 (.slice R nr cr) nr (zM rs)) (hC:W.ownsRow w1.heap.size 9 1 (.slice C nc cc) nc (zM cs)) :
  Hid (zbV w o (.returned (.tuple #[.agg #[.slice R nr cr,.slice C nc cc],.bool true])) ((W.setCell Z (.slice R nr cr)).setCell ⟨Z,1,none⟩ (.slice C nc cc))) ∧
  Blk ((W.setCell Z (.slice R nr cr)).setCell ⟨Z,1,none⟩ (.slice C nc cc)) Z 90 #[.slice R nr cr,.slice C nc cc]:=by
 have a:Frm (fun k=>k=Z) W ((W.setCell Z (.slice R nr cr)).setCell ⟨Z,1,none⟩ (.slice C nc cc)):=(dE W _ 0 _).trans (dE _ _ 1 _);exact⟨za ⟨(hx.setCell (p:=⟨Z,0,none⟩) hZ _).setCell (p:=⟨Z,1,none⟩) hZ _,.inr ⟨rs,cs,nr,nc,R,cr,C,cc,ho,rfl,zo (zf hR a (fun b hv e=>zp hR hb dM hv e)) hw,zo (zf hC a (fun b hv e=>zp hC hb dM hv e)) hw⟩⟩,by simpa using (hb.ab 0 (.slice R nr cr)).ab 1 (.slice C nc cc)⟩
section
variable {w W:World} {n c m d m' d' L:Nat} {A B B':Option Addr} {s:Sys} {p:Aut} {nr nc cr cc:Nat} {R C:Option Addr} {rows cols:List ByteArray}
theorem yF11a6 {P:Prop}(h:P:=by
 go_wp2_with fail
 exact bodyPost_ret (v:=.tuple #[.agg #[(),()],.bool false]) (by simp [results,Tryz.results64,go_sem,cf]) rfl hret.out
 ):P:=h
theorem zdS (h:Tch w A n B m B' m' s p L)(hT:TabAt w R nr C nc rows cols)(hI:zcT L (zr s p L) rows cols)(hcr:nr<=cr)(hcc:nc<=cc)(hcl:zaZ L (zr s p L) rows cols=none)(hx:x.size<=9223372036854775807) :
  Calls Tryz.prog 64 #[.agg #[.bool false,(0:Int),(),(),s.al,s.st,.slice A n c,p.al,.slice B m d,.slice B' m' d',L],.agg #[.slice R nr cr,.slice C nc cc],x] w (zbV w (zbB L (zr s p L) rows cols x)):=by
 have k:=za (fun W (hW:Ext w W)=>zgB (c:=c) (d:=d) (d':=d') (cr:=cr) (cc:=cc) (x:=x) (h.ext hW) (hT.ext hW) hI hcr hcc hcl hx);have z:=za (fun (y:ByteArray) W (hW:Ext w W) hy=>zgy (c:=c) (d:=d) (d':=d') (cr:=cr) (cc:=cc) (x:=y) (h.ext hW) (hT.ext hW) hI hcr hcc hy);have O:=za (fun (R:Option Addr) (nr cr:Nat) (C:Option Addr) (nc cc:Nat) (rows cols:List ByteArray) W (hW:Ext w W) hT hI (hcr:nr<=cr) (hcc:nc<=cc)=>zdw (c:=c) (d:=d) (d':=d') (nr:=nr) (nc:=nc) (R:=R) (C:=C) (cr:=cr) (cc:=cc) (rows:=rows) (cols:=cols) (h.ext hW) hT hI hcr hcc);have HI:=za (fun col (ha:zgt L cols col=true)=>hI.addC ha);have b:=za (show zbB L (zr s p L) rows cols x=match zdm L (zr s p L) rows cols x with
  |none=>none
  |some col=>if zgt L cols col=true then (zar L (zr s p L) (cols++[col]) (12 - rows.length) rows).map fun r=>(r,cols++[col]) else none from rfl)
 have T:=za (fun y (hy:zdm L (zr s p L) rows cols x=some y)=>splitT_size hy);generalize zbB L (zr s p L) rows cols x=q at *;have hx0:Ext w (((w.alloc (.cells #[.bool false,(0:Int),(),(),s.al,s.st,.slice A n c,p.al,.slice B m d,.slice B' m' d',L] 87)).alloc (.cells #[.slice R nr cr,.slice C nc cc] 90)).alloc (.cells #[(),()] 90)):=(((cY _).alloc _).alloc _).alloc _;obtain⟨b1,b2,b3⟩:=zaa (cY (((w.alloc (.cells #[.bool false,(0:Int),(),(),s.al,s.st,.slice A n c,p.al,.slice B m d,.slice B' m' d',L] 87)).alloc (.cells #[.slice R nr cr,.slice C nc cc] 90)).alloc (.cells #[(),()] 90)));clear h hT hI hcl;cases hop:zdm L (zr s p L) rows cols x with
 |none =>
  rw [hop] at k b;have f:=za (show q=none from b.out);rw [f.out];clear b f hop
  go_enter Tryz.func64,Tryz.ntmps64
  go_upto_region 1 with fail
  generalize ((w.alloc _).alloc _).alloc _=w0 at *;have CB:=b1.cells;have CT:=b2.cells;have hww:=cY w0;go_upto_region 2 with (first
   |(go_at_call 151;refine (k.out _ hx0).mono (mQ fun w1 hx1=>?_)))
  have bz:=b3.ext hx1;have kz:=bz.cell;have fz:=bz.frozen;obtain⟨hret,t⟩:=zhy (hx0.trans hx1) bz oM;have cf:=t.cell;go_wp2_with fail
  exact bodyPost_ret (v:=.tuple #[.agg #[(),()],.bool false]) (by simp [results,Tryz.results64,go_sem,cf]) rfl hret.out
 |some col =>
  have hsz:=T.out col hop;rw [hop] at k b;cases hok:zgt L cols col
  ·have f:=za (show q=none by rw [b.out];simp [hok]);have j:=za (fun W (hW:Ext w W)=>z.out col W hW oM);rw [hok,if_neg dM] at j;rw [f.out];clear b f hop hok
   go_enter Tryz.func64,Tryz.ntmps64
   go_upto_region 1 with fail
   generalize ((w.alloc _).alloc _).alloc _=w0 at *;have CB:=b1.cells;have CT:=b2.cells;have hww:=cY w0;go_upto_region 5 with (first
    |(go_at_call 151;refine (k.out _ hx0).mono (mQ fun w1 hx1=>?_))
    |(go_at_call 152;refine (j.out _ (hx0.trans hx1)).mono ?_;rintro e w2 ⟨u,⟨-,rfl⟩|⟨_,_,_,_,_,_,_,_,l,_⟩⟩;rotate_left;exact absurd l sM;have g:=hx1.trans u))
   generalize U0:w2.alloc _=M at *;have i:=Ext.al_ U0;clear U0;have bz:=b3.ext (g.trans i);have kz:=bz.cell;have fz:=bz.frozen;obtain⟨hret,t⟩:=zhy ((hx0.trans g).trans i) bz oM;have cf:=t.cell;exact yF11a6
  ·have f:=za (show q=(zar L (zr s p L) (cols++[col]) (12 - rows.length) rows).map fun r=>(r,cols++[col]) by rw [b.out];simp [hok]);have j:=za (fun W (hW:Ext w W)=>z.out col W hW oM);rw [hok,if_pos rfl] at j;have Q:=za (HI.out col hok);clear b hop hok
   go_enter Tryz.func64,Tryz.ntmps64
   go_upto_region 1 with fail
   generalize ((w.alloc _).alloc _).alloc _=w0 at *;have CB:=b1.cells;have CT:=b2.cells;have hww:=cY w0;go_upto_region 5 with (first
    |(go_at_call 151;refine (k.out _ hx0).mono (mQ fun w1 hx1=>?_))
    |(go_at_call 152;refine (j.out _ (hx0.trans hx1)).mono ?_;rintro e w2 ⟨u,⟨l,_⟩|⟨rs,cs,Z,X,R2,ao,C2,an,l,rfl,I,G⟩⟩;exact absurd l sM;have g:=hx1.trans u;obtain⟨rfl,rfl⟩:=Prod.mk.inj (Option.some.inj l)))
   have E:=zfE I;have D:=zfE G;generalize U0:w2.alloc _=M at *;have bt:=Ext.bl_ U0;have i:=Ext.al_ U0;have J:=zg I i;have H:=zg G i;clear U0;have a:=g.trans i;have S:=za (show TabAt M R2 Z C2 X rows (cols++[col]) from ⟨_,_,_,_,dY J,dY H⟩);have ah:=fun W (hW:Ext M W)=>CB W (a.trans hW);have k2:=bt.cell;have ad:=cY M;clear I G J H;go_wp2_with fail
   refine (O.out _ _ _ _ _ _ rows (cols++[col]) _ (hx0.trans a) S.out Q.out E D).mono ?_;rintro e w4 ⟨o,⟨l,rfl⟩|⟨rs,cs,aa,Y,R3,V,C3,U,l,rfl,I,G⟩⟩
   ·have bz:=b3.ext (a.trans o);have kz:=bz.cell;have fz:=bz.frozen;obtain⟨hret,t⟩:=zhy ((hx0.trans a).trans o) bz oM;have F:=za (f.out.trans l);rw [← F.out] at hret;have cf:=t.cell;clear k2 l;exact yF11a6
   ·have bz:=b3.ext (a.trans o);have kz:=bz.cell;have fz:=bz.frozen;obtain⟨hret,t⟩:=tab_some ((hx0.trans a).trans o) bz oM (f.out.trans l) (hx0.trans a).size I G;have cf:=t.cell;clear k2 l;go_wp2_with fail
    exact bodyPost_ret (v:=.tuple #[.agg #[.slice R3 aa V,.slice C3 Y U],.bool true]) (by simp [results,Tryz.results64,go_sem,cf]) rfl hret.out
end
theorem tot_le6:∀ ls:List (List Int),(∀ l∈ls,l.length<=6)->tot ls<=ls.length*6
 |[],_=>by simp [tot]
 |l :: r,h=>by
  have:=tot_le6 r (fun x hx=>h x (by simp [hx]))
  have:=h l sM
  rw [show tot (l :: r)=l.length+tot r by simp [tot],List.length_cons,Nat.add_mul]
  omega
theorem zep {a:Aut}(h:zh a=true):a.size<=1048576:=by
 obtain⟨_,⟨_,h1⟩,f,b⟩:=zk h;have g:=tot_le6 a.next (fun l hl=>by
  obtain⟨q,d⟩:=List.getElem?_of_mem hl;obtain⟨c,_⟩:=b q l d;rw [c];exact zB _ _)
 unfold Aut.size;omega
def RetTask (w:World) (s:Sys) (p:Aut) (L:Nat) (e:Ending) (w':World):Prop:=
 ∃ (A:Option Addr) (n c:Nat) (B:Option Addr) (m d:Nat) (B':Option Addr) (m' d':Nat),e=.returned (.tuple #[.agg #[s.al,s.st,.slice A n c,p.al,.slice B m d,.slice B' m' d',L],.bool true])∧Tch w' A n B m B' m' s p L∧Ext w w'
section
variable {w:World} {lo hi n c lo1 hi1 m d m' d' lo2 hi2 k c2:Nat} {A B B' C:Option Addr} {s t:Sys} {p:Aut}
theorem spec_TaskOf (hs:zR w lo hi A n s)(hp:zE w lo1 hi1 B m B' m' p)(ht:zR w lo2 hi2 C k t)(hif:iface s p t=(L:Int))(hn:n<=1000000)(hhi:hi<=w.heap.size) :
  Calls Tryz.prog 202 #[.agg #[s.al,s.st,.slice A n c],.agg #[p.al,.slice B m d,.slice B' m' d'],.agg #[t.al,t.st,.slice C k c2]] w (RetTask w s p L):=by
 obtain⟨E,T,vt⟩:=zew (show 0<=iface s p t by omega);have hL:L<64:=by
  rw [zdp E T vt] at hif;have h1:=zI vt;have V:((s.al.toNat|||p.al.toNat)&&&t.al.toNat)<=t.al.toNat:=Nat.and_le_right;omega
 have z:=za (fun W (hW:Ext w W)=>zbU (c:=c) (d1:=d) (d1':=d') (c2:=c2) (hs.ext hW) (hp.ext hW) (ht.ext hW));rw [hif] at z;obtain⟨P,S⟩:∃ P:Nat,s.st=(P:Int):=⟨s.st.toNat,by have:=(zcu E).1;omega⟩;have I:P<=16:=by have:=(zcu E).2.1;omega
 have HK:=za (fun W (hW:Ext w W)=>spec_l2Keep (c:=c) (hs.ext hW) E S hn (Nat.le_trans hhi hW.size));have HC:=za (fun W (hW:Ext w W)=>zdi (c:=d) (c':=d') (hp.ext hW) (zep T));have hF:1<=2 ^ P∧2 ^ P<=65536:=⟨Nat.one_le_two_pow,by have:=Nat.pow_le_pow_right (show 1<=2 by omega) I;have V:(2:Nat) ^ 16=65536:=rfl;omega⟩;have G:=za (fun W=>zeY P oM W);have H:=za S;have Y:=za (And.intro E (And.intro T hL));rw [S] at z HK ⊢;generalize hFe:2 ^ P=F at *;have ah:IntKind.i64.wrap ((F:Int) - 1)=((F - 1:Nat):Int):=by rw [IntWalk.i64_in _ oM];omega
 clear hFe hs hp ht hif E T vt S;obtain⟨w0,U0⟩:∃ x,Hid ((((w.alloc (.cells #[s.al,.int .i64 (P:Nat),.slice A n c] 38)).alloc (.cells #[p.al,.slice B m d,.slice B' m' d'] 27)).alloc (.cells #[t.al,t.st,.slice C k c2] 38)).alloc (.cells #[(0:Int),(0:Int),(),(0:Int),(),(),(0:Int)] 70)=x):=⟨_,za rfl⟩;have hx0:Ext w w0:=(((((cY _).alloc _).alloc _).alloc _).alloc _).trans (Ext.eq_ U0.out);obtain⟨b1,b2,b3⟩:=zaa (((cY _).alloc _).trans (Ext.eq_ U0.out));have U:=Ext.bl_ U0.out;simp only [World.size_alloc] at U
 go_enter Tryz.func202,Tryz.ntmps202
 go_upto_region 1 with fail
 rw [U0.out] at *;have CS:=b1.cells;have CP:=b2.cells;have CT:=b3.cells;have hww:=cY w0;go_upto_region 4 with (first
  |(go_at_call 95;refine (z.out _ hx0).mono (mQ fun w1 hx01=>?_)))
 have hx1:=hx0.trans hx01;have ak:=fun W (hW:Ext w1 W)=>CS W (hx01.trans hW);have aj:=fun W (hW:Ext w1 W)=>CP W (hx01.trans hW);have Z:=cY w1;clear CS CP CT hww;refine uR (fun X=>Ext w1 X) [10] (zv.of [0,1,2,6,8,3,4,5,7,9,10,11]) ?_;refine uQ ?_;have o:=Z.drew;refine zd fun K hK=>?_;go_simp;refine (G.out _).mono ?_;rintro e w' ⟨rfl,rfl⟩;refine hK.out _ _ o ?_;refine pT ?_;refine uQ ?_;refine zd fun K hK=>?_;go_simp;refine (HK.out _ (hx1.trans o)).mono ?_;rintro e w2 ⟨i,j,r,rfl,M,aa⟩;rw [H.out];have f:=o.trans aa;refine hK.out _ _ f ?_;refine pT ?_;refine uQ ?_;refine zd fun K hK=>?_;go_simp;refine (HC.out _ (hx1.trans f)).mono ?_;rintro e g ⟨l,q,d1,a,b,d1',rfl,O,Q⟩;have h:=f.trans Q;refine hK.out _ _ h ?_;refine pT ?_;refine uQ ?_;have R:=hx1.trans h;have bz:=U.ext (hx01.trans h);have kz:=bz.cell;have fz:=bz.frozen;have D:=M.ext Q;have ao:=U.lt;have y:zR g w0.heap.size g.heap.size i j s:=(show zR g _ g.heap.size i j s from ⟨D.1,dY D.2⟩).more (hx01.trans o).size (dD _);have u:zE g w0.heap.size g.heap.size l q a b p:=O.reads.more (hx01.trans f).size (dD _);have ai:=hx0.size;have J:Frm (fun k=>k=w.heap.size+1+1+1) g (((((((g.setCell ⟨w.heap.size+1+1+1,0,none⟩ s.al).setCell ⟨w.heap.size+1+1+1,1,none⟩ (.int .i64 (P:Nat))).setCell ⟨w.heap.size+1+1+1,2,none⟩ (.slice i j r)).setCell ⟨w.heap.size+1+1+1,3,none⟩ p.al).setCell ⟨w.heap.size+1+1+1,4,none⟩ (.slice l q d1)).setCell ⟨w.heap.size+1+1+1,5,none⟩ (.slice a b d1')).setCell ⟨w.heap.size+1+1+1,6,none⟩ (.int .i64 (L:Nat))):=
  ((((((dE g _ 0 _).trans (dE _ _ 1 _)).trans (dE _ _ 2 _)).trans (dE _ _ 3 _)).trans (dE _ _ 4 _)).trans (dE _ _ 5 _)).trans (dE _ _ 6 _)
 have bW:Blk (((((((g.setCell ⟨w.heap.size+1+1+1,0,none⟩ s.al).setCell ⟨w.heap.size+1+1+1,1,none⟩ (.int .i64 (P:Nat))).setCell ⟨w.heap.size+1+1+1,2,none⟩ (.slice i j r)).setCell ⟨w.heap.size+1+1+1,3,none⟩ p.al).setCell ⟨w.heap.size+1+1+1,4,none⟩ (.slice l q d1)).setCell ⟨w.heap.size+1+1+1,5,none⟩ (.slice a b d1')).setCell ⟨w.heap.size+1+1+1,6,none⟩ (.int .i64 (L:Nat))) (w.heap.size+1+1+1) 70 #[.int .i64 s.al,.int .i64 (P:Nat),.slice i j r,.int .i64 p.al,.slice l q d1,.slice a b d1',.int .i64 (L:Nat)]:=by
  simpa using ((((((bz.ab 0 (.int .i64 s.al)).ab 1 (.int .i64 (P:Nat))).ab 2 (.slice i j r)).ab 3 (.int .i64 p.al)).ab 4 (.slice l q d1)).ab 5 (.slice a b d1')).ab 6 (.int .i64 (L:Nat))
 refine zb fun K hK=>?_;go_simp;generalize (((((((g.setCell ⟨w.heap.size+1+1+1,0,none⟩ s.al).setCell ⟨w.heap.size+1+1+1,1,none⟩ (.int .i64 (P:Nat))).setCell ⟨w.heap.size+1+1+1,2,none⟩ (.slice i j r)).setCell ⟨w.heap.size+1+1+1,3,none⟩ p.al).setCell ⟨w.heap.size+1+1+1,4,none⟩ (.slice l q d1)).setCell ⟨w.heap.size+1+1+1,5,none⟩ (.slice a b d1')).setCell ⟨w.heap.size+1+1+1,6,none⟩ (.int .i64 (L:Nat)))=W at *;have hret:=za (show RetTask w s p L (.returned (.tuple #[.agg #[s.al,.int .i64 (P:Nat),.slice i j r,p.al,.slice l q d1,.slice a b d1',.int .i64 (L:Nat)],.bool true])) W from
  ⟨i,j,r,l,q,d1,a,b,d1',by rw [H.out],⟨⟨w0.heap.size,g.heap.size,y.frm J (fun k h1 V e=>oM),u.frm J (fun k h1 V e=>oM),J.size⟩,Y.out.1,Y.out.2.1,Y.out.2.2⟩,R.frm J (fun k hk e=>oM)⟩)
 have cf:=bW.cell;clear J bW y u kz fz bz D M O R;refine hK.out _ _ ?_;clear hK;refine pT ?_;refine uQ ?_;refine ze ?_;go_wp2_with fail
 exact bodyPost_ret (v:=.tuple #[.agg #[s.al,.int .i64 (P:Nat),.slice i j r,p.al,.slice l q d1,.slice a b d1',.int .i64 (L:Nat)],.bool true]) (by simp [results,Tryz.results202,go_sem,cf]) rfl hret.out
end
end Go.Proofs.YtckbjnndaaoddaaGreatDoor
