/- The referenc -/
import Derived.Test.YtcfchopfijalpaaGreatDoorC09
import Derived.Test.YtcfchopfijalpaaGreatDoorC07
set_option maxHeartbeats 4000000
set_option maxRecDepth 100000
namespace Go.Proofs.YtcfchopfijalpaaGreatDoor
open Go Go.RowKit
theorem zW (a b:List ByteArray):zL (a++b)=zL a++zL b:=by simp [zL]
noncomputable def zfN (L:Nat) (cols:List ByteArray) (x:ByteArray):Bool:=(inB x L&&decide (x.size≤4000))&&(!zcm cols x&&decide (cols.length≠20))
theorem zfe (f:ByteArray→Bool) (cols:List ByteArray) (x y:ByteArray):zbq f (cols++[x]) y=zbq f cols y++[f (y++x)]:=by simp [zbq]
theorem zbz.addC {L:Nat} {f:ByteArray→Bool} {rows cols:List ByteArray} {x:ByteArray}(h:zbz L f rows cols)(ha:zfN L cols x=true):zbz L f rows (cols++[x]):=by
 unfold zfN at ha
 simp only [Bool.and_eq_true,decide_eq_true_eq,Bool.not_eq_true'] at ha
 obtain⟨⟨h1,h2⟩,h3,h4⟩:=ha
 rw [zbW] at h3
 refine⟨h.r1,h.r12,by simp,by have:=h.c20;simp;omega,h.r0,by rw [List.getElem?_append_left (by have:=h.c1;omega)];exact h.c0,h.rw_,fun i y hi hy=>?_,?_⟩
 ·rcases Nat.lt_or_ge i cols.length with h5|h5
  ·rw [List.getElem?_append_left h5] at hy
   obtain⟨h6,h7,h8⟩:=h.cw i y hi hy
   exact⟨h6,h7,by rw [List.take_append_of_le_length (by omega)];exact h8⟩
  ·rw [List.getElem?_append_right h5] at hy
   have hi2:i=cols.length:=by
    rcases Nat.eq_or_lt_of_le h5 with h6|h6
    ·exact h6.symm
    ·rw [List.getElem?_eq_none (by simp;omega)] at hy;cases hy
   subst hi2
   simp at hy
   subst hy
   exact⟨h1,h2,by rw [List.take_append_of_le_length (Nat.le_refl _),List.take_length];exact h3⟩
 ·have h5:=h.nd
  rw [List.nodup_iff_pairwise_ne,List.pairwise_map] at h5 ⊢
  refine h5.imp fun hne e=>hne ?_
  rw [zfe,zfe] at e
  exact (List.append_inj' e rfl).1
def AddV (w:World) (Z:Nat) (rows cols:List ByteArray) (nr nc:Nat) (v:Value) (W:World):Prop:=
 ∃ (R:Option Addr) (cr:Nat) (C:Option Addr) (cc:Nat),v=.bool true∧Blk W Z 101 #[.slice R nr cr,.slice C nc cc] ∧
  W.ownsRow w.heap.size 9 1 (.slice R nr cr) nr (zL rows)∧W.ownsRow w.heap.size 9 1 (.slice C nc cc) nc (zL cols)∧Ext w W
theorem zaI {w w1 W:World} {rows cols:List ByteArray} {nr nc g cr cc:Nat} {R C:Option Addr} {u v:Value}(ha:W.ownsRow w1.heap.size 9 1 (.slice R nr cr) nr (zL rows))(hc:W.ownsRow w1.heap.size 9 1 (.slice C nc cc) nc (zL cols))(hb:Blk W g 101 #[u,v])(hx:Ext w1 W)(hw:Ext w w1)(hg:w.heap.size≤g) :
  AddV w g rows cols nr nc (.bool true) ((W.setCell ⟨g,0,none⟩ (.slice R nr cr)).setCell ⟨g,1,none⟩ (.slice C nc cc)):=by
 have hf:Frm (fun k=>k=g) W ((W.setCell ⟨g,0,none⟩ (.slice R nr cr)).setCell ⟨g,1,none⟩ (.slice C nc cc)):=(Frm.setCell W g 0 _).trans (Frm.setCell _ g 1 _)
 exact⟨R,cr,C,cc,rfl,by simpa using (hb.set_ 0 _).set_ 1 _,zq (zg ha hf (fun b hv e=>zw ha hb (by decide) hv e)) hw.size,zq (zg hc hf (fun b hv e=>zw hc hb (by decide) hv e)) hw.size,((hw.trans hx).setCell (p:=⟨g,0,none⟩) hg _).setCell (p:=⟨g,1,none⟩) hg _⟩
section
variable {w W:World} {n c m d m' d' L:Nat} {A B B':Option Addr} {s:Sys} {p:Aut} {nr nc cr cc:Nat} {R C:Option Addr} {rows cols:List ByteArray}
theorem yC10d1 {P:Prop}(h:P:=by
 refine ze (fun K hK=>?_)
 refine zv _ _ _ _ rfl w1.heap.size 9 _ 1 16 Tryz.underlying99 zo rfl (by decide) (.slice Ac9 nc cc9) nc (zL cols) rfl ziR _ _ (some ⟨bo9,0,none⟩) 1 1 (zL [x]) rfl (Reads.of_own owno9) (zr _) (by unfold maxLen;omega) (by omega) hx35.size ?_
 intro v9 v36 ownc8 hg hat
 rw [← zW] at ownc8
 obtain⟨Ac8,cc8,rfl⟩:=zi ownc8
 have hx36:=hx35.grown hg (fun k hk=>(ziR.lt k hk).1)
 have ziQ:=zg ziQ (Frm.of_grown hg) (fun k hk hS=>hdis.out k hk hS)
 refine hK.out _ _ hx36 ?_
 refine pT ?_
 have ziR:=ownc8
 refine uQ ?_
 have bz:=b3.ext (hx01.trans hx36)
 have c6:=Blk.cell bz
 have f6:=Blk.frozen bz
 refine zb fun K hK=>?_
 go_simp
 refine hK.out _ _ ?_
 refine pT ?_
 refine uQ ?_
 refine zf ?_
 go_wp2_with fail
 go_meet
 exact zaI ziQ ziR bz hx36 hx1 (by omega)
 ):P:=h
theorem yC10c1 {P:Prop}(h:P:=by
 refine ze (fun K hK=>?_)
 refine zv _ _ _ _ rfl w1.heap.size 9 _ 1 16 Tryz.underlying99 zo rfl (by decide) (.slice (some ⟨bc9,0,none⟩) 0 0) 0 [] rfl ziR _ _ C nc cc (zL cols) rfl (HC1.out v34 hx34) (zr _) (by unfold maxLen;omega) (by omega) hx34.size ?_
 intro v9 v35 ownc8 hg hat
 rw [Nat.zero_add,List.nil_append] at ownc8
 obtain⟨Ac9,cc9,rfl⟩:=zi ownc8
 have hx35:=hx34.grown hg (fun k hk=>(ziR.lt k hk).1)
 have hsz:=hg.size
 have hbs:Hid (v34.heap.size=v34.heap.size):=za rfl
 have ziQ:=zg ziQ (Frm.of_grown hg) (fun k hk hS=>hrn_a_bc9.out k hk (by simpa [Value.ownBlock] using hS.symm))
 have owno9:=zg owno9 (Frm.of_grown hg) (fun k hk hS=>by simp [Value.ownBlock] at hk hS;exact hne_bc9_bo9.out (hS.trans hk.symm))
 have hdis0:Hid (∀ k,(Value.slice Ac9 nc cc9).ownBlock=some k→(Value.slice Aa9 nr ca9).ownBlock≠some k):=za (fun k hk hS=>by rcases hat with h1|h1;(rw [h1] at hk;simp [Value.ownBlock] at hk;exact hrn_a_bc9.out k hS hk.symm);(rw [h1] at hk;have:=Option.some.inj hk;have:=hrl_a.out k hS;omega))
 have hdis:Hid (∀ k,(Value.slice Aa9 nr ca9).ownBlock=some k→(Value.slice Ac9 nc cc9).ownBlock≠some k):=za (fun k hk hS=>hdis0.out k hS hk)
 generalize hbe:v34.heap.size=nc9 at *
 have hne_ba9_nc9:Hid (ba9≠nc9):=za (by have:=ziN.out;omega)
 have hne_bc9_nc9:Hid (bc9≠nc9):=za (by have:=ziO.out;omega)
 have hne_bo9_nc9:Hid (bo9≠nc9):=za (by have:=ziP.out;omega)
 have ziN:Hid (ba9<v35.heap.size):=za (by have:=ziN.out;omega)
 have ziO:Hid (bc9<v35.heap.size):=za (by have:=ziO.out;omega)
 have ziP:Hid (bo9<v35.heap.size):=za (by have:=ziP.out;omega)
 have hrl_a:Hid (∀ k,(Value.slice Aa9 nr ca9).ownBlock=some k→k<v35.heap.size):=za (fun k hk=>(ziQ.lt k hk).2)
 have hrn_c_bo9:Hid (∀ k,(Value.slice Ac9 nc cc9).ownBlock=some k→k≠bo9):=za (fun k hk=>by rcases hat with h1|h1;(rw [h1] at hk;simp [Value.ownBlock] at hk;rw [← hk];exact hne_bc9_bo9.out);(rw [h1] at hk;rw [← Option.some.inj hk];exact (Ne.symm hne_bo9_nc9.out)))
 have hrl_c:Hid (∀ k,(Value.slice Ac9 nc cc9).ownBlock=some k→k<v35.heap.size):=za (fun k hk=>(ownc8.lt k hk).2)
 clear hbs hsz hbe
 refine hK.out _ _ hx35 ?_
 refine pT ?_
 have ziR:=ownc8
 exact yC10d1
 ):P:=h
theorem yC10b1 {P:Prop}(h:P:=by
 clear hbs ziL hbe
 refine ze (fun K hK=>?_)
 refine zv _ _ _ _ rfl w1.heap.size 9 _ 1 16 Tryz.underlying99 zo rfl (by decide) (.slice (some ⟨ba9,0,none⟩) 0 0) 0 [] rfl ziQ _ _ R nr cr (zL rows) rfl (HR1.out v33 hx33) (zr _) (by unfold maxLen;omega) (by omega) hx33.size ?_
 intro v9 v34 owna8 hg hat
 rw [Nat.zero_add,List.nil_append] at owna8
 obtain⟨Aa9,ca9,rfl⟩:=zi owna8
 have hx34:=hx33.grown hg (fun k hk=>(ziQ.lt k hk).1)
 have hsz:=hg.size
 have hbs:Hid (v33.heap.size=v33.heap.size):=za rfl
 have ziR:=zg ziR (Frm.of_grown hg) (fun k hk hS=>by simp [Value.ownBlock] at hk hS;exact ziW.out (hS.trans hk.symm))
 have owno9:=zg owno9 (Frm.of_grown hg) (fun k hk hS=>by simp [Value.ownBlock] at hk hS;exact hne_ba9_bo9.out (hS.trans hk.symm))
 generalize hbe:v33.heap.size=na9 at *
 have hne_ba9_na9:Hid (ba9≠na9):=za (by have:=ziN.out;omega)
 have hne_bc9_na9:Hid (bc9≠na9):=za (by have:=ziO.out;omega)
 have hne_bo9_na9:Hid (bo9≠na9):=za (by have:=ziP.out;omega)
 have ziN:Hid (ba9<v34.heap.size):=za (by have:=ziN.out;omega)
 have ziO:Hid (bc9<v34.heap.size):=za (by have:=ziO.out;omega)
 have ziP:Hid (bo9<v34.heap.size):=za (by have:=ziP.out;omega)
 have hrn_a_bc9:Hid (∀ k,(Value.slice Aa9 nr ca9).ownBlock=some k→k≠bc9):=za (fun k hk=>by rcases hat with h1|h1;(rw [h1] at hk;simp [Value.ownBlock] at hk;rw [← hk];exact ziW.out);(rw [h1] at hk;rw [← Option.some.inj hk];exact (Ne.symm hne_bc9_na9.out)))
 have hrn_a_bo9:Hid (∀ k,(Value.slice Aa9 nr ca9).ownBlock=some k→k≠bo9):=za (fun k hk=>by rcases hat with h1|h1;(rw [h1] at hk;simp [Value.ownBlock] at hk;rw [← hk];exact hne_ba9_bo9.out);(rw [h1] at hk;rw [← Option.some.inj hk];exact (Ne.symm hne_bo9_na9.out)))
 have hrl_a:Hid (∀ k,(Value.slice Aa9 nr ca9).ownBlock=some k→k<v34.heap.size):=za (fun k hk=>(owna8.lt k hk).2)
 clear hbs hsz hbe
 refine hK.out _ _ hx34 ?_
 refine pT ?_
 have ziQ:=owna8
 exact yC10c1
 ):P:=h
theorem yC10b2 {P:Prop}(h:P:=by
 skip
 refine zv _ _ _ _ rfl w1.heap.size 9 _ 1 16 Tryz.underlying99 zo rfl (by decide) (.slice (some ⟨bc9,0,none⟩) 0 0) 0 [] rfl ziR _ _ C nc cc (zL cols) rfl (HC1.out v33 hx33) (zr _) (by unfold maxLen;omega) (by omega) hx33.size ?_
 intro v9 v34 ownc8 hg hat
 rw [Nat.zero_add,List.nil_append] at ownc8
 obtain⟨Ac9,cc9,rfl⟩:=zi ownc8
 have hx34:=hx33.grown hg (fun k hk=>(ziR.lt k hk).1)
 have hsz:=hg.size
 have hbs:Hid (v33.heap.size=v33.heap.size):=za rfl
 have ziQ:=zg ziQ (Frm.of_grown hg) (fun k hk hS=>hrn_a_bc9.out k hk (by simpa [Value.ownBlock] using hS.symm))
 have hdis0:Hid (∀ k,(Value.slice Ac9 nc cc9).ownBlock=some k→(Value.slice Aa9 nr ca9).ownBlock≠some k):=za (fun k hk hS=>by rcases hat with h1|h1;(rw [h1] at hk;simp [Value.ownBlock] at hk;exact hrn_a_bc9.out k hS hk.symm);(rw [h1] at hk;have:=Option.some.inj hk;have:=hrl_a.out k hS;omega))
 have hdis:Hid (∀ k,(Value.slice Aa9 nr ca9).ownBlock=some k→(Value.slice Ac9 nc cc9).ownBlock≠some k):=za (fun k hk hS=>hdis0.out k hS hk)
 generalize hbe:v33.heap.size=nc9 at *
 have hne_ba9_nc9:Hid (ba9≠nc9):=za (by have:=ziN.out;omega)
 have hne_bc9_nc9:Hid (bc9≠nc9):=za (by have:=ziO.out;omega)
 have ziN:Hid (ba9<v34.heap.size):=za (by have:=ziN.out;omega)
 have ziO:Hid (bc9<v34.heap.size):=za (by have:=ziO.out;omega)
 have hrl_a:Hid (∀ k,(Value.slice Aa9 nr ca9).ownBlock=some k→k<v34.heap.size):=za (fun k hk=>(ziQ.lt k hk).2)
 have hrl_c:Hid (∀ k,(Value.slice Ac9 nc cc9).ownBlock=some k→k<v34.heap.size):=za (fun k hk=>(ownc8.lt k hk).2)
 clear hbs hsz hbe
 refine hK.out _ _ hx34 ?_
 refine pT ?_
 have ziR:=ownc8
 refine ze fun K hK=>?_;go_simp
 have hx35:=hx34.alloc (.cells #[.string x] 9)
 have owno9:=zq (World.ownsRow_lit v34 (e:=9) (size:=1) #[.string x] 1 (Nat.le_refl _) (by unfold maxLen;omega) rfl) hx34.size
 have ziL:=(Ext.refl v34).alloc (.cells #[.string x] 9)
 refine hK.out _ _ hx35 ?_
 refine pT ?_
 have ziQ:=zh ziQ ziL
 have ziR:=zh ziR ziL
 have hbs:v34.heap.size<(v34.alloc (.cells #[.string x] 9)).heap.size:=by simp
 generalize hbe:v34.heap.size=bo9 at *
 generalize v34.alloc (.cells #[.string x] 9)=v35 at *
 have hne_ba9_bo9:Hid (ba9≠bo9):=za (by have:=ziN.out;omega)
 have hne_bc9_bo9:Hid (bc9≠bo9):=za (by have:=ziO.out;omega)
 have ziN:Hid (ba9<v35.heap.size):=za (by have:=ziN.out;omega)
 have ziO:Hid (bc9<v35.heap.size):=za (by have:=ziO.out;omega)
 have hrl_a:Hid (∀ k,(Value.slice Aa9 nr ca9).ownBlock=some k→k<v35.heap.size):=za (fun k hk=>(ziQ.lt k hk).2)
 have hrl_c:Hid (∀ k,(Value.slice Ac9 nc cc9).ownBlock=some k→k<v35.heap.size):=za (fun k hk=>(ziR.lt k hk).2)
 have ziP:Hid (bo9<v35.heap.size):=za hbs
 clear hbs ziL hbe
 exact yC10d1
 ):P:=h
theorem yC10b3 {P:Prop}(h:P:=by
 clear hbs ziL hbe
 exact yC10c1
 ):P:=h
theorem yC10a1 {P:Prop}(h:P:=by
 clear hbs ziL hbe
 refine zm (fun K hK=>?_) (fun K hK=>?_)
 ·skip
  refine zv _ _ _ _ rfl w1.heap.size 9 _ 1 16 Tryz.underlying99 zo rfl (by decide) (.slice (some ⟨ba9,0,none⟩) 0 0) 0 [] rfl ziQ _ _ R nr cr (zL rows) rfl (HR1.out v32 hx32) (zr _) (by unfold maxLen;omega) (by omega) hx32.size ?_
  intro v9 v33 owna8 hg hat
  rw [Nat.zero_add,List.nil_append] at owna8
  obtain⟨Aa9,ca9,rfl⟩:=zi owna8
  have hx33:=hx32.grown hg (fun k hk=>(ziQ.lt k hk).1)
  have hsz:=hg.size
  have hbs:Hid (v32.heap.size=v32.heap.size):=za rfl
  have ziR:=zg ziR (Frm.of_grown hg) (fun k hk hS=>by simp [Value.ownBlock] at hk hS;exact ziW.out (hS.trans hk.symm))
  generalize hbe:v32.heap.size=na9 at *
  have hne_ba9_na9:Hid (ba9≠na9):=za (by have:=ziN.out;omega)
  have hne_bc9_na9:Hid (bc9≠na9):=za (by have:=ziO.out;omega)
  have ziN:Hid (ba9<v33.heap.size):=za (by have:=ziN.out;omega)
  have ziO:Hid (bc9<v33.heap.size):=za (by have:=ziO.out;omega)
  have hrn_a_bc9:Hid (∀ k,(Value.slice Aa9 nr ca9).ownBlock=some k→k≠bc9):=za (fun k hk=>by rcases hat with h1|h1;(rw [h1] at hk;simp [Value.ownBlock] at hk;rw [← hk];exact ziW.out);(rw [h1] at hk;rw [← Option.some.inj hk];exact (Ne.symm hne_bc9_na9.out)))
  have hrl_a:Hid (∀ k,(Value.slice Aa9 nr ca9).ownBlock=some k→k<v33.heap.size):=za (fun k hk=>(owna8.lt k hk).2)
  clear hbs hsz hbe
  refine hK.out _ _ hx33 ?_
  refine pT ?_
  have ziQ:=owna8
  refine zm (fun K hK=>?_) (fun K hK=>?_)
  ·exact yC10b2
  ·go_simp
   have hx34:=hx33.alloc (.cells #[.string x] 9)
   have owno9:=zq (World.ownsRow_lit v33 (e:=9) (size:=1) #[.string x] 1 (Nat.le_refl _) (by unfold maxLen;omega) rfl) hx33.size
   have ziL:=(Ext.refl v33).alloc (.cells #[.string x] 9)
   refine hK.out _ _ hx34 ?_
   refine pT ?_
   have ziQ:=zh ziQ ziL
   have ziR:=zh ziR ziL
   have hbs:v33.heap.size<(v33.alloc (.cells #[.string x] 9)).heap.size:=by simp
   generalize hbe:v33.heap.size=bo9 at *
   generalize v33.alloc (.cells #[.string x] 9)=v34 at *
   have hne_ba9_bo9:Hid (ba9≠bo9):=za (by have:=ziN.out;omega)
   have hne_bc9_bo9:Hid (bc9≠bo9):=za (by have:=ziO.out;omega)
   have ziN:Hid (ba9<v34.heap.size):=za (by have:=ziN.out;omega)
   have ziO:Hid (bc9<v34.heap.size):=za (by have:=ziO.out;omega)
   have hrl_a:Hid (∀ k,(Value.slice Aa9 nr ca9).ownBlock=some k→k<v34.heap.size):=za (fun k hk=>(ziQ.lt k hk).2)
   have ziP:Hid (bo9<v34.heap.size):=za hbs
   exact yC10b3
 ·go_simp
  have hx33:=hx32.alloc (.cells #[.string x] 9)
  have owno9:=zq (World.ownsRow_lit v32 (e:=9) (size:=1) #[.string x] 1 (Nat.le_refl _) (by unfold maxLen;omega) rfl) hx32.size
  have ziL:=(Ext.refl v32).alloc (.cells #[.string x] 9)
  refine hK.out _ _ hx33 ?_
  refine pT ?_
  have ziQ:=zh ziQ ziL
  have ziR:=zh ziR ziL
  have hbs:v32.heap.size<(v32.alloc (.cells #[.string x] 9)).heap.size:=by simp
  generalize hbe:v32.heap.size=bo9 at *
  generalize v32.alloc (.cells #[.string x] 9)=v33 at *
  have hne_ba9_bo9:Hid (ba9≠bo9):=za (by have:=ziN.out;omega)
  have hne_bc9_bo9:Hid (bc9≠bo9):=za (by have:=ziO.out;omega)
  have ziN:Hid (ba9<v33.heap.size):=za (by have:=ziN.out;omega)
  have ziO:Hid (bc9<v33.heap.size):=za (by have:=ziO.out;omega)
  have ziP:Hid (bo9<v33.heap.size):=za hbs
  exact yC10b1
 ):P:=h
theorem yC10a2 {P:Prop}(h:P:=by
 clear hbs ziL hbe
 refine zm (fun K hK=>?_) (fun K hK=>?_)
 ·skip
  refine zv _ _ _ _ rfl w1.heap.size 9 _ 1 16 Tryz.underlying99 zo rfl (by decide) (.slice (some ⟨ba9,0,none⟩) 0 0) 0 [] rfl ziQ _ _ R nr cr (zL rows) rfl (HR1.out v32 hx32) (zr _) (by unfold maxLen;omega) (by omega) hx32.size ?_
  intro v9 v33 owna8 hg hat
  rw [Nat.zero_add,List.nil_append] at owna8
  obtain⟨Aa9,ca9,rfl⟩:=zi owna8
  have hx33:=hx32.grown hg (fun k hk=>(ziQ.lt k hk).1)
  have hsz:=hg.size
  have hbs:Hid (v32.heap.size=v32.heap.size):=za rfl
  have owno9:=zg owno9 (Frm.of_grown hg) (fun k hk hS=>by simp [Value.ownBlock] at hk hS;exact hne_ba9_bo9.out (hS.trans hk.symm))
  generalize hbe:v32.heap.size=na9 at *
  have hne_ba9_na9:Hid (ba9≠na9):=za (by have:=ziN.out;omega)
  have hne_bo9_na9:Hid (bo9≠na9):=za (by have:=ziP.out;omega)
  have ziN:Hid (ba9<v33.heap.size):=za (by have:=ziN.out;omega)
  have ziP:Hid (bo9<v33.heap.size):=za (by have:=ziP.out;omega)
  have hrn_a_bo9:Hid (∀ k,(Value.slice Aa9 nr ca9).ownBlock=some k→k≠bo9):=za (fun k hk=>by rcases hat with h1|h1;(rw [h1] at hk;simp [Value.ownBlock] at hk;rw [← hk];exact hne_ba9_bo9.out);(rw [h1] at hk;rw [← Option.some.inj hk];exact (Ne.symm hne_bo9_na9.out)))
  have hrl_a:Hid (∀ k,(Value.slice Aa9 nr ca9).ownBlock=some k→k<v33.heap.size):=za (fun k hk=>(owna8.lt k hk).2)
  clear hbs hsz hbe
  refine hK.out _ _ hx33 ?_
  refine pT ?_
  have ziQ:=owna8
  refine ze fun K hK=>?_;go_simp
  have hx34:=hx33.alloc (.cells #[] 9)
  have ziR:=zq (World.ownsRow_lit v33 (e:=9) (size:=1) #[] 0 (Nat.le_refl _) (by unfold maxLen;omega) rfl) hx33.size
  have ziL:=(Ext.refl v33).alloc (.cells #[] 9)
  refine hK.out _ _ hx34 ?_
  refine pT ?_
  have ziQ:=zh ziQ ziL
  have owno9:=zh owno9 ziL
  have hbs:v33.heap.size<(v33.alloc (.cells #[] 9)).heap.size:=by simp
  generalize hbe:v33.heap.size=bc9 at *
  generalize v33.alloc (.cells #[] 9)=v34 at *
  have ziW:Hid (ba9≠bc9):=za (by have:=ziN.out;omega)
  have hne_bc9_bo9:Hid (bc9≠bo9):=za (by have:=ziP.out;omega)
  have hrn_a_bc9:Hid (∀ k,(Value.slice Aa9 nr ca9).ownBlock=some k→k≠bc9):=za (fun k hk=>by have:=hrl_a.out k hk;omega)
  have ziN:Hid (ba9<v34.heap.size):=za (by have:=ziN.out;omega)
  have ziP:Hid (bo9<v34.heap.size):=za (by have:=ziP.out;omega)
  have hrl_a:Hid (∀ k,(Value.slice Aa9 nr ca9).ownBlock=some k→k<v34.heap.size):=za (fun k hk=>(ziQ.lt k hk).2)
  have ziO:Hid (bc9<v34.heap.size):=za hbs
  exact yC10b3
 ·go_simp
  have hx33:=hx32.alloc (.cells #[] 9)
  have ziR:=zq (World.ownsRow_lit v32 (e:=9) (size:=1) #[] 0 (Nat.le_refl _) (by unfold maxLen;omega) rfl) hx32.size
  have ziL:=(Ext.refl v32).alloc (.cells #[] 9)
  refine hK.out _ _ hx33 ?_
  refine pT ?_
  have ziQ:=zh ziQ ziL
  have owno9:=zh owno9 ziL
  have hbs:v32.heap.size<(v32.alloc (.cells #[] 9)).heap.size:=by simp
  generalize hbe:v32.heap.size=bc9 at *
  generalize v32.alloc (.cells #[] 9)=v33 at *
  have ziW:Hid (ba9≠bc9):=za (by have:=ziN.out;omega)
  have hne_bc9_bo9:Hid (bc9≠bo9):=za (by have:=ziP.out;omega)
  have ziN:Hid (ba9<v33.heap.size):=za (by have:=ziN.out;omega)
  have ziP:Hid (bo9<v33.heap.size):=za (by have:=ziP.out;omega)
  have ziO:Hid (bc9<v33.heap.size):=za hbs
  exact yC10b1
 ):P:=h
theorem yC10a3 {P:Prop}(h:P:=by
 clear hbs ziL hbe
 refine ze fun K hK=>?_;go_simp
 have hx33:=hx32.alloc (.cells #[] 9)
 have ziQ:=zq (World.ownsRow_lit v32 (e:=9) (size:=1) #[] 0 (Nat.le_refl _) (by unfold maxLen;omega) rfl) hx32.size
 have ziL:=(Ext.refl v32).alloc (.cells #[] 9)
 refine hK.out _ _ hx33 ?_
 refine pT ?_
 have ziR:=zh ziR ziL
 have owno9:=zh owno9 ziL
 have hbs:v32.heap.size<(v32.alloc (.cells #[] 9)).heap.size:=by simp
 generalize hbe:v32.heap.size=ba9 at *
 generalize v32.alloc (.cells #[] 9)=v33 at *
 have ziW:Hid (ba9≠bc9):=za (by have:=ziO.out;omega)
 have hne_ba9_bo9:Hid (ba9≠bo9):=za (by have:=ziP.out;omega)
 have ziO:Hid (bc9<v33.heap.size):=za (by have:=ziO.out;omega)
 have ziP:Hid (bo9<v33.heap.size):=za (by have:=ziP.out;omega)
 have ziN:Hid (ba9<v33.heap.size):=za hbs
 exact yC10b1
 ):P:=h
theorem yC10a4 {P:Prop}(h:P:=by
 exact yC10b3
 ):P:=h
theorem yC10a5 {P:Prop}(h:P:=by
 clear hgo
 go_enter Tryz.func149,Tryz.ntmps149
 go_upto_region 1 with fail
 generalize ((w.alloc (.cells #[.bool false,.int .i64 0,.slice none 0 0,.slice none 0 0,.int .i64 s.al,.int .i64 s.st,.slice A n c,.int .i64 p.al,.slice B m d,.slice B' m' d',.int .i64 L] 98)).alloc (.cells #[.slice R nr cr,.slice C nc cc] 101)).alloc (.cells #[.slice none 0 0,.slice none 0 0] 101)=w0 at *
 have CB:=b1.cells
 have CT:=b2.cells
 have hb3:=b3.lt
 have hww:=Ext.refl w0
 go_upto_region 2 with (first
  |(go_at_call 208;refine (HV.out _ hx0).mono ?_;rintro e wa ⟨rfl,hxa⟩)
  |(go_at_call 223;refine (HWd.out _ (hx0.trans hxa)).mono ?_;rintro e w1 ⟨rfl,hxb⟩;have hx01:=hxa.trans hxb)
  |(go_at_call 225;refine (HIn.out _ (hx0.trans hx01)).mono ?_;rintro e wc ⟨rfl,rfl⟩))
 have bz:=b3.ext hx01
 have kz:=bz.cell
 have fz:=bz.frozen
 have cf:=(show Blk ((w1.setCell ⟨w.heap.size+1+1,0,none⟩ (.slice none 0 0)).setCell ⟨w.heap.size+1+1,1,none⟩ (.slice none 0 0)) (w.heap.size+1+1) 101 #[.slice none 0 0,.slice none 0 0] by simpa using (bz.set_ 0 (.slice none 0 0)).set_ 1 (.slice none 0 0)).cell
 have hret:=za (show zch w none (.returned (.tuple #[.agg #[.slice none 0 0,.slice none 0 0],.bool false])) ((w1.setCell ⟨w.heap.size+1+1,0,none⟩ (.slice none 0 0)).setCell ⟨w.heap.size+1+1,1,none⟩ (.slice none 0 0)) from
  ⟨((hx0.trans hx01).setCell (p:=⟨w.heap.size+1+1,0,none⟩) (by dsimp only;omega) _).setCell (p:=⟨w.heap.size+1+1,1,none⟩) (by dsimp only;omega) _,.inl ⟨rfl,rfl⟩⟩)
 go_wp2_with fail
 exact bodyPost_ret (v:=.tuple #[.agg #[.slice none 0 0,.slice none 0 0],.bool false]) (by simp [results,Tryz.results149,go_sem,cf]) rfl hret.out
 ):P:=h
theorem zhi {x:ByteArray}(h:Tch w A n B m B' m' s p L)(hT:TabAt w R nr C nc rows cols)(hI:zbz L (zt s p L) rows cols)(hcr:nr≤cr)(hcc:nc≤cc)(hx:x.size≤9223372036854775807) :
  Calls Tryz.prog 149 #[.agg #[.bool false,.int .i64 0,.slice none 0 0,.slice none 0 0,.int .i64 s.al,.int .i64 s.st,.slice A n c,.int .i64 p.al,.slice B m d,.slice B' m' d',.int .i64 L],.agg #[.slice R nr cr,.slice C nc cc],.string x] w (zch w (if zfN L cols x=true then some (rows,cols++[x]) else none)):=by
 obtain⟨e1,e2⟩:=hT.nr
 have hr12:=hI.r12;have hc20:=hI.c20
 rw [e1] at hr12
 rw [e2] at hc20
 have HV:=za (fun W (hW:Ext w W)=>zbK (c:=c) (d:=d) (d':=d') (h.ext hW) (hT.ext hW) hI hcr hcc)
 have HWd:=za (fun W (hW:Ext w W)=>zfL (c:=c) (d:=d) (d':=d') (h.ext hW) hx)
 obtain⟨lo,hi,lo2,hi2,h1,h2⟩:=hT
 have HR:=za (fun W (hW:Ext w W)=>h1.ext hW)
 have HC:=za (fun W (hW:Ext w W)=>h2.ext hW)
 have hadd:=za (show zfN L cols x=((inB x L&&decide (x.size≤4000))&&(!zcm cols x&&decide (nc≠20))) by unfold zfN;rw [e2])
 have hx0:Ext w (((w.alloc (.cells #[.bool false,.int .i64 0,.slice none 0 0,.slice none 0 0,.int .i64 s.al,.int .i64 s.st,.slice A n c,.int .i64 p.al,.slice B m d,.slice B' m' d',.int .i64 L] 98)).alloc (.cells #[.slice R nr cr,.slice C nc cc] 101)).alloc (.cells #[.slice none 0 0,.slice none 0 0] 101)):=(((Ext.refl _).alloc _).alloc _).alloc _
 obtain⟨b1,b2,b3⟩:=zK (Ext.refl (((w.alloc (.cells #[.bool false,.int .i64 0,.slice none 0 0,.slice none 0 0,.int .i64 s.al,.int .i64 s.st,.slice A n c,.int .i64 p.al,.slice B m d,.slice B' m' d',.int .i64 L] 98)).alloc (.cells #[.slice R nr cr,.slice C nc cc] 101)).alloc (.cells #[.slice none 0 0,.slice none 0 0] 101)))
 clear h h1 h2 hI e1 e2
 obtain⟨ok,hok⟩:∃ ok,Hid (zfN L cols x=ok):=⟨_,rfl⟩
 rw [hok.out] at hadd ⊢
 obtain⟨wd,hwd⟩:∃ wd,Hid ((inB x L&&decide (x.size≤4000))=wd):=⟨_,rfl⟩
 rw [hwd.out] at HWd hadd
 obtain⟨mb,hmb⟩:∃ mb,Hid (zcm cols x=mb):=⟨_,rfl⟩
 rw [hmb.out] at hadd
 have HIn:=za (fun W (hW:Ext w W)=>zdg (c:=cc) (x:=x) (HC.out W hW))
 rw [hmb.out] at HIn
 by_cases hgo:wd=true∧mb=false∧nc≠20
 ·obtain⟨rfl,rfl,hnc⟩:=hgo
  have hok1:=za (show ok=true by rw [hadd.out];simpa using hnc)
  rw [hok1.out,if_pos rfl]
  have hnc2:((nc:Int)==20)=false:=by simp;omega
  clear hnc hadd hok hok1 hwd hmb
  go_enter Tryz.func149,Tryz.ntmps149
  go_upto_region 1 with fail
  generalize ((w.alloc (.cells #[.bool false,.int .i64 0,.slice none 0 0,.slice none 0 0,.int .i64 s.al,.int .i64 s.st,.slice A n c,.int .i64 p.al,.slice B m d,.slice B' m' d',.int .i64 L] 98)).alloc (.cells #[.slice R nr cr,.slice C nc cc] 101)).alloc (.cells #[.slice none 0 0,.slice none 0 0] 101)=w0 at *
  have CB:=b1.cells
  have CT:=b2.cells
  have hb3:=b3.lt
  have hww:=Ext.refl w0
  go_upto_region 3 with (first
   |(go_at_call 208;refine (HV.out _ hx0).mono ?_;rintro e wa ⟨rfl,hxa⟩)
   |(go_at_call 223;refine (HWd.out _ (hx0.trans hxa)).mono ?_;rintro e w1 ⟨rfl,hxb⟩;have hx01:=hxa.trans hxb)
   |(go_at_call 225;refine (HIn.out _ (hx0.trans hx01)).mono ?_;rintro e wc ⟨rfl,rfl⟩))
  have hx1:=hx0.trans hx01
  have hs1:=hx01.size
  have HR1:=za (fun W (hW:Ext w1 W)=>HR.out W (hx1.trans hW))
  have HC1:=za (fun W (hW:Ext w1 W)=>HC.out W (hx1.trans hW))
  have CT1:∀ W,Ext w1 W→∀ q,W.cell? ⟨w.heap.size+1,q,none⟩=#[Value.slice R nr cr,.slice C nc cc][q]?:=fun W hW=>CT W (hx01.trans hW)
  go_cut [7] (fun v wx=>AddV w (w.heap.size+1+1) rows (cols++[x]) nr (nc+1) v wx)
  case first =>
   clear CB CT hww HV HWd HIn hxa hxb
   have X0:Ext w1 w1.drew:=(Ext.refl w1).drew
   refine uR (fun X=>Ext w1 X) [12] (zu.app [1,2,5,6,8] (zu.three 0 (zu.three 3 (zu.two 4 (zu.two 7 (zu.of [9,10,11,12,13]) 9 (zu.of [7,10,11,12,13])) 9 (zu.of [4,7,10,11,12,13])) 4 (zu.two 3 (zu.two 7 (zu.of [9,10,11,12,13]) 9 (zu.of [7,10,11,12,13])) 9 (zu.of [3,7,10,11,12,13])) 9 (zu.two 3 (zu.of [4,7,10,11,12,13]) 4 (zu.of [3,7,10,11,12,13]))) 4 (zu.two 0 (zu.two 3 (zu.two 7 (zu.of [9,10,11,12,13]) 9 (zu.of [7,10,11,12,13])) 9 (zu.of [3,7,10,11,12,13])) 9 (zu.of [0,3,7,10,11,12,13])) 9 (zu.two 0 (zu.two 3 (zu.of [4,7,10,11,12,13]) 4 (zu.of [3,7,10,11,12,13])) 4 (zu.of [0,3,7,10,11,12,13])))) ?_
   generalize w1.drew=W0 at *
   refine uQ ?_
   refine zay (fun K hK=>?_) (fun K hK=>?_) (fun K hK=>?_)
   ·go_simp
    have hx31:=X0.alloc (.cells #[] 9)
    have ziQ:=zq (World.ownsRow_lit W0 (e:=9) (size:=1) #[] 0 (Nat.le_refl _) (by unfold maxLen;omega) rfl) X0.size
    have ziL:=(Ext.refl W0).alloc (.cells #[] 9)
    refine hK.out _ _ hx31 ?_
    refine pT ?_
    have hbs:W0.heap.size<(W0.alloc (.cells #[] 9)).heap.size:=by simp
    generalize hbe:W0.heap.size=ba9 at *
    generalize W0.alloc (.cells #[] 9)=v31 at *
    have ziN:Hid (ba9<v31.heap.size):=za hbs
    clear hbs ziL hbe
    refine zay (fun K hK=>?_) (fun K hK=>?_) (fun K hK=>?_)
    ·skip
     refine zv _ _ _ _ rfl w1.heap.size 9 _ 1 16 Tryz.underlying99 zo rfl (by decide) (.slice (some ⟨ba9,0,none⟩) 0 0) 0 [] rfl ziQ _ _ R nr cr (zL rows) rfl (HR1.out v31 hx31) (zr _) (by unfold maxLen;omega) (by omega) hx31.size ?_
     intro v9 v32 owna8 hg hat
     rw [Nat.zero_add,List.nil_append] at owna8
     obtain⟨Aa9,ca9,rfl⟩:=zi owna8
     have hx32:=hx31.grown hg (fun k hk=>(ziQ.lt k hk).1)
     have hsz:=hg.size
     have hbs:Hid (v31.heap.size=v31.heap.size):=za rfl
     generalize hbe:v31.heap.size=na9 at *
     have hne_ba9_na9:Hid (ba9≠na9):=za (by have:=ziN.out;omega)
     have ziN:Hid (ba9<v32.heap.size):=za (by have:=ziN.out;omega)
     have hrl_a:Hid (∀ k,(Value.slice Aa9 nr ca9).ownBlock=some k→k<v32.heap.size):=za (fun k hk=>(owna8.lt k hk).2)
     clear hbs hsz hbe
     refine hK.out _ _ hx32 ?_
     refine pT ?_
     have ziQ:=owna8
     refine zm (fun K hK=>?_) (fun K hK=>?_)
     ·go_simp
      have hx33:=hx32.alloc (.cells #[] 9)
      have ziR:=zq (World.ownsRow_lit v32 (e:=9) (size:=1) #[] 0 (Nat.le_refl _) (by unfold maxLen;omega) rfl) hx32.size
      have ziL:=(Ext.refl v32).alloc (.cells #[] 9)
      refine hK.out _ _ hx33 ?_
      refine pT ?_
      have ziQ:=zh ziQ ziL
      have hbs:v32.heap.size<(v32.alloc (.cells #[] 9)).heap.size:=by simp
      generalize hbe:v32.heap.size=bc9 at *
      generalize v32.alloc (.cells #[] 9)=v33 at *
      have ziW:Hid (ba9≠bc9):=za (by have:=ziN.out;omega)
      have hrn_a_bc9:Hid (∀ k,(Value.slice Aa9 nr ca9).ownBlock=some k→k≠bc9):=za (fun k hk=>by have:=hrl_a.out k hk;omega)
      have ziN:Hid (ba9<v33.heap.size):=za (by have:=ziN.out;omega)
      have hrl_a:Hid (∀ k,(Value.slice Aa9 nr ca9).ownBlock=some k→k<v33.heap.size):=za (fun k hk=>(ziQ.lt k hk).2)
      have ziO:Hid (bc9<v33.heap.size):=za hbs
      clear hbs ziL hbe
      refine zm (fun K hK=>?_) (fun K hK=>?_)
      ·exact yC10b2
      ·go_simp
       have hx34:=hx33.alloc (.cells #[.string x] 9)
       have owno9:=zq (World.ownsRow_lit v33 (e:=9) (size:=1) #[.string x] 1 (Nat.le_refl _) (by unfold maxLen;omega) rfl) hx33.size
       have ziL:=(Ext.refl v33).alloc (.cells #[.string x] 9)
       refine hK.out _ _ hx34 ?_
       refine pT ?_
       have ziQ:=zh ziQ ziL
       have ziR:=zh ziR ziL
       have hbs:v33.heap.size<(v33.alloc (.cells #[.string x] 9)).heap.size:=by simp
       generalize hbe:v33.heap.size=bo9 at *
       generalize v33.alloc (.cells #[.string x] 9)=v34 at *
       have hne_ba9_bo9:Hid (ba9≠bo9):=za (by have:=ziN.out;omega)
       have hne_bc9_bo9:Hid (bc9≠bo9):=za (by have:=ziO.out;omega)
       have ziN:Hid (ba9<v34.heap.size):=za (by have:=ziN.out;omega)
       have ziO:Hid (bc9<v34.heap.size):=za (by have:=ziO.out;omega)
       have hrl_a:Hid (∀ k,(Value.slice Aa9 nr ca9).ownBlock=some k→k<v34.heap.size):=za (fun k hk=>(ziQ.lt k hk).2)
       have ziP:Hid (bo9<v34.heap.size):=za hbs
       exact yC10a4
     ·go_simp
      have hx33:=hx32.alloc (.cells #[.string x] 9)
      have owno9:=zq (World.ownsRow_lit v32 (e:=9) (size:=1) #[.string x] 1 (Nat.le_refl _) (by unfold maxLen;omega) rfl) hx32.size
      have ziL:=(Ext.refl v32).alloc (.cells #[.string x] 9)
      refine hK.out _ _ hx33 ?_
      refine pT ?_
      have ziQ:=zh ziQ ziL
      have hbs:v32.heap.size<(v32.alloc (.cells #[.string x] 9)).heap.size:=by simp
      generalize hbe:v32.heap.size=bo9 at *
      generalize v32.alloc (.cells #[.string x] 9)=v33 at *
      have hne_ba9_bo9:Hid (ba9≠bo9):=za (by have:=ziN.out;omega)
      have ziN:Hid (ba9<v33.heap.size):=za (by have:=ziN.out;omega)
      have hrl_a:Hid (∀ k,(Value.slice Aa9 nr ca9).ownBlock=some k→k<v33.heap.size):=za (fun k hk=>(ziQ.lt k hk).2)
      have ziP:Hid (bo9<v33.heap.size):=za hbs
      clear hbs ziL hbe
      refine ze fun K hK=>?_;go_simp
      have hx34:=hx33.alloc (.cells #[] 9)
      have ziR:=zq (World.ownsRow_lit v33 (e:=9) (size:=1) #[] 0 (Nat.le_refl _) (by unfold maxLen;omega) rfl) hx33.size
      have ziL:=(Ext.refl v33).alloc (.cells #[] 9)
      refine hK.out _ _ hx34 ?_
      refine pT ?_
      have ziQ:=zh ziQ ziL
      have owno9:=zh owno9 ziL
      have hbs:v33.heap.size<(v33.alloc (.cells #[] 9)).heap.size:=by simp
      generalize hbe:v33.heap.size=bc9 at *
      generalize v33.alloc (.cells #[] 9)=v34 at *
      have ziW:Hid (ba9≠bc9):=za (by have:=ziN.out;omega)
      have hne_bc9_bo9:Hid (bc9≠bo9):=za (by have:=ziP.out;omega)
      have hrn_a_bc9:Hid (∀ k,(Value.slice Aa9 nr ca9).ownBlock=some k→k≠bc9):=za (fun k hk=>by have:=hrl_a.out k hk;omega)
      have ziN:Hid (ba9<v34.heap.size):=za (by have:=ziN.out;omega)
      have ziP:Hid (bo9<v34.heap.size):=za (by have:=ziP.out;omega)
      have hrl_a:Hid (∀ k,(Value.slice Aa9 nr ca9).ownBlock=some k→k<v34.heap.size):=za (fun k hk=>(ziQ.lt k hk).2)
      have ziO:Hid (bc9<v34.heap.size):=za hbs
      exact yC10a4
    ·go_simp
     have hx32:=hx31.alloc (.cells #[] 9)
     have ziR:=zq (World.ownsRow_lit v31 (e:=9) (size:=1) #[] 0 (Nat.le_refl _) (by unfold maxLen;omega) rfl) hx31.size
     have ziL:=(Ext.refl v31).alloc (.cells #[] 9)
     refine hK.out _ _ hx32 ?_
     refine pT ?_
     have ziQ:=zh ziQ ziL
     have hbs:v31.heap.size<(v31.alloc (.cells #[] 9)).heap.size:=by simp
     generalize hbe:v31.heap.size=bc9 at *
     generalize v31.alloc (.cells #[] 9)=v32 at *
     have ziW:Hid (ba9≠bc9):=za (by have:=ziN.out;omega)
     have ziN:Hid (ba9<v32.heap.size):=za (by have:=ziN.out;omega)
     have ziO:Hid (bc9<v32.heap.size):=za hbs
     exact yC10a1
    ·go_simp
     have hx32:=hx31.alloc (.cells #[.string x] 9)
     have owno9:=zq (World.ownsRow_lit v31 (e:=9) (size:=1) #[.string x] 1 (Nat.le_refl _) (by unfold maxLen;omega) rfl) hx31.size
     have ziL:=(Ext.refl v31).alloc (.cells #[.string x] 9)
     refine hK.out _ _ hx32 ?_
     refine pT ?_
     have ziQ:=zh ziQ ziL
     have hbs:v31.heap.size<(v31.alloc (.cells #[.string x] 9)).heap.size:=by simp
     generalize hbe:v31.heap.size=bo9 at *
     generalize v31.alloc (.cells #[.string x] 9)=v32 at *
     have hne_ba9_bo9:Hid (ba9≠bo9):=za (by have:=ziN.out;omega)
     have ziN:Hid (ba9<v32.heap.size):=za (by have:=ziN.out;omega)
     have ziP:Hid (bo9<v32.heap.size):=za hbs
     exact yC10a2
   ·go_simp
    have hx31:=X0.alloc (.cells #[] 9)
    have ziR:=zq (World.ownsRow_lit W0 (e:=9) (size:=1) #[] 0 (Nat.le_refl _) (by unfold maxLen;omega) rfl) X0.size
    have ziL:=(Ext.refl W0).alloc (.cells #[] 9)
    refine hK.out _ _ hx31 ?_
    refine pT ?_
    have hbs:W0.heap.size<(W0.alloc (.cells #[] 9)).heap.size:=by simp
    generalize hbe:W0.heap.size=bc9 at *
    generalize W0.alloc (.cells #[] 9)=v31 at *
    have ziO:Hid (bc9<v31.heap.size):=za hbs
    clear hbs ziL hbe
    refine zm (fun K hK=>?_) (fun K hK=>?_)
    ·go_simp
     have hx32:=hx31.alloc (.cells #[] 9)
     have ziQ:=zq (World.ownsRow_lit v31 (e:=9) (size:=1) #[] 0 (Nat.le_refl _) (by unfold maxLen;omega) rfl) hx31.size
     have ziL:=(Ext.refl v31).alloc (.cells #[] 9)
     refine hK.out _ _ hx32 ?_
     refine pT ?_
     have ziR:=zh ziR ziL
     have hbs:v31.heap.size<(v31.alloc (.cells #[] 9)).heap.size:=by simp
     generalize hbe:v31.heap.size=ba9 at *
     generalize v31.alloc (.cells #[] 9)=v32 at *
     have ziW:Hid (ba9≠bc9):=za (by have:=ziO.out;omega)
     have ziO:Hid (bc9<v32.heap.size):=za (by have:=ziO.out;omega)
     have ziN:Hid (ba9<v32.heap.size):=za hbs
     exact yC10a1
    ·go_simp
     have hx32:=hx31.alloc (.cells #[.string x] 9)
     have owno9:=zq (World.ownsRow_lit v31 (e:=9) (size:=1) #[.string x] 1 (Nat.le_refl _) (by unfold maxLen;omega) rfl) hx31.size
     have ziL:=(Ext.refl v31).alloc (.cells #[.string x] 9)
     refine hK.out _ _ hx32 ?_
     refine pT ?_
     have ziR:=zh ziR ziL
     have hbs:v31.heap.size<(v31.alloc (.cells #[.string x] 9)).heap.size:=by simp
     generalize hbe:v31.heap.size=bo9 at *
     generalize v31.alloc (.cells #[.string x] 9)=v32 at *
     have hne_bc9_bo9:Hid (bc9≠bo9):=za (by have:=ziO.out;omega)
     have ziO:Hid (bc9<v32.heap.size):=za (by have:=ziO.out;omega)
     have ziP:Hid (bo9<v32.heap.size):=za hbs
     exact yC10a3
   ·go_simp
    have hx31:=X0.alloc (.cells #[.string x] 9)
    have owno9:=zq (World.ownsRow_lit W0 (e:=9) (size:=1) #[.string x] 1 (Nat.le_refl _) (by unfold maxLen;omega) rfl) X0.size
    have ziL:=(Ext.refl W0).alloc (.cells #[.string x] 9)
    refine hK.out _ _ hx31 ?_
    refine pT ?_
    have hbs:W0.heap.size<(W0.alloc (.cells #[.string x] 9)).heap.size:=by simp
    generalize hbe:W0.heap.size=bo9 at *
    generalize W0.alloc (.cells #[.string x] 9)=v31 at *
    have ziP:Hid (bo9<v31.heap.size):=za hbs
    clear hbs ziL hbe
    refine zm (fun K hK=>?_) (fun K hK=>?_)
    ·go_simp
     have hx32:=hx31.alloc (.cells #[] 9)
     have ziQ:=zq (World.ownsRow_lit v31 (e:=9) (size:=1) #[] 0 (Nat.le_refl _) (by unfold maxLen;omega) rfl) hx31.size
     have ziL:=(Ext.refl v31).alloc (.cells #[] 9)
     refine hK.out _ _ hx32 ?_
     refine pT ?_
     have owno9:=zh owno9 ziL
     have hbs:v31.heap.size<(v31.alloc (.cells #[] 9)).heap.size:=by simp
     generalize hbe:v31.heap.size=ba9 at *
     generalize v31.alloc (.cells #[] 9)=v32 at *
     have hne_ba9_bo9:Hid (ba9≠bo9):=za (by have:=ziP.out;omega)
     have ziP:Hid (bo9<v32.heap.size):=za (by have:=ziP.out;omega)
     have ziN:Hid (ba9<v32.heap.size):=za hbs
     exact yC10a2
    ·go_simp
     have hx32:=hx31.alloc (.cells #[] 9)
     have ziR:=zq (World.ownsRow_lit v31 (e:=9) (size:=1) #[] 0 (Nat.le_refl _) (by unfold maxLen;omega) rfl) hx31.size
     have ziL:=(Ext.refl v31).alloc (.cells #[] 9)
     refine hK.out _ _ hx32 ?_
     refine pT ?_
     have owno9:=zh owno9 ziL
     have hbs:v31.heap.size<(v31.alloc (.cells #[] 9)).heap.size:=by simp
     generalize hbe:v31.heap.size=bc9 at *
     generalize v31.alloc (.cells #[] 9)=v32 at *
     have hne_bc9_bo9:Hid (bc9≠bo9):=za (by have:=ziP.out;omega)
     have ziP:Hid (bo9<v32.heap.size):=za (by have:=ziP.out;omega)
     have ziO:Hid (bc9<v32.heap.size):=za hbs
     exact yC10a3
  case rest =>
   obtain⟨R1,cr1,C1,cc1,rfl,bz,oR,oC,hxc⟩:=hcut
   have hret:=za (show zch w (some (rows,cols++[x])) (.returned (.tuple #[.agg #[.slice R1 nr cr1,.slice C1 (nc+1) cc1],.bool true])) wc from ⟨hxc,.inr ⟨rows,cols++[x],nr,nc+1,R1,cr1,C1,cc1,rfl,rfl,oR,oC⟩⟩)
   have cf:=bz.cell
   go_wp2_with fail
   exact bodyPost_ret (v:=.tuple #[.agg #[.slice R1 nr cr1,.slice C1 (nc+1) cc1],.bool true]) (by simp [results,Tryz.results149,go_sem,cf]) rfl hret.out
 ·have hok0:=za (show ok=false by
   rw [hadd.out,Bool.eq_false_iff]
   intro h
   simp only [Bool.and_eq_true,Bool.not_eq_true',decide_eq_true_eq] at h
   exact hgo ⟨h.1,h.2.1,h.2.2⟩)
  rw [hok0.out,if_neg (by decide)]
  clear hadd hok hok0 hwd hmb
  cases wd
  ·exact yC10a5
  ·cases mb
   ·have hnc:((nc:Int)==20)=true:=by
     have:nc=20:=Decidable.byContradiction fun h=>hgo ⟨rfl,rfl,h⟩
     rw [this];rfl
    exact yC10a5
   ·exact yC10a5
noncomputable def zaV (L:Nat) (f:ByteArray→Bool) (rows cols:List ByteArray) (x:ByteArray):Option (List ByteArray × List ByteArray):=
 match zcR L f rows cols x with
 |none=>none
 |some col=>if zfN L cols col=true then (zZ L f (cols++[col]) (12 - rows.length) rows).map fun r=>(r,cols++[col]) else none
end
theorem zgb {w:World} {base:Nat} {e:TypeId} {size n c:Nat} {A:Option Addr} {xs:List Value}(h:w.ownsRow base e size (.slice A n c) n xs):n≤c:=by
 rcases h.2 with ⟨h1,h2⟩|⟨g,cap,cur,h1,_,_,h4,_⟩
 ·omega
 ·injection h1 with _ _ h3;omega
theorem splitT_size {L:Nat} {f:ByteArray→Bool} {rows cols:List ByteArray} {x y:ByteArray}(h:zcR L f rows cols x=some y):y.size≤4000:=by
 unfold zcR at h
 split at h
 ·rename_i hc
  have h1:=hc.1
  simp only [Bool.and_eq_true,decide_eq_true_eq] at h1
  obtain⟨k,-,rfl⟩:=Option.map_eq_some_iff.1 h
  rw [ByteArray.size_extract]
  omega
 ·cases h
theorem ziF {w W:World} {Z:Nat} {u v:Value}(hx:Ext w W)(hb:Blk W Z 101 #[u,v])(hZ:w.heap.size≤Z) :
  Hid (zch w none (.returned (.tuple #[.agg #[.slice none 0 0,.slice none 0 0],.bool false])) ((W.setCell ⟨Z,0,none⟩ (.slice none 0 0)).setCell ⟨Z,1,none⟩ (.slice none 0 0))) ∧
  Blk ((W.setCell ⟨Z,0,none⟩ (.slice none 0 0)).setCell ⟨Z,1,none⟩ (.slice none 0 0)) Z 101 #[.slice none 0 0,.slice none 0 0]:=
 ⟨za ⟨(hx.setCell (p:=⟨Z,0,none⟩) hZ _).setCell (p:=⟨Z,1,none⟩) hZ _,.inl ⟨rfl,rfl⟩⟩,by simpa using (hb.set_ 0 (.slice none 0 0)).set_ 1 (.slice none 0 0)⟩
theorem tab_some {w w1 W:World} {Z nr nc cr cc:Nat} {R C:Option Addr} {rs cs:List ByteArray} {o:Option (List ByteArray × List ByteArray)} {u v:Value}(hx:Ext w W)(hb:Blk W Z 101 #[u,v])(hZ:w.heap.size≤Z)(ho:o=some (rs,cs))(hw:w.heap.size≤w1.heap.size)
  (hR:W.ownsRow w1.heap.size 9 1 (.slice R nr cr) nr (zL rs)) (hC:W.ownsRow w1.heap.size 9 1 (.slice C nc cc) nc (zL cs)) :
  Hid (zch w o (.returned (.tuple #[.agg #[.slice R nr cr,.slice C nc cc],.bool true])) ((W.setCell ⟨Z,0,none⟩ (.slice R nr cr)).setCell ⟨Z,1,none⟩ (.slice C nc cc))) ∧
  Blk ((W.setCell ⟨Z,0,none⟩ (.slice R nr cr)).setCell ⟨Z,1,none⟩ (.slice C nc cc)) Z 101 #[.slice R nr cr,.slice C nc cc]:=by
 have hf:Frm (fun k=>k=Z) W ((W.setCell ⟨Z,0,none⟩ (.slice R nr cr)).setCell ⟨Z,1,none⟩ (.slice C nc cc)):=(Frm.setCell W _ 0 _).trans (Frm.setCell _ _ 1 _)
 exact⟨za ⟨(hx.setCell (p:=⟨Z,0,none⟩) hZ _).setCell (p:=⟨Z,1,none⟩) hZ _,.inr ⟨rs,cs,nr,nc,R,cr,C,cc,ho,rfl,zq (zg hR hf (fun b hv e=>zw hR hb (by decide) hv e)) hw,zq (zg hC hf (fun b hv e=>zw hC hb (by decide) hv e)) hw⟩⟩,by simpa using (hb.set_ 0 (.slice R nr cr)).set_ 1 (.slice C nc cc)⟩
section
variable {w W:World} {n c m d m' d' L:Nat} {A B B':Option Addr} {s:Sys} {p:Aut} {nr nc cr cc:Nat} {R C:Option Addr} {rows cols:List ByteArray}
theorem yC10a6 {P:Prop}(h:P:=by
 go_wp2_with fail
 exact bodyPost_ret (v:=.tuple #[.agg #[.slice none 0 0,.slice none 0 0],.bool false]) (by simp [results,Tryz.results77,go_sem,cf]) rfl hret.out
 ):P:=h
theorem zhk {x:ByteArray}(h:Tch w A n B m B' m' s p L)(hT:TabAt w R nr C nc rows cols)(hI:zbz L (zt s p L) rows cols)(hcr:nr≤cr)(hcc:nc≤cc)(hcl:zav L (zt s p L) rows cols=none)(hx:x.size≤9223372036854775807) :
  Calls Tryz.prog 77 #[.agg #[.bool false,.int .i64 0,.slice none 0 0,.slice none 0 0,.int .i64 s.al,.int .i64 s.st,.slice A n c,.int .i64 p.al,.slice B m d,.slice B' m' d',.int .i64 L],.agg #[.slice R nr cr,.slice C nc cc],.string x] w (zch w (zaV L (zt s p L) rows cols x)):=by
 have HSp:=za (fun W (hW:Ext w W)=>zhl (c:=c) (d:=d) (d':=d') (cr:=cr) (cc:=cc) (x:=x) (h.ext hW) (hT.ext hW) hI hcr hcc hcl hx)
 have HAd:=za (fun (y:ByteArray) W (hW:Ext w W) hy=>zhi (c:=c) (d:=d) (d':=d') (cr:=cr) (cc:=cc) (x:=y) (h.ext hW) (hT.ext hW) hI hcr hcc hy)
 have HCl:=za (fun (R:Option Addr) (nr cr:Nat) (C:Option Addr) (nc cc:Nat) (rows cols:List ByteArray) W (hW:Ext w W) hT hI (hcr:nr≤cr) (hcc:nc≤cc)=>zdN (c:=c) (d:=d) (d':=d') (nr:=nr) (nc:=nc) (R:=R) (C:=C) (cr:=cr) (cc:=cc) (rows:=rows) (cols:=cols) (h.ext hW) hT hI hcr hcc)
 have HI:=za (fun col (ha:zfN L cols col=true)=>hI.addC ha)
 have Hle:=za (show zaV L (zt s p L) rows cols x=match zcR L (zt s p L) rows cols x with
  |none=>none
  |some col=>if zfN L cols col=true then (zZ L (zt s p L) (cols++[col]) (12 - rows.length) rows).map fun r=>(r,cols++[col]) else none from rfl)
 have Hsz:=za (fun y (hy:zcR L (zt s p L) rows cols x=some y)=>splitT_size hy)
 generalize zaV L (zt s p L) rows cols x=fin at *
 have hx0:Ext w (((w.alloc (.cells #[.bool false,.int .i64 0,.slice none 0 0,.slice none 0 0,.int .i64 s.al,.int .i64 s.st,.slice A n c,.int .i64 p.al,.slice B m d,.slice B' m' d',.int .i64 L] 98)).alloc (.cells #[.slice R nr cr,.slice C nc cc] 101)).alloc (.cells #[.slice none 0 0,.slice none 0 0] 101)):=(((Ext.refl _).alloc _).alloc _).alloc _
 obtain⟨b1,b2,b3⟩:=zK (Ext.refl (((w.alloc (.cells #[.bool false,.int .i64 0,.slice none 0 0,.slice none 0 0,.int .i64 s.al,.int .i64 s.st,.slice A n c,.int .i64 p.al,.slice B m d,.slice B' m' d',.int .i64 L] 98)).alloc (.cells #[.slice R nr cr,.slice C nc cc] 101)).alloc (.cells #[.slice none 0 0,.slice none 0 0] 101)))
 clear h hT hI hcl
 cases hop:zcR L (zt s p L) rows cols x with
 |none =>
  rw [hop] at HSp Hle
  have hfn:=za (show fin=none from Hle.out)
  rw [hfn.out]
  clear Hle hfn hop
  go_enter Tryz.func77,Tryz.ntmps77
  go_upto_region 1 with fail
  generalize ((w.alloc (.cells #[.bool false,.int .i64 0,.slice none 0 0,.slice none 0 0,.int .i64 s.al,.int .i64 s.st,.slice A n c,.int .i64 p.al,.slice B m d,.slice B' m' d',.int .i64 L] 98)).alloc (.cells #[.slice R nr cr,.slice C nc cc] 101)).alloc (.cells #[.slice none 0 0,.slice none 0 0] 101)=w0 at *
  have CB:=b1.cells
  have CT:=b2.cells
  have hww:=Ext.refl w0
  go_upto_region 2 with (first
   |(go_at_call 148;refine (HSp.out _ hx0).mono ?_;rintro e w1 ⟨rfl,hx1⟩))
  have bz:=b3.ext hx1
  have kz:=bz.cell
  have fz:=bz.frozen
  obtain⟨hret,hb⟩:=ziF (hx0.trans hx1) bz (by omega)
  have cf:=hb.cell
  go_wp2_with fail
  exact bodyPost_ret (v:=.tuple #[.agg #[.slice none 0 0,.slice none 0 0],.bool false]) (by simp [results,Tryz.results77,go_sem,cf]) rfl hret.out
 |some col =>
  have hsz:=Hsz.out col hop
  rw [hop] at HSp Hle
  cases hok:zfN L cols col
  ·have hfn:=za (show fin=none by rw [Hle.out];simp [hok])
   have HAc:=za (fun W (hW:Ext w W)=>HAd.out col W hW (by omega))
   rw [hok,if_neg (by decide)] at HAc
   rw [hfn.out]
   clear Hle hfn hop hok
   go_enter Tryz.func77,Tryz.ntmps77
   go_upto_region 1 with fail
   generalize ((w.alloc (.cells #[.bool false,.int .i64 0,.slice none 0 0,.slice none 0 0,.int .i64 s.al,.int .i64 s.st,.slice A n c,.int .i64 p.al,.slice B m d,.slice B' m' d',.int .i64 L] 98)).alloc (.cells #[.slice R nr cr,.slice C nc cc] 101)).alloc (.cells #[.slice none 0 0,.slice none 0 0] 101)=w0 at *
   have CB:=b1.cells
   have CT:=b2.cells
   have hww:=Ext.refl w0
   go_upto_region 5 with (first
    |(go_at_call 148;refine (HSp.out _ hx0).mono ?_;rintro e w1 ⟨rfl,hx1⟩)
    |(go_at_call 149;refine (HAc.out _ (hx0.trans hx1)).mono ?_;rintro e w2 ⟨hx2,⟨-,rfl⟩|⟨_,_,_,_,_,_,_,_,h0,_⟩⟩;rotate_left;exact absurd h0 (by simp);have hx12:=hx1.trans hx2))
   have hx3:=(Ext.refl w2).alloc (.cells #[.slice none 0 0,.slice none 0 0] 101)
   generalize w2.alloc (.cells #[.slice none 0 0,.slice none 0 0] 101)=w3 at *
   have bz:=b3.ext (hx12.trans hx3)
   have kz:=bz.cell
   have fz:=bz.frozen
   obtain⟨hret,hb⟩:=ziF ((hx0.trans hx12).trans hx3) bz (by omega)
   have cf:=hb.cell
   exact yC10a6
  ·have hfn:=za (show fin=(zZ L (zt s p L) (cols++[col]) (12 - rows.length) rows).map fun r=>(r,cols++[col]) by rw [Hle.out];simp [hok])
   have HAc:=za (fun W (hW:Ext w W)=>HAd.out col W hW (by omega))
   rw [hok,if_pos rfl] at HAc
   have HIc:=za (HI.out col hok)
   clear Hle hop hok
   go_enter Tryz.func77,Tryz.ntmps77
   go_upto_region 1 with fail
   generalize ((w.alloc (.cells #[.bool false,.int .i64 0,.slice none 0 0,.slice none 0 0,.int .i64 s.al,.int .i64 s.st,.slice A n c,.int .i64 p.al,.slice B m d,.slice B' m' d',.int .i64 L] 98)).alloc (.cells #[.slice R nr cr,.slice C nc cc] 101)).alloc (.cells #[.slice none 0 0,.slice none 0 0] 101)=w0 at *
   have CB:=b1.cells
   have CT:=b2.cells
   have hww:=Ext.refl w0
   go_upto_region 5 with (first
    |(go_at_call 148;refine (HSp.out _ hx0).mono ?_;rintro e w1 ⟨rfl,hx1⟩)
    |(go_at_call 149;refine (HAc.out _ (hx0.trans hx1)).mono ?_;rintro e w2 ⟨hx2,⟨h0,_⟩|⟨rs,cs,nr2,nc2,R2,cr2,C2,cc2,h0,rfl,oR,oC⟩⟩;exact absurd h0 (by simp);have hx12:=hx1.trans hx2;obtain⟨rfl,rfl⟩:=Prod.mk.inj (Option.some.inj h0)))
   have bt:=Blk.new w2 101 #[.slice R2 nr2 cr2,.slice C2 nc2 cc2]
   have hx3:=(Ext.refl w2).alloc (.cells #[.slice R2 nr2 cr2,.slice C2 nc2 cc2] 101)
   have oR3:=zh oR hx3
   have oC3:=zh oC hx3
   have hcr2:=zgb oR
   have hcc2:=zgb oC
   generalize w2.alloc (.cells #[.slice R2 nr2 cr2,.slice C2 nc2 cc2] 101)=w3 at *
   have hx13:=hx12.trans hx3
   have HT3:=za (show TabAt w3 R2 nr2 C2 nc2 rows (cols++[col]) from ⟨_,_,_,_,Reads.of_own oR3,Reads.of_own oC3⟩)
   have CB3:∀ W,Ext w3 W→∀ q,W.cell? ⟨w.heap.size,q,none⟩=#[Value.bool false,.int .i64 0,.slice none 0 0,.slice none 0 0,.int .i64 s.al,.int .i64 s.st,.slice A n c,.int .i64 p.al,.slice B m d,.slice B' m' d',.int .i64 L][q]?:=fun W hW=>CB W (hx13.trans hW)
   have k2:=bt.cell
   have hww3:=Ext.refl w3
   clear oR oC oR3 oC3
   go_wp2_with fail
   refine (HCl.out _ _ _ _ _ _ rows (cols++[col]) _ (hx0.trans hx13) HT3.out HIc.out hcr2 hcc2).mono ?_
   rintro e w4 ⟨hx4,⟨h0,rfl⟩|⟨rs,cs,nr3,nc3,R3,cr3,C3,cc3,h0,rfl,oR,oC⟩⟩
   ·have bz:=b3.ext (hx13.trans hx4)
    have kz:=bz.cell
    have fz:=bz.frozen
    obtain⟨hret,hb⟩:=ziF ((hx0.trans hx13).trans hx4) bz (by omega)
    have hfn2:=za (hfn.out.trans h0)
    rw [← hfn2.out] at hret
    have cf:=hb.cell
    clear k2 h0
    exact yC10a6
   ·have bz:=b3.ext (hx13.trans hx4)
    have kz:=bz.cell
    have fz:=bz.frozen
    obtain⟨hret,hb⟩:=tab_some ((hx0.trans hx13).trans hx4) bz (by omega) (hfn.out.trans h0) (hx0.trans hx13).size oR oC
    have cf:=hb.cell
    clear k2 h0
    go_wp2_with fail
    exact bodyPost_ret (v:=.tuple #[.agg #[.slice R3 nr3 cr3,.slice C3 nc3 cc3],.bool true]) (by simp [results,Tryz.results77,go_sem,cf]) rfl hret.out
end
theorem letS_data (l:Nat):(zbA l).data.toList=[UInt8.ofNat (97+l)]:=by
 unfold zbA
 rw [strOfNums_data]
 rfl
theorem rest_letter {x:ByteArray}(hw:zaM x=true) {k:Nat}(hk:k<x.size):x.extract k x.size=zbA (x[k].toNat - 97)++x.extract (k+1) x.size:=by
 have hb:=zaB hw hk
 have hd:x.data.toList.length=x.size:=by simp
 have e:(x.extract k x.size).data.toList=(zbA (x[k].toNat - 97)++x.extract (k+1) x.size).data.toList:=by
  rw [ByteArray.data_append,Array.toList_append,letS_data,ByteArray.data_extract,ByteArray.data_extract,Array.toList_extract,Array.toList_extract]
  rw [List.extract_eq_take_drop,List.extract_eq_take_drop,List.take_of_length_le (by rw [List.length_drop];omega),List.take_of_length_le (by rw [List.length_drop];omega)]
  rw [show 97+(x[k].toNat - 97)=x[k].toNat by omega,UInt8.ofNat_toNat]
  have h1:=zbE x k hk
  obtain⟨h2,h3⟩:=List.getElem?_eq_some_iff.1 h1
  rw [List.drop_eq_getElem_cons h2,h3]
  rfl
 have e2:(x.extract k x.size).data=(zbA (x[k].toNat - 97)++x.extract (k+1) x.size).data:=Array.toList_inj.1 e
 exact ByteArray.ext e2
section
variable {L:Nat} {f:ByteArray→Bool} {rows cols:List ByteArray}
theorem autT_go {q l:Nat} {r:ByteArray}(hq:rows[q]?=some r)(hl:l<6)(hb:L.testBit l=true):aGo (zdn L f rows cols) q l=zhw (zal f cols rows) (mkS (zbq f cols (r++zbA l))):=by
 unfold aGo zdn
 simp only [Int.toNat_natCast]
 rw [if_pos hb]
 have h1:(rows.map (zcW L f rows cols)).getD q []=zcW L f rows cols r:=by
  rw [List.getD_eq_getElem?_getD,List.getElem?_map,hq];rfl
 rw [h1]
 unfold zcW
 rw [List.getD_eq_getElem?_getD,List.getElem?_map,zgw hb 6 hl]
 simp
theorem autT_row {q l:Nat} {r:ByteArray}(ho:zav L f rows cols=none)(hq:rows[q]?=some r)(hl:l<6)(hb:L.testBit l=true) :
  ∃ r2,rows[aGo (zdn L f rows cols) q l]?=some r2∧zbq f cols r2=zbq f cols (r++zbA l):=by
 rw [autT_go hq hl hb]
 have h1:=zdH ho (List.mem_of_getElem? hq) (zz.2 ⟨hl,hb⟩)
 have h2:=idxS_at h1
 unfold zal at h2 ⊢
 rw [List.getElem?_map] at h2
 obtain⟨r2,h3,h4⟩:=Option.map_eq_some_iff.1 h2
 exact⟨r2,h3,mkS_inj h4⟩
theorem openW_of {x:ByteArray} {r:ByteArray} {l:Nat}(hr:r∈rows)(hl:l<6)(hb:L.testBit l=true)(hx:x=r++zbA l)(hn:zbq f cols x∉rows.map (zbq f cols)):zav L f rows cols≠none:=by
 intro h
 subst hx
 have:=zdH h hr (zz.2 ⟨hl,hb⟩)
 obtain⟨y,hy,e⟩:=List.mem_map.1 this
 exact hn (List.mem_map.2 ⟨y,hy,mkS_inj e⟩)
theorem split_open (hI:zbz L f rows cols)(ho:zav L f rows cols=none) {x col:ByteArray}(hs:zcR L f rows cols x=some col):zav L f rows (cols++[col])≠none:=by
 unfold zcR at hs
 split at hs
 ·rename_i hc
  obtain⟨hc1,-⟩:=hc
  simp only [Bool.and_eq_true,decide_eq_true_eq] at hc1
  obtain⟨k,hk,rfl⟩:=Option.map_eq_some_iff.1 hs
  have hkl:=List.mem_range.1 (List.mem_of_find?_eq_some hk)
  have hne:=List.find?_some hk
  have hw:=zaP hc1.1
  have hb:=zaB hw hkl
  obtain⟨l,hl⟩:∃ l,x[k].toNat - 97=l:=⟨_,rfl⟩
  have hl6:l<6:=by omega
  have hlb:L.testBit l=true:=by
   have h1:=(zes.1 hc1.1).2
   have h2:(alB (wl x)).testBit l=true:=(zdm _ _).2 (List.mem_of_getElem? (by rw [zdA hkl,hl]))
   rw [← h1,Nat.testBit_and,Bool.and_eq_true] at h2
   exact h2.2
  have hlt:∀ j,j≤x.size→stT L f rows cols x j<rows.length:=fun j hj=>by
   have:=zdI (p:=zdn L f rows cols) (ls:=(wl x).take j) (q:=0)
   have hL:L % 64=L % 64:=rfl
   unfold stT
   have key:∀ (ls:List Nat) (q:Nat),q<rows.length→(∀ l∈ls,l<6∧L.testBit l=true)→zaL (zdn L f rows cols) q ls<rows.length:=by
    intro ls
    induction ls with
    |nil=>intro q hq _;exact hq
    |cons a r ih =>
     intro q hq h
     obtain⟨h1,h2⟩:=h a List.mem_cons_self
     obtain⟨y,hy,-⟩:=autT_row ho (List.getElem?_eq_getElem hq) h1 h2
     exact ih _ (List.getElem?_eq_some_iff.1 hy).1 (fun b hb=>h b (List.mem_cons_of_mem _ hb))
   refine key _ 0 hI.r1 fun a ha=>?_
   have ha:=List.mem_of_mem_take ha
   refine⟨wl_lt hw a ha,?_⟩
   have h1:=(zes.1 hc1.1).2
   have h2:(alB (wl x)).testBit a=true:=(zdm _ _).2 ha
   rw [← h1,Nat.testBit_and,Bool.and_eq_true] at h2
   exact h2.2
  obtain⟨r,hr⟩:∃ r,rows[stT L f rows cols x k]?=some r:=⟨_,List.getElem?_eq_getElem (hlt k (by omega))⟩
  have hst:stT L f rows cols x (k+1)=aGo (zdn L f rows cols) (stT L f rows cols x k) l:=by
   unfold stT
   rw [List.take_add_one,zdA hkl,Option.toList_some,zbk,hl]
  obtain⟨r2,hr2,he2⟩:=autT_row ho hr hl6 hlb
  rw [← hst] at hr2
  have ha1:zhb L f rows cols x k=f (r++zbA l++x.extract (k+1) x.size):=by
   unfold zhb
   rw [List.getD_eq_getElem?_getD,hr,rest_letter hw hkl,hl,ByteArray.append_assoc];rfl
  have ha2:zhb L f rows cols x (k+1)=f (r2++x.extract (k+1) x.size):=by
   unfold zhb
   rw [List.getD_eq_getElem?_getD,hr2];rfl
  rw [ha1,ha2] at hne
  refine openW_of (List.mem_of_getElem? hr) hl6 hlb rfl fun hm=>?_
  obtain⟨y,hy,e⟩:=List.mem_map.1 hm
  rw [zfe,zfe] at e
  obtain⟨e1,e2⟩:=List.append_inj' e rfl
  rw [← he2] at e1
  obtain⟨i,hi⟩:=List.getElem?_of_mem hy
  have hnd:=hI.nd
  have hj1:(rows.map (zbq f cols))[i]?=some (zbq f cols y):=by rw [List.getElem?_map,hi];rfl
  have hj2:(rows.map (zbq f cols))[stT L f rows cols x (k+1)]?=some (zbq f cols y):=by rw [List.getElem?_map,hr2,e1];rfl
  have hij:i=stT L f rows cols x (k+1):=by
   obtain⟨a1,a2⟩:=List.getElem?_eq_some_iff.1 hj1
   obtain⟨b1,b2⟩:=List.getElem?_eq_some_iff.1 hj2
   have hpw:=List.pairwise_iff_getElem.1 hnd
   rcases Nat.lt_trichotomy i (stT L f rows cols x (k+1)) with h1|h1|h1
   ·exact absurd (a2.trans b2.symm) (hpw _ _ a1 b1 h1)
   ·exact h1
   ·exact absurd (b2.trans a2.symm) (hpw _ _ b1 a1 h1)
  rw [hij,hr2] at hi
  obtain rfl:=Option.some.inj hi
  have e3:=List.head_eq_of_cons_eq e2
  rw [e3] at hne
  simp at hne
 ·cases hs
theorem learnT_more (hI:zbz L f rows cols)(ho:zav L f rows cols=none) {x:ByteArray} {rs cs:List ByteArray}(h:zaV L f rows cols x=some (rs,cs)):rows.length<rs.length∧cs.length=cols.length+1:=by
 unfold zaV at h
 split at h
 ·cases h
 ·rename_i col hcol
  split at h
  ·rename_i ha
   obtain⟨r,hr,e⟩:=Option.map_eq_some_iff.1 h
   obtain⟨rfl,rfl⟩:=Prod.mk.inj e
   refine⟨?_,by simp⟩
   have hop:=split_open hI ho hcol
   obtain⟨z,hz⟩:=Option.ne_none_iff_exists'.1 hop
   have h12:=hI.r12
   cases hk:12 - rows.length with
   |zero=>rw [hk,zdp hz] at hr;cases hr
   |succ k =>
    rw [hk,zcs _ hz] at hr
    have hI2:=(hI.addC ha).grow (by omega) hz
    obtain⟨-,-,t,ht⟩:=zgj _ _ _ hI2 (by simp;omega) hr
    rw [ht];simp<;>omega
  ·cases h
end
def SfW (s:Sys) (p:Aut) (L:Nat) (x:ByteArray) (i:Nat) (T:List Nat):Prop:=
 i≤(wl x).length∧zbd T 12 (PR s p L ((wl x).take i))∧∀ k,k<i→¬ Bad s p L ((wl x).take k)
section
variable {s:Sys} {p:Aut} {L i l:Nat} {x:ByteArray} {T U:List Nat}
theorem SfW.zero (h:zbd T 12 (PR s p L [])):SfW s p L x 0 T:=⟨Nat.zero_le _,by simpa using h,fun k hk=>by omega⟩
theorem SfW.step (h:SfW s p L x i T)(hb:badS p T=false)(hl:(wl x)[i]?=some l)(hU:Lead s p L l T U):SfW s p L x (i+1) U:=by
 obtain⟨h1,h2,h3⟩:=h
 have hi:=(List.getElem?_eq_some_iff.1 hl).1
 refine⟨by omega,?_,fun k hk hbad=>?_⟩
 ·rw [List.take_add_one,hl]
  exact hU.pr h2
 ·rcases Nat.lt_or_eq_of_le (Nat.le_of_lt_succ hk) with h4|rfl
  ·exact h3 k h4 hbad
  ·rw [(zhP h2).2 hbad] at hb
   cases hb
theorem SfW.fin (h:SfW s p L x i T)(hin:inB x L=true)(he:i=(wl x).length∨badS p T=true):zt s p L x=!badS p T:=by
 obtain⟨h1,h2,h3⟩:=h
 rw [Bool.eq_iff_iff,zdK]
 constructor
 ·rintro ⟨-,hs⟩
  cases hb:badS p T
  ·rfl
  ·exact absurd ((zhP h2).1 hb) (hs i h1)
 ·intro hb
  refine⟨hin,fun k hk hbad=>?_⟩
  have hb':badS p T=false:=by simpa using hb
  rcases he with rfl|he
  ·rcases Nat.lt_or_eq_of_le hk with h4|rfl
   ·exact h3 k h4 hbad
   ·rw [(zhP h2).2 hbad] at hb'
    cases hb'
  ·rw [he] at hb'
   cases hb'
end
end Go.Proofs.YtcfchopfijalpaaGreatDoor
