/- The referenc -/
import Derived.Test.YtfcjhpodichpjaaGreatDoorU08
import Derived.Test.YtfcjhpodichpjaaGreatDoorU06
set_option maxHeartbeats 4000000
set_option maxRecDepth 100000
namespace Go.Proofs.YtfcjhpodichpjaaGreatDoor
open Go Go.RowKit
theorem zT (a b:List ByteArray):zF (a++b)=zF a++zF b:=by simp [zF]
noncomputable def zgd (L:Nat) (cols:List ByteArray) (x:ByteArray):Bool:=(inB x L&&decide (x.size≤4000))&&(!zfF cols x&&decide (cols.length≠20))
theorem rowM_snoc (f:ByteArray→Bool) (cols:List ByteArray) (x y:ByteArray):zcI f (cols++[x]) y=zcI f cols y++[f (y++x)]:=by simp [zcI]
theorem zcH.addC {L:Nat} {f:ByteArray→Bool} {rows cols:List ByteArray} {x:ByteArray}(h:zcH L f rows cols)(ha:zgd L cols x=true):zcH L f rows (cols++[x]):=by
 unfold zgd at ha
 simp only [Bool.and_eq_true,decide_eq_true_eq,Bool.not_eq_true'] at ha
 obtain⟨⟨h1,h2⟩,h3,h4⟩:=ha
 rw [zbK] at h3
 refine⟨h.r1,h.r12,by simp,by have:=h.c20;simp;omega,h.r0,by rw [List.getElem?_append_left (by have:=h.c1;omega)];exact h.c0,h.rw_,fun i y hi hy=>?_,?_⟩
 ·rcases Nat.lt_or_ge i cols.length with h5|h5
  ·rw [List.getElem?_append_left h5] at hy
   obtain⟨h6,h7,h8⟩:=h.cw i y hi hy
   exact⟨h6,h7,by rw [List.take_append_of_le_length (by omega)];exact h8⟩
  ·rw [List.getElem?_append_right h5] at hy
   have hi2:i=cols.length:=by
    rcases Nat.eq_or_lt_of_le h5 with h6|h6
    ·exact h6.symm
    ·rw [List.getElem?_eq_none (by simp;omega)] at hy;cases hy
   subst hi2
   simp at hy
   subst hy
   exact⟨h1,h2,by rw [List.take_append_of_le_length (Nat.le_refl _),List.take_length];exact h3⟩
 ·have h5:=h.nd
  rw [List.nodup_iff_pairwise_ne,List.pairwise_map] at h5 ⊢
  refine h5.imp fun hne e=>hne ?_
  rw [rowM_snoc,rowM_snoc] at e
  exact (List.append_inj' e rfl).1
def AddV (w:World) (Z:Nat) (rows cols:List ByteArray) (nr nc:Nat) (v:Value) (W:World):Prop:=
 ∃ (R:Option Addr) (cr:Nat) (C:Option Addr) (cc:Nat),v=.bool true∧Blk W Z 205 #[.slice R nr cr,.slice C nc cc] ∧
  W.ownsRow w.heap.size 9 1 (.slice R nr cr) nr (zF rows)∧W.ownsRow w.heap.size 9 1 (.slice C nc cc) nc (zF cols)∧Ext w W
theorem zaA {w w1 W:World} {rows cols:List ByteArray} {nr nc g cr cc:Nat} {R C:Option Addr} {u v:Value}(ha:W.ownsRow w1.heap.size 9 1 (.slice R nr cr) nr (zF rows))(hc:W.ownsRow w1.heap.size 9 1 (.slice C nc cc) nc (zF cols))(hb:Blk W g 205 #[u,v])(hx:Ext w1 W)(hw:Ext w w1)(hg:w.heap.size≤g) :
  AddV w g rows cols nr nc (.bool true) ((W.setCell ⟨g,0,none⟩ (.slice R nr cr)).setCell ⟨g,1,none⟩ (.slice C nc cc)):=by
 have hf:Frm (fun k=>k=g) W ((W.setCell ⟨g,0,none⟩ (.slice R nr cr)).setCell ⟨g,1,none⟩ (.slice C nc cc)):=(Frm.setCell W g 0 _).trans (Frm.setCell _ g 1 _)
 exact⟨R,cr,C,cc,rfl,by simpa using (hb.set_ 0 _).set_ 1 _,zl (zd ha hf (fun b hv e=>zk ha hb (by decide) hv e)) hw.size,zl (zd hc hf (fun b hv e=>zk hc hb (by decide) hv e)) hw.size,((hw.trans hx).setCell (p:=⟨g,0,none⟩) hg _).setCell (p:=⟨g,1,none⟩) hg _⟩
section
variable {w W:World} {n c m d m' d' L:Nat} {A B B':Option Addr} {s:Sys} {p:Aut} {nr nc cr cc:Nat} {R C:Option Addr} {rows cols:List ByteArray}
theorem yU09d1 {P:Prop}(h:P:=by
 refine zb (fun K hK=>?_)
 refine zo _ _ _ _ rfl w1.heap.size 9 _ 1 16 Tryz.underlying61 zi rfl (by decide) (.slice Ac9 nc cc9) nc (zF cols) rfl zhR _ _ (some ⟨bo9,0,none⟩) 1 1 (zF [x]) rfl (Reads.of_own owno9) (zn _) (by unfold maxLen;omega) (by omega) hx35.size ?_
 intro v9 v36 ownc8 hg hat
 rw [← zT] at ownc8
 obtain⟨Ac8,cc8,rfl⟩:=zf ownc8
 have hx36:=hx35.grown hg (fun k hk=>(zhR.lt k hk).1)
 have zhQ:=zd zhQ (Frm.of_grown hg) (fun k hk hS=>hdis.out k hk hS)
 refine hK.out _ _ hx36 ?_
 refine pT ?_
 have zhR:=ownc8
 refine uQ ?_
 have bz:=b3.ext (hx01.trans hx36)
 have c6:=Blk.cell bz
 have f6:=Blk.frozen bz
 refine zg fun K hK=>?_
 go_simp
 refine hK.out _ _ ?_
 refine pT ?_
 refine uQ ?_
 refine zj ?_
 go_wp2_with fail
 go_meet
 exact zaA zhQ zhR bz hx36 hx1 (by omega)
 ):P:=h
theorem yU09c1 {P:Prop}(h:P:=by
 refine zb (fun K hK=>?_)
 refine zo _ _ _ _ rfl w1.heap.size 9 _ 1 16 Tryz.underlying61 zi rfl (by decide) (.slice (some ⟨bc9,0,none⟩) 0 0) 0 [] rfl zhR _ _ C nc cc (zF cols) rfl (HC1.out v34 hx34) (zn _) (by unfold maxLen;omega) (by omega) hx34.size ?_
 intro v9 v35 ownc8 hg hat
 rw [Nat.zero_add,List.nil_append] at ownc8
 obtain⟨Ac9,cc9,rfl⟩:=zf ownc8
 have hx35:=hx34.grown hg (fun k hk=>(zhR.lt k hk).1)
 have hsz:=hg.size
 have hbs:Hid (v34.heap.size=v34.heap.size):=za rfl
 have zhQ:=zd zhQ (Frm.of_grown hg) (fun k hk hS=>hrn_a_bc9.out k hk (by simpa [Value.ownBlock] using hS.symm))
 have owno9:=zd owno9 (Frm.of_grown hg) (fun k hk hS=>by simp [Value.ownBlock] at hk hS;exact hne_bc9_bo9.out (hS.trans hk.symm))
 have hdis0:Hid (∀ k,(Value.slice Ac9 nc cc9).ownBlock=some k→(Value.slice Aa9 nr ca9).ownBlock≠some k):=za (fun k hk hS=>by rcases hat with h1|h1;(rw [h1] at hk;simp [Value.ownBlock] at hk;exact hrn_a_bc9.out k hS hk.symm);(rw [h1] at hk;have:=Option.some.inj hk;have:=hrl_a.out k hS;omega))
 have hdis:Hid (∀ k,(Value.slice Aa9 nr ca9).ownBlock=some k→(Value.slice Ac9 nc cc9).ownBlock≠some k):=za (fun k hk hS=>hdis0.out k hS hk)
 generalize hbe:v34.heap.size=nc9 at *
 have hne_ba9_nc9:Hid (ba9≠nc9):=za (by have:=zhN.out;omega)
 have hne_bc9_nc9:Hid (bc9≠nc9):=za (by have:=zhO.out;omega)
 have hne_bo9_nc9:Hid (bo9≠nc9):=za (by have:=zhP.out;omega)
 have zhN:Hid (ba9<v35.heap.size):=za (by have:=zhN.out;omega)
 have zhO:Hid (bc9<v35.heap.size):=za (by have:=zhO.out;omega)
 have zhP:Hid (bo9<v35.heap.size):=za (by have:=zhP.out;omega)
 have hrl_a:Hid (∀ k,(Value.slice Aa9 nr ca9).ownBlock=some k→k<v35.heap.size):=za (fun k hk=>(zhQ.lt k hk).2)
 have hrn_c_bo9:Hid (∀ k,(Value.slice Ac9 nc cc9).ownBlock=some k→k≠bo9):=za (fun k hk=>by rcases hat with h1|h1;(rw [h1] at hk;simp [Value.ownBlock] at hk;rw [← hk];exact hne_bc9_bo9.out);(rw [h1] at hk;rw [← Option.some.inj hk];exact (Ne.symm hne_bo9_nc9.out)))
 have hrl_c:Hid (∀ k,(Value.slice Ac9 nc cc9).ownBlock=some k→k<v35.heap.size):=za (fun k hk=>(ownc8.lt k hk).2)
 clear hbs hsz hbe
 refine hK.out _ _ hx35 ?_
 refine pT ?_
 have zhR:=ownc8
 exact yU09d1
 ):P:=h
theorem yU09b1 {P:Prop}(h:P:=by
 clear hbs zhL hbe
 refine zb (fun K hK=>?_)
 refine zo _ _ _ _ rfl w1.heap.size 9 _ 1 16 Tryz.underlying61 zi rfl (by decide) (.slice (some ⟨ba9,0,none⟩) 0 0) 0 [] rfl zhQ _ _ R nr cr (zF rows) rfl (HR1.out v33 hx33) (zn _) (by unfold maxLen;omega) (by omega) hx33.size ?_
 intro v9 v34 owna8 hg hat
 rw [Nat.zero_add,List.nil_append] at owna8
 obtain⟨Aa9,ca9,rfl⟩:=zf owna8
 have hx34:=hx33.grown hg (fun k hk=>(zhQ.lt k hk).1)
 have hsz:=hg.size
 have hbs:Hid (v33.heap.size=v33.heap.size):=za rfl
 have zhR:=zd zhR (Frm.of_grown hg) (fun k hk hS=>by simp [Value.ownBlock] at hk hS;exact zhW.out (hS.trans hk.symm))
 have owno9:=zd owno9 (Frm.of_grown hg) (fun k hk hS=>by simp [Value.ownBlock] at hk hS;exact hne_ba9_bo9.out (hS.trans hk.symm))
 generalize hbe:v33.heap.size=na9 at *
 have hne_ba9_na9:Hid (ba9≠na9):=za (by have:=zhN.out;omega)
 have hne_bc9_na9:Hid (bc9≠na9):=za (by have:=zhO.out;omega)
 have hne_bo9_na9:Hid (bo9≠na9):=za (by have:=zhP.out;omega)
 have zhN:Hid (ba9<v34.heap.size):=za (by have:=zhN.out;omega)
 have zhO:Hid (bc9<v34.heap.size):=za (by have:=zhO.out;omega)
 have zhP:Hid (bo9<v34.heap.size):=za (by have:=zhP.out;omega)
 have hrn_a_bc9:Hid (∀ k,(Value.slice Aa9 nr ca9).ownBlock=some k→k≠bc9):=za (fun k hk=>by rcases hat with h1|h1;(rw [h1] at hk;simp [Value.ownBlock] at hk;rw [← hk];exact zhW.out);(rw [h1] at hk;rw [← Option.some.inj hk];exact (Ne.symm hne_bc9_na9.out)))
 have hrn_a_bo9:Hid (∀ k,(Value.slice Aa9 nr ca9).ownBlock=some k→k≠bo9):=za (fun k hk=>by rcases hat with h1|h1;(rw [h1] at hk;simp [Value.ownBlock] at hk;rw [← hk];exact hne_ba9_bo9.out);(rw [h1] at hk;rw [← Option.some.inj hk];exact (Ne.symm hne_bo9_na9.out)))
 have hrl_a:Hid (∀ k,(Value.slice Aa9 nr ca9).ownBlock=some k→k<v34.heap.size):=za (fun k hk=>(owna8.lt k hk).2)
 clear hbs hsz hbe
 refine hK.out _ _ hx34 ?_
 refine pT ?_
 have zhQ:=owna8
 exact yU09c1
 ):P:=h
theorem yU09b2 {P:Prop}(h:P:=by
 skip
 refine zo _ _ _ _ rfl w1.heap.size 9 _ 1 16 Tryz.underlying61 zi rfl (by decide) (.slice (some ⟨bc9,0,none⟩) 0 0) 0 [] rfl zhR _ _ C nc cc (zF cols) rfl (HC1.out v33 hx33) (zn _) (by unfold maxLen;omega) (by omega) hx33.size ?_
 intro v9 v34 ownc8 hg hat
 rw [Nat.zero_add,List.nil_append] at ownc8
 obtain⟨Ac9,cc9,rfl⟩:=zf ownc8
 have hx34:=hx33.grown hg (fun k hk=>(zhR.lt k hk).1)
 have hsz:=hg.size
 have hbs:Hid (v33.heap.size=v33.heap.size):=za rfl
 have zhQ:=zd zhQ (Frm.of_grown hg) (fun k hk hS=>hrn_a_bc9.out k hk (by simpa [Value.ownBlock] using hS.symm))
 have hdis0:Hid (∀ k,(Value.slice Ac9 nc cc9).ownBlock=some k→(Value.slice Aa9 nr ca9).ownBlock≠some k):=za (fun k hk hS=>by rcases hat with h1|h1;(rw [h1] at hk;simp [Value.ownBlock] at hk;exact hrn_a_bc9.out k hS hk.symm);(rw [h1] at hk;have:=Option.some.inj hk;have:=hrl_a.out k hS;omega))
 have hdis:Hid (∀ k,(Value.slice Aa9 nr ca9).ownBlock=some k→(Value.slice Ac9 nc cc9).ownBlock≠some k):=za (fun k hk hS=>hdis0.out k hS hk)
 generalize hbe:v33.heap.size=nc9 at *
 have hne_ba9_nc9:Hid (ba9≠nc9):=za (by have:=zhN.out;omega)
 have hne_bc9_nc9:Hid (bc9≠nc9):=za (by have:=zhO.out;omega)
 have zhN:Hid (ba9<v34.heap.size):=za (by have:=zhN.out;omega)
 have zhO:Hid (bc9<v34.heap.size):=za (by have:=zhO.out;omega)
 have hrl_a:Hid (∀ k,(Value.slice Aa9 nr ca9).ownBlock=some k→k<v34.heap.size):=za (fun k hk=>(zhQ.lt k hk).2)
 have hrl_c:Hid (∀ k,(Value.slice Ac9 nc cc9).ownBlock=some k→k<v34.heap.size):=za (fun k hk=>(ownc8.lt k hk).2)
 clear hbs hsz hbe
 refine hK.out _ _ hx34 ?_
 refine pT ?_
 have zhR:=ownc8
 refine zb fun K hK=>?_;go_simp
 have hx35:=hx34.alloc (.cells #[.string x] 9)
 have owno9:=zl (World.ownsRow_lit v34 (e:=9) (size:=1) #[.string x] 1 (Nat.le_refl _) (by unfold maxLen;omega) rfl) hx34.size
 have zhL:=(Ext.refl v34).alloc (.cells #[.string x] 9)
 refine hK.out _ _ hx35 ?_
 refine pT ?_
 have zhQ:=ze zhQ zhL
 have zhR:=ze zhR zhL
 have hbs:v34.heap.size<(v34.alloc (.cells #[.string x] 9)).heap.size:=by simp
 generalize hbe:v34.heap.size=bo9 at *
 generalize v34.alloc (.cells #[.string x] 9)=v35 at *
 have hne_ba9_bo9:Hid (ba9≠bo9):=za (by have:=zhN.out;omega)
 have hne_bc9_bo9:Hid (bc9≠bo9):=za (by have:=zhO.out;omega)
 have zhN:Hid (ba9<v35.heap.size):=za (by have:=zhN.out;omega)
 have zhO:Hid (bc9<v35.heap.size):=za (by have:=zhO.out;omega)
 have hrl_a:Hid (∀ k,(Value.slice Aa9 nr ca9).ownBlock=some k→k<v35.heap.size):=za (fun k hk=>(zhQ.lt k hk).2)
 have hrl_c:Hid (∀ k,(Value.slice Ac9 nc cc9).ownBlock=some k→k<v35.heap.size):=za (fun k hk=>(zhR.lt k hk).2)
 have zhP:Hid (bo9<v35.heap.size):=za hbs
 clear hbs zhL hbe
 exact yU09d1
 ):P:=h
theorem yU09b3 {P:Prop}(h:P:=by
 clear hbs zhL hbe
 exact yU09c1
 ):P:=h
theorem yU09a1 {P:Prop}(h:P:=by
 clear hbs zhL hbe
 refine zD (fun K hK=>?_) (fun K hK=>?_)
 ·skip
  refine zo _ _ _ _ rfl w1.heap.size 9 _ 1 16 Tryz.underlying61 zi rfl (by decide) (.slice (some ⟨ba9,0,none⟩) 0 0) 0 [] rfl zhQ _ _ R nr cr (zF rows) rfl (HR1.out v32 hx32) (zn _) (by unfold maxLen;omega) (by omega) hx32.size ?_
  intro v9 v33 owna8 hg hat
  rw [Nat.zero_add,List.nil_append] at owna8
  obtain⟨Aa9,ca9,rfl⟩:=zf owna8
  have hx33:=hx32.grown hg (fun k hk=>(zhQ.lt k hk).1)
  have hsz:=hg.size
  have hbs:Hid (v32.heap.size=v32.heap.size):=za rfl
  have zhR:=zd zhR (Frm.of_grown hg) (fun k hk hS=>by simp [Value.ownBlock] at hk hS;exact zhW.out (hS.trans hk.symm))
  generalize hbe:v32.heap.size=na9 at *
  have hne_ba9_na9:Hid (ba9≠na9):=za (by have:=zhN.out;omega)
  have hne_bc9_na9:Hid (bc9≠na9):=za (by have:=zhO.out;omega)
  have zhN:Hid (ba9<v33.heap.size):=za (by have:=zhN.out;omega)
  have zhO:Hid (bc9<v33.heap.size):=za (by have:=zhO.out;omega)
  have hrn_a_bc9:Hid (∀ k,(Value.slice Aa9 nr ca9).ownBlock=some k→k≠bc9):=za (fun k hk=>by rcases hat with h1|h1;(rw [h1] at hk;simp [Value.ownBlock] at hk;rw [← hk];exact zhW.out);(rw [h1] at hk;rw [← Option.some.inj hk];exact (Ne.symm hne_bc9_na9.out)))
  have hrl_a:Hid (∀ k,(Value.slice Aa9 nr ca9).ownBlock=some k→k<v33.heap.size):=za (fun k hk=>(owna8.lt k hk).2)
  clear hbs hsz hbe
  refine hK.out _ _ hx33 ?_
  refine pT ?_
  have zhQ:=owna8
  refine zD (fun K hK=>?_) (fun K hK=>?_)
  ·exact yU09b2
  ·go_simp
   have hx34:=hx33.alloc (.cells #[.string x] 9)
   have owno9:=zl (World.ownsRow_lit v33 (e:=9) (size:=1) #[.string x] 1 (Nat.le_refl _) (by unfold maxLen;omega) rfl) hx33.size
   have zhL:=(Ext.refl v33).alloc (.cells #[.string x] 9)
   refine hK.out _ _ hx34 ?_
   refine pT ?_
   have zhQ:=ze zhQ zhL
   have zhR:=ze zhR zhL
   have hbs:v33.heap.size<(v33.alloc (.cells #[.string x] 9)).heap.size:=by simp
   generalize hbe:v33.heap.size=bo9 at *
   generalize v33.alloc (.cells #[.string x] 9)=v34 at *
   have hne_ba9_bo9:Hid (ba9≠bo9):=za (by have:=zhN.out;omega)
   have hne_bc9_bo9:Hid (bc9≠bo9):=za (by have:=zhO.out;omega)
   have zhN:Hid (ba9<v34.heap.size):=za (by have:=zhN.out;omega)
   have zhO:Hid (bc9<v34.heap.size):=za (by have:=zhO.out;omega)
   have hrl_a:Hid (∀ k,(Value.slice Aa9 nr ca9).ownBlock=some k→k<v34.heap.size):=za (fun k hk=>(zhQ.lt k hk).2)
   have zhP:Hid (bo9<v34.heap.size):=za hbs
   exact yU09b3
 ·go_simp
  have hx33:=hx32.alloc (.cells #[.string x] 9)
  have owno9:=zl (World.ownsRow_lit v32 (e:=9) (size:=1) #[.string x] 1 (Nat.le_refl _) (by unfold maxLen;omega) rfl) hx32.size
  have zhL:=(Ext.refl v32).alloc (.cells #[.string x] 9)
  refine hK.out _ _ hx33 ?_
  refine pT ?_
  have zhQ:=ze zhQ zhL
  have zhR:=ze zhR zhL
  have hbs:v32.heap.size<(v32.alloc (.cells #[.string x] 9)).heap.size:=by simp
  generalize hbe:v32.heap.size=bo9 at *
  generalize v32.alloc (.cells #[.string x] 9)=v33 at *
  have hne_ba9_bo9:Hid (ba9≠bo9):=za (by have:=zhN.out;omega)
  have hne_bc9_bo9:Hid (bc9≠bo9):=za (by have:=zhO.out;omega)
  have zhN:Hid (ba9<v33.heap.size):=za (by have:=zhN.out;omega)
  have zhO:Hid (bc9<v33.heap.size):=za (by have:=zhO.out;omega)
  have zhP:Hid (bo9<v33.heap.size):=za hbs
  exact yU09b1
 ):P:=h
theorem yU09a2 {P:Prop}(h:P:=by
 clear hbs zhL hbe
 refine zD (fun K hK=>?_) (fun K hK=>?_)
 ·skip
  refine zo _ _ _ _ rfl w1.heap.size 9 _ 1 16 Tryz.underlying61 zi rfl (by decide) (.slice (some ⟨ba9,0,none⟩) 0 0) 0 [] rfl zhQ _ _ R nr cr (zF rows) rfl (HR1.out v32 hx32) (zn _) (by unfold maxLen;omega) (by omega) hx32.size ?_
  intro v9 v33 owna8 hg hat
  rw [Nat.zero_add,List.nil_append] at owna8
  obtain⟨Aa9,ca9,rfl⟩:=zf owna8
  have hx33:=hx32.grown hg (fun k hk=>(zhQ.lt k hk).1)
  have hsz:=hg.size
  have hbs:Hid (v32.heap.size=v32.heap.size):=za rfl
  have owno9:=zd owno9 (Frm.of_grown hg) (fun k hk hS=>by simp [Value.ownBlock] at hk hS;exact hne_ba9_bo9.out (hS.trans hk.symm))
  generalize hbe:v32.heap.size=na9 at *
  have hne_ba9_na9:Hid (ba9≠na9):=za (by have:=zhN.out;omega)
  have hne_bo9_na9:Hid (bo9≠na9):=za (by have:=zhP.out;omega)
  have zhN:Hid (ba9<v33.heap.size):=za (by have:=zhN.out;omega)
  have zhP:Hid (bo9<v33.heap.size):=za (by have:=zhP.out;omega)
  have hrn_a_bo9:Hid (∀ k,(Value.slice Aa9 nr ca9).ownBlock=some k→k≠bo9):=za (fun k hk=>by rcases hat with h1|h1;(rw [h1] at hk;simp [Value.ownBlock] at hk;rw [← hk];exact hne_ba9_bo9.out);(rw [h1] at hk;rw [← Option.some.inj hk];exact (Ne.symm hne_bo9_na9.out)))
  have hrl_a:Hid (∀ k,(Value.slice Aa9 nr ca9).ownBlock=some k→k<v33.heap.size):=za (fun k hk=>(owna8.lt k hk).2)
  clear hbs hsz hbe
  refine hK.out _ _ hx33 ?_
  refine pT ?_
  have zhQ:=owna8
  refine zb fun K hK=>?_;go_simp
  have hx34:=hx33.alloc (.cells #[] 9)
  have zhR:=zl (World.ownsRow_lit v33 (e:=9) (size:=1) #[] 0 (Nat.le_refl _) (by unfold maxLen;omega) rfl) hx33.size
  have zhL:=(Ext.refl v33).alloc (.cells #[] 9)
  refine hK.out _ _ hx34 ?_
  refine pT ?_
  have zhQ:=ze zhQ zhL
  have owno9:=ze owno9 zhL
  have hbs:v33.heap.size<(v33.alloc (.cells #[] 9)).heap.size:=by simp
  generalize hbe:v33.heap.size=bc9 at *
  generalize v33.alloc (.cells #[] 9)=v34 at *
  have zhW:Hid (ba9≠bc9):=za (by have:=zhN.out;omega)
  have hne_bc9_bo9:Hid (bc9≠bo9):=za (by have:=zhP.out;omega)
  have hrn_a_bc9:Hid (∀ k,(Value.slice Aa9 nr ca9).ownBlock=some k→k≠bc9):=za (fun k hk=>by have:=hrl_a.out k hk;omega)
  have zhN:Hid (ba9<v34.heap.size):=za (by have:=zhN.out;omega)
  have zhP:Hid (bo9<v34.heap.size):=za (by have:=zhP.out;omega)
  have hrl_a:Hid (∀ k,(Value.slice Aa9 nr ca9).ownBlock=some k→k<v34.heap.size):=za (fun k hk=>(zhQ.lt k hk).2)
  have zhO:Hid (bc9<v34.heap.size):=za hbs
  exact yU09b3
 ·go_simp
  have hx33:=hx32.alloc (.cells #[] 9)
  have zhR:=zl (World.ownsRow_lit v32 (e:=9) (size:=1) #[] 0 (Nat.le_refl _) (by unfold maxLen;omega) rfl) hx32.size
  have zhL:=(Ext.refl v32).alloc (.cells #[] 9)
  refine hK.out _ _ hx33 ?_
  refine pT ?_
  have zhQ:=ze zhQ zhL
  have owno9:=ze owno9 zhL
  have hbs:v32.heap.size<(v32.alloc (.cells #[] 9)).heap.size:=by simp
  generalize hbe:v32.heap.size=bc9 at *
  generalize v32.alloc (.cells #[] 9)=v33 at *
  have zhW:Hid (ba9≠bc9):=za (by have:=zhN.out;omega)
  have hne_bc9_bo9:Hid (bc9≠bo9):=za (by have:=zhP.out;omega)
  have zhN:Hid (ba9<v33.heap.size):=za (by have:=zhN.out;omega)
  have zhP:Hid (bo9<v33.heap.size):=za (by have:=zhP.out;omega)
  have zhO:Hid (bc9<v33.heap.size):=za hbs
  exact yU09b1
 ):P:=h
theorem yU09a3 {P:Prop}(h:P:=by
 clear hbs zhL hbe
 refine zb fun K hK=>?_;go_simp
 have hx33:=hx32.alloc (.cells #[] 9)
 have zhQ:=zl (World.ownsRow_lit v32 (e:=9) (size:=1) #[] 0 (Nat.le_refl _) (by unfold maxLen;omega) rfl) hx32.size
 have zhL:=(Ext.refl v32).alloc (.cells #[] 9)
 refine hK.out _ _ hx33 ?_
 refine pT ?_
 have zhR:=ze zhR zhL
 have owno9:=ze owno9 zhL
 have hbs:v32.heap.size<(v32.alloc (.cells #[] 9)).heap.size:=by simp
 generalize hbe:v32.heap.size=ba9 at *
 generalize v32.alloc (.cells #[] 9)=v33 at *
 have zhW:Hid (ba9≠bc9):=za (by have:=zhO.out;omega)
 have hne_ba9_bo9:Hid (ba9≠bo9):=za (by have:=zhP.out;omega)
 have zhO:Hid (bc9<v33.heap.size):=za (by have:=zhO.out;omega)
 have zhP:Hid (bo9<v33.heap.size):=za (by have:=zhP.out;omega)
 have zhN:Hid (ba9<v33.heap.size):=za hbs
 exact yU09b1
 ):P:=h
theorem yU09a4 {P:Prop}(h:P:=by
 exact yU09b3
 ):P:=h
theorem yU09a5 {P:Prop}(h:P:=by
 clear hgo
 go_enter Tryz.func235,Tryz.ntmps235
 go_upto_region 1 with fail
 generalize ((w.alloc (.cells #[.bool false,.int .i64 0,.slice none 0 0,.slice none 0 0,.int .i64 s.al,.int .i64 s.st,.slice A n c,.int .i64 p.al,.slice B m d,.slice B' m' d',.int .i64 L] 203)).alloc (.cells #[.slice R nr cr,.slice C nc cc] 205)).alloc (.cells #[.slice none 0 0,.slice none 0 0] 205)=w0 at *
 have CB:=b1.cells
 have CT:=b2.cells
 have hb3:=b3.lt
 have hww:=Ext.refl w0
 go_upto_region 2 with (first
  |(go_at_call 251;refine (HV.out _ hx0).mono ?_;rintro e wa ⟨rfl,hxa⟩)
  |(go_at_call 259;refine (HWd.out _ (hx0.trans hxa)).mono ?_;rintro e w1 ⟨rfl,hxb⟩;have hx01:=hxa.trans hxb)
  |(go_at_call 261;refine (HIn.out _ (hx0.trans hx01)).mono ?_;rintro e wc ⟨rfl,rfl⟩))
 have bz:=b3.ext hx01
 have kz:=bz.cell
 have fz:=bz.frozen
 have cf:=(show Blk ((w1.setCell ⟨w.heap.size+1+1,0,none⟩ (.slice none 0 0)).setCell ⟨w.heap.size+1+1,1,none⟩ (.slice none 0 0)) (w.heap.size+1+1) 205 #[.slice none 0 0,.slice none 0 0] by simpa using (bz.set_ 0 (.slice none 0 0)).set_ 1 (.slice none 0 0)).cell
 have hret:=za (show zbF w none (.returned (.tuple #[.agg #[.slice none 0 0,.slice none 0 0],.bool false])) ((w1.setCell ⟨w.heap.size+1+1,0,none⟩ (.slice none 0 0)).setCell ⟨w.heap.size+1+1,1,none⟩ (.slice none 0 0)) from
  ⟨((hx0.trans hx01).setCell (p:=⟨w.heap.size+1+1,0,none⟩) (by dsimp only;omega) _).setCell (p:=⟨w.heap.size+1+1,1,none⟩) (by dsimp only;omega) _,.inl ⟨rfl,rfl⟩⟩)
 go_wp2_with fail
 exact bodyPost_ret (v:=.tuple #[.agg #[.slice none 0 0,.slice none 0 0],.bool false]) (by simp [results,Tryz.results235,go_sem,cf]) rfl hret.out
 ):P:=h
theorem zgi {x:ByteArray}(h:Tch w A n B m B' m' s p L)(hT:TabAt w R nr C nc rows cols)(hI:zcH L (zu s p L) rows cols)(hcr:nr≤cr)(hcc:nc≤cc)(hx:x.size≤9223372036854775807) :
  Calls Tryz.prog 235 #[.agg #[.bool false,.int .i64 0,.slice none 0 0,.slice none 0 0,.int .i64 s.al,.int .i64 s.st,.slice A n c,.int .i64 p.al,.slice B m d,.slice B' m' d',.int .i64 L],.agg #[.slice R nr cr,.slice C nc cc],.string x] w (zbF w (if zgd L cols x=true then some (rows,cols++[x]) else none)):=by
 obtain⟨e1,e2⟩:=hT.nr
 have hr12:=hI.r12;have hc20:=hI.c20
 rw [e1] at hr12
 rw [e2] at hc20
 have HV:=za (fun W (hW:Ext w W)=>zbm (c:=c) (d:=d) (d':=d') (h.ext hW) (hT.ext hW) hI hcr hcc)
 have HWd:=za (fun W (hW:Ext w W)=>zeK (c:=c) (d:=d) (d':=d') (h.ext hW) hx)
 obtain⟨lo,hi,lo2,hi2,h1,h2⟩:=hT
 have HR:=za (fun W (hW:Ext w W)=>h1.ext hW)
 have HC:=za (fun W (hW:Ext w W)=>h2.ext hW)
 have hadd:=za (show zgd L cols x=((inB x L&&decide (x.size≤4000))&&(!zfF cols x&&decide (nc≠20))) by unfold zgd;rw [e2])
 have hx0:Ext w (((w.alloc (.cells #[.bool false,.int .i64 0,.slice none 0 0,.slice none 0 0,.int .i64 s.al,.int .i64 s.st,.slice A n c,.int .i64 p.al,.slice B m d,.slice B' m' d',.int .i64 L] 203)).alloc (.cells #[.slice R nr cr,.slice C nc cc] 205)).alloc (.cells #[.slice none 0 0,.slice none 0 0] 205)):=(((Ext.refl _).alloc _).alloc _).alloc _
 obtain⟨b1,b2,b3⟩:=zV (Ext.refl (((w.alloc (.cells #[.bool false,.int .i64 0,.slice none 0 0,.slice none 0 0,.int .i64 s.al,.int .i64 s.st,.slice A n c,.int .i64 p.al,.slice B m d,.slice B' m' d',.int .i64 L] 203)).alloc (.cells #[.slice R nr cr,.slice C nc cc] 205)).alloc (.cells #[.slice none 0 0,.slice none 0 0] 205)))
 clear h h1 h2 hI e1 e2
 obtain⟨ok,hok⟩:∃ ok,Hid (zgd L cols x=ok):=⟨_,rfl⟩
 rw [hok.out] at hadd ⊢
 obtain⟨wd,hwd⟩:∃ wd,Hid ((inB x L&&decide (x.size≤4000))=wd):=⟨_,rfl⟩
 rw [hwd.out] at HWd hadd
 obtain⟨mb,hmb⟩:∃ mb,Hid (zfF cols x=mb):=⟨_,rfl⟩
 rw [hmb.out] at hadd
 have HIn:=za (fun W (hW:Ext w W)=>zcl (c:=cc) (x:=x) (HC.out W hW))
 rw [hmb.out] at HIn
 by_cases hgo:wd=true∧mb=false∧nc≠20
 ·obtain⟨rfl,rfl,hnc⟩:=hgo
  have hok1:=za (show ok=true by rw [hadd.out];simpa using hnc)
  rw [hok1.out,if_pos rfl]
  have hnc2:((nc:Int)==20)=false:=by simp;omega
  clear hnc hadd hok hok1 hwd hmb
  go_enter Tryz.func235,Tryz.ntmps235
  go_upto_region 1 with fail
  generalize ((w.alloc (.cells #[.bool false,.int .i64 0,.slice none 0 0,.slice none 0 0,.int .i64 s.al,.int .i64 s.st,.slice A n c,.int .i64 p.al,.slice B m d,.slice B' m' d',.int .i64 L] 203)).alloc (.cells #[.slice R nr cr,.slice C nc cc] 205)).alloc (.cells #[.slice none 0 0,.slice none 0 0] 205)=w0 at *
  have CB:=b1.cells
  have CT:=b2.cells
  have hb3:=b3.lt
  have hww:=Ext.refl w0
  go_upto_region 3 with (first
   |(go_at_call 251;refine (HV.out _ hx0).mono ?_;rintro e wa ⟨rfl,hxa⟩)
   |(go_at_call 259;refine (HWd.out _ (hx0.trans hxa)).mono ?_;rintro e w1 ⟨rfl,hxb⟩;have hx01:=hxa.trans hxb)
   |(go_at_call 261;refine (HIn.out _ (hx0.trans hx01)).mono ?_;rintro e wc ⟨rfl,rfl⟩))
  have hx1:=hx0.trans hx01
  have hs1:=hx01.size
  have HR1:=za (fun W (hW:Ext w1 W)=>HR.out W (hx1.trans hW))
  have HC1:=za (fun W (hW:Ext w1 W)=>HC.out W (hx1.trans hW))
  have CT1:∀ W,Ext w1 W→∀ q,W.cell? ⟨w.heap.size+1,q,none⟩=#[Value.slice R nr cr,.slice C nc cc][q]?:=fun W hW=>CT W (hx01.trans hW)
  go_cut [7] (fun v wx=>AddV w (w.heap.size+1+1) rows (cols++[x]) nr (nc+1) v wx)
  case first =>
   clear CB CT hww HV HWd HIn hxa hxb
   have X0:Ext w1 w1.drew:=(Ext.refl w1).drew
   refine uR (fun X=>Ext w1 X) [12] (zK.app [1,2,5,6,8] (zK.three 0 (zK.three 3 (zK.two 4 (zK.two 7 (zK.of [9,10,11,12,13]) 9 (zK.of [7,10,11,12,13])) 9 (zK.of [4,7,10,11,12,13])) 4 (zK.two 3 (zK.two 7 (zK.of [9,10,11,12,13]) 9 (zK.of [7,10,11,12,13])) 9 (zK.of [3,7,10,11,12,13])) 9 (zK.two 3 (zK.of [4,7,10,11,12,13]) 4 (zK.of [3,7,10,11,12,13]))) 4 (zK.two 0 (zK.two 3 (zK.two 7 (zK.of [9,10,11,12,13]) 9 (zK.of [7,10,11,12,13])) 9 (zK.of [3,7,10,11,12,13])) 9 (zK.of [0,3,7,10,11,12,13])) 9 (zK.two 0 (zK.two 3 (zK.of [4,7,10,11,12,13]) 4 (zK.of [3,7,10,11,12,13])) 4 (zK.of [0,3,7,10,11,12,13])))) ?_
   generalize w1.drew=W0 at *
   refine uQ ?_
   refine zdl (fun K hK=>?_) (fun K hK=>?_) (fun K hK=>?_)
   ·go_simp
    have hx31:=X0.alloc (.cells #[] 9)
    have zhQ:=zl (World.ownsRow_lit W0 (e:=9) (size:=1) #[] 0 (Nat.le_refl _) (by unfold maxLen;omega) rfl) X0.size
    have zhL:=(Ext.refl W0).alloc (.cells #[] 9)
    refine hK.out _ _ hx31 ?_
    refine pT ?_
    have hbs:W0.heap.size<(W0.alloc (.cells #[] 9)).heap.size:=by simp
    generalize hbe:W0.heap.size=ba9 at *
    generalize W0.alloc (.cells #[] 9)=v31 at *
    have zhN:Hid (ba9<v31.heap.size):=za hbs
    clear hbs zhL hbe
    refine zdl (fun K hK=>?_) (fun K hK=>?_) (fun K hK=>?_)
    ·skip
     refine zo _ _ _ _ rfl w1.heap.size 9 _ 1 16 Tryz.underlying61 zi rfl (by decide) (.slice (some ⟨ba9,0,none⟩) 0 0) 0 [] rfl zhQ _ _ R nr cr (zF rows) rfl (HR1.out v31 hx31) (zn _) (by unfold maxLen;omega) (by omega) hx31.size ?_
     intro v9 v32 owna8 hg hat
     rw [Nat.zero_add,List.nil_append] at owna8
     obtain⟨Aa9,ca9,rfl⟩:=zf owna8
     have hx32:=hx31.grown hg (fun k hk=>(zhQ.lt k hk).1)
     have hsz:=hg.size
     have hbs:Hid (v31.heap.size=v31.heap.size):=za rfl
     generalize hbe:v31.heap.size=na9 at *
     have hne_ba9_na9:Hid (ba9≠na9):=za (by have:=zhN.out;omega)
     have zhN:Hid (ba9<v32.heap.size):=za (by have:=zhN.out;omega)
     have hrl_a:Hid (∀ k,(Value.slice Aa9 nr ca9).ownBlock=some k→k<v32.heap.size):=za (fun k hk=>(owna8.lt k hk).2)
     clear hbs hsz hbe
     refine hK.out _ _ hx32 ?_
     refine pT ?_
     have zhQ:=owna8
     refine zD (fun K hK=>?_) (fun K hK=>?_)
     ·go_simp
      have hx33:=hx32.alloc (.cells #[] 9)
      have zhR:=zl (World.ownsRow_lit v32 (e:=9) (size:=1) #[] 0 (Nat.le_refl _) (by unfold maxLen;omega) rfl) hx32.size
      have zhL:=(Ext.refl v32).alloc (.cells #[] 9)
      refine hK.out _ _ hx33 ?_
      refine pT ?_
      have zhQ:=ze zhQ zhL
      have hbs:v32.heap.size<(v32.alloc (.cells #[] 9)).heap.size:=by simp
      generalize hbe:v32.heap.size=bc9 at *
      generalize v32.alloc (.cells #[] 9)=v33 at *
      have zhW:Hid (ba9≠bc9):=za (by have:=zhN.out;omega)
      have hrn_a_bc9:Hid (∀ k,(Value.slice Aa9 nr ca9).ownBlock=some k→k≠bc9):=za (fun k hk=>by have:=hrl_a.out k hk;omega)
      have zhN:Hid (ba9<v33.heap.size):=za (by have:=zhN.out;omega)
      have hrl_a:Hid (∀ k,(Value.slice Aa9 nr ca9).ownBlock=some k→k<v33.heap.size):=za (fun k hk=>(zhQ.lt k hk).2)
      have zhO:Hid (bc9<v33.heap.size):=za hbs
      clear hbs zhL hbe
      refine zD (fun K hK=>?_) (fun K hK=>?_)
      ·exact yU09b2
      ·go_simp
       have hx34:=hx33.alloc (.cells #[.string x] 9)
       have owno9:=zl (World.ownsRow_lit v33 (e:=9) (size:=1) #[.string x] 1 (Nat.le_refl _) (by unfold maxLen;omega) rfl) hx33.size
       have zhL:=(Ext.refl v33).alloc (.cells #[.string x] 9)
       refine hK.out _ _ hx34 ?_
       refine pT ?_
       have zhQ:=ze zhQ zhL
       have zhR:=ze zhR zhL
       have hbs:v33.heap.size<(v33.alloc (.cells #[.string x] 9)).heap.size:=by simp
       generalize hbe:v33.heap.size=bo9 at *
       generalize v33.alloc (.cells #[.string x] 9)=v34 at *
       have hne_ba9_bo9:Hid (ba9≠bo9):=za (by have:=zhN.out;omega)
       have hne_bc9_bo9:Hid (bc9≠bo9):=za (by have:=zhO.out;omega)
       have zhN:Hid (ba9<v34.heap.size):=za (by have:=zhN.out;omega)
       have zhO:Hid (bc9<v34.heap.size):=za (by have:=zhO.out;omega)
       have hrl_a:Hid (∀ k,(Value.slice Aa9 nr ca9).ownBlock=some k→k<v34.heap.size):=za (fun k hk=>(zhQ.lt k hk).2)
       have zhP:Hid (bo9<v34.heap.size):=za hbs
       exact yU09a4
     ·go_simp
      have hx33:=hx32.alloc (.cells #[.string x] 9)
      have owno9:=zl (World.ownsRow_lit v32 (e:=9) (size:=1) #[.string x] 1 (Nat.le_refl _) (by unfold maxLen;omega) rfl) hx32.size
      have zhL:=(Ext.refl v32).alloc (.cells #[.string x] 9)
      refine hK.out _ _ hx33 ?_
      refine pT ?_
      have zhQ:=ze zhQ zhL
      have hbs:v32.heap.size<(v32.alloc (.cells #[.string x] 9)).heap.size:=by simp
      generalize hbe:v32.heap.size=bo9 at *
      generalize v32.alloc (.cells #[.string x] 9)=v33 at *
      have hne_ba9_bo9:Hid (ba9≠bo9):=za (by have:=zhN.out;omega)
      have zhN:Hid (ba9<v33.heap.size):=za (by have:=zhN.out;omega)
      have hrl_a:Hid (∀ k,(Value.slice Aa9 nr ca9).ownBlock=some k→k<v33.heap.size):=za (fun k hk=>(zhQ.lt k hk).2)
      have zhP:Hid (bo9<v33.heap.size):=za hbs
      clear hbs zhL hbe
      refine zb fun K hK=>?_;go_simp
      have hx34:=hx33.alloc (.cells #[] 9)
      have zhR:=zl (World.ownsRow_lit v33 (e:=9) (size:=1) #[] 0 (Nat.le_refl _) (by unfold maxLen;omega) rfl) hx33.size
      have zhL:=(Ext.refl v33).alloc (.cells #[] 9)
      refine hK.out _ _ hx34 ?_
      refine pT ?_
      have zhQ:=ze zhQ zhL
      have owno9:=ze owno9 zhL
      have hbs:v33.heap.size<(v33.alloc (.cells #[] 9)).heap.size:=by simp
      generalize hbe:v33.heap.size=bc9 at *
      generalize v33.alloc (.cells #[] 9)=v34 at *
      have zhW:Hid (ba9≠bc9):=za (by have:=zhN.out;omega)
      have hne_bc9_bo9:Hid (bc9≠bo9):=za (by have:=zhP.out;omega)
      have hrn_a_bc9:Hid (∀ k,(Value.slice Aa9 nr ca9).ownBlock=some k→k≠bc9):=za (fun k hk=>by have:=hrl_a.out k hk;omega)
      have zhN:Hid (ba9<v34.heap.size):=za (by have:=zhN.out;omega)
      have zhP:Hid (bo9<v34.heap.size):=za (by have:=zhP.out;omega)
      have hrl_a:Hid (∀ k,(Value.slice Aa9 nr ca9).ownBlock=some k→k<v34.heap.size):=za (fun k hk=>(zhQ.lt k hk).2)
      have zhO:Hid (bc9<v34.heap.size):=za hbs
      exact yU09a4
    ·go_simp
     have hx32:=hx31.alloc (.cells #[] 9)
     have zhR:=zl (World.ownsRow_lit v31 (e:=9) (size:=1) #[] 0 (Nat.le_refl _) (by unfold maxLen;omega) rfl) hx31.size
     have zhL:=(Ext.refl v31).alloc (.cells #[] 9)
     refine hK.out _ _ hx32 ?_
     refine pT ?_
     have zhQ:=ze zhQ zhL
     have hbs:v31.heap.size<(v31.alloc (.cells #[] 9)).heap.size:=by simp
     generalize hbe:v31.heap.size=bc9 at *
     generalize v31.alloc (.cells #[] 9)=v32 at *
     have zhW:Hid (ba9≠bc9):=za (by have:=zhN.out;omega)
     have zhN:Hid (ba9<v32.heap.size):=za (by have:=zhN.out;omega)
     have zhO:Hid (bc9<v32.heap.size):=za hbs
     exact yU09a1
    ·go_simp
     have hx32:=hx31.alloc (.cells #[.string x] 9)
     have owno9:=zl (World.ownsRow_lit v31 (e:=9) (size:=1) #[.string x] 1 (Nat.le_refl _) (by unfold maxLen;omega) rfl) hx31.size
     have zhL:=(Ext.refl v31).alloc (.cells #[.string x] 9)
     refine hK.out _ _ hx32 ?_
     refine pT ?_
     have zhQ:=ze zhQ zhL
     have hbs:v31.heap.size<(v31.alloc (.cells #[.string x] 9)).heap.size:=by simp
     generalize hbe:v31.heap.size=bo9 at *
     generalize v31.alloc (.cells #[.string x] 9)=v32 at *
     have hne_ba9_bo9:Hid (ba9≠bo9):=za (by have:=zhN.out;omega)
     have zhN:Hid (ba9<v32.heap.size):=za (by have:=zhN.out;omega)
     have zhP:Hid (bo9<v32.heap.size):=za hbs
     exact yU09a2
   ·go_simp
    have hx31:=X0.alloc (.cells #[] 9)
    have zhR:=zl (World.ownsRow_lit W0 (e:=9) (size:=1) #[] 0 (Nat.le_refl _) (by unfold maxLen;omega) rfl) X0.size
    have zhL:=(Ext.refl W0).alloc (.cells #[] 9)
    refine hK.out _ _ hx31 ?_
    refine pT ?_
    have hbs:W0.heap.size<(W0.alloc (.cells #[] 9)).heap.size:=by simp
    generalize hbe:W0.heap.size=bc9 at *
    generalize W0.alloc (.cells #[] 9)=v31 at *
    have zhO:Hid (bc9<v31.heap.size):=za hbs
    clear hbs zhL hbe
    refine zD (fun K hK=>?_) (fun K hK=>?_)
    ·go_simp
     have hx32:=hx31.alloc (.cells #[] 9)
     have zhQ:=zl (World.ownsRow_lit v31 (e:=9) (size:=1) #[] 0 (Nat.le_refl _) (by unfold maxLen;omega) rfl) hx31.size
     have zhL:=(Ext.refl v31).alloc (.cells #[] 9)
     refine hK.out _ _ hx32 ?_
     refine pT ?_
     have zhR:=ze zhR zhL
     have hbs:v31.heap.size<(v31.alloc (.cells #[] 9)).heap.size:=by simp
     generalize hbe:v31.heap.size=ba9 at *
     generalize v31.alloc (.cells #[] 9)=v32 at *
     have zhW:Hid (ba9≠bc9):=za (by have:=zhO.out;omega)
     have zhO:Hid (bc9<v32.heap.size):=za (by have:=zhO.out;omega)
     have zhN:Hid (ba9<v32.heap.size):=za hbs
     exact yU09a1
    ·go_simp
     have hx32:=hx31.alloc (.cells #[.string x] 9)
     have owno9:=zl (World.ownsRow_lit v31 (e:=9) (size:=1) #[.string x] 1 (Nat.le_refl _) (by unfold maxLen;omega) rfl) hx31.size
     have zhL:=(Ext.refl v31).alloc (.cells #[.string x] 9)
     refine hK.out _ _ hx32 ?_
     refine pT ?_
     have zhR:=ze zhR zhL
     have hbs:v31.heap.size<(v31.alloc (.cells #[.string x] 9)).heap.size:=by simp
     generalize hbe:v31.heap.size=bo9 at *
     generalize v31.alloc (.cells #[.string x] 9)=v32 at *
     have hne_bc9_bo9:Hid (bc9≠bo9):=za (by have:=zhO.out;omega)
     have zhO:Hid (bc9<v32.heap.size):=za (by have:=zhO.out;omega)
     have zhP:Hid (bo9<v32.heap.size):=za hbs
     exact yU09a3
   ·go_simp
    have hx31:=X0.alloc (.cells #[.string x] 9)
    have owno9:=zl (World.ownsRow_lit W0 (e:=9) (size:=1) #[.string x] 1 (Nat.le_refl _) (by unfold maxLen;omega) rfl) X0.size
    have zhL:=(Ext.refl W0).alloc (.cells #[.string x] 9)
    refine hK.out _ _ hx31 ?_
    refine pT ?_
    have hbs:W0.heap.size<(W0.alloc (.cells #[.string x] 9)).heap.size:=by simp
    generalize hbe:W0.heap.size=bo9 at *
    generalize W0.alloc (.cells #[.string x] 9)=v31 at *
    have zhP:Hid (bo9<v31.heap.size):=za hbs
    clear hbs zhL hbe
    refine zD (fun K hK=>?_) (fun K hK=>?_)
    ·go_simp
     have hx32:=hx31.alloc (.cells #[] 9)
     have zhQ:=zl (World.ownsRow_lit v31 (e:=9) (size:=1) #[] 0 (Nat.le_refl _) (by unfold maxLen;omega) rfl) hx31.size
     have zhL:=(Ext.refl v31).alloc (.cells #[] 9)
     refine hK.out _ _ hx32 ?_
     refine pT ?_
     have owno9:=ze owno9 zhL
     have hbs:v31.heap.size<(v31.alloc (.cells #[] 9)).heap.size:=by simp
     generalize hbe:v31.heap.size=ba9 at *
     generalize v31.alloc (.cells #[] 9)=v32 at *
     have hne_ba9_bo9:Hid (ba9≠bo9):=za (by have:=zhP.out;omega)
     have zhP:Hid (bo9<v32.heap.size):=za (by have:=zhP.out;omega)
     have zhN:Hid (ba9<v32.heap.size):=za hbs
     exact yU09a2
    ·go_simp
     have hx32:=hx31.alloc (.cells #[] 9)
     have zhR:=zl (World.ownsRow_lit v31 (e:=9) (size:=1) #[] 0 (Nat.le_refl _) (by unfold maxLen;omega) rfl) hx31.size
     have zhL:=(Ext.refl v31).alloc (.cells #[] 9)
     refine hK.out _ _ hx32 ?_
     refine pT ?_
     have owno9:=ze owno9 zhL
     have hbs:v31.heap.size<(v31.alloc (.cells #[] 9)).heap.size:=by simp
     generalize hbe:v31.heap.size=bc9 at *
     generalize v31.alloc (.cells #[] 9)=v32 at *
     have hne_bc9_bo9:Hid (bc9≠bo9):=za (by have:=zhP.out;omega)
     have zhP:Hid (bo9<v32.heap.size):=za (by have:=zhP.out;omega)
     have zhO:Hid (bc9<v32.heap.size):=za hbs
     exact yU09a3
  case rest =>
   obtain⟨R1,cr1,C1,cc1,rfl,bz,oR,oC,hxc⟩:=hcut
   have hret:=za (show zbF w (some (rows,cols++[x])) (.returned (.tuple #[.agg #[.slice R1 nr cr1,.slice C1 (nc+1) cc1],.bool true])) wc from ⟨hxc,.inr ⟨rows,cols++[x],nr,nc+1,R1,cr1,C1,cc1,rfl,rfl,oR,oC⟩⟩)
   have cf:=bz.cell
   go_wp2_with fail
   exact bodyPost_ret (v:=.tuple #[.agg #[.slice R1 nr cr1,.slice C1 (nc+1) cc1],.bool true]) (by simp [results,Tryz.results235,go_sem,cf]) rfl hret.out
 ·have hok0:=za (show ok=false by
   rw [hadd.out,Bool.eq_false_iff]
   intro h
   simp only [Bool.and_eq_true,Bool.not_eq_true',decide_eq_true_eq] at h
   exact hgo ⟨h.1,h.2.1,h.2.2⟩)
  rw [hok0.out,if_neg (by decide)]
  clear hadd hok hok0 hwd hmb
  cases wd
  ·exact yU09a5
  ·cases mb
   ·have hnc:((nc:Int)==20)=true:=by
     have:nc=20:=Decidable.byContradiction fun h=>hgo ⟨rfl,rfl,h⟩
     rw [this];rfl
    exact yU09a5
   ·exact yU09a5
noncomputable def zei (L:Nat) (f:ByteArray→Bool) (rows cols:List ByteArray) (x:ByteArray):Option (List ByteArray × List ByteArray):=
 match zdE L f rows cols x with
 |none=>none
 |some col=>if zgd L cols col=true then (zaE L f (cols++[col]) (12 - rows.length) rows).map fun r=>(r,cols++[col]) else none
end
theorem zfi {w:World} {base:Nat} {e:TypeId} {size n c:Nat} {A:Option Addr} {xs:List Value}(h:w.ownsRow base e size (.slice A n c) n xs):n≤c:=by
 rcases h.2 with ⟨h1,h2⟩|⟨g,cap,cur,h1,_,_,h4,_⟩
 ·omega
 ·injection h1 with _ _ h3;omega
theorem splitT_size {L:Nat} {f:ByteArray→Bool} {rows cols:List ByteArray} {x y:ByteArray}(h:zdE L f rows cols x=some y):y.size≤4000:=by
 unfold zdE at h
 split at h
 ·rename_i hc
  have h1:=hc.1
  simp only [Bool.and_eq_true,decide_eq_true_eq] at h1
  obtain⟨k,-,rfl⟩:=Option.map_eq_some_iff.1 h
  rw [ByteArray.size_extract]
  omega
 ·cases h
theorem zhD {w W:World} {Z:Nat} {u v:Value}(hx:Ext w W)(hb:Blk W Z 205 #[u,v])(hZ:w.heap.size≤Z) :
  Hid (zbF w none (.returned (.tuple #[.agg #[.slice none 0 0,.slice none 0 0],.bool false])) ((W.setCell ⟨Z,0,none⟩ (.slice none 0 0)).setCell ⟨Z,1,none⟩ (.slice none 0 0))) ∧
  Blk ((W.setCell ⟨Z,0,none⟩ (.slice none 0 0)).setCell ⟨Z,1,none⟩ (.slice none 0 0)) Z 205 #[.slice none 0 0,.slice none 0 0]:=
 ⟨za ⟨(hx.setCell (p:=⟨Z,0,none⟩) hZ _).setCell (p:=⟨Z,1,none⟩) hZ _,.inl ⟨rfl,rfl⟩⟩,by simpa using (hb.set_ 0 (.slice none 0 0)).set_ 1 (.slice none 0 0)⟩
theorem tab_some {w w1 W:World} {Z nr nc cr cc:Nat} {R C:Option Addr} {rs cs:List ByteArray} {o:Option (List ByteArray × List ByteArray)} {u v:Value}(hx:Ext w W)(hb:Blk W Z 205 #[u,v])(hZ:w.heap.size≤Z)(ho:o=some (rs,cs))(hw:w.heap.size≤w1.heap.size)
  (hR:W.ownsRow w1.heap.size 9 1 (.slice R nr cr) nr (zF rs)) (hC:W.ownsRow w1.heap.size 9 1 (.slice C nc cc) nc (zF cs)) :
  Hid (zbF w o (.returned (.tuple #[.agg #[.slice R nr cr,.slice C nc cc],.bool true])) ((W.setCell ⟨Z,0,none⟩ (.slice R nr cr)).setCell ⟨Z,1,none⟩ (.slice C nc cc))) ∧
  Blk ((W.setCell ⟨Z,0,none⟩ (.slice R nr cr)).setCell ⟨Z,1,none⟩ (.slice C nc cc)) Z 205 #[.slice R nr cr,.slice C nc cc]:=by
 have hf:Frm (fun k=>k=Z) W ((W.setCell ⟨Z,0,none⟩ (.slice R nr cr)).setCell ⟨Z,1,none⟩ (.slice C nc cc)):=(Frm.setCell W _ 0 _).trans (Frm.setCell _ _ 1 _)
 exact⟨za ⟨(hx.setCell (p:=⟨Z,0,none⟩) hZ _).setCell (p:=⟨Z,1,none⟩) hZ _,.inr ⟨rs,cs,nr,nc,R,cr,C,cc,ho,rfl,zl (zd hR hf (fun b hv e=>zk hR hb (by decide) hv e)) hw,zl (zd hC hf (fun b hv e=>zk hC hb (by decide) hv e)) hw⟩⟩,by simpa using (hb.set_ 0 (.slice R nr cr)).set_ 1 (.slice C nc cc)⟩
section
variable {w W:World} {n c m d m' d' L:Nat} {A B B':Option Addr} {s:Sys} {p:Aut} {nr nc cr cc:Nat} {R C:Option Addr} {rows cols:List ByteArray}
theorem yU09a6 {P:Prop}(h:P:=by
 go_wp2_with fail
 exact bodyPost_ret (v:=.tuple #[.agg #[.slice none 0 0,.slice none 0 0],.bool false]) (by simp [results,Tryz.results195,go_sem,cf]) rfl hret.out
 ):P:=h
theorem zgl {x:ByteArray}(h:Tch w A n B m B' m' s p L)(hT:TabAt w R nr C nc rows cols)(hI:zcH L (zu s p L) rows cols)(hcr:nr≤cr)(hcc:nc≤cc)(hcl:zbk L (zu s p L) rows cols=none)(hx:x.size≤9223372036854775807) :
  Calls Tryz.prog 195 #[.agg #[.bool false,.int .i64 0,.slice none 0 0,.slice none 0 0,.int .i64 s.al,.int .i64 s.st,.slice A n c,.int .i64 p.al,.slice B m d,.slice B' m' d',.int .i64 L],.agg #[.slice R nr cr,.slice C nc cc],.string x] w (zbF w (zei L (zu s p L) rows cols x)):=by
 have HSp:=za (fun W (hW:Ext w W)=>zgm (c:=c) (d:=d) (d':=d') (cr:=cr) (cc:=cc) (x:=x) (h.ext hW) (hT.ext hW) hI hcr hcc hcl hx)
 have HAd:=za (fun (y:ByteArray) W (hW:Ext w W) hy=>zgi (c:=c) (d:=d) (d':=d') (cr:=cr) (cc:=cc) (x:=y) (h.ext hW) (hT.ext hW) hI hcr hcc hy)
 have HCl:=za (fun (R:Option Addr) (nr cr:Nat) (C:Option Addr) (nc cc:Nat) (rows cols:List ByteArray) W (hW:Ext w W) hT hI (hcr:nr≤cr) (hcc:nc≤cc)=>zcV (c:=c) (d:=d) (d':=d') (nr:=nr) (nc:=nc) (R:=R) (C:=C) (cr:=cr) (cc:=cc) (rows:=rows) (cols:=cols) (h.ext hW) hT hI hcr hcc)
 have HI:=za (fun col (ha:zgd L cols col=true)=>hI.addC ha)
 have Hle:=za (show zei L (zu s p L) rows cols x=match zdE L (zu s p L) rows cols x with
  |none=>none
  |some col=>if zgd L cols col=true then (zaE L (zu s p L) (cols++[col]) (12 - rows.length) rows).map fun r=>(r,cols++[col]) else none from rfl)
 have Hsz:=za (fun y (hy:zdE L (zu s p L) rows cols x=some y)=>splitT_size hy)
 generalize zei L (zu s p L) rows cols x=fin at *
 have hx0:Ext w (((w.alloc (.cells #[.bool false,.int .i64 0,.slice none 0 0,.slice none 0 0,.int .i64 s.al,.int .i64 s.st,.slice A n c,.int .i64 p.al,.slice B m d,.slice B' m' d',.int .i64 L] 203)).alloc (.cells #[.slice R nr cr,.slice C nc cc] 205)).alloc (.cells #[.slice none 0 0,.slice none 0 0] 205)):=(((Ext.refl _).alloc _).alloc _).alloc _
 obtain⟨b1,b2,b3⟩:=zV (Ext.refl (((w.alloc (.cells #[.bool false,.int .i64 0,.slice none 0 0,.slice none 0 0,.int .i64 s.al,.int .i64 s.st,.slice A n c,.int .i64 p.al,.slice B m d,.slice B' m' d',.int .i64 L] 203)).alloc (.cells #[.slice R nr cr,.slice C nc cc] 205)).alloc (.cells #[.slice none 0 0,.slice none 0 0] 205)))
 clear h hT hI hcl
 cases hop:zdE L (zu s p L) rows cols x with
 |none =>
  rw [hop] at HSp Hle
  have hfn:=za (show fin=none from Hle.out)
  rw [hfn.out]
  clear Hle hfn hop
  go_enter Tryz.func195,Tryz.ntmps195
  go_upto_region 1 with fail
  generalize ((w.alloc (.cells #[.bool false,.int .i64 0,.slice none 0 0,.slice none 0 0,.int .i64 s.al,.int .i64 s.st,.slice A n c,.int .i64 p.al,.slice B m d,.slice B' m' d',.int .i64 L] 203)).alloc (.cells #[.slice R nr cr,.slice C nc cc] 205)).alloc (.cells #[.slice none 0 0,.slice none 0 0] 205)=w0 at *
  have CB:=b1.cells
  have CT:=b2.cells
  have hww:=Ext.refl w0
  go_upto_region 2 with (first
   |(go_at_call 234;refine (HSp.out _ hx0).mono ?_;rintro e w1 ⟨rfl,hx1⟩))
  have bz:=b3.ext hx1
  have kz:=bz.cell
  have fz:=bz.frozen
  obtain⟨hret,hb⟩:=zhD (hx0.trans hx1) bz (by omega)
  have cf:=hb.cell
  go_wp2_with fail
  exact bodyPost_ret (v:=.tuple #[.agg #[.slice none 0 0,.slice none 0 0],.bool false]) (by simp [results,Tryz.results195,go_sem,cf]) rfl hret.out
 |some col =>
  have hsz:=Hsz.out col hop
  rw [hop] at HSp Hle
  cases hok:zgd L cols col
  ·have hfn:=za (show fin=none by rw [Hle.out];simp [hok])
   have HAc:=za (fun W (hW:Ext w W)=>HAd.out col W hW (by omega))
   rw [hok,if_neg (by decide)] at HAc
   rw [hfn.out]
   clear Hle hfn hop hok
   go_enter Tryz.func195,Tryz.ntmps195
   go_upto_region 1 with fail
   generalize ((w.alloc (.cells #[.bool false,.int .i64 0,.slice none 0 0,.slice none 0 0,.int .i64 s.al,.int .i64 s.st,.slice A n c,.int .i64 p.al,.slice B m d,.slice B' m' d',.int .i64 L] 203)).alloc (.cells #[.slice R nr cr,.slice C nc cc] 205)).alloc (.cells #[.slice none 0 0,.slice none 0 0] 205)=w0 at *
   have CB:=b1.cells
   have CT:=b2.cells
   have hww:=Ext.refl w0
   go_upto_region 5 with (first
    |(go_at_call 234;refine (HSp.out _ hx0).mono ?_;rintro e w1 ⟨rfl,hx1⟩)
    |(go_at_call 235;refine (HAc.out _ (hx0.trans hx1)).mono ?_;rintro e w2 ⟨hx2,⟨-,rfl⟩|⟨_,_,_,_,_,_,_,_,h0,_⟩⟩;rotate_left;exact absurd h0 (by simp);have hx12:=hx1.trans hx2))
   have hx3:=(Ext.refl w2).alloc (.cells #[.slice none 0 0,.slice none 0 0] 205)
   generalize w2.alloc (.cells #[.slice none 0 0,.slice none 0 0] 205)=w3 at *
   have bz:=b3.ext (hx12.trans hx3)
   have kz:=bz.cell
   have fz:=bz.frozen
   obtain⟨hret,hb⟩:=zhD ((hx0.trans hx12).trans hx3) bz (by omega)
   have cf:=hb.cell
   exact yU09a6
  ·have hfn:=za (show fin=(zaE L (zu s p L) (cols++[col]) (12 - rows.length) rows).map fun r=>(r,cols++[col]) by rw [Hle.out];simp [hok])
   have HAc:=za (fun W (hW:Ext w W)=>HAd.out col W hW (by omega))
   rw [hok,if_pos rfl] at HAc
   have HIc:=za (HI.out col hok)
   clear Hle hop hok
   go_enter Tryz.func195,Tryz.ntmps195
   go_upto_region 1 with fail
   generalize ((w.alloc (.cells #[.bool false,.int .i64 0,.slice none 0 0,.slice none 0 0,.int .i64 s.al,.int .i64 s.st,.slice A n c,.int .i64 p.al,.slice B m d,.slice B' m' d',.int .i64 L] 203)).alloc (.cells #[.slice R nr cr,.slice C nc cc] 205)).alloc (.cells #[.slice none 0 0,.slice none 0 0] 205)=w0 at *
   have CB:=b1.cells
   have CT:=b2.cells
   have hww:=Ext.refl w0
   go_upto_region 5 with (first
    |(go_at_call 234;refine (HSp.out _ hx0).mono ?_;rintro e w1 ⟨rfl,hx1⟩)
    |(go_at_call 235;refine (HAc.out _ (hx0.trans hx1)).mono ?_;rintro e w2 ⟨hx2,⟨h0,_⟩|⟨rs,cs,nr2,nc2,R2,cr2,C2,cc2,h0,rfl,oR,oC⟩⟩;exact absurd h0 (by simp);have hx12:=hx1.trans hx2;obtain⟨rfl,rfl⟩:=Prod.mk.inj (Option.some.inj h0)))
   have bt:=Blk.new w2 205 #[.slice R2 nr2 cr2,.slice C2 nc2 cc2]
   have hx3:=(Ext.refl w2).alloc (.cells #[.slice R2 nr2 cr2,.slice C2 nc2 cc2] 205)
   have oR3:=ze oR hx3
   have oC3:=ze oC hx3
   have hcr2:=zfi oR
   have hcc2:=zfi oC
   generalize w2.alloc (.cells #[.slice R2 nr2 cr2,.slice C2 nc2 cc2] 205)=w3 at *
   have hx13:=hx12.trans hx3
   have HT3:=za (show TabAt w3 R2 nr2 C2 nc2 rows (cols++[col]) from ⟨_,_,_,_,Reads.of_own oR3,Reads.of_own oC3⟩)
   have CB3:∀ W,Ext w3 W→∀ q,W.cell? ⟨w.heap.size,q,none⟩=#[Value.bool false,.int .i64 0,.slice none 0 0,.slice none 0 0,.int .i64 s.al,.int .i64 s.st,.slice A n c,.int .i64 p.al,.slice B m d,.slice B' m' d',.int .i64 L][q]?:=fun W hW=>CB W (hx13.trans hW)
   have k2:=bt.cell
   have hww3:=Ext.refl w3
   clear oR oC oR3 oC3
   go_wp2_with fail
   refine (HCl.out _ _ _ _ _ _ rows (cols++[col]) _ (hx0.trans hx13) HT3.out HIc.out hcr2 hcc2).mono ?_
   rintro e w4 ⟨hx4,⟨h0,rfl⟩|⟨rs,cs,nr3,nc3,R3,cr3,C3,cc3,h0,rfl,oR,oC⟩⟩
   ·have bz:=b3.ext (hx13.trans hx4)
    have kz:=bz.cell
    have fz:=bz.frozen
    obtain⟨hret,hb⟩:=zhD ((hx0.trans hx13).trans hx4) bz (by omega)
    have hfn2:=za (hfn.out.trans h0)
    rw [← hfn2.out] at hret
    have cf:=hb.cell
    clear k2 h0
    exact yU09a6
   ·have bz:=b3.ext (hx13.trans hx4)
    have kz:=bz.cell
    have fz:=bz.frozen
    obtain⟨hret,hb⟩:=tab_some ((hx0.trans hx13).trans hx4) bz (by omega) (hfn.out.trans h0) (hx0.trans hx13).size oR oC
    have cf:=hb.cell
    clear k2 h0
    go_wp2_with fail
    exact bodyPost_ret (v:=.tuple #[.agg #[.slice R3 nr3 cr3,.slice C3 nc3 cc3],.bool true]) (by simp [results,Tryz.results195,go_sem,cf]) rfl hret.out
end
theorem tot_le6:∀ ls:List (List Int),(∀ l∈ls,l.length≤6)→tot ls≤ls.length*6
 |[],_=>by simp [tot]
 |l :: r,h=>by
  have:=tot_le6 r (fun x hx=>h x (by simp [hx]))
  have:=h l (by simp)
  rw [show tot (l :: r)=l.length+tot r by simp [tot],List.length_cons,Nat.add_mul]
  omega
theorem zcq {a:Aut}(h:zh a=true):a.size≤1048576:=by
 obtain⟨_,⟨_,h1⟩,h2,h3⟩:=zx h
 have h4:=tot_le6 a.next (fun l hl=>by
  obtain⟨q,hq⟩:=List.getElem?_of_mem hl
  obtain⟨h5,_⟩:=h3 q l hq
  rw [h5];exact zq _ _)
 unfold Aut.size
 omega
def RetTask (w:World) (s:Sys) (p:Aut) (L:Nat) (e:Ending) (w':World):Prop:=
 ∃ (A:Option Addr) (n c:Nat) (B:Option Addr) (m d:Nat) (B':Option Addr) (m' d':Nat),e=.returned (.tuple #[.agg #[.int .i64 s.al,.int .i64 s.st,.slice A n c,.int .i64 p.al,.slice B m d,.slice B' m' d',.int .i64 L],.bool true])∧Tch w' A n B m B' m' s p L∧Ext w w'
section
variable {w:World} {lo hi n c lo1 hi1 m d m' d' lo2 hi2 k c2:Nat} {A B B' C:Option Addr} {s t:Sys} {p:Aut}
theorem spec_TaskOf {L:Nat}(hs:zah w lo hi A n s)(hp:zM w lo1 hi1 B m B' m' p)(ht:zah w lo2 hi2 C k t)(hif:iface s p t=(L:Int))(hn:n≤1000000)(hhi:hi≤w.heap.size) :
  Calls Tryz.prog 191 #[.agg #[.int .i64 s.al,.int .i64 s.st,.slice A n c],.agg #[.int .i64 p.al,.slice B m d,.slice B' m' d'],.agg #[.int .i64 t.al,.int .i64 t.st,.slice C k c2]] w (RetTask w s p L):=by
 obtain⟨vs,vp,vt⟩:=zeg (show 0≤iface s p t by omega)
 have hL:L<64:=by
  rw [iface_nat vs vp vt] at hif
  have h1:=zai vt
  have h2:((s.al.toNat|||p.al.toNat)&&&t.al.toNat)≤t.al.toNat:=Nat.and_le_right
  omega
 have HIf:=za (fun W (hW:Ext w W)=>zbD (c:=c) (d1:=d) (d1':=d') (c2:=c2) (hs.ext hW) (hp.ext hW) (ht.ext hW))
 rw [hif] at HIf
 obtain⟨P,hP⟩:∃ P:Nat,s.st=(P:Int):=⟨s.st.toNat,by have:=(zcS vs).1;omega⟩
 have hP16:P≤16:=by have:=(zcS vs).2.1;omega
 have HK:=za (fun W (hW:Ext w W)=>spec_l2Keep (c:=c) (hs.ext hW) vs hP hn (Nat.le_trans hhi hW.size))
 have HC:=za (fun W (hW:Ext w W)=>zZ (c:=d) (c':=d') (hp.ext hW) (zcq vp))
 have hF:1≤2 ^ P∧2 ^ P≤65536:=⟨Nat.one_le_two_pow,by have:=Nat.pow_le_pow_right (show 1≤2 by omega) hP16;have h2:(2:Nat) ^ 16=65536:=rfl;omega⟩
 have HBit:=za (fun W=>zeE P (by omega) W)
 have HPe:=za hP
 have hV:=za (And.intro vs (And.intro vp hL))
 rw [hP] at HIf HK ⊢
 generalize hFe:2 ^ P=F at *
 have hsub:IntKind.i64.wrap ((F:Int) - 1)=((F - 1:Nat):Int):=by rw [IntWalk.i64_in _ (by omega)];omega
 clear hFe hs hp ht hif vs vp vt hP
 have hx0:Ext w ((((w.alloc (.cells #[.int .i64 s.al,.int .i64 (P:Nat),.slice A n c] 39)).alloc (.cells #[.int .i64 p.al,.slice B m d,.slice B' m' d'] 26)).alloc (.cells #[.int .i64 t.al,.int .i64 t.st,.slice C k c2] 39)).alloc (.cells #[.int .i64 0,.int .i64 0,.slice none 0 0,.int .i64 0,.slice none 0 0,.slice none 0 0,.int .i64 0] 199)):=((((Ext.refl _).alloc _).alloc _).alloc _).alloc _
 obtain⟨b1,b2,b3⟩:=zV ((Ext.refl _).alloc _:Ext (((w.alloc (.cells #[.int .i64 s.al,.int .i64 (P:Nat),.slice A n c] 39)).alloc (.cells #[.int .i64 p.al,.slice B m d,.slice B' m' d'] 26)).alloc (.cells #[.int .i64 t.al,.int .i64 t.st,.slice C k c2] 39)) ((((w.alloc (.cells #[.int .i64 s.al,.int .i64 (P:Nat),.slice A n c] 39)).alloc (.cells #[.int .i64 p.al,.slice B m d,.slice B' m' d'] 26)).alloc (.cells #[.int .i64 t.al,.int .i64 t.st,.slice C k c2] 39)).alloc (.cells #[.int .i64 0,.int .i64 0,.slice none 0 0,.int .i64 0,.slice none 0 0,.slice none 0 0,.int .i64 0] 199)))
 have b4:=Blk.new (((w.alloc (.cells #[.int .i64 s.al,.int .i64 (P:Nat),.slice A n c] 39)).alloc (.cells #[.int .i64 p.al,.slice B m d,.slice B' m' d'] 26)).alloc (.cells #[.int .i64 t.al,.int .i64 t.st,.slice C k c2] 39)) 199 #[.int .i64 0,.int .i64 0,.slice none 0 0,.int .i64 0,.slice none 0 0,.slice none 0 0,.int .i64 0]
 simp only [World.size_alloc] at b4
 go_enter Tryz.func191,Tryz.ntmps191
 go_upto_region 1 with fail
 generalize (((w.alloc (.cells #[.int .i64 s.al,.int .i64 (P:Nat),.slice A n c] 39)).alloc (.cells #[.int .i64 p.al,.slice B m d,.slice B' m' d'] 26)).alloc (.cells #[.int .i64 t.al,.int .i64 t.st,.slice C k c2] 39)).alloc (.cells #[.int .i64 0,.int .i64 0,.slice none 0 0,.int .i64 0,.slice none 0 0,.slice none 0 0,.int .i64 0] 199)=w0 at *
 have CS:=b1.cells
 have CP:=b2.cells
 have CT:=b3.cells
 have hww:=Ext.refl w0
 go_upto_region 4 with (first
  |(go_at_call 45;refine (HIf.out _ hx0).mono ?_;rintro e w1 ⟨rfl,hx01⟩))
 have hx1:=hx0.trans hx01
 have CS1:∀ W,Ext w1 W→∀ q,W.cell? ⟨w.heap.size,q,none⟩=#[Value.int .i64 s.al,.int .i64 (P:Nat),.slice A n c][q]?:=fun W hW=>CS W (hx01.trans hW)
 have CP1:∀ W,Ext w1 W→∀ q,W.cell? ⟨w.heap.size+1,q,none⟩=#[Value.int .i64 p.al,.slice B m d,.slice B' m' d'][q]?:=fun W hW=>CP W (hx01.trans hW)
 have hw1:=Ext.refl w1
 clear CS CP CT hww
 refine uR (fun X=>Ext w1 X) [10] (zK.of [0,1,2,6,8,3,4,5,7,9,10,11]) ?_
 refine uQ ?_
 have hxd:=hw1.drew
 refine zb fun K hK=>?_;go_simp
 refine (HBit.out _).mono ?_
 rintro e w' ⟨rfl,rfl⟩
 refine hK.out _ _ hxd ?_
 refine pT ?_
 refine uQ ?_
 refine zb fun K hK=>?_;go_simp
 refine (HK.out _ (hx1.trans hxd)).mono ?_
 rintro e w2 ⟨A1,n1,c1,rfl,ho1,hx2⟩
 rw [HPe.out]
 have hx12:Ext w1 w2:=hxd.trans hx2
 refine hK.out _ _ hx12 ?_
 refine pT ?_
 refine uQ ?_
 refine zb fun K hK=>?_;go_simp
 refine (HC.out _ (hx1.trans hx12)).mono ?_
 rintro e w3 ⟨B1,m1,d1,B1',m1',d1',rfl,ho2,hx3⟩
 have hx13:=hx12.trans hx3
 refine hK.out _ _ hx13 ?_
 refine pT ?_
 refine uQ ?_
 have hxw:=hx1.trans hx13
 have bz:=b4.ext (hx01.trans hx13)
 have kz:=bz.cell
 have fz:=bz.frozen
 have hs1:=ho1.ext hx3
 have hb4:=b4.lt
 have hsys:zah w3 w0.heap.size w3.heap.size A1 n1 s:=(show zah w3 _ w3.heap.size A1 n1 s from ⟨hs1.1,Reads.of_own hs1.2⟩).more (hx01.trans hxd).size (Nat.le_refl _)
 have haut:zM w3 w0.heap.size w3.heap.size B1 m1 B1' m1' p:=ho2.reads.more (hx01.trans hx12).size (Nat.le_refl _)
 have hsz0:=hx0.size
 have hf:Frm (fun k=>k=w.heap.size+1+1+1) w3 (((((((w3.setCell ⟨w.heap.size+1+1+1,0,none⟩ (.int .i64 s.al)).setCell ⟨w.heap.size+1+1+1,1,none⟩ (.int .i64 (P:Nat))).setCell ⟨w.heap.size+1+1+1,2,none⟩ (.slice A1 n1 c1)).setCell ⟨w.heap.size+1+1+1,3,none⟩ (.int .i64 p.al)).setCell ⟨w.heap.size+1+1+1,4,none⟩ (.slice B1 m1 d1)).setCell ⟨w.heap.size+1+1+1,5,none⟩ (.slice B1' m1' d1')).setCell ⟨w.heap.size+1+1+1,6,none⟩ (.int .i64 (L:Nat))):=
  ((((((Frm.setCell w3 _ 0 _).trans (Frm.setCell _ _ 1 _)).trans (Frm.setCell _ _ 2 _)).trans (Frm.setCell _ _ 3 _)).trans (Frm.setCell _ _ 4 _)).trans (Frm.setCell _ _ 5 _)).trans (Frm.setCell _ _ 6 _)
 have bW:Blk (((((((w3.setCell ⟨w.heap.size+1+1+1,0,none⟩ (.int .i64 s.al)).setCell ⟨w.heap.size+1+1+1,1,none⟩ (.int .i64 (P:Nat))).setCell ⟨w.heap.size+1+1+1,2,none⟩ (.slice A1 n1 c1)).setCell ⟨w.heap.size+1+1+1,3,none⟩ (.int .i64 p.al)).setCell ⟨w.heap.size+1+1+1,4,none⟩ (.slice B1 m1 d1)).setCell ⟨w.heap.size+1+1+1,5,none⟩ (.slice B1' m1' d1')).setCell ⟨w.heap.size+1+1+1,6,none⟩ (.int .i64 (L:Nat))) (w.heap.size+1+1+1) 199 #[.int .i64 s.al,.int .i64 (P:Nat),.slice A1 n1 c1,.int .i64 p.al,.slice B1 m1 d1,.slice B1' m1' d1',.int .i64 (L:Nat)]:=by
  simpa using ((((((bz.set_ 0 (.int .i64 s.al)).set_ 1 (.int .i64 (P:Nat))).set_ 2 (.slice A1 n1 c1)).set_ 3 (.int .i64 p.al)).set_ 4 (.slice B1 m1 d1)).set_ 5 (.slice B1' m1' d1')).set_ 6 (.int .i64 (L:Nat))
 refine zg fun K hK=>?_
 go_simp
 generalize (((((((w3.setCell ⟨w.heap.size+1+1+1,0,none⟩ (.int .i64 s.al)).setCell ⟨w.heap.size+1+1+1,1,none⟩ (.int .i64 (P:Nat))).setCell ⟨w.heap.size+1+1+1,2,none⟩ (.slice A1 n1 c1)).setCell ⟨w.heap.size+1+1+1,3,none⟩ (.int .i64 p.al)).setCell ⟨w.heap.size+1+1+1,4,none⟩ (.slice B1 m1 d1)).setCell ⟨w.heap.size+1+1+1,5,none⟩ (.slice B1' m1' d1')).setCell ⟨w.heap.size+1+1+1,6,none⟩ (.int .i64 (L:Nat)))=W at *
 have hret:=za (show RetTask w s p L (.returned (.tuple #[.agg #[.int .i64 s.al,.int .i64 (P:Nat),.slice A1 n1 c1,.int .i64 p.al,.slice B1 m1 d1,.slice B1' m1' d1',.int .i64 (L:Nat)],.bool true])) W from
  ⟨A1,n1,c1,B1,m1,d1,B1',m1',d1',by rw [HPe.out],⟨⟨w0.heap.size,w3.heap.size,hsys.frm hf (fun k h1 h2 e=>by omega),haut.frm hf (fun k h1 h2 e=>by omega),hf.size⟩,hV.out.1,hV.out.2.1,hV.out.2.2⟩,hxw.frm hf (fun k hk e=>by omega)⟩)
 have cf:=bW.cell
 clear hf bW hsys haut kz fz bz hs1 ho1 ho2 hxw
 refine hK.out _ _ ?_
 clear hK
 refine pT ?_
 refine uQ ?_
 refine zj ?_
 go_wp2_with fail
 exact bodyPost_ret (v:=.tuple #[.agg #[.int .i64 s.al,.int .i64 (P:Nat),.slice A1 n1 c1,.int .i64 p.al,.slice B1 m1 d1,.slice B1' m1' d1',.int .i64 (L:Nat)],.bool true]) (by simp [results,Tryz.results191,go_sem,cf]) rfl hret.out
end
end Go.Proofs.YtfcjhpodichpjaaGreatDoor
