/- The referenc -/
import Derived.Test.YtfcjhpodichpjaaGreatJ06
import Derived.Test.YtfcjhpodichpjaaGreatJ02
import Derived.Test.YtfcjhpodichpjaaGreatJ03
set_option maxHeartbeats 8000000
set_option maxRecDepth 100000
namespace Go.Proofs.YtfcjhpodichpjaaGreat
open Go Go.RowKit
theorem zn (l:List ByteArray):∀ u∈zL l,u.oneCell'=true:=by
 intro u hu
 obtain⟨x,-,rfl⟩:=List.mem_map.1 hu
 rfl
def TabV (w1:World) (rows cols:List ByteArray) (nr nc:Nat) (v:Value) (W:World):Prop:=
 ∃ (g:Nat) (R:Option Addr) (cr:Nat) (C:Option Addr) (cc:Nat),v=.pointer (some ⟨g,0,none⟩)∧w1.heap.size≤g∧Blk W g 113 #[.slice R nr cr,.slice C nc cc] ∧
  W.ownsRow w1.heap.size 9 1 (.slice R nr cr) nr (zL rows)∧W.ownsRow w1.heap.size 9 1 (.slice C nc cc) nc (zL cols)∧Ext w1 W∧Hid (∀ k,(Value.slice R nr cr).ownBlock=some k→(Value.slice C nc cc).ownBlock≠some k)
theorem zae {w1 W:World} {rows cols:List ByteArray} {nr nc g cr cc:Nat} {R C:Option Addr}(ha:W.ownsRow w1.heap.size 9 1 (.slice R nr cr) nr (zL rows))(hc:W.ownsRow w1.heap.size 9 1 (.slice C nc cc) nc (zL cols))(hb:Blk W g 113 #[.slice none 0 0,.slice none 0 0])(hx:Ext w1 W)(hg:w1.heap.size≤g)(hd:∀ k,(Value.slice R nr cr).ownBlock=some k→(Value.slice C nc cc).ownBlock≠some k) :
  TabV w1 rows cols nr nc (.pointer (some ⟨g,0,none⟩)) ((W.setCell ⟨g,0,none⟩ (.slice R nr cr)).setCell ⟨g,1,none⟩ (.slice C nc cc)):=by
 have hf:Frm (fun k=>k=g) W ((W.setCell ⟨g,0,none⟩ (.slice R nr cr)).setCell ⟨g,1,none⟩ (.slice C nc cc)):=(Frm.setCell W g 0 _).trans (Frm.setCell _ g 1 _)
 exact⟨g,R,cr,C,cc,rfl,hg,by simpa using (hb.set_ 0 _).set_ 1 _,zd ha hf (fun b hv e=>zm ha hb (by decide) hv e),zd hc hf (fun b hv e=>zm hc hb (by decide) hv e),(hx.setCell (p:=⟨g,0,none⟩) hg _).setCell (p:=⟨g,1,none⟩) hg _,za hd⟩
section
variable {w W:World} {n c m d m' d' L:Nat} {A B B':Option Addr} {s:Sys} {p:Aut} {nr nc cr cc:Nat} {R C:Option Addr} {rows cols:List ByteArray}
theorem zfw (h:Tch w A n B m B' m' s p L)(hT:TabAt w R nr C nc rows cols)(hI:zct L (zw s p L) rows cols)(hcr:nr≤cr)(hcc:nc≤cc) :
  Calls Tryz.prog 109 #[.agg #[.bool false,.int .i64 0,.slice none 0 0,.slice none 0 0,.int .i64 s.al,.int .i64 s.st,.slice A n c,.int .i64 p.al,.slice B m d,.slice B' m' d',.int .i64 L],.agg #[.slice R nr cr,.slice C nc cc]] w fun e w'=>e=.returned (.tuple #[.string ((zbd L (zw s p L) rows cols).getD ⟨#[]⟩),.bool (zbd L (zw s p L) rows cols).isSome])∧Ext w w':=by
 have HV:=za (fun W (hW:Ext w W)=>zbg (c:=c) (d:=d) (d':=d') (h.ext hW) (hT.ext hW) hI hcr hcc)
 have HO:=za (fun W (hW:Ext w W)=>zeg (c:=c) (d:=d) (d':=d') (cr:=cr) (cc:=cc) (h.ext hW) (hT.ext hW) hI)
 generalize zbd L (zw s p L) rows cols=op at *
 have hx0:Ext w ((w.alloc (.cells #[.bool false,.int .i64 0,.slice none 0 0,.slice none 0 0,.int .i64 s.al,.int .i64 s.st,.slice A n c,.int .i64 p.al,.slice B m d,.slice B' m' d',.int .i64 L] 111)).alloc (.cells #[.slice R nr cr,.slice C nc cc] 113)):=((Ext.refl _).alloc _).alloc _
 obtain⟨b1,b2⟩:=zM (Ext.refl ((w.alloc (.cells #[.bool false,.int .i64 0,.slice none 0 0,.slice none 0 0,.int .i64 s.al,.int .i64 s.st,.slice A n c,.int .i64 p.al,.slice B m d,.slice B' m' d',.int .i64 L] 111)).alloc (.cells #[.slice R nr cr,.slice C nc cc] 113)))
 clear h hT hI
 go_enter Tryz.func109,Tryz.ntmps109
 go_upto_region 1 with fail
 generalize (w.alloc (.cells #[.bool false,.int .i64 0,.slice none 0 0,.slice none 0 0,.int .i64 s.al,.int .i64 s.st,.slice A n c,.int .i64 p.al,.slice B m d,.slice B' m' d',.int .i64 L] 111)).alloc (.cells #[.slice R nr cr,.slice C nc cc] 113)=w1 at *
 have CB:=b1.cells
 have CT:=b2.cells
 have hww:=Ext.refl w1
 go_wp2_with (first
  |(go_at_call 107;refine (HV.out _ hx0).mono ?_;rintro e w2 ⟨rfl,hx2⟩)
  |(go_at_call 108;refine (HO.out _ (hx0.trans hx2)).mono ?_;rintro e w3 ⟨rfl,hx3⟩))
 go_ret2
 exact⟨rfl,hx0.trans (hx2.trans hx3)⟩
theorem zey (h:Tch w A n B m B' m' s p L)(hT:TabAt w R nr C nc rows cols)(hI:zct L (zw s p L) rows cols)(hcr:nr≤cr)(hcc:nc≤cc)(hcl:zbd L (zw s p L) rows cols=none) :
  Calls Tryz.prog 93 #[.agg #[.bool false,.int .i64 0,.slice none 0 0,.slice none 0 0,.int .i64 s.al,.int .i64 s.st,.slice A n c,.int .i64 p.al,.slice B m d,.slice B' m' d',.int .i64 L],.agg #[.slice R nr cr,.slice C nc cc]] w fun e w'=>e=.returned (.bool true)∧Ext w w':=by
 have HV:=za (fun W (hW:Ext w W)=>zbg (c:=c) (d:=d) (d':=d') (h.ext hW) (hT.ext hW) hI hcr hcc)
 have HO:=za (fun W (hW:Ext w W)=>zfw (c:=c) (d:=d) (d':=d') (cr:=cr) (cc:=cc) (h.ext hW) (hT.ext hW) hI hcr hcc)
 rw [hcl] at HO
 have hx0:Ext w ((w.alloc (.cells #[.bool false,.int .i64 0,.slice none 0 0,.slice none 0 0,.int .i64 s.al,.int .i64 s.st,.slice A n c,.int .i64 p.al,.slice B m d,.slice B' m' d',.int .i64 L] 111)).alloc (.cells #[.slice R nr cr,.slice C nc cc] 113)):=((Ext.refl _).alloc _).alloc _
 obtain⟨b1,b2⟩:=zM (Ext.refl ((w.alloc (.cells #[.bool false,.int .i64 0,.slice none 0 0,.slice none 0 0,.int .i64 s.al,.int .i64 s.st,.slice A n c,.int .i64 p.al,.slice B m d,.slice B' m' d',.int .i64 L] 111)).alloc (.cells #[.slice R nr cr,.slice C nc cc] 113)))
 clear h hT hI hcl
 go_enter Tryz.func93,Tryz.ntmps93
 go_upto_region 1 with fail
 generalize (w.alloc (.cells #[.bool false,.int .i64 0,.slice none 0 0,.slice none 0 0,.int .i64 s.al,.int .i64 s.st,.slice A n c,.int .i64 p.al,.slice B m d,.slice B' m' d',.int .i64 L] 111)).alloc (.cells #[.slice R nr cr,.slice C nc cc] 113)=w1 at *
 have CB:=b1.cells
 have CT:=b2.cells
 have hww:=Ext.refl w1
 go_wp2_with (first
  |(go_at_call 109;refine (HO.out _ hx0).mono ?_;rintro e w2 ⟨rfl,hx2⟩)
  |(go_at_call 107;refine (HV.out _ (hx0.trans hx2)).mono ?_;rintro e w3 ⟨rfl,hx3⟩))
 go_ret
 exact⟨rfl,hx0.trans (hx2.trans hx3)⟩
theorem inB_snoc {r:ByteArray} {L l:Nat}(hr:inB r L=true)(hs:r.size≤1000)(hl:l<6)(hb:L.testBit l=true):inB (r++zdA l) L=true:=by
 unfold inB at hr ⊢
 simp only [Bool.and_eq_true,decide_eq_true_eq] at hr ⊢
 refine⟨by rw [ByteArray.size_append,zcy];omega,?_⟩
 unfold zev at hr ⊢
 rw [ByteArray.data_append,Array.toList_append,List.all_append,hr.2,Bool.true_and]
 have e:(zdA l).data.toList=[UInt8.ofNat (97+l)]:=by
  unfold zdA
  rw [strOfNums_data]
  rfl
 rw [e]
 simp only [List.all_cons,List.all_nil,Bool.and_true]
 have e2:(UInt8.ofNat (97+l)).toNat=97+l:=by rw [UInt8.toNat_ofNat'];omega
 rw [e2]
 unfold hasB ltr
 rw [if_neg (by omega)]
 simp only [Bool.and_eq_true,decide_eq_true_eq]
 exact⟨by omega,by rw [show (((97+l:Nat):Int) - 97).toNat=l by omega];exact hb⟩
theorem openW_some {f:ByteArray→Bool} {x:ByteArray}(h:zbd L f rows cols=some x):(∃ r l,r∈rows∧l<6∧L.testBit l=true∧x=r++zdA l)∧zcu f cols x∉rows.map (zcu f cols):=by
 unfold zbd at h
 have h1:=List.mem_of_find?_eq_some h
 have h2:=List.find?_some h
 unfold candL at h1
 obtain⟨r,hr,h3⟩:=List.mem_flatMap.1 h1
 obtain⟨l,hl,rfl⟩:=List.mem_map.1 h3
 obtain⟨hl6,hb⟩:=zZ.1 hl
 refine⟨⟨r,l,hr,hl6,hb,rfl⟩,fun hm=>?_⟩
 simp only [Bool.not_eq_true'] at h2
 rw [zbB] at h2
 refine h2 ?_
 obtain⟨y,hy,e⟩:=List.mem_map.1 hm
 unfold zbf
 exact List.mem_map.2 ⟨y,hy,by rw [e]⟩
theorem zct.grow {f:ByteArray→Bool} {x:ByteArray}(h:zct L f rows cols)(hlen:rows.length<12)(hop:zbd L f rows cols=some x):zct L f (rows++[x]) cols:=by
 obtain⟨⟨r,l,hr,hl,hb,rfl⟩,hn⟩:=openW_some hop
 refine⟨by simp,by simp;omega,h.c1,h.c20,by rw [List.getElem?_append_left (by have:=h.r1;omega)];exact h.r0,h.c0,fun i y hi hy=>?_,h.cw,?_⟩
 ·rcases Nat.lt_or_ge i rows.length with h1|h1
  ·rw [List.getElem?_append_left h1] at hy
   obtain⟨h2,z,l',h3,h4,h5⟩:=h.rw_ i y hi hy
   exact⟨h2,z,l',h3,h4,by rw [List.take_append_of_le_length (by omega)];exact h5⟩
  ·rw [List.getElem?_append_right h1] at hy
   have hi2:i=rows.length:=by
    rcases Nat.eq_or_lt_of_le h1 with h2|h2
    ·exact h2.symm
    ·rw [List.getElem?_eq_none (by simp;omega)] at hy;cases hy
   subst hi2
   simp at hy
   subst hy
   have h2:=h.rin hr
   exact⟨inB_snoc h2.1 (by omega) hl hb,r,l,hl,rfl,by rw [List.take_append_of_le_length (Nat.le_refl _),List.take_length];exact hr⟩
 ·rw [List.map_append,List.map_singleton,List.nodup_append]
  refine⟨h.nd,by simp,fun a ha b hb' e=>?_⟩
  rw [List.mem_singleton] at hb'
  subst hb'
  subst e
  exact hn ha
noncomputable def zaB (L:Nat) (f:ByteArray→Bool) (cols:List ByteArray):Nat→List ByteArray→Option (List ByteArray)
 |0,rows=>match zbd L f rows cols with|none=>some rows|some _=>none
 |k+1,rows=>match zbd L f rows cols with|none=>some rows|some x=>zaB L f cols k (rows++[x])
theorem zdm {f:ByteArray→Bool} (k:Nat)(h:zbd L f rows cols=none):zaB L f cols k rows=some rows:=by cases k<;>simp [zaB,h]
theorem zeQ {f:ByteArray→Bool} {x:ByteArray}(h:zbd L f rows cols=some x):zaB L f cols 0 rows=none:=by simp [zaB,h]
theorem zeP {f:ByteArray→Bool} {x:ByteArray} (k:Nat)(h:zbd L f rows cols=some x):zaB L f cols (k+1) rows=zaB L f cols k (rows++[x]):=by simp [zaB,h]
theorem closeT_ok {f:ByteArray→Bool}:∀ (k:Nat) (rows rows':List ByteArray),zct L f rows cols→rows.length+k≤12→zaB L f cols k rows=some rows'→zct L f rows' cols∧zbd L f rows' cols=none∧∃ t,rows'=rows++t:=by
 intro k
 induction k with
 |zero =>
  intro rows rows' hI hk h
  cases ho:zbd L f rows cols with
  |none=>rw [zdm 0 ho] at h;obtain rfl:=Option.some.inj h;exact⟨hI,ho,[],by simp⟩
  |some x=>rw [zeQ ho] at h;cases h
 |succ k ih =>
  intro rows rows' hI hk h
  cases ho:zbd L f rows cols with
  |none=>rw [zdm _ ho] at h;obtain rfl:=Option.some.inj h;exact⟨hI,ho,[],by simp⟩
  |some x =>
   rw [zeP _ ho] at h
   obtain⟨h1,h2,t,h3⟩:=ih (rows++[x]) rows' (hI.grow (by omega) ho) (by simp;omega) h
   exact⟨h1,h2,[x]++t,by rw [h3,List.append_assoc]⟩
def zby (w:World) (o:Option (List ByteArray × List ByteArray)) (e:Ending) (w':World):Prop:=
 Ext w w'∧((o=none∧e=.returned (.tuple #[.agg #[.slice none 0 0,.slice none 0 0],.bool false])) ∨
  ∃ (rs cs:List ByteArray) (nr nc:Nat) (R:Option Addr) (cr:Nat) (C:Option Addr) (cc:Nat),o=some (rs,cs)∧e=.returned (.tuple #[.agg #[.slice R nr cr,.slice C nc cc],.bool true]) ∧
   w'.ownsRow w.heap.size 9 1 (.slice R nr cr) nr (zL rs)∧w'.ownsRow w.heap.size 9 1 (.slice C nc cc) nc (zL cs))
def lenAt0 (W:World) (G:Nat):Nat:=match W.cell? ⟨G,0,none⟩ with|some (.slice _ n _)=>n|_=>0
theorem zfI {W:World} {G n c:Nat} {R:Option Addr} {v:Value} {t:TypeId}(h:Blk W G t #[.slice R n c,v]):lenAt0 W G=n:=by
 unfold lenAt0
 rw [h.cell 0]
 rfl
theorem yJ07d1 {P:Prop}(h:P:=by
 have c6:=Blk.cell blk9
 have f6:=Blk.frozen blk9
 refine zg fun K hK=>?_
 go_simp
 refine hK.out _ _ ?_
 refine zh ?_
 go_wp2_with fail
 go_meet
 exact zae zgJ zgK blk9 hx35 HG0.out hdis.out
 ):P:=h
theorem yJ07c1 {P:Prop}(h:P:=by
 refine zb (fun K hK=>?_)
 refine zq _ _ _ _ rfl w1.heap.size 9 _ 1 16 Tryz.underlying55 zj rfl (by decide) (.slice (some ⟨bc9,0,none⟩) 0 0) 0 [] rfl zgK _ _ C nc cc (zL cols) rfl (HC1.out v34 hx34) (zn _) (by unfold maxLen;omega) (by omega) hx34.size ?_
 intro v9 v35 ownc8 hg hat
 rw [Nat.zero_add,List.nil_append] at ownc8
 obtain⟨Ac9,cc9,rfl⟩:=ze ownc8
 have hx35:=hx34.grown hg (fun k hk=>(zgK.lt k hk).1)
 have hsz:=hg.size
 have hbs:Hid (v34.heap.size=v34.heap.size):=za rfl
 have zgJ:=zd zgJ (Frm.of_grown hg) (fun k hk hS=>hrn_a_bc9.out k hk (by simpa [Value.ownBlock] using hS.symm))
 have blk9:Blk v35 gbox9 113 #[.slice none 0 0,.slice none 0 0]:=(hg.block gbox9 (Blk.lt blk9) (fun e=>zm zgK blk9 (by decide) e.symm rfl)).trans blk9
 have hdis0:Hid (∀ k,(Value.slice Ac9 nc cc9).ownBlock=some k→(Value.slice Aa9 nr ca9).ownBlock≠some k):=za (fun k hk hS=>by rcases hat with h1|h1;(rw [h1] at hk;simp [Value.ownBlock] at hk;exact hrn_a_bc9.out k hS hk.symm);(rw [h1] at hk;have:=Option.some.inj hk;have:=hrl_a.out k hS;omega))
 have hdis:Hid (∀ k,(Value.slice Aa9 nr ca9).ownBlock=some k→(Value.slice Ac9 nc cc9).ownBlock≠some k):=za (fun k hk hS=>hdis0.out k hS hk)
 generalize hbe:v34.heap.size=nc9 at *
 have hne_ba9_nc9:Hid (ba9≠nc9):=za (by have:=zgG.out;omega)
 have hne_bc9_nc9:Hid (bc9≠nc9):=za (by have:=zgH.out;omega)
 have zgG:Hid (ba9<v35.heap.size):=za (by have:=zgG.out;omega)
 have zgH:Hid (bc9<v35.heap.size):=za (by have:=zgH.out;omega)
 have hrl_a:Hid (∀ k,(Value.slice Aa9 nr ca9).ownBlock=some k→k<v35.heap.size):=za (fun k hk=>(zgJ.lt k hk).2)
 have hrl_c:Hid (∀ k,(Value.slice Ac9 nc cc9).ownBlock=some k→k<v35.heap.size):=za (fun k hk=>(ownc8.lt k hk).2)
 clear hbs hsz hbe
 refine hK.out _ _ hx35 ?_
 refine pT ?_
 have zgK:=ownc8
 refine uQ ?_
 exact yJ07d1
 ):P:=h
theorem yJ07b1 {P:Prop}(h:P:=by
 clear hbs zgE hbe
 refine zb (fun K hK=>?_)
 refine zq _ _ _ _ rfl w1.heap.size 9 _ 1 16 Tryz.underlying55 zj rfl (by decide) (.slice (some ⟨ba9,0,none⟩) 0 0) 0 [] rfl zgJ _ _ R nr cr (zL rows) rfl (HR1.out v33 hx33) (zn _) (by unfold maxLen;omega) (by omega) hx33.size ?_
 intro v9 v34 owna8 hg hat
 rw [Nat.zero_add,List.nil_append] at owna8
 obtain⟨Aa9,ca9,rfl⟩:=ze owna8
 have hx34:=hx33.grown hg (fun k hk=>(zgJ.lt k hk).1)
 have hsz:=hg.size
 have hbs:Hid (v33.heap.size=v33.heap.size):=za rfl
 have zgK:=zd zgK (Frm.of_grown hg) (fun k hk hS=>by simp [Value.ownBlock] at hk hS;exact zgP.out (hS.trans hk.symm))
 have blk9:Blk v34 gbox9 113 #[.slice none 0 0,.slice none 0 0]:=(hg.block gbox9 (Blk.lt blk9) (fun e=>zm zgJ blk9 (by decide) e.symm rfl)).trans blk9
 generalize hbe:v33.heap.size=na9 at *
 have hne_ba9_na9:Hid (ba9≠na9):=za (by have:=zgG.out;omega)
 have hne_bc9_na9:Hid (bc9≠na9):=za (by have:=zgH.out;omega)
 have zgG:Hid (ba9<v34.heap.size):=za (by have:=zgG.out;omega)
 have zgH:Hid (bc9<v34.heap.size):=za (by have:=zgH.out;omega)
 have hrn_a_bc9:Hid (∀ k,(Value.slice Aa9 nr ca9).ownBlock=some k→k≠bc9):=za (fun k hk=>by rcases hat with h1|h1;(rw [h1] at hk;simp [Value.ownBlock] at hk;rw [← hk];exact zgP.out);(rw [h1] at hk;rw [← Option.some.inj hk];exact (Ne.symm hne_bc9_na9.out)))
 have hrl_a:Hid (∀ k,(Value.slice Aa9 nr ca9).ownBlock=some k→k<v34.heap.size):=za (fun k hk=>(owna8.lt k hk).2)
 clear hbs hsz hbe
 refine hK.out _ _ hx34 ?_
 refine pT ?_
 have zgJ:=owna8
 exact yJ07c1
 ):P:=h
theorem yJ07b2 {P:Prop}(h:P:=by
 skip
 refine zq _ _ _ _ rfl w1.heap.size 9 _ 1 16 Tryz.underlying55 zj rfl (by decide) (.slice (some ⟨bc9,0,none⟩) 0 0) 0 [] rfl zgK _ _ C nc cc (zL cols) rfl (HC1.out v33 hx33) (zn _) (by unfold maxLen;omega) (by omega) hx33.size ?_
 intro v9 v34 ownc8 hg hat
 rw [Nat.zero_add,List.nil_append] at ownc8
 obtain⟨Ac9,cc9,rfl⟩:=ze ownc8
 have hx34:=hx33.grown hg (fun k hk=>(zgK.lt k hk).1)
 have hsz:=hg.size
 have hbs:Hid (v33.heap.size=v33.heap.size):=za rfl
 have zgJ:=zd zgJ (Frm.of_grown hg) (fun k hk hS=>hrn_a_bc9.out k hk (by simpa [Value.ownBlock] using hS.symm))
 have hdis0:Hid (∀ k,(Value.slice Ac9 nc cc9).ownBlock=some k→(Value.slice Aa9 nr ca9).ownBlock≠some k):=za (fun k hk hS=>by rcases hat with h1|h1;(rw [h1] at hk;simp [Value.ownBlock] at hk;exact hrn_a_bc9.out k hS hk.symm);(rw [h1] at hk;have:=Option.some.inj hk;have:=hrl_a.out k hS;omega))
 have hdis:Hid (∀ k,(Value.slice Aa9 nr ca9).ownBlock=some k→(Value.slice Ac9 nc cc9).ownBlock≠some k):=za (fun k hk hS=>hdis0.out k hS hk)
 generalize hbe:v33.heap.size=nc9 at *
 have hne_ba9_nc9:Hid (ba9≠nc9):=za (by have:=zgG.out;omega)
 have hne_bc9_nc9:Hid (bc9≠nc9):=za (by have:=zgH.out;omega)
 have zgG:Hid (ba9<v34.heap.size):=za (by have:=zgG.out;omega)
 have zgH:Hid (bc9<v34.heap.size):=za (by have:=zgH.out;omega)
 have hrl_a:Hid (∀ k,(Value.slice Aa9 nr ca9).ownBlock=some k→k<v34.heap.size):=za (fun k hk=>(zgJ.lt k hk).2)
 have hrl_c:Hid (∀ k,(Value.slice Ac9 nc cc9).ownBlock=some k→k<v34.heap.size):=za (fun k hk=>(ownc8.lt k hk).2)
 clear hbs hsz hbe
 refine hK.out _ _ hx34 ?_
 refine pT ?_
 have zgK:=ownc8
 refine uQ ?_
 refine zb fun K hK=>?_;go_simp
 have hx35:=hx34.alloc (.cells #[.slice none 0 0,.slice none 0 0] 113)
 have zgE:=(Ext.refl v34).alloc (.cells #[.slice none 0 0,.slice none 0 0] 113)
 have blk9:=Blk.new v34 113 #[.slice none 0 0,.slice none 0 0]
 refine hK.out _ _ hx35 ?_
 refine pT ?_
 have zgJ:=zf zgJ zgE
 have zgK:=zf zgK zgE
 have HG0:=za hx34.size
 have hbs:v34.heap.size<(v34.alloc (.cells #[.slice none 0 0,.slice none 0 0] 113)).heap.size:=by simp
 generalize hbe:v34.heap.size=gbox9 at *
 generalize v34.alloc (.cells #[.slice none 0 0,.slice none 0 0] 113)=v35 at *
 have zgG:Hid (ba9<v35.heap.size):=za (by have:=zgG.out;omega)
 have zgH:Hid (bc9<v35.heap.size):=za (by have:=zgH.out;omega)
 have hrl_a:Hid (∀ k,(Value.slice Aa9 nr ca9).ownBlock=some k→k<v35.heap.size):=za (fun k hk=>(zgJ.lt k hk).2)
 have hrl_c:Hid (∀ k,(Value.slice Ac9 nc cc9).ownBlock=some k→k<v35.heap.size):=za (fun k hk=>(zgK.lt k hk).2)
 clear hbs zgE hbe
 exact yJ07d1
 ):P:=h
theorem yJ07b3 {P:Prop}(h:P:=by
 clear hbs zgE hbe
 exact yJ07c1
 ):P:=h
theorem yJ07a1 {P:Prop}(h:P:=by
 clear hbs zgE hbe
 refine zA (fun K hK=>?_) (fun K hK=>?_)
 ·skip
  refine zq _ _ _ _ rfl w1.heap.size 9 _ 1 16 Tryz.underlying55 zj rfl (by decide) (.slice (some ⟨ba9,0,none⟩) 0 0) 0 [] rfl zgJ _ _ R nr cr (zL rows) rfl (HR1.out v32 hx32) (zn _) (by unfold maxLen;omega) (by omega) hx32.size ?_
  intro v9 v33 owna8 hg hat
  rw [Nat.zero_add,List.nil_append] at owna8
  obtain⟨Aa9,ca9,rfl⟩:=ze owna8
  have hx33:=hx32.grown hg (fun k hk=>(zgJ.lt k hk).1)
  have hsz:=hg.size
  have hbs:Hid (v32.heap.size=v32.heap.size):=za rfl
  have zgK:=zd zgK (Frm.of_grown hg) (fun k hk hS=>by simp [Value.ownBlock] at hk hS;exact zgP.out (hS.trans hk.symm))
  generalize hbe:v32.heap.size=na9 at *
  have hne_ba9_na9:Hid (ba9≠na9):=za (by have:=zgG.out;omega)
  have hne_bc9_na9:Hid (bc9≠na9):=za (by have:=zgH.out;omega)
  have zgG:Hid (ba9<v33.heap.size):=za (by have:=zgG.out;omega)
  have zgH:Hid (bc9<v33.heap.size):=za (by have:=zgH.out;omega)
  have hrn_a_bc9:Hid (∀ k,(Value.slice Aa9 nr ca9).ownBlock=some k→k≠bc9):=za (fun k hk=>by rcases hat with h1|h1;(rw [h1] at hk;simp [Value.ownBlock] at hk;rw [← hk];exact zgP.out);(rw [h1] at hk;rw [← Option.some.inj hk];exact (Ne.symm hne_bc9_na9.out)))
  have hrl_a:Hid (∀ k,(Value.slice Aa9 nr ca9).ownBlock=some k→k<v33.heap.size):=za (fun k hk=>(owna8.lt k hk).2)
  clear hbs hsz hbe
  refine hK.out _ _ hx33 ?_
  refine pT ?_
  have zgJ:=owna8
  refine zA (fun K hK=>?_) (fun K hK=>?_)
  ·exact yJ07b2
  ·go_simp
   have hx34:=hx33.alloc (.cells #[.slice none 0 0,.slice none 0 0] 113)
   have zgE:=(Ext.refl v33).alloc (.cells #[.slice none 0 0,.slice none 0 0] 113)
   have blk9:=Blk.new v33 113 #[.slice none 0 0,.slice none 0 0]
   refine hK.out _ _ hx34 ?_
   refine pT ?_
   have zgJ:=zf zgJ zgE
   have zgK:=zf zgK zgE
   have HG0:=za hx33.size
   have hbs:v33.heap.size<(v33.alloc (.cells #[.slice none 0 0,.slice none 0 0] 113)).heap.size:=by simp
   generalize hbe:v33.heap.size=gbox9 at *
   generalize v33.alloc (.cells #[.slice none 0 0,.slice none 0 0] 113)=v34 at *
   have zgG:Hid (ba9<v34.heap.size):=za (by have:=zgG.out;omega)
   have zgH:Hid (bc9<v34.heap.size):=za (by have:=zgH.out;omega)
   have hrl_a:Hid (∀ k,(Value.slice Aa9 nr ca9).ownBlock=some k→k<v34.heap.size):=za (fun k hk=>(zgJ.lt k hk).2)
   exact yJ07b3
 ·go_simp
  have hx33:=hx32.alloc (.cells #[.slice none 0 0,.slice none 0 0] 113)
  have zgE:=(Ext.refl v32).alloc (.cells #[.slice none 0 0,.slice none 0 0] 113)
  have blk9:=Blk.new v32 113 #[.slice none 0 0,.slice none 0 0]
  refine hK.out _ _ hx33 ?_
  refine pT ?_
  have zgJ:=zf zgJ zgE
  have zgK:=zf zgK zgE
  have HG0:=za hx32.size
  have hbs:v32.heap.size<(v32.alloc (.cells #[.slice none 0 0,.slice none 0 0] 113)).heap.size:=by simp
  generalize hbe:v32.heap.size=gbox9 at *
  generalize v32.alloc (.cells #[.slice none 0 0,.slice none 0 0] 113)=v33 at *
  have zgG:Hid (ba9<v33.heap.size):=za (by have:=zgG.out;omega)
  have zgH:Hid (bc9<v33.heap.size):=za (by have:=zgH.out;omega)
  exact yJ07b1
 ):P:=h
theorem yJ07a2 {P:Prop}(h:P:=by
 clear hbs zgE hbe
 refine zA (fun K hK=>?_) (fun K hK=>?_)
 ·skip
  refine zq _ _ _ _ rfl w1.heap.size 9 _ 1 16 Tryz.underlying55 zj rfl (by decide) (.slice (some ⟨ba9,0,none⟩) 0 0) 0 [] rfl zgJ _ _ R nr cr (zL rows) rfl (HR1.out v32 hx32) (zn _) (by unfold maxLen;omega) (by omega) hx32.size ?_
  intro v9 v33 owna8 hg hat
  rw [Nat.zero_add,List.nil_append] at owna8
  obtain⟨Aa9,ca9,rfl⟩:=ze owna8
  have hx33:=hx32.grown hg (fun k hk=>(zgJ.lt k hk).1)
  have hsz:=hg.size
  have hbs:Hid (v32.heap.size=v32.heap.size):=za rfl
  have blk9:Blk v33 gbox9 113 #[.slice none 0 0,.slice none 0 0]:=(hg.block gbox9 (Blk.lt blk9) (fun e=>zm zgJ blk9 (by decide) e.symm rfl)).trans blk9
  generalize hbe:v32.heap.size=na9 at *
  have hne_ba9_na9:Hid (ba9≠na9):=za (by have:=zgG.out;omega)
  have zgG:Hid (ba9<v33.heap.size):=za (by have:=zgG.out;omega)
  have hrl_a:Hid (∀ k,(Value.slice Aa9 nr ca9).ownBlock=some k→k<v33.heap.size):=za (fun k hk=>(owna8.lt k hk).2)
  clear hbs hsz hbe
  refine hK.out _ _ hx33 ?_
  refine pT ?_
  have zgJ:=owna8
  refine zb fun K hK=>?_;go_simp
  have hx34:=hx33.alloc (.cells #[] 9)
  have zgK:=zi (World.ownsRow_lit v33 (e:=9) (size:=1) #[] 0 (Nat.le_refl _) (by unfold maxLen;omega) rfl) hx33.size
  have zgE:=(Ext.refl v33).alloc (.cells #[] 9)
  refine hK.out _ _ hx34 ?_
  refine pT ?_
  have zgJ:=zf zgJ zgE
  have blk9:=Blk.ext blk9 zgE
  have hbs:v33.heap.size<(v33.alloc (.cells #[] 9)).heap.size:=by simp
  generalize hbe:v33.heap.size=bc9 at *
  generalize v33.alloc (.cells #[] 9)=v34 at *
  have zgP:Hid (ba9≠bc9):=za (by have:=zgG.out;omega)
  have hrn_a_bc9:Hid (∀ k,(Value.slice Aa9 nr ca9).ownBlock=some k→k≠bc9):=za (fun k hk=>by have:=hrl_a.out k hk;omega)
  have zgG:Hid (ba9<v34.heap.size):=za (by have:=zgG.out;omega)
  have hrl_a:Hid (∀ k,(Value.slice Aa9 nr ca9).ownBlock=some k→k<v34.heap.size):=za (fun k hk=>(zgJ.lt k hk).2)
  have zgH:Hid (bc9<v34.heap.size):=za hbs
  exact yJ07b3
 ·go_simp
  have hx33:=hx32.alloc (.cells #[] 9)
  have zgK:=zi (World.ownsRow_lit v32 (e:=9) (size:=1) #[] 0 (Nat.le_refl _) (by unfold maxLen;omega) rfl) hx32.size
  have zgE:=(Ext.refl v32).alloc (.cells #[] 9)
  refine hK.out _ _ hx33 ?_
  refine pT ?_
  have zgJ:=zf zgJ zgE
  have blk9:=Blk.ext blk9 zgE
  have hbs:v32.heap.size<(v32.alloc (.cells #[] 9)).heap.size:=by simp
  generalize hbe:v32.heap.size=bc9 at *
  generalize v32.alloc (.cells #[] 9)=v33 at *
  have zgP:Hid (ba9≠bc9):=za (by have:=zgG.out;omega)
  have zgG:Hid (ba9<v33.heap.size):=za (by have:=zgG.out;omega)
  have zgH:Hid (bc9<v33.heap.size):=za hbs
  exact yJ07b1
 ):P:=h
theorem yJ07a3 {P:Prop}(h:P:=by
 clear hbs zgE hbe
 refine zb fun K hK=>?_;go_simp
 have hx33:=hx32.alloc (.cells #[] 9)
 have zgJ:=zi (World.ownsRow_lit v32 (e:=9) (size:=1) #[] 0 (Nat.le_refl _) (by unfold maxLen;omega) rfl) hx32.size
 have zgE:=(Ext.refl v32).alloc (.cells #[] 9)
 refine hK.out _ _ hx33 ?_
 refine pT ?_
 have zgK:=zf zgK zgE
 have blk9:=Blk.ext blk9 zgE
 have hbs:v32.heap.size<(v32.alloc (.cells #[] 9)).heap.size:=by simp
 generalize hbe:v32.heap.size=ba9 at *
 generalize v32.alloc (.cells #[] 9)=v33 at *
 have zgP:Hid (ba9≠bc9):=za (by have:=zgH.out;omega)
 have zgH:Hid (bc9<v33.heap.size):=za (by have:=zgH.out;omega)
 have zgG:Hid (ba9<v33.heap.size):=za hbs
 exact yJ07b1
 ):P:=h
theorem yJ07a4 {P:Prop}(h:P:=by
 exact yJ07b3
 ):P:=h
theorem zcD (h:Tch w A n B m B' m' s p L)(hT:TabAt w R nr C nc rows cols)(hI:zct L (zw s p L) rows cols)(hcr:nr≤cr)(hcc:nc≤cc) :
  Calls Tryz.prog 92 #[.agg #[.bool false,.int .i64 0,.slice none 0 0,.slice none 0 0,.int .i64 s.al,.int .i64 s.st,.slice A n c,.int .i64 p.al,.slice B m d,.slice B' m' d',.int .i64 L],.agg #[.slice R nr cr,.slice C nc cc]] w (zby w ((zaB L (zw s p L) cols (12 - rows.length) rows).map fun r=>(r,cols))):=by
 obtain⟨e1,e2⟩:=hT.nr
 have hr12:=hI.r12;have hc20:=hI.c20
 rw [e1] at hr12
 rw [e2] at hc20
 have HV:=za (fun W (hW:Ext w W)=>zbg (c:=c) (d:=d) (d':=d') (h.ext hW) (hT.ext hW) hI hcr hcc)
 have HO:=za (fun (R:Option Addr) (nr cr:Nat) (C:Option Addr) (nc cc:Nat) (rows:List ByteArray) W (hW:Ext w W) hT hI=>zeg (c:=c) (d:=d) (d':=d') (nr:=nr) (nc:=nc) (R:=R) (C:=C) (cr:=cr) (cc:=cc) (rows:=rows) (cols:=cols) (h.ext hW) hT hI)
 obtain⟨lo,hi,lo2,hi2,h1,h2⟩:=hT
 have HR:=za (fun W (hW:Ext w W)=>h1.ext hW)
 have HC:=za (fun W (hW:Ext w W)=>h2.ext hW)
 have HI:=za hI
 have He:=za (And.intro e1 e2)
 obtain⟨fin,zgF⟩:∃ fin,Hid (zaB L (zw s p L) cols (12 - rows.length) rows=fin):=⟨_,rfl⟩
 rw [zgF.out]
 have hx0:Ext w (((w.alloc (.cells #[.bool false,.int .i64 0,.slice none 0 0,.slice none 0 0,.int .i64 s.al,.int .i64 s.st,.slice A n c,.int .i64 p.al,.slice B m d,.slice B' m' d',.int .i64 L] 111)).alloc (.cells #[.slice R nr cr,.slice C nc cc] 113)).alloc (.cells #[.slice none 0 0,.slice none 0 0] 113)):=(((Ext.refl _).alloc _).alloc _).alloc _
 obtain⟨b1,b2,b3⟩:=zN (Ext.refl (((w.alloc (.cells #[.bool false,.int .i64 0,.slice none 0 0,.slice none 0 0,.int .i64 s.al,.int .i64 s.st,.slice A n c,.int .i64 p.al,.slice B m d,.slice B' m' d',.int .i64 L] 111)).alloc (.cells #[.slice R nr cr,.slice C nc cc] 113)).alloc (.cells #[.slice none 0 0,.slice none 0 0] 113)))
 clear h h1 h2 hI e1 e2
 go_enter Tryz.func92,Tryz.ntmps92
 go_upto_region 1 with fail
 generalize ((w.alloc (.cells #[.bool false,.int .i64 0,.slice none 0 0,.slice none 0 0,.int .i64 s.al,.int .i64 s.st,.slice A n c,.int .i64 p.al,.slice B m d,.slice B' m' d',.int .i64 L] 111)).alloc (.cells #[.slice R nr cr,.slice C nc cc] 113)).alloc (.cells #[.slice none 0 0,.slice none 0 0] 113)=w0 at *
 have CB:=b1.cells
 have CT:=b2.cells
 have hb3:=b3.lt
 have hww:=Ext.refl w0
 go_upto_region 3 with (first
  |(go_at_call 107;refine (HV.out _ hx0).mono ?_;rintro e w1 ⟨rfl,hx01⟩))
 have hx1:=hx0.trans hx01
 have hs1:=hx01.size
 have HR1:=za (fun W (hW:Ext w1 W)=>HR.out W (hx1.trans hW))
 have HC1:=za (fun W (hW:Ext w1 W)=>HC.out W (hx1.trans hW))
 have CT1:∀ W,Ext w1 W→∀ q,W.cell? ⟨w.heap.size+1,q,none⟩=#[Value.slice R nr cr,.slice C nc cc][q]?:=fun W hW=>CT W (hx01.trans hW)
 go_cut [6] (fun v wx=>TabV w1 rows cols nr nc v wx)
 case first =>
  clear CB CT hww HV HO
  have X0:Ext w1 w1.drew:=(Ext.refl w1).drew
  refine uR (fun X=>Ext w1 X) [10] (zG.app [1,2,5,6] (zG.three 0 (zG.three 3 (zG.two 4 (zG.two 7 (zG.of [8,9,10]) 9 (zG.of [7,8,10])) 9 (zG.of [4,7,8,10])) 4 (zG.two 3 (zG.two 7 (zG.of [8,9,10]) 9 (zG.of [7,8,10])) 9 (zG.of [3,7,8,10])) 9 (zG.two 3 (zG.of [4,7,8,10]) 4 (zG.of [3,7,8,10]))) 4 (zG.two 0 (zG.two 3 (zG.two 7 (zG.of [8,9,10]) 9 (zG.of [7,8,10])) 9 (zG.of [3,7,8,10])) 9 (zG.of [0,3,7,8,10])) 9 (zG.two 0 (zG.two 3 (zG.of [4,7,8,10]) 4 (zG.of [3,7,8,10])) 4 (zG.of [0,3,7,8,10])))) ?_
  generalize w1.drew=W0 at *
  refine uQ ?_
  refine zcR (fun K hK=>?_) (fun K hK=>?_) (fun K hK=>?_)
  ·go_simp
   have hx31:=X0.alloc (.cells #[] 9)
   have zgJ:=zi (World.ownsRow_lit W0 (e:=9) (size:=1) #[] 0 (Nat.le_refl _) (by unfold maxLen;omega) rfl) X0.size
   have zgE:=(Ext.refl W0).alloc (.cells #[] 9)
   refine hK.out _ _ hx31 ?_
   refine pT ?_
   have hbs:W0.heap.size<(W0.alloc (.cells #[] 9)).heap.size:=by simp
   generalize hbe:W0.heap.size=ba9 at *
   generalize W0.alloc (.cells #[] 9)=v31 at *
   have zgG:Hid (ba9<v31.heap.size):=za hbs
   clear hbs zgE hbe
   refine zcR (fun K hK=>?_) (fun K hK=>?_) (fun K hK=>?_)
   ·skip
    refine zq _ _ _ _ rfl w1.heap.size 9 _ 1 16 Tryz.underlying55 zj rfl (by decide) (.slice (some ⟨ba9,0,none⟩) 0 0) 0 [] rfl zgJ _ _ R nr cr (zL rows) rfl (HR1.out v31 hx31) (zn _) (by unfold maxLen;omega) (by omega) hx31.size ?_
    intro v9 v32 owna8 hg hat
    rw [Nat.zero_add,List.nil_append] at owna8
    obtain⟨Aa9,ca9,rfl⟩:=ze owna8
    have hx32:=hx31.grown hg (fun k hk=>(zgJ.lt k hk).1)
    have hsz:=hg.size
    have hbs:Hid (v31.heap.size=v31.heap.size):=za rfl
    generalize hbe:v31.heap.size=na9 at *
    have hne_ba9_na9:Hid (ba9≠na9):=za (by have:=zgG.out;omega)
    have zgG:Hid (ba9<v32.heap.size):=za (by have:=zgG.out;omega)
    have hrl_a:Hid (∀ k,(Value.slice Aa9 nr ca9).ownBlock=some k→k<v32.heap.size):=za (fun k hk=>(owna8.lt k hk).2)
    clear hbs hsz hbe
    refine hK.out _ _ hx32 ?_
    refine pT ?_
    have zgJ:=owna8
    refine zA (fun K hK=>?_) (fun K hK=>?_)
    ·go_simp
     have hx33:=hx32.alloc (.cells #[] 9)
     have zgK:=zi (World.ownsRow_lit v32 (e:=9) (size:=1) #[] 0 (Nat.le_refl _) (by unfold maxLen;omega) rfl) hx32.size
     have zgE:=(Ext.refl v32).alloc (.cells #[] 9)
     refine hK.out _ _ hx33 ?_
     refine pT ?_
     have zgJ:=zf zgJ zgE
     have hbs:v32.heap.size<(v32.alloc (.cells #[] 9)).heap.size:=by simp
     generalize hbe:v32.heap.size=bc9 at *
     generalize v32.alloc (.cells #[] 9)=v33 at *
     have zgP:Hid (ba9≠bc9):=za (by have:=zgG.out;omega)
     have hrn_a_bc9:Hid (∀ k,(Value.slice Aa9 nr ca9).ownBlock=some k→k≠bc9):=za (fun k hk=>by have:=hrl_a.out k hk;omega)
     have zgG:Hid (ba9<v33.heap.size):=za (by have:=zgG.out;omega)
     have hrl_a:Hid (∀ k,(Value.slice Aa9 nr ca9).ownBlock=some k→k<v33.heap.size):=za (fun k hk=>(zgJ.lt k hk).2)
     have zgH:Hid (bc9<v33.heap.size):=za hbs
     clear hbs zgE hbe
     refine zA (fun K hK=>?_) (fun K hK=>?_)
     ·exact yJ07b2
     ·go_simp
      have hx34:=hx33.alloc (.cells #[.slice none 0 0,.slice none 0 0] 113)
      have zgE:=(Ext.refl v33).alloc (.cells #[.slice none 0 0,.slice none 0 0] 113)
      have blk9:=Blk.new v33 113 #[.slice none 0 0,.slice none 0 0]
      refine hK.out _ _ hx34 ?_
      refine pT ?_
      have zgJ:=zf zgJ zgE
      have zgK:=zf zgK zgE
      have HG0:=za hx33.size
      have hbs:v33.heap.size<(v33.alloc (.cells #[.slice none 0 0,.slice none 0 0] 113)).heap.size:=by simp
      generalize hbe:v33.heap.size=gbox9 at *
      generalize v33.alloc (.cells #[.slice none 0 0,.slice none 0 0] 113)=v34 at *
      have zgG:Hid (ba9<v34.heap.size):=za (by have:=zgG.out;omega)
      have zgH:Hid (bc9<v34.heap.size):=za (by have:=zgH.out;omega)
      have hrl_a:Hid (∀ k,(Value.slice Aa9 nr ca9).ownBlock=some k→k<v34.heap.size):=za (fun k hk=>(zgJ.lt k hk).2)
      exact yJ07a4
    ·go_simp
     have hx33:=hx32.alloc (.cells #[.slice none 0 0,.slice none 0 0] 113)
     have zgE:=(Ext.refl v32).alloc (.cells #[.slice none 0 0,.slice none 0 0] 113)
     have blk9:=Blk.new v32 113 #[.slice none 0 0,.slice none 0 0]
     refine hK.out _ _ hx33 ?_
     refine pT ?_
     have zgJ:=zf zgJ zgE
     have HG0:=za hx32.size
     have hbs:v32.heap.size<(v32.alloc (.cells #[.slice none 0 0,.slice none 0 0] 113)).heap.size:=by simp
     generalize hbe:v32.heap.size=gbox9 at *
     generalize v32.alloc (.cells #[.slice none 0 0,.slice none 0 0] 113)=v33 at *
     have zgG:Hid (ba9<v33.heap.size):=za (by have:=zgG.out;omega)
     have hrl_a:Hid (∀ k,(Value.slice Aa9 nr ca9).ownBlock=some k→k<v33.heap.size):=za (fun k hk=>(zgJ.lt k hk).2)
     clear hbs zgE hbe
     refine zb fun K hK=>?_;go_simp
     have hx34:=hx33.alloc (.cells #[] 9)
     have zgK:=zi (World.ownsRow_lit v33 (e:=9) (size:=1) #[] 0 (Nat.le_refl _) (by unfold maxLen;omega) rfl) hx33.size
     have zgE:=(Ext.refl v33).alloc (.cells #[] 9)
     refine hK.out _ _ hx34 ?_
     refine pT ?_
     have zgJ:=zf zgJ zgE
     have blk9:=Blk.ext blk9 zgE
     have hbs:v33.heap.size<(v33.alloc (.cells #[] 9)).heap.size:=by simp
     generalize hbe:v33.heap.size=bc9 at *
     generalize v33.alloc (.cells #[] 9)=v34 at *
     have zgP:Hid (ba9≠bc9):=za (by have:=zgG.out;omega)
     have hrn_a_bc9:Hid (∀ k,(Value.slice Aa9 nr ca9).ownBlock=some k→k≠bc9):=za (fun k hk=>by have:=hrl_a.out k hk;omega)
     have zgG:Hid (ba9<v34.heap.size):=za (by have:=zgG.out;omega)
     have hrl_a:Hid (∀ k,(Value.slice Aa9 nr ca9).ownBlock=some k→k<v34.heap.size):=za (fun k hk=>(zgJ.lt k hk).2)
     have zgH:Hid (bc9<v34.heap.size):=za hbs
     exact yJ07a4
   ·go_simp
    have hx32:=hx31.alloc (.cells #[] 9)
    have zgK:=zi (World.ownsRow_lit v31 (e:=9) (size:=1) #[] 0 (Nat.le_refl _) (by unfold maxLen;omega) rfl) hx31.size
    have zgE:=(Ext.refl v31).alloc (.cells #[] 9)
    refine hK.out _ _ hx32 ?_
    refine pT ?_
    have zgJ:=zf zgJ zgE
    have hbs:v31.heap.size<(v31.alloc (.cells #[] 9)).heap.size:=by simp
    generalize hbe:v31.heap.size=bc9 at *
    generalize v31.alloc (.cells #[] 9)=v32 at *
    have zgP:Hid (ba9≠bc9):=za (by have:=zgG.out;omega)
    have zgG:Hid (ba9<v32.heap.size):=za (by have:=zgG.out;omega)
    have zgH:Hid (bc9<v32.heap.size):=za hbs
    exact yJ07a1
   ·go_simp
    have hx32:=hx31.alloc (.cells #[.slice none 0 0,.slice none 0 0] 113)
    have zgE:=(Ext.refl v31).alloc (.cells #[.slice none 0 0,.slice none 0 0] 113)
    have blk9:=Blk.new v31 113 #[.slice none 0 0,.slice none 0 0]
    refine hK.out _ _ hx32 ?_
    refine pT ?_
    have zgJ:=zf zgJ zgE
    have HG0:=za hx31.size
    have hbs:v31.heap.size<(v31.alloc (.cells #[.slice none 0 0,.slice none 0 0] 113)).heap.size:=by simp
    generalize hbe:v31.heap.size=gbox9 at *
    generalize v31.alloc (.cells #[.slice none 0 0,.slice none 0 0] 113)=v32 at *
    have zgG:Hid (ba9<v32.heap.size):=za (by have:=zgG.out;omega)
    exact yJ07a2
  ·go_simp
   have hx31:=X0.alloc (.cells #[] 9)
   have zgK:=zi (World.ownsRow_lit W0 (e:=9) (size:=1) #[] 0 (Nat.le_refl _) (by unfold maxLen;omega) rfl) X0.size
   have zgE:=(Ext.refl W0).alloc (.cells #[] 9)
   refine hK.out _ _ hx31 ?_
   refine pT ?_
   have hbs:W0.heap.size<(W0.alloc (.cells #[] 9)).heap.size:=by simp
   generalize hbe:W0.heap.size=bc9 at *
   generalize W0.alloc (.cells #[] 9)=v31 at *
   have zgH:Hid (bc9<v31.heap.size):=za hbs
   clear hbs zgE hbe
   refine zA (fun K hK=>?_) (fun K hK=>?_)
   ·go_simp
    have hx32:=hx31.alloc (.cells #[] 9)
    have zgJ:=zi (World.ownsRow_lit v31 (e:=9) (size:=1) #[] 0 (Nat.le_refl _) (by unfold maxLen;omega) rfl) hx31.size
    have zgE:=(Ext.refl v31).alloc (.cells #[] 9)
    refine hK.out _ _ hx32 ?_
    refine pT ?_
    have zgK:=zf zgK zgE
    have hbs:v31.heap.size<(v31.alloc (.cells #[] 9)).heap.size:=by simp
    generalize hbe:v31.heap.size=ba9 at *
    generalize v31.alloc (.cells #[] 9)=v32 at *
    have zgP:Hid (ba9≠bc9):=za (by have:=zgH.out;omega)
    have zgH:Hid (bc9<v32.heap.size):=za (by have:=zgH.out;omega)
    have zgG:Hid (ba9<v32.heap.size):=za hbs
    exact yJ07a1
   ·go_simp
    have hx32:=hx31.alloc (.cells #[.slice none 0 0,.slice none 0 0] 113)
    have zgE:=(Ext.refl v31).alloc (.cells #[.slice none 0 0,.slice none 0 0] 113)
    have blk9:=Blk.new v31 113 #[.slice none 0 0,.slice none 0 0]
    refine hK.out _ _ hx32 ?_
    refine pT ?_
    have zgK:=zf zgK zgE
    have HG0:=za hx31.size
    have hbs:v31.heap.size<(v31.alloc (.cells #[.slice none 0 0,.slice none 0 0] 113)).heap.size:=by simp
    generalize hbe:v31.heap.size=gbox9 at *
    generalize v31.alloc (.cells #[.slice none 0 0,.slice none 0 0] 113)=v32 at *
    have zgH:Hid (bc9<v32.heap.size):=za (by have:=zgH.out;omega)
    exact yJ07a3
  ·go_simp
   have hx31:=X0.alloc (.cells #[.slice none 0 0,.slice none 0 0] 113)
   have zgE:=(Ext.refl W0).alloc (.cells #[.slice none 0 0,.slice none 0 0] 113)
   have blk9:=Blk.new W0 113 #[.slice none 0 0,.slice none 0 0]
   refine hK.out _ _ hx31 ?_
   refine pT ?_
   have HG0:=za X0.size
   have hbs:W0.heap.size<(W0.alloc (.cells #[.slice none 0 0,.slice none 0 0] 113)).heap.size:=by simp
   generalize hbe:W0.heap.size=gbox9 at *
   generalize W0.alloc (.cells #[.slice none 0 0,.slice none 0 0] 113)=v31 at *
   clear hbs zgE hbe
   refine zA (fun K hK=>?_) (fun K hK=>?_)
   ·go_simp
    have hx32:=hx31.alloc (.cells #[] 9)
    have zgJ:=zi (World.ownsRow_lit v31 (e:=9) (size:=1) #[] 0 (Nat.le_refl _) (by unfold maxLen;omega) rfl) hx31.size
    have zgE:=(Ext.refl v31).alloc (.cells #[] 9)
    refine hK.out _ _ hx32 ?_
    refine pT ?_
    have blk9:=Blk.ext blk9 zgE
    have hbs:v31.heap.size<(v31.alloc (.cells #[] 9)).heap.size:=by simp
    generalize hbe:v31.heap.size=ba9 at *
    generalize v31.alloc (.cells #[] 9)=v32 at *
    have zgG:Hid (ba9<v32.heap.size):=za hbs
    exact yJ07a2
   ·go_simp
    have hx32:=hx31.alloc (.cells #[] 9)
    have zgK:=zi (World.ownsRow_lit v31 (e:=9) (size:=1) #[] 0 (Nat.le_refl _) (by unfold maxLen;omega) rfl) hx31.size
    have zgE:=(Ext.refl v31).alloc (.cells #[] 9)
    refine hK.out _ _ hx32 ?_
    refine pT ?_
    have blk9:=Blk.ext blk9 zgE
    have hbs:v31.heap.size<(v31.alloc (.cells #[] 9)).heap.size:=by simp
    generalize hbe:v31.heap.size=bc9 at *
    generalize v31.alloc (.cells #[] 9)=v32 at *
    have zgH:Hid (bc9<v32.heap.size):=za hbs
    exact yJ07a3
 case rest =>
  obtain⟨g6,R1,cr1,C1,cc1,rfl,hg6,b6,oR,oC,hxc,hdis⟩:=hcut
  obtain⟨wE,hwE⟩:∃ wE,wE=wc:=⟨_,rfl⟩
  subst hwE
  have hk0:=za (And.intro He.out.1 HI.out)
  have hxE:=hx1.trans hxc
  have HT1:=za (show TabAt wE R1 nr C1 nc rows cols from ⟨_,_,_,_,Reads.of_own oR,Reads.of_own oC⟩)
  have k6:=fun W (hW:Ext wE W)=>(b6.ext hW).cell
  have hwE:=Ext.refl wE
  have hx0E:=hx01.trans hxc
  have CB1:∀ W,Ext wE W→∀ q,W.cell? ⟨w.heap.size,q,none⟩=#[Value.bool false,.int .i64 0,.slice none 0 0,.slice none 0 0,.int .i64 s.al,.int .i64 s.st,.slice A n c,.int .i64 p.al,.slice B m d,.slice B' m' d',.int .i64 L][q]?:=fun W hW=>CB W (hx0E.trans hW)
  go_wp2_with (first
   |(go_at_call 108;refine (HO.out _ _ _ _ _ _ rows _ hxE HT1.out HI.out).mono ?_;rintro e w3 ⟨rfl,hx3⟩))
  have hx13:=hxc.trans hx3
  have b63:=b6.ext hx3
  have oR3:=zf oR hx3
  have oC3:=zf oC hx3
  clear k6 oR oC b6 CB1 CT CT1 hwE hww
  go_loopw [7,8] (fun v7 v8 wr=>∃ (rs:List ByteArray) (k:Nat) (R1:Option Addr) (cr1:Nat),v7=.string ((zbd L (zw s p L) rs cols).getD ⟨#[]⟩)∧v8=.bool (zbd L (zw s p L) rs cols).isSome∧Hid (rs.length=k∧zct L (zw s p L) rs cols)∧Hid (zaB L (zw s p L) cols (12 - k) rs=fin)∧k≤12∧Blk wr g6 113 #[.slice R1 k cr1,.slice C1 nc cc1]∧wr.ownsRow w1.heap.size 9 1 (.slice R1 k cr1) k (zL rs)∧wr.ownsRow w1.heap.size 9 1 (.slice C1 nc cc1) nc (zL cols)∧Hid (∀ j,(Value.slice R1 k cr1).ownBlock=some j→(Value.slice C1 nc cc1).ownBlock≠some j)∧Ext w1 wr) (fun _ _ wr=>13 - lenAt0 wr g6)
  case atStart=>exact⟨rows,nr,R1,cr1,rfl,rfl,hk0,za (by rw [← He.out.1];exact zgF.out),hr12,b63,oR3,oC3,hdis,hx13⟩
  case round =>
   clear b63 oR3 oC3 hdis hx13 hx3
   obtain⟨rs,k,R2,cr2,rfl,rfl,hki,hcl,hk12,b6,oR,oC,hdis,hxr⟩:=hrel
   obtain⟨op,hop⟩:∃ op,Hid (zbd L (zw s p L) rs cols=op):=⟨_,rfl⟩
   rw [hop.out]
   have k6:=b6.cell
   have f6:=b6.frozen
   have hmes:=za (zfI b6)
   have b3r:=b3.ext (hx01.trans hxr)
   have kz:=b3r.cell
   have fz:=b3r.frozen
   cases op with
   |none =>
    have hfn:=za (show fin=some rs by rw [← hcl.out,zdm _ hop.out])
    have hf:Frm (fun k=>k=w.heap.size+1+1) wr ((wr.setCell ⟨w.heap.size+1+1,0,none⟩ (.slice R2 k cr2)).setCell ⟨w.heap.size+1+1,1,none⟩ (.slice C1 nc cc1)):=(Frm.setCell wr _ 0 _).trans (Frm.setCell _ _ 1 _)
    have cf:=(show Blk ((wr.setCell ⟨w.heap.size+1+1,0,none⟩ (.slice R2 k cr2)).setCell ⟨w.heap.size+1+1,1,none⟩ (.slice C1 nc cc1)) (w.heap.size+1+1) 113 #[.slice R2 k cr2,.slice C1 nc cc1] by simpa using (b3r.set_ 0 (.slice R2 k cr2)).set_ 1 (.slice C1 nc cc1)).cell
    have hret:=za (show zby w (fin.map fun r=>(r,cols)) (.returned (.tuple #[.agg #[.slice R2 k cr2,.slice C1 nc cc1],.bool true])) ((wr.setCell ⟨w.heap.size+1+1,0,none⟩ (.slice R2 k cr2)).setCell ⟨w.heap.size+1+1,1,none⟩ (.slice C1 nc cc1)) from
     ⟨((hx1.trans hxr).setCell (p:=⟨w.heap.size+1+1,0,none⟩) (by dsimp only;omega) _).setCell (p:=⟨w.heap.size+1+1,1,none⟩) (by dsimp only;omega) _,.inr ⟨rs,cols,k,nc,R2,cr2,C1,cc1,by rw [hfn.out];rfl,rfl,zd (zi oR hx1.size) hf (fun b hv e=>zm oR b3r (by decide) hv e),zd (zi oC hx1.size) hf (fun b hv e=>zm oC b3r (by decide) hv e)⟩⟩)
    clear hf
    go_wp2_with fail
    exact bodyPost_ret (v:=.tuple #[.agg #[.slice R2 k cr2,.slice C1 nc cc1],.bool true]) (by simp [results,Tryz.results92,go_sem,cf]) rfl hret.out
   |some x =>
    by_cases h12:k=12
    ·have hfn:=za (show fin=none by rw [← hcl.out,h12];exact zeQ hop.out)
     have heq:((k:Int)==12)=true:=by rw [h12];rfl
     clear h12
     have cf:=(show Blk ((wr.setCell ⟨w.heap.size+1+1,0,none⟩ (.slice none 0 0)).setCell ⟨w.heap.size+1+1,1,none⟩ (.slice none 0 0)) (w.heap.size+1+1) 113 #[.slice none 0 0,.slice none 0 0] by simpa using (b3r.set_ 0 (.slice none 0 0)).set_ 1 (.slice none 0 0)).cell
     have hret:=za (show zby w (fin.map fun r=>(r,cols)) (.returned (.tuple #[.agg #[.slice none 0 0,.slice none 0 0],.bool false])) ((wr.setCell ⟨w.heap.size+1+1,0,none⟩ (.slice none 0 0)).setCell ⟨w.heap.size+1+1,1,none⟩ (.slice none 0 0)) from
      ⟨((hx1.trans hxr).setCell (p:=⟨w.heap.size+1+1,0,none⟩) (by dsimp only;omega) _).setCell (p:=⟨w.heap.size+1+1,1,none⟩) (by dsimp only;omega) _,.inl ⟨by rw [hfn.out];rfl,rfl⟩⟩)
     go_wp2_with fail
     exact bodyPost_ret (v:=.tuple #[.agg #[.slice none 0 0,.slice none 0 0],.bool false]) (by simp [results,Tryz.results92,go_sem,cf]) rfl hret.out
    ·have hne:((k:Int)==12)=false:=by simp;omega
     have hgrow:=za (show zct L (zw s p L) (rs++[x]) cols from hki.out.2.grow (by rw [hki.out.1];omega) hop.out)
     have hcl2:=za (show zaB L (zw s p L) cols (12 - (k+1)) (rs++[x])=fin by
      rw [← hcl.out,show 12 - k=(12 - (k+1))+1 by omega,zeP _ hop.out])
     go_upto_region 9 with (at_builtin;refine zW w1 wr rfl _ _ _ rfl 9 _ 1 16 Tryz.underlying55 zj rfl (by decide) (.slice R2 k cr2) k (zL rs) _ _ rfl rfl hxr oR rfl (zbq _) (by unfold maxLen;omega) (by omega) ?_;intro v5 w5 hx5 zgO hg5 hat5;obtain⟨A5,c5,rfl⟩:=ze zgO;have b65:Blk w5 g6 113 #[.slice R2 k cr2,.slice C1 nc cc1]:=(hg5.block g6 (Blk.lt b6) (fun e=>zm oR b6 (by decide) e.symm rfl)).trans b6;have k65:=Blk.cell b65;have f65:=Blk.frozen b65)
     have oC5:=zd oC (Frm.of_grown hg5) (fun b hv e=>hdis.out b e hv)
     have hdis5:=za (show ∀ j,(Value.slice A5 (k+1) c5).ownBlock=some j→(Value.slice C1 nc cc1).ownBlock≠some j from fun j hj hc=>by
      rcases hat5 with h1|h1
      ·rw [h1] at hj;exact hdis.out j hj hc
      ·rw [h1] at hj
       have:=Option.some.inj hj
       have:=(oC.lt j hc).2
       omega)
     have hf5:Frm (fun k=>k=g6) w5 (w5.setCell ⟨g6,0,none⟩ (.slice A5 (k+1) c5)):=Frm.setCell w5 g6 0 _
     have oC6:=zd oC5 hf5 (fun b hv e=>zm oC5 b65 (by decide) hv e)
     have oR6:=zd zgO hf5 (fun b hv e=>zm zgO b65 (by decide) hv e)
     have b66:Blk (w5.setCell ⟨g6,0,none⟩ (.slice A5 (k+1) c5)) g6 113 #[.slice A5 (k+1) c5,.slice C1 nc cc1]:=by simpa using b65.set_ 0 (.slice A5 (k+1) c5)
     have hx6:=hx5.setCell (p:=⟨g6,0,none⟩) hg6 (.slice A5 (k+1) c5)
     rw [show zL rs++#[Value.string x].toList=zL (rs++[x]) by rw [strs_snoc]] at oR6
     clear k6 f6 kz fz b3r b6 oR oC hf5 k65 f65 b65 oC5 zgO hx5 hg5 hat5 hdis
     generalize w5.setCell ⟨g6,0,none⟩ (.slice A5 (k+1) c5)=w6 at *
     have CB6:∀ W,Ext w6 W→∀ q,W.cell? ⟨w.heap.size,q,none⟩=#[Value.bool false,.int .i64 0,.slice none 0 0,.slice none 0 0,.int .i64 s.al,.int .i64 s.st,.slice A n c,.int .i64 p.al,.slice B m d,.slice B' m' d',.int .i64 L][q]?:=fun W hW=>CB W (hx01.trans (hx6.trans hW))
     have CK6:=b66.cells
     have HT6:=za (show TabAt w6 A5 (k+1) C1 nc (rs++[x]) cols from ⟨_,_,_,_,Reads.of_own oR6,Reads.of_own oC6⟩)
     have hwE:=Ext.refl w6
     go_wp2_with (first
      |(go_at_call 108;refine (HO.out _ _ _ _ _ _ (rs++[x]) _ (hx1.trans hx6) HT6.out hgrow.out).mono ?_;rintro e w7 ⟨rfl,hx7⟩))
     have hmes2:=za (zfI (b66.ext hx7))
     go_roundw
     case rel=>exact⟨rs++[x],k+1,A5,c5,rfl,rfl,za ⟨by rw [List.length_append,hki.out.1];rfl,hgrow.out⟩,hcl2,by omega,b66.ext hx7,zf oR6 hx7,zf oC6 hx7,hdis5,hx6.trans hx7⟩
     case measure=>have h1:=hmes.out;have h2:=hmes2.out;omega
end
theorem zct.first (L:Nat) (f:ByteArray→Bool):zct L f [⟨#[]⟩] [⟨#[]⟩]:=
 ⟨Nat.le_refl _,by decide,Nat.le_refl _,by decide,rfl,rfl,(fun i x hi hx=>by rw [List.getElem?_eq_none (by simpa using hi)] at hx;cases hx),(fun i x hi hx=>by rw [List.getElem?_eq_none (by simpa using hi)] at hx;cases hx),by simp⟩
noncomputable def idxS (zs:List ByteArray) (z:ByteArray):Nat:=zs.findIdx fun y=>zeU [y] z
theorem idxS_lt {zs:List ByteArray} {z:ByteArray}(h:z∈zs):idxS zs z<zs.length:=List.findIdx_lt_length_of_exists ⟨z,h,zcN.2 (by simp)⟩
theorem idxS_at {zs:List ByteArray} {z:ByteArray}(h:z∈zs):zs[idxS zs z]?=some z:=by
 have h1:=idxS_lt h
 have h2:=List.findIdx_getElem (xs:=zs) (p:=fun y=>zeU [y] z) (w:=h1)
 have h3:=zcN.1 h2
 rw [List.mem_singleton] at h3
 rw [List.getElem?_eq_getElem h1]
 exact congrArg some h3.symm
theorem idxS_first {zs:List ByteArray} {z:ByteArray} {j:Nat} {y:ByteArray}(hj:j<idxS zs z)(hy:zs[j]?=some y):y≠z:=by
 have h1:=List.not_of_lt_findIdx hj
 have h2:zs[j]'(by have:=List.findIdx_le_length (p:=fun y=>zeU [y] z) (xs:=zs);unfold idxS at hj;omega)=y:=(List.getElem?_eq_some_iff.1 hy).2
 rw [h2] at h1
 intro e
 rw [zbB] at h1
 exact h1 (by rw [e];simp)
theorem zgp {w:World} {lo hi n c:Nat} {A:Option Addr} {zs:List ByteArray} {z:ByteArray}(h:Reads w lo hi 1 A n (zL zs))(hz:z∈zs) :
  Calls Tryz.prog 96 #[.slice A n c,.string z] w fun e w'=>e=.returned (.int .i64 (idxS zs z:Nat))∧w=w':=by
 have hn:=h.len
 have hl:zs.length=n:=by have:=h.length;rw [zaV] at this;omega
 obtain⟨I,hI⟩:∃ I,Hid (idxS zs z=I):=⟨_,rfl⟩
 have hIn:I<n:=by rw [← hI.out,← hl];exact idxS_lt hz
 have hat:=za (hI.out ▸ idxS_at hz)
 have hfirst:=za (fun (j:Nat) (y:ByteArray) (hj:j<I)=>idxS_first (zs:=zs) (z:=z) (j:=j) (y:=y) (by rw [hI.out];exact hj))
 rw [hI.out]
 clear hl hz
 go_enter Tryz.func96,Tryz.ntmps96
 go_wp2_with fail
 go_loop [5] (fun iv=>∃ i:Nat,iv=.int .i64 i∧i≤I) (fun iv=>n - (intOf iv).toNat)
 case atStart=>exact⟨0,rfl,Nat.zero_le _⟩
 case round =>
  obtain⟨i,rfl,hi⟩:=hrel
  have hlt:i<n:=by omega
  have hlt':(i:Int)<(n:Int):=by omega
  obtain⟨ad,y,rfl,_,_,hy,cy⟩:=h.str hlt
  by_cases he:i=I
  ·have hyz:y=z:=Option.some.inj (hy.out.symm.trans (he ▸ hat.out))
   subst hyz
   have He:=za he
   clear he
   go_wp2_with fail
   go_ret
   exact⟨zam (by rw [He.out]),rfl⟩
  ·have hne:=str_ne (hfirst.out i y (by omega) hy.out)
   go_wp2_with fail
   go_round
   case rel=>exact⟨i+1,by go_num,by omega⟩
   case measure=>simp [intOf];omega
section
variable {w W:World} {n c m d m' d' L:Nat} {A B B':Option Addr} {s:Sys} {p:Aut}
theorem zgo (h:Tch w A n B m B' m' s p L) :
  Calls Tryz.prog 76 #[.agg #[.bool false,.int .i64 0,.slice none 0 0,.slice none 0 0,.int .i64 s.al,.int .i64 s.st,.slice A n c,.int .i64 p.al,.slice B m d,.slice B' m' d',.int .i64 L]] w (zby w ((zaB L (zw s p L) [⟨#[]⟩] 11 [⟨#[]⟩]).map fun r=>(r,[⟨#[]⟩]))):=by
 have HC:=za (fun (R C:Option Addr) W (hW:Ext w W) (hT:TabAt W R 1 C 1 [⟨#[]⟩] [⟨#[]⟩])=>zcD (c:=c) (d:=d) (d':=d') (cr:=1) (cc:=1) (h.ext hW) hT (zct.first L _) (Nat.le_refl _) (Nat.le_refl _))
 rw [show 12 - ([⟨#[]⟩]:List ByteArray).length=11 from rfl] at HC
 generalize (zaB L (zw s p L) [⟨#[]⟩] 11 [⟨#[]⟩]).map (fun r=>(r,[(⟨#[]⟩:ByteArray)]))=fin at *
 have hx0:Ext w ((w.alloc (.cells #[.bool false,.int .i64 0,.slice none 0 0,.slice none 0 0,.int .i64 s.al,.int .i64 s.st,.slice A n c,.int .i64 p.al,.slice B m d,.slice B' m' d',.int .i64 L] 111)).alloc (.cells #[.slice none 0 0,.slice none 0 0] 113)):=((Ext.refl _).alloc _).alloc _
 obtain⟨b1,b2⟩:=zM (Ext.refl ((w.alloc (.cells #[.bool false,.int .i64 0,.slice none 0 0,.slice none 0 0,.int .i64 s.al,.int .i64 s.st,.slice A n c,.int .i64 p.al,.slice B m d,.slice B' m' d',.int .i64 L] 111)).alloc (.cells #[.slice none 0 0,.slice none 0 0] 113)))
 clear h
 go_enter Tryz.func76,Tryz.ntmps76
 go_upto_region 1 with fail
 have hsz:w.heap.size+1+1=((w.alloc (.cells #[.bool false,.int .i64 0,.slice none 0 0,.slice none 0 0,.int .i64 s.al,.int .i64 s.st,.slice A n c,.int .i64 p.al,.slice B m d,.slice B' m' d',.int .i64 L] 111)).alloc (.cells #[.slice none 0 0,.slice none 0 0] 113)).heap.size:=by simp
 generalize (w.alloc (.cells #[.bool false,.int .i64 0,.slice none 0 0,.slice none 0 0,.int .i64 s.al,.int .i64 s.st,.slice A n c,.int .i64 p.al,.slice B m d,.slice B' m' d',.int .i64 L] 111)).alloc (.cells #[.slice none 0 0,.slice none 0 0] 113)=w0 at *
 have Hsz:=za hsz
 clear hsz
 have k1:=b1.cell
 have hx1:Ext w0 ((w0.alloc (.cells #[.string ⟨#[]⟩] 9)).alloc (.cells #[.string ⟨#[]⟩] 9)):=((Ext.refl _).alloc _).alloc _
 have hT:TabAt ((w0.alloc (.cells #[.string ⟨#[]⟩] 9)).alloc (.cells #[.string ⟨#[]⟩] 9)) (some ⟨w0.heap.size,0,none⟩) 1 (some ⟨w0.heap.size+1,0,none⟩) 1 [⟨#[]⟩] [⟨#[]⟩]:=by
  obtain⟨q1,q2⟩:=zM (Ext.refl ((w0.alloc (.cells #[.string ⟨#[]⟩] 9)).alloc (.cells #[.string ⟨#[]⟩] 9)))
  refine⟨_,_,_,_,Reads.of_own (base:=w0.heap.size) (e:=9) (c:=1) ⟨rfl,.inr ⟨w0.heap.size,1,_,rfl,Nat.le_refl _,q1,by unfold maxLen;simp [zL]⟩⟩,Reads.of_own (base:=w0.heap.size+1) (e:=9) (c:=1) ⟨rfl,.inr ⟨w0.heap.size+1,1,_,rfl,Nat.le_refl _,q2,by unfold maxLen;simp [zL]⟩⟩⟩
 have HT:=za hT
 have b22:=b2.ext hx1
 clear hT
 go_wp2_with fail
 refine (HC.out _ _ _ (hx0.trans hx1) HT.out).mono ?_
 rintro e w2 ⟨hx2,⟨h0,rfl⟩|⟨rs,cs,nr,nc,R,cr,C,cc,h0,rfl,hR,hC⟩⟩
 ·have b23:=b22.ext hx2
  have k3:=b23.cell
  have f3:=b23.frozen
  have cf:=(show Blk ((w2.setCell ⟨w.heap.size+1,0,none⟩ (.slice none 0 0)).setCell ⟨w.heap.size+1,1,none⟩ (.slice none 0 0)) (w.heap.size+1) 113 #[.slice none 0 0,.slice none 0 0] by simpa using (b23.set_ 0 (.slice none 0 0)).set_ 1 (.slice none 0 0)).cell
  have hret:=za (show zby w fin (.returned (.tuple #[.agg #[.slice none 0 0,.slice none 0 0],.bool false])) ((w2.setCell ⟨w.heap.size+1,0,none⟩ (.slice none 0 0)).setCell ⟨w.heap.size+1,1,none⟩ (.slice none 0 0)) from
   ⟨(((hx0.trans hx1).trans hx2).setCell (p:=⟨w.heap.size+1,0,none⟩) (Nat.le_succ _) _).setCell (p:=⟨w.heap.size+1,1,none⟩) (Nat.le_succ _) _,.inl ⟨h0,rfl⟩⟩)
  clear k1
  go_wp2_with fail
  exact bodyPost_ret (v:=.tuple #[.agg #[.slice none 0 0,.slice none 0 0],.bool false]) (by simp [results,Tryz.results76,go_sem,cf]) rfl hret.out
 ·have b23:=b22.ext hx2
  have k3:=b23.cell
  have f3:=b23.frozen
  have hf:Frm (fun k=>k=w.heap.size+1) w2 ((w2.setCell ⟨w.heap.size+1,0,none⟩ (.slice R nr cr)).setCell ⟨w.heap.size+1,1,none⟩ (.slice C nc cc)):=(Frm.setCell w2 _ 0 _).trans (Frm.setCell _ _ 1 _)
  have cf:=(show Blk ((w2.setCell ⟨w.heap.size+1,0,none⟩ (.slice R nr cr)).setCell ⟨w.heap.size+1,1,none⟩ (.slice C nc cc)) (w.heap.size+1) 113 #[.slice R nr cr,.slice C nc cc] by simpa using (b23.set_ 0 (.slice R nr cr)).set_ 1 (.slice C nc cc)).cell
  have hret:=za (show zby w fin (.returned (.tuple #[.agg #[.slice R nr cr,.slice C nc cc],.bool true])) ((w2.setCell ⟨w.heap.size+1,0,none⟩ (.slice R nr cr)).setCell ⟨w.heap.size+1,1,none⟩ (.slice C nc cc)) from
   ⟨(((hx0.trans hx1).trans hx2).setCell (p:=⟨w.heap.size+1,0,none⟩) (Nat.le_succ _) _).setCell (p:=⟨w.heap.size+1,1,none⟩) (Nat.le_succ _) _,.inr ⟨rs,cs,nr,nc,R,cr,C,cc,h0,rfl,zd (zi hR (hx0.trans hx1).size) hf (fun b hv e=>zm hR b23 (by decide) hv e),zd (zi hC (hx0.trans hx1).size) hf (fun b hv e=>zm hC b23 (by decide) hv e)⟩⟩)
  clear k1 hf
  go_wp2_with fail
  exact bodyPost_ret (v:=.tuple #[.agg #[.slice R nr cr,.slice C nc cc],.bool true]) (by simp [results,Tryz.results76,go_sem,cf]) rfl hret.out
end
noncomputable def autRow (L:Nat) (f:ByteArray→Bool) (rows cols:List ByteArray) (r:ByteArray):List Int:=(letters L 6).map fun l=>((idxS (zbf f cols rows) (mkS (zcu f cols (r++zdA l))):Nat):Int)
noncomputable def zfF (L:Nat) (f:ByteArray→Bool) (rows cols:List ByteArray):Aut:=⟨(L:Int),rows.map (autRow L f rows cols),rows.map f⟩
theorem open_none {L:Nat} {f:ByteArray→Bool} {rows cols:List ByteArray}(h:zbd L f rows cols=none) {r:ByteArray} {l:Nat}(hr:r∈rows)(hl:l∈letters L 6):mkS (zcu f cols (r++zdA l))∈zbf f cols rows:=by
 unfold zbd at h
 rw [List.find?_eq_none] at h
 have:=h (r++zdA l) (List.mem_flatMap.2 ⟨r,hr,List.mem_map.2 ⟨l,hl,rfl⟩⟩)
 simp only [Bool.not_eq_true',Bool.not_eq_false] at this
 exact zcN.1 this
theorem mkS_head (b:Bool) (r:List Bool):∃ h:0<(mkS (b :: r)).size,((((mkS (b :: r))[0]'h).toNat:Int)==43)=b:=by
 have h0:0<(mkS (b :: r)).size:=by rw [mkS_size];simp
 refine⟨h0,?_⟩
 have h1:=zbz (mkS (b :: r)) 0 h0
 rw [zeE,List.map_cons,List.getElem?_cons_zero] at h1
 have h2:=Option.some.inj h1
 rw [← h2]
 cases b<;>rfl
theorem rowM_head {L:Nat} {f:ByteArray→Bool} {rows cols:List ByteArray}(h:zct L f rows cols) (x:ByteArray):∃ r,zcu f cols x=f x :: r:=by
 have h0:=h.c0
 match cols,h0 with
 |c :: cs,h0 =>
  simp at h0
  subst h0
  refine⟨cs.map fun c=>f (x++c),?_⟩
  unfold zcu
  rw [List.map_cons]
  congr 1
  exact congrArg f (ByteArray.append_empty)
section
variable {w0 W W':World} {G:Nat} {al:Int} {v vA:Value} {ls:List (List Int)} {acc:List Bool}
theorem Gra.pushAcc {x:Bool} {g cap:Nat}(h:Gra w0 W G al v ls vA acc)
  (zgC:W'.ownsRow w0.heap.size 4 1 (.slice (some ⟨g,0,none⟩) (acc.length+1) cap) (acc.length+1) (zax acc++[.bool x]))
  (hg:W.grownBy W' vA.ownBlock) (hat:vA.ownBlock=some g∨g=W.heap.size+1) :
  Hid (W'.cell? ⟨G,2,none⟩=some vA)∧W'.frozen? ⟨G,2,none⟩=false∧Gra w0 (W'.setCell ⟨G,2,none⟩ (.slice (some ⟨g,0,none⟩) (acc.length+1) cap)) G al v ls (.slice (some ⟨g,0,none⟩) (acc.length+1) cap) (acc++[x]):=by
 have hGG:=h.hG
 have hB:Blk W' G 26 #[.int .i64 al,v,vA]:=(hg.block G h.blk.lt (fun e=>zm h.acc h.blk (by decide) e.symm rfl)).trans h.blk
 have hgG:g≠G:=by
  rcases hat with h1|h1
  ·exact zm h.acc h.blk (by decide) h1
  ·have:=h.blk.lt;omega
 have hx':Ext w0 W':=h.ext.grown hg (fun k hk=>(h.acc.lt k hk).1)
 have hfr:Frm (fun k=>vA.ownBlock=some k) W W':=Frm.of_grown hg
 obtain⟨rows,hn0,hr0⟩:=h.own
 have hn:W'.ownsRow w0.heap.size 53 1 v ls.length rows:=zd hn0 hfr (fun b hb hS=>zaK hn0 h.acc (by decide) hb hS)
 have hr2:zB W' w0.heap.size rows ls:=hr0.frm hfr (fun i r b hr hb hS=>by
  obtain⟨l',_,ho⟩:=hr0.row hr
  exact zaK ho h.acc (by decide) hb hS)
 have hset:=Frm.setCell W' G 2 (.slice (some ⟨g,0,none⟩) (acc.length+1) cap)
 refine⟨hB.cell 2,hB.frozen 2,⟨by simpa using hB.set_ 2 _,⟨rows,zd hn hset (fun b hb hS=>zm hn hB (by decide) hb hS),hr2.frm hset (fun i r b hr hb hS=>?_)⟩,?_,hx'.setCell (p:=⟨G,2,none⟩) hGG _,hGG⟩⟩
 ·obtain⟨l',_,ho⟩:=hr2.row hr
  exact zm ho hB (by decide) hb hS
 ·rw [List.length_append,List.length_singleton,show zax (acc++[x])=zax acc++[.bool x] by simp [zax]]
  exact zd zgC hset (fun b hv hS=>by
   have:g=b:=by simpa [Value.ownBlock] using hv
   omega)
end
theorem Frm.grown {S:Nat→Prop} {a w w':World} {row:Option Nat}(h:Frm S a w)(hg:w.grownBy w' row)(hr:∀ k,row=some k→a.heap.size≤k):Frm S a w':=
 ⟨hg.os.trans h.os,hg.tape.trans h.tape,hg.output.trans h.output,Nat.le_trans h.size hg.size,fun k hk hS=>(hg.block k (Nat.lt_of_lt_of_le hk h.size) (fun e=>by have:=hr k e.symm;omega)).trans (h.block k hk hS)⟩
def RetAutB (w:World) (a:Aut) (e:Ending) (w':World):Prop:=
 ∃ A n c A' n' c',e=.returned (.tuple #[.agg #[.int .i64 a.al,.slice A n c,.slice A' n' c'],.bool true])∧zO w' w.heap.size A n c A' n' c' a∧Ext w w'
section
variable {w W:World} {n c m d m' d' L:Nat} {A B B':Option Addr} {s:Sys} {p:Aut} {nr nc cr cc:Nat} {R C:Option Addr} {rows cols:List ByteArray}
theorem zbH (h:Tch w A n B m B' m' s p L)(hT:TabAt w R nr C nc rows cols)(hI:zct L (zw s p L) rows cols)(hcr:nr≤cr)(hcc:nc≤cc)(hcl:zbd L (zw s p L) rows cols=none) :
  Calls Tryz.prog 77 #[.agg #[.bool false,.int .i64 0,.slice none 0 0,.slice none 0 0,.int .i64 s.al,.int .i64 s.st,.slice A n c,.int .i64 p.al,.slice B m d,.slice B' m' d',.int .i64 L],.agg #[.slice R nr cr,.slice C nc cc]] w (RetAutB w (zfF L (zw s p L) rows cols)):=by
 obtain⟨e1,e2⟩:=hT.nr
 have hr12:=hI.r12;have hc20:=hI.c20
 rw [e1] at hr12
 rw [e2] at hc20
 have HCl:=za (fun W (hW:Ext w W)=>zey (c:=c) (d:=d) (d':=d') (h.ext hW) (hT.ext hW) hI hcr hcc hcl)
 have HA:=za (fun W (hW:Ext w W)=>zat (c:=c) (d:=d) (d':=d') (h.ext hW))
 obtain⟨lo,hi,lo2,hi2,h1,h2⟩:=hT
 have HR:=za (fun W (hW:Ext w W)=>zcE (c:=c) (d:=d) (d':=d') (cc:=cc) (cr:=cr) (h.ext hW) (h2.ext hW) (h1.ext hW) (by omega) (by omega) hI.rsz'.2 hI.rsz'.1)
 have HW:=za (fun W (hW:Ext w W) (y:ByteArray) hy=>zdx (c:=c) (d:=d) (d':=d') (cc:=cc) (x:=y) (h.ext hW) (h2.ext hW) (by omega) hy hI.rsz'.2)
 have H1:=za (fun W (hW:Ext w W)=>h1.ext hW)
 have hL:=h.lt
 have Hin:=za (fun x hx=>hI.rin (x:=x) hx)
 have Hop:=za (fun (r:ByteArray) (l:Nat) hr hl=>open_none (r:=r) (l:=l) hcl hr hl)
 have Hhd:=za (fun x=>rowM_head hI x)
 have hlen:(zbf (zw s p L) cols rows).length=nr:=by rw [zbf,List.length_map];exact e1
 have hzs:∀ (i:Nat) (r:ByteArray),rows[i]?=some r→(zbf (zw s p L) cols rows)[i]?=some (mkS (zcu (zw s p L) cols r)):=fun i r hr=>by rw [zbf,List.getElem?_map,hr];rfl
 have Hzs:=za hzs
 have Haut:=za (show zfF L (zw s p L) rows cols=⟨(L:Int),rows.map (autRow L (zw s p L) rows cols),rows.map (zw s p L)⟩ from rfl)
 have Hrow:=za (fun r=>show autRow L (zw s p L) rows cols r=(letters L 6).map fun l=>((idxS (zbf (zw s p L) cols rows) (mkS (zcu (zw s p L) cols (r++zdA l))):Nat):Int) from rfl)
 generalize zfF L (zw s p L) rows cols=aut at *
 generalize autRow L (zw s p L) rows cols=arow at *
 generalize zbf (zw s p L) cols rows=zs at *
 have Hlen:=za hlen
 have He:=za e1
 have hx0:Ext w (((w.alloc (.cells #[.bool false,.int .i64 0,.slice none 0 0,.slice none 0 0,.int .i64 s.al,.int .i64 s.st,.slice A n c,.int .i64 p.al,.slice B m d,.slice B' m' d',.int .i64 L] 111)).alloc (.cells #[.slice R nr cr,.slice C nc cc] 113)).alloc (.cells #[.int .i64 0,.slice none 0 0,.slice none 0 0] 26)):=(((Ext.refl _).alloc _).alloc _).alloc _
 obtain⟨b1,b2,b3⟩:=zN (Ext.refl (((w.alloc (.cells #[.bool false,.int .i64 0,.slice none 0 0,.slice none 0 0,.int .i64 s.al,.int .i64 s.st,.slice A n c,.int .i64 p.al,.slice B m d,.slice B' m' d',.int .i64 L] 111)).alloc (.cells #[.slice R nr cr,.slice C nc cc] 113)).alloc (.cells #[.int .i64 0,.slice none 0 0,.slice none 0 0] 26)))
 clear h h1 h2 hI e1 e2 hlen hzs hcl
 go_enter Tryz.func77,Tryz.ntmps77
 go_upto_region 1 with fail
 generalize ((w.alloc (.cells #[.bool false,.int .i64 0,.slice none 0 0,.slice none 0 0,.int .i64 s.al,.int .i64 s.st,.slice A n c,.int .i64 p.al,.slice B m d,.slice B' m' d',.int .i64 L] 111)).alloc (.cells #[.slice R nr cr,.slice C nc cc] 113)).alloc (.cells #[.int .i64 0,.slice none 0 0,.slice none 0 0] 26)=w0 at *
 have CB:=b1.cells
 have CT:=b2.cells
 have hb3:=b3.lt
 have hww:=Ext.refl w0
 go_upto_region 4 with (first
  |(go_at_call 93;refine (HCl.out _ hx0).mono ?_;rintro e w1 ⟨rfl,hx01⟩)
  |(go_at_call 94;refine (HA.out _ (hx0.trans hx01)).mono ?_;rintro e w2 ⟨rfl,hx12⟩;have hx02:=hx01.trans hx12))
 have hs2:=hx02.size
 have hxG:=(Ext.refl w2).alloc (.cells #[.int .i64 (L:Nat),.slice none 0 0,.slice none 0 0] 26)
 have hgra:Gra w2 (w2.alloc (.cells #[.int .i64 (L:Nat),.slice none 0 0,.slice none 0 0] 26)) w2.heap.size (L:Nat) (.slice none 0 0) [] (.slice none 0 0) []:=
  ⟨Blk.new w2 _ _,⟨[],World.ownsRow_nil _ _ _ _,zB.nil _ _⟩,World.ownsRow_nil _ _ _ _,hxG,Nat.le_refl _⟩
 clear hxG
 generalize hG:w2.heap.size=G at *
 generalize w2.alloc (.cells #[.int .i64 (L:Nat),.slice none 0 0,.slice none 0 0] 26)=w3 at *
 have HG:=za hG
 clear hG
 have k3:=hgra.blk.cell
 have hx03:Ext w0 w3:=hx02.trans hgra.ext
 have CB3:∀ W,Ext w3 W→∀ q,W.cell? ⟨w.heap.size,q,none⟩=#[Value.bool false,.int .i64 0,.slice none 0 0,.slice none 0 0,.int .i64 s.al,.int .i64 s.st,.slice A n c,.int .i64 p.al,.slice B m d,.slice B' m' d',.int .i64 L][q]?:=fun W hW=>CB W (hx03.trans hW)
 have CT3:∀ W,Ext w3 W→∀ q,W.cell? ⟨w.heap.size+1,q,none⟩=#[Value.slice R nr cr,.slice C nc cc][q]?:=fun W hW=>CT W (hx03.trans hW)
 go_wp2_with (first
  |(go_at_call 48;refine (zK L (by unfold Sm;omega) _).mono ?_;rintro e w4 ⟨HL,hc,rfl,hownL,hx34⟩)
  |(go_at_call 95;refine (HR.out _ (hx0.trans (hx03.trans hx34))).mono ?_;rintro e w5 ⟨ZA,zc,rfl,hownZ,hx45⟩;have hx35:=hx34.trans hx45))
 have hrdZ:=Reads.of_own hownZ
 rw [Hlen.out] at hrdZ
 have HZ:=za (fun W (hW:Ext w5 W)=>hrdZ.ext hW)
 have hownL5:=zf hownL hx45
 have HLet:=za (fun W (hW:Ext w5 W)=>zf hownL5 hW)
 have Hown3:=za (fun b hb=>(hownL.lt b hb).1)
 have hG3:=za (hgra.blk.lt)
 have hs34:=za hx34.size
 have hlm:=za (fun l (hl:l∈letters L 6)=>(zZ.1 hl).1)
 have hls:(letters L 6).length≤6:=zy L 6
 have hx05:Ext w0 w5:=hx03.trans hx35
 have hgra5:=hgra.ext_ hx35
 generalize letters L 6=ls0 at *
 have hzl:=Hlen.out
 rw [Hlen.out] at hownZ ⊢
 have HZo:=za hownZ
 have HownZ:=za (fun b hb=>(hownZ.lt b hb).1)
 clear hownL hownL5 hrdZ hownZ hx34 hx45 k3 hgra CB3 CT3 hww
 go_loopw [9] (fun iv wr=>∃ (i:Nat) (v vA:Value),iv=.int .i64 i∧i≤nr∧Gra w2 wr G (L:Nat) v ((rows.take i).map arow) vA ((rows.take i).map (zw s p L))∧Hid (∀ b,v.ownBlock=some b→w5.heap.size≤b)∧Hid (∀ b,vA.ownBlock=some b→w5.heap.size≤b)∧Frm (fun k=>k=G) w5 wr) (fun iv _=>nr - (intOf iv).toNat)
 case atStart=>exact⟨0,_,_,rfl,Nat.zero_le _,by simpa using hgra5,za (fun b hb=>by simp [Value.ownBlock] at hb),za (fun b hb=>by simp [Value.ownBlock] at hb),Frm.refl _ _⟩
 case round =>
  obtain⟨i,v,vA,rfl,hi,hgra,hvb,hvA,hfr⟩:=hrel
  have hx2r:=hgra.ext
  have hGw:=hgra.blk.lt
  have CBr:∀ W,Ext wr W→∀ q,W.cell? ⟨w.heap.size,q,none⟩=#[Value.bool false,.int .i64 0,.slice none 0 0,.slice none 0 0,.int .i64 s.al,.int .i64 s.st,.slice A n c,.int .i64 p.al,.slice B m d,.slice B' m' d',.int .i64 L][q]?:=fun W hW=>CB W ((hx02.trans hx2r).trans hW)
  have CTr:∀ W,Ext wr W→∀ q,W.cell? ⟨w.heap.size+1,q,none⟩=#[Value.slice R nr cr,.slice C nc cc][q]?:=fun W hW=>CT W ((hx02.trans hx2r).trans hW)
  by_cases hlt:i<nr
  ·have hlt':(i:Int)<(nr:Int):=by omega
   obtain⟨ad,r,rfl,_,_,hr,cr0⟩:=(H1.out wr (hx0.trans (hx02.trans hx2r))).str hlt
   have CR:∀ W,Ext wr W→W.cell? (ad.add i)=some (.string r):=fun W hW=>hW.cell_some cr0
   have hrs:=(Hin.out r (List.mem_of_getElem? hr.out)).2
   have hrmem:=za (List.mem_of_getElem? hr.out)
   have hown0:(wr.alloc (.cells #[] 3)).ownsRow wr.heap.size 3 1 (.slice (some ⟨wr.heap.size,0,none⟩) 0 0) 0 (ints []):=World.ownsRow_lit wr #[] 0 (Nat.le_refl _) (by unfold maxLen;omega) rfl
   have hxa:=(Ext.refl wr).alloc (.cells #[] 3)
   clear cr0
   obtain⟨wo,hwo⟩:∃ wo,wo=wr:=⟨_,rfl⟩
   subst hwo
   go_wp2_with fail
   go_loopw [10,11] (fun v10 kv wr=>∃ k:Nat,kv=.int .i64 k∧k≤ls0.length∧wr.ownsRow wo.heap.size 3 1 v10 k (ints ((arow r).take k))∧Ext wo wr) (fun _ kv _=>ls0.length - (intOf kv).toNat)
   case atStart=>exact⟨0,rfl,Nat.zero_le _,by simpa [ints] using hown0,hxa⟩
   case round =>
    clear hown0 hxa
    obtain⟨k,rfl,hk,zgC,hxq⟩:=hrel
    by_cases hkl:k<ls0.length
    ·have hkl':(k:Int)<(ls0.length:Int):=by omega
     obtain⟨l,hl⟩:∃ l,ls0[k]?=some l:=⟨_,List.getElem?_eq_getElem hkl⟩
     have hl6:=hlm.out l (List.mem_of_getElem? hl)
     have hlmem:=za (List.mem_of_getElem? hl)
     have hownL2:=zd (HLet.out w5 (Ext.refl _)) (hfr.trans hxq.toFrm) (fun b hb e=>by have:=hG3.out;have:=Hown3.out b hb;omega)
     have hownZ2:=zd HZo.out (hfr.trans hxq.toFrm) (fun b hb e=>by have:=hG3.out;have:=hs34.out;have:=HownZ.out b hb;omega)
     obtain⟨gl,rfl,hgl,-⟩:=zad hownL2 (by omega)
     have cl:=zcf hownL2 hkl
     rw [List.getD_eq_getElem?_getD,hl,Option.getD_some] at cl
     have CL:∀ W,Ext wr W→W.cell? ⟨gl,k,none⟩=some (.int .i64 (l:Nat)):=fun W hW=>hW.cell_some cl
     have CR2:∀ W,Ext wr W→W.cell? (ad.add i)=some (.string r):=fun W hW=>CR W (hxq.trans hW)
     have CT2:∀ W,Ext wr W→∀ q,W.cell? ⟨w.heap.size+1,q,none⟩=#[Value.slice (some ad) nr cr,.slice C nc cc][q]?:=fun W hW=>CTr W (hxq.trans hW)
     have CB2:∀ W,Ext wr W→∀ q,W.cell? ⟨w.heap.size,q,none⟩=#[Value.bool false,.int .i64 0,.slice none 0 0,.slice none 0 0,.int .i64 s.al,.int .i64 s.st,.slice A n c,.int .i64 p.al,.slice B m d,.slice B' m' d',.int .i64 L][q]?:=fun W hW=>CBr W (hxq.trans hW)
     have HT:=za (fun W=>zcF (w:=W) hl6)
     have Hl:=za hl
     have hmemz:=za (Hop.out r l hrmem.out hlmem.out)
     obtain⟨z,hz⟩:∃ z,Hid (zdA l=z):=⟨_,rfl⟩
     rw [hz.out] at HT
     have hz1:z.size=1:=by rw [← hz.out];exact zcy l
     have hsz:¬ 9223372036854775807<r.size+1:=by omega
     have HWr:=za (fun W (hW:Ext wr W)=>HW.out W ((hx0.trans (hx02.trans (hx2r.trans hxq))).trans hW) (r++z) (by rw [ByteArray.size_append];omega))
     have hrdz:=Reads.of_own hownZ2
     have HIx:=za (fun W (hW:Ext wr W)=>zgp (c:=zc) (hrdz.ext hW) hmemz.out)
     rw [hz.out] at HIx
     have hrowk:=za (show (arow r)[k]?=some ((idxS zs (mkS (zcu (zw s p L) cols (r++z))):Nat):Int) by rw [Hrow.out,List.getElem?_map,hl,← hz.out];rfl)
     obtain⟨y,hy⟩:∃ y,r++z=y:=⟨_,rfl⟩
     rw [hy] at HWr HIx hrowk
     obtain⟨I,hI⟩:∃ I,Hid (idxS zs (mkS (zcu (zw s p L) cols y))=I):=⟨_,rfl⟩
     rw [hI.out] at HIx hrowk
     generalize mkS (zcu (zw s p L) cols y)=ys at *
     have hst:=za (show ints ((arow r).take (k+1))=ints ((arow r).take k)++[.int .i64 (I:Nat)] by rw [List.take_add_one,hrowk.out];simp [ints])
     have hww:=Ext.refl wr
     clear hl cl hrdz hownL2 hownZ2
     go_wp2_with fail
     refine uR (fun X=>Ext wr X) [19] (zG.of [0,1,2,3,4,5,6,7,8,9,10,11,12,13,14,15,16,17,18,19,20]) ?_
     refine uQ ?_
     refine zb fun K hK=>?_;go_simp
     refine (HT.out _).mono ?_
     rintro e w6 ⟨rfl,hx6⟩
     have hxr6:Ext wr w6:=hww.drew.trans hx6
     refine hK.out _ _ hxr6 ?_
     refine pT ?_
     refine uQ ?_
     refine zb fun K hK=>?_;go_simp
     with_reducible refine (HWr.out _ hxr6).mono ?_
     rintro e w7 ⟨rfl,hx7⟩
     have hxr7:=hxr6.trans hx7
     refine hK.out _ _ hxr7 ?_
     refine pT ?_
     refine uQ ?_
     refine zb fun K hK=>?_;go_simp
     with_reducible refine (HIx.out _ hxr7).mono ?_
     rintro e w8 ⟨rfl,rfl⟩
     refine hK.out _ _ hxr7 ?_
     refine pT ?_
     refine uQ ?_
     refine zb fun K hK=>?_;go_simp
     refine hK.out _ _ (hxr7.alloc _) ?_
     refine pT ?_
     refine zg fun K hK=>?_
     refine zaw wo w7 _ _ _ rfl 3 _ 1 8 Tryz.underlying53 zag rfl (by decide) _ k (ints ((arow r).take k)) _ _ rfl rfl (hxq.trans hxr7).size (zf zgC hxr7) rfl (zbp _) (by unfold maxLen;omega) (by omega) ?_
     intro g9 cap9 w9 hown9 hg9 hat9 hlt9
     refine hK.out _ _ ?_
     refine pT ?_
     refine uQ ?_
     refine zh ?_
     clear hy
     go_wp2_with fail
     go_roundw
     case rel=>exact⟨k+1,by go_num,by omega,by rw [hst.out];exact hown9,(hxq.trans hxr7).grown hg9 (fun k hk=>(zgC.lt k hk).1)⟩
     case measure=>simp [intOf];omega
    ·have hge:(ls0.length:Int)≤(k:Int):=by omega
     have hfull:=za (show (arow r).take k=arow r from List.take_of_length_le (by rw [Hrow.out,List.length_map];omega))
     rw [hfull.out] at zgC
     obtain⟨A1,c1,rfl⟩:=ze zgC
     have hkl2:=za (show k=(arow r).length by rw [Hrow.out,List.length_map];omega)
     obtain⟨rws,hnx,hrws⟩:=hgra.own
     have hli:=za (show ((rows.take i).map arow).length=i by rw [List.length_map,List.length_take];have:=He.out;omega)
     have hla:=za (show ((rows.take i).map (zw s p L)).length=i by rw [List.length_map,List.length_take];have:=He.out;omega)
     rw [hli.out] at hnx
     have hgraq:=hgra.ext_ hxq
     have kG:=hgraq.blk.cell
     have hsq:=za (hgraq.ext.size)
     have hnxq:=zf hnx hxq
     have hHr:=za hrws
     have HO:=za (show wr.ownsRow wo.heap.size 3 1 (.slice A1 k c1) (arow r).length (ints (arow r)) by rw [← hkl2.out];exact zgC)
     clear zgC
     go_upto_region 15 with (at_builtin;refine zar w2 wr rfl _ _ _ rfl 53 _ 1 24 Tryz.underlying23 zbr rfl (by decide) v i rws _ _ rfl rfl hsq.out hnxq rfl (zaA _ _ _) (by unfold maxLen;omega) (by omega) ?_;intro g6 cap6 w6 hown6 hg6 hat6 hlt6;obtain⟨q1,q2,q3⟩:=hgra.push (l:=arow r) (row:=.slice A1 k c1) hHr.out (by rw [hli.out];exact hnx) hxq HO.out (by rw [hli.out];exact hown6) hg6 hat6;have q1':=q1.out)
     have hf7:Frm (fun k=>k=G) w5 (w6.setCell ⟨G,1,none⟩ (.slice (some ⟨g6,0,none⟩) (((rows.take i).map arow).length+1) cap6)):=((hfr.trans hxq.toFrm).grown hg6 (fun k hk=>hvb.out k hk)).trans (Frm.setCell w6 G 1 _)
     have hvb7:=za (show ∀ b,(Value.slice (some ⟨g6,0,none⟩) (((rows.take i).map arow).length+1) cap6).ownBlock=some b→w5.heap.size≤b from fun b hb=>by
      have hbb:g6=b:=by simpa [Value.ownBlock] using hb
      subst hbb
      rcases hat6 with h1|h1
      ·exact hvb.out _ h1
      ·have:=hxq.size;have:=hfr.size;omega)
     have hls7:=za (show (rows.take (i+1)).map arow=(rows.take i).map arow++[arow r] by rw [List.take_add_one,hr.out];simp)
     have hac7:=za (show (rows.take (i+1)).map (zw s p L)=(rows.take i).map (zw s p L)++[zw s p L r] by rw [List.take_add_one,hr.out];simp)
     rw [← hls7.out,hli.out] at q3
     rw [hli.out] at hf7 hvb7
     obtain⟨bb,hbb⟩:∃ bb,Hid (zw s p L r=bb):=⟨_,rfl⟩
     rw [hbb.out] at hac7
     have hxz:=Hzs.out i r hr.out
     obtain⟨rr,hrr⟩:=Hhd.out r
     rw [hrr,hbb.out] at hxz
     obtain⟨h0x,hb43⟩:=mkS_head bb rr
     generalize mkS (bb :: rr)=x at *
     clear q1 q1' q2 hown6 hat6 hlt6 kG hnxq hgraq hsq HO hHr hrws hnx hrr
     generalize w6.setCell ⟨G,1,none⟩ (.slice (some ⟨g6,0,none⟩) (i+1) cap6)=w7 at *
     generalize Value.slice (some ⟨g6,0,none⟩) (i+1) cap6=v7 at *
     have hownZ7:=zd HZo.out hf7 (fun b hb e=>by have:=hG3.out;have:=hs34.out;have:=HownZ.out b hb;omega)
     obtain⟨gz,rfl,-,-⟩:=zad hownZ7 (by omega)
     obtain⟨adz,x2,haz,-,-,hx2,cx⟩:=(Reads.of_own hownZ7).str hlt
     obtain rfl:=Option.some.inj haz
     rw [zP,Nat.zero_add] at cx
     obtain rfl:x2=x:=Option.some.inj (hx2.out.symm.trans hxz)
     have cS:∀ W,Ext w7 W→W.cell? ⟨gz,i,none⟩=some (.string x2):=fun W hW=>hW.cell_some cx
     have cG:∀ W,Ext w7 W→∀ q,W.cell? ⟨G,q,none⟩=#[Value.int .i64 (L:Nat),v7,vA][q]?:=fun W hW=>(q3.blk.ext hW).cell
     have h0k':(0:Int)<(x2.size:Int):=by omega
     have hb0:=zbu x2 0 h0x
     have hww:=Ext.refl w7
     clear cx hx2 hownZ7 hxz
     go_wp2_with fail
     refine uR (fun X=>Ext w7 X) [9,11] (zG.of [0,1,2,3,4,5,6,7,8,9,10,11]) ?_
     refine uQ ?_
     refine zb fun K hK=>?_;go_simp
     have hxd:=hww.drew
     refine hK.out _ _ (hxd.alloc _) ?_
     refine pT ?_
     refine zg fun K hK=>?_
     have q3d:=q3.ext_ hxd
     have zgD:=q3d.acc
     rw [hla.out] at zgD
     refine zaw w2 w7.drew _ _ _ rfl 4 _ 1 1 Tryz.underlying24 zaL rfl (by decide) vA i (zax ((rows.take i).map (zw s p L))) _ _ rfl rfl q3d.ext.size zgD rfl (by simp [Value.oneCell']) (by unfold maxLen;omega) (by omega) ?_
     intro g8 cap8 w8 hown8 hg8 hat8 hlt8
     refine hK.out _ _ ?_
     refine pT ?_
     refine uQ ?_
     obtain⟨p1,p2,p3⟩:=q3d.pushAcc (x:=bb) (W':=w8) (by rw [hla.out];exact hown8) hg8 hat8
     rw [hla.out,← hac7.out] at p3
     have p1':=p1.out
     have hf9:Frm (fun k=>k=G) w5 (w8.setCell ⟨G,2,none⟩ (.slice (some ⟨g8,0,none⟩) (i+1) cap8)):=((hf7.trans hxd.toFrm).grown hg8 (fun k hk=>hvA.out k hk)).trans (Frm.setCell w8 G 2 _)
     have hvA9:=za (show ∀ b,(Value.slice (some ⟨g8,0,none⟩) (i+1) cap8).ownBlock=some b→w5.heap.size≤b from fun b hb=>by
      have hbb:g8=b:=by simpa [Value.ownBlock] using hb
      subst hbb
      rcases hat8 with h1|h1
      ·exact hvA.out _ h1
      ·have:=hf7.size;have:=hxd.size;omega)
     refine zg fun K hK=>?_
     go_simp
     refine hK.out _ _ ?_
     refine zh ?_
     clear hown8 hg8 hat8 zgD q3d p1 q3 hf7
     generalize w8.setCell ⟨G,2,none⟩ (.slice (some ⟨g8,0,none⟩) (i+1) cap8)=w10 at *
     go_wp2_with fail
     go_roundw
     case rel=>exact⟨i+1,v7,_,by go_num,by omega,p3,hvb7,hvA9,hf9⟩
     case measure=>simp [intOf];omega
  ·have hge:(nr:Int)≤(i:Int):=by omega
   have hall:=za (show rows.take i=rows from List.take_of_length_le (by have:=He.out;omega))
   rw [hall.out] at hgra
   obtain⟨A1,c1,rfl⟩:∃ A1 c1,v=.slice A1 nr c1:=by
    obtain⟨rws,hnx,-⟩:=hgra.own
    rw [List.length_map,He.out] at hnx
    exact ze hnx
   obtain⟨A2,c2,rfl⟩:∃ A2 c2,vA=.slice A2 nr c2:=by
    have hac:=hgra.acc
    rw [List.length_map,He.out] at hac
    exact ze hac
   have b3r:=b3.ext (hx02.trans hx2r)
   have kz:=b3r.cell
   have fz:=b3r.frozen
   have kG:=hgra.blk.cell
   have hf:=zY wr (w.heap.size+1+1) (.int .i64 (L:Nat)) (.slice A1 nr c1) (.slice A2 nr c2)
   have cf:=(zai b3r rfl (.int .i64 (L:Nat)) (.slice A1 nr c1) (.slice A2 nr c2)).cell
   have zgC:zO (((wr.setCell ⟨w.heap.size+1+1,0,none⟩ (.int .i64 (L:Nat))).setCell ⟨w.heap.size+1+1,1,none⟩ (.slice A1 nr c1)).setCell ⟨w.heap.size+1+1,2,none⟩ (.slice A2 nr c2)) w.heap.size A1 nr c1 A2 nr c2 aut:=by
    rw [Haut.out]
    have h1:=hgra.own
    have h2:=hgra.acc
    rw [show ((rows.map (zw s p L)).length)=nr by rw [List.length_map];exact He.out] at h2
    have h3:zO wr w2.heap.size A1 nr c1 A2 nr c2 ⟨(L:Int),rows.map arow,rows.map (zw s p L)⟩:=⟨h1,by rw [List.length_map];exact He.out.symm,h2,by rw [List.length_map];exact He.out.symm⟩
    exact (h3.farT b3r hf (by decide)).less (by have:=hx0.size;have:=hx02.size;omega)
   have hret:=za (show RetAutB w aut (.returned (.tuple #[.agg #[.int .i64 (L:Nat),.slice A1 nr c1,.slice A2 nr c2],.bool true])) (((wr.setCell ⟨w.heap.size+1+1,0,none⟩ (.int .i64 (L:Nat))).setCell ⟨w.heap.size+1+1,1,none⟩ (.slice A1 nr c1)).setCell ⟨w.heap.size+1+1,2,none⟩ (.slice A2 nr c2)) from
    ⟨A1,nr,c1,A2,nr,c2,by rw [Haut.out],zgC,(hx0.trans (hx02.trans hx2r)).frm hf (fun k hk e=>by omega)⟩)
   clear zgC hf
   go_wp2_with fail
   exact bodyPost_ret (v:=.tuple #[.agg #[.int .i64 (L:Nat),.slice A1 nr c1,.slice A2 nr c2],.bool true]) (by simp [results,Tryz.results77,go_sem,cf]) rfl hret.out
end
theorem zcJ {L:Nat} {f:ByteArray→Bool} {rows cols:List ByteArray}(h:zct L f rows cols)(ho:zbd L f rows cols=none)(hL:L<64):zk (zfF L f rows cols)=true:=by
 unfold zk zfF
 simp only [Bool.and_eq_true,decide_eq_true_eq,List.length_map,List.all_eq_true]
 refine⟨by omega,⟨h.r1,h.r12⟩,trivial,fun row hrow=>?_⟩
 obtain⟨r,hr,rfl⟩:=List.mem_map.1 hrow
 unfold rowB autRow
 simp only [Bool.and_eq_true,decide_eq_true_eq,List.length_map,List.all_eq_true]
 refine⟨by rw [Int.toNat_natCast],fun q hq=>?_⟩
 obtain⟨l,hl,rfl⟩:=List.mem_map.1 hq
 have:=idxS_lt (open_none ho hr hl)
 rw [zbf,List.length_map] at this
 exact⟨by omega,by exact_mod_cast this⟩
section
variable {w W:World} {lo hi m d m' d':Nat} {B B':Option Addr} {p:Aut} {t:ByteArray}
theorem zfb (h:zI w lo hi B m B' m' p)(hv:zk p=true)(ht:inB t p.al.toNat=true) :
  Calls Tryz.prog 135 #[.agg #[.int .i64 p.al,.slice B m d,.slice B' m' d'],.string t] w fun e w'=>e=.returned (.int .i64 (runA p 0 (wl t):Nat))∧Ext w w':=by
 obtain⟨al0,al1⟩:=(zx hv).1
 obtain⟨al,hal⟩:∃ al:Nat,Hid (p.al=al):=⟨p.al.toNat,by unfold Hid;omega⟩
 have hal6:al≤63:=by have:=hal.out;omega
 have hto:=za (show p.al.toNat=al by have:=hal.out;omega)
 have hw:=zbc ht
 have hsz:=zaN hw
 have HV:=za (fun W (hW:Ext w W)=>zH _ _ _ _ d _ _ d' _ _ (h.ext hW))
 rw [hv] at HV
 have HR:=za (fun W (hW:Ext w W)=>spec_l3Run (d:=d) (d':=d') (h.ext hW) hv hw)
 rw [hto.out] at ht
 have Hin:=za ht
 rw [hal.out] at HV HR ⊢
 have hw1:Ext w (w.alloc (.cells #[.int .i64 al,.slice B m d,.slice B' m' d'] 26)):=(Ext.refl _).alloc _
 have b1:=Blk.new w 26 #[.int .i64 al,.slice B m d,.slice B' m' d']
 clear h hv ht hw al0 al1
 go_enter Tryz.func135,Tryz.ntmps135
 go_upto_region 1 with fail
 generalize w.alloc (.cells #[.int .i64 al,.slice B m d,.slice B' m' d'] 26)=w1 at *
 have CB:=b1.cells
 have hww:=Ext.refl w1
 go_wp2_with (first
  |(go_at_call 19;refine (HV.out _ hw1).mono ?_;rintro e w2 ⟨rfl,hx2⟩)
  |(go_at_call 87;refine (zS (by omega) hal6).mono ?_;rw [Hin.out];rintro e w3 ⟨rfl,rfl⟩)
  |(go_at_call 138;refine (HR.out _ (hw1.trans hx2)).mono ?_;rintro e w4 ⟨rfl,hx4⟩))
 go_ret
 exact⟨rfl,hw1.trans (hx2.trans hx4)⟩
theorem zew (h:zI w lo hi B m B' m' p)(hv:zk p=true)(ht:inB t p.al.toNat=true) :
  Calls Tryz.prog 124 #[.agg #[.int .i64 p.al,.slice B m d,.slice B' m' d'],.string t] w fun e w'=>e=.returned (.bool (zdT p (runA p 0 (wl t))))∧Ext w w':=by
 have HA:=za (fun W (hW:Ext w W)=>zfb (d:=d) (d':=d') (h.ext hW) hv ht)
 have HB:=za (fun W (hW:Ext w W) q hq=>accB_cell (q:=q) (h.ext hW) hq)
 have hqn:runA p 0 (wl t)<p.next.length:=runA_lt hv (wl_lt (zbc ht)) (by have:=(zx hv).2.1;omega)
 have hm':m'=p.next.length:=by rw [h.n2,(zx hv).2.2.1]
 rw [← hm'] at hqn
 generalize runA p 0 (wl t)=q at *
 have hq':(q:Int)<(m':Int):=by omega
 have hw1:Ext w (w.alloc (.cells #[.int .i64 p.al,.slice B m d,.slice B' m' d'] 26)):=(Ext.refl _).alloc _
 have b1:=Blk.new w 26 #[.int .i64 p.al,.slice B m d,.slice B' m' d']
 clear h hv ht hm'
 go_enter Tryz.func124,Tryz.ntmps124
 go_upto_region 1 with fail
 generalize w.alloc (.cells #[.int .i64 p.al,.slice B m d,.slice B' m' d'] 26)=w1 at *
 have CB:=b1.cells
 have hww:=Ext.refl w1
 go_upto_region 2 with (first
  |(go_at_call 135;refine (HA.out _ hw1).mono ?_;rintro e w2 ⟨rfl,hx2⟩))
 obtain⟨ad,rfl,cA⟩:=HB.out w2 (hw1.trans hx2) q hqn
 have hq0:(0:Int)≤(q:Int):=by omega
 go_wp2_with fail
 go_ret
 exact⟨zl (by simp),hw1.trans hx2⟩
end
end Go.Proofs.YtfcjhpodichpjaaGreat
