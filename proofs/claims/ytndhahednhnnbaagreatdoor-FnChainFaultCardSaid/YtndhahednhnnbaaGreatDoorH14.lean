/- A list of systems that were drawn, in a row of its own. | spec.l6Change at any system of few states, walked (XDraw7's walk, without a state at the least). | spec.l14Texts, walked: lists of texts. | spec.l14Draw, by its shape (NOT DONE: the branch over texts is lacking). | spec.l13Draw and spec.l13Wrong, by their shape. | spec.l3Texts and spec.l3Draw, by their shape; printed by gen_add2.py. | spec.l14Any, by its shape. | spec.DrawChainLetters, by its shape. | spec.l9Spoil and spec.l12Draw, by their shape. | The reference's VerifyChain at all arguments; spec.DrawChainFault, by its shape; -/
import Derived.Test.YtndhahednhnnbaaGreatDoorH13
import Derived.Test.YtndhahednhnnbaaGreatDoorH01
import Derived.Test.YtndhahednhnnbaaGreatDoorH04
import Derived.Test.YtndhahednhnnbaaGreatDoorH02
import Derived.Test.YtndhahednhnnbaaGreatDoorH07
import Derived.Test.YtndhahednhnnbaaGreatDoorH12
import Derived.Test.YtndhahednhnnbaaGreatDoorH08
import Derived.Test.YtndhahednhnnbaaGreatDoorH03
import Derived.Deep.DeepCutAuto
namespace Go.Proofs.YtndhahednhnnbaaGreatDoor
open Go Go.RowKit
set_option maxHeartbeats 2000000
structure Ent where
 s:Sys
 A:Option Addr
 n:Nat
 c:Nat
def Ent.cs (e:Ent):List Value:=[.int .i64 e.s.al,.int .i64 e.s.st,.slice e.A e.n e.c]
def entC (l:List Ent):List Value:=l.flatMap Ent.cs
theorem entC_snoc (l:List Ent) (e:Ent):entC (l++[e])=entC l++e.cs:=by simp [entC]
theorem entC_length (l:List Ent):(entC l).length=l.length*3:=by
 induction l with
 |nil=>rfl
 |cons e r ih =>
  show (e.cs++entC r).length=_
  rw [List.length_append,ih,List.length_cons]
  show 3+_=_
  omega
theorem zgE {l:List Ent} {k:Nat} {e:Ent}(h:l[k]?=some e):(entC l)[k*3]?=some (.int .i64 e.s.al)∧(entC l)[k*3+1]?=some (.int .i64 e.s.st)∧(entC l)[k*3+2]?=some (.slice e.A e.n e.c):=by
 induction l generalizing k with
 |nil=>simp at h
 |cons a r ih =>
  have e0:entC (a :: r)=a.cs++entC r:=rfl
  rw [e0]
  cases k with
  |zero =>
   simp at h
   subst h
   exact⟨rfl,rfl,rfl⟩
  |succ k =>
   simp only [List.getElem?_cons_succ] at h
   obtain⟨h1,h2,h3⟩:=ih h
   have hl:a.cs.length=3:=rfl
   refine⟨?_,?_,?_⟩
   ·rw [List.getElem?_append_right (by omega),hl,show (k+1)*3 - 3=k*3 by omega];exact h1
   ·rw [List.getElem?_append_right (by omega),hl,show (k+1)*3+1 - 3=k*3+1 by omega];exact h2
   ·rw [List.getElem?_append_right (by omega),hl,show (k+1)*3+2 - 3=k*3+2 by omega];exact h3
def Ent.ok (e:Ent) (W:World) (R:Nat):Prop:=zbG W R e.A e.n e.s∧e.n≤50000∧e.n≤e.c
structure Sld (w0 W:World) (R M:Nat) (v:Value) (l:List Ent):Prop where
 own:W.ownsRow w0.heap.size 39 3 v l.length (entC l)
 ent:∀ e∈l,e.ok W R
 rd:Rd W R M
 dr:Dr R w0 W
 hR:R<w0.heap.size
theorem own_sys {w:World} {base size n:Nat} {v:Value} {xs:List Value}(h:w.ownsRow base 39 size v n xs) {k:Nat}(hk:v.ownBlock=some k):∀ cs,w.heap[k]?≠some (.cells cs 126 (0,0)):=by
 rcases h.2 with ⟨rfl,_⟩|⟨g,cap,cur,rfl,_,hh,_⟩
 ·simp [Value.ownBlock] at hk
 ·have:g=k:=by simpa [Value.ownBlock] using hk
  subst this
  intro cs e
  rw [hh] at e
  injection e with e
  injection e with _ e2
  exact absurd e2 (by decide)
section
variable {w0 W W':World} {R M N:Nat} {v:Value} {l:List Ent}
theorem Ent.ok.dr {e:Ent}(h:e.ok W R)(hd:Dr R W W'):e.ok W' R:=⟨h.1.dr hd,h.2⟩
theorem Sld.drawn (h:Sld w0 W R M v l)(hd:Dr R W W')(hr:Rd W' R N):Sld w0 W' R N v l:=
 ⟨zay h.own hd (fun b h1 e=>by have:=h.hR;omega),fun e he=>(h.ent e he).dr hd,hr,h.dr.trans hd,h.hR⟩
theorem Sld.ext (h:Sld w0 W R M v l)(hx:Ext W W'):Sld w0 W' R M v l:=h.drawn hx.dr (h.rd.ext hx)
theorem Sld.more (h:Sld w0 W R M v l)(hM:M≤N):Sld w0 W R N v l:={ h with rd:=h.rd.more hM }
theorem Sld.less {w1:World}(h:Sld w0 W R M v l)(hd:Dr R w1 w0)(hR:R<w1.heap.size):Sld w1 W R M v l:=
 ⟨zn h.own hd.size,h.ent,h.rd,hd.trans h.dr,hR⟩
theorem Sld.grown (h:Sld w0 W R M v l)(hg:W.grownBy W' v.ownBlock):(∀ e:Ent,e.ok W R→e.ok W' R)∧Dr R w0 W'∧Rd W' R M:=by
 have hRG:=h.hR
 refine⟨fun e he=>⟨he.1.frm (Frm.of_grown hg) (fun k hk _=>own_sys h.own hk),he.2⟩,h.dr.grown hg (fun k hk=>(h.own.lt k hk).1),h.rd.frm (Frm.of_grown hg) (fun k hk hS=>by have:=(h.own.lt k hS).1;omega)⟩
theorem Sld.push {e:Ent} {g cap:Nat}(h:Sld w0 W R M v l)(he:e.ok W R)
  (hown:W'.ownsRow w0.heap.size 39 3 (.slice (some ⟨g,0,none⟩) (l.length+1) cap) (l.length+1) (entC l++e.cs)) (hg:W.grownBy W' v.ownBlock) :
  Sld w0 W' R M (.slice (some ⟨g,0,none⟩) (l.length+1) cap) (l++[e]):=by
 obtain⟨h1,h2,h3⟩:=h.grown hg
 refine⟨by rw [entC_snoc,List.length_append,List.length_singleton];exact hown,fun x hx=>?_,h3,h2,h.hR⟩
 rcases List.mem_append.1 hx with hx|hx
 ·exact h1 x (h.ent x hx)
 ·rw [List.mem_singleton] at hx
  subst hx
  exact h1 _ he
theorem Sld.sl {A:Option Addr} {n c:Nat}(h:Sld w0 W R M (.slice A n c) l)(hn:n=l.length):SLAt W (R+1) W.heap.size A n (l.map Ent.s):=by
 have ho:=h.own
 rw [← hn] at ho
 have hr:=Reads.of_own ho
 refine⟨by simpa using hn,entC l,hr.more (by have:=h.hR;omega) (Nat.le_refl _),fun k s hs=>?_⟩
 rw [List.getElem?_map,Option.map_eq_some_iff] at hs
 obtain⟨e,he,rfl⟩:=hs
 obtain⟨h1,h2,h3⟩:=zgE he
 exact⟨e.A,e.n,e.c,h1,h2,h3,(h.ent e (List.mem_of_getElem? he)).1.at_⟩
end
theorem Sld.nil {w0 W:World} {R M:Nat}(hr:Rd W R M)(hd:Dr R w0 W)(hR:R<w0.heap.size):Sld w0 (W.alloc (.cells #[] 39)) R M (.slice (some ⟨W.heap.size,0,none⟩) 0 0) []:=
 ⟨zn (World.ownsRow_lit W #[] 0 (Nat.le_refl _) (by unfold maxLen;omega) rfl) hd.size,fun _ h=>by simp at h,hr.ext ((Ext.refl _).alloc _),hd.alloc _,hR⟩
theorem Sld.three {w0 W:World} {R M:Nat} {a b c:Ent}(hr:Rd W R M)(hd:Dr R w0 W)(hR:R<w0.heap.size)(ha:a.ok W R)(hb:b.ok W R)(hc:c.ok W R) :
  Sld w0 (W.alloc (.cells #[.int .i64 a.s.al,.int .i64 a.s.st,.slice a.A a.n a.c,.int .i64 b.s.al,.int .i64 b.s.st,.slice b.A b.n b.c,.int .i64 c.s.al,.int .i64 c.s.st,.slice c.A c.n c.c] 39)) R M (.slice (some ⟨W.heap.size,0,none⟩) 3 3) [a,b,c]:=by
 have hx:=(Ext.refl W).alloc (.cells #[.int .i64 a.s.al,.int .i64 a.s.st,.slice a.A a.n a.c,.int .i64 b.s.al,.int .i64 b.s.st,.slice b.A b.n b.c,.int .i64 c.s.al,.int .i64 c.s.st,.slice c.A c.n c.c] 39)
 refine⟨zn (World.ownsRow_lit W _ 3 (Nat.le_refl _) (by unfold maxLen;omega) rfl) hd.size,fun e he=>?_,hr.ext hx,hd.alloc _,hR⟩
 simp only [List.mem_cons,List.not_mem_nil,or_false] at he
 rcases he with rfl|rfl|rfl
 ·exact ha.dr hx.dr
 ·exact hb.dr hx.dr
 ·exact hc.dr hx.dr
set_option maxHeartbeats 4000000
theorem pickA {p x:Nat}(h:1≤(p:Int)→(x:Int)<p)(h0:(p:Int)<1→x=0):x<p+1:=by
 rcases Nat.lt_or_ge 0 p with h1|h1
 ·have:=h (by omega);omega
 ·have:=h0 (by omega);omega
theorem e_filledA {R M M' E x y p:Nat} {w2 w4:World}(hb:Blk w4 E 126 #[.int .i64 0,.int .i64 0,.int .i64 0])(hr:Rd w4 R M')(hd:Dr R w2 w4)(hE:w2.heap.size≤E)(hR:R<w2.heap.size)(hx:x<p+1)(hy:y<p+1)(hM:M'≤M) :
  ∃ E' x' y':Nat,Value.pointer (some ⟨E,0,none⟩)=.pointer (some ⟨E',0,none⟩)∧x'<p+1∧y'<p+1∧w2.heap.size≤E'∧Blk (((w4.setCell ⟨E,0,none⟩ (.int .i64 x)).setCell ⟨E,1,none⟩ (.int .i64 0)).setCell ⟨E,2,none⟩ (.int .i64 y)) E' 126 #[.int .i64 x',.int .i64 0,.int .i64 y']∧Rd (((w4.setCell ⟨E,0,none⟩ (.int .i64 x)).setCell ⟨E,1,none⟩ (.int .i64 0)).setCell ⟨E,2,none⟩ (.int .i64 y)) R M∧Dr R w2 (((w4.setCell ⟨E,0,none⟩ (.int .i64 x)).setCell ⟨E,1,none⟩ (.int .i64 0)).setCell ⟨E,2,none⟩ (.int .i64 y)):=by
 have hf:=zbQ w4 E (.int .i64 x) (.int .i64 0) (.int .i64 y)
 refine⟨E,x,y,rfl,by omega,by omega,hE,by simpa using ((hb.set_ 0 (.int .i64 x)).set_ 1 (.int .i64 0)).set_ 2 (.int .i64 y),(hr.frm hf (fun k h1 h2=>by omega)).more hM,?_⟩
 exact ((hd.setNew (p:=⟨E,0,none⟩) hE _).setNew (p:=⟨E,1,none⟩) hE _).setNew (p:=⟨E,2,none⟩) hE _
set_option maxRecDepth 100000 in
theorem zgj {R M n c L a p:Nat} {A:Option Addr} {es:List Edg} {w:World}(h:Rd w R M)(hM:M≤900000000)(hs:zbG w R A n ⟨a,p,es⟩)(ha:a<64)(hp:p≤16)(hfew:Few (p+1) es)(hn:n≤L)(hL:L≤100000) :
  Calls Tryz.prog 108 #[.pointer (some ⟨R,0,none⟩),.agg #[.int .i64 a,.int .i64 p,.slice A n c]] w (RetA R (M+10) (L+1) w):=by
 have hRl:=h.lt
 have hr0:=hs.at_.2
 have hen:=hide hs.1
 have Hfew:=hide hfew
 have hsm:Sm a:=by unfold Sm;omega
 have hx1:Ext w (((w.alloc (.cells #[.int .i64 a,.int .i64 p,.slice A n c] 39)).alloc (.cells #[.int .i64 0,.int .i64 0,.slice none 0 0] 39)).alloc (.cells #[.int .i64 a,.int .i64 p,.slice none 0 0] 39)):=(((Ext.refl _).alloc _).alloc _).alloc _
 obtain⟨bS,bZ,bG⟩:=zZ (Ext.refl (((w.alloc (.cells #[.int .i64 a,.int .i64 p,.slice A n c] 39)).alloc (.cells #[.int .i64 0,.int .i64 0,.slice none 0 0] 39)).alloc (.cells #[.int .i64 a,.int .i64 p,.slice none 0 0] 39)))
 have HbS:=hide bS
 have HbZ:=hide bZ
 have HbG:=hide bG
 have Hx1:=hide hx1
 clear bS bZ bG hx1 hs hfew
 go_enter Tryz.func108,Tryz.ntmps108
 go_wp2_with fail
 generalize ((w.alloc (.cells #[.int .i64 a,.int .i64 p,.slice A n c] 39)).alloc (.cells #[.int .i64 0,.int .i64 0,.slice none 0 0] 39)).alloc (.cells #[.int .i64 a,.int .i64 p,.slice none 0 0] 39)=w1 at *
 refine (zu (h.ext Hx1.out) (by omega)).mono ?_
 rintro e w2 ⟨gone,rfl,-,-,hr2,hd2⟩
 have hz1:=HbG.out.lt
 have bS2:=HbS.out.dr hd2 (by omega)
 have bZ2:=HbZ.out.dr hd2 (by omega)
 have bG2:=HbG.out.dr hd2 (by omega)
 have hw2:=Hx1.out.dr.trans hd2
 have cS:∀ W,Dr R w2 W→∀ q,W.cell? ⟨w.heap.size,q,none⟩=#[Value.int .i64 a,.int .i64 p,.slice A n c][q]?:=fun W hW=>(bS2.dr hW (by omega)).cell
 go_upto_region 3 with fail
 go_cut [7] (fun s7 wx=>∃ E x y:Nat,s7=.pointer (some ⟨E,0,none⟩)∧x<p+1∧y<p+1∧w2.heap.size≤E∧Blk wx E 126 #[.int .i64 x,.int .i64 0,.int .i64 y]∧Rd wx R (M+3)∧Dr R w2 wx)
 case first =>
  refine tR (fun X=>Dr R w2 X) [10] (Ord.app [0,1,2,4,5,6] (Ord.two 3 (Ord.two 7 (Ord.of [8,9,10]) 9 (Ord.of [7,8,10])) 9 (Ord.of [3,7,8,10]))) ?_
  refine tQ ?_
  refine zet rfl rfl rfl rfl (fun K hK=>?_) (fun K hK=>?_)
  ·go_simp
   refine (zu (n:=p) (hr2.ext ((Ext.refl _).drew)) (by omega)).mono ?_
   rintro e w3 ⟨x,rfl,hx,hx0,hr3,hd3⟩
   have hd23:Dr R w2 w3:=((Dr.refl R w2).drew).trans hd3
   refine hK.out _ _ hd23 ?_
   refine pT ?_
   refine zet rfl rfl rfl rfl (fun K hK=>?_) (fun K hK=>?_)
   ·go_simp
    refine (zu (n:=p) hr3 (by omega)).mono ?_
    rintro e w4 ⟨y,rfl,hy,hy0,hr4,hd4⟩
    have hd24:=hd23.trans hd4
    refine hK.out _ _ hd24 ?_
    refine pT ?_
    refine tQ ?_
    (refine zA rfl rfl rfl (fun K hK=>?_);go_simp)
    refine hK.out _ _ (hd24.alloc _) ?_
    refine pT ?_
    refine tQ ?_
    (refine zN rfl rfl rfl rfl (fun K hK=>?_))
    go_simp
    refine hK.out _ _ ?_
    refine zag ?_
    go_wp2_with fail
    go_meet
    exact⟨w4.heap.size,x,y,rfl,by omega,by omega,hd24.size,Blk.new _ _ _,hr4.ext ((Ext.refl _).alloc _),hd24.alloc _⟩
   ·go_simp
    have hx3:=(Ext.refl w3).alloc (.cells #[.int .i64 0,.int .i64 0,.int .i64 0] 126)
    have hb3:=Blk.new w3 126 #[.int .i64 0,.int .i64 0,.int .i64 0]
    have hd23':=hd23.ext hx3
    have hr3':=hr3.ext hx3
    have hRw:=hr3.lt
    refine hK.out _ _ hd23' ?_
    generalize w3.alloc (.cells #[.int .i64 0,.int .i64 0,.int .i64 0] 126)=w3' at *
    refine pT ?_
    (refine zA rfl rfl rfl (fun K hK=>?_);go_simp)
    refine (zu (n:=p) hr3' (by omega)).mono ?_
    rintro e w4 ⟨y,rfl,hy,hy0,hr4,hd4⟩
    have hd24:=hd23'.trans hd4
    have hb4:=hb3.dr hd4 (by omega)
    refine hK.out _ _ hd24 ?_
    refine pT ?_
    refine tQ ?_
    have cE:=hb4.cell
    have fE:=hb4.frozen
    (refine zN rfl rfl rfl rfl (fun K hK=>?_))
    go_simp
    refine hK.out _ _ ?_
    refine zag ?_
    go_wp2_with fail
    go_meet
    exact e_filledA hb4 hr4 hd24 hd23.size hr2.lt (pickA hx hx0) (pickA hy hy0) (by omega)
  ·go_simp
   have hx2:=((Ext.refl w2).alloc (.cells #[.int .i64 0,.int .i64 0,.int .i64 0] 126)).drew
   have hb2:Blk (w2.alloc (.cells #[.int .i64 0,.int .i64 0,.int .i64 0] 126)).drew w2.heap.size 126 #[.int .i64 0,.int .i64 0,.int .i64 0]:=Blk.new w2 _ _
   have hr2':=hr2.ext hx2
   have hRw:=hr2.lt
   have hd22:Dr R w2 (w2.alloc (.cells #[.int .i64 0,.int .i64 0,.int .i64 0] 126)).drew:=hx2.dr
   refine hK.out _ _ hd22 ?_
   generalize (w2.alloc (.cells #[.int .i64 0,.int .i64 0,.int .i64 0] 126)).drew=w2' at *
   refine pT ?_
   (refine zA rfl rfl rfl (fun K hK=>?_);go_simp)
   refine (zu (n:=p) hr2' (by omega)).mono ?_
   rintro e w3 ⟨x,rfl,hx,hx0,hr3,hd3⟩
   have hd23:=hd22.trans hd3
   have hb3:=hb2.dr hd3 (by omega)
   refine hK.out _ _ hd23 ?_
   refine pT ?_
   (refine zA rfl rfl rfl (fun K hK=>?_);go_simp)
   refine (zu (n:=p) hr3 (by omega)).mono ?_
   rintro e w4 ⟨y,rfl,hy,hy0,hr4,hd4⟩
   have hd24:=hd23.trans hd4
   have hb4:=hb3.dr hd4 (by omega)
   refine hK.out _ _ hd24 ?_
   refine pT ?_
   refine tQ ?_
   have cE:=hb4.cell
   have fE:=hb4.frozen
   (refine zN rfl rfl rfl rfl (fun K hK=>?_))
   go_simp
   refine hK.out _ _ ?_
   refine zag ?_
   go_wp2_with fail
   go_meet
   exact e_filledA hb4 hr4 hd24 (Nat.le_refl _) hRw (pickA hx hx0) (pickA hy hy0) (by omega)
 case rest =>
  obtain⟨E,x,y,rfl,hx,hy,hE,hbE,hr3,hd3⟩:=hcut
  have hw3:=hw2.trans hd3
  have bS3:=bS2.dr hd3 (by omega)
  have bZ3:=bZ2.dr hd3 (by omega)
  have bG3:=bG2.dr hd3 (by omega)
  have hz2:=bG2.lt
  clear cS
  have cS:=bS3.cell
  go_wp2_with fail
  refine (zS a hsm _).mono ?_
  rintro e w4 ⟨B,d,rfl,hown4,hx4⟩
  have hw4:=hw3.ext hx4
  have bS4:=bS3.ext hx4
  have bZ4:=bZ3.ext hx4
  have bG4:=bG3.ext hx4
  have bE4:=hbE.ext hx4
  have hr4:=hr3.ext hx4
  have hE3:=hbE.lt
  have hl6:=zy a 6
  have hlm:=hide (fun k (hk:k∈letters a 6)=>(zcJ.1 hk).1)
  have hrd4:=(Reads.of_own hown4)
  have hz23:=hd3.size
  have hz34:=hx4.size
  have hRz:=hr2.lt
  clear cS hown4 hx4 bS3 bZ3 bG3 hbE hr3 hw3 HbS HbZ HbG Hx1 bS2 bZ2 bG2 hw2 hr2
  generalize letters a 6=ls at *
  go_upto_region 5 with fail
  go_cut [9] (fun s9 wx=>∃ b:Bool,s9=.bool b∧(b=true→0<ls.length)∧Rd wx R (M+4)∧Dr R w4 wx)
  case first =>
   by_cases hl:0<ls.length
   ·go_wp2_with fail
    refine (zu hr4 (by omega)).mono ?_
    rintro e w5 ⟨z,rfl,-,-,hr5,hd5⟩
    go_wp2_with fail
    go_meet
    exact⟨_,rfl,fun _=>hl,hr5,hd5⟩
   ·go_wp2_with fail
    go_meet
    exact⟨false,rfl,fun h=>by (first|cases h|omega),hr4.more (by omega),Dr.refl _ _⟩
  case rest =>
   obtain⟨b,rfl,hbl,hr5,hd5⟩:=hcut
   go_upto_if 42 with fail
   go_cut [] (fun wx=>∃ l:Nat,l<6∧Blk wx E 126 #[.int .i64 x,.int .i64 l,.int .i64 y]∧Blk wx w.heap.size 39 #[.int .i64 a,.int .i64 p,.slice A n c]∧Blk wx (w.heap.size+1) 39 #[.int .i64 0,.int .i64 0,.slice none 0 0]∧Blk wx (w.heap.size+1+1) 39 #[.int .i64 a,.int .i64 p,.slice none 0 0]∧Rd wx R (M+5)∧Dr R w wx)
   case first =>
    have bS5:=bS4.dr hd5 (by omega)
    have bZ5:=bZ4.dr hd5 (by omega)
    have bG5:=bG4.dr hd5 (by omega)
    have bE5:=bE4.dr hd5 (by omega)
    have hw5:=hw4.trans hd5
    clear bS4 bZ4 bG4 bE4 hw4 hr4
    cases b
    ·go_wp2_with fail
     go_meet
     exact⟨0,by omega,bE5,bS5,bZ5,bG5,hr5.more (by omega),hw5⟩
    ·have hl0:=hbl rfl
     have hl1:(1:Int)≤(ls.length:Int):=by omega
     clear hbl
     go_wp2_with fail
     refine (zu hr5 (by omega)).mono ?_
     rintro e w6 ⟨z,rfl,hz,-,hr6,hd6⟩
     have hzl:=hz hl1
     have hzl':z<ls.length:=by omega
     obtain⟨ad,l,rfl,_,_,hl,hlc⟩:=((hrd4.dr hd5 (by omega)).dr hd6 (by omega)).nat hzl'
     have hl6':=hlm.out l (List.mem_of_getElem? hl.out)
     have bS6:=bS5.dr hd6 (by omega)
     have bZ6:=bZ5.dr hd6 (by omega)
     have bG6:=bG5.dr hd6 (by omega)
     have bE6:=bE5.dr hd6 (by omega)
     have hw6:=hw5.trans hd6
     have cE:=bE6.cell
     have fE:=bE6.frozen
     have hf:=Frm.setCell w6 E 1 (.int .i64 (l:Nat))
     clear hz bS5 bZ5 bG5 bE5 hw5
     go_wp2_with fail
     go_meet
     exact⟨l,hl6',by simpa using bE6.set_ 1 (.int .i64 (l:Nat)),bS6.frm hf (by omega),bZ6.frm hf (by omega),bG6.frm hf (by omega),(hr6.frm hf (fun k h1 h2=>by omega)),hw6.setNew (by dsimp only;omega) _⟩
   case rest =>
    obtain⟨l,hl,bE,bS,bZ,bG,hrB,hdB⟩:=hcut
    clear bS4 bZ4 bG4 bE4 hw4 hr4 hd5 hr5 hlm hrd4 hl6 hbl
    obtain⟨wB,hwB⟩:∃ wB,wB=wc:=⟨_,rfl⟩
    subst hwB
    have hacc:Acc w wB wB R (w.heap.size+1+1) (M+5) a p (.slice none 0 0) []:=⟨bG,World.ownsRow_nil _ _ _ _,hrB,hdB,Frm.refl _ _,hRl,hdB.size,by omega⟩
    have hEz:=bE.lt
    have hSz:=bG.lt
    clear bG
    go_wp2_with fail
    go_loopw [9,10] (fun v i wr=>∃ (b:Bool) (k:Nat),k≤n∧i=.int .i64 k∧v=.bool b∧∃ (u:Value) (fs:List Edg),Acc w wB wr R (w.heap.size+1+1) (M+5) a p u fs∧fs.length+b.toNat≤k+1∧Hid (Few (p+1) fs)) (fun _ i _=>n - (intOf i).toNat)
    case atStart=>exact⟨b,0,Nat.zero_le _,rfl,rfl,_,[],hacc,by cases b<;>decide,few_nil (p+1)⟩
    case round =>
     clear hacc
     obtain⟨b,k,hk,rfl,rfl,u,fs,hacc,hlen,hfw⟩:=hrel
     have bS1:=bS.frm hacc.fr (by omega)
     have bE1:=bE.frm hacc.fr (by omega)
     have cS:=bS1.cell
     have hxyl:(0≤(x:Int)∧(x:Int)<((p+1:Nat):Int))∧(0≤(l:Int)∧(l:Int)<6)∧(0≤(y:Int)∧(y:Int)<((p+1:Nat):Int)):=by omega
     by_cases hlt:k<n
     ·obtain⟨b0,o0,ed,rfl,hlo,hhi,he,c0,c1,c2⟩:=(hr0.dr hacc.dr (by omega)).edge hlt
      have hedf:=hide (Hfew.out ed (List.mem_of_getElem? he.out))
      go_upto_region 11 with fail
      clear cS
      go_cut [67] (fun s wx=>∃ q:Bool,s=.bool q∧(q=true→b=true)∧Ext wr wx)
      case first =>
       have cS:=bS1.cells
       have cE:=bE1.cells
       have C0:∀ W,Ext wr W→W.cell? ⟨b0,o0+k*3,none⟩=some (.int .i64 ed.fr):=fun W hW=>hW.cell_some c0
       have C1:∀ W,Ext wr W→W.cell? ⟨b0,o0+k*3+1,none⟩=some (.int .i64 ed.le):=fun W hW=>hW.cell_some c1
       have C2:∀ W,Ext wr W→W.cell? ⟨b0,o0+k*3+2,none⟩=some (.int .i64 ed.ta):=fun W hW=>hW.cell_some c2
       have hww:=Ext.refl wr
       cases b
       ·go_wp2_with fail
        go_quiet (fail)
        go_wp2_with fail
        go_meet
        exact⟨false,rfl,fun h=>h,(Ext.refl _).drewN _⟩
       ·go_wp2_with fail
        go_region_held3 (fun W=>Ext wr W) (first|assumption|(refine Ext.drew ?_;assumption)|(refine Ext.trans ?_ (by assumption);assumption)|(refine Ext.trans ?_ (by assumption);refine Ext.drew ?_;assumption)) ((go_at_call 173;refine (zcQ (a:=⟨x,l,y⟩) (b:=ed)).mono ?_;rintro e w5 ⟨rfl,hx5⟩))
        go_wp2_with fail
        go_meet
        exact⟨_,rfl,fun _=>by trivial,by assumption⟩
      case rest =>
       obtain⟨q,rfl,hq,hxc⟩:=hcut
       replace hacc:=hacc.ext hxc
       replace bE1:=bE1.ext hxc
       go_upto_if 67 with fail
       go_cut [9] (fun s9 wx=>∃ (b:Bool) (u:Value) (fs:List Edg),s9=.bool b∧Acc w wB wx R (w.heap.size+1+1) (M+5) a p u fs∧fs.length+b.toNat≤k+1∧Hid (Few (p+1) fs))
       case first =>
        cases q
        ·go_wp2_with fail
         go_meet
         exact⟨b,u,fs,rfl,hacc,hlen,hfw⟩
        ·obtain rfl:=hq rfl
         have cG:=hacc.blk.cell
         have cE:=bE1.cell
         simp only [Bool.toNat_true] at hlen
         clear hq
         go_wp2_with (at_builtin;refine zam wB _ rfl _ _ _ rfl 126 _ 3 24 Tryz.underlying37 zaQ rfl (by decide) u fs.length (zp fs) _ _ rfl rfl hacc.fr.size hacc.own rfl (by simp [Value.oneCell']) (by unfold maxLen;omega) (by omega) ?_;intro g cap w3 hown3 hg3 hat3 hlt3;obtain⟨h1,h2,h3⟩:=hacc.push (e:=⟨x,l,y⟩) hown3 hg3 hat3;have h1':=h1.out)
         go_meet
         exact⟨false,_,_,rfl,h3,by simp;omega,zfg hfw.out hxyl⟩
       case rest =>
        clear hacc hlen hfw bS1 bE1 c0 c1 c2 hxc hq
        obtain⟨b,u,fs,rfl,hacc,hlen,hfw⟩:=hcut
        obtain⟨wr,hwr⟩:∃ wr,wr=wc:=⟨_,rfl⟩
        subst hwr
        have bS1:=bS.frm hacc.fr (by omega)
        have bE1:=bE.frm hacc.fr (by omega)
        obtain⟨c0,c1,c2⟩:=(hr0.dr hacc.dr (by omega)).edge2 he.out
        go_upto_region 14 with fail
        go_cut [83] (fun s wx=>∃ q:Bool,s=.bool q∧Ext wr wx)
        case first =>
         have cS:=bS1.cells
         have cE:=bE1.cells
         have C0:∀ W,Ext wr W→W.cell? ⟨b0,o0+k*3,none⟩=some (.int .i64 ed.fr):=fun W hW=>hW.cell_some c0
         have C1:∀ W,Ext wr W→W.cell? ⟨b0,o0+k*3+1,none⟩=some (.int .i64 ed.le):=fun W hW=>hW.cell_some c1
         have C2:∀ W,Ext wr W→W.cell? ⟨b0,o0+k*3+2,none⟩=some (.int .i64 ed.ta):=fun W hW=>hW.cell_some c2
         have hww:=Ext.refl wr
         cases b
         ·go_wp2_with fail
          go_quiet (fail)
          go_wp2_with fail
          go_meet
          exact⟨false,rfl,(Ext.refl _).drewN _⟩
         ·go_wp2_with fail
          refine sR (fun X=>Ext wr X) [0,1,2,3,4,5,6,7,8,9] (fun hS=>?_)
          refine sQ ?_
          have HE:=eq_edge (x:Int) (l:Int) (y:Int) ed.fr ed.le ed.ta
          refine zC (v:=.bool (((x:Int)==ed.fr)&&(((l:Int)==ed.le)&&((y:Int)==ed.ta)))) rfl rfl rfl (fun X hX=>?_) (by assumption) ?_
          ·go_simp
          ·clear HE
           refine pT ?_
           generalize (((x:Int)==ed.fr)&&(((l:Int)==ed.le)&&((y:Int)==ed.ta)))=q
           refine sQ ?_
           refine zbK ?_
           go_wp2_with fail
           go_meet
           exact⟨_,rfl,(Ext.refl _).drew⟩
        case rest =>
         obtain⟨q,rfl,hxc⟩:=hcut
         replace hacc:=hacc.ext hxc
         replace bS1:=bS1.ext hxc
         replace c0:=hxc.cell_some c0
         replace c1:=hxc.cell_some c1
         replace c2:=hxc.cell_some c2
         clear bE1 hxc
         go_upto_if 83 with fail
         go_cut [9] (fun s9 wx=>∃ b':Bool,s9=.bool b'∧b'.toNat≤b.toNat∧wc=wx)
         case first =>
          cases q
          ·go_wp2_with fail
           go_meet
           exact⟨b,rfl,Nat.le_refl _,rfl⟩
          ·go_wp2_with fail
           go_meet
           exact⟨false,rfl,Nat.zero_le _,rfl⟩
         case rest =>
          obtain⟨b',rfl,hbb,hwc⟩:=hcut
          subst hwc
          by_cases hgo:k=gone
          ·have hne:((k:Int) != (gone:Int))=false:=by simp [hgo]
           have Hgo:=hide hgo
           clear hgo
           go_wp2_with fail
           go_roundw
           case rel=>exact⟨b',k+1,by omega,by go_num,rfl,u,fs,hacc,by omega,hfw⟩
           case measure=>simp [intOf];omega
          ·have hne:((k:Int) != (gone:Int))=true:=by simp;omega
           clear hgo
           obtain⟨wr,hwr⟩:∃ wr,wr=wc:=⟨_,rfl⟩
           subst hwr
           have cS:=bS1.cells
           have cG:∀ W,Ext wr W→∀ q,W.cell? ⟨w.heap.size+1+1,q,none⟩=#[Value.int .i64 a,.int .i64 p,u][q]?:=fun W hW=>(hacc.blk.ext hW).cell
           have C0:∀ W,Ext wr W→W.cell? ⟨b0,o0+k*3,none⟩=some (.int .i64 ed.fr):=fun W hW=>hW.cell_some c0
           have C1:∀ W,Ext wr W→W.cell? ⟨b0,o0+k*3+1,none⟩=some (.int .i64 ed.le):=fun W hW=>hW.cell_some c1
           have C2:∀ W,Ext wr W→W.cell? ⟨b0,o0+k*3+2,none⟩=some (.int .i64 ed.ta):=fun W hW=>hW.cell_some c2
           go_wp2_with fail
           refine tR (fun X=>Ext wr X) [8,10] (Ord.of [0,1,2,3,4,5,6,7,8,9,10]) ?_
           refine tQ ?_
           (refine zA rfl rfl rfl (fun K hK=>?_);go_simp)
           refine hK.out _ _ ((Ext.refl _).drew.alloc _) ?_
           refine pT ?_
           (refine zN rfl rfl rfl rfl (fun K hK=>?_))
           refine zaG wB wr.drew _ _ _ rfl 126 _ 3 24 Tryz.underlying37 zaQ rfl (by decide) u fs.length (zp fs) _ _ rfl rfl hacc.fr.size hacc.own rfl (by simp [Value.oneCell']) (by unfold maxLen;omega) (by omega) ?_
           intro g cap w3 hown3 hg3 hat3 hlt3
           refine hK.out _ _ ?_
           refine pT ?_
           refine tQ ?_
           obtain⟨h1,h2,h3⟩:=(hacc.ext ((Ext.refl _).drew)).push (e:=ed) (W':=w3) hown3 hg3 hat3
           have h1':=h1.out
           (refine zN rfl rfl rfl rfl (fun K hK=>?_))
           go_simp
           refine hK.out _ _ ?_
           refine zag ?_
           go_wp2_with fail
           go_roundw
           case rel=>exact⟨b',k+1,by omega,by go_num,rfl,_,_,h3,by simp;omega,zfg hfw.out hedf.out⟩
           case measure=>simp [intOf];omega
     ·obtain rfl:k=n:=by omega
      go_upto_if 97 with fail
      go_cut [] (fun wx=>∃ (u:Value) (fs:List Edg),Acc w wB wx R (w.heap.size+1+1) (M+5) a p u fs∧fs.length≤k+1∧Hid (Few (p+1) fs))
      case first =>
       cases b
       ·go_wp2_with fail
        go_meet
        exact⟨u,fs,hacc,by simpa using hlen,hfw⟩
       ·have cG:=hacc.blk.cell
        have cE:=bE1.cell
        simp only [Bool.toNat_true] at hlen
        go_wp2_with (at_builtin;refine zam wB _ rfl _ _ _ rfl 126 _ 3 24 Tryz.underlying37 zaQ rfl (by decide) u fs.length (zp fs) _ _ rfl rfl hacc.fr.size hacc.own rfl (by simp [Value.oneCell']) (by unfold maxLen;omega) (by omega) ?_;intro g cap w3 hown3 hg3 hat3 hlt3;obtain⟨h1,h2,h3⟩:=hacc.push (e:=⟨x,l,y⟩) hown3 hg3 hat3;have h1':=h1.out)
        go_meet
        exact⟨_,_,h3,by simp;omega,zfg hfw.out hxyl⟩
      case rest =>
       clear hacc hlen hfw cS bS1 bE1
       obtain⟨u,fs,hacc,hlen,hfw⟩:=hcut
       obtain⟨A',n',c',rfl⟩:=hacc.form
       obtain⟨rfl,_⟩:=hacc.reads
       have hcap:=zgJ hacc.own
       have cG:=hacc.blk.cell
       have bz2:=bZ.frm hacc.fr (by omega)
       have cz:=bz2.cell
       have hzz:=bZ.lt
       have fz:=bz2.frozen
       obtain⟨f1,f2,f3⟩:=hacc.fin (Z:=w.heap.size+1) (by omega) (by omega) (.int .i64 a) (.int .i64 p) (.slice A' fs.length c')
       have Hfin:=hide (show RetA R (M+10) (L+1) w (.returned (.agg #[.int .i64 a,.int .i64 p,.slice A' fs.length c'])) _ from ⟨⟨a,p,fs⟩,A',fs.length,c',rfl,f1,by omega,f2.more (by omega),f3⟩)
       clear f1 f2 f3
       go_wp2_with fail
       exact bodyPost_ret (v:=.agg #[.int .i64 a,.int .i64 p,.slice A' fs.length c']) (by simp [results,Tryz.results108,go_sem,cz]) rfl Hfin.out
theorem zgk {R M n c L:Nat} {A:Option Addr} {s:Sys} {w:World}(h:Rd w R M)(hM:M≤900000000)(hs:zbG w R A n s)(hf:Fair s)(hn:n≤L)(hL:L≤100000) :
  Calls Tryz.prog 108 #[.pointer (some ⟨R,0,none⟩),.agg #[.int .i64 s.al,.int .i64 s.st,.slice A n c]] w (RetA R (M+10) (L+1) w):=by
 obtain⟨al,st,es⟩:=s
 obtain⟨a,p,h1,h2,h3,h5,h6⟩:=hf
 simp only at h1 h3 h6
 subst h1;subst h3
 exact zgj h hM hs h2 h5 h6 hn hL
set_option maxHeartbeats 2000000
def TextsAt (W:World) (base g n:Nat):Prop:=
 ∀ k<n,∃ (b:Nat) (l:List ByteArray),W.cell? ⟨g,k,none⟩=some (.slice (some ⟨b,0,none⟩) 4 4)∧l.length=4∧(∀ x∈l,x.size≤40)∧W.ownsRow base 9 1 (.slice (some ⟨b,0,none⟩) 4 4) 4 (strs l)
def RetTLL (w:World) (e:Ending) (w':World):Prop:=∃ g,e=.returned (.slice (some ⟨g,0,none⟩) 5 5)∧w.heap.size≤g∧TextsAt w' w.heap.size g 5∧Ext w w'
theorem lit5 (w:World) {u1 u2 u3 u4 u5:Array Value}
  (h1:strs (u1.toList.map zfb)=u1.toList) (h2:strs (u2.toList.map zfb)=u2.toList) (h3:strs (u3.toList.map zfb)=u3.toList) (h4:strs (u4.toList.map zfb)=u4.toList) (h5:strs (u5.toList.map zfb)=u5.toList)
  (k1:u1.size=4) (k2:u2.size=4) (k3:u3.size=4) (k4:u4.size=4) (k5:u5.size=4)
  (b1:∀ x∈u1.toList.map zfb,x.size≤40) (b2:∀ x∈u2.toList.map zfb,x.size≤40) (b3:∀ x∈u3.toList.map zfb,x.size≤40) (b4:∀ x∈u4.toList.map zfb,x.size≤40) (b5:∀ x∈u5.toList.map zfb,x.size≤40) :
  RetTLL w (.returned (.slice (some ⟨w.heap.size+5,0,none⟩) 5 5)) ((((((w.alloc (.cells u1 9)).alloc (.cells u2 9)).alloc (.cells u3 9)).alloc (.cells u4 9)).alloc (.cells u5 9)).alloc (.cells #[.slice (some ⟨w.heap.size,0,none⟩) 4 4,.slice (some ⟨w.heap.size+1,0,none⟩) 4 4,.slice (some ⟨w.heap.size+2,0,none⟩) 4 4,.slice (some ⟨w.heap.size+3,0,none⟩) 4 4,.slice (some ⟨w.heap.size+4,0,none⟩) 4 4] 101)):=by
 have o1:=zcC w h1 k1 (by omega)
 have x1:=(Ext.refl w).alloc (.cells u1 9)
 have s1:(w.alloc (.cells u1 9)).heap.size=w.heap.size+1:=by simp
 generalize w.alloc (.cells u1 9)=w1 at *
 have o2:=zcC w1 h2 k2 (by omega)
 have x2:=(Ext.refl w1).alloc (.cells u2 9)
 have s2:(w1.alloc (.cells u2 9)).heap.size=w.heap.size+2:=by simp [s1]
 rw [s1] at o2
 generalize w1.alloc (.cells u2 9)=w2 at *
 have o3:=zcC w2 h3 k3 (by omega)
 have x3:=(Ext.refl w2).alloc (.cells u3 9)
 have s3:(w2.alloc (.cells u3 9)).heap.size=w.heap.size+3:=by simp [s2]
 rw [s2] at o3
 generalize w2.alloc (.cells u3 9)=w3 at *
 have o4:=zcC w3 h4 k4 (by omega)
 have x4:=(Ext.refl w3).alloc (.cells u4 9)
 have s4:(w3.alloc (.cells u4 9)).heap.size=w.heap.size+4:=by simp [s3]
 rw [s3] at o4
 generalize w3.alloc (.cells u4 9)=w4 at *
 have o5:=zcC w4 h5 k5 (by omega)
 have x5:=(Ext.refl w4).alloc (.cells u5 9)
 have s5:(w4.alloc (.cells u5 9)).heap.size=w.heap.size+5:=by simp [s4]
 rw [s4] at o5
 generalize w4.alloc (.cells u5 9)=w5 at *
 have bl:=Blk.new w5 101 #[.slice (some ⟨w.heap.size,0,none⟩) 4 4,.slice (some ⟨w.heap.size+1,0,none⟩) 4 4,.slice (some ⟨w.heap.size+2,0,none⟩) 4 4,.slice (some ⟨w.heap.size+3,0,none⟩) 4 4,.slice (some ⟨w.heap.size+4,0,none⟩) 4 4]
 have x6:=(Ext.refl w5).alloc (.cells #[.slice (some ⟨w.heap.size,0,none⟩) 4 4,.slice (some ⟨w.heap.size+1,0,none⟩) 4 4,.slice (some ⟨w.heap.size+2,0,none⟩) 4 4,.slice (some ⟨w.heap.size+3,0,none⟩) 4 4,.slice (some ⟨w.heap.size+4,0,none⟩) 4 4] 101)
 rw [s5] at bl
 generalize w5.alloc (.cells #[.slice (some ⟨w.heap.size,0,none⟩) 4 4,.slice (some ⟨w.heap.size+1,0,none⟩) 4 4,.slice (some ⟨w.heap.size+2,0,none⟩) 4 4,.slice (some ⟨w.heap.size+3,0,none⟩) 4 4,.slice (some ⟨w.heap.size+4,0,none⟩) 4 4] 101)=w6 at *
 refine⟨_,rfl,by omega,fun k hk=>?_,((((x1.trans x2).trans x3).trans x4).trans x5).trans x6⟩
 have hk':k=0∨k=1∨k=2∨k=3∨k=4:=by omega
 rcases hk' with rfl|rfl|rfl|rfl|rfl
 ·exact⟨_,_,bl.cell 0,by simp [k1],b1,zf o1 ((((x2.trans x3).trans x4).trans x5).trans x6)⟩
 ·exact⟨_,_,bl.cell 1,by simp [k2],b2,zn (zf o2 (((x3.trans x4).trans x5).trans x6)) (by omega)⟩
 ·exact⟨_,_,bl.cell 2,by simp [k3],b3,zn (zf o3 ((x4.trans x5).trans x6)) (by omega)⟩
 ·exact⟨_,_,bl.cell 3,by simp [k4],b4,zn (zf o4 (x5.trans x6)) (by omega)⟩
 ·exact⟨_,_,bl.cell 4,by simp [k5],b5,zn (zf o5 x6) (by omega)⟩
set_option maxRecDepth 100000 in
theorem zgS {w:World}:Calls Tryz.prog 137 #[] w (RetTLL w):=by
 go_enter Tryz.func137,Tryz.ntmps137
 go_wp2_with fail
 go_ret
 exact lit5 w rfl rfl rfl rfl rfl rfl rfl rfl rfl rfl (by decide +kernel) (by decide +kernel) (by decide +kernel) (by decide +kernel) (by decide +kernel)
set_option maxHeartbeats 4000000
def RetL14 (R M:Nat) (w:World) (e:Ending) (w':World):Prop:=
 ∃ (l:List Ent) (g c:Nat) (b:Aut) (A:Option Addr) (n c1:Nat) (A':Option Addr) (n' c2:Nat),l.length=3∧e=.returned (.tuple #[.slice (some ⟨g,0,none⟩) 3 c,.agg #[.int .i64 b.al,.slice A n c1,.slice A' n' c2]])∧Sld w w' R M (.slice (some ⟨g,0,none⟩) 3 c) l∧zK w' (R+1) A n c1 A' n' c2 b∧Hid (BdA 50 b)∧Hid (∀ e∈l,e.n≤40000)
theorem union_le14 {ss:List Sys}(h:zv ss=true):zJ ss≤63:=by
 have hv:∀ s∈ss,zj s=true:=by
  unfold zv at h
  simp only [Bool.and_eq_true,List.all_eq_true] at h
  exact h.2.2
 have:∀ n,zJ (ss.take n)≤63:=by
  intro n
  induction n with
  |zero=>simp [zJ]
  |succ n ih =>
   rcases Nat.lt_or_ge n ss.length with h1|h1
   ·rw [zbD (List.getElem?_eq_getElem h1)]
    have:=zI (hv _ (List.getElem_mem h1))
    have:=Nat.or_lt_two_pow (n:=6) (x:=zJ (ss.take n)) (y:=ss[n].al.toNat) (by omega) (by omega)
    omega
   ·rw [List.take_of_length_le (by omega)]
    rw [List.take_of_length_le h1] at ih
    exact ih
 have h2:=this ss.length
 rwa [List.take_length] at h2
theorem partsA_cases (ss:List Sys):(∃ a:Nat,zaD ss=(a:Int)∧a<64)∨zaD ss = -1:=by
 unfold zaD
 cases h:zv ss
 ·exact .inr rfl
 ·exact .inl ⟨zJ ss,rfl,by have:=union_le14 h;omega⟩
theorem Sld.box {w0 W:World} {R M gb:Nat} {v:Value} {l:List Ent} {cs:Array Value}(h:Sld w0 W R M v l)(hB:Blk W gb 39 cs)(hv:∀ b,v.ownBlock=some b→b≠gb)(hg:w0.heap.size≤gb) (u0 u1 u2:Value) :
  Sld w0 (((W.setCell ⟨gb,0,none⟩ u0).setCell ⟨gb,1,none⟩ u1).setCell ⟨gb,2,none⟩ u2) R M v l:=by
 have hRw:=h.hR
 have hf:=zbQ W gb u0 u1 u2
 exact⟨ze h.own hf (fun b hb e=>hv b hb e),fun e he=>⟨(h.ent e he).1.far hB (by decide) hf,(h.ent e he).2⟩,h.rd.frm hf (fun k hk e=>by omega),((h.dr.setNew (p:=⟨gb,0,none⟩) hg _).setNew (p:=⟨gb,1,none⟩) hg _).setNew (p:=⟨gb,2,none⟩) hg _,hRw⟩
theorem fin14 {w W:World} {R M N Z K g c:Nat} {l:List Ent} {b:Aut} {A A':Option Addr} {n c1 n' c2:Nat} {cs:Array Value}(hl:l.length=3)(hs:Sld w W R M (.slice (some ⟨g,0,none⟩) 3 c) l)(ho:zK W K A n c1 A' n' c2 b)(hK:R+1≤K)(hZK:Z<K)(hb:BdA 50 b)(hle:∀ e∈l,e.n≤40000) (bz:Blk W Z 27 cs)(hc:cs.size=3)(hZ:w.heap.size≤Z)(hM:M≤N) :
  Hid (RetL14 R N w (.returned (.tuple #[.slice (some ⟨g,0,none⟩) 3 c,.agg #[.int .i64 b.al,.slice A n c1,.slice A' n' c2]])) (((W.setCell ⟨Z,0,none⟩ (.int .i64 b.al)).setCell ⟨Z,1,none⟩ (.slice A n c1)).setCell ⟨Z,2,none⟩ (.slice A' n' c2))) ∧
  Blk (((W.setCell ⟨Z,0,none⟩ (.int .i64 b.al)).setCell ⟨Z,1,none⟩ (.slice A n c1)).setCell ⟨Z,2,none⟩ (.slice A' n' c2)) Z 27 #[.int .i64 b.al,.slice A n c1,.slice A' n' c2]:=by
 have hRw:=hs.hR
 have hf:=zaa W Z (.int .i64 b.al) (.slice A n c1) (.slice A' n' c2)
 refine⟨hide ⟨l,g,c,b,A,n,c1,A',n',c2,hl,rfl,⟨ze hs.own hf (fun k hv e=>zo hs.own bz (by decide) hv e),fun e he=>⟨(hs.ent e he).1.far bz (by decide) hf,(hs.ent e he).2⟩,(hs.rd.more hM).frm hf (fun k hk e=>by omega),?_,hRw⟩,(ho.keep hf (fun k h1 e=>by omega)).less hK,hide hb,hide hle⟩,zah bz hc _ _ _⟩
 exact ((hs.dr.setNew (p:=⟨Z,0,none⟩) hZ _).setNew (p:=⟨Z,1,none⟩) hZ _).setNew (p:=⟨Z,2,none⟩) hZ _
set_option maxRecDepth 100000 in
theorem spec_l14Draw {R M:Nat} {w:World}(h:Rd w R M)(hM:M≤600000000) :
  Calls Tryz.prog 75 #[.pointer (some ⟨R,0,none⟩)] w (RetL14 R (M+100000) w):=by
 have hRl:=h.lt
 have hxz:=(Ext.refl w).alloc (.cells #[.int .i64 0,.slice none 0 0,.slice none 0 0] 27)
 have bz:=Blk.new w 27 #[.int .i64 0,.slice none 0 0,.slice none 0 0]
 go_enter Tryz.func75,Tryz.ntmps75
 go_wp2_with fail
 have hsz:(w.alloc (.cells #[.int .i64 0,.slice none 0 0,.slice none 0 0] 27)).heap.size=w.heap.size+1:=by simp
 generalize w.alloc (.cells #[.int .i64 0,.slice none 0 0,.slice none 0 0] 27)=w1 at *
 refine (zu (h.ext hxz) (by omega)).mono ?_
 rintro e w2 ⟨z,rfl,-,-,hr2,hd2⟩
 have hw2:=hxz.dr.trans hd2
 have bz2:=bz.dr hd2 (by omega)
 by_cases hz:z=0
 ·subst hz
  have hz2:=hw2.size
  go_wp2_with fail
  refine (zgS).mono ?_
  rintro e w3 ⟨g,rfl,hg,hT,hx3⟩
  have hw3:=hw2.ext hx3
  have bz3:=bz2.ext hx3
  have hg2:=hx3.size
  have hzz:=bz2.lt
  go_wp2_with fail
  refine (zu (hr2.ext hx3) (by omega)).mono ?_
  rintro e w4 ⟨j,rfl,hj,-,hr4,hd4⟩
  have hj5:j<5:=by have:=hj (by omega);omega
  have hw4:=hw3.trans hd4
  have bz4:=bz3.dr hd4 (by omega)
  obtain⟨bt,lt,hct,hl4,hs4,hot⟩:=hT j hj5
  have ct4:=hd4.cell_some hct (by dsimp only;omega)
  have hot4:=zay hot hd4 (fun b h1 e=>by omega)
  have hj5':(j:Int)<5:=by omega
  have hsl0:=Sld.nil (w0:=w) hr4 hw4 hRl
  have hx5:=(Ext.refl w4).alloc (.cells #[] 39)
  have hot5:=zf hot4 hx5
  have bz5:=bz4.ext hx5
  clear hj hT hct hot
  go_upto_region 5 with fail
  generalize hg4:w4.heap.size=g4 at *
  generalize w4.alloc (.cells #[] 39)=w5 at *
  go_wp2_with fail
  go_loopw [6,7] (fun v i wr=>∃ (k:Nat) (vl:Value) (l:List Ent),k≤3∧vl=v∧i=.int .i64 k∧Hid (l.length=k)∧Hid (∀ e∈l,e.n≤40000)∧Sld w wr R (M+2+20*k) vl l∧Blk wr w.heap.size 27 #[.int .i64 0,.slice none 0 0,.slice none 0 0]∧wr.ownsRow w2.heap.size 9 1 (.slice (some ⟨bt,0,none⟩) 4 4) 4 (strs lt)) (fun _ i _=>3 - (intOf i).toNat)
  case atStart=>exact⟨0,_,[],Nat.zero_le _,rfl,rfl,rfl,hide (fun _ h=>by simp at h),hsl0.more (by omega),bz5,hot5⟩
  case round =>
   clear hsl0 bz5 hot5 hx5 ct4
   obtain⟨k,vl,l,hk,rfl,rfl,hlk,hle,hsl,bzr,hotr⟩:=hrel
   by_cases hlt:k<3
   ·obtain⟨ad,x,e1,_,_,hx,cx⟩:=(Reads.of_own hotr).str (show k<4 by omega)
    obtain rfl:=Option.some.inj e1
    have hxs:=hs4 x (List.mem_of_getElem? hx.out)
    rw [zO,Nat.zero_add] at cx
    have hzr:=bzr.lt
    go_wp2_with fail
    refine (zeX hsl.rd (by omega)).mono ?_
    rintro e wa ⟨s,A1,n1,c1,ok,rfl,hs1,⟨-,hf1⟩,hn1,hr1,hd1⟩
    have hxb:=(Ext.refl wa).alloc (.cells #[.int .i64 s.al,.int .i64 s.st,.slice A1 n1 c1] 39)
    have bs:=Blk.new wa 39 #[.int .i64 s.al,.int .i64 s.st,.slice A1 n1 c1]
    have hslb:=(hsl.drawn hd1 hr1).ext hxb
    have bzb:=(bzr.dr hd1 (by omega)).ext hxb
    have hotb:=zf (zay hotr hd1 (fun b h1 e=>by omega)) hxb
    have hsb:=hs1.ext hxb
    have hzb:=bzb.lt
    have hvb:∀ b,vl.ownBlock=some b→b≠wa.heap.size:=fun b hb=>by have:=(hsl.own.lt b hb).2;have:=hd1.size;omega
    have hgw:=(hsl.drawn hd1 hr1).dr.size
    have hd1s:=hd1.size
    go_upto_region 9 with fail
    generalize hgb:wa.heap.size=gb at *
    generalize wa.alloc (.cells #[.int .i64 s.al,.int .i64 s.st,.slice A1 n1 c1] 39)=wb at *
    go_wp2_with fail
    refine (zu hslb.rd (by omega)).mono ?_
    rintro e wc ⟨q,rfl,-,-,hrc,hdc⟩
    have hslc:=hslb.drawn hdc hrc
    have bsc:=bs.dr hdc (by omega)
    have bzc:=bzb.dr hdc (by omega)
    have hotc:=zay hotb hdc (fun b h1 e=>by omega)
    have hsc:=hsb.dr hdc
    clear bs bzb hotb hsb hslb hotr bzr cx hxb
    go_upto_if 39 with fail
    go_cut [] (fun wx=>∃ en:Ent,Blk wx gb 39 #[.int .i64 en.s.al,.int .i64 en.s.st,.slice en.A en.n en.c]∧en.ok wx R∧en.n≤40000∧Sld w wx R (M+2+20*k+15) vl l∧Blk wx w.heap.size 27 #[.int .i64 0,.slice none 0 0,.slice none 0 0]∧wx.ownsRow w2.heap.size 9 1 (.slice (some ⟨bt,0,none⟩) 4 4) 4 (strs lt))
    case first =>
     by_cases hq:q=0
     ·subst hq
      have cs:=bsc.cell
      go_wp2_with fail
      refine (zgk hslc.rd (by omega) hsc hf1 hn1.1 (by omega)).mono ?_
      rintro e wd ⟨s2,A2,n2,c2,rfl,hs2,hn2,hrd,hdd⟩
      have bsd:=bsc.dr hdd (by omega)
      have csd:=bsd.cell
      have fsd:=bsd.frozen
      have hsld:=(hslc.drawn hdd hrd).box bsd hvb (by omega) (.int .i64 s2.al) (.int .i64 s2.st) (.slice A2 n2 c2)
      have hfd:=zbQ wd gb (.int .i64 s2.al) (.int .i64 s2.st) (.slice A2 n2 c2)
      have hotd:=zay hotc hdd (fun b h1 e=>by omega)
      go_wp2_with fail
      go_meet
      exact⟨⟨s2,A2,n2,c2⟩,blk_fill bsd rfl _ _ _,⟨hs2.far bsd (by decide) hfd,by dsimp only;omega,by dsimp only;omega⟩,by dsimp only;omega,hsld.more (by omega),(bzc.dr hdd (by omega)).frm hfd (by omega),ze hotd hfd (fun b hb e=>zo hotd bsd (by decide) hb e)⟩
     ·have hq':((q:Int)==0)=false:=by simp;omega
      go_wp2_with fail
      go_meet
      exact⟨⟨s,A1,n1,c1⟩,bsc,⟨hsc,by dsimp only;omega,by dsimp only;omega⟩,by dsimp only;omega,hslc.more (by omega),bzc,hotc⟩
    case rest =>
     clear hslc bsc bzc hotc hsc
     obtain⟨en,bsr,hen,henn,hslr,bzr,hotr⟩:=hcut
     have csr:=bsr.cell
     have hkl:=hlk.out
     go_wp2_with (at_builtin;refine zdj w _ rfl _ _ _ rfl 39 _ 3 40 Tryz.underlying23 info_sys rfl (by decide) vl l.length (entC l) _ _ rfl rfl hslr.dr.size hslr.own rfl (by simp [Value.oneCell']) (by unfold maxLen;omega) (by omega) ?_;intro g5 cap5 w5' hown5 hg5 hat5 hlt5)
     have hp5:=hslr.push hen hown5 hg5
     rw [hkl] at hp5
     go_roundw
     case rel=>exact⟨k+1,_,l++[en],by omega,rfl,by go_num,by unfold Hid;rw [List.length_append,hkl];rfl,hide (fun e he=>by rcases List.mem_append.1 he with h1|h1;exact hle.out e h1;rw [List.mem_singleton] at h1;subst h1;exact henn),hp5.more (show M+2+20*k+15≤M+2+20*(k+1) by omega),(hg5.block _ bzr.lt (fun e=>zo hslr.own bzr (by decide) e.symm rfl)).trans bzr,ze hotr (Frm.of_grown hg5) (fun b hb hS=>zaT hotr hslr.own (by decide) hb hS)⟩
     case measure=>simp [intOf];omega
   ·have hk3:k=3:=by omega
    subst hk3
    obtain⟨g,cg,rfl⟩:∃ g cg,vl=.slice (some ⟨g,0,none⟩) 3 cg:=by
     have ho:=hsl.own.2
     rw [hlk.out] at ho
     rcases ho with ⟨_,h0⟩|⟨g,cap,cur,h1,_⟩
     ·omega
     ·exact⟨g,cap,h1⟩
    obtain⟨ad,x,e1,_,_,hx,cx⟩:=(Reads.of_own hotr).str (show 3<4 by omega)
    obtain rfl:=Option.some.inj e1
    have hxs:=hs4 x (List.mem_of_getElem? hx.out)
    rw [zO,Nat.zero_add] at cx
    have hzr:=bzr.lt
    go_wp2_with fail
    refine (zbY hsl.rd (by omega)).mono ?_
    rintro e wa ⟨b,A1,n1,c1,A2,n2,c2,ok,rfl,hb1,hbd,hra,hda⟩
    have hrg:=hsl.dr.size
    have hxb:=(Ext.refl wa).alloc (.cells #[.int .i64 b.al,.slice A1 n1 c1,.slice A2 n2 c2] 27)
    have bb:=Blk.new wa 27 #[.int .i64 b.al,.slice A1 n1 c1,.slice A2 n2 c2]
    have hslb:=(hsl.drawn hda hra).ext hxb
    have bzb:=(bzr.dr hda (by omega)).ext hxb
    have hbb:=hb1.ext hxb
    clear hb1 hotr bzr cx
    go_upto_region 13 with fail
    generalize hgb:wa.heap.size=gb at *
    generalize wa.alloc (.cells #[.int .i64 b.al,.slice A1 n1 c1,.slice A2 n2 c2] 27)=wb at *
    have cB:=bb.cells
    have cz:=bzb.cell
    have fz:=bzb.frozen
    have hS0:Ext wb wb.drew:=(Ext.refl _).drew
    obtain⟨-,f2⟩:=fin14 (N:=M+100000) hlk.out hslb hbb (by omega) (by omega) (BdL.more hbd.out (by omega)) hle.out bzb rfl (Nat.le_refl _) (by omega)
    obtain⟨f1,-⟩:=fin14 (N:=M+100000) hlk.out (hslb.ext hS0) (hbb.ext hS0) (by omega) (by omega) (BdL.more hbd.out (by omega)) hle.out (bzb.ext hS0) rfl (Nat.le_refl _) (by omega)
    go_wp2_with fail
    refine tR (fun X=>Ext wb X) [3] (Ord.of [0,1,2,3]) ?_
    refine tQ ?_
    (refine zN rfl rfl rfl rfl (fun K hK=>?_))
    go_simp
    refine hK.out _ _ ?_
    refine zag ?_
    go_wp2_with fail
    have cf:=f2.cell
    exact bodyPost_ret (v:=.tuple #[.slice (some ⟨g,0,none⟩) 3 cg,.agg #[.int .i64 b.al,.slice A1 n1 c1,.slice A2 n2 c2]]) (by simp [results,Tryz.results75,go_sem,cf]) rfl f1.out
 ·have hz':((z:Int)==0)=false:=by simp;omega
  go_wp2_with fail
  refine (zcm hr2 (by omega)).mono ?_
  rintro e w3 ⟨s,A3,n3,c3,rfl,hs3,-,hn3,hr3,hd3⟩
  go_wp2_with fail
  refine (zcm hr3 (by omega)).mono ?_
  rintro e w4 ⟨t,A4,n4,c4,rfl,hs4,-,hn4,hr4,hd4⟩
  go_wp2_with fail
  refine (zcm hr4 (by omega)).mono ?_
  rintro e w5 ⟨u,A5,n5,c5,rfl,hs5,-,hn5,hr5,hd5⟩
  have hw5:=((hw2.trans hd3).trans hd4).trans hd5
  have bz5:=((bz2.dr hd3 (by omega)).dr hd4 (by omega)).dr hd5 (by omega)
  have hsl:=Sld.three (w0:=w) (a:=⟨s,A3,n3,c3⟩) (b:=⟨t,A4,n4,c4⟩) (c:=⟨u,A5,n5,c5⟩) hr5 hw5 hRl ⟨(hs3.dr hd4).dr hd5,by dsimp only;omega,by dsimp only;omega⟩ ⟨hs4.dr hd5,by dsimp only;omega,by dsimp only;omega⟩ ⟨hs5,by dsimp only;omega,by dsimp only;omega⟩
  dsimp only at hsl
  have hx6:=(Ext.refl w5).alloc (.cells #[.int .i64 s.al,.int .i64 s.st,.slice A3 n3 c3,.int .i64 t.al,.int .i64 t.st,.slice A4 n4 c4,.int .i64 u.al,.int .i64 u.st,.slice A5 n5 c5] 39)
  have bz6:=bz5.ext hx6
  have hz6:=bz5.lt
  generalize hg6:w5.heap.size=g6 at *
  go_upto_region 15 with fail
  generalize w5.alloc (.cells #[.int .i64 s.al,.int .i64 s.st,.slice A3 n3 c3,.int .i64 t.al,.int .i64 t.st,.slice A4 n4 c4,.int .i64 u.al,.int .i64 u.st,.slice A5 n5 c5] 39)=w6 at *
  have hA:=partsA_cases [s,t,u]
  have hsl6:=hsl.sl rfl
  have hz2:=hw5.size
  go_wp2_with (first
   |(go_at_call 139;refine (zab hsl6).mono ?_;rintro e w7 ⟨rfl,hx7⟩;have hsl7:=hsl.ext hx7;have bz7:=bz6.ext hx7;have hz7:=bz7.lt;have hr7:=hsl7.dr.size)
   |(go_at_call 138;refine (zfa hsl7.rd (by omega) hA).mono ?_;rintro e w8 ⟨b,A8,n8,d8,A9,n9,d9,rfl,ho8,hg8,hr8,hd8⟩;have bz8:=bz7.dr hd8 (by omega);have cz8:=bz8.cell;have fz8:=bz8.frozen;have hsl8:=hsl7.drawn hd8 hr8))
  obtain⟨f1,f2⟩:=fin14 (N:=M+100000) rfl hsl8 ho8 (by omega) (by omega) ((BdA.of hg8.out).more (by omega)) (fun e he=>by simp only [List.mem_cons,List.not_mem_nil,or_false] at he;rcases he with rfl|rfl|rfl<;>(dsimp only;omega)) bz8 rfl (Nat.le_refl _) (by omega)
  have cf:=f2.cell
  exact bodyPost_ret (v:=.tuple #[.slice (some ⟨g6,0,none⟩) 3 3,.agg #[.int .i64 b.al,.slice A8 n8 d8,.slice A9 n9 d9]]) (by simp [results,Tryz.results75,go_sem,cf]) rfl f1.out
set_option maxHeartbeats 4000000
theorem zff {a:Aut}(h:zg a=true∨a=noA):BdA 12 a:=by
 rcases h with h|rfl
 ·obtain⟨h0,⟨h1,h2⟩,h3,h4⟩:=zi h
  refine⟨h2,by omega,fun l hl=>?_⟩
  obtain⟨q,hq⟩:=List.getElem?_of_mem hl
  rw [(h4 q l hq).1]
  exact Nat.le_trans (zy _ _) (by omega)
 ·exact⟨Nat.zero_le _,Nat.zero_le _,fun l hl=>by simp [noA] at hl⟩
set_option maxHeartbeats 4000000
set_option maxRecDepth 100000 in
theorem spec_l3Texts {w:World}:Calls Tryz.prog 93 #[] w (RetTexts 30 w):=by
 go_enter Tryz.func93,Tryz.ntmps93
 go_wp2
 go_ret
 exact⟨_,_,_,_,rfl,by decide,zcC w rfl rfl (by omega),by decide +kernel,(Ext.refl _).alloc _⟩
theorem yH14a2 {P:Prop}(h:P:=by
 obtain⟨a,rfl,ha⟩:∃ a:Nat,al=a∧a<64:=⟨al.toNat,by simp at hal;omega,by simp at hal;omega⟩
 clear hal
 have hs6:=hw6.size
 go_wp2_with fail
 refine (zbZ hr6 (by omega) ha).mono ?_
 rintro e w7 ⟨b,A,n,c,A',n',c',rfl,hown,hsh,hr7,hd7⟩
 obtain⟨f1,f2⟩:=zdF (N:=M+1000) (sh:=BdA 31) hxz (hown.less hs6) (BdL.more (BdA.of hsh.out) (by omega)) hr7 (hw6.trans hd7) bz rfl hRl (Nat.le_refl _) (by omega)
 have bz7:=bz.dr (hw6.trans hd7) (by omega)
 have cZ:=bz7.cell
 have fZ:=bz7.frozen
 go_wp2_with fail
 have cf:=f2.cell
 exact bodyPost_ret (v:=.agg #[.int .i64 b.al,.slice A n c,.slice A' n' c']) (by simp [results,Tryz.results43,go_sem,cf]) rfl f1.out
 ):P:=h
set_option maxRecDepth 100000 in
theorem spec_l3Draw {R M:Nat} {w:World}(h:Rd w R M)(hM:M≤700000000) :
  Calls Tryz.prog 43 #[.pointer (some ⟨R,0,none⟩)] w (zeT R (M+1000) (BdA 31) w):=by
 have hRl:=h.lt
 go_enter Tryz.func43,Tryz.ntmps43
 have hxz:=(Ext.refl w).alloc (.cells #[.int .i64 0,.slice none 0 0,.slice none 0 0] 27)
 have bz:=Blk.new w 27 #[.int .i64 0,.slice none 0 0,.slice none 0 0]
 go_wp2_with fail
 generalize w.alloc (.cells #[.int .i64 0,.slice none 0 0,.slice none 0 0] 27)=w1 at *
 have hbl:=bz.lt
 refine (zu (h.ext hxz) (by omega)).mono ?_
 rintro e w2 ⟨y,rfl,-,-,hr2,hd2⟩
 by_cases hy:y=0
 ·subst hy
  go_wp2_with fail
  refine (spec_l3Texts).mono ?_
  rintro e w3 ⟨A,n,c,l,rfl,hn,hown,hl,hx3⟩
  have hs2:=hd2.size
  go_wp2_with fail
  refine (l19Rd_of (hr2.ext hx3) (by omega) (Reads.of_own hown) (by omega) hn).mono ?_
  rintro e w4 ⟨x,hx,rfl,hr4,hd4⟩
  have hxs:=hl x hx
  go_wp2_with fail
  refine (zbY hr4 (by omega)).mono ?_
  rintro e w5 ⟨b,B,m,d,B',m',d',ok,rfl,hob,hbb,hr5,hd5⟩
  have hw4:Dr R w1 w4:=(hd2.ext hx3).trans hd4
  have hw5:Dr R w1 w5:=hw4.trans hd5
  have hs4:=hw4.size
  have hx6:=(Ext.refl w5).alloc (.cells #[.int .i64 b.al,.slice B m d,.slice B' m' d'] 27)
  have b6:=Blk.new w5 27 #[.int .i64 b.al,.slice B m d,.slice B' m' d']
  cases ok
  ·go_wp2_with fail
   have C6:=(zaS [3,6,7,5,1,0,2] 7 #[.int .i64 3,.int .i64 6,.int .i64 7,.int .i64 5,.int .i64 1,.int .i64 0,.int .i64 2] rfl rfl (by omega) (by omega) (hr5.ext hx6) (by omega))
   simp only [World.size_alloc] at C6
   refine C6.mono ?_
   rintro e w6 ⟨al,hal,rfl,hr6,hd6⟩
   have hw6:=((hw5.ext hx6).ext ((Ext.refl _).alloc _)).trans hd6
   exact yH14a2
  ·have c6:=b6.cell
   obtain⟨f1,f2⟩:=zdF (N:=M+1000) (sh:=BdA 31) hxz ((hob.less hs4).ext hx6) (BdL.more hbb.out (by omega)) (hr5.ext hx6) (hw5.ext hx6) bz rfl hRl (Nat.le_refl _) (by omega)
   have bz7:=bz.dr (hw5.ext hx6) (by omega)
   have cZ:=bz7.cell
   have fZ:=bz7.frozen
   go_wp2_with fail
   have cf:=f2.cell
   exact bodyPost_ret (v:=.agg #[.int .i64 b.al,.slice B m d,.slice B' m' d']) (by simp [results,Tryz.results43,go_sem,cf]) rfl f1.out
 ·have hy':((y:Int)==0)=false:=by simp;omega
  go_wp2_with fail
  have C6:=(zaS [3,6,7,5,1,0,2] 7 #[.int .i64 3,.int .i64 6,.int .i64 7,.int .i64 5,.int .i64 1,.int .i64 0,.int .i64 2] rfl rfl (by omega) (by omega) hr2 (by omega))
  refine C6.mono ?_
  rintro e w6 ⟨al,hal,rfl,hr6,hd6⟩
  have hw6:=(hd2.ext ((Ext.refl _).alloc _)).trans hd6
  exact yH14a2
set_option maxHeartbeats 4000000
theorem entC_take (l:List Ent) (k:Nat):entC (l.take k)=(entC l).take (k*3):=by
 induction l generalizing k with
 |nil=>simp [entC]
 |cons e r ih =>
  cases k with
  |zero=>simp [entC]
  |succ k =>
   show e.cs++entC (r.take k)=(e.cs++entC r).take ((k+1)*3)
   rw [ih,List.take_append,show e.cs.length=3 by rfl,show (k+1)*3 - 3=k*3 by omega,List.take_of_length_le (show e.cs.length≤(k+1)*3 by rw [show e.cs.length=3 by rfl];omega)]
section
variable {w0 W:World} {R M g n c:Nat} {l:List Ent}
theorem Sld.take {k:Nat}(h:Sld w0 W R M (.slice (some ⟨g,0,none⟩) n c) l)(hn:n=l.length)(hk:k≤n):Sld w0 W R M (.slice (some ⟨g,0,none⟩) k c) (l.take k):=by
 subst hn
 have hl:(l.take k).length=k:=by rw [List.length_take];omega
 refine⟨?_,fun e he=>h.ent e (List.mem_of_mem_take he),h.rd,h.dr,h.hR⟩
 have ho:=h.own
 rw [hl,entC_take]
 refine⟨by rw [List.length_take,entC_length];omega,.inr ?_⟩
 rcases ho.2 with ⟨h1,_⟩|⟨g',cap,cur,h1,h2,h3,h4,h5,h6,h7⟩
 ·simp at h1
 ·injection h1 with h1 h8 h9
  injection h1 with h1
  injection h1 with h1
  subst h1;subst h9
  refine⟨g,c,cur,rfl,h2,h3,by omega,h5,h6,?_⟩
  rw [← h7,List.take_take,Nat.min_eq_left (by omega)]
theorem Sld.cap (h:Sld w0 W R M (.slice (some ⟨g,0,none⟩) n c) l)(hn:n=l.length):n≤c:=by
 subst hn
 rcases h.own.2 with ⟨h1,_⟩|⟨g',cap,cur,h1,h2,h3,h4,_⟩
 ·simp at h1
 ·injection h1 with h1 h8 h9
  omega
theorem Sld.set1 {e:Ent}(h:Sld w0 W R M (.slice (some ⟨g,0,none⟩) n c) l)(hn:n=l.length)(h2:2≤n)(he:e.ok W R) :
  Sld w0 (((W.setCell ⟨g,3,none⟩ (.int .i64 e.s.al)).setCell ⟨g,4,none⟩ (.int .i64 e.s.st)).setCell ⟨g,5,none⟩ (.slice e.A e.n e.c)) R M (.slice (some ⟨g,0,none⟩) n c) (l.set 1 e):=by
 subst hn
 have hg:=(h.own.lt g rfl).1
 have hRw:=h.hR
 have hf:Frm (fun k=>k=g) W (((W.setCell ⟨g,3,none⟩ (.int .i64 e.s.al)).setCell ⟨g,4,none⟩ (.int .i64 e.s.st)).setCell ⟨g,5,none⟩ (.slice e.A e.n e.c)):=
  ((Frm.setCell W g 3 _).trans (Frm.setCell _ g 4 _)).trans (Frm.setCell _ g 5 _)
 have hfs:∀ x:Ent,x.ok W R→x.ok (((W.setCell ⟨g,3,none⟩ (.int .i64 e.s.al)).setCell ⟨g,4,none⟩ (.int .i64 e.s.st)).setCell ⟨g,5,none⟩ (.slice e.A e.n e.c)) R:=fun x hx =>
  ⟨hx.1.frm hf (fun k hk _=>by subst hk;exact own_sys h.own rfl),hx.2⟩
 refine⟨?_,fun x hx=>?_,h.rd.frm hf (fun k hk e=>by omega),((h.dr.setNew (p:=⟨g,3,none⟩) hg _).setNew (p:=⟨g,4,none⟩) hg _).setNew (p:=⟨g,5,none⟩) hg _,hRw⟩
 ·have h3:=(((h.own.stored 3 (.int .i64 e.s.al)).1.stored 4 (.int .i64 e.s.st)).1.stored 5 (.slice e.A e.n e.c)).1
  rw [List.length_set]
  have hes:(((entC l).set 3 (.int .i64 e.s.al)).set 4 (.int .i64 e.s.st)).set 5 (.slice e.A e.n e.c)=entC (l.set 1 e):=by
   match l,h2 with
   |a :: b :: r,_=>rfl
  rw [← hes]
  exact h3
 ·rcases List.mem_or_eq_of_mem_set hx with hx|hx
  ·exact hfs x (h.ent x hx)
  ·subst hx;exact hfs _ he
theorem Sld.at_ {i:Nat} {e:Ent}(h:Sld w0 W R M (.slice (some ⟨g,0,none⟩) n c) l)(hn:n=l.length)(he:l[i]?=some e) :
  W.cell? ⟨g,i*3,none⟩=some (.int .i64 e.s.al)∧W.cell? ⟨g,i*3+1,none⟩=some (.int .i64 e.s.st)∧W.cell? ⟨g,i*3+2,none⟩=some (.slice e.A e.n e.c):=by
 subst hn
 have hi:=(List.getElem?_eq_some_iff.1 he).1
 obtain⟨h1,h2,h3⟩:=zgE he
 exact⟨(h.own.cellAt (i*3) (by omega)).trans h1,(h.own.cellAt (i*3+1) (by omega)).trans h2,(h.own.cellAt (i*3+2) (by omega)).trans h3⟩
end
def RetL14A (R M:Nat) (w:World) (e:Ending) (w':World):Prop:=
 ∃ (l:List Ent) (k g c:Nat) (b:Aut) (A:Option Addr) (n c1:Nat) (A':Option Addr) (n' c2:Nat),Hid (k=l.length)∧k≤4∧e=.returned (.tuple #[.slice (some ⟨g,0,none⟩) k c,.agg #[.int .i64 b.al,.slice A n c1,.slice A' n' c2]])∧Sld w w' R M (.slice (some ⟨g,0,none⟩) k c) l∧zK w' (R+1) A n c1 A' n' c2 b∧Hid (BdA 100 b)
structure L14S (w0 W:World) (R G M g k c:Nat) (l:List Ent) (b:Aut) (A:Option Addr) (n c1:Nat) (A':Option Addr) (n' c2:Nat):Prop where
 sld:Sld w0 W R M (.slice (some ⟨g,0,none⟩) k c) l
 len:Hid (k=l.length)
 blk:Blk W (G) 27 #[.int .i64 b.al,.slice A n c1,.slice A' n' c2]
 own:zK W (R+1) A n c1 A' n' c2 b
 bd:Hid (BdA 100 b)
 z:Blk W w0.heap.size 27 #[.int .i64 0,.slice none 0 0,.slice none 0 0]
 hG:w0.heap.size<G
section
variable {w0 W W':World} {R G M N g k c:Nat} {l:List Ent} {b:Aut} {A:Option Addr} {n c1:Nat} {A':Option Addr} {n' c2:Nat}
theorem L14S.drawn (h:L14S w0 W R G M g k c l b A n c1 A' n' c2)(hd:Dr R W W')(hr:Rd W' R N):L14S w0 W' R G N g k c l b A n c1 A' n' c2:=
 have hR:=h.sld.hR
 ⟨h.sld.drawn hd hr,h.len,h.blk.dr hd (by have:=h.hG;omega),h.own.keep hd (fun b h1 e=>by omega),h.bd,h.z.dr hd (by omega),h.hG⟩
theorem L14S.more (h:L14S w0 W R G M g k c l b A n c1 A' n' c2)(hM:M≤N):L14S w0 W R G N g k c l b A n c1 A' n' c2:={ h with sld:=h.sld.more hM }
theorem L14S.far (h:L14S w0 W R G M g k c l b A n c1 A' n' c2):g≠w0.heap.size∧g≠G:=⟨zo h.sld.own h.z (by decide) rfl,zo h.sld.own h.blk (by decide) rfl⟩
theorem L14S.setP {b1:Aut} {A1:Option Addr} {n1 d1:Nat} {A2:Option Addr} {n2 d2:Nat}(h:L14S w0 W R G M g k c l b A n c1 A' n' c2)(ho:zK W (R+1) A1 n1 d1 A2 n2 d2 b1)(hb:BdA 100 b1) :
  L14S w0 (((W.setCell ⟨G,0,none⟩ (.int .i64 b1.al)).setCell ⟨G,1,none⟩ (.slice A1 n1 d1)).setCell ⟨G,2,none⟩ (.slice A2 n2 d2)) R G M g k c l b1 A1 n1 d1 A2 n2 d2:=by
 have hRw:=h.sld.hR;have hGG:=h.hG
 have hf:=zaa W (G) (.int .i64 b1.al) (.slice A1 n1 d1) (.slice A2 n2 d2)
 refine⟨⟨ze h.sld.own hf (fun k hv e=>zo h.sld.own h.blk (by decide) hv e),fun e he=>⟨(h.sld.ent e he).1.far h.blk (by decide) hf,(h.sld.ent e he).2⟩,h.sld.rd.frm hf (fun k hk e=>by omega),?_,hRw⟩,h.len,zah h.blk rfl _ _ _,ho.farT h.blk hf (by decide),hide hb,h.z.frm hf (by omega),hGG⟩
 exact ((h.sld.dr.setNew (p:=⟨G,0,none⟩) (Nat.le_of_lt h.hG) _).setNew (p:=⟨G,1,none⟩) (Nat.le_of_lt h.hG) _).setNew (p:=⟨G,2,none⟩) (Nat.le_of_lt h.hG) _
theorem L14S.set1 {e:Ent}(h:L14S w0 W R G M g k c l b A n c1 A' n' c2)(h2:2≤k)(he:e.ok W R) :
  L14S w0 (((W.setCell ⟨g,3,none⟩ (.int .i64 e.s.al)).setCell ⟨g,4,none⟩ (.int .i64 e.s.st)).setCell ⟨g,5,none⟩ (.slice e.A e.n e.c)) R G M g k c (l.set 1 e) b A n c1 A' n' c2:=by
 obtain⟨f1,f2⟩:=h.far
 have hf:Frm (fun k'=>(Value.slice (some ⟨g,0,none⟩) k c).ownBlock=some k') W (((W.setCell ⟨g,3,none⟩ (.int .i64 e.s.al)).setCell ⟨g,4,none⟩ (.int .i64 e.s.st)).setCell ⟨g,5,none⟩ (.slice e.A e.n e.c)):=
  (((Frm.setCell W g 3 _).trans (Frm.setCell _ g 4 _)).trans (Frm.setCell _ g 5 _)).mono (fun k _ hk=>by subst hk;rfl)
 refine⟨h.sld.set1 h.len.out h2 he,hide (by rw [List.length_set];exact h.len.out),h.blk.frm hf (fun e=>by simp [Value.ownBlock] at e;exact f2 e),h.own.farR h.sld.own hf (by decide),h.bd,h.z.frm hf (fun e=>by simp [Value.ownBlock] at e;exact f1 e),h.hG⟩
theorem L14S.fin (h:L14S w0 W R G M g k c l b A n c1 A' n' c2)(hk:k≤4)(hM:M≤N) :
  Hid (RetL14A R N w0 (.returned (.tuple #[.slice (some ⟨g,0,none⟩) k c,.agg #[.int .i64 b.al,.slice A n c1,.slice A' n' c2]])) (((W.setCell ⟨w0.heap.size,0,none⟩ (.int .i64 b.al)).setCell ⟨w0.heap.size,1,none⟩ (.slice A n c1)).setCell ⟨w0.heap.size,2,none⟩ (.slice A' n' c2))) ∧
  Blk (((W.setCell ⟨w0.heap.size,0,none⟩ (.int .i64 b.al)).setCell ⟨w0.heap.size,1,none⟩ (.slice A n c1)).setCell ⟨w0.heap.size,2,none⟩ (.slice A' n' c2)) w0.heap.size 27 #[.int .i64 b.al,.slice A n c1,.slice A' n' c2]:=by
 have hRw:=h.sld.hR;have hGG:=h.hG
 have hf:=zaa W w0.heap.size (.int .i64 b.al) (.slice A n c1) (.slice A' n' c2)
 refine⟨hide ⟨l,k,g,c,b,A,n,c1,A',n',c2,h.len,hk,rfl,⟨ze h.sld.own hf (fun k hv e=>zo h.sld.own h.z (by decide) hv e),fun e he=>⟨(h.sld.ent e he).1.far h.z (by decide) hf,(h.sld.ent e he).2⟩,(h.sld.rd.more hM).frm hf (fun k hk e=>by omega),?_,hRw⟩,h.own.farT h.z hf (by decide),h.bd⟩,zah h.z rfl _ _ _⟩
 exact ((h.sld.dr.setNew (p:=⟨w0.heap.size,0,none⟩) (Nat.le_refl _) _).setNew (p:=⟨w0.heap.size,1,none⟩) (Nat.le_refl _) _).setNew (p:=⟨w0.heap.size,2,none⟩) (Nat.le_refl _) _
end
set_option maxRecDepth 100000 in
theorem spec_l14Any {R M:Nat} {w:World}(h:Rd w R M)(hM:M≤500000000) :
  Calls Tryz.prog 37 #[.pointer (some ⟨R,0,none⟩)] w (RetL14A R (M+200000) w):=by
 have hRl:=h.lt
 have hxz:=(Ext.refl w).alloc (.cells #[.int .i64 0,.slice none 0 0,.slice none 0 0] 27)
 have bz:=Blk.new w 27 #[.int .i64 0,.slice none 0 0,.slice none 0 0]
 go_enter Tryz.func37,Tryz.ntmps37
 go_wp2_with fail
 have hsz:(w.alloc (.cells #[.int .i64 0,.slice none 0 0,.slice none 0 0] 27)).heap.size=w.heap.size+1:=by simp
 generalize w.alloc (.cells #[.int .i64 0,.slice none 0 0,.slice none 0 0] 27)=w1 at *
 refine (spec_l14Draw (h.ext hxz) (by omega)).mono ?_
 rintro e w2 ⟨l,g,c,b,A,n,c1,A',n',c2,hl,rfl,hs2,ho2,hb2,hle⟩
 have hxb:=(Ext.refl w2).alloc (.cells #[.int .i64 b.al,.slice A n c1,.slice A' n' c2] 27)
 have bb:=Blk.new w2 27 #[.int .i64 b.al,.slice A n c1,.slice A' n' c2]
 have hs3:=(hs2.less hxz.dr hRl).ext hxb
 have hw2:=hs2.dr.size
 have hst:=(⟨hs3,hide hl.symm,bb,ho2.ext hxb,hide (BdL.more hb2.out (by omega)),(bz.dr hs2.dr (by omega)).ext hxb,by omega⟩:L14S w _ R w2.heap.size (M+100000) g 3 c l b A n c1 A' n' c2)
 have hb50:=hb2
 clear hs3 hs2 bb ho2 hb2 hxb bz hxz
 go_upto_region 2 with fail
 generalize hG:w2.heap.size=G at *
 generalize w2.alloc (.cells #[.int .i64 b.al,.slice A n c1,.slice A' n' c2] 27)=w3 at *
 go_wp2_with fail
 refine (zu hst.sld.rd (by omega)).mono ?_
 rintro e w4 ⟨y,rfl,-,-,hr4,hd4⟩
 replace hst:=hst.drawn hd4 hr4
 go_upto_block 0 with fail
 go_cut [4] (fun v wx=>∃ (l:List Ent) (k g c:Nat) (b:Aut) (A:Option Addr) (n c1:Nat) (A':Option Addr) (n' c2:Nat),v=.slice (some ⟨g,0,none⟩) k c∧k≤4∧L14S w wx R G (M+150000) g k c l b A n c1 A' n' c2)
 case first =>
  by_cases hy0:y=0
  ·subst hy0
   go_wp2_with fail
   refine (zu hst.sld.rd (by omega)).mono ?_
   rintro e w5 ⟨q,rfl,hq,-,hr5,hd5⟩
   have hq3:q<3:=by have:=hq (by omega);omega
   replace hst:=hst.drawn hd5 hr5
   have hqc:q≤c:=by have:=hst.sld.cap hl.symm;omega
   go_wp2_with fail
   go_meet
   exact⟨l.take q,q,g,c,b,A,n,c1,A',n',c2,rfl,by omega,⟨(hst.sld.take hst.len.out (by omega)).more (by omega),hide (by rw [List.length_take,hl];omega),hst.blk,hst.own,hst.bd,hst.z,hst.hG⟩⟩
  by_cases hy1:y=1
  ·subst hy1
   go_wp2_with fail
   refine (zcm hst.sld.rd (by omega)).mono ?_
   rintro e w5 ⟨s,A5,n5,c5,rfl,hs5,-,hn5,hr5,hd5⟩
   replace hst:=hst.drawn hd5 hr5
   have hok:(⟨s,A5,n5,c5⟩:Ent).ok w5 R:=⟨hs5,by dsimp only;omega,by dsimp only;omega⟩
   go_wp2_with (at_builtin;refine zdj w _ rfl _ _ _ rfl 39 _ 3 40 Tryz.underlying23 info_sys rfl (by decide) (.slice (some ⟨g,0,none⟩) 3 c) l.length (entC l) _ _ rfl rfl hst.sld.dr.size hst.sld.own rfl (by simp [Value.oneCell']) (by unfold maxLen;omega) (by omega) ?_;intro g5 cap5 w6 hown5 hg5 hat5 hlt5)
   have hp5:=hst.sld.push hok hown5 hg5
   rw [hl] at hp5
   obtain⟨f1,f2⟩:=hst.far
   go_meet
   exact⟨l++[⟨s,A5,n5,c5⟩],4,g5,cap5,b,A,n,c1,A',n',c2,rfl,by omega,⟨hp5.more (by omega),hide (by simp [hl]),(hg5.block _ hst.blk.lt (fun e=>f2 (by simpa [Value.ownBlock] using e.symm))).trans hst.blk,hst.own.farR hst.sld.own (Frm.of_grown hg5) (by decide),hst.bd,(hg5.block _ hst.z.lt (fun e=>f1 (by simpa [Value.ownBlock] using e.symm))).trans hst.z,hst.hG⟩⟩
  by_cases hy2:y=2
  ·subst hy2
   obtain⟨en,hen⟩:∃ en,l[1]?=some en:=⟨l[1]'(by omega),List.getElem?_eq_getElem _⟩
   obtain⟨c0,c1',c2'⟩:=hst.sld.at_ hl.symm hen
   have hen':en.ok w4 R∧en.n≤40000:=⟨hst.sld.ent en (List.mem_of_getElem? hen),hle.out en (List.mem_of_getElem? hen)⟩
   go_wp2_with fail
   refine (zdi (L:=en.n) hst.sld.rd (by omega) hen'.1.1 (Nat.le_refl _) (by have:=hen'.2;omega)).mono ?_
   rintro e v1 ⟨s1,A1,n1,d1,rfl,hs1,hn1,hr1,hd1⟩
   replace hst:=hst.drawn hd1 hr1
   clear c0 c1' c2' hen
   have hen1:=hide hen'
   clear hen'
   go_wp2_with fail
   refine (zdi (L:=n1) hst.sld.rd (by omega) hs1 (Nat.le_refl _) (by have:=hen1.out.2;omega)).mono ?_
   rintro e v2 ⟨s2,A2,n2,d2,rfl,hs2,hn2,hr2,hd2⟩
   replace hst:=hst.drawn hd2 hr2
   go_wp2_with fail
   refine (zdi (L:=n2) hst.sld.rd (by omega) hs2 (Nat.le_refl _) (by have:=hen1.out.2;omega)).mono ?_
   rintro e v3 ⟨s3,A3,n3,d3,rfl,hs3,hn3,hr3,hd3⟩
   replace hst:=hst.drawn hd3 hr3
   have hn50:n3≤50000:=by have:=hen1.out.2;omega
   obtain⟨en2,hen2⟩:∃ en,l[1]?=some en:=⟨l[1]'(by omega),List.getElem?_eq_getElem _⟩
   obtain⟨c0,c1',c2'⟩:=hst.sld.at_ hl.symm hen2
   have ho3:=hst.sld.own
   rw [hl] at ho3
   have f3:=ho3.frozenAt
   have fin:=hst.set1 (e:=⟨s3,A3,n3,d3⟩) (by omega) ⟨hs3,by dsimp only;omega,by dsimp only;omega⟩
   go_wp2_with fail
   go_meet
   exact⟨l.set 1 ⟨s3,A3,n3,d3⟩,3,g,c,b,A,n,c1,A',n',c2,rfl,by omega,fin.more (by omega)⟩
  by_cases hy3:y=3
  ·subst hy3
   have cG:=hst.blk.cell
   go_wp2_with fail
   refine (zbp hst.sld.rd (by omega) hst.own hb50.out (by omega)).mono ?_
   rintro e w5 ⟨b1,A1,n1,d1,B1,m1,e1,rfl,ho1,hb1,hr1,hd1⟩
   have hR0:=hst.sld.dr.size
   replace hst:=hst.drawn hd1 hr1
   have hR1:=hst.sld.dr.size
   clear cG
   go_wp2_with fail
   refine (zbp hst.sld.rd (by omega) (ho1.less (by omega)) hb1.out (by omega)).mono ?_
   rintro e w6 ⟨b2,A2,n2,d2,B2,m2,e2,rfl,ho2,hb2,hr2,hd2⟩
   replace hst:=hst.drawn hd2 hr2
   go_wp2_with fail
   refine (zbp hst.sld.rd (by omega) (ho2.less (by omega)) hb2.out (by omega)).mono ?_
   rintro e w7 ⟨b3,A3,n3,d3,B3,m3,e3,rfl,ho3,hb3,hr3,hd3⟩
   have hR2:=hst.sld.dr.size
   replace hst:=hst.drawn hd3 hr3
   have cG:=hst.blk.cell
   have fG:=hst.blk.frozen
   have fin:=hst.setP (ho3.less (by omega)) (BdL.more hb3.out (by omega))
   go_wp2_with fail
   go_meet
   exact⟨l,3,g,c,b3,A3,n3,d3,B3,m3,e3,rfl,by omega,fin.more (by omega)⟩
  have h0:((y:Int)==0)=false:=by simp;omega
  have h1:((y:Int)==1)=false:=by simp;omega
  have h2:((y:Int)==2)=false:=by simp;omega
  have h3:((y:Int)==3)=false:=by simp;omega
  clear hy0 hy1 hy2 hy3
  go_wp2_with fail
  go_meet
  exact⟨l,3,g,c,b,A,n,c1,A',n',c2,rfl,by omega,hst.more (by omega)⟩
 case rest =>
  clear hst hl hle hb50 hr4 hd4
  obtain⟨l,k,g,c,b,A,n,c1,A',n',c2,rfl,hk,hst⟩:=hcut
  obtain⟨wE,hwE⟩:∃ wE,wE=wc:=⟨_,rfl⟩
  subst hwE
  have cB:∀ W,Ext wE W→∀ q,W.cell? ⟨G,q,none⟩=#[Value.int .i64 b.al,.slice A n c1,.slice A' n' c2][q]?:=fun W hW=>(hst.blk.ext hW).cell
  have cz:=hst.z.cell
  have fz:=hst.z.frozen
  have hS0:Ext wE wE.drew:=(Ext.refl _).drew
  obtain⟨-,f2⟩:=hst.fin hk (show M+150000≤M+200000 by omega)
  obtain⟨f1,-⟩:=(hst.drawn hS0.dr (hst.sld.rd.ext hS0)).fin hk (show M+150000≤M+200000 by omega)
  go_wp2_with fail
  refine tR (fun X=>Ext wE X) [3] (Ord.of [0,1,2,3]) ?_
  refine tQ ?_
  (refine zN rfl rfl rfl rfl (fun K hK=>?_))
  go_simp
  refine hK.out _ _ ?_
  refine zag ?_
  go_wp2_with fail
  have cf:=f2.cell
  exact bodyPost_ret (v:=.tuple #[.slice (some ⟨g,0,none⟩) k c,.agg #[.int .i64 b.al,.slice A n c1,.slice A' n' c2]]) (by simp [results,Tryz.results37,go_sem,cf]) rfl f1.out
set_option maxHeartbeats 4000000
theorem zK.at_new {w:World} {base lo:Nat} {A:Option Addr} {n c:Nat} {A':Option Addr} {n' c':Nat} {a:Aut}(h:zK w base A n c A' n' c' a)(hl:lo≤base):zF w lo w.heap.size A n A' n' a:=(h.less hl).reads
theorem sl_of {W:World} {base R n c lo:Nat} {A:Option Addr} {l:List Ent}(ho:W.ownsRow base 39 3 (.slice A n c) n (entC l))(hn:n=l.length)(he:∀ e∈l,e.ok W R)(hb:lo≤base)(hR:lo≤R+1):SLAt W lo W.heap.size A n (l.map Ent.s):=by
 have hr:=Reads.of_own ho
 refine⟨by simpa using hn,entC l,hr.more hb (Nat.le_refl _),fun k s hs=>?_⟩
 rw [List.getElem?_map,Option.map_eq_some_iff] at hs
 obtain⟨e,hk,rfl⟩:=hs
 obtain⟨h1,h2,h3⟩:=zgE hk
 exact⟨e.A,e.n,e.c,h1,h2,h3,(he e (List.mem_of_getElem? hk)).1.at_.more hR (Nat.le_refl _)⟩
set_option maxHeartbeats 4000000
theorem frm_cell {S:Nat→Prop} {w w':World}(h:Frm S w w') {p:Addr} {v:Value}(hv:w.cell? p=some v)(hp:¬ S p.block):w'.cell? p=some v:=
 (World.cell?_of_block (w:=w) (h.block _ (World.block_lt_of_cell? w p hv) hp)).trans hv
set_option maxHeartbeats 4000000
theorem vcT_none {ss:List Sys} {p:Aut}(h:three ss p=false):vcT ss p=⟨3,noA,noA,⟨#[]⟩,0⟩:=by
 unfold vcT
 split
 ·rename_i x y z
  have:zV [x,y,z] p = -1:=by unfold zV;rw [h];rfl
  rw [this];rfl
 ·rfl
theorem judgeC_asm {x y z:Sys} {p:Aut} {L:Nat} {a:Aut}:zg (zbW x y z p L a).2.2=true∨(zbW x y z p L a).2.2=noA:=by
 unfold zbW
 split
 ·exact .inr rfl
 ·split
  ·exact vpT_asm y z a
  ·split
   ·exact .inr rfl
   ·exact .inr rfl
theorem chT_asm {x y z:Sys} {p:Aut} {L:Nat}(hL:L<64) (fu:Nat):∀ (k:Nat) (o:Option (List ByteArray × List ByteArray)),zcX L (zq x p L) o →
  (zg (chT x y z p L fu k o).fst=true∨(chT x y z p L fu k o).fst=noA)∧(zg (chT x y z p L fu k o).snd=true∨(chT x y z p L fu k o).snd=noA):=by
 induction fu with
 |zero=>intro k o _;exact⟨.inr rfl,.inr rfl⟩
 |succ fu ih =>
  intro k o ho
  match o with
  |none=>exact⟨.inr rfl,.inr rfl⟩
  |some (rs,cs) =>
   obtain⟨hI,hcl⟩:=ho rs cs rfl
   rw [chT]
   split
   ·exact⟨.inl (zcr hI hcl hL),judgeC_asm⟩
   ·split
    ·exact⟨.inr rfl,.inr rfl⟩
    ·split
     ·exact⟨.inr rfl,.inr rfl⟩
     ·exact ih _ _ (zcX.learn hI _)
theorem vcT_asm (ss:List Sys) (p:Aut):BdA 12 (vcT ss p).fst∧BdA 12 (vcT ss p).snd:=by
 cases h:three ss p
 ·rw [vcT_none h]
  exact⟨zff (.inr rfl),zff (.inr rfl)⟩
 ·obtain⟨x,y,z,rfl⟩:=zbq h
  obtain⟨c,hc,hc6⟩:=zbR h
  have e:vcT [x,y,z] p=chT x y z p c 12 0 ((zap c (zq x p c) [⟨#[]⟩] 11 [⟨#[]⟩]).map fun r=>(r,[⟨#[]⟩])):=by
   unfold vcT
   dsimp only
   rw [hc,if_pos (by omega),Int.toNat_natCast]
  rw [e]
  obtain⟨h1,h2⟩:=chT_asm (x:=x) (y:=y) (z:=z) (p:=p) (show c<64 by omega) 12 0 _ (zcX.new c (zq x p c))
  exact⟨zff h1,zff h2⟩
theorem zeG {w:World} {lo hi n c lo1 hi1 m d m' d':Nat} {A B B':Option Addr} {ss:List Sys} {p:Aut}(h:SLAt w lo hi A n ss)(hp:zF w lo1 hi1 B m B' m' p)(hhi:hi≤w.heap.size)(hhi1:hi1≤w.heap.size) :
  Calls Tryz.prog 38 #[.slice A n c,.agg #[.int .i64 p.al,.slice B m d,.slice B' m' d']] w (zfr w (vcT ss p)):=by
 cases h3:three ss p
 ·rw [vcT_none h3]
  exact zeE h hp h3
 ·obtain⟨x,y,z,rfl⟩:=zbq h3
  obtain⟨q,hq,hq6⟩:=zbR h3
  have e:vcT [x,y,z] p=chT x y z p q 12 0 ((zap q (zq x p q) [⟨#[]⟩] 11 [⟨#[]⟩]).map fun r=>(r,[⟨#[]⟩])):=by
   unfold vcT
   dsimp only
   rw [hq,if_pos (by omega),Int.toNat_natCast]
  rw [e]
  obtain rfl:n=3:=h.1
  obtain⟨b,o,s,Bx,nx_,cx,rfl,_,_,_⟩:=h.sys (k:=0) (by omega)
  exact zeF h hp h3 hq (by omega) hhi hhi1
theorem chain_and (ss:List Sys) (p:Aut):(∃ a:Nat,a<64∧bits .and .i64 (zV ss p) 63=(a:Int))∧∃ a:Nat,a<64∧bits .and .i64 (zaK ss p) 63=(a:Int):=by
 have hm:bits .and .i64 (-1) 63=((63:Nat):Int):=by decide
 have hn:∀ a:Nat,a<64→∃ b:Nat,b<64∧bits .and .i64 (a:Int) 63=(b:Int):=fun a ha=>by
  refine⟨a&&&63,by have:=Nat.and_le_left (n:=a) (m:=63);omega,?_⟩
  exact zbt (a:=a) (b:=63) (by unfold Sm;omega) (by unfold Sm;omega)
 cases h:three ss p
 ·have h1:zV ss p = -1:=by unfold zV;rw [h];rfl
  have h2:zaK ss p = -1:=by unfold zaK;rw [h];rfl
  rw [h1,h2]
  exact⟨⟨63,by decide,hm⟩,⟨63,by decide,hm⟩⟩
 ·obtain⟨x,y,z,rfl⟩:=zbq h
  obtain⟨c,hc,hc6⟩:=zbR h
  obtain⟨_,e2⟩:=zdZ h
  obtain⟨-,hpa,-⟩:=zcD.1 h
  have vz:=zI ((zan hpa).2 z (by simp))
  rw [hc,e2]
  have:=Nat.and_le_right (n:=y.al.toNat|||(zV [x,y,z] p).toNat) (m:=z.al.toNat)
  exact⟨hn c (by omega),hn _ (by omega)⟩
def DrawnL (W:World) (g:Nat) (l:List Ent):Prop:=∀ (i:Nat) (x:Ent),l[i]?=some x→x.n≤x.c∧x.n≤50000∧W.cell? ⟨g,i*3+2,none⟩=some (.slice x.A x.n x.c)
def RetDF (w:World) (x:Ending) (w':World):Prop:=
 ∃ (l:List Ent) (k g c:Nat) (p:Aut) (A:Option Addr) (n c1:Nat) (A':Option Addr) (n' c2:Nat) (f:Aut) (B:Option Addr) (m d:Nat) (B':Option Addr) (m' d':Nat) (u:Aut) (C:Option Addr) (q e:Nat) (C':Option Addr) (q' e':Nat),
  Hid (k=l.length)∧k≤4∧k≤c∧x=.returned (.tuple #[.slice (some ⟨g,0,none⟩) k c,.agg #[.int .i64 p.al,.slice A n c1,.slice A' n' c2],.agg #[.int .i64 f.al,.slice B m d,.slice B' m' d',.int .i64 u.al,.slice C q e,.slice C' q' e']]) ∧
  SLAt w' w.heap.size w'.heap.size (some ⟨g,0,none⟩) k (l.map Ent.s)∧(zF w' w.heap.size w'.heap.size A n A' n' p∧zF w' w.heap.size w'.heap.size B m B' m' f∧zF w' w.heap.size w'.heap.size C q C' q' u)∧Hid (DrawnL w' g l)∧Hid (BdA 100 p∧BdA 100 f∧BdA 100 u)∧Ext w w'
structure CfS (w1 W:World) (R M K Z G7 G9 g k c:Nat) (l:List Ent) (p:Aut) (A:Option Addr) (n c1:Nat) (A':Option Addr) (n' c2:Nat) (f:Aut) (B:Option Addr) (m d:Nat) (B':Option Addr) (m' d':Nat) (u:Aut) (C:Option Addr) (q e:Nat) (C':Option Addr) (q' e':Nat):Prop where
 sld:Sld w1 W R M (.slice (some ⟨g,0,none⟩) k c) l
 own:zK W (R+1) A n c1 A' n' c2 p
 b7:Blk W G7 27 #[.int .i64 p.al,.slice A n c1,.slice A' n' c2]
 b9:Blk W G9 29 #[.int .i64 f.al,.slice B m d,.slice B' m' d',.int .i64 u.al,.slice C q e,.slice C' q' e']
 o1:zK W (R+1) B m d B' m' d' f
 o2:zK W (R+1) C q e C' q' e' u
 bd:Hid (BdA K f∧BdA K u)
 z1:Blk W Z 27 #[.int .i64 0,.slice none 0 0,.slice none 0 0]
 z2:Blk W (Z+1) 29 #[.int .i64 0,.slice none 0 0,.slice none 0 0,.int .i64 0,.slice none 0 0,.slice none 0 0]
 hZ:Z+1<R
 hG:w1.heap.size≤G7∧w1.heap.size≤G9∧G7≠G9
section
variable {w w0 w1 W W':World} {R M N K J Z G7 G9 g k c n c1 n' c2 m d m' d' q e q' e' i j i' j' r s r' s':Nat} {l:List Ent} {p f u f2 u2:Aut} {A A' B B' C C' D D' E E':Option Addr}
theorem CfS.drawn (h:CfS w1 W R M K Z G7 G9 g k c l p A n c1 A' n' c2 f B m d B' m' d' u C q e C' q' e')(hd:Dr R W W')(hr:Rd W' R N):CfS w1 W' R N K Z G7 G9 g k c l p A n c1 A' n' c2 f B m d B' m' d' u C q e C' q' e':=by
 have hR:=h.sld.hR;have hZ:=h.hZ;have hG:=h.hG
 exact⟨h.sld.drawn hd hr,h.own.keep hd (fun b h1 e=>by omega),h.b7.dr hd (by omega),h.b9.dr hd (by omega),h.o1.keep hd (fun b h1 e=>by omega),h.o2.keep hd (fun b h1 e=>by omega),h.bd,h.z1.dr hd (by omega),h.z2.dr hd (by omega),hZ,hG⟩
theorem CfS.ext (h:CfS w1 W R M K Z G7 G9 g k c l p A n c1 A' n' c2 f B m d B' m' d' u C q e C' q' e')(hx:Ext W W'):CfS w1 W' R M K Z G7 G9 g k c l p A n c1 A' n' c2 f B m d B' m' d' u C q e C' q' e':=h.drawn hx.dr (h.sld.rd.ext hx)
theorem CfS.more (h:CfS w1 W R M K Z G7 G9 g k c l p A n c1 A' n' c2 f B m d B' m' d' u C q e C' q' e')(hM:M≤N)(hK:K≤J):CfS w1 W R N J Z G7 G9 g k c l p A n c1 A' n' c2 f B m d B' m' d' u C q e C' q' e':={ h with sld:=h.sld.more hM,bd:=hide ⟨BdL.more h.bd.out.1 hK,BdL.more h.bd.out.2 hK⟩ }
theorem CfS.turn (h:CfS w1 W R M K Z G7 G9 g k c l p A n c1 A' n' c2 f B m d B' m' d' u C q e C' q' e')(hf:Frm (fun k=>k=G9) W W')(hb:Blk W' G9 29 #[.int .i64 f2.al,.slice D i j,.slice D' i' j',.int .i64 u2.al,.slice E r s,.slice E' r' s']) (o1:zK W (R+1) D i j D' i' j' f2) (o2:zK W (R+1) E r s E' r' s' u2)(hbd:BdA J f2∧BdA J u2) :
  CfS w1 W' R M J Z G7 G9 g k c l p A n c1 A' n' c2 f2 D i j D' i' j' u2 E r s E' r' s':=by
 have hR:=h.sld.hR;have hZ:=h.hZ;have hG:=h.hG
 exact⟨⟨ze h.sld.own hf (fun k hv e=>zo h.sld.own h.b9 (by decide) hv e),fun e he=>⟨(h.sld.ent e he).1.far h.b9 (by decide) hf,(h.sld.ent e he).2⟩,h.sld.rd.frm hf (fun k hk e=>by omega),h.sld.dr.far hf hG.2.1,hR⟩,
  h.own.farT h.b9 hf (by decide),h.b7.frm hf hG.2.2,hb,o1.farT h.b9 hf (by decide),o2.farT h.b9 hf (by decide),hide hbd,h.z1.frm hf (by omega),h.z2.frm hf (by omega),hZ,hG⟩
theorem set6_frm (W:World) (Z:Nat) (u0 u1 u2 u3 u4 u5:Value):Frm (fun k=>k=Z) W ((((((W.setCell ⟨Z,0,none⟩ (u0)).setCell ⟨Z,1,none⟩ (u1)).setCell ⟨Z,2,none⟩ (u2)).setCell ⟨Z,3,none⟩ (u3)).setCell ⟨Z,4,none⟩ (u4)).setCell ⟨Z,5,none⟩ (u5)):=
 (((((Frm.setCell W _ 0 _).trans (Frm.setCell _ _ 1 _)).trans (Frm.setCell _ _ 2 _)).trans (Frm.setCell _ _ 3 _)).trans (Frm.setCell _ _ 4 _)).trans (Frm.setCell _ _ 5 _)
theorem set6_blk {W:World} {Z:Nat} {t:TypeId} {vs:Array Value}(h:Blk W Z t vs)(h6:vs.size=6) (u0 u1 u2 u3 u4 u5:Value):Blk ((((((W.setCell ⟨Z,0,none⟩ (u0)).setCell ⟨Z,1,none⟩ (u1)).setCell ⟨Z,2,none⟩ (u2)).setCell ⟨Z,3,none⟩ (u3)).setCell ⟨Z,4,none⟩ (u4)).setCell ⟨Z,5,none⟩ (u5)) Z t #[u0,u1,u2,u3,u4,u5]:=by
 obtain⟨lv⟩:=vs
 match lv,h6 with
 |[a0,a1,a2,a3,a4,a5],_=>simpa using (((((h.set_ 0 u0).set_ 1 u1).set_ 2 u2).set_ 3 u3).set_ 4 u4).set_ 5 u5
theorem CfS.fin (h:CfS w1 W R M K w.heap.size G7 G9 g k c l p A n c1 A' n' c2 f B m d B' m' d' u C q e C' q' e')(hk:k≤4)(hl:k=l.length)(hx:Ext w w1)(hK:K≤100)(hp:BdA 100 p) :
  Hid (RetDF w (.returned (.tuple #[.slice (some ⟨g,0,none⟩) k c,.agg #[.int .i64 p.al,.slice A n c1,.slice A' n' c2],.agg #[.int .i64 f.al,.slice B m d,.slice B' m' d',.int .i64 u.al,.slice C q e,.slice C' q' e']])) (((((((((W.setCell ⟨w.heap.size,0,none⟩ (.int .i64 p.al)).setCell ⟨w.heap.size,1,none⟩ (.slice A n c1)).setCell ⟨w.heap.size,2,none⟩ (.slice A' n' c2)).setCell ⟨w.heap.size+1,0,none⟩ (.int .i64 f.al)).setCell ⟨w.heap.size+1,1,none⟩ (.slice B m d)).setCell ⟨w.heap.size+1,2,none⟩ (.slice B' m' d')).setCell ⟨w.heap.size+1,3,none⟩ (.int .i64 u.al)).setCell ⟨w.heap.size+1,4,none⟩ (.slice C q e)).setCell ⟨w.heap.size+1,5,none⟩ (.slice C' q' e')).drew) ∧
  Hid (Blk (((((((((W.setCell ⟨w.heap.size,0,none⟩ (.int .i64 p.al)).setCell ⟨w.heap.size,1,none⟩ (.slice A n c1)).setCell ⟨w.heap.size,2,none⟩ (.slice A' n' c2)).setCell ⟨w.heap.size+1,0,none⟩ (.int .i64 f.al)).setCell ⟨w.heap.size+1,1,none⟩ (.slice B m d)).setCell ⟨w.heap.size+1,2,none⟩ (.slice B' m' d')).setCell ⟨w.heap.size+1,3,none⟩ (.int .i64 u.al)).setCell ⟨w.heap.size+1,4,none⟩ (.slice C q e)).setCell ⟨w.heap.size+1,5,none⟩ (.slice C' q' e')) w.heap.size 27 #[.int .i64 p.al,.slice A n c1,.slice A' n' c2]∧Blk (((((((((W.setCell ⟨w.heap.size,0,none⟩ (.int .i64 p.al)).setCell ⟨w.heap.size,1,none⟩ (.slice A n c1)).setCell ⟨w.heap.size,2,none⟩ (.slice A' n' c2)).setCell ⟨w.heap.size+1,0,none⟩ (.int .i64 f.al)).setCell ⟨w.heap.size+1,1,none⟩ (.slice B m d)).setCell ⟨w.heap.size+1,2,none⟩ (.slice B' m' d')).setCell ⟨w.heap.size+1,3,none⟩ (.int .i64 u.al)).setCell ⟨w.heap.size+1,4,none⟩ (.slice C q e)).setCell ⟨w.heap.size+1,5,none⟩ (.slice C' q' e')) (w.heap.size+1) 29 #[.int .i64 f.al,.slice B m d,.slice B' m' d',.int .i64 u.al,.slice C q e,.slice C' q' e']):=by
 obtain⟨Z,hZe⟩:∃ Z,w.heap.size=Z:=⟨_,rfl⟩
 rw [hZe] at h ⊢
 have hR:=h.sld.hR;have hZ:=h.hZ;have hG:=h.hG
 have hf1:=zaa W Z (.int .i64 p.al) (.slice A n c1) (.slice A' n' c2)
 have hb1:=zah h.z1 rfl (.int .i64 p.al) (.slice A n c1) (.slice A' n' c2)
 have hz2:=h.z2.frm hf1 (by omega)
 have hxW:Ext w W:=Dr.new hx (by omega) h.sld.dr
 have hF1:Frm (fun k=>k=Z∨k=Z+1) W (((W.setCell ⟨Z,0,none⟩ (.int .i64 p.al)).setCell ⟨Z,1,none⟩ (.slice A n c1)).setCell ⟨Z,2,none⟩ (.slice A' n' c2)):=hf1.mono (fun k _ hk=>.inl hk)
 generalize ((W.setCell ⟨Z,0,none⟩ (.int .i64 p.al)).setCell ⟨Z,1,none⟩ (.slice A n c1)).setCell ⟨Z,2,none⟩ (.slice A' n' c2)=W1 at *
 have hf2:=set6_frm W1 (Z+1) (.int .i64 f.al) (.slice B m d) (.slice B' m' d') (.int .i64 u.al) (.slice C q e) (.slice C' q' e')
 have hb2:=set6_blk hz2 rfl (.int .i64 f.al) (.slice B m d) (.slice B' m' d') (.int .i64 u.al) (.slice C q e) (.slice C' q' e')
 have hb12:=hb1.frm hf2 (by omega)
 have hF:Frm (fun k=>k=Z∨k=Z+1) W ((((((W1.setCell ⟨Z+1,0,none⟩ (.int .i64 f.al)).setCell ⟨Z+1,1,none⟩ (.slice B m d)).setCell ⟨Z+1,2,none⟩ (.slice B' m' d')).setCell ⟨Z+1,3,none⟩ (.int .i64 u.al)).setCell ⟨Z+1,4,none⟩ (.slice C q e)).setCell ⟨Z+1,5,none⟩ (.slice C' q' e')):=hF1.trans (hf2.mono (fun k _ hk=>.inr hk))
 generalize (((((W1.setCell ⟨Z+1,0,none⟩ (.int .i64 f.al)).setCell ⟨Z+1,1,none⟩ (.slice B m d)).setCell ⟨Z+1,2,none⟩ (.slice B' m' d')).setCell ⟨Z+1,3,none⟩ (.int .i64 u.al)).setCell ⟨Z+1,4,none⟩ (.slice C q e)).setCell ⟨Z+1,5,none⟩ (.slice C' q' e')=W' at *
 have hd:Ext W' W'.drew:=(Ext.refl W').drew
 refine⟨hide ⟨l,k,g,c,p,A,n,c1,A',n',c2,f,B,m,d,B',m',d',u,C,q,e,C',q',e',hide hl,hk,h.sld.cap hl,rfl,?_,⟨?_,?_,?_⟩,hide ?_,hide ⟨hp,BdL.more h.bd.out.1 hK,BdL.more h.bd.out.2 hK⟩,?_⟩,hide ⟨hb12,hb2⟩⟩
 ·have ho:=zay h.sld.own hF (fun b h1 e=>by omega)
  rw [← hl] at ho
  exact (sl_of (base:=w1.heap.size) (c:=c) (R:=R) ho hl (fun e he=>⟨(h.sld.ent e he).1.frm hF (fun k hk hR=>by omega),(h.sld.ent e he).2⟩) (by omega) (by omega)).ext hd
 ·exact ((h.own.keep hF (fun b h1 e=>by omega)).at_new (by omega)).ext hd
 ·exact ((h.o1.keep hF (fun b h1 e=>by omega)).at_new (by omega)).ext hd
 ·exact ((h.o2.keep hF (fun b h1 e=>by omega)).at_new (by omega)).ext hd
 ·intro i x hi
  have hx1:=(h.sld.ent x (List.mem_of_getElem? hi)).2
  have:=(h.sld.own.lt g rfl).1
  exact⟨hx1.2,hx1.1,hd.cell_some (frm_cell hF (h.sld.at_ hl hi).2.2 (by dsimp only;omega))⟩
 ·exact (hxW.frm hF (fun k hk e=>by omega)).drew
end
section
variable {w:World}
theorem yH14a1 {P:Prop}(h:P:=by
 rintro e1 w10 ⟨f2,D,i,j,D',i',j',rfl,od,gd,hr10,hd10⟩
 have h10:=h9.drawn hd10 hr10
 clear c9 f9
 have c9:=h10.b9.cell
 have f9:=h10.b9.frozen
 have hs9:=h9.sld.rd.lt
 have hfin:=hide ((h10.turn (W':=(((w10.setCell ⟨G9,3,none⟩ (.int .i64 f2.al)).setCell ⟨G9,4,none⟩ (.slice D i j)).setCell ⟨G9,5,none⟩ (.slice D' i' j'))) (((Frm.setCell w10 _ 3 _).trans (Frm.setCell _ _ 4 _)).trans (Frm.setCell _ _ 5 _)) (by simpa using ((h10.b9.set_ 3 (.int .i64 f2.al)).set_ 4 (.slice D i j)).set_ 5 (.slice D' i' j')) h10.o1 (od.less (by omega)) ⟨BdL.more h10.bd.out.1 (by omega),gd.out⟩).more (N:=400000) (J:=80) (by omega) (by omega))
 go_wp2_with fail
 go_meet
 exact⟨_,_,_,_,_,_,_,_,_,_,_,_,_,_,hfin.out⟩
 ):P:=h
theorem yH14a3 {P:Prop}(h:P:=by
 have hfin:=hide ((h10.turn (W':=(((w10.setCell ⟨G9,0,none⟩ (.int .i64 f2.al)).setCell ⟨G9,1,none⟩ (.slice D i j)).setCell ⟨G9,2,none⟩ (.slice D' i' j'))) (((Frm.setCell w10 _ 0 _).trans (Frm.setCell _ _ 1 _)).trans (Frm.setCell _ _ 2 _)) (by simpa using ((h10.b9.set_ 0 (.int .i64 f2.al)).set_ 1 (.slice D i j)).set_ 2 (.slice D' i' j')) (od.less (by omega)) h10.o2 ⟨gd.out,BdL.more h10.bd.out.2 (by omega)⟩).more (N:=400000) (J:=80) (by omega) (by omega))
 go_wp2_with fail
 go_meet
 exact⟨_,_,_,_,_,_,_,_,_,_,_,_,_,_,hfin.out⟩
 ):P:=h
set_option maxRecDepth 100000 in
theorem spec_DrawChainFault {A0:Option Addr} {n0 c0:Nat}(h:Bytes w A0 n0)(hn:n0≤9223372036854775807)(hc:n0≤c0)(hc2:c0≤9223372036854775807) :
  Calls Tryz.prog 15 #[.slice A0 n0 c0] w (RetDF w):=by
 have hx0:Ext w ((w.alloc (.cells #[.int .i64 0,.slice none 0 0,.slice none 0 0] 27)).alloc (.cells #[.int .i64 0,.slice none 0 0,.slice none 0 0,.int .i64 0,.slice none 0 0,.slice none 0 0] 29)):=((Ext.refl _).alloc _).alloc _
 obtain⟨z1,z2⟩:=zR (Ext.refl ((w.alloc (.cells #[.int .i64 0,.slice none 0 0,.slice none 0 0] 27)).alloc (.cells #[.int .i64 0,.slice none 0 0,.slice none 0 0,.int .i64 0,.slice none 0 0,.slice none 0 0] 29)))
 have hh:=hide (h.ext hx0)
 have hsz:((w.alloc (.cells #[.int .i64 0,.slice none 0 0,.slice none 0 0] 27)).alloc (.cells #[.int .i64 0,.slice none 0 0,.slice none 0 0,.int .i64 0,.slice none 0 0,.slice none 0 0] 29)).heap.size=w.heap.size+2:=by simp
 clear h
 go_enter Tryz.func15,Tryz.ntmps15
 go_upto_region 1 with fail
 generalize (w.alloc (.cells #[.int .i64 0,.slice none 0 0,.slice none 0 0] 27)).alloc (.cells #[.int .i64 0,.slice none 0 0,.slice none 0 0,.int .i64 0,.slice none 0 0,.slice none 0 0] 29)=w0 at *
 go_wp2_with fail
 refine (spec_l19Open hh.out hn hc hc2).mono ?_
 rintro e w1 ⟨R,rfl,hR,hr1,hx1⟩
 have hRl:=hr1.lt
 have hx01:=hx0.trans hx1
 have hZR:w.heap.size+1<R:=by omega
 clear hh hn hc hc2 hsz hR
 go_upto_region 3 with (first
  |(go_at_call 37;refine (spec_l14Any hr1 (by omega)).mono ?_;rintro e w2 ⟨l,k,g,c,p,A,n,c1,A',n',c2,hl,hk,rfl,hs,ho,hb⟩))
 have hs2:=hs.dr.size
 have hx3:=(Ext.refl w2).alloc (.cells #[.int .i64 p.al,.slice A n c1,.slice A' n' c2] 27)
 have b7:=Blk.new w2 27 #[.int .i64 p.al,.slice A n c1,.slice A' n' c2]
 have hs3:=hs.ext hx3
 have ho3:=ho.ext hx3
 have zz1:=((z1.ext hx1).dr hs.dr (by omega)).ext hx3
 have zz2:=((z2.ext hx1).dr hs.dr (by omega)).ext hx3
 obtain⟨G7,hG7⟩:∃ G7,Hid (w2.heap.size=G7):=⟨_,rfl⟩
 have hG7s:w1.heap.size≤G7:=by rw [← hG7.out];exact hs2
 generalize w2.alloc (.cells #[.int .i64 p.al,.slice A n c1,.slice A' n' c2] 27)=w3 at *
 rw [hG7.out] at b7 ⊢
 have hb7l:=b7.lt
 clear z1 z2 hs ho hx3
 have HVC:=hide (zeG (c:=c) (d:=c1) (d':=c2) (hs3.sl hl.out) ho3.reads (Nat.le_refl _) (Nat.le_refl _))
 have hva:=hide (vcT_asm (l.map Ent.s) p)
 generalize vcT (l.map Ent.s) p=v at *
 have c7:=b7.cell
 go_upto_region 4 with (first
  |(go_at_call 38;refine HVC.out.mono ?_;rintro e w4 ⟨B,m,d,B',m',d',C,q,e,C',q',e',rfl,o1,o2,hx4⟩))
 have hx5:=(Ext.refl w4).alloc (.cells #[.int .i64 v.code,.int .i64 v.fst.al,.slice B m d,.slice B' m' d',.int .i64 v.snd.al,.slice C q e,.slice C' q' e',.string v.tr,.int .i64 v.ro] 63)
 have b8:=Blk.new w4 63 #[.int .i64 v.code,.int .i64 v.fst.al,.slice B m d,.slice B' m' d',.int .i64 v.snd.al,.slice C q e,.slice C' q' e',.string v.tr,.int .i64 v.ro]
 have hRl3:=hs3.rd.lt
 have o15:=(o1.less (show R+1≤w3.heap.size by omega)).ext hx5
 have o25:=(o2.less (show R+1≤w3.heap.size by omega)).ext hx5
 have hx35:=hx4.trans hx5
 generalize w4.alloc (.cells #[.int .i64 v.code,.int .i64 v.fst.al,.slice B m d,.slice B' m' d',.int .i64 v.snd.al,.slice C q e,.slice C' q' e',.string v.tr,.int .i64 v.ro] 63)=w5 at *
 generalize w4.heap.size=G8 at *
 have c8:=b8.cell
 clear c7
 go_upto_region 5 with fail
 have hx6:=(Ext.refl w5).alloc (.cells #[.int .i64 v.fst.al,.slice B m d,.slice B' m' d',.int .i64 v.snd.al,.slice C q e,.slice C' q' e'] 29)
 have b9:=Blk.new w5 29 #[.int .i64 v.fst.al,.slice B m d,.slice B' m' d',.int .i64 v.snd.al,.slice C q e,.slice C' q' e']
 have hx36:=hx35.trans hx6
 have h35s:=hx35.size
 replace b8:=b8.ext hx6
 have h6:CfS w1 (w5.alloc (.cells #[.int .i64 v.fst.al,.slice B m d,.slice B' m' d',.int .i64 v.snd.al,.slice C q e,.slice C' q' e'] 29)) R _ 12 w.heap.size G7 w5.heap.size g k c l p A n c1 A' n' c2 v.fst B m d B' m' d' v.snd C q e C' q' e':=
  ⟨hs3.ext hx36,ho3.ext hx36,b7.ext hx36,b9,o15.ext hx6,o25.ext hx6,hva,zz1.ext hx36,zz2.ext hx36,hZR,hG7s,by omega,by omega⟩
 generalize w5.alloc (.cells #[.int .i64 v.fst.al,.slice B m d,.slice B' m' d',.int .i64 v.snd.al,.slice C q e,.slice C' q' e'] 29)=w6 at *
 generalize w5.heap.size=G9 at *
 clear b9 hx6 hx35 hx5 hx36 o15 o25 o1 o2 zz1 zz2 b7 hs3 ho3 HVC h35s hx4 c8
 have c8:=b8.cell
 go_cut [31] (fun bv wx=>∃ bb:Bool,bv=.bool bb∧CfS w1 wx R (200000+1+1) 12 w.heap.size G7 G9 g k c l p A n c1 A' n' c2 v.fst B m d B' m' d' v.snd C q e C' q' e')
 case first =>
  by_cases hv0:v.code=0
  ·have e0:(v.code != 0)=false:=by simpa using hv0
   go_wp2_with (first
    |(go_at_call 39;refine (zu h6.sld.rd (by omega)).mono ?_;rintro e w7 ⟨y,rfl,-,-,hr7,hd7⟩))
   go_meet
   exact⟨_,rfl,(h6.drawn hd7 hr7).more (by omega) (by omega)⟩
  ·have e0:(v.code != 0)=true:=by simpa using hv0
   go_wp2_with fail
   go_meet
   exact⟨true,rfl,h6.more (by omega) (by omega)⟩
 case rest =>
  obtain⟨bb,rfl,h7⟩:=hcut
  clear h6 c8 b8
  go_upto_if 31 with fail
  go_cut [] (fun wx=>∃ (f:Aut) (B:Option Addr) (m d:Nat) (B':Option Addr) (m' d':Nat) (u:Aut) (C:Option Addr) (q e:Nat) (C':Option Addr) (q' e':Nat),CfS w1 wx R 300000 16 w.heap.size G7 G9 g k c l p A n c1 A' n' c2 f B m d B' m' d' u C q e C' q' e')
  case first =>
   cases bb
   ·go_wp2_with fail
    go_meet
    exact⟨_,_,_,_,_,_,_,_,_,_,_,_,_,_,h7.more (by omega) (by omega)⟩
   ·have HCL:=hide (zaX (c:=c) (d:=c1) (d':=c2) (h7.sld.sl hl.out) h7.own.reads)
    obtain⟨⟨a1,ha1,e1⟩,a2,ha2,e2⟩:=chain_and (l.map Ent.s) p
    generalize zV (l.map Ent.s) p=k1 at *
    generalize zaK (l.map Ent.s) p=k2 at *
    have c7:=h7.b7.cell
    go_wp2_with fail
    refine HCL.out.mono ?_
    rintro e w8 ⟨rfl,hx8⟩
    clear c7
    have h8:=h7.ext hx8
    go_wp2_with fail
    with_reducible refine (zbZ h8.sld.rd (by omega) ha1).mono ?_
    rintro e w9 ⟨f2,D,i,j,D',i',j',rfl,od,gd,hr9,hd9⟩
    have h9:=h8.drawn hd9 hr9
    go_wp2_with fail
    with_reducible refine (zbZ h9.sld.rd (by omega) ha2).mono ?_
    rintro e w10 ⟨u2,E,r,s,E',r',s',rfl,oe,ge_,hr10,hd10⟩
    have h10:=h9.drawn hd10 hr10
    have c9:=h10.b9.cell
    have f9:=h10.b9.frozen
    have hs8:=h8.sld.rd.lt
    have hs9:=hr9.lt
    have hfin:=hide ((h10.turn (set6_frm w10 G9 (.int .i64 f2.al) (.slice D i j) (.slice D' i' j') (.int .i64 u2.al) (.slice E r s) (.slice E' r' s')) (set6_blk h10.b9 rfl _ _ _ _ _ _) ((od.less (by omega)).keep hd10 (fun b h1 e=>by omega)) (oe.less (by omega)) ⟨BdA.of gd.out,BdA.of ge_.out⟩).more (N:=300000) (J:=16) (by omega) (by omega))
    go_wp2_with fail
    go_meet
    exact⟨_,_,_,_,_,_,_,_,_,_,_,_,_,_,hfin.out⟩
  case rest =>
   obtain⟨f,B,m,d,B',m',d',u,C,q,e,C',q',e',h8⟩:=hcut
   clear h7 hva
   go_upto_block 0 with (first
    |(go_at_call 39;refine (zu h8.sld.rd (by omega)).mono ?_;rintro e9 w9 ⟨y,rfl,-,-,hr9,hd9⟩))
   have h9:=h8.drawn hd9 hr9
   clear h8 hd9 hr9
   go_cut [] (fun wx=>∃ (f:Aut) (B:Option Addr) (m d:Nat) (B':Option Addr) (m' d':Nat) (u:Aut) (C:Option Addr) (q e:Nat) (C':Option Addr) (q' e':Nat),CfS w1 wx R 400000 80 w.heap.size G7 G9 g k c l p A n c1 A' n' c2 f B m d B' m' d' u C q e C' q' e')
   case first =>
    have c9:=h9.b9.cell
    have f9:=h9.b9.frozen
    by_cases hy0:y=0
    ·subst hy0
     go_wp2_with fail
     refine (zer h9.sld.rd (by omega) h9.o1 h9.bd.out.1 (by omega)).mono ?_
     rintro e1 w10 ⟨f2,D,i,j,D',i',j',rfl,od,gd,hr10,hd10⟩
     have h10:=h9.drawn hd10 hr10
     clear c9 f9
     have c9:=h10.b9.cell
     have f9:=h10.b9.frozen
     have hs9:=h9.sld.rd.lt
     exact yH14a3
    by_cases hy1:y=1
    ·subst hy1
     go_wp2_with fail
     refine (zer h9.sld.rd (by omega) h9.o2 h9.bd.out.2 (by omega)).mono ?_
     exact yH14a1
    have h0:((y:Int)==0)=false:=by simp;omega
    have h1:((y:Int)==1)=false:=by simp;omega
    by_cases hy2:y=2
    ·subst hy2
     go_wp2_with fail
     refine (spec_l3Draw h9.sld.rd (by omega)).mono ?_
     exact yH14a1
    have h2:((y:Int)==2)=false:=by simp;omega
    by_cases hy3:y=3
    ·subst hy3
     have hs9:=h9.sld.rd.lt
     go_wp2_with fail
     with_reducible refine (zbp h9.sld.rd (by omega) h9.o1 h9.bd.out.1 (by omega)).mono ?_
     rintro e1 wa ⟨fa,Da,ia,ja,Da',ia',ja',rfl,oa,ga,hra,hda⟩
     have ha:=h9.drawn hda hra
     have hsa:=hra.lt
     go_wp2_with fail
     with_reducible refine (zbp hra (by omega) (oa.less (by omega)) ga.out (by omega)).mono ?_
     rintro e1 wb ⟨fb,Db,ib,jb,Db',ib',jb',rfl,ob,gb,hrb,hdb⟩
     have hb':=ha.drawn hdb hrb
     have hsb:=hrb.lt
     go_wp2_with fail
     with_reducible refine (zbp hrb (by omega) (ob.less (by omega)) gb.out (by omega)).mono ?_
     rintro e1 w10 ⟨f2,D,i,j,D',i',j',rfl,od,gd,hr10,hd10⟩
     have h10:=hb'.drawn hd10 hr10
     clear c9 f9
     have c9:=h10.b9.cell
     have f9:=h10.b9.frozen
     exact yH14a3
    have h3:((y:Int)==3)=false:=by simp;omega
    go_wp2_with fail
    go_meet
    exact⟨_,_,_,_,_,_,_,_,_,_,_,_,_,_,h9.more (by omega) (by omega)⟩
   case rest =>
    obtain⟨f,B,m,d,B',m',d',u,C,q,e,C',q',e',h10⟩:=hcut
    clear h9
    obtain⟨F1,F2⟩:=h10.fin hk hl.out hx01 (by omega) hb.out
    have hG:=h10.hG
    have hRw:=h10.sld.hR
    have C7:∀ W,Frm (fun b=>b=w.heap.size) wc W→∀ j,W.cell? ⟨G7,j,none⟩=#[Value.int .i64 p.al,.slice A n c1,.slice A' n' c2][j]?:=fun W hW=>(h10.b7.frm hW (by omega)).cell
    have C9:∀ W,Frm (fun b=>b=w.heap.size) wc W→∀ j,W.cell? ⟨G9,j,none⟩=#[Value.int .i64 f.al,.slice B m d,.slice B' m' d',.int .i64 u.al,.slice C q e,.slice C' q' e'][j]?:=fun W hW=>(h10.b9.frm hW (by omega)).cell
    have kz1:=h10.z1.cell
    have fz1:=h10.z1.frozen
    have hf8:=hide (zaa wc w.heap.size (.int .i64 p.al) (.slice A n c1) (.slice A' n' c2))
    have kz2:=(h10.z2.frm hf8.out (by omega)).cell
    have fz2:=(h10.z2.frm hf8.out (by omega)).frozen
    have hS0:Frm (fun b=>b=w.heap.size) wc wc.drew:=⟨rfl,rfl,rfl,Nat.le_refl _,fun _ _ _=>rfl⟩
    clear h10 hG hRw
    go_upto_region 17 with fail
    refine zaH (fun Y=>Frm (fun b=>b=w.heap.size) wc Y) [5] (OrdU.of [0,1,2,3,4,5]) (by kernel_rfl) (by kernel_rfl) (by kernel_rfl) (by kernel_rfl) (by kernel_rfl) (fun _ _ _ _ _ h=>h) hS0 ?_
    refine uQ ?_
    (refine zb rfl rfl rfl (fun K hK=>?_);go_simp)
    refine hK.out _ _ hf8.out.drew ?_
    refine pT ?_
    (refine za rfl rfl rfl rfl (fun K hK=>?_))
    go_simp
    refine hK.out _ _ ?_
    refine zd ?_
    go_wp2_with fail
    have cf1:=F2.out.1.cell
    have cf2:=F2.out.2.cell
    exact bodyPost_ret (v:=.tuple #[.slice (some ⟨g,0,none⟩) k c,.agg #[.int .i64 p.al,.slice A n c1,.slice A' n' c2],.agg #[.int .i64 f.al,.slice B m d,.slice B' m' d',.int .i64 u.al,.slice C q e,.slice C' q' e']]) (by simp [results,Tryz.results15,go_sem,cf1,cf2]) rfl F1.out
end
end Go.Proofs.YtndhahednhnnbaaGreatDoor
namespace Go.Proofs.YtndhahednhnnbaaGreatDoor
open Go Go.ChangeShapes Go.WideShapes Go.ChangeAt Go.RowKit Go.Deep
def BytesAt (w:World) (A:Option Addr) (n c:Nat):Prop:=Bytes w A n∧n≤9223372036854775807∧n≤c∧c≤9223372036854775807
set_option maxRecDepth 100000 in
theorem arg_bytes {H:Type} {enc:TypeId × Value→H} {w:World} {spare:Nat→Bool} {held:Bool} {r:Reach} {b0:Nat} {v:Value} {d:DataW H} {p:List MemPlace}(hv:Value.okWide Tryz.prog w r b0 22 v)(h:DataW.Trod enc Tryz.prog w 0 spare held 22 v d p) :
  ∃ (A:Option Addr) (n c:Nat),v=.slice A n c∧BytesAt w A n c:=by
 obtain⟨a,l,k,rfl⟩:=okWide_slice Tryz.underlying22 hv
 obtain⟨fuel,hf⟩:=h
 rcases open_slice1 Tryz.underlying22 (by kernel_rfl) hf with ⟨h0,_⟩|⟨ad,len,cap,m,n,V,D,Pl,h0,hb,hl,hm,hmm,_,hx⟩
 ·simp [Value.cells] at h0
  obtain⟨rfl,rfl,rfl⟩:=h0
  exact⟨_,_,_,rfl,fun h=>absurd h (by omega),by omega,Nat.le_refl _,by omega⟩
 ·simp [Value.cells] at h0
  obtain⟨rfl,rfl,rfl⟩:=h0
  unfold maxLen at hm
  have hlm:l≤m:=by rw [hmm];split<;>omega
  refine⟨_,_,_,rfl,fun hn=>?_,by omega,hl,by omega⟩
  have h1:=(hx 0 (by omega)).1
  have hs:=zcq h1
  have hlt:=World.block_lt_of_cell? w _ h1
  rw [zdk] at hlt
  refine⟨ad.block,ad.off,by rw [← hs],hlt,fun j hj=>?_⟩
  obtain⟨h2,h3⟩:=hx j (by omega)
  obtain⟨b,hb1,_,hb3⟩:=DataW.trod_int Tryz.underlying5 h3
  have hV:V j=.int .u8 b:=by simpa using hb1
  rw [hV,hs,zO] at h2
  have hw:0≤b∧b<256:=by
   simp only [Lit.wf,Bool.and_eq_true,decide_eq_true_eq] at hb3
   have h4:IntKind.u8.min=0:=rfl
   have h5:IntKind.u8.max=255:=rfl
   omega
  refine⟨b.toNat,by omega,?_⟩
  rw [h2]
  have:((b.toNat:Nat):Int)=b:=by omega
  rw [this]
end Go.Proofs.YtndhahednhnnbaaGreatDoor
namespace Go.Proofs.YtndhahednhnnbaaGreatDoor
open Go Go.RowKit
set_option maxHeartbeats 2000000
def tailS (s:Sys):Sys:=⟨s.al,s.st,s.edges.drop 1⟩
theorem valid_tail {s:Sys}(h:zj s=true):zj (tailS s)=true:=by
 obtain⟨al,st,es⟩:=s
 cases es with
 |nil=>exact h
 |cons e r =>
  simp only [zj,tailS,Bool.and_eq_true,decide_eq_true_eq,List.all_eq_true,List.mem_range,List.drop_succ_cons,List.drop_zero,List.length_cons] at h ⊢
  refine⟨h.1,h.2.1,fun k hk=>?_⟩
  have h1:=h.2.2 (k+1) (by omega)
  unfold zaM at h1 ⊢
  simp only [List.getElem?_cons_succ] at h1
  cases hx:r[k]? with
  |none=>rw [hx] at h1;exact h1
  |some x =>
   rw [hx] at h1
   simp only [Bool.and_eq_true] at h1 ⊢
   refine⟨h1.1,?_⟩
   cases k with
   |zero=>simp
   |succ k =>
    have h2:=h1.2
    simp only [Nat.add_sub_cancel,List.getElem?_cons_succ] at h2 ⊢
    simpa using h2
theorem zQ.tail {w:World} {lo hi n:Nat} {ad:Addr} {s:Sys}(h:zQ w lo hi (some ad) (n+1) s):Reads w lo hi 3 (some (ad.add 3)) n (zp (s.edges.drop 1)):=by
 obtain⟨hn,hr⟩:=h
 obtain⟨ad',e,hl,hh,hc⟩:=hr.at_ (k:=0) (by omega)
 obtain rfl:ad=ad':=by injection e
 have hl1:=hr.length
 rw [zau] at hl1
 refine⟨by rw [zau,List.length_drop];omega,by have:=hr.len;omega,fun _=>⟨_,rfl,by rw [zdk];exact hl,by rw [zdk];exact hh,fun j u hu=>?_⟩⟩
 rw [addr_add]
 refine hc _ _ ?_
 cases hes:s.edges with
 |nil=>rw [hes] at hn;simp at hn
 |cons x r =>
  rw [hes] at hu
  simp only [List.drop_succ_cons,List.drop_zero] at hu
  rw [show 3+j=j+1+1+1 by omega]
  simp only [zp,List.getElem?_cons_succ]
  exact hu
theorem own_off {W:World} {base n c G:Nat} {A:Option Addr} {es:List Edg} {cs:Array Value}(hown:W.ownsRow base 126 3 (.slice A n c) n (zp es))(hB:Blk W G 39 cs):∀ b,(Value.slice A n c).ownBlock=some b→b≠G:=by
 rintro b hv rfl
 rcases hown.2 with ⟨h0,_⟩|⟨g,cap,cur,h0,_,hh,_⟩
 ·rw [h0] at hv;simp [Value.ownBlock] at hv
 ·rw [h0] at hv
  have hg:g=b:=by simpa [Value.ownBlock] using hv
  subst hg
  unfold Blk at hB
  rw [hh] at hB
  injection hB with hB
  injection hB with _ ht
  exact absurd ht (by decide)
def NewSys (w W:World) (G:Nat) (s:Sys):Prop:=∃ (A:Option Addr) (n c:Nat),Ext w W∧Blk W G 39 #[.int .i64 s.al,.int .i64 s.st,.slice A n c]∧zQ W w.heap.size W.heap.size A n s
theorem new_alloc {w W:World} {n c:Nat} {A:Option Addr} {s:Sys}(hx:Ext w W)(hn:n=s.edges.length)(hown:W.ownsRow w.heap.size 126 3 (.slice A n c) n (zp s.edges)):NewSys w (W.alloc (.cells #[.int .i64 s.al,.int .i64 s.st,.slice A n c] 39)) W.heap.size s:=
 ⟨A,n,c,hx.alloc _,Blk.new _ _ _,hn,Reads.of_own (zf hown ((Ext.refl _).alloc _))⟩
theorem new_fill {w W:World} {n c G:Nat} {A:Option Addr} {s:Sys}(hx:Ext w W)(hn:n=s.edges.length)(hown:W.ownsRow w.heap.size 126 3 (.slice A n c) n (zp s.edges))(hB:Blk W G 39 #[.int .i64 0,.int .i64 0,.slice none 0 0])(hG:w.heap.size≤G) :
  NewSys w (((W.setCell ⟨G,0,none⟩ (.int .i64 s.al)).setCell ⟨G,1,none⟩ (.int .i64 s.st)).setCell ⟨G,2,none⟩ (.slice A n c)) G s:=by
 have hf:=zbQ W G (.int .i64 s.al) (.int .i64 s.st) (.slice A n c)
 exact⟨A,n,c,((hx.setCell (p:=⟨G,0,none⟩) hG _).setCell (p:=⟨G,1,none⟩) hG _).setCell (p:=⟨G,2,none⟩) hG _,blk_fill hB rfl _ _ _,hn,Reads.of_own (ze hown hf (fun b hv hS=>own_off hown hB b hv hS))⟩
end Go.Proofs.YtndhahednhnnbaaGreatDoor
