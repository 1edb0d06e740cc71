/- spec.l2Wrong -/
import Derived.Deep.CutBlock
import Derived.Test.YtfcjhpodichpjaaGreatJ02
import Derived.Test.YtfcjhpodichpjaaGreatJ01
import Derived.Deep.DeepCutAuto
set_option maxHeartbeats 4000000
set_option maxRecDepth 100000
namespace Go.Proofs.YtfcjhpodichpjaaGreat
open Go Go.RowKit
theorem wrong_acc {R M G:Nat} {al st:Int} {es:List Edg} {w w1 W:World} {v:Value}(hr:Rd w R M)(hx:Ext w w1)(hR:R<w.heap.size)(hxW:Ext w1 W) (zgC:W.ownsRow w1.heap.size 92 3 v es.length (zo es))(hG:w1.heap.size≤G)(hB:Blk W G 43 #[.int .i64 al,.int .i64 st,v]) :
  Acc w w1 W R G M al st v es:=
 ⟨hB,zgC,hr.ext (hx.trans hxW),(hx.trans hxW).dr,hxW.toFrm,hR,hx.size,Nat.le_trans hx.size hG⟩
theorem edge_lit (w:World):(w.alloc (.cells #[] 92)).drew.ownsRow w.heap.size 92 3 (.slice (some ⟨w.heap.size,0,none⟩) 0 0) 0 []:=
 World.ownsRow_lit w #[] 0 (Nat.le_refl _) (by unfold maxLen;omega) rfl
theorem zfZ {W:World} {base n:Nat} {v:Value} {es:List Edg}(hn:n=es.length)(h:W.ownsRow base 92 3 v n (zo es)):W.ownsRow base 92 3 v es.length (zo es):=by
 subst hn
 exact h
theorem zeq {R M G:Nat} {al st:Int} {es:List Edg} {w w1 W:World} {v:Value}(hr:Rd w R M)(hx:Ext w w1)(hR:R<w.heap.size)(hxW:Ext w1 W) (zgC:W.ownsRow w1.heap.size 92 3 v es.length (zo es))(hB:Blk W G 43 #[.int .i64 0,.int .i64 0,.slice none 0 0])(hG:w1.heap.size≤G) :
  ∃ (G':Nat) (v':Value),Value.pointer (some ⟨G,0,none⟩)=.pointer (some ⟨G',0,none⟩)∧w1.heap.size≤G'∧Acc w w1 (((W.setCell ⟨G,0,none⟩ (.int .i64 al)).setCell ⟨G,1,none⟩ (.int .i64 st)).setCell ⟨G,2,none⟩ v) R G' M al st v' es:=by
 have hf:=zcM W G (.int .i64 al) (.int .i64 st) v
 have hne:∀ b,v.ownBlock=some b→b≠G:=by
  rintro b hv rfl
  rcases zgC.2 with ⟨rfl,_⟩|⟨g,cap,cur,rfl,_,hh,_⟩
  ·simp [Value.ownBlock] at hv
  ·have hg:g=b:=by simpa [Value.ownBlock] using hv
   subst hg
   unfold Blk at hB
   rw [hh] at hB
   injection hB with hB
   injection hB with _ ht
   exact absurd ht (by decide)
 refine⟨G,v,rfl,hG,wrong_acc hr hx hR ?_ (zd zgC hf (fun b hv hS=>hne b hv hS)) hG (by simpa using ((hB.set_ 0 (.int .i64 al)).set_ 1 (.int .i64 st)).set_ 2 v)⟩
 exact ((hxW.setCell (p:=⟨G,0,none⟩) hG _).setCell (p:=⟨G,1,none⟩) hG _).setCell (p:=⟨G,2,none⟩) hG _
theorem zeB {w0 wB W:World} {R G M:Nat} {al st:Int} {A:Option Addr} {n c:Nat} {es:List Edg}(h:Acc w0 wB W R G M al st (.slice A n c) es)(hn:0<n):∃ g,A=some ⟨g,0,none⟩:=by
 rcases h.own.2 with ⟨hv,h0⟩|⟨g,cap,cur,hv,_⟩
 ·injection hv with _ h2 _;omega
 ·injection hv with h1
  exact⟨g,h1⟩
theorem yJ03a3 {P:Prop}(h:P:=by
 have h1':=h1.out
 refine zF fun K hK=>?_
 go_simp
 refine hK.out _ _ ?_
 refine zR ?_
 go_wp2_with fail
 go_meet
 exact⟨_,_,_,_,h3.more (by omega),by have:=HnL.out;simp;omega⟩
 ):P:=h
theorem yJ03a4 {P:Prop}(h:P:=by
 refine zF fun K hK=>?_
 go_simp
 refine hK.out _ _ ?_
 refine zR ?_
 go_wp2_with fail
 go_meet
 exact⟨_,_,_,_,hst.more (by omega),by have:=HnL.out;simp;omega⟩
 ):P:=h
theorem zaY {R M n c L:Nat} {A:Option Addr} {s:Sys} {w:World}(h:Rd w R M)(hM:M≤900000000)(hs:zaT w R A n s)(hn:n≤L)(hL:L≤100000) :
  Calls Tryz.prog 74 #[.pointer (some ⟨R,0,none⟩),.agg #[.int .i64 s.al,.int .i64 s.st,.slice A n c]] w (RetA R (M+10) (L+1) w):=by
 have hRl:=h.lt
 have hr0:=hs.at_.2
 have hen:=za hs.1
 obtain⟨al,st,es⟩:=s
 simp only at hr0 hen ⊢
 have hx1:Ext w ((w.alloc (.cells #[.int .i64 al,.int .i64 st,.slice A n c] 43)).alloc (.cells #[.int .i64 0,.int .i64 0,.slice none 0 0] 43)):=((Ext.refl _).alloc _).alloc _
 obtain⟨bS,bZ⟩:=zM (Ext.refl ((w.alloc (.cells #[.int .i64 al,.int .i64 st,.slice A n c] 43)).alloc (.cells #[.int .i64 0,.int .i64 0,.slice none 0 0] 43)))
 have hsz:((w.alloc (.cells #[.int .i64 al,.int .i64 st,.slice A n c] 43)).alloc (.cells #[.int .i64 0,.int .i64 0,.slice none 0 0] 43)).heap.size=w.heap.size+2:=by simp
 have HbS:=za bS
 have HbZ:=za bZ
 have Hx1:=za hx1
 have Hsz:=za hsz
 clear bS bZ hx1 hsz hs
 go_enter Tryz.func74,Tryz.ntmps74
 go_wp2_with fail
 generalize (w.alloc (.cells #[.int .i64 al,.int .i64 st,.slice A n c] 43)).alloc (.cells #[.int .i64 0,.int .i64 0,.slice none 0 0] 43)=w1 at *
 have hz1:w.heap.size+2≤w1.heap.size:=by rw [Hsz.out];exact Nat.le_refl _
 go_upto_region 1 with fail
 go_cut [5] (fun s5 wx=>∃ (G:Nat) (v:Value),s5=.pointer (some ⟨G,0,none⟩)∧w1.heap.size≤G∧Acc w w1 wx R G M al st v es)
 case first =>
  have cS:∀ W,Ext w1 W→∀ q,W.cell? ⟨w.heap.size,q,none⟩=#[Value.int .i64 al,.int .i64 st,.slice A n c][q]?:=fun W hW=>(HbS.out.ext hW).cell
  refine tR (fun X=>Ext w1 X) [10] (Ord.app [0,1,2,3,5,6] (Ord.two 4 (Ord.two 7 (Ord.of [8,9,10]) 9 (Ord.of [7,8,10])) 9 (Ord.of [4,7,8,10]))) ?_
  refine tQ ?_
  refine zdQ (fun K hK=>?_) (fun K hK=>?_)
  ·go_simp
   have hx2:Ext w1 (w1.alloc (.cells #[] 92)).drew:=((Ext.refl w1).alloc _).drew
   have zgC:(w1.alloc (.cells #[] 92)).drew.ownsRow w1.heap.size 92 3 (.slice (some ⟨w1.heap.size,0,none⟩) 0 0) 0 []:=edge_lit w1
   have hz2:(w1.alloc (.cells #[] 92)).drew.heap.size=w1.heap.size+1:=by simp
   refine hK.out _ _ hx2 ?_
   refine pT ?_
   generalize (w1.alloc (.cells #[] 92)).drew=w2 at *
   refine zdQ (fun K hK=>?_) (fun K hK=>?_)
   ·refine zq _ _ _ _ rfl w1.heap.size 92 _ 3 24 Tryz.underlying41 zaE rfl (by decide) (.slice (some ⟨w1.heap.size,0,none⟩) 0 0) 0 [] rfl zgC (R+1) w.heap.size A n c (zo es) rfl (hr0.ext (Hx1.out.trans hx2)) (zcb es) (by unfold maxLen;omega) (by omega) hx2.size ?_
    intro v w3 zgN hg3 hat3
    rw [Nat.zero_add,List.nil_append] at zgN
    obtain⟨A3,c3,rfl⟩:=ze zgN
    have hx3:Ext w1 w3:=hx2.grown hg3 (fun k hk=>by simp [Value.ownBlock] at hk;omega)
    refine hK.out _ _ hx3 ?_
    refine pT ?_
    refine tQ ?_
    refine zu fun K hK=>?_;go_simp
    refine hK.out _ _ (hx3.alloc _) ?_
    refine pT ?_
    refine tQ ?_
    refine zF fun K hK=>?_
    go_simp
    refine hK.out _ _ ?_
    refine zR ?_
    go_wp2_with fail
    go_meet
    exact⟨w3.heap.size,.slice A3 n c3,rfl,hx3.size,wrong_acc h Hx1.out hRl (hx3.alloc _) (zf (zfZ hen.out zgN) ((Ext.refl _).alloc _)) hx3.size (Blk.new _ _ _)⟩
   ·go_simp
    have hx3:=hx2.alloc (.cells #[.int .i64 0,.int .i64 0,.slice none 0 0] 43)
    have hx23:=(Ext.refl w2).alloc (.cells #[.int .i64 0,.int .i64 0,.slice none 0 0] 43)
    have hb3:=Blk.new w2 43 #[.int .i64 0,.int .i64 0,.slice none 0 0]
    replace zgC:=zf zgC hx23
    refine hK.out _ _ hx3 ?_
    generalize w2.alloc (.cells #[.int .i64 0,.int .i64 0,.slice none 0 0] 43)=w2' at *
    rw [hz2] at hb3
    have hx2:=hx3
    refine pT ?_
    refine zu (fun K hK=>?_)
    refine zq _ _ _ _ rfl w1.heap.size 92 _ 3 24 Tryz.underlying41 zaE rfl (by decide) (.slice (some ⟨w1.heap.size,0,none⟩) 0 0) 0 [] rfl zgC (R+1) w.heap.size A n c (zo es) rfl (hr0.ext (Hx1.out.trans hx2)) (zcb es) (by unfold maxLen;omega) (by omega) hx2.size ?_
    intro v w3 zgN hg3 hat3
    rw [Nat.zero_add,List.nil_append] at zgN
    obtain⟨A3,c3,rfl⟩:=ze zgN
    have hx3:Ext w1 w3:=hx2.grown hg3 (fun k hk=>by simp [Value.ownBlock] at hk;omega)
    have hb4:Blk w3 (w1.heap.size+1) 43 #[.int .i64 0,.int .i64 0,.slice none 0 0]:=hb3.frm (Frm.of_grown hg3) (by simp [Value.ownBlock])
    refine hK.out _ _ hx3 ?_
    refine pT ?_
    refine tQ ?_
    have cE:=hb4.cell
    have fE:=hb4.frozen
    refine zF fun K hK=>?_
    go_simp
    refine hK.out _ _ ?_
    refine zR ?_
    go_wp2_with fail
    go_meet
    exact zeq h Hx1.out hRl hx3 (zfZ hen.out zgN) hb4 (by omega)
  ·go_simp
   have hx2:Ext w1 (w1.alloc (.cells #[.int .i64 0,.int .i64 0,.slice none 0 0] 43)).drew:=((Ext.refl w1).alloc _).drew
   have hb2:Blk (w1.alloc (.cells #[.int .i64 0,.int .i64 0,.slice none 0 0] 43)).drew w1.heap.size 43 #[.int .i64 0,.int .i64 0,.slice none 0 0]:=Blk.new w1 _ _
   have hz2:(w1.alloc (.cells #[.int .i64 0,.int .i64 0,.slice none 0 0] 43)).drew.heap.size=w1.heap.size+1:=by simp
   refine hK.out _ _ hx2 ?_
   refine pT ?_
   generalize (w1.alloc (.cells #[.int .i64 0,.int .i64 0,.slice none 0 0] 43)).drew=w2 at *
   refine zu fun K hK=>?_;go_simp
   have hx3:=hx2.alloc (.cells #[] 92)
   have zgC:(w2.alloc (.cells #[] 92)).ownsRow w1.heap.size 92 3 (.slice (some ⟨w1.heap.size+1,0,none⟩) 0 0) 0 []:=by
    rw [← hz2]
    exact World.ownsRow_lit w2 #[] 0 hx2.size (by unfold maxLen;omega) rfl
   have hb3:=hb2.ext ((Ext.refl w2).alloc (.cells #[] 92))
   refine hK.out _ _ hx3 ?_
   generalize w2.alloc (.cells #[] 92)=w3 at *
   refine pT ?_
   refine zu (fun K hK=>?_)
   refine zq _ _ _ _ rfl w1.heap.size 92 _ 3 24 Tryz.underlying41 zaE rfl (by decide) (.slice (some ⟨w1.heap.size+1,0,none⟩) 0 0) 0 [] rfl zgC (R+1) w.heap.size A n c (zo es) rfl (hr0.ext (Hx1.out.trans hx3)) (zcb es) (by unfold maxLen;omega) (by omega) hx3.size ?_
   intro v w4 hown4 hg4 hat4
   rw [Nat.zero_add,List.nil_append] at hown4
   obtain⟨A4,c4,rfl⟩:=ze hown4
   have hx4:Ext w1 w4:=hx3.grown hg4 (fun k hk=>by simp [Value.ownBlock] at hk;omega)
   have hb4:Blk w4 w1.heap.size 43 #[.int .i64 0,.int .i64 0,.slice none 0 0]:=hb3.frm (Frm.of_grown hg4) (by simp [Value.ownBlock])
   refine hK.out _ _ hx4 ?_
   refine pT ?_
   refine tQ ?_
   have cE:=hb4.cell
   have fE:=hb4.frozen
   refine zF fun K hK=>?_
   go_simp
   refine hK.out _ _ ?_
   refine zR ?_
   go_wp2_with fail
   go_meet
   exact zeq h Hx1.out hRl hx4 (zfZ hen.out hown4) hb4 (Nat.le_refl _)
 case rest =>
  obtain⟨G,v,rfl,hGw,zgD⟩:=hcut
  obtain⟨A1,n1,c1,rfl⟩:=zgD.form
  obtain⟨rfl,hsa⟩:=zgD.reads
  have hGz:=zgD.hG
  have cG:=zgD.blk.cell
  have hln:=hsa.2.len
  clear hsa
  have hnL:es.length≤L:=by have:=hen.out;omega
  have HnL:=za hnL
  go_wp2_with fail
  refine (zr (n:=es.length) zgD.rd (by omega)).mono ?_
  rintro e w3 ⟨k,rfl,hk1,hk0,hr3,hd3⟩
  replace zgD:=zgD.drawn hd3 hr3
  clear hd3 hr3 cG
  have Hk:=za hk1
  clear hk1 hk0
  go_wp2_with fail
  refine (zr (n:=30) zgD.rd (by omega)).mono ?_
  rintro e w4 ⟨y,rfl,-,-,hr4,hd4⟩
  replace zgD:=zgD.drawn hd4 hr4
  clear hd4 hr4
  go_upto_block 0 with fail
  go_cut [] (fun wx=>∃ (al st:Int) (v:Value) (fs:List Edg),Acc w w1 wx R G (M+10) al st v fs∧fs.length≤L+1)
  case first =>
   have Hen:=za hln
   clear hln
   have hcases:y=0∨y=1∨y=2∨y=3∨y=4∨y=5∨y=6∨7≤y:=by omega
   rcases hcases with hy|hy|hy|hy|hy|hy|hy|hy
   ·subst hy
    have hy0:True:=trivial
    go_wp2_with fail
    refine (zao [64,(-1),1,63] 4 #[.int .i64 64,.int .i64 (-1),.int .i64 1,.int .i64 63] rfl rfl (by omega) (by omega) zgD.rd (by omega)).mono ?_
    rintro e w5 ⟨x,-,rfl,hr5,hd5⟩
    replace zgD:=(zgD.ext ((Ext.refl _).alloc _)).drawn hd5 hr5
    have cG:=zgD.blk.cell
    have fG:=zgD.blk.frozen
    go_wp2_with fail
    go_meet
    exact⟨_,_,_,es,(zgD.setAl x).more (by omega),by have:=HnL.out;omega⟩
   ·subst hy
    have hy0:True:=trivial
    go_wp2_with fail
    refine (zao [0,17,(-1),16,1] 5 #[.int .i64 0,.int .i64 17,.int .i64 (-1),.int .i64 16,.int .i64 1] rfl rfl (by omega) (by omega) zgD.rd (by omega)).mono ?_
    rintro e w5 ⟨x,-,rfl,hr5,hd5⟩
    replace zgD:=(zgD.ext ((Ext.refl _).alloc _)).drawn hd5 hr5
    have cG:=zgD.blk.cell
    have fG:=zgD.blk.frozen
    go_wp2_with fail
    go_meet
    exact⟨_,_,_,es,(zgD.setSt x).more (by omega),by have:=HnL.out;omega⟩
   ·subst hy
    by_cases hn0:0<es.length
    ·have hk:=Hk.out (by omega)
     have hkl:k<es.length:=by omega
     obtain⟨g,rfl⟩:=zeB zgD hn0
     have hne0:es.length≠0:=by omega
     have hG1:R<w1.heap.size:=by have:=zgD.hR;have:=zgD.hB;omega
     have cG:∀ W,Dr R w4 W→∀ q,W.cell? ⟨G,q,none⟩=#[Value.int .i64 al,.int .i64 st,.slice (some ⟨g,0,none⟩) es.length c1][q]?:=fun W hW=>(zgD.blk.dr hW (by have:=zgD.hG;omega)).cell
     clear hk hne0
     go_wp2_with fail
     refine tR (fun X=>Dr R w4 X) [8] (Ord.of [0,1,2,3,4,5,6,7,8]) ?_
     refine tQ ?_
     refine zu fun K hK=>?_;go_simp
     refine hK.out _ _ ((Dr.refl R w4).drew.alloc _) ?_
     refine pT ?_
     refine tQ ?_
     refine zu fun K hK=>?_;go_simp
     refine (zao (w:=w4.drew) [(-1),16,0,2] 4 #[.int .i64 (-1),.int .i64 16,.int .i64 0,.int .i64 2] rfl rfl (by omega) (by omega) (zgD.rd.ext (Ext.refl _).drew) (by omega)).mono ?_
     rintro e w5 ⟨x,-,rfl,hr5,hd5⟩
     have hd45:Dr R w4 w5:=((Dr.refl R w4).drew.alloc _).trans hd5
     have hacc5:=zgD.drawn hd45 hr5
     refine hK.out _ _ hd45 ?_
     refine pT ?_
     refine tQ ?_
     have zgC:=hacc5.own
     obtain⟨o0,c0⟩:=zbe zgC (k*3) (by omega)
     have f0:=zgC.frozenAt (k*3)
     have hst:=hacc5.turn rfl (zcc (List.getElem?_eq_getElem hkl) x).1 (by simp)
     exact yJ03a4
    ·have hn1:es.length=0:=by omega
     clear hn0
     go_wp2_with fail
     go_meet
     exact⟨_,_,_,es,zgD.more (by omega),by have:=HnL.out;omega⟩
   ·subst hy
    by_cases hn0:0<es.length
    ·have hk:=Hk.out (by omega)
     have hkl:k<es.length:=by omega
     obtain⟨g,rfl⟩:=zeB zgD hn0
     have hne0:es.length≠0:=by omega
     have hG1:R<w1.heap.size:=by have:=zgD.hR;have:=zgD.hB;omega
     have cG:∀ W,Dr R w4 W→∀ q,W.cell? ⟨G,q,none⟩=#[Value.int .i64 al,.int .i64 st,.slice (some ⟨g,0,none⟩) es.length c1][q]?:=fun W hW=>(zgD.blk.dr hW (by have:=zgD.hG;omega)).cell
     clear hk hne0
     go_wp2_with fail
     refine tR (fun X=>Dr R w4 X) [8] (Ord.of [0,1,2,3,4,5,6,7,8]) ?_
     refine tQ ?_
     refine zu fun K hK=>?_;go_simp
     refine hK.out _ _ ((Dr.refl R w4).drew.alloc _) ?_
     refine pT ?_
     refine tQ ?_
     refine zu fun K hK=>?_;go_simp
     refine (zao (w:=w4.drew) [(-1),16,0,3] 4 #[.int .i64 (-1),.int .i64 16,.int .i64 0,.int .i64 3] rfl rfl (by omega) (by omega) (zgD.rd.ext (Ext.refl _).drew) (by omega)).mono ?_
     rintro e w5 ⟨x,-,rfl,hr5,hd5⟩
     have hd45:Dr R w4 w5:=((Dr.refl R w4).drew.alloc _).trans hd5
     have hacc5:=zgD.drawn hd45 hr5
     refine hK.out _ _ hd45 ?_
     refine pT ?_
     refine tQ ?_
     have zgC:=hacc5.own
     obtain⟨o0,c0⟩:=zbe zgC (k*3+2) (by omega)
     have f0:=zgC.frozenAt (k*3+2)
     have hst:=hacc5.turn rfl (zcc (List.getElem?_eq_getElem hkl) x).2.2 (by simp)
     exact yJ03a4
    ·have hn1:es.length=0:=by omega
     clear hn0
     go_wp2_with fail
     go_meet
     exact⟨_,_,_,es,zgD.more (by omega),by have:=HnL.out;omega⟩
   ·subst hy
    by_cases hn0:0<es.length
    ·have hk:=Hk.out (by omega)
     have hkl:k<es.length:=by omega
     obtain⟨g,rfl⟩:=zeB zgD hn0
     have hne0:es.length≠0:=by omega
     have hG1:R<w1.heap.size:=by have:=zgD.hR;have:=zgD.hB;omega
     have cG:∀ W,Dr R w4 W→∀ q,W.cell? ⟨G,q,none⟩=#[Value.int .i64 al,.int .i64 st,.slice (some ⟨g,0,none⟩) es.length c1][q]?:=fun W hW=>(zgD.blk.dr hW (by have:=zgD.hG;omega)).cell
     clear hk hne0
     go_wp2_with fail
     refine tR (fun X=>Dr R w4 X) [8] (Ord.of [0,1,2,3,4,5,6,7,8]) ?_
     refine tQ ?_
     refine zu fun K hK=>?_;go_simp
     refine hK.out _ _ ((Dr.refl R w4).drew.alloc _) ?_
     refine pT ?_
     refine tQ ?_
     refine zu fun K hK=>?_;go_simp
     refine (zao (w:=w4.drew) [(-1),6,70,5,0] 5 #[.int .i64 (-1),.int .i64 6,.int .i64 70,.int .i64 5,.int .i64 0] rfl rfl (by omega) (by omega) (zgD.rd.ext (Ext.refl _).drew) (by omega)).mono ?_
     rintro e w5 ⟨x,-,rfl,hr5,hd5⟩
     have hd45:Dr R w4 w5:=((Dr.refl R w4).drew.alloc _).trans hd5
     have hacc5:=zgD.drawn hd45 hr5
     refine hK.out _ _ hd45 ?_
     refine pT ?_
     refine tQ ?_
     have zgC:=hacc5.own
     obtain⟨o0,c0⟩:=zbe zgC (k*3+1) (by omega)
     have f0:=zgC.frozenAt (k*3+1)
     have hst:=hacc5.turn rfl (zcc (List.getElem?_eq_getElem hkl) x).2.1 (by simp)
     exact yJ03a4
    ·have hn1:es.length=0:=by omega
     clear hn0
     go_wp2_with fail
     go_meet
     exact⟨_,_,_,es,zgD.more (by omega),by have:=HnL.out;omega⟩
   ·subst hy
    by_cases hn0:0<es.length
    ·have hk:=Hk.out (by omega)
     have hkl:k<es.length:=by omega
     obtain⟨g,rfl⟩:=zeB zgD hn0
     have hne0:es.length≠0:=by omega
     have zgC:=zgD.own
     have hE:=za (List.getElem?_eq_getElem hkl)
     obtain⟨ed,hed⟩:∃ ed,Hid (es[k]?=some ed):=⟨_,hE.out⟩
     obtain⟨d0,d1,d2⟩:=zbA hed.out
     have cG:∀ W,Ext w4 W→∀ q,W.cell? ⟨G,q,none⟩=#[Value.int .i64 al,.int .i64 st,.slice (some ⟨g,0,none⟩) es.length c1][q]?:=fun W hW=>(zgD.blk.ext hW).cell
     have C0:∀ W,Ext w4 W→W.cell? ⟨g,k*3,none⟩=some (.int .i64 ed.fr):=fun W hW=>hW.cell_some (by rw [zgC.cellAt _ (by omega)];exact d0)
     have C1:∀ W,Ext w4 W→W.cell? ⟨g,k*3+1,none⟩=some (.int .i64 ed.le):=fun W hW=>hW.cell_some (by rw [zgC.cellAt _ (by omega)];exact d1)
     have C2:∀ W,Ext w4 W→W.cell? ⟨g,k*3+2,none⟩=some (.int .i64 ed.ta):=fun W hW=>hW.cell_some (by rw [zgC.cellAt _ (by omega)];exact d2)
     clear hk hne0 d0 d1 d2
     go_wp2_with fail
     refine tR (fun X=>Ext w4 X) [8,10] (Ord.of [0,1,2,3,4,5,6,7,8,9,10]) ?_
     refine tQ ?_
     refine zu fun K hK=>?_;go_simp
     refine hK.out _ _ ((Ext.refl _).drew.alloc _) ?_
     refine pT ?_
     refine zF fun K hK=>?_
     refine zaw w1 w4.drew _ _ _ rfl 92 _ 3 24 Tryz.underlying41 zaE rfl (by decide) (.slice (some ⟨g,0,none⟩) es.length c1) es.length (zo es) _ _ rfl rfl zgD.fr.size zgC rfl (by simp [Value.oneCell']) (by unfold maxLen;omega) (by omega) ?_
     intro g5 cap5 w5 zgO hg5 hat5 hlt5
     refine hK.out _ _ ?_
     refine pT ?_
     refine tQ ?_
     obtain⟨h1,h2,h3⟩:=(zgD.ext ((Ext.refl _).drew)).push (e:=ed) (W':=w5) zgO hg5 hat5
     exact yJ03a3
    ·have hn1:es.length=0:=by omega
     clear hn0
     go_wp2_with fail
     go_meet
     exact⟨_,_,_,es,zgD.more (by omega),by have:=HnL.out;omega⟩
   ·subst hy
    have hG1:R<w1.heap.size:=by have:=zgD.hR;have:=zgD.hB;omega
    have cG:∀ W,Dr R w4 W→∀ q,W.cell? ⟨G,q,none⟩=#[Value.int .i64 al,.int .i64 st,.slice A1 es.length c1][q]?:=fun W hW=>(zgD.blk.dr hW (by have:=zgD.hG;omega)).cell
    go_wp2_with fail
    refine tR (fun X=>Dr R w4 X) [10,12] (Ord.of [0,1,2,4,6,3,5,7,8,9,10,11,12]) ?_
    refine tQ ?_
    refine zu fun K hK=>?_;go_simp
    refine (zr (n:=4) (zgD.rd.ext (Ext.refl _).drew) (by omega)).mono ?_
    rintro e w5 ⟨x,rfl,-,-,hr5,hd5⟩
    replace hd5:=((Dr.refl R w4).drew).trans hd5
    refine hK.out _ _ hd5 ?_
    refine pT ?_
    refine tQ ?_
    refine zu fun K hK=>?_;go_simp
    refine (zr (n:=3) hr5 (by omega)).mono ?_
    rintro e w6 ⟨z,rfl,-,-,hr6,hd6⟩
    replace hd6:=hd5.trans hd6
    refine hK.out _ _ hd6 ?_
    refine pT ?_
    refine tQ ?_
    refine zu fun K hK=>?_;go_simp
    refine (zr (n:=4) hr6 (by omega)).mono ?_
    rintro e w7 ⟨u,rfl,-,-,hr7,hd7⟩
    replace hd7:=hd6.trans hd7
    refine hK.out _ _ hd7 ?_
    have hacc7:=zgD.drawn hd7 hr7
    refine pT ?_
    refine tQ ?_
    refine zu fun K hK=>?_;go_simp
    refine hK.out _ _ (hd7.alloc _) ?_
    refine pT ?_
    refine zF fun K hK=>?_
    refine zaw w1 w7 _ _ _ rfl 92 _ 3 24 Tryz.underlying41 zaE rfl (by decide) (.slice A1 es.length c1) es.length (zo es) _ _ rfl rfl hacc7.fr.size hacc7.own rfl (by simp [Value.oneCell']) (by unfold maxLen;have:=HnL.out;omega) (by have:=HnL.out;omega) ?_
    intro g8 cap8 w8 hown8 hg8 hat8 hlt8
    refine hK.out _ _ ?_
    refine pT ?_
    refine tQ ?_
    obtain⟨h1,h2,h3⟩:=hacc7.push (e:=⟨x,z,u⟩) (W':=w8) hown8 hg8 hat8
    exact yJ03a3
   ·have h0:((y:Int)==0)=false:=by simp;omega
    have h1:((y:Int)==1)=false:=by simp;omega
    have h2:((y:Int)==2)=false:=by simp;omega
    have h3:((y:Int)==3)=false:=by simp;omega
    have h4:((y:Int)==4)=false:=by simp;omega
    have h5:((y:Int)==5)=false:=by simp;omega
    have h6:((y:Int)==6)=false:=by simp;omega
    clear hy
    go_wp2_with fail
    go_meet
    exact⟨_,_,_,es,zgD.more (by omega),by have:=HnL.out;omega⟩
  case rest =>
   clear zgD
   obtain⟨al',st',v',fs,zgD,hlen⟩:=hcut
   obtain⟨A',n',c',rfl⟩:=zgD.form
   obtain⟨rfl,_⟩:=zgD.reads
   have cG:=zgD.blk.cell
   have bz2:=HbZ.out.frm zgD.fr (by omega)
   have cz:=bz2.cell
   have hzz:=HbZ.out.lt
   have fz:=bz2.frozen
   obtain⟨f1,f2,f3⟩:=zgD.fin (Z:=w.heap.size+1) (by omega) (by omega) (.int .i64 al') (.int .i64 st') (.slice A' fs.length c')
   have Hfin:=za (show RetA R (M+10) (L+1) w (.returned (.agg #[.int .i64 al',.int .i64 st',.slice A' fs.length c'])) _ from ⟨⟨al',st',fs⟩,A',fs.length,c',rfl,f1,⟨hlen,zgh zgD.own⟩,f2,f3⟩)
   clear f1 f2 f3
   go_wp2_with fail
   exact bodyPost_ret (v:=.agg #[.int .i64 al',.int .i64 st',.slice A' fs.length c']) (by simp [results,Tryz.results74,go_sem,cz]) rfl Hfin.out
def lenAt (W:World) (G:Nat):Nat:=match W.cell? ⟨G,1,none⟩ with|some (.slice _ n _)=>n|_=>0
theorem zaQ.lenAt {w0 W:World} {R G M n c:Nat} {A:Option Addr} {al:Int} {vA:Value} {rows:List Value} {ls:List (List Int)} {acc:List Bool}(h:zaQ w0 W R G M al (.slice A n c) rows ls vA acc):Go.Proofs.YtfcjhpodichpjaaGreat.lenAt W G=n:=by
 unfold Go.Proofs.YtfcjhpodichpjaaGreat.lenAt
 rw [h.blk.cell 1]
 rfl
theorem yJ03a5 {P:Prop}(h:P:=by
 have hn1:m=0:=by omega
 clear hn0
 have cG:=zgD.blk.cell
 go_wp2_with fail
 go_meet
 exact⟨_,_,_,_,_,_,zgD.more (by omega),za (Hb.out.more (by omega))⟩
 ):P:=h
theorem zay {R M L:Nat} {A:Option Addr} {n c:Nat} {A':Option Addr} {n' c':Nat} {b:Aut} {w:World}(h:Rd w R M)(hM:M≤900000000)(ho:zO w (R+1) A n c A' n' c' b)(hb:BdA L b)(hL:L≤100) :
  Calls Tryz.prog 27 #[.pointer (some ⟨R,0,none⟩),.agg #[.int .i64 b.al,.slice A n c,.slice A' n' c']] w (zes R (M+10) (BdA (L+13)) w):=by
 have hRl:=h.lt
 have hsz:=hb.size (by omega)
 go_enter Tryz.func27,Tryz.ntmps27
 have hx0:=(Ext.refl w).alloc (.cells #[.int .i64 b.al,.slice A n c,.slice A' n' c'] 26)
 have b0:=Blk.new w 26 #[.int .i64 b.al,.slice A n c,.slice A' n' c']
 have hs0:(w.alloc (.cells #[.int .i64 b.al,.slice A n c,.slice A' n' c'] 26)).heap.size=w.heap.size+1:=by simp
 have hx1:=hx0.alloc (.cells #[.int .i64 0,.slice none 0 0,.slice none 0 0] 26)
 have bz:=Blk.new (w.alloc (.cells #[.int .i64 b.al,.slice A n c,.slice A' n' c'] 26)) 26 #[.int .i64 0,.slice none 0 0,.slice none 0 0]
 replace b0:=b0.ext ((Ext.refl _).alloc (.cells #[.int .i64 0,.slice none 0 0,.slice none 0 0] 26))
 rw [hs0] at bz
 have c0:=b0.cell
 go_upto_region 1 with fail
 generalize (w.alloc (.cells #[.int .i64 b.al,.slice A n c,.slice A' n' c'] 26)).alloc (.cells #[.int .i64 0,.slice none 0 0,.slice none 0 0] 26)=w1 at *
 have hz1:=bz.lt
 go_wp2_with fail
 refine (zab (ho.ext hx1).reads hsz).mono ?_
 rintro e w2 ⟨B,m,d,B',m',d',rfl,zgC,hx2⟩
 obtain⟨rows,zgD⟩:=zaQ.of (R:=R) (M:=M) zgC (h.ext (hx1.trans hx2)) hx2.dr (by omega)
 have hG:=hx2.size
 have hm:m=b.next.length:=zgC.2.1
 have hmL:m≤100:=by have:=hb.1;omega
 have Hm:=za hm
 have Hb:=za hb
 clear zgC ho hm hb hsz
 go_upto_region 2 with fail
 generalize w2.alloc (.cells #[.int .i64 b.al,.slice B m d,.slice B' m' d'] 26)=w3 at *
 generalize w2.heap.size=G at *
 have cG:=zgD.blk.cell
 go_wp2_with fail
 refine (zr zgD.rd (by omega)).mono ?_
 rintro e w4 ⟨k,rfl,hk1,-,hr4,hd4⟩
 replace zgD:=zgD.drawn hd4 hr4
 have Hk:=za hk1
 clear hd4 hr4 cG hk1
 go_wp2_with fail
 refine (zr zgD.rd (by omega)).mono ?_
 rintro e w5 ⟨y,rfl,-,-,hr5,hd5⟩
 replace zgD:=zgD.drawn hd5 hr5
 clear hd5 hr5
 go_upto_block 0 with fail
 go_cut [] (fun wx=>∃ (al:Int) (v:Value) (rows:List Value) (ls:List (List Int)) (vA:Value) (acc:List Bool),zaQ w1 wx R G (M+10) al v rows ls vA acc∧Hid (BdL (L+13) ls acc))
 case first =>
  have hcases:y=0∨y=1∨y=2∨y=3∨y=4∨y=5∨6≤y:=by omega
  rcases hcases with hy|hy|hy|hy|hy|hy|hy
  ·subst hy
   have hy0:True:=trivial
   go_wp2_with fail
   refine (zao [64,(-1),1,63,0] 5 #[.int .i64 64,.int .i64 (-1),.int .i64 1,.int .i64 63,.int .i64 0] rfl rfl (by omega) (by omega) zgD.rd (by omega)).mono ?_
   rintro e w6 ⟨x,-,rfl,hr6,hd6⟩
   replace zgD:=(zgD.ext ((Ext.refl _).alloc _)).drawn hd6 hr6
   have cG:=zgD.blk.cell
   have fG:=zgD.blk.frozen
   go_wp2_with fail
   go_meet
   exact⟨_,_,_,_,_,_,(zgD.setAl x).more (by omega),za (Hb.out.more (by omega))⟩
  ·subst hy
   have hy0:True:=trivial
   have cG:=zgD.blk.cell
   have hs1:=zgD.dr.size
   have hal:b.acc.length≤100:=by have:=Hb.out.2.1;omega
   go_wp2_with (at_builtin;refine zar w1 w5 rfl _ _ _ rfl 4 _ 1 1 Tryz.underlying24 zaL rfl (by decide) (.slice B' m' d') b.acc.length (zax b.acc) _ _ rfl rfl hs1 zgD.acc rfl (by simp [Value.oneCell']) (by unfold maxLen;omega) (by omega) ?_;intro g6 cap6 w6 hown6 hg6 hat6 hlt6;obtain⟨q1,q2,q3⟩:=zgD.pushAcc (x:=true) hown6 hg6 hat6;have q1':=q1.out)
   go_meet
   exact⟨_,_,_,_,_,_,q3.more (by omega),za ⟨by have:=Hb.out.1;omega,by have:=Hb.out.2.1;simp;omega,fun l hl=>by have:=Hb.out.2.2 l hl;omega⟩⟩
  ·subst hy
   have hy0:True:=trivial
   by_cases hn0:0<m
   ·have hk:=Hk.out (by omega)
    have hkm:k<b.next.length:=by have:=Hm.out;omega
    obtain⟨l,hl⟩:∃ l,b.next[k]?=some l:=⟨_,List.getElem?_eq_getElem hkm⟩
    obtain⟨gN,rfl,hgN,-⟩:=zad (show w5.ownsRow w1.heap.size 53 1 (.slice B m d) m rows from by have:=zgD.nx;rw [← Hm.out] at this;exact this) hn0
    obtain⟨Ar,cr,hr,hcell,hor⟩:=zgD.row hl Hm.out
    have hll:l.length≤100:=by have:=Hb.out.2.2 l (List.mem_of_getElem? hl);omega
    have HL:=za hl
    have HR:=za hr
    have hs1:=zgD.dr.size
    have cG:∀ W,Frm (fun b=>(Value.slice Ar l.length cr).ownBlock=some b) w5 W→∀ q,W.cell? ⟨G,q,none⟩=#[Value.int .i64 b.al,.slice (some ⟨gN,0,none⟩) m d,.slice B' m' d'][q]?:=fun W hW=>(zgD.blk.frm hW (fun e=>zm hor zgD.blk (by decide) e rfl)).cell
    have cN:∀ W,Frm (fun b=>(Value.slice Ar l.length cr).ownBlock=some b) w5 W→W.cell? ⟨gN,k,none⟩=some (.slice Ar l.length cr):=fun W hW=>by
     have hx:W.ownsRow w1.heap.size 53 1 (.slice (some ⟨gN,0,none⟩) m d) b.next.length rows:=zd zgD.nx hW (fun b hb hS=>zaK zgD.nx hor (by decide) hb hS)
     rw [← Hm.out] at hx
     rw [hx.cellAt k (by omega),HR.out]
    have h00:Frm (fun b=>(Value.slice Ar l.length cr).ownBlock=some b) w5 w5.drew:=(Ext.refl w5).drew.toFrm
    clear hl hr hcell hkm
    go_wp2_with fail
    refine tR (fun X=>Frm (fun b=>(Value.slice Ar l.length cr).ownBlock=some b) w5 X) [11] (Ord.of [0,1,2,3,4,5,6,7,8,9,10,11]) ?_
    refine tQ ?_
    refine zu fun K hK=>?_;go_simp
    have hxd:=(Ext.refl w5).drew
    refine hK.out _ _ (hxd.alloc _).toFrm ?_
    refine pT ?_
    refine zu (fun K hK=>?_)
    refine zaw w1 w5.drew _ _ _ rfl 3 _ 1 8 Tryz.underlying53 zag rfl (by decide) (.slice Ar l.length cr) l.length (ints l) _ _ rfl rfl hs1 (zf hor hxd) rfl (by simp [Value.oneCell']) (by unfold maxLen;omega) (by omega) ?_
    intro g6 cap6 w6 hown6 hg6 hat6 hlt6
    obtain⟨q1,q2,q3,q4⟩:=(zgD.ext hxd).growRow (x:=0) Hm.out HR.out HL.out hown6 hg6 hat6
    have q2':=q2.out
    refine hK.out _ _ (hxd.toFrm.trans (Frm.of_grown hg6)) ?_
    refine pT ?_
    refine tQ ?_
    refine zF fun K hK=>?_
    go_simp
    refine hK.out _ _ ?_
    refine zR ?_
    go_wp2_with fail
    go_meet
    refine⟨_,_,_,_,_,_,q4.more (by omega),za ⟨by have:=Hb.out.1;rw [List.length_set];omega,by have:=Hb.out.2.1;omega,fun l' hl'=>?_⟩⟩
    rcases List.mem_or_eq_of_mem_set hl' with h1|h1
    ·have:=Hb.out.2.2 l' h1;omega
    ·have:=Hb.out.2.2 l (List.mem_of_getElem? HL.out)
     rw [h1];simp;omega
   ·exact yJ03a5
  ·subst hy
   have hy0:True:=trivial
   by_cases hn0:0<m
   ·have hk:=Hk.out (by omega)
    have hkm:k<b.next.length:=by have:=Hm.out;omega
    obtain⟨l,hl⟩:∃ l,b.next[k]?=some l:=⟨_,List.getElem?_eq_getElem hkm⟩
    obtain⟨gN,rfl,hgN,-⟩:=zad (show w5.ownsRow w1.heap.size 53 1 (.slice B m d) m rows from by have:=zgD.nx;rw [← Hm.out] at this;exact this) hn0
    obtain⟨Ar,cr,hr,hcell,hor⟩:=zgD.row hl Hm.out
    have hll:l.length≤100:=by have:=Hb.out.2.2 l (List.mem_of_getElem? hl);omega
    have HL:=za hl
    have HR:=za hr
    have Hbl:=za (Hb.out.2.2 l (List.mem_of_getElem? hl))
    clear hl hr hkm
    have cG:=zgD.blk.cell
    by_cases hl0:0<l.length
    ·obtain⟨gr,rfl,-,-⟩:=zad hor hl0
     go_wp2_with fail
     refine (zr (n:=l.length) zgD.rd (by omega)).mono ?_
     rintro e w6 ⟨j,rfl,hj1,-,hr6,hd6⟩
     have hjl:=hj1 (by omega)
     replace zgD:=zgD.drawn hd6 hr6
     have hRG:=zgD.hR
     have cN:∀ W,Dr R w6 W→W.cell? ⟨gN,k,none⟩=some (.slice (some ⟨gr,0,none⟩) l.length cr):=fun W hW=>(hd6.trans hW).cell_some hcell (by simp;omega)
     have hwr:IntKind.i64.wrap ((m:Int) - 1)=(m:Int) - 1:=by rw [IntKind.wrap_i64];omega
     clear cG hj1 hr6 hd6 hcell hor
     have cG:∀ W,Dr R w6 W→∀ q,W.cell? ⟨G,q,none⟩=#[Value.int .i64 b.al,.slice (some ⟨gN,0,none⟩) m d,.slice B' m' d'][q]?:=fun W hW=>(zgD.blk.dr hW (by have:=zgD.hG;omega)).cell
     go_wp2_with fail
     refine tR (fun X=>Dr R w6 X) [13] (Ord.of [0,1,2,3,4,5,6,7,8,9,10,11,12,13]) ?_
     refine tQ ?_
     refine zu fun K hK=>?_;go_simp
     refine hK.out _ _ ((Dr.refl R w6).drew.alloc _) ?_
     refine pT ?_
     refine zu fun K hK=>?_;go_simp
     refine (zao (w:=w6.drew) [(-1),m,(m:Int) - 1,0] 4 #[.int .i64 (-1),.int .i64 m,.int .i64 ((m:Int) - 1),.int .i64 0] rfl rfl (by omega) (by omega) (zgD.rd.ext (Ext.refl _).drew) (by omega)).mono ?_
     rintro e w7 ⟨x,-,rfl,hr7,hd7⟩
     have hd67:Dr R w6 w7:=((Dr.refl R w6).drew.alloc _).trans hd7
     have hacc7:=zgD.drawn hd67 hr7
     refine hK.out _ _ hd67 ?_
     refine pT ?_
     refine tQ ?_
     have zgC:=hacc7.rows.2.1 k _ l HR.out HL.out
     obtain⟨o0,c0⟩:=zbe zgC j (by omega)
     have f0:=zgC.frozenAt j
     have hst:=hacc7.setRow (k:=j) (x:=x) HR.out HL.out rfl
     refine zF fun K hK=>?_
     go_simp
     refine hK.out _ _ ?_
     refine zR ?_
     go_wp2_with fail
     go_meet
     refine⟨_,_,_,_,_,_,hst.more (by omega),za ⟨by have:=Hb.out.1;rw [List.length_set];omega,by have:=Hb.out.2.1;omega,fun l' hl'=>?_⟩⟩
     rcases List.mem_or_eq_of_mem_set hl' with h1|h1
     ·have:=Hb.out.2.2 l' h1;omega
     ·rw [h1];simp;have:=Hbl.out;omega
    ·have hl1:l.length=0:=by omega
     have hl2:¬ ((l.length:Int)>0):=by omega
     go_wp2_with fail
     go_meet
     exact⟨_,_,_,_,_,_,zgD.more (by omega),za (Hb.out.more (by omega))⟩
   ·exact yJ03a5
  ·subst hy
   have hy0:True:=trivial
   have hs1:=zgD.dr.size
   have hacc1:=zgD.ext ((Ext.refl w5).alloc (.cells #[] 53))
   have hn1:=World.ownsRow_lit (base:=w1.heap.size) (e:=53) (size:=1) w5 #[] 0 hs1 (by unfold maxLen;omega) rfl
   have cG:=hacc1.blk.cell
   have fG:=hacc1.blk.frozen
   go_upto_region 18 with fail
   replace hacc1:=hacc1.setNext hn1
   clear zgD cG fG hn1
   generalize (w5.alloc (.cells #[] 53)).setCell ⟨G,1,none⟩ (.slice (some ⟨w5.heap.size,0,none⟩) 0 0)=w6 at *
   have hs6:=hacc1.dr.size
   have hacc2:=hacc1.ext ((Ext.refl w6).alloc (.cells #[] 4))
   have hn2:=World.ownsRow_lit (base:=w1.heap.size) (e:=4) (size:=1) w6 #[] 0 hs6 (by unfold maxLen;omega) rfl
   have cG:=hacc2.blk.cell
   have fG:=hacc2.blk.frozen
   go_wp2_with fail
   go_meet
   exact⟨_,_,_,_,_,_,(hacc2.setMarks hn2).more (by omega),za ⟨by simp,by simp,fun l hl=>by simp at hl⟩⟩
  ·subst hy
   have hy0:True:=trivial
   by_cases hn0:0<m
   ·have hn0':((m:Int)>0):=by omega
    have hml:m=b.next.length:=Hm.out
    have hlm:m≤L:=by have:=Hb.out.1;omega
    have hst:∃ (i:Nat) (v:Value) (rows:List Value) (ls:List (List Int)) (vA:Value) (acc:List Bool),i≤13∧zaQ w1 w5 R G (M+2) b.al v rows ls vA acc∧Hid (ls.length=m+i)∧Hid (i=0∨m+i≤13)∧Hid (acc.length≤L+i)∧Hid (∀ l∈ls,l.length≤L):=
     ⟨0,_,_,_,_,_,by omega,zgD,za hml.symm,za (.inl rfl),za Hb.out.2.1,za Hb.out.2.2⟩
    clear hml zgD
    go_wp2_with fail
    go_loopw [] (fun wr=>∃ (i:Nat) (v:Value) (rows:List Value) (ls:List (List Int)) (vA:Value) (acc:List Bool),i≤13∧zaQ w1 wr R G (M+2) b.al v rows ls vA acc∧Hid (ls.length=m+i)∧Hid (i=0∨m+i≤13)∧Hid (acc.length≤L+i)∧Hid (∀ l∈ls,l.length≤L)) (fun wr=>200 - lenAt wr G)
    case atStart=>exact hst
    case round =>
     clear hst
     obtain⟨i,v,rows,ls,vA,acc,hi,zgD,hln,him,hal,hlL⟩:=hrel
     obtain⟨gN,cN,rfl,hgN⟩:∃ g c,v=.slice (some ⟨g,0,none⟩) (m+i) c∧w1.heap.size≤g:=by
      obtain⟨A9,c9,rfl⟩:=ze zgD.nx
      obtain⟨g,rfl,hg,-⟩:=zad zgD.nx (by have:=hln.out;omega)
      exact⟨g,c9,by rw [hln.out],hg⟩
     have hmes:=za zgD.lenAt
     by_cases hlt:m+i≤12
     ·have hlt':((m+i:Nat):Int)≤12:=by omega
      have h0l:0<ls.length:=by have:=hln.out;omega
      obtain⟨l,hl⟩:∃ l,ls[0]?=some l:=⟨_,List.getElem?_eq_getElem h0l⟩
      obtain⟨Ar,cr,hr,hcell,hor⟩:=zgD.row hl hln.out.symm
      have hll:l.length≤L:=hlL.out l (List.mem_of_getElem? hl)
      have Hll:=za hll
      have hlow:=za zgD.low
      have hs1:=zgD.dr.size
      have hrdl:=Reads.of_own hor
      have Hrd:=za (fun W (hW:Ext wr W)=>hrdl.ext hW)
      have cG:∀ W,Ext wr W→∀ q,W.cell? ⟨G,q,none⟩=#[Value.int .i64 b.al,.slice (some ⟨gN,0,none⟩) (m+i) cN,vA][q]?:=fun W hW=>(zgD.blk.ext hW).cell
      have cNx:∀ W,Ext wr W→W.cell? ⟨gN,0,none⟩=some (.slice Ar l.length cr):=fun W hW=>hW.cell_some hcell
      have hww:=Ext.refl wr
      have h0i:(0:Int)<((m+i:Nat):Int):=by omega
      have h0j:0<(m:Int)+(i:Int):=by omega
      clear hl hr hcell hor hrdl h0l
      go_upto_region 21 with fail
      refine uR (fun X=>Ext wr X) [9,11] (zG.of [0,1,3,4,5,6,2,7,8,9,10,11]) ?_
      refine uQ ?_
      have hx0:Ext wr wr.drew:=hww.drew
      generalize wr.drew=wd at *
      refine zb fun K hK=>?_;go_simp
      have hm:=World.ownsRow_made (base:=wr.heap.size) (e:=3) (size:=1) wd #[] 0 hx0.size (Nat.zero_le _) rfl
      have hx1:=(Ext.refl wd).alloc (.cells #[] 3)
      replace hx0:=hx0.trans hx1
      refine hK.out _ _ hx0 ?_
      generalize wd.alloc (.cells #[] 3)=wm at *
      generalize wd.heap.size=MM at *
      refine pT ?_
      refine uQ ?_
      refine zb (fun K hK=>?_)
      refine zq wm _ _ 53 rfl wr.heap.size 3 _ 1 8 Tryz.underlying53 zag rfl (by decide) (.slice (some ⟨MM,0,none⟩) 0 0) 0 [] rfl hm _ _ Ar l.length cr (ints l) rfl (Hrd.out _ hx0) (zeD _) (by unfold maxLen;omega) (by omega) hx0.size ?_
      intro vR w6 hrow hgR hatR
      rw [Nat.zero_add,List.nil_append] at hrow
      obtain⟨BR,dR,rfl⟩:=ze hrow
      have hww3:Ext wr w6:=hx0.grown hgR (fun k hk=>(hm.lt k hk).1)
      refine hK.out _ _ hww3 ?_
      refine pT ?_
      refine uQ ?_
      refine zb fun K hK=>?_;go_simp
      refine hK.out _ _ (hww3.alloc _) ?_
      refine pT ?_
      refine zg fun K hK=>?_
      have hacc6:=zgD.ext hww3
      have hnx6:=hacc6.nx
      rw [hln.out] at hnx6
      refine zaw w1 w6 _ _ _ rfl 53 _ 1 24 Tryz.underlying23 zbr rfl (by decide) (.slice (some ⟨gN,0,none⟩) (m+i) cN) (m+i) rows _ _ rfl rfl hacc6.dr.size hnx6 rfl (zaA _ _ _) (by unfold maxLen;omega) (by omega) ?_
      intro g7 cap7 w7 hown7 hg7 hat7 hlt7
      refine hK.out _ _ ?_
      refine pT ?_
      refine uQ ?_
      obtain⟨p1,p2,p3⟩:=hacc6.pushRow (l:=l) (W':=w7) (g:=g7) (cap:=cap7) hlow.out hs1 hrow (by rw [hln.out];exact hown7) hg7 hat7
      have p1':=p1.out
      rw [hln.out] at p3
      refine zg fun K hK=>?_
      go_simp
      refine hK.out _ _ ?_
      refine zh ?_
      generalize w7.setCell ⟨G,1,none⟩ (.slice (some ⟨g7,0,none⟩) (m+i+1) cap7)=w8 at *
      have cG8:=p3.blk.cell
      have hs8:=p3.dr.size
      have hal':=hal.out
      clear p1 p1' p2 cG cNx hown7 hg7 hat7 hacc6 zgD hnx6
      go_wp2_with (at_builtin;refine zar w1 w8 rfl _ _ _ rfl 4 _ 1 1 Tryz.underlying24 zaL rfl (by decide) vA acc.length (zax acc) _ _ rfl rfl hs8 p3.acc rfl (by simp [Value.oneCell']) (by unfold maxLen;omega) (by omega) ?_;intro g9 cap9 w9 hown9 hg9 hat9 hlt9;obtain⟨q1,q2,q3⟩:=p3.pushAcc (x:=false) hown9 hg9 hat9;have q1':=q1.out)
      go_roundw
      case rel=>exact⟨i+1,by omega,_,_,ls++[l],_,acc++[false],q3,za (by have:=hln.out;simp;omega),za (by omega),za (by simp;omega),za (fun l' hl'=>by
       rcases List.mem_append.1 hl' with h1|h1
       ·exact hlL.out l' h1
       ·rw [List.mem_singleton.1 h1];exact Hll.out)⟩
      case measure=>have h1:=q3.lenAt;have h2:=hmes.out;omega
     ·have hlt':¬ (((m+i:Nat):Int)≤12):=by omega
      have cG:=zgD.blk.cell
      go_wp2_with fail
      go_meet
      exact⟨_,_,_,_,_,_,zgD.more (by omega),za ⟨by have:=hln.out;have:=him.out;omega,by have:=hal.out;omega,fun l' hl'=>by have:=hlL.out l' hl';omega⟩⟩
   ·have hn1:m=0:=by omega
    clear hn0
    have cG:=zgD.blk.cell
    have hst:=zgD
    clear zgD
    go_wp2_with fail
    go_loopw [] (fun wr=>zaQ w1 wr R G (M+1+1) b.al (.slice B m d) rows b.next (.slice B' m' d') b.acc) (fun wr=>0)
    case atStart=>exact hst
    case round =>
     clear hst cG
     have cG:=hrel.blk.cell
     go_wp2_with fail
     go_meet
     exact⟨_,_,_,_,_,_,hrel.more (by omega),za (Hb.out.more (by omega))⟩
  ·have h0':((y:Int)==0)=false:=by simp;omega
   have h1':((y:Int)==1)=false:=by simp;omega
   have h2':((y:Int)==2)=false:=by simp;omega
   have h3':((y:Int)==3)=false:=by simp;omega
   have h4':((y:Int)==4)=false:=by simp;omega
   have h5':((y:Int)==5)=false:=by simp;omega
   go_wp2_with fail
   go_meet
   exact⟨_,_,_,_,_,_,zgD.more (by omega),za (Hb.out.more (by omega))⟩
 case rest =>
  clear zgD
  obtain⟨al,v,rows,ls,vA,acc,zgD,hbd⟩:=hcut
  obtain⟨A5,c5,rfl⟩:=ze zgD.nx
  obtain⟨B5,d5,rfl⟩:=ze zgD.acc
  obtain⟨f1,f2⟩:=zgD.fin (N:=M+10) (sh:=BdA (L+13)) hx1 bz rfl hRl (by omega) hz1 (by omega) hbd.out
  have bz5:=bz.dr zgD.dr (by omega)
  have cG:=zgD.blk.cell
  have cZ:=bz5.cell
  have fZ:=bz5.frozen
  go_wp2_with fail
  have cf:=f2.cell
  exact bodyPost_ret (v:=.agg #[.int .i64 al,.slice A5 ls.length c5,.slice B5 acc.length d5]) (by simp [results,Tryz.results27,go_sem,cf]) rfl f1.out
theorem zdN {R M L:Nat} {A:Option Addr} {n c:Nat} {A':Option Addr} {n' c':Nat} {b:Aut} {w:World}(h:Rd w R M)(hM:M≤900000000)(ho:zO w (R+1) A n c A' n' c' b)(hb:BdA L b)(hL:L≤100) :
  Calls Tryz.prog 37 #[.pointer (some ⟨R,0,none⟩),.agg #[.int .i64 b.al,.slice A n c,.slice A' n' c']] w (zes R (M+10) (BdA (L+1)) w):=by
 have hRl:=h.lt
 have hsz:=hb.size (by omega)
 go_enter Tryz.func37,Tryz.ntmps37
 have hx0:=(Ext.refl w).alloc (.cells #[.int .i64 b.al,.slice A n c,.slice A' n' c'] 26)
 have b0:=Blk.new w 26 #[.int .i64 b.al,.slice A n c,.slice A' n' c']
 have hs0:(w.alloc (.cells #[.int .i64 b.al,.slice A n c,.slice A' n' c'] 26)).heap.size=w.heap.size+1:=by simp
 have hx1:=hx0.alloc (.cells #[.int .i64 0,.slice none 0 0,.slice none 0 0] 26)
 have bz:=Blk.new (w.alloc (.cells #[.int .i64 b.al,.slice A n c,.slice A' n' c'] 26)) 26 #[.int .i64 0,.slice none 0 0,.slice none 0 0]
 replace b0:=b0.ext ((Ext.refl _).alloc (.cells #[.int .i64 0,.slice none 0 0,.slice none 0 0] 26))
 rw [hs0] at bz
 have c0:=b0.cell
 go_upto_region 1 with fail
 generalize (w.alloc (.cells #[.int .i64 b.al,.slice A n c,.slice A' n' c'] 26)).alloc (.cells #[.int .i64 0,.slice none 0 0,.slice none 0 0] 26)=w1 at *
 have hz1:=bz.lt
 go_wp2_with fail
 refine (zab (ho.ext hx1).reads hsz).mono ?_
 rintro e w2 ⟨B,m,d,B',m',d',rfl,zgC,hx2⟩
 obtain⟨rows,zgD⟩:=zaQ.of (R:=R) (M:=M) zgC (h.ext (hx1.trans hx2)) hx2.dr (by omega)
 have hG:=hx2.size
 have hm:m=b.next.length:=zgC.2.1
 have hm':m'=b.acc.length:=zgC.2.2.2
 have hmL:m≤100:=by have:=hb.1;omega
 have Hm:=za hm
 have Hb:=za hb
 subst hm'
 clear zgC ho hm hb hsz
 go_upto_region 2 with fail
 generalize w2.alloc (.cells #[.int .i64 b.al,.slice B m d,.slice B' b.acc.length d'] 26)=w3 at *
 generalize w2.heap.size=G at *
 have cG:=zgD.blk.cell
 by_cases hm0:m=0
 ·subst hm0
  have zgF:=zgD
  rw [show (Value.slice B' b.acc.length d')=Value.slice B' b.acc.length d' from rfl] at zgF
  obtain⟨f1,f2⟩:=zgF.fin (N:=M+10) (sh:=BdA (L+1)) hx1 bz rfl hRl (by omega) hz1 (by omega) (Hb.out.more (by omega))
  have bz5:=bz.dr zgD.dr (by omega)
  have cZ:=bz5.cell
  have fZ:=bz5.frozen
  clear zgF
  go_wp2_with fail
  have cf:=f2.cell
  exact bodyPost_ret (v:=.agg #[.int .i64 b.al,.slice B 0 d,.slice B' b.acc.length d']) (by simp [results,Tryz.results37,go_sem,cf]) rfl f1.out
 have hm1:((m:Int)==0)=false:=by simp;omega
 go_wp2_with fail
 refine (zr zgD.rd (by omega)).mono ?_
 rintro e w4 ⟨k,rfl,hk1,-,hr4,hd4⟩
 replace zgD:=zgD.drawn hd4 hr4
 have hkm:k<m:=by have:=hk1 (by omega);omega
 clear hd4 hr4 cG hk1 hm1
 go_wp2_with fail
 refine (zr zgD.rd (by omega)).mono ?_
 rintro e w5 ⟨y,rfl,-,-,hr5,hd5⟩
 replace zgD:=zgD.drawn hd5 hr5
 clear hd5 hr5
 go_upto_block 0 with fail
 go_cut [] (fun wx=>∃ (v:Value) (rows:List Value) (ls:List (List Int)) (vA:Value) (acc:List Bool),zaQ w1 wx R G (M+10) b.al v rows ls vA acc∧Hid (BdL (L+1) ls acc))
 case first =>
  have hkb:k<b.next.length:=by have:=Hm.out;omega
  obtain⟨l,hl⟩:∃ l,b.next[k]?=some l:=⟨_,List.getElem?_eq_getElem hkb⟩
  obtain⟨gN,rfl,hgN,-⟩:=zad (show w5.ownsRow w1.heap.size 53 1 (.slice B m d) m rows from by have:=zgD.nx;rw [← Hm.out] at this;exact this) (by omega)
  obtain⟨Ar,cr,hr,hcell,hor⟩:=zgD.row hl Hm.out
  have hll:l.length≤100:=by have:=Hb.out.2.2 l (List.mem_of_getElem? hl);omega
  have HL:=za hl
  have HR:=za hr
  have Hbl:=za (Hb.out.2.2 l (List.mem_of_getElem? hl))
  have hs1:=zgD.dr.size
  clear hl hr hkb
  have hcases:y=0∨y=1∨y=2∨3≤y:=by omega
  rcases hcases with hy|hy|hy|hy
  ·subst hy
   have hy0:True:=trivial
   have cG:∀ W,Ext w5 W→∀ q,W.cell? ⟨G,q,none⟩=#[Value.int .i64 b.al,.slice (some ⟨gN,0,none⟩) m d,.slice B' b.acc.length d'][q]?:=fun W hW=>(zgD.blk.ext hW).cell
   by_cases hka:k<b.acc.length
   ·obtain⟨gA,rfl,hgA,-⟩:=zad zgD.acc (by omega)
    obtain⟨x,hx⟩:∃ x,b.acc[k]?=some x:=⟨_,List.getElem?_eq_getElem hka⟩
    have hca:w5.cell? ⟨gA,k,none⟩=some (.bool x):=by rw [zgD.acc.cellAt k (by omega)];simp [zax,hx]
    have cA:∀ W,Ext w5 W→W.cell? ⟨gA,k,none⟩=some (.bool x):=fun W hW=>hW.cell_some hca
    have fA:∀ W,Ext w5 W→W.frozen? ⟨gA,k,none⟩=false:=fun W hW=>(zf zgD.acc hW).frozenAt k
    have hst:=(zgD.ext (Ext.refl w5).drew).setAcc (i:=k) (x:=!x) rfl
    have hka':(k:Int)<(b.acc.length:Int):=by omega
    have hww:=Ext.refl w5
    clear hca hx
    go_wp2_with fail
    refine tR (fun X=>Ext w5 X) [10] (Ord.of [0,1,2,3,4,5,6,7,8,9,10]) ?_
    refine tQ ?_
    refine zF fun K hK=>?_
    go_simp
    refine hK.out _ _ ?_
    refine zR ?_
    go_wp2_with fail
    go_meet
    exact⟨_,_,_,_,_,hst.more (by omega),za ⟨by have:=Hb.out.1;omega,by have:=Hb.out.2.1;rw [List.length_set];omega,fun l' hl'=>by have:=Hb.out.2.2 l' hl';omega⟩⟩
   ·have hka':¬ ((b.acc.length:Int)>(k:Int)):=by omega
    have hww:=Ext.refl w5
    go_wp2_with fail
    go_meet
    exact⟨_,_,_,_,_,zgD.more (by omega),za (Hb.out.more (by omega))⟩
  ·subst hy
   have hy0:True:=trivial
   by_cases hl0:0<l.length
   ·obtain⟨gr,rfl,-,-⟩:=zad hor hl0
    have hRG:=zgD.hR
    have cN:∀ W,Dr R w5 W→W.cell? ⟨gN,k,none⟩=some (.slice (some ⟨gr,0,none⟩) l.length cr):=fun W hW=>hW.cell_some hcell (by simp;omega)
    have cG:∀ W,Dr R w5 W→∀ q,W.cell? ⟨G,q,none⟩=#[Value.int .i64 b.al,.slice (some ⟨gN,0,none⟩) m d,.slice B' b.acc.length d'][q]?:=fun W hW=>(zgD.blk.dr hW (by have:=zgD.hG;omega)).cell
    have hd0:=Dr.refl R w5
    clear hcell hor
    go_wp2_with fail
    refine tR (fun X=>Dr R w5 X) [17] (Ord.of [0,1,2,3,4,5,6,7,8,9,10,11,13,14,12,15,16,17]) ?_
    refine tQ ?_
    refine zu fun K hK=>?_;go_simp
    refine (zr (n:=l.length) (zgD.rd.ext (Ext.refl _).drew) (by omega)).mono ?_
    rintro e w6 ⟨j,rfl,hj1,-,hr6,hd6⟩
    have hjl:=hj1 (by omega)
    have hd56:Dr R w5 w6:=(Dr.refl R w5).drew.trans hd6
    refine hK.out _ _ hd56 ?_
    refine pT ?_
    refine tQ ?_
    refine zu fun K hK=>?_;go_simp
    refine (zr (n:=m) hr6 (by omega)).mono ?_
    rintro e w7 ⟨x,rfl,hx1',-,hr7,hd7⟩
    have hd57:Dr R w5 w7:=hd56.trans hd7
    have hacc7:=zgD.drawn hd57 hr7
    refine hK.out _ _ hd57 ?_
    refine pT ?_
    refine tQ ?_
    have zgC:=hacc7.rows.2.1 k _ l HR.out HL.out
    obtain⟨o0,c0⟩:=zbe zgC j (by omega)
    have f0:=zgC.frozenAt j
    have hst:=hacc7.setRow (k:=j) (x:=x) HR.out HL.out rfl
    refine zF fun K hK=>?_
    go_simp
    refine hK.out _ _ ?_
    refine zR ?_
    go_wp2_with fail
    go_meet
    refine⟨_,_,_,_,_,hst.more (by omega),za ⟨by have:=Hb.out.1;rw [List.length_set];omega,by have:=Hb.out.2.1;omega,fun l' hl'=>?_⟩⟩
    rcases List.mem_or_eq_of_mem_set hl' with h1|h1
    ·have:=Hb.out.2.2 l' h1;omega
    ·rw [h1];simp;have:=Hbl.out;omega
   ·have hl1:l.length=0:=by omega
    have hl2:¬ ((l.length:Int)>0):=by omega
    have cG:=zgD.blk.cell
    go_wp2_with fail
    go_meet
    exact⟨_,_,_,_,_,zgD.more (by omega),za (Hb.out.more (by omega))⟩
  ·subst hy
   have hy0:True:=trivial
   have cG:∀ W,Ext w5 W→∀ q,W.cell? ⟨G,q,none⟩=#[Value.int .i64 b.al,.slice (some ⟨gN,0,none⟩) m d,.slice B' b.acc.length d'][q]?:=fun W hW=>(zgD.blk.ext hW).cell
   have cNx:∀ W,Ext w5 W→W.cell? ⟨gN,k,none⟩=some (.slice Ar l.length cr):=fun W hW=>hW.cell_some hcell
   have hww:=Ext.refl w5
   by_cases h1:12≤m
   ·have h1':¬ ((m:Int)<12):=by omega
    go_wp2_with fail
    go_meet
    exact⟨_,_,_,_,_,zgD.more (by omega),za (Hb.out.more (by omega))⟩
   have h1':(m:Int)<12:=by omega
   by_cases h2:b.acc.length≤k
   ·have h2':¬ ((b.acc.length:Int)>(k:Int)):=by omega
    go_wp2_with fail
    go_meet
    exact⟨_,_,_,_,_,zgD.more (by omega),za (Hb.out.more (by omega))⟩
   have h2':(b.acc.length:Int)>(k:Int):=by omega
   by_cases h3:l.length≤0
   ·have h3':¬ ((l.length:Int)>0):=by omega
    have h3'':l.length=0:=by omega
    go_wp2_with fail
    go_meet
    exact⟨_,_,_,_,_,zgD.more (by omega),za (Hb.out.more (by omega))⟩
   have hmes:=za zgD.lenAt
   have hrdl:=Reads.of_own hor
   have Hrd:=za (fun W (hW:Ext w5 W)=>hrdl.ext hW)
   have hlow:=za zgD.low
   have hor':=za hor
   clear hcell hor hrdl
   go_upto_region 15 with fail
   refine uR (fun X=>Ext w5 X) [10,12] (zG.of [0,1,3,4,5,6,7,2,8,9,10,11,12]) ?_
   refine uQ ?_
   have hx0:Ext w5 w5.drew:=hww.drew
   generalize w5.drew=wd at *
   refine zb fun K hK=>?_;go_simp
   have hm:=World.ownsRow_made (base:=w5.heap.size) (e:=3) (size:=1) wd #[] 0 hx0.size (Nat.zero_le _) rfl
   have hx1:=(Ext.refl wd).alloc (.cells #[] 3)
   replace hx0:=hx0.trans hx1
   refine hK.out _ _ hx0 ?_
   generalize wd.alloc (.cells #[] 3)=wm at *
   generalize wd.heap.size=MM at *
   refine pT ?_
   refine uQ ?_
   refine zb (fun K hK=>?_)
   refine zq wm _ _ 53 rfl w5.heap.size 3 _ 1 8 Tryz.underlying53 zag rfl (by decide) (.slice (some ⟨MM,0,none⟩) 0 0) 0 [] rfl hm _ _ Ar l.length cr (ints l) rfl (Hrd.out _ hx0) (zeD _) (by unfold maxLen;omega) (by omega) hx0.size ?_
   intro vR w6 hrow hgR hatR
   rw [Nat.zero_add,List.nil_append] at hrow
   obtain⟨BR,dR,rfl⟩:=ze hrow
   have hww3:Ext w5 w6:=hx0.grown hgR (fun k hk=>(hm.lt k hk).1)
   refine hK.out _ _ hww3 ?_
   refine pT ?_
   refine uQ ?_
   refine zb fun K hK=>?_;go_simp
   refine hK.out _ _ (hww3.alloc _) ?_
   refine pT ?_
   refine zg fun K hK=>?_
   have hacc6:=zgD.ext hww3
   have hnx6:=hacc6.nx
   rw [← Hm.out] at hnx6
   refine zaw w1 w6 _ _ _ rfl 53 _ 1 24 Tryz.underlying23 zbr rfl (by decide) (.slice (some ⟨gN,0,none⟩) m d) m rows _ _ rfl rfl hacc6.dr.size hnx6 rfl (zaA _ _ _) (by unfold maxLen;omega) (by omega) ?_
   intro g7 cap7 w7 hown7 hg7 hat7 hlt7
   refine hK.out _ _ ?_
   refine pT ?_
   refine uQ ?_
   obtain⟨p1,p2,p3⟩:=hacc6.pushRow (l:=l) (W':=w7) (g:=g7) (cap:=cap7) hlow.out hs1 hrow (by rw [← Hm.out];exact hown7) hg7 hat7
   have p1':=p1.out
   rw [← Hm.out] at p3
   refine zg fun K hK=>?_
   go_simp
   refine hK.out _ _ ?_
   refine zh ?_
   generalize w7.setCell ⟨G,1,none⟩ (.slice (some ⟨g7,0,none⟩) (m+1) cap7)=w8 at *
   have hs8:=p3.dr.size
   clear p1 p1' p2 cG cNx hown7 hg7 hat7 hacc6 zgD hnx6 hww3 hx0 hx1
   obtain⟨gA,rfl,hgA,-⟩:=zad p3.acc (by omega)
   obtain⟨x,hx⟩:∃ x,b.acc[k]?=some x:=⟨_,List.getElem?_eq_getElem (by omega)⟩
   have hca:w8.cell? ⟨gA,k,none⟩=some (.bool x):=by rw [p3.acc.cellAt k (by omega)];simp [zax,hx]
   have cA:∀ W,Ext w8 W→W.cell? ⟨gA,k,none⟩=some (.bool x):=fun W hW=>hW.cell_some hca
   have cG8:∀ W,Ext w8 W→∀ q,W.cell? ⟨G,q,none⟩=#[Value.int .i64 b.al,.slice (some ⟨g7,0,none⟩) (m+1) cap7,.slice (some ⟨gA,0,none⟩) b.acc.length d'][q]?:=fun W hW=>(p3.blk.ext hW).cell
   have hww:=Ext.refl w8
   clear hca hx
   go_upto_region 16 with fail
   refine uR (fun X=>Ext w8 X) [8,10] (zG.of [0,1,2,3,4,5,6,7,8,9,10]) ?_
   refine uQ ?_
   have hx8:Ext w8 w8.drew:=hww.drew
   generalize w8.drew=wd2 at *
   refine zb fun K hK=>?_;go_simp
   refine hK.out _ _ (hx8.alloc _) ?_
   refine pT ?_
   refine zg fun K hK=>?_
   have hacc8:=p3.ext hx8
   refine zaw w1 wd2 _ _ _ rfl 4 _ 1 1 Tryz.underlying24 zaL rfl (by decide) (.slice (some ⟨gA,0,none⟩) b.acc.length d') b.acc.length (zax b.acc) _ _ rfl rfl hacc8.dr.size hacc8.acc rfl (by simp [Value.oneCell']) (by unfold maxLen;have:=Hb.out.2.1;omega) (by have:=Hb.out.2.1;omega) ?_
   intro g9 cap9 w9 hown9 hg9 hat9 hlt9
   refine hK.out _ _ ?_
   refine pT ?_
   refine uQ ?_
   obtain⟨q1,q2,q3⟩:=hacc8.pushAcc (x:=x) hown9 hg9 hat9
   have q1':=q1.out
   refine zg fun K hK=>?_
   go_simp
   refine hK.out _ _ ?_
   refine zh ?_
   generalize w9.setCell ⟨G,2,none⟩ (.slice (some ⟨g9,0,none⟩) (b.acc.length+1) cap9)=w10 at *
   clear q1 q1' q2 cG8 cA hacc8 p3 hown9 hg9 hat9 hx8
   have hkl:k<rows.length:=by have:=q3.rows.1;simp at this;have:=Hm.out;omega
   have hR2:(rows++[Value.slice BR l.length dR])[k]?=some (.slice Ar l.length cr):=by rw [List.getElem?_append_left hkl];exact HR.out
   have hL2:(b.next++[l])[k]?=some l:=by rw [List.getElem?_append_left (by have:=Hm.out;omega)];exact HL.out
   have zgC:=q3.rows.2.1 k _ l hR2 hL2
   obtain⟨gr,rfl,-,-⟩:=zad zgC (by omega)
   obtain⟨o0,c0⟩:=zbe zgC 0 (by omega)
   have f0:=zgC.frozenAt 0
   have hst:=q3.setRow (k:=0) (x:=m) hR2 hL2 rfl
   have cG:=q3.blk.cell
   have cN:w10.cell? ⟨g7,k,none⟩=some (.slice (some ⟨gr,0,none⟩) l.length cr):=by
    have:=q3.nx
    rw [List.length_append,List.length_singleton,← Hm.out] at this
    rw [this.cellAt k (by omega)];exact hR2
   clear zgC hR2 hL2
   go_wp2_with fail
   go_meet
   refine⟨_,_,_,_,_,hst.more (by omega),za ⟨by have:=Hb.out.1;rw [List.length_set];simp;omega,by have:=Hb.out.2.1;simp;omega,fun l' hl'=>?_⟩⟩
   rcases List.mem_or_eq_of_mem_set hl' with h1|h1
   ·rcases List.mem_append.1 h1 with h1|h1
    ·have:=Hb.out.2.2 l' h1;omega
    ·rw [List.mem_singleton.1 h1];have:=Hbl.out;omega
   ·rw [h1];simp;have:=Hbl.out;omega
  ·have h0':((y:Int)==0)=false:=by simp;omega
   have h1':((y:Int)==1)=false:=by simp;omega
   have h2':((y:Int)==2)=false:=by simp;omega
   go_wp2_with fail
   go_meet
   exact⟨_,_,_,_,_,zgD.more (by omega),za (Hb.out.more (by omega))⟩
 case rest =>
  clear zgD
  obtain⟨v,rows,ls,vA,acc,zgD,hbd⟩:=hcut
  obtain⟨A5,c5,rfl⟩:=ze zgD.nx
  obtain⟨B5,d5,rfl⟩:=ze zgD.acc
  obtain⟨f1,f2⟩:=zgD.fin (N:=M+10) (sh:=BdA (L+1)) hx1 bz rfl hRl (by omega) hz1 (by omega) hbd.out
  have bz5:=bz.dr zgD.dr (by omega)
  have cG:=zgD.blk.cell
  have cZ:=bz5.cell
  have fZ:=bz5.frozen
  go_wp2_with fail
  have cf:=f2.cell
  exact bodyPost_ret (v:=.agg #[.int .i64 b.al,.slice A5 ls.length c5,.slice B5 acc.length d5]) (by simp [results,Tryz.results37,go_sem,cf]) rfl f1.out
theorem own_typ {w:World} {base:Nat} {e:TypeId} {size n b:Nat} {v:Value} {xs:List Value}(h:w.ownsRow base e size v n xs)(hb:v.ownBlock=some b):∃ cur,w.heap[b]?=some (.cells cur e (0,0)):=by
 rcases h.2 with ⟨rfl,_⟩|⟨g,cap,cur,rfl,_,hh,_⟩
 ·simp [Value.ownBlock] at hb
 ·have:g=b:=by simpa [Value.ownBlock] using hb
  subst this
  exact⟨cur,hh⟩
theorem zO.frmT {S:Nat→Prop} {w w':World} {base:Nat} {A:Option Addr} {n c:Nat} {A':Option Addr} {n' c':Nat} {a:Aut}(h:zO w base A n c A' n' c' a)(hb:Frm S w w')
  (hS:∀ k,S k→∀ cs t,w.heap[k]?=some (.cells cs t (0,0))→t≠3∧t≠53∧t≠4):zO w' base A n c A' n' c' a:=by
 obtain⟨⟨rows,h1,h2⟩,h3,h4,h5⟩:=h
 refine⟨⟨rows,zd h1 hb (fun b hv hs=>?_),h2.frm hb (fun i r b hr hb hs=>?_)⟩,h3,zd h4 hb (fun b hv hs=>?_),h5⟩
 ·obtain⟨cs,hc⟩:=own_typ h1 hv
  exact (hS b hs cs _ hc).2.1 rfl
 ·obtain⟨l',_,ho⟩:=h2.row hr
  obtain⟨cs,hc⟩:=own_typ ho hb
  exact (hS b hs cs _ hc).1 rfl
 ·obtain⟨cs,hc⟩:=own_typ h4 hv
  exact (hS b hs cs _ hc).2.2 rfl
theorem zO.farT {w w':World} {base G:Nat} {A:Option Addr} {n c:Nat} {A':Option Addr} {n' c':Nat} {a:Aut} {cs:Array Value} {t:TypeId}(h:zO w base A n c A' n' c' a)(hB:Blk w G t cs)(hf:Frm (fun k=>k=G) w w')(ht:t≠3∧t≠53∧t≠4):zO w' base A n c A' n' c' a:=
 h.frmT hf (fun k hk cs' t' hh=>by
  subst hk
  unfold Blk at hB
  rw [hB] at hh
  injection hh with hh
  injection hh with _ h2
  subst h2
  exact ht)
theorem Dr.far {R Z:Nat} {a b c:World}(h:Dr R a b)(hf:Frm (fun k=>k=Z) b c)(hZ:a.heap.size≤Z):Dr R a c:=
 ⟨hf.os.trans h.os,hf.tape.trans h.tape,hf.output.trans h.output,Nat.le_trans h.size hf.size,fun k hk hn=>(hf.block k (Nat.lt_of_lt_of_le hk h.size) (fun e=>by omega)).trans (h.block k hk hn)⟩
theorem zT (W:World) (Z:Nat) (u0 u1 u2:Value):Frm (fun k=>k=Z) W (((W.setCell ⟨Z,0,none⟩ u0).setCell ⟨Z,1,none⟩ u1).setCell ⟨Z,2,none⟩ u2):=
 ((Frm.setCell W Z 0 u0).trans (Frm.setCell _ Z 1 u1)).trans (Frm.setCell _ Z 2 u2)
theorem zah {w:World} {Z:Nat} {cs:Array Value} {t:TypeId}(h:Blk w Z t cs)(hc:cs.size=3) (u0 u1 u2:Value):Blk (((w.setCell ⟨Z,0,none⟩ u0).setCell ⟨Z,1,none⟩ u1).setCell ⟨Z,2,none⟩ u2) Z t #[u0,u1,u2]:=by
 obtain⟨l⟩:=cs
 match l,hc with
 |[a,b,c],_=>simpa using ((h.set_ 0 u0).set_ 1 u1).set_ 2 u2
def autZ:Aut:=⟨0,[],[]⟩
theorem zgg (w:World) (base:Nat):zO w base none 0 0 none 0 0 autZ:=⟨⟨[],World.ownsRow_nil _ _ _ _,zB.nil _ _⟩,rfl,World.ownsRow_nil _ _ _ _,rfl⟩
theorem bd_autZ (K:Nat):BdA K autZ:=⟨Nat.zero_le _,Nat.zero_le _,fun l hl=>by simp [autZ] at hl⟩
structure zaZ (w0 W:World) (R M L K:Nat) (s:Sys) (A:Option Addr) (n c:Nat) (t:Sys) (C:Option Addr) (k c2:Nat) (p:Aut) (B:Option Addr) (m d:Nat) (B':Option Addr) (m' d':Nat):Prop where
 is:zaT W R A n s
 it:zaT W R C k t
 ip:zO W (R+1) B m d B' m' d' p
 ns:(n≤L∧n≤c)∧(k≤L∧k≤c2)
 bd:Hid (BdA K p)
 rd:Rd W R M
 dr:Dr R w0 W
 hR:R<w0.heap.size
section
variable {w0 W W':World} {R M L K N J H Z n c k c2 m d m' d':Nat} {s t:Sys} {p:Aut} {A B B' C:Option Addr}
theorem zaZ.drawn (h:zaZ w0 W R M L K s A n c t C k c2 p B m d B' m' d')(hd:Dr R W W')(hr:Rd W' R N):zaZ w0 W' R N L K s A n c t C k c2 p B m d B' m' d':=
 ⟨h.is.dr hd,h.it.dr hd,h.ip.keep hd (fun b h1 e=>by omega),h.ns,h.bd,hr,h.dr.trans hd,h.hR⟩
theorem zaZ.ext (h:zaZ w0 W R M L K s A n c t C k c2 p B m d B' m' d')(hx:Ext W W'):zaZ w0 W' R M L K s A n c t C k c2 p B m d B' m' d':=h.drawn hx.dr (h.rd.ext hx)
theorem zaZ.more (h:zaZ w0 W R M L K s A n c t C k c2 p B m d B' m' d')(hM:M≤N)(hL:L≤J)(hK:K≤H):zaZ w0 W R N J H s A n c t C k c2 p B m d B' m' d':=
 ⟨h.is,h.it,h.ip,by have:=h.ns;omega,za (BdL.more h.bd.out hK),h.rd.more hM,h.dr,h.hR⟩
theorem zaZ.far {ty:TypeId} {cs:Array Value}(h:zaZ w0 W R M L K s A n c t C k c2 p B m d B' m' d')(hB:Blk W Z ty cs)(hf:Frm (fun k=>k=Z) W W')(hZ:w0.heap.size≤Z)(h1:ty≠92)(h2:ty≠3∧ty≠53∧ty≠4):zaZ w0 W' R M L K s A n c t C k c2 p B m d B' m' d':=
 ⟨h.is.far hB h1 hf,h.it.far hB h1 hf,h.ip.farT hB hf h2,h.ns,h.bd,h.rd.frm hf (fun k hk e=>by have:=h.hR;omega),h.dr.far hf hZ,h.hR⟩
theorem zaZ.less {w1:World}(h:zaZ w0 W R M L K s A n c t C k c2 p B m d B' m' d')(hd:Dr R w1 w0)(hR:R<w1.heap.size):zaZ w1 W R M L K s A n c t C k c2 p B m d B' m' d':=
 ⟨h.is,h.it,h.ip,h.ns,h.bd,h.rd,hd.trans h.dr,hR⟩
end
def Ne6 (a b c d e f:Nat):Prop:=(a≠b∧a≠c∧a≠d∧a≠e∧a≠f)∧(b≠c∧b≠d∧b≠e∧b≠f)∧(c≠d∧c≠e∧c≠f)∧(d≠e∧d≠f)∧e≠f
structure Tri (w0 W:World) (R M L K:Nat) (Zs Zt Zp Gs Gt Gp:Nat) (s:Sys) (A:Option Addr) (n c:Nat) (t:Sys) (C:Option Addr) (k c2:Nat) (p:Aut) (B:Option Addr) (m d:Nat) (B':Option Addr) (m' d':Nat):Prop where
 at_:zaZ w0 W R M L K s A n c t C k c2 p B m d B' m' d'
 zs:Blk W Zs 43 #[.int .i64 0,.int .i64 0,.slice none 0 0]
 zt:Blk W Zt 43 #[.int .i64 0,.int .i64 0,.slice none 0 0]
 zp:Blk W Zp 26 #[.int .i64 0,.slice none 0 0,.slice none 0 0]
 bs:Blk W Gs 43 #[.int .i64 s.al,.int .i64 s.st,.slice A n c]
 bt:Blk W Gt 43 #[.int .i64 t.al,.int .i64 t.st,.slice C k c2]
 bp:Gp=0∨Blk W Gp 26 #[.int .i64 p.al,.slice B m d,.slice B' m' d']
 ge:w0.heap.size≤Zs∧w0.heap.size≤Zt∧w0.heap.size≤Zp∧w0.heap.size≤Gs∧w0.heap.size≤Gt∧(Gp=0∨w0.heap.size≤Gp)
 ne:Hid (Ne6 Zs Zt Zp Gs Gt Gp)
section
variable {w0 W W':World} {R M L K N J H n c k c2 m d m' d' Zs Zt Zp Gs Gt Gp:Nat} {s t:Sys} {p:Aut} {A B B' C:Option Addr}
theorem Tri.drawn (h:Tri w0 W R M L K Zs Zt Zp Gs Gt Gp s A n c t C k c2 p B m d B' m' d')(hd:Dr R W W')(hr:Rd W' R N):Tri w0 W' R N L K Zs Zt Zp Gs Gt Gp s A n c t C k c2 p B m d B' m' d':=by
 have hR:=h.at_.hR
 have hg:=h.ge
 exact⟨h.at_.drawn hd hr,h.zs.dr hd (by omega),h.zt.dr hd (by omega),h.zp.dr hd (by omega),h.bs.dr hd (by omega),h.bt.dr hd (by omega),by
  rcases hg.2.2.2.2.2 with e|e
  ·exact .inl e
  ·exact h.bp.imp id (fun b=>b.dr hd (by omega)),hg,h.ne⟩
theorem Tri.ext (h:Tri w0 W R M L K Zs Zt Zp Gs Gt Gp s A n c t C k c2 p B m d B' m' d')(hx:Ext W W'):Tri w0 W' R M L K Zs Zt Zp Gs Gt Gp s A n c t C k c2 p B m d B' m' d':=h.drawn hx.dr (h.at_.rd.ext hx)
theorem Tri.more (h:Tri w0 W R M L K Zs Zt Zp Gs Gt Gp s A n c t C k c2 p B m d B' m' d')(hM:M≤N)(hL:L≤J)(hK:K≤H):Tri w0 W R N J H Zs Zt Zp Gs Gt Gp s A n c t C k c2 p B m d B' m' d':={ h with at_:=h.at_.more hM hL hK }
theorem Tri.pvar (h:Tri w0 W R M L K Zs Zt Zp Gs Gt Gp s A n c t C k c2 p B m d B' m' d')(hG:Gp≠0):Blk W Gp 26 #[.int .i64 p.al,.slice B m d,.slice B' m' d']:=h.bp.resolve_left hG
theorem Tri.setS {s2:Sys} {A2:Option Addr} {n2 d2:Nat}(h:Tri w0 W R M L K Zs Zt Zp Gs Gt Gp s A n c t C k c2 p B m d B' m' d')(hs:zaT W R A2 n2 s2)(hn:n2≤L∧n2≤d2) :
  Tri w0 (((W.setCell ⟨Gs,0,none⟩ (.int .i64 s2.al)).setCell ⟨Gs,1,none⟩ (.int .i64 s2.st)).setCell ⟨Gs,2,none⟩ (.slice A2 n2 d2)) R M L K Zs Zt Zp Gs Gt Gp s2 A2 n2 d2 t C k c2 p B m d B' m' d':=by
 have hf:=zT W Gs (.int .i64 s2.al) (.int .i64 s2.st) (.slice A2 n2 d2)
 obtain⟨⟨a1,a2,a3,a4,a5⟩,⟨b1,b2,b3,b4⟩,⟨c1,c2,c3⟩,⟨d1,d2'⟩,e1⟩:=h.ne.out
 have h1:=h.at_.far h.bs hf h.ge.2.2.2.1 (by decide) (by decide)
 exact⟨{ h1 with is:=hs.far h.bs (by decide) hf,ns:=⟨hn,h1.ns.2⟩ },h.zs.frm hf (by omega),h.zt.frm hf (by omega),h.zp.frm hf (by omega),zah h.bs rfl _ _ _,h.bt.frm hf (by omega),h.bp.imp id (fun b=>b.frm hf (by omega)),h.ge,h.ne⟩
theorem Tri.setT {s2:Sys} {A2:Option Addr} {n2 d2:Nat}(h:Tri w0 W R M L K Zs Zt Zp Gs Gt Gp s A n c t C k c2 p B m d B' m' d')(hs:zaT W R A2 n2 s2)(hn:n2≤L∧n2≤d2) :
  Tri w0 (((W.setCell ⟨Gt,0,none⟩ (.int .i64 s2.al)).setCell ⟨Gt,1,none⟩ (.int .i64 s2.st)).setCell ⟨Gt,2,none⟩ (.slice A2 n2 d2)) R M L K Zs Zt Zp Gs Gt Gp s A n c s2 A2 n2 d2 p B m d B' m' d':=by
 have hf:=zT W Gt (.int .i64 s2.al) (.int .i64 s2.st) (.slice A2 n2 d2)
 obtain⟨⟨a1,a2,a3,a4,a5⟩,⟨b1,b2,b3,b4⟩,⟨c1,c2,c3⟩,⟨d1,d2'⟩,e1⟩:=h.ne.out
 have h1:=h.at_.far h.bt hf h.ge.2.2.2.2.1 (by decide) (by decide)
 exact⟨{ h1 with it:=hs.far h.bt (by decide) hf,ns:=⟨h1.ns.1,hn⟩ },h.zs.frm hf (by omega),h.zt.frm hf (by omega),h.zp.frm hf (by omega),h.bs.frm hf (by omega),zah h.bt rfl _ _ _,h.bp.imp id (fun b=>b.frm hf (by omega)),h.ge,h.ne⟩
theorem Tri.setP {p2:Aut} {A2:Option Addr} {n2 d2:Nat} {A3:Option Addr} {n3 d3:Nat}(h:Tri w0 W R M L K Zs Zt Zp Gs Gt Gp s A n c t C k c2 p B m d B' m' d')(hG:Gp≠0)(hp:zO W (R+1) A2 n2 d2 A3 n3 d3 p2)(hb:BdA K p2) :
  Tri w0 (((W.setCell ⟨Gp,0,none⟩ (.int .i64 p2.al)).setCell ⟨Gp,1,none⟩ (.slice A2 n2 d2)).setCell ⟨Gp,2,none⟩ (.slice A3 n3 d3)) R M L K Zs Zt Zp Gs Gt Gp s A n c t C k c2 p2 A2 n2 d2 A3 n3 d3:=by
 have hf:=zT W Gp (.int .i64 p2.al) (.slice A2 n2 d2) (.slice A3 n3 d3)
 obtain⟨⟨a1,a2,a3,a4,a5⟩,⟨b1,b2,b3,b4⟩,⟨c1,c2,c3⟩,⟨d1,d2'⟩,e1⟩:=h.ne.out
 have hB:=h.pvar hG
 have h1:=h.at_.far hB hf (h.ge.2.2.2.2.2.resolve_left hG) (by decide) (by decide)
 exact⟨{ h1 with ip:=hp.farT hB hf (by decide),bd:=za hb },h.zs.frm hf (by omega),h.zt.frm hf (by omega),h.zp.frm hf (by omega),h.bs.frm hf (by omega),h.bt.frm hf (by omega),.inr (zah hB rfl _ _ _),h.ge,h.ne⟩
end
def RetSTP (R M L K:Nat) (w:World) (e:Ending) (w':World):Prop:=
 ∃ (s:Sys) (A:Option Addr) (n c:Nat) (t:Sys) (C:Option Addr) (k c2:Nat) (p:Aut) (B:Option Addr) (m d:Nat) (B':Option Addr) (m' d':Nat),
  e=.returned (.tuple #[.agg #[.int .i64 s.al,.int .i64 s.st,.slice A n c],.agg #[.int .i64 t.al,.int .i64 t.st,.slice C k c2],.agg #[.int .i64 p.al,.slice B m d,.slice B' m' d']])∧zaZ w w' R M L K s A n c t C k c2 p B m d B' m' d'
def RetSPT (R M L K:Nat) (w:World) (e:Ending) (w':World):Prop:=
 ∃ (s:Sys) (A:Option Addr) (n c:Nat) (t:Sys) (C:Option Addr) (k c2:Nat) (p:Aut) (B:Option Addr) (m d:Nat) (B':Option Addr) (m' d':Nat),
  e=.returned (.tuple #[.agg #[.int .i64 s.al,.int .i64 s.st,.slice A n c],.agg #[.int .i64 p.al,.slice B m d,.slice B' m' d'],.agg #[.int .i64 t.al,.int .i64 t.st,.slice C k c2]])∧zaZ w w' R M L K s A n c t C k c2 p B m d B' m' d'
section
variable {w0 W:World} {R M L K N J H n c k c2 m d m' d' Zs Zt Zp:Nat} {s t:Sys} {p:Aut} {A B B' C:Option Addr} {us ut up:Array Value}
theorem zaZ.finSTP (h:zaZ w0 W R M L K s A n c t C k c2 p B m d B' m' d') (zs:Blk W Zs 43 us) (zt:Blk W Zt 43 ut) (zp:Blk W Zp 26 up)(h1:us.size=3)(h2:ut.size=3)(h3:up.size=3)(hz1:w0.heap.size≤Zs)(hz2:w0.heap.size≤Zt)(hz3:w0.heap.size≤Zp) (e1:Zs≠Zt) (e2:Zs≠Zp) (e3:Zt≠Zp) :
  Hid (zaZ w0 (((((((((W.setCell ⟨Zs,0,none⟩ (.int .i64 s.al)).setCell ⟨Zs,1,none⟩ (.int .i64 s.st)).setCell ⟨Zs,2,none⟩ (.slice A n c)).setCell ⟨Zt,0,none⟩ (.int .i64 t.al)).setCell ⟨Zt,1,none⟩ (.int .i64 t.st)).setCell ⟨Zt,2,none⟩ (.slice C k c2)).setCell ⟨Zp,0,none⟩ (.int .i64 p.al)).setCell ⟨Zp,1,none⟩ (.slice B m d)).setCell ⟨Zp,2,none⟩ (.slice B' m' d')) R M L K s A n c t C k c2 p B m d B' m' d') ∧
  Hid (Blk (((((((((W.setCell ⟨Zs,0,none⟩ (.int .i64 s.al)).setCell ⟨Zs,1,none⟩ (.int .i64 s.st)).setCell ⟨Zs,2,none⟩ (.slice A n c)).setCell ⟨Zt,0,none⟩ (.int .i64 t.al)).setCell ⟨Zt,1,none⟩ (.int .i64 t.st)).setCell ⟨Zt,2,none⟩ (.slice C k c2)).setCell ⟨Zp,0,none⟩ (.int .i64 p.al)).setCell ⟨Zp,1,none⟩ (.slice B m d)).setCell ⟨Zp,2,none⟩ (.slice B' m' d')) Zs 43 #[.int .i64 s.al,.int .i64 s.st,.slice A n c] ∧
  Blk (((((((((W.setCell ⟨Zs,0,none⟩ (.int .i64 s.al)).setCell ⟨Zs,1,none⟩ (.int .i64 s.st)).setCell ⟨Zs,2,none⟩ (.slice A n c)).setCell ⟨Zt,0,none⟩ (.int .i64 t.al)).setCell ⟨Zt,1,none⟩ (.int .i64 t.st)).setCell ⟨Zt,2,none⟩ (.slice C k c2)).setCell ⟨Zp,0,none⟩ (.int .i64 p.al)).setCell ⟨Zp,1,none⟩ (.slice B m d)).setCell ⟨Zp,2,none⟩ (.slice B' m' d')) Zt 43 #[.int .i64 t.al,.int .i64 t.st,.slice C k c2] ∧
  Blk (((((((((W.setCell ⟨Zs,0,none⟩ (.int .i64 s.al)).setCell ⟨Zs,1,none⟩ (.int .i64 s.st)).setCell ⟨Zs,2,none⟩ (.slice A n c)).setCell ⟨Zt,0,none⟩ (.int .i64 t.al)).setCell ⟨Zt,1,none⟩ (.int .i64 t.st)).setCell ⟨Zt,2,none⟩ (.slice C k c2)).setCell ⟨Zp,0,none⟩ (.int .i64 p.al)).setCell ⟨Zp,1,none⟩ (.slice B m d)).setCell ⟨Zp,2,none⟩ (.slice B' m' d')) Zp 26 #[.int .i64 p.al,.slice B m d,.slice B' m' d']):=by
 have f1:=zT W Zs (.int .i64 s.al) (.int .i64 s.st) (.slice A n c)
 have q1:=zah zs h1 (.int .i64 s.al) (.int .i64 s.st) (.slice A n c)
 replace h:=h.far zs f1 hz1 (by decide) (by decide)
 replace zt:=zt.frm f1 (by omega)
 replace zp:=zp.frm f1 (by omega)
 clear f1 zs
 generalize ((W.setCell ⟨Zs,0,none⟩ (.int .i64 s.al)).setCell ⟨Zs,1,none⟩ (.int .i64 s.st)).setCell ⟨Zs,2,none⟩ (.slice A n c)=W1 at *
 have f2:=zT W1 Zt (.int .i64 t.al) (.int .i64 t.st) (.slice C k c2)
 have q2:=zah zt h2 (.int .i64 t.al) (.int .i64 t.st) (.slice C k c2)
 replace h:=h.far zt f2 hz2 (by decide) (by decide)
 replace q1:=q1.frm f2 (by omega)
 replace zp:=zp.frm f2 (by omega)
 clear f2 zt
 generalize ((W1.setCell ⟨Zt,0,none⟩ (.int .i64 t.al)).setCell ⟨Zt,1,none⟩ (.int .i64 t.st)).setCell ⟨Zt,2,none⟩ (.slice C k c2)=W2 at *
 have f3:=zT W2 Zp (.int .i64 p.al) (.slice B m d) (.slice B' m' d')
 exact⟨za (h.far zp f3 hz3 (by decide) (by decide)),za ⟨q1.frm f3 (by omega),q2.frm f3 (by omega),zah zp h3 _ _ _⟩⟩
theorem zaZ.finSPT (h:zaZ w0 W R M L K s A n c t C k c2 p B m d B' m' d') (zs:Blk W Zs 43 us) (zt:Blk W Zt 43 ut) (zp:Blk W Zp 26 up)(h1:us.size=3)(h2:ut.size=3)(h3:up.size=3)(hz1:w0.heap.size≤Zs)(hz2:w0.heap.size≤Zt)(hz3:w0.heap.size≤Zp) (e1:Zs≠Zt) (e2:Zs≠Zp) (e3:Zt≠Zp) :
  Hid (zaZ w0 (((((((((W.setCell ⟨Zs,0,none⟩ (.int .i64 s.al)).setCell ⟨Zs,1,none⟩ (.int .i64 s.st)).setCell ⟨Zs,2,none⟩ (.slice A n c)).setCell ⟨Zp,0,none⟩ (.int .i64 p.al)).setCell ⟨Zp,1,none⟩ (.slice B m d)).setCell ⟨Zp,2,none⟩ (.slice B' m' d')).setCell ⟨Zt,0,none⟩ (.int .i64 t.al)).setCell ⟨Zt,1,none⟩ (.int .i64 t.st)).setCell ⟨Zt,2,none⟩ (.slice C k c2)) R M L K s A n c t C k c2 p B m d B' m' d') ∧
  Hid (Blk (((((((((W.setCell ⟨Zs,0,none⟩ (.int .i64 s.al)).setCell ⟨Zs,1,none⟩ (.int .i64 s.st)).setCell ⟨Zs,2,none⟩ (.slice A n c)).setCell ⟨Zp,0,none⟩ (.int .i64 p.al)).setCell ⟨Zp,1,none⟩ (.slice B m d)).setCell ⟨Zp,2,none⟩ (.slice B' m' d')).setCell ⟨Zt,0,none⟩ (.int .i64 t.al)).setCell ⟨Zt,1,none⟩ (.int .i64 t.st)).setCell ⟨Zt,2,none⟩ (.slice C k c2)) Zs 43 #[.int .i64 s.al,.int .i64 s.st,.slice A n c] ∧
  Blk (((((((((W.setCell ⟨Zs,0,none⟩ (.int .i64 s.al)).setCell ⟨Zs,1,none⟩ (.int .i64 s.st)).setCell ⟨Zs,2,none⟩ (.slice A n c)).setCell ⟨Zp,0,none⟩ (.int .i64 p.al)).setCell ⟨Zp,1,none⟩ (.slice B m d)).setCell ⟨Zp,2,none⟩ (.slice B' m' d')).setCell ⟨Zt,0,none⟩ (.int .i64 t.al)).setCell ⟨Zt,1,none⟩ (.int .i64 t.st)).setCell ⟨Zt,2,none⟩ (.slice C k c2)) Zt 43 #[.int .i64 t.al,.int .i64 t.st,.slice C k c2] ∧
  Blk (((((((((W.setCell ⟨Zs,0,none⟩ (.int .i64 s.al)).setCell ⟨Zs,1,none⟩ (.int .i64 s.st)).setCell ⟨Zs,2,none⟩ (.slice A n c)).setCell ⟨Zp,0,none⟩ (.int .i64 p.al)).setCell ⟨Zp,1,none⟩ (.slice B m d)).setCell ⟨Zp,2,none⟩ (.slice B' m' d')).setCell ⟨Zt,0,none⟩ (.int .i64 t.al)).setCell ⟨Zt,1,none⟩ (.int .i64 t.st)).setCell ⟨Zt,2,none⟩ (.slice C k c2)) Zp 26 #[.int .i64 p.al,.slice B m d,.slice B' m' d']):=by
 have f1:=zT W Zs (.int .i64 s.al) (.int .i64 s.st) (.slice A n c)
 have q1:=zah zs h1 (.int .i64 s.al) (.int .i64 s.st) (.slice A n c)
 replace h:=h.far zs f1 hz1 (by decide) (by decide)
 replace zt:=zt.frm f1 (by omega)
 replace zp:=zp.frm f1 (by omega)
 clear f1 zs
 generalize ((W.setCell ⟨Zs,0,none⟩ (.int .i64 s.al)).setCell ⟨Zs,1,none⟩ (.int .i64 s.st)).setCell ⟨Zs,2,none⟩ (.slice A n c)=W1 at *
 have f2:=zT W1 Zp (.int .i64 p.al) (.slice B m d) (.slice B' m' d')
 have q2:=zah zp h3 (.int .i64 p.al) (.slice B m d) (.slice B' m' d')
 replace h:=h.far zp f2 hz3 (by decide) (by decide)
 replace q1:=q1.frm f2 (by omega)
 replace zt:=zt.frm f2 (by omega)
 clear f2 zp
 generalize ((W1.setCell ⟨Zp,0,none⟩ (.int .i64 p.al)).setCell ⟨Zp,1,none⟩ (.slice B m d)).setCell ⟨Zp,2,none⟩ (.slice B' m' d')=W2 at *
 have f3:=zT W2 Zt (.int .i64 t.al) (.int .i64 t.st) (.slice C k c2)
 exact⟨za (h.far zt f3 hz2 (by decide) (by decide)),za ⟨q1.frm f3 (by omega),zah zt h2 _ _ _,q2.frm f3 (by omega)⟩⟩
end
theorem bits_all (y:Nat)(hy:y<64):bits .and .i64 (-1) (y:Int)=(y:Int):=
 (show ∀ y:Fin 64,bits .and .i64 (-1) ((y.val:Nat):Int)=((y.val:Nat):Int) by decide +kernel) ⟨y,hy⟩
theorem yJ03a2 {P:Prop}(h:P:=by
 obtain⟨f1,f2⟩:=zfR (N:=M+600) (sh:=zer) hxz zgC hsh.out hr6 hd6 bz rfl hRl (Nat.le_refl _) (Nat.le_refl _)
 have bz5:=bz.dr hd6 (by omega)
 have cZ:=bz5.cell
 have fZ:=bz5.frozen
 go_wp2_with fail
 have cf:=f2.cell
 exact bodyPost_ret (v:=.agg #[.int .i64 b.al,.slice A n c,.slice A' n' c']) (by simp [results,Tryz.results56,go_sem,cf]) rfl f1.out
 ):P:=h
theorem zez {R M:Nat} {zz:Int} {w:World}(h:Rd w R M)(hM:M≤700000000)(ha:(∃ a:Nat,zz=(a:Int)∧a<64)∨zz = -1) :
  Calls Tryz.prog 56 #[.pointer (some ⟨R,0,none⟩),.int .i64 zz] w (zes R (M+600) zer w):=by
 have hRl:=h.lt
 go_enter Tryz.func56,Tryz.ntmps56
 have hxz:=(Ext.refl w).alloc (.cells #[.int .i64 0,.slice none 0 0,.slice none 0 0] 26)
 have bz:=Blk.new w 26 #[.int .i64 0,.slice none 0 0,.slice none 0 0]
 have hsz:(w.alloc (.cells #[.int .i64 0,.slice none 0 0,.slice none 0 0] 26)).heap.size=w.heap.size+1:=by simp
 go_wp2_with fail
 rw [← hsz]
 generalize w.alloc (.cells #[.int .i64 0,.slice none 0 0,.slice none 0 0] 26)=w1 at *
 refine (zao [63,63,5,3,6] 5 #[.int .i64 63,.int .i64 63,.int .i64 5,.int .i64 3,.int .i64 6] rfl rfl (by omega) (by omega) (h.ext hxz) (by omega)).mono ?_
 rintro e w2 ⟨x,hx,rfl,hr2,hd2⟩
 obtain⟨y,hy,rfl⟩:∃ y:Nat,y<64∧x=(y:Int):=⟨x.toNat,by simp at hx;omega,by simp at hx;omega⟩
 clear hx
 replace hd2:=((Dr.refl R w1).alloc _).trans hd2
 obtain⟨d,hand,hsm⟩:∃ d:Nat,bits .and .i64 zz (y:Int)=(d:Int)∧d<64:=by
  rcases ha with ⟨a,rfl,ha⟩|rfl
  ·exact⟨a&&&y,zcK (by unfold Sm;omega) (by unfold Sm;omega),Nat.lt_of_le_of_lt Nat.and_le_left ha⟩
  ·exact⟨y,bits_all y hy,hy⟩
 go_upto_region 2 with fail
 clear hand
 go_wp2_with fail
 refine (zr hr2 (by omega)).mono ?_
 rintro e w3 ⟨z,rfl,-,-,hr3,hd3⟩
 replace hd3:=hd2.trans hd3
 clear hd2 hr2
 go_upto_if 13 with fail
 go_cut [5] (fun s5 wx=>∃ d:Nat,d<64∧s5=.int .i64 (d:Nat)∧Rd wx R (M+10)∧Dr R w1 wx)
 case first =>
  by_cases hz:z=0
  ·subst hz
   go_wp2_with fail
   refine (spec_l1Some hr3 (by omega)).mono ?_
   rintro e w4 ⟨x,hx,rfl,hr4,hd4⟩
   go_wp2_with fail
   go_meet
   exact⟨x,hx,rfl,hr4.more (by omega),hd3.trans hd4⟩
  ·have hz':((z:Int)==0)=false:=by simp;omega
   go_wp2_with fail
   go_meet
   exact⟨d,hsm,rfl,hr3.more (by omega),hd3⟩
 case rest =>
  clear hr3 hd3 hsm
  obtain⟨d,hd,rfl,hr3,hd3⟩:=hcut
  go_wp2_with fail
  refine (zr hr3 (by omega)).mono ?_
  rintro e w4 ⟨y,rfl,-,-,hr4,hd4⟩
  replace hd4:=hd3.trans hd4
  by_cases hy:0<y
  ·have hy':((y:Int)>0):=by omega
   go_wp2_with fail
   refine (zao [3,2,4,1] 4 #[.int .i64 3,.int .i64 2,.int .i64 4,.int .i64 1] rfl rfl (by omega) (by omega) hr4 (by omega)).mono ?_
   rintro e w5 ⟨x,hx,rfl,hr5,hd5⟩
   obtain⟨p,hp1,hp2,rfl⟩:∃ y:Nat,1≤y∧y≤4∧x=(y:Int):=⟨x.toNat,by simp at hx;omega,by simp at hx;omega,by simp at hx;omega⟩
   clear hx
   have hd15:=(hd4.alloc _).trans hd5
   go_wp2_with fail
   refine (zff hr5 (by omega) hd hp1 (by omega)).mono ?_
   intro e w6 hret
   obtain⟨b,A,n,c,A',n',c',rfl,zgC,hsh,hr6,hd6⟩:=hret.mono (N:=M+600) (sh':=zer) hd15 (by omega) (fun b hb=>⟨d,p,hd,hp1,by omega,hb⟩)
   exact yJ03a2
  ·have hy':¬ ((y:Int)>0):=by omega
   go_wp2_with fail
   refine (zfe hr4 (by omega) hd).mono ?_
   intro e w6 hret
   obtain⟨b,A,n,c,A',n',c',rfl,zgC,hsh,hr6,hd6⟩:=hret.mono (N:=M+600) (sh':=zer) hd4 (by omega) (fun b hb=>hb)
   exact yJ03a2
theorem zfh {R M a:Nat} {w:World}(h:Rd w R M)(hM:M≤700000000)(ha:a<64) :
  Calls Tryz.prog 56 #[.pointer (some ⟨R,0,none⟩),.int .i64 a] w (zes R (M+600) zer w):=zez h hM (.inl ⟨a,rfl,ha⟩)
theorem Dr.new {R:Nat} {w w1 w2:World}(h:Ext w w1)(hR:w.heap.size≤R)(hd:Dr R w1 w2):Ext w w2:=
 h.frm hd (fun k hk he=>by omega)
theorem zek {R M:Nat} {w:World}(h:Rd w R M)(hM:M≤800000000) :
  Calls Tryz.prog 54 #[.pointer (some ⟨R,0,none⟩)] w (RetG R (M+30000) 20000 w):=by
 have hRl:=h.lt
 have hx0:=(Ext.refl w).alloc (.cells #[.int .i64 0,.int .i64 0,.slice none 0 0] 43)
 have bz5:=Blk.new w 43 #[.int .i64 0,.int .i64 0,.slice none 0 0]
 have hr5:=h.ext hx0
 have hw5:=hx0.dr (R:=R)
 have hz1:=bz5.lt
 go_enter Tryz.func54,Tryz.ntmps54
 go_wp2_with fail
 have C6:=(zao [3,6,7,5,2] 5 #[.int .i64 3,.int .i64 6,.int .i64 7,.int .i64 5,.int .i64 2] rfl rfl (by omega) (by omega) hr5 (by omega))
 simp only [World.size_alloc] at C6
 refine C6.mono ?_
 rintro e w6 ⟨al,hal,rfl,hr6,hd6⟩
 have hw6:=(hw5.ext ((Ext.refl _).alloc _)).trans hd6
 have bz6:=(bz5.ext ((Ext.refl _).alloc _)).dr hd6 (by omega)
 go_wp2_with fail
 refine (zao [2,3,1,3] 4 #[.int .i64 2,.int .i64 3,.int .i64 1,.int .i64 3] rfl rfl (by omega) (by omega) hr6 (by omega)).mono ?_
 rintro e w7 ⟨st,hst,rfl,hr7,hd7⟩
 have hw7:=(hw6.ext ((Ext.refl _).alloc _)).trans hd7
 have bz7:=(bz6.ext ((Ext.refl _).alloc _)).dr hd7 (by omega)
 go_wp2_with fail
 refine (zao [2,3,4] 3 #[.int .i64 2,.int .i64 3,.int .i64 4] rfl rfl (by omega) (by omega) hr7 (by omega)).mono ?_
 rintro e w8 ⟨fw,_,rfl,hr8,hd8⟩
 have hw8:=(hw7.ext ((Ext.refl _).alloc _)).trans hd8
 have bz8:=(bz7.ext ((Ext.refl _).alloc _)).dr hd8 (by omega)
 obtain⟨a,rfl,ha⟩:∃ a:Nat,al=a∧a<64:=⟨al.toNat,by simp at hal;omega,by simp at hal;omega⟩
 obtain⟨p,rfl,hp1,hp⟩:∃ p:Nat,st=p∧1≤p∧p≤16:=⟨st.toNat,by simp at hst;omega,by simp at hst;omega,by simp at hst;omega⟩
 clear hal hst
 go_wp2_with fail
 refine (zcn hr8 (by omega) ha hp1 hp).mono ?_
 rintro e w9 ⟨s9,A9,n9,c9,rfl,hs9,hg9,hn9,hr9,hd9⟩
 have bz9:=bz8.dr hd9 (by omega)
 have hfin9:=za (zeH (R:=R) (M:=M+30000) (L:=20000) (c:=c9) hs9 hg9 hn9 (hr9.more (by omega)) (hw8.trans hd9) bz9 hRl (Nat.le_refl _))
 have cz9:=bz9.cell
 have fz9:=bz9.frozen
 go_wp2_with fail
 exact bodyPost_ret (v:=.agg #[.int .i64 s9.al,.int .i64 s9.st,.slice A9 n9 c9]) (by simp [results,Tryz.results54,go_sem,cz9]) rfl hfin9.out
theorem or_al {a b:Nat}(ha:a<64)(hb:b<64):bits .or .i64 (a:Int) (b:Int)=((a|||b:Nat):Int)∧a|||b<64:=by
 have h:=Nat.or_lt_two_pow (n:=6) (x:=a) (y:=b) (by omega) (by omega)
 exact⟨zcw (by unfold Sm;omega) (by unfold Sm;omega),by omega⟩
theorem spec_l9Three {R M:Nat} {w:World}(h:Rd w R M)(hM:M≤600000000) :
  Calls Tryz.prog 32 #[.pointer (some ⟨R,0,none⟩)] w (RetSPT R (M+150000) 20000 16 w):=by
 have hRl:=h.lt
 have hx0:Ext w (((w.alloc (.cells #[.int .i64 0,.int .i64 0,.slice none 0 0] 43)).alloc (.cells #[.int .i64 0,.slice none 0 0,.slice none 0 0] 26)).alloc (.cells #[.int .i64 0,.int .i64 0,.slice none 0 0] 43)):=(((Ext.refl _).alloc _).alloc _).alloc _
 obtain⟨z1,z2,z3⟩:=zN (Ext.refl (((w.alloc (.cells #[.int .i64 0,.int .i64 0,.slice none 0 0] 43)).alloc (.cells #[.int .i64 0,.slice none 0 0,.slice none 0 0] 26)).alloc (.cells #[.int .i64 0,.int .i64 0,.slice none 0 0] 43)))
 have hsz:(((w.alloc (.cells #[.int .i64 0,.int .i64 0,.slice none 0 0] 43)).alloc (.cells #[.int .i64 0,.slice none 0 0,.slice none 0 0] 26)).alloc (.cells #[.int .i64 0,.int .i64 0,.slice none 0 0] 43)).heap.size=w.heap.size+3:=by simp
 go_enter Tryz.func32,Tryz.ntmps32
 go_upto_region 1 with fail
 generalize ((w.alloc (.cells #[.int .i64 0,.int .i64 0,.slice none 0 0] 43)).alloc (.cells #[.int .i64 0,.slice none 0 0,.slice none 0 0] 26)).alloc (.cells #[.int .i64 0,.int .i64 0,.slice none 0 0] 43)=w0 at *
 go_wp2_with fail
 refine (zek (h.ext hx0) (by omega)).mono ?_
 rintro e w1 ⟨s,A,n,c,rfl,hs1,hg1,hn1,hr1,hd1⟩
 have hw1:=hd1.size
 have hx2:=(Ext.refl w1).alloc (.cells #[.int .i64 s.al,.int .i64 s.st,.slice A n c] 43)
 have bs:=Blk.new w1 43 #[.int .i64 s.al,.int .i64 s.st,.slice A n c]
 have hs2:(w1.alloc (.cells #[.int .i64 s.al,.int .i64 s.st,.slice A n c] 43)).heap.size=w1.heap.size+1:=by simp
 have hd2:Dr R w (w1.alloc (.cells #[.int .i64 s.al,.int .i64 s.st,.slice A n c] 43)):=(hx0.dr.trans hd1).alloc _
 replace hs1:=hs1.ext hx2
 replace hr1:=hr1.ext hx2
 replace z1:=(z1.dr hd1 (by omega)).ext hx2
 replace z2:=(z2.dr hd1 (by omega)).ext hx2
 replace z3:=(z3.dr hd1 (by omega)).ext hx2
 go_upto_region 2 with fail
 generalize hGs:w1.heap.size=Gs at *
 generalize w1.alloc (.cells #[.int .i64 s.al,.int .i64 s.st,.slice A n c] 43)=w2 at *
 clear hx2
 go_wp2_with fail
 refine (zek hr1 (by omega)).mono ?_
 rintro e w3 ⟨t,C,k,c2,rfl,ht1,hg2,hn2,hr3,hd3⟩
 have hw3:=hd3.size
 have hx4:=(Ext.refl w3).alloc (.cells #[.int .i64 t.al,.int .i64 t.st,.slice C k c2] 43)
 have bt:=Blk.new w3 43 #[.int .i64 t.al,.int .i64 t.st,.slice C k c2]
 have ht2:Tri w (w3.alloc (.cells #[.int .i64 t.al,.int .i64 t.st,.slice C k c2] 43)) R (M+60000) 20000 16 w.heap.size (w.heap.size+1+1) (w.heap.size+1) Gs w3.heap.size 0 s A n c t C k c2 autZ none 0 0 none 0 0:=
  ⟨⟨(hs1.dr hd3).ext hx4,ht1.ext hx4,zgg _ _,⟨hn1,hn2⟩,za (bd_autZ _),(hr3.ext hx4).more (by omega),(hd2.trans hd3).ext hx4,hRl⟩,(z1.dr hd3 (by omega)).ext hx4,(z3.dr hd3 (by omega)).ext hx4,(z2.dr hd3 (by omega)).ext hx4,(bs.dr hd3 (by omega)).ext hx4,bt,.inl rfl,by omega,za (by unfold Ne6;omega)⟩
 clear hs1 hr1 z1 z2 z3 bs bt ht1 hx4 hd2
 go_upto_region 3 with fail
 generalize hGt:w3.heap.size=Gt at *
 generalize w3.alloc (.cells #[.int .i64 t.al,.int .i64 t.st,.slice C k c2] 43)=w4 at *
 have hne:Hid (Gs<Gt∧w.heap.size+3≤Gs):=za (by omega)
 clear hw1 hw3 hd1 hd3 hr3 hn1 hn2 hs2 hGs hGt
 go_wp2_with fail
 refine (zr ht2.at_.rd (by omega)).mono ?_
 rintro e w5 ⟨y,rfl,-,-,hr5,hd5⟩
 have ht3:=(ht2.drawn hd5 hr5).more (N:=M+60001) (J:=20000) (H:=16) (by omega) (by omega) (by omega)
 clear ht2
 go_upto_if 13 with fail
 go_cut [] (fun wx=>∃ (s:Sys) (A:Option Addr) (n c:Nat),Good s∧Tri w wx R (M+60001+30000) 20000 16 w.heap.size (w.heap.size+1+1) (w.heap.size+1) Gs Gt 0 s A n c t C k c2 autZ none 0 0 none 0 0)
 case first =>
  by_cases hy:y=0
  ·subst hy
   go_wp2_with fail
   refine (zfd hr5 (by omega)).mono ?_
   rintro e w6 ⟨s',A',n',c',rfl,hs',hg',hn',hr6,hd6⟩
   have ht4:=(ht3.drawn hd6 hr6).more (N:=M+60001+30000) (J:=20000) (H:=16) (by omega) (by omega) (by omega)
   have cG:=ht4.bs.cell
   have fG:=ht4.bs.frozen
   have fin:=ht4.setS hs' hn'
   go_wp2_with fail
   go_meet
   exact⟨_,_,_,_,hg',fin⟩
  ·have hy':((y:Int)==0)=false:=by simp;omega
   go_wp2_with fail
   go_meet
   exact⟨_,_,_,_,hg1,ht3.more (by omega) (by omega) (by omega)⟩
 case rest =>
  clear ht3 hr5 hd5 hg1
  obtain⟨s,A,n,c,hg1,ht3⟩:=hcut
  go_wp2_with fail
  refine (zr ht3.at_.rd (by omega)).mono ?_
  rintro e w5 ⟨y,rfl,-,-,hr5,hd5⟩
  have ht4:=(ht3.drawn hd5 hr5).more (N:=M+100000) (J:=20000) (H:=16) (by omega) (by omega) (by omega)
  clear ht3
  go_upto_if 18 with fail
  go_cut [] (fun wx=>∃ (t:Sys) (C:Option Addr) (k c2:Nat),Good t∧Tri w wx R (M+100000+30000) 20000 16 w.heap.size (w.heap.size+1+1) (w.heap.size+1) Gs Gt 0 s A n c t C k c2 autZ none 0 0 none 0 0)
  case first =>
   by_cases hy:y=0
   ·subst hy
    go_wp2_with fail
    refine (zfd ht4.at_.rd (by omega)).mono ?_
    rintro e w6 ⟨s',A',n',c',rfl,hs',hg',hn',hr6,hd6⟩
    have ht5:=(ht4.drawn hd6 hr6).more (N:=M+100000+30000) (J:=20000) (H:=16) (by omega) (by omega) (by omega)
    have cG:=ht5.bt.cell
    have fG:=ht5.bt.frozen
    have fin:=ht5.setT hs' hn'
    go_wp2_with fail
    go_meet
    exact⟨_,_,_,_,hg',fin⟩
   ·have hy':((y:Int)==0)=false:=by simp;omega
    go_wp2_with fail
    go_meet
    exact⟨_,_,_,_,hg2,ht4.more (by omega) (by omega) (by omega)⟩
  case rest =>
   clear ht4 hr5 hd5 hg2
   obtain⟨t,C,k,c2,hg2,ht4⟩:=hcut
   obtain⟨a1,p1,ha1,ha1',-⟩:=hg1
   obtain⟨a2,p2,ha2,ha2',-⟩:=hg2
   obtain⟨hor,hol⟩:=or_al ha1' ha2'
   obtain⟨wE,hwE⟩:∃ wE,wE=wc:=⟨_,rfl⟩
   subst hwE
   have hge:=za ht4.ge
   have hRw:=ht4.at_.hR
   have cS:∀ W,Frm (fun k=>k=R∨k=w.heap.size∨k=w.heap.size+1) wE W→∀ q,W.cell? ⟨Gs,q,none⟩=#[Value.int .i64 a1,.int .i64 s.st,.slice A n c][q]?:=fun W hW=>by rw [← ha1];exact (ht4.bs.frm hW (by have:=hge.out;have:=hne.out;omega)).cell
   have cT:∀ W,Frm (fun k=>k=R∨k=w.heap.size∨k=w.heap.size+1) wE W→∀ q,W.cell? ⟨Gt,q,none⟩=#[Value.int .i64 a2,.int .i64 t.st,.slice C k c2][q]?:=fun W hW=>by rw [← ha2];exact (ht4.bt.frm hW (by have:=hge.out;have:=hne.out;omega)).cell
   have hS0:Frm (fun k=>k=R∨k=w.heap.size∨k=w.heap.size+1) wE wE.drew:=(Ext.refl wE).drew.toFrm
   have hsal:=za ha1
   have htal:=za ha2
   clear ha1 ha2
   go_wp2_with fail
   refine tR (fun X=>Frm (fun k=>k=R∨k=w.heap.size∨k=w.heap.size+1) wE X) [11] (Ord.of [0,1,2,3,4,5,6,8,7,9,10,11]) ?_
   refine tQ ?_
   refine zu fun K hK=>?_;go_simp
   refine (zfh (ht4.at_.rd.ext (Ext.refl wE).drew) (by omega) hol).mono ?_
   rintro e w7 ⟨p,B,m,d,B',m',d',rfl,hp,hgp,hr7,hd7⟩
   have hd17:Dr R wE w7:=(Dr.refl R wE).drew.trans hd7
   have ht5:=(ht4.drawn hd17 hr7).more (N:=M+150000) (J:=20000) (H:=16) (by omega) (by omega) (by omega)
   have hS7:Frm (fun k=>k=R∨k=w.heap.size∨k=w.heap.size+1) wE w7:=hd17.mono (fun k _ hk=>.inl hk)
   refine hK.out _ _ hS7 ?_
   refine pT ?_
   refine tQ ?_
   have hsz7:=hd17.size
   have hRE:=ht4.at_.rd.lt
   have cs:=ht5.zs.cell
   have ct:=ht5.zt.cell
   have cp:=ht5.zp.cell
   have fs:=ht5.zs.frozen
   have ft:=ht5.zt.frozen
   have fp:=ht5.zp.frozen
   obtain⟨f1,f2⟩:=zaZ.finSPT ({ ht5.at_ with ip:=hp.less (by simp;omega),bd:=za (BdA.of hgp.out) }) ht5.zs ht5.zt ht5.zp rfl rfl rfl (by omega) (by omega) (by omega) (by omega) (by omega) (by omega)
   rw [hsal.out,htal.out] at f1 f2
   refine zu fun K hK=>?_;go_simp
   have hS8:=hS7.trans ((zT w7 w.heap.size (.int .i64 a1) (.int .i64 s.st) (.slice A n c)).mono (T:=fun k=>k=R∨k=w.heap.size∨k=w.heap.size+1) (fun k _ hk=>.inr (.inl hk)))
   refine hK.out _ _ hS8 ?_
   refine pT ?_
   refine zu fun K hK=>?_;go_simp
   have hS9:=hS8.trans ((zT _ (w.heap.size+1) (.int .i64 p.al) (.slice B m d) (.slice B' m' d')).mono (T:=fun k=>k=R∨k=w.heap.size∨k=w.heap.size+1) (fun k _ hk=>.inr (.inr hk)))
   refine hK.out _ _ hS9 ?_
   refine pT ?_
   refine zF fun K hK=>?_
   go_simp
   refine hK.out _ _ ?_
   refine zR ?_
   go_wp2_with fail
   obtain⟨g1,g2,g3⟩:=f2.out
   have c1:=g1.cell
   have cc2:=g2.cell
   have c3:=g3.cell
   exact bodyPost_ret (v:=.tuple #[.agg #[.int .i64 a1,.int .i64 s.st,.slice A n c],.agg #[.int .i64 p.al,.slice B m d,.slice B' m' d'],.agg #[.int .i64 a2,.int .i64 t.st,.slice C k c2]]) (by simp [results,Tryz.results32,go_sem,c1,cc2,c3]) rfl ⟨s,A,n,c,t,C,k,c2,p,B,m,d,B',m',d',by rw [hsal.out,htal.out],f1.out⟩
theorem pickA {p x:Nat}(h:1≤(p:Int)→(x:Int)<p)(h0:(p:Int)<1→x=0):x<p+1:=by
 rcases Nat.lt_or_ge 0 p with h1|h1
 ·have:=h (by omega);omega
 ·have:=h0 (by omega);omega
theorem e_filledA {R M M' E x y p:Nat} {w2 w4:World}(hb:Blk w4 E 92 #[.int .i64 0,.int .i64 0,.int .i64 0])(hr:Rd w4 R M')(hd:Dr R w2 w4)(hE:w2.heap.size≤E)(hR:R<w2.heap.size)(hx:x<p+1)(hy:y<p+1)(hM:M'≤M) :
  ∃ E' x' y':Nat,Value.pointer (some ⟨E,0,none⟩)=.pointer (some ⟨E',0,none⟩)∧x'<p+1∧y'<p+1∧w2.heap.size≤E'∧Blk (((w4.setCell ⟨E,0,none⟩ (.int .i64 x)).setCell ⟨E,1,none⟩ (.int .i64 0)).setCell ⟨E,2,none⟩ (.int .i64 y)) E' 92 #[.int .i64 x',.int .i64 0,.int .i64 y']∧Rd (((w4.setCell ⟨E,0,none⟩ (.int .i64 x)).setCell ⟨E,1,none⟩ (.int .i64 0)).setCell ⟨E,2,none⟩ (.int .i64 y)) R M∧Dr R w2 (((w4.setCell ⟨E,0,none⟩ (.int .i64 x)).setCell ⟨E,1,none⟩ (.int .i64 0)).setCell ⟨E,2,none⟩ (.int .i64 y)):=by
 have hf:=zcM w4 E (.int .i64 x) (.int .i64 0) (.int .i64 y)
 refine⟨E,x,y,rfl,by omega,by omega,hE,by simpa using ((hb.set_ 0 (.int .i64 x)).set_ 1 (.int .i64 0)).set_ 2 (.int .i64 y),(hr.frm hf (fun k h1 h2=>by omega)).more hM,?_⟩
 exact ((hd.setNew (p:=⟨E,0,none⟩) hE _).setNew (p:=⟨E,1,none⟩) hE _).setNew (p:=⟨E,2,none⟩) hE _
theorem zfA {R M n c L a p:Nat} {A:Option Addr} {es:List Edg} {w:World}(h:Rd w R M)(hM:M≤900000000)(hs:zaT w R A n ⟨a,p,es⟩)(ha:a<64)(hp:p≤16)(hfew:Few (p+1) es)(hn:n≤L)(hL:L≤100000) :
  Calls Tryz.prog 36 #[.pointer (some ⟨R,0,none⟩),.agg #[.int .i64 a,.int .i64 p,.slice A n c]] w (RetA R (M+10) (L+1) w):=by
 have hRl:=h.lt
 have hr0:=hs.at_.2
 have hen:=za hs.1
 have Hfew:=za hfew
 have hsm:Sm a:=by unfold Sm;omega
 have hx1:Ext w (((w.alloc (.cells #[.int .i64 a,.int .i64 p,.slice A n c] 43)).alloc (.cells #[.int .i64 0,.int .i64 0,.slice none 0 0] 43)).alloc (.cells #[.int .i64 a,.int .i64 p,.slice none 0 0] 43)):=(((Ext.refl _).alloc _).alloc _).alloc _
 obtain⟨bS,bZ,bG⟩:=zN (Ext.refl (((w.alloc (.cells #[.int .i64 a,.int .i64 p,.slice A n c] 43)).alloc (.cells #[.int .i64 0,.int .i64 0,.slice none 0 0] 43)).alloc (.cells #[.int .i64 a,.int .i64 p,.slice none 0 0] 43)))
 have HbS:=za bS
 have HbZ:=za bZ
 have HbG:=za bG
 have Hx1:=za hx1
 clear bS bZ bG hx1 hs hfew
 go_enter Tryz.func36,Tryz.ntmps36
 go_wp2_with fail
 generalize ((w.alloc (.cells #[.int .i64 a,.int .i64 p,.slice A n c] 43)).alloc (.cells #[.int .i64 0,.int .i64 0,.slice none 0 0] 43)).alloc (.cells #[.int .i64 a,.int .i64 p,.slice none 0 0] 43)=w1 at *
 refine (zr (h.ext Hx1.out) (by omega)).mono ?_
 rintro e w2 ⟨gone,rfl,-,-,hr2,hd2⟩
 have hz1:=HbG.out.lt
 have bS2:=HbS.out.dr hd2 (by omega)
 have bZ2:=HbZ.out.dr hd2 (by omega)
 have bG2:=HbG.out.dr hd2 (by omega)
 have hw2:=Hx1.out.dr.trans hd2
 have cS:∀ W,Dr R w2 W→∀ q,W.cell? ⟨w.heap.size,q,none⟩=#[Value.int .i64 a,.int .i64 p,.slice A n c][q]?:=fun W hW=>(bS2.dr hW (by omega)).cell
 go_upto_region 3 with fail
 go_cut [7] (fun s7 wx=>∃ E x y:Nat,s7=.pointer (some ⟨E,0,none⟩)∧x<p+1∧y<p+1∧w2.heap.size≤E∧Blk wx E 92 #[.int .i64 x,.int .i64 0,.int .i64 y]∧Rd wx R (M+3)∧Dr R w2 wx)
 case first =>
  refine tR (fun X=>Dr R w2 X) [10] (Ord.app [0,1,2,4,5,6] (Ord.two 3 (Ord.two 7 (Ord.of [8,9,10]) 9 (Ord.of [7,8,10])) 9 (Ord.of [3,7,8,10]))) ?_
  refine tQ ?_
  refine zdQ (fun K hK=>?_) (fun K hK=>?_)
  ·go_simp
   refine (zr (n:=p) (hr2.ext ((Ext.refl _).drew)) (by omega)).mono ?_
   rintro e w3 ⟨x,rfl,hx,hx0,hr3,hd3⟩
   have hd23:Dr R w2 w3:=((Dr.refl R w2).drew).trans hd3
   refine hK.out _ _ hd23 ?_
   refine pT ?_
   refine zdQ (fun K hK=>?_) (fun K hK=>?_)
   ·go_simp
    refine (zr (n:=p) hr3 (by omega)).mono ?_
    rintro e w4 ⟨y,rfl,hy,hy0,hr4,hd4⟩
    have hd24:=hd23.trans hd4
    refine hK.out _ _ hd24 ?_
    refine pT ?_
    refine tQ ?_
    refine zu fun K hK=>?_;go_simp
    refine hK.out _ _ (hd24.alloc _) ?_
    refine pT ?_
    refine tQ ?_
    refine zF fun K hK=>?_
    go_simp
    refine hK.out _ _ ?_
    refine zR ?_
    go_wp2_with fail
    go_meet
    exact⟨w4.heap.size,x,y,rfl,by omega,by omega,hd24.size,Blk.new _ _ _,hr4.ext ((Ext.refl _).alloc _),hd24.alloc _⟩
   ·go_simp
    have hx3:=(Ext.refl w3).alloc (.cells #[.int .i64 0,.int .i64 0,.int .i64 0] 92)
    have hb3:=Blk.new w3 92 #[.int .i64 0,.int .i64 0,.int .i64 0]
    have hd23':=hd23.ext hx3
    have hr3':=hr3.ext hx3
    have hRw:=hr3.lt
    refine hK.out _ _ hd23' ?_
    generalize w3.alloc (.cells #[.int .i64 0,.int .i64 0,.int .i64 0] 92)=w3' at *
    refine pT ?_
    refine zu fun K hK=>?_;go_simp
    refine (zr (n:=p) hr3' (by omega)).mono ?_
    rintro e w4 ⟨y,rfl,hy,hy0,hr4,hd4⟩
    have hd24:=hd23'.trans hd4
    have hb4:=hb3.dr hd4 (by omega)
    refine hK.out _ _ hd24 ?_
    refine pT ?_
    refine tQ ?_
    have cE:=hb4.cell
    have fE:=hb4.frozen
    refine zF fun K hK=>?_
    go_simp
    refine hK.out _ _ ?_
    refine zR ?_
    go_wp2_with fail
    go_meet
    exact e_filledA hb4 hr4 hd24 hd23.size hr2.lt (pickA hx hx0) (pickA hy hy0) (by omega)
  ·go_simp
   have hx2:=((Ext.refl w2).alloc (.cells #[.int .i64 0,.int .i64 0,.int .i64 0] 92)).drew
   have hb2:Blk (w2.alloc (.cells #[.int .i64 0,.int .i64 0,.int .i64 0] 92)).drew w2.heap.size 92 #[.int .i64 0,.int .i64 0,.int .i64 0]:=Blk.new w2 _ _
   have hr2':=hr2.ext hx2
   have hRw:=hr2.lt
   have hd22:Dr R w2 (w2.alloc (.cells #[.int .i64 0,.int .i64 0,.int .i64 0] 92)).drew:=hx2.dr
   refine hK.out _ _ hd22 ?_
   generalize (w2.alloc (.cells #[.int .i64 0,.int .i64 0,.int .i64 0] 92)).drew=w2' at *
   refine pT ?_
   refine zu fun K hK=>?_;go_simp
   refine (zr (n:=p) hr2' (by omega)).mono ?_
   rintro e w3 ⟨x,rfl,hx,hx0,hr3,hd3⟩
   have hd23:=hd22.trans hd3
   have hb3:=hb2.dr hd3 (by omega)
   refine hK.out _ _ hd23 ?_
   refine pT ?_
   refine zu fun K hK=>?_;go_simp
   refine (zr (n:=p) hr3 (by omega)).mono ?_
   rintro e w4 ⟨y,rfl,hy,hy0,hr4,hd4⟩
   have hd24:=hd23.trans hd4
   have hb4:=hb3.dr hd4 (by omega)
   refine hK.out _ _ hd24 ?_
   refine pT ?_
   refine tQ ?_
   have cE:=hb4.cell
   have fE:=hb4.frozen
   refine zF fun K hK=>?_
   go_simp
   refine hK.out _ _ ?_
   refine zR ?_
   go_wp2_with fail
   go_meet
   exact e_filledA hb4 hr4 hd24 (Nat.le_refl _) hRw (pickA hx hx0) (pickA hy hy0) (by omega)
 case rest =>
  obtain⟨E,x,y,rfl,hx,hy,hE,hbE,hr3,hd3⟩:=hcut
  have hw3:=hw2.trans hd3
  have bS3:=bS2.dr hd3 (by omega)
  have bZ3:=bZ2.dr hd3 (by omega)
  have bG3:=bG2.dr hd3 (by omega)
  have hz2:=bG2.lt
  clear cS
  have cS:=bS3.cell
  go_wp2_with fail
  refine (zK a hsm _).mono ?_
  rintro e w4 ⟨B,d,rfl,hown4,hx4⟩
  have hw4:=hw3.ext hx4
  have bS4:=bS3.ext hx4
  have bZ4:=bZ3.ext hx4
  have bG4:=bG3.ext hx4
  have bE4:=hbE.ext hx4
  have hr4:=hr3.ext hx4
  have hE3:=hbE.lt
  have hl6:=zy a 6
  have hlm:=za (fun k (hk:k∈letters a 6)=>(zbD.1 hk).1)
  have hrd4:=(Reads.of_own hown4)
  have hz23:=hd3.size
  have hz34:=hx4.size
  have hRz:=hr2.lt
  clear cS hown4 hx4 bS3 bZ3 bG3 hbE hr3 hw3 HbS HbZ HbG Hx1 bS2 bZ2 bG2 hw2 hr2
  generalize letters a 6=ls at *
  go_upto_region 5 with fail
  go_cut [9] (fun s9 wx=>∃ b:Bool,s9=.bool b∧(b=true→0<ls.length)∧Rd wx R (M+4)∧Dr R w4 wx)
  case first =>
   by_cases hl:0<ls.length
   ·go_wp2_with fail
    refine (zr hr4 (by omega)).mono ?_
    rintro e w5 ⟨z,rfl,-,-,hr5,hd5⟩
    go_wp2_with fail
    go_meet
    exact⟨_,rfl,fun _=>hl,hr5,hd5⟩
   ·go_wp2_with fail
    go_meet
    exact⟨false,rfl,fun h=>by (first|cases h|omega),hr4.more (by omega),Dr.refl _ _⟩
  case rest =>
   obtain⟨b,rfl,hbl,hr5,hd5⟩:=hcut
   go_upto_if 42 with fail
   go_cut [] (fun wx=>∃ l:Nat,l<6∧Blk wx E 92 #[.int .i64 x,.int .i64 l,.int .i64 y]∧Blk wx w.heap.size 43 #[.int .i64 a,.int .i64 p,.slice A n c]∧Blk wx (w.heap.size+1) 43 #[.int .i64 0,.int .i64 0,.slice none 0 0]∧Blk wx (w.heap.size+1+1) 43 #[.int .i64 a,.int .i64 p,.slice none 0 0]∧Rd wx R (M+5)∧Dr R w wx)
   case first =>
    have bS5:=bS4.dr hd5 (by omega)
    have bZ5:=bZ4.dr hd5 (by omega)
    have bG5:=bG4.dr hd5 (by omega)
    have bE5:=bE4.dr hd5 (by omega)
    have hw5:=hw4.trans hd5
    clear bS4 bZ4 bG4 bE4 hw4 hr4
    cases b
    ·go_wp2_with fail
     go_meet
     exact⟨0,by omega,bE5,bS5,bZ5,bG5,hr5.more (by omega),hw5⟩
    ·have hl0:=hbl rfl
     have hl1:(1:Int)≤(ls.length:Int):=by omega
     clear hbl
     go_wp2_with fail
     refine (zr hr5 (by omega)).mono ?_
     rintro e w6 ⟨z,rfl,hz,-,hr6,hd6⟩
     have hzl:=hz hl1
     have hzl':z<ls.length:=by omega
     obtain⟨ad,l,rfl,_,_,hl,hlc⟩:=((hrd4.dr hd5 (by omega)).dr hd6 (by omega)).nat hzl'
     have hl6':=hlm.out l (List.mem_of_getElem? hl.out)
     have bS6:=bS5.dr hd6 (by omega)
     have bZ6:=bZ5.dr hd6 (by omega)
     have bG6:=bG5.dr hd6 (by omega)
     have bE6:=bE5.dr hd6 (by omega)
     have hw6:=hw5.trans hd6
     have cE:=bE6.cell
     have fE:=bE6.frozen
     have hf:=Frm.setCell w6 E 1 (.int .i64 (l:Nat))
     clear hz bS5 bZ5 bG5 bE5 hw5
     go_wp2_with fail
     go_meet
     exact⟨l,hl6',by simpa using bE6.set_ 1 (.int .i64 (l:Nat)),bS6.frm hf (by omega),bZ6.frm hf (by omega),bG6.frm hf (by omega),(hr6.frm hf (fun k h1 h2=>by omega)),hw6.setNew (by dsimp only;omega) _⟩
   case rest =>
    obtain⟨l,hl,bE,bS,bZ,bG,hrB,hdB⟩:=hcut
    clear bS4 bZ4 bG4 bE4 hw4 hr4 hd5 hr5 hlm hrd4 hl6 hbl
    obtain⟨wB,hwB⟩:∃ wB,wB=wc:=⟨_,rfl⟩
    subst hwB
    have zgD:Acc w wB wB R (w.heap.size+1+1) (M+5) a p (.slice none 0 0) []:=⟨bG,World.ownsRow_nil _ _ _ _,hrB,hdB,Frm.refl _ _,hRl,hdB.size,by omega⟩
    have hEz:=bE.lt
    have hSz:=bG.lt
    clear bG
    go_wp2_with fail
    go_loopw [9,10] (fun v i wr=>∃ (b:Bool) (k:Nat),k≤n∧i=.int .i64 k∧v=.bool b∧∃ (u:Value) (fs:List Edg),Acc w wB wr R (w.heap.size+1+1) (M+5) a p u fs∧fs.length+b.toNat≤k+1∧Hid (Few (p+1) fs)) (fun _ i _=>n - (intOf i).toNat)
    case atStart=>exact⟨b,0,Nat.zero_le _,rfl,rfl,_,[],zgD,by cases b<;>decide,few_nil (p+1)⟩
    case round =>
     clear zgD
     obtain⟨b,k,hk,rfl,rfl,u,fs,zgD,hlen,hfw⟩:=hrel
     have bS1:=bS.frm zgD.fr (by omega)
     have bE1:=bE.frm zgD.fr (by omega)
     have cS:=bS1.cell
     have hxyl:(0≤(x:Int)∧(x:Int)<((p+1:Nat):Int))∧(0≤(l:Int)∧(l:Int)<6)∧(0≤(y:Int)∧(y:Int)<((p+1:Nat):Int)):=by omega
     by_cases hlt:k<n
     ·obtain⟨b0,o0,ed,rfl,hlo,hhi,he,c0,c1,c2⟩:=(hr0.dr zgD.dr (by omega)).edge hlt
      have hedf:=za (Hfew.out ed (List.mem_of_getElem? he.out))
      go_upto_region 11 with fail
      clear cS
      go_cut [67] (fun s wx=>∃ q:Bool,s=.bool q∧(q=true→b=true)∧Ext wr wx)
      case first =>
       have cS:=bS1.cells
       have cE:=bE1.cells
       have C0:∀ W,Ext wr W→W.cell? ⟨b0,o0+k*3,none⟩=some (.int .i64 ed.fr):=fun W hW=>hW.cell_some c0
       have C1:∀ W,Ext wr W→W.cell? ⟨b0,o0+k*3+1,none⟩=some (.int .i64 ed.le):=fun W hW=>hW.cell_some c1
       have C2:∀ W,Ext wr W→W.cell? ⟨b0,o0+k*3+2,none⟩=some (.int .i64 ed.ta):=fun W hW=>hW.cell_some c2
       have hww:=Ext.refl wr
       cases b
       ·go_wp2_with fail
        go_quiet (fail)
        go_wp2_with fail
        go_meet
        exact⟨false,rfl,fun h=>h,(Ext.refl _).drewN _⟩
       ·go_wp2_with fail
        go_region_held3 (fun W=>Ext wr W) (first|assumption|(refine Ext.drew ?_;assumption)|(refine Ext.trans ?_ (by assumption);assumption)|(refine Ext.trans ?_ (by assumption);refine Ext.drew ?_;assumption)) ((go_at_call 64;refine (zcl (a:=⟨x,l,y⟩) (b:=ed)).mono ?_;rintro e w5 ⟨rfl,hx5⟩))
        go_wp2_with fail
        go_meet
        exact⟨_,rfl,fun _=>by trivial,by assumption⟩
      case rest =>
       obtain⟨q,rfl,hq,hxc⟩:=hcut
       replace zgD:=zgD.ext hxc
       replace bE1:=bE1.ext hxc
       go_upto_if 67 with fail
       go_cut [9] (fun s9 wx=>∃ (b:Bool) (u:Value) (fs:List Edg),s9=.bool b∧Acc w wB wx R (w.heap.size+1+1) (M+5) a p u fs∧fs.length+b.toNat≤k+1∧Hid (Few (p+1) fs))
       case first =>
        cases q
        ·go_wp2_with fail
         go_meet
         exact⟨b,u,fs,rfl,zgD,hlen,hfw⟩
        ·obtain rfl:=hq rfl
         have cG:=zgD.blk.cell
         have cE:=bE1.cell
         simp only [Bool.toNat_true] at hlen
         clear hq
         go_wp2_with (at_builtin;refine zar wB _ rfl _ _ _ rfl 92 _ 3 24 Tryz.underlying41 zaE rfl (by decide) u fs.length (zo fs) _ _ rfl rfl zgD.fr.size zgD.own rfl (by simp [Value.oneCell']) (by unfold maxLen;omega) (by omega) ?_;intro g cap w3 zgN hg3 hat3 hlt3;obtain⟨h1,h2,h3⟩:=zgD.push (e:=⟨x,l,y⟩) zgN hg3 hat3;have h1':=h1.out)
         go_meet
         exact⟨false,_,_,rfl,h3,by simp;omega,zeC hfw.out hxyl⟩
       case rest =>
        clear zgD hlen hfw bS1 bE1 c0 c1 c2 hxc hq
        obtain⟨b,u,fs,rfl,zgD,hlen,hfw⟩:=hcut
        obtain⟨wr,hwr⟩:∃ wr,wr=wc:=⟨_,rfl⟩
        subst hwr
        have bS1:=bS.frm zgD.fr (by omega)
        have bE1:=bE.frm zgD.fr (by omega)
        obtain⟨c0,c1,c2⟩:=(hr0.dr zgD.dr (by omega)).edge2 he.out
        go_upto_region 14 with fail
        go_cut [83] (fun s wx=>∃ q:Bool,s=.bool q∧Ext wr wx)
        case first =>
         have cS:=bS1.cells
         have cE:=bE1.cells
         have C0:∀ W,Ext wr W→W.cell? ⟨b0,o0+k*3,none⟩=some (.int .i64 ed.fr):=fun W hW=>hW.cell_some c0
         have C1:∀ W,Ext wr W→W.cell? ⟨b0,o0+k*3+1,none⟩=some (.int .i64 ed.le):=fun W hW=>hW.cell_some c1
         have C2:∀ W,Ext wr W→W.cell? ⟨b0,o0+k*3+2,none⟩=some (.int .i64 ed.ta):=fun W hW=>hW.cell_some c2
         have hww:=Ext.refl wr
         cases b
         ·go_wp2_with fail
          go_quiet (fail)
          go_wp2_with fail
          go_meet
          exact⟨false,rfl,(Ext.refl _).drewN _⟩
         ·go_wp2_with fail
          refine sR (fun X=>Ext wr X) [0,1,2,3,4,5,6,7,8,9] (fun hS=>?_)
          refine sQ ?_
          have HE:=eq_edge (x:Int) (l:Int) (y:Int) ed.fr ed.le ed.ta
          refine seq_read (v:=.bool (((x:Int)==ed.fr)&&(((l:Int)==ed.le)&&((y:Int)==ed.ta)))) rfl rfl rfl (fun X hX=>?_) (by assumption) ?_
          ·go_simp
          ·clear HE
           refine pT ?_
           generalize (((x:Int)==ed.fr)&&(((l:Int)==ed.le)&&((y:Int)==ed.ta)))=q
           refine sQ ?_
           refine zeY ?_
           go_wp2_with fail
           go_meet
           exact⟨_,rfl,(Ext.refl _).drew⟩
        case rest =>
         obtain⟨q,rfl,hxc⟩:=hcut
         replace zgD:=zgD.ext hxc
         replace bS1:=bS1.ext hxc
         replace c0:=hxc.cell_some c0
         replace c1:=hxc.cell_some c1
         replace c2:=hxc.cell_some c2
         clear bE1 hxc
         go_upto_if 83 with fail
         go_cut [9] (fun s9 wx=>∃ b':Bool,s9=.bool b'∧b'.toNat≤b.toNat∧wc=wx)
         case first =>
          cases q
          ·go_wp2_with fail
           go_meet
           exact⟨b,rfl,Nat.le_refl _,rfl⟩
          ·go_wp2_with fail
           go_meet
           exact⟨false,rfl,Nat.zero_le _,rfl⟩
         case rest =>
          obtain⟨b',rfl,hbb,hwc⟩:=hcut
          subst hwc
          by_cases hgo:k=gone
          ·have hne:((k:Int) != (gone:Int))=false:=by simp [hgo]
           have Hgo:=za hgo
           clear hgo
           go_wp2_with fail
           go_roundw
           case rel=>exact⟨b',k+1,by omega,by go_num,rfl,u,fs,zgD,by omega,hfw⟩
           case measure=>simp [intOf];omega
          ·have hne:((k:Int) != (gone:Int))=true:=by simp;omega
           clear hgo
           obtain⟨wr,hwr⟩:∃ wr,wr=wc:=⟨_,rfl⟩
           subst hwr
           have cS:=bS1.cells
           have cG:∀ W,Ext wr W→∀ q,W.cell? ⟨w.heap.size+1+1,q,none⟩=#[Value.int .i64 a,.int .i64 p,u][q]?:=fun W hW=>(zgD.blk.ext hW).cell
           have C0:∀ W,Ext wr W→W.cell? ⟨b0,o0+k*3,none⟩=some (.int .i64 ed.fr):=fun W hW=>hW.cell_some c0
           have C1:∀ W,Ext wr W→W.cell? ⟨b0,o0+k*3+1,none⟩=some (.int .i64 ed.le):=fun W hW=>hW.cell_some c1
           have C2:∀ W,Ext wr W→W.cell? ⟨b0,o0+k*3+2,none⟩=some (.int .i64 ed.ta):=fun W hW=>hW.cell_some c2
           go_wp2_with fail
           refine tR (fun X=>Ext wr X) [8,10] (Ord.of [0,1,2,3,4,5,6,7,8,9,10]) ?_
           refine tQ ?_
           refine zu fun K hK=>?_;go_simp
           refine hK.out _ _ ((Ext.refl _).drew.alloc _) ?_
           refine pT ?_
           refine zF fun K hK=>?_
           refine zaw wB wr.drew _ _ _ rfl 92 _ 3 24 Tryz.underlying41 zaE rfl (by decide) u fs.length (zo fs) _ _ rfl rfl zgD.fr.size zgD.own rfl (by simp [Value.oneCell']) (by unfold maxLen;omega) (by omega) ?_
           intro g cap w3 zgN hg3 hat3 hlt3
           refine hK.out _ _ ?_
           refine pT ?_
           refine tQ ?_
           obtain⟨h1,h2,h3⟩:=(zgD.ext ((Ext.refl _).drew)).push (e:=ed) (W':=w3) zgN hg3 hat3
           have h1':=h1.out
           refine zF fun K hK=>?_
           go_simp
           refine hK.out _ _ ?_
           refine zR ?_
           go_wp2_with fail
           go_roundw
           case rel=>exact⟨b',k+1,by omega,by go_num,rfl,_,_,h3,by simp;omega,zeC hfw.out hedf.out⟩
           case measure=>simp [intOf];omega
     ·obtain rfl:k=n:=by omega
      go_upto_if 97 with fail
      go_cut [] (fun wx=>∃ (u:Value) (fs:List Edg),Acc w wB wx R (w.heap.size+1+1) (M+5) a p u fs∧fs.length≤k+1∧Hid (Few (p+1) fs))
      case first =>
       cases b
       ·go_wp2_with fail
        go_meet
        exact⟨u,fs,zgD,by simpa using hlen,hfw⟩
       ·have cG:=zgD.blk.cell
        have cE:=bE1.cell
        simp only [Bool.toNat_true] at hlen
        go_wp2_with (at_builtin;refine zar wB _ rfl _ _ _ rfl 92 _ 3 24 Tryz.underlying41 zaE rfl (by decide) u fs.length (zo fs) _ _ rfl rfl zgD.fr.size zgD.own rfl (by simp [Value.oneCell']) (by unfold maxLen;omega) (by omega) ?_;intro g cap w3 zgN hg3 hat3 hlt3;obtain⟨h1,h2,h3⟩:=zgD.push (e:=⟨x,l,y⟩) zgN hg3 hat3;have h1':=h1.out)
        go_meet
        exact⟨_,_,h3,by simp;omega,zeC hfw.out hxyl⟩
      case rest =>
       clear zgD hlen hfw cS bS1 bE1
       obtain⟨u,fs,zgD,hlen,hfw⟩:=hcut
       obtain⟨A',n',c',rfl⟩:=zgD.form
       obtain⟨rfl,_⟩:=zgD.reads
       have hcap:=zgh zgD.own
       have cG:=zgD.blk.cell
       have bz2:=bZ.frm zgD.fr (by omega)
       have cz:=bz2.cell
       have hzz:=bZ.lt
       have fz:=bz2.frozen
       obtain⟨f1,f2,f3⟩:=zgD.fin (Z:=w.heap.size+1) (by omega) (by omega) (.int .i64 a) (.int .i64 p) (.slice A' fs.length c')
       have Hfin:=za (show RetA R (M+10) (L+1) w (.returned (.agg #[.int .i64 a,.int .i64 p,.slice A' fs.length c'])) _ from ⟨⟨a,p,fs⟩,A',fs.length,c',rfl,f1,by omega,f2.more (by omega),f3⟩)
       clear f1 f2 f3
       go_wp2_with fail
       exact bodyPost_ret (v:=.agg #[.int .i64 a,.int .i64 p,.slice A' fs.length c']) (by simp [results,Tryz.results36,go_sem,cz]) rfl Hfin.out
theorem zdh {R M n c L:Nat} {A:Option Addr} {s:Sys} {w:World}(h:Rd w R M)(hM:M≤900000000)(hs:zaT w R A n s)(hf:Fair s)(hn:n≤L)(hL:L≤100000) :
  Calls Tryz.prog 36 #[.pointer (some ⟨R,0,none⟩),.agg #[.int .i64 s.al,.int .i64 s.st,.slice A n c]] w (RetA R (M+10) (L+1) w):=by
 obtain⟨al,st,es⟩:=s
 obtain⟨a,p,h1,h2,h3,h5,h6⟩:=hf
 simp only at h1 h3 h6
 subst h1;subst h3
 exact zfA h hM hs h2 h5 h6 hn hL
theorem yJ03a1 {P:Prop}(h:P:=by
 go_wp2_with (at_builtin;refine zW w wr rfl _ _ _ rfl 9 _ 1 16 Tryz.underlying55 zj rfl (by decide) u5 _ _ _ _ rfl rfl zgE zgC rfl (zbq _) (by unfold maxLen;omega) (by omega) ?_;intro v' w1 hext1 zgL hg1 hat1)
 go_roundw
 case rel=>exact⟨k+1,k+1,l++[s.extract m k],by omega,by go_num,by omega,by go_num,by simp;omega,by simpa [zL] using zgL,hall.out,by assumption⟩
 case measure=>simp [intOf];omega
 ):P:=h
theorem spec_l19CutC {s:ByteArray} {w:World}(hs:s.size≤1000000) :
  Calls Tryz.prog 57 #[.string s,.int .u8 44] w (RetStrs s.size (s.size+1) w):=by
 go_enter Tryz.func57,Tryz.ntmps57
 go_wp2_with fail
 go_loopw [5,6,7] (fun v f i wr=>∃ (k m:Nat) (l:List ByteArray),k≤s.size+1∧i=.int .i64 k∧m≤k∧f=.int .i64 m∧l.length≤k∧wr.ownsRow w.heap.size 9 1 v l.length (zL l)∧Hid (∀ x∈l,x.size≤s.size)∧Ext w wr) (fun _ _ i _=>s.size+1 - (intOf i).toNat)
 case atStart=>exact⟨0,0,[],Nat.zero_le _,rfl,Nat.le_refl _,rfl,Nat.le_refl _,World.ownsRow_lit w #[] 0 (Nat.le_refl _) (by unfold maxLen;omega) rfl,(fun x hx=>by cases hx),(Ext.refl _).alloc _⟩
 case round =>
  obtain⟨k,m,l,hk,rfl,hm,rfl,hl,zgC,hlx,zgE⟩:=hrel
  by_cases hle:k≤s.size
  ·have hle':(k:Int)≤(s.size:Int):=by omega
   have hm':(m:Int)≤(k:Int):=by omega
   have hex:=za (show (s.extract m k).size≤s.size by rw [ByteArray.size_extract];omega)
   have hall:=za (show ∀ x∈l++[s.extract m k],x.size≤s.size from fun x hx=>by
    rcases List.mem_append.1 hx with h1|h1
    ·exact hlx.out x h1
    ·rw [List.mem_singleton.1 h1];exact hex.out)
   by_cases he:k=s.size
   ·have heq:((k:Int)==(s.size:Int))=true:=by simp [he]
    have He:=za he
    clear he
    exact yJ03a1
   ·have heq:((k:Int)==(s.size:Int))=false:=by rw [beq_eq_false_iff_ne];omega
    have hlt:k<s.size:=by omega
    have hb:=zbu s k hlt
    cases hc:((s[k].toNat:Int)==44)
    ·go_wp2_with fail
     go_roundw
     case rel=>exact⟨k+1,m,l,by omega,by go_num,by omega,rfl,by omega,zgC,hlx,zgE⟩
     case measure=>simp [intOf];omega
    ·exact yJ03a1
  ·obtain rfl:k=s.size+1:=by omega
   obtain⟨A,c,rfl⟩:=ze zgC
   go_wp2_with fail
   go_ret
   exact⟨A,_,c,l,rfl,rfl,zgC,hlx.out,by omega,zgE⟩
def RetIntsS (N:Nat) (w:World) (e:Ending) (w':World):Prop:=∃ (A:Option Addr) (n c:Nat) (l:List Int) (ok:Bool),e=.returned (.tuple #[.slice A n c,.bool ok])∧n=l.length∧w'.ownsRow w.heap.size 3 1 (.slice A n c) n (ints l)∧n≤N∧Ext w w'
theorem spec_l3Parse {s:ByteArray} {w:World}(hs:s.size≤1000) :
  Calls Tryz.prog 62 #[.string s] w (RetIntsS (s.size+1) w):=by
 have h0:=World.ownsRow_lit (base:=w.heap.size) (e:=3) (size:=1) w #[] 0 (Nat.le_refl _) (by unfold maxLen;omega) rfl
 have hx1:=(Ext.refl w).alloc (.cells #[] 3)
 go_enter Tryz.func62,Tryz.ntmps62
 go_upto_region 2 with fail
 obtain⟨K,hK⟩:∃ K,Hid (K=w.heap.size):=⟨_,za rfl⟩
 rw [← hK.out] at h0 ⊢
 generalize w.alloc (.cells #[] 3)=w1 at *
 cases he:s.toList.isEmpty
 ·go_wp2_with fail
  refine (spec_l19CutC (s:=s) (by omega)).mono ?_
  rintro e w2 ⟨B,m,d,l,rfl,hml,zgM,hlx,hm,hx2⟩
  have hw2:=hx1.trans hx2
  have h02:=zf h0 hx2
  have Hlx:=za hlx
  have Hml:=za hml
  have hm1:m≤s.size+1:=hm
  clear hlx hml h0 he hm
  go_wp2_with fail
  go_loopw [4,6] (fun v iv wr=>∃ (k:Nat) (ls:List Int),k≤m∧iv=.int .i64 (k:Nat)∧wr.ownsRow K 3 1 v k (ints ls)∧Hid (ls.length=k)∧wr.ownsRow w1.heap.size 9 1 (.slice B m d) m (zL l)∧Ext w wr) (fun _ iv _=>m - (intOf iv).toNat)
  case atStart=>exact⟨0,[],Nat.zero_le _,rfl,h02,za rfl,zgM,hw2⟩
  case round =>
   clear h02 zgM hw2 hx2
   obtain⟨k,ls,hk,rfl,hv,hll,hstr,hw⟩:=hrel
   obtain⟨A5,c5,rfl⟩:=ze hv
   by_cases hlt:k<m
   ·obtain⟨gB,rfl,-,-⟩:=zad hstr (by omega)
    obtain⟨ad,xk,hae,-,-,hxk,hck⟩:=(Reads.of_own hstr).str hlt
    obtain rfl:=Option.some.inj hae
    rw [zP,Nat.zero_add] at hck
    have hbk:=za (Hlx.out xk (List.mem_of_getElem? hxk.out))
    go_wp2_with fail
    refine (zcj (s:=xk) (by have:=hbk.out;omega)).mono ?_
    rintro e w3 ⟨x,ok,rfl,rfl⟩
    cases ok
    ·go_wp2_with fail
     exact bodyPost_ret (v:=.tuple #[.slice none 0 0,.bool false]) (by simp [results,Tryz.results62,go_sem]) rfl ⟨none,0,0,[],false,rfl,rfl,World.ownsRow_nil _ _ _ _,by omega,hw⟩
    ·have hsz:=hw.size
     go_wp2_with (at_builtin;refine zar w wr rfl _ _ _ rfl 3 _ 1 8 Tryz.underlying53 zag rfl (by decide) (.slice A5 k c5) k (ints ls) _ _ rfl rfl hsz (by rw [← hK.out];exact hv) rfl (by simp [Value.oneCell']) (by unfold maxLen;omega) (by omega) ?_;intro g5 cap5 w5 zgO hg5 hat5 hlt5)
     go_roundw
     case rel=>exact⟨k+1,ls++[x],by omega,by go_num,by rw [hK.out];simpa [ints] using zgO,za (by have:=hll.out;simp;omega),zd hstr (Frm.of_grown hg5) (fun b hb hS=>zaK hstr hv (by decide) hb hS),hw.grown hg5 (fun j hj=>by have:=(hv.lt j hj).1;have:=hK.out;omega)⟩
     case measure=>simp [intOf];omega
   ·obtain rfl:k=m:=by omega
    go_wp2_with fail
    exact bodyPost_ret (v:=.tuple #[.slice A5 k c5,.bool true]) (by simp [results,Tryz.results62,go_sem]) rfl ⟨A5,k,c5,ls,true,rfl,hll.out.symm,by rw [← hK.out];exact hv,hm1,hw⟩
 ·go_wp2_with fail
  exact bodyPost_ret (v:=.tuple #[.slice (some ⟨K,0,none⟩) 0 0,.bool true]) (by simp [results,Tryz.results62,go_sem]) rfl ⟨some ⟨w.heap.size,0,none⟩,0,0,[],true,by rw [hK.out],rfl,by rw [hK.out] at h0;exact h0,by omega,hx1⟩
def rowB (k n:Nat) (row:List Int):Bool:=decide (row.length=k)&&row.all fun q=>decide (0≤q∧q<n)
def zk (a:Aut):Bool:=
 decide (0≤a.al∧a.al≤63)&&(decide (1≤a.next.length∧a.next.length≤12)&&(decide (a.acc.length=a.next.length)&&a.next.all (rowB (letters a.al.toNat 6).length a.next.length)))
theorem zfO (lo hi:Nat) (A:Option Addr) (n c:Nat) (l:List Int) (k m:Nat) (w:World)(h:Reads w lo hi 1 A n (ints l))(hk:k≤100) (_hm:m≤100) :
  Calls Tryz.prog 47 #[.slice A n c,.int .i64 k,.int .i64 m] w fun e w'=>e=.returned (.bool (rowB k m l))∧w=w':=by
 have hn:=h.len
 have hl:l.length=n:=by have:=h.length;rw [zdq] at this;omega
 have Hl:=za hl
 clear hl
 by_cases he:n=k
 ·subst he
  go_enter Tryz.func47,Tryz.ntmps47
  go_wp2
  go_loop [7] (fun i=>∃ k:Nat,k≤n∧i=.int .i64 k∧Hid ((l.take k).all (fun q=>decide (0≤q∧q<m))=true)) (fun i=>n - (intOf i).toNat)
  case atStart=>exact⟨0,Nat.zero_le _,rfl,rfl⟩
  case round =>
   obtain⟨k,hk,rfl,hall⟩:=hrel
   by_cases hlt:k<n
   ·obtain⟨ad,x,rfl,_,_,hx,hcell⟩:=h.int hlt
    by_cases h0:x<0
    ·go_wp2
     go_ret
     exact⟨zl (by rw [rowB,zaI hx.out (by simp;omega),Bool.and_false]),rfl⟩
    ·by_cases h1:(m:Int)≤x
     ·go_wp2
      go_ret
      exact⟨zl (by rw [rowB,zaI hx.out (by simp;omega),Bool.and_false]),rfl⟩
     ·go_wp2
      go_round
      case rel=>exact⟨k+1,by omega,by go_num,zbJ hx.out hall.out (by simp;omega)⟩
      case measure=>simp [intOf];omega
   ·obtain rfl:k=n:=by omega
    go_wp2
    go_ret
    exact⟨zl (by rw [rowB,zdl (by have:=Hl.out;omega) hall.out,Hl.out];simp),rfl⟩
 ·go_enter Tryz.func47,Tryz.ntmps47
  go_wp2
  go_ret
  exact⟨zl (by rw [rowB,Hl.out];simp [he]),rfl⟩
theorem zH (lo hi:Nat) (A:Option Addr) (n c:Nat) (A':Option Addr) (n' c':Nat) (a:Aut) (w:World)(h:zI w lo hi A n A' n' a) :
  Calls Tryz.prog 19 #[.agg #[.int .i64 a.al,.slice A n c,.slice A' n' c']] w fun e w'=>e=.returned (.bool (zk a))∧Ext w w':=by
 have h1:=h.n1
 have h2:=h.n2
 have Hv:=za (show zk a=(decide (0≤a.al∧a.al≤63)&&(decide (1≤n∧n≤12)&&(decide (n'=n)&&a.next.all (rowB (letters a.al.toNat 6).length n)))) by unfold zk;rw [← h1,← h2])
 have hl1:=h.1.len
 have hl2:=h.2.2.len
 clear h1 h2
 by_cases hal:0≤a.al∧a.al≤63
 ·have hd:=za (show decide (0≤a.al∧a.al≤63)=true by simp;omega)
  by_cases hn:1≤n∧n≤12
  ·have hd1:decide ((n:Int)<1)=false:=by simp;omega
   have hd2:decide (12<(n:Int))=false:=by simp;omega
   by_cases hn':n'=n
   ·subst hn'
    obtain⟨al,hal'⟩:∃ al:Nat,Hid (a.al=al):=⟨a.al.toNat,by unfold Hid;omega⟩
    have hsm:Sm al:=by have:=hal'.out;unfold Sm;omega
    have hll:=zy al 6
    rw [hal'.out]
    rw [hal'.out] at hd
    rw [hal'.out,Int.toNat_natCast] at Hv
    clear hal
    have hR:=fun W (hW:Ext w W)=>h.1.ext hW
    have HR:=za hR
    clear hR
    go_enter Tryz.func19,Tryz.ntmps19
    go_wp2_with (go_at_call 46;refine (zJ _ _).mono ?_;rw [hd.out];rintro e w' ⟨rfl,rfl⟩)
    go_loopw [4] (fun i wr=>∃ k:Nat,k≤n'∧i=.int .i64 k∧Hid ((a.next.take k).all (rowB (letters al 6).length n')=true)∧Ext (w.alloc (.cells #[Value.int .i64 al,Value.slice A n' c,Value.slice A' n' c'] 26)) wr)
     (fun i _=>n' - (intOf i).toNat)
    case atStart=>exact⟨0,Nat.zero_le _,rfl,rfl,Ext.refl _⟩
    case round =>
     obtain⟨k,hk,rfl,hall,zgE⟩:=hrel
     have hbox:∀ W,Ext wr W→∀ j,W.cell? ⟨w.heap.size,j,none⟩=#[Value.int .i64 al,Value.slice A n' c,Value.slice A' n' c'][j]?:=fun W hW=>zcd (zgE.trans hW)
     by_cases hlt:k<n'
     ·obtain⟨ad,Ak,ck,l,rfl,hlo,hhi,hl,hcell,hrk⟩:=(HR.out wr (((Ext.refl _).alloc _).trans zgE)).row hlt
      have hce:∀ W,Ext wr W→W.cell? (ad.add k)=some (.slice Ak l.length ck):=fun W hW=>hW.cell_some hcell
      have hwr:=Ext.refl wr
      have zgF:∀ W,Ext wr W→Ext w W:=fun W hW=>(((Ext.refl _).alloc _).trans zgE).trans hW
      have Hfin:=za zgF
      clear zgF
      cases hrb:rowB (letters al 6).length n' l
      ·have Hrb:=za hrb
       clear hrb
       go_wp2_with fail
       go_region_held3 (fun W=>Ext wr W) (first|assumption|(refine Ext.drew ?_;assumption)|(refine Ext.trans ?_ (by assumption);assumption)|(refine Ext.trans ?_ (by assumption);refine Ext.drew ?_;assumption)) (first|(go_at_call 48;refine (zK _ hsm _).mono ?_;rintro e w2 ⟨A2,c2,rfl,zgM,hext2⟩)|(go_at_call 47;refine (zfO _ _ _ _ _ _ _ _ _ (hrk.ext ?_) (by omega) (by omega)).mono ?_;assumption;rw [Hrb.out];rintro e w3 ⟨rfl,rfl⟩))
       go_wp2
       go_ret
       exact⟨zl (by rw [Hv.out,zaI hl.out Hrb.out];simp),Hfin.out _ (by assumption)⟩
      ·have Hrb:=za hrb
       clear hrb
       go_wp2_with fail
       go_region_held3 (fun W=>Ext wr W) (first|assumption|(refine Ext.drew ?_;assumption)|(refine Ext.trans ?_ (by assumption);assumption)|(refine Ext.trans ?_ (by assumption);refine Ext.drew ?_;assumption)) (first|(go_at_call 48;refine (zK _ hsm _).mono ?_;rintro e w2 ⟨A2,c2,rfl,zgM,hext2⟩)|(go_at_call 47;refine (zfO _ _ _ _ _ _ _ _ _ (hrk.ext ?_) (by omega) (by omega)).mono ?_;assumption;rw [Hrb.out];rintro e w3 ⟨rfl,rfl⟩))
       go_wp2
       go_roundw
       case rel=>exact⟨k+1,by omega,by go_num,zbJ hl.out hall.out Hrb.out,zgE.trans (by assumption)⟩
       case measure=>simp [intOf];omega
     ·obtain rfl:k=n':=by omega
      go_wp2
      go_ret
      exact⟨zl (by rw [Hv.out,zdl (by have:=h.n1;omega) hall.out,hd.out];simp;omega),((Ext.refl _).alloc _).trans zgE⟩
   ·have hne:((n':Int) != (n:Int))=true:=by simp;omega
    go_enter Tryz.func19,Tryz.ntmps19
    go_wp2_with (go_at_call 46;refine (zJ _ _).mono ?_;rw [hd.out];rintro e w' ⟨rfl,rfl⟩)
    go_ret
    exact⟨zl (by rw [Hv.out];simp [hn']),(Ext.refl _).alloc _⟩
  ·go_enter Tryz.func19,Tryz.ntmps19
   go_wp2_with (go_at_call 46;refine (zJ _ _).mono ?_;rw [hd.out];rintro e w' ⟨rfl,rfl⟩)
   all_goals go_ret
   all_goals exact⟨zl (by rw [Hv.out];simp [hn]),(Ext.refl _).alloc _⟩
 ·go_enter Tryz.func19,Tryz.ntmps19
  have hd:decide (0≤a.al∧a.al≤63)=false:=by simp;omega
  go_wp2_with (go_at_call 46;refine (zJ _ _).mono ?_;rw [hd];rintro e w' ⟨rfl,rfl⟩)
  go_ret
  exact⟨zl (by rw [Hv.out];simp;omega),(Ext.refl _).alloc _⟩
theorem autValid_few {a:Aut}(h:zk a=true):∃ al:Nat,a.al=al∧al<64∧1≤a.next.length∧a.next.length≤12∧a.acc.length=a.next.length∧∀ l∈a.next,l.length=(letters al 6).length∧∀ q∈l,0≤q∧q<a.next.length:=by
 simp only [zk,Bool.and_eq_true,decide_eq_true_eq,List.all_eq_true,rowB] at h
 obtain⟨h1,h2,h3,h4⟩:=h
 refine⟨a.al.toNat,by omega,by omega,h2.1,h2.2,h3,fun l hl=>⟨(h4 l hl).1,fun q hq=>(h4 l hl).2 q hq⟩⟩
def RetFmtA (a:Aut) (w:World) (e:Ending) (w':World):Prop:=∃ t:ByteArray,e=.returned (.string t)∧(zk a=false→t.size=0)∧Ext w w'
theorem zda {lo hi:Nat} {A:Option Addr} {n c:Nat} {A':Option Addr} {n' c':Nat} {a:Aut} {w:World}(h:zI w lo hi A n A' n' a) :
  Calls Tryz.prog 63 #[.agg #[.int .i64 a.al,.slice A n c,.slice A' n' c']] w (RetFmtA a w):=by
 have HV:=za (fun W (hW:Ext w W)=>zH lo hi A n c A' n' c' a W ⟨h.1.ext hW,h.2.1,h.2.2.ext hW⟩)
 cases h1:zk a
 ·have H1:=za h1
  clear h1 h
  go_enter Tryz.func63,Tryz.ntmps63
  go_wp2_with (go_at_call 19;refine (HV.out _ ((Ext.refl _).alloc _)).mono ?_;rw [H1.out];rintro e w1 ⟨rfl,hx⟩)
  go_ret
  exact⟨_,rfl,fun _=>rfl,((Ext.refl _).alloc _).trans hx⟩
 ·obtain⟨al,ha,ha2,hn1,hn2,hac,hrows⟩:=autValid_few h1
  have H1:=za h1
  have Hn:=za h.n1
  have Hn':=za h.n2
  have Ha:=za ha
  have Hrows:=za hrows
  have HS:=za (fun W (hW:Ext w W)=>h.1.ext hW)
  have HB:=za (fun W (hW:Ext w W)=>h.2.2.ext hW)
  have e1:n=n':=by have:=h.n1;have:=h.n2;omega
  subst e1
  have hnn:n≤12:=by have:=h.n1;omega
  clear h1 ha hn1 hn2 hac hrows h
  go_enter Tryz.func63,Tryz.ntmps63
  go_wp2_with fail
  refine (HV.out _ ((Ext.refl _).alloc _)).mono ?_
  rw [H1.out]
  rintro e w1 ⟨rfl,hx⟩
  have b1:=zbK hx
  rw [Ha.out] at b1
  have hw1:=((Ext.refl w).alloc _).trans hx
  have cb:=b1.cells
  have hr1:=Ext.refl w1
  clear hx
  go_wp2_with fail
  refine (zaU ha2).mono ?_
  rintro e w2 ⟨t2,rfl,ht2,hx2⟩
  go_wp2_with fail
  go_loopw [3,4] (fun v i wr=>∃ (k:Nat) (t:ByteArray),k≤n∧i=.int .i64 k∧v=.string t∧t.size≤20+100*k∧Ext w1 wr) (fun _ i _=>n - (intOf i).toNat)
  case atStart=>exact⟨0,t2,Nat.zero_le _,rfl,rfl,by omega,hx2⟩
  case round =>
   clear hx2 ht2 hr1
   obtain⟨k,t,hk,rfl,rfl,ht,zgE⟩:=hrel
   have cb0:=cb wr zgE
   by_cases hlt:k<n
   ·obtain⟨ad,Ak,ck,l,rfl,_,_,hl,hc0,hrk⟩:=(HS.out wr (hw1.trans zgE)).row hlt
    obtain⟨ad',x,rfl,_,_,-,hb0⟩:=(HB.out wr (hw1.trans zgE)).bool hlt
    have hq:=za (Hrows.out l (List.mem_of_getElem? hl.out))
    have hl6:l.length≤6:=by have:=hq.out.1;have:=zy al 6;omega
    have Hrk:=za (fun W (hW:Ext wr W)=>hrk.ext hW)
    have Hcr:=za (fun W (hW:Ext wr W)=>hW.cell_some hc0)
    have Hcb:=za (fun W (hW:Ext wr W)=>cb W (zgE.trans hW))
    have hww:=Ext.refl wr
    clear hrk
    go_upto_if 24 with fail
    go_cut [5] (fun s5 wx=>∃ m:ByteArray,s5=.string m∧m.size=2∧Ext wr wx)
    case first =>
     cases x
     ·go_wp2_with fail
      go_meet
      exact⟨{ data:=#[32,45] },rfl,rfl,hww⟩
     ·go_wp2_with fail
      go_meet
      exact⟨{ data:=#[32,43] },rfl,rfl,hww⟩
    case rest =>
     clear hc0 hb0 cb0 hww
     obtain⟨m,rfl,hm2,hwc⟩:=hcut
     obtain⟨wK,hwK⟩:∃ wK,wK=wr:=⟨_,rfl⟩
     rw [← hwK] at Hrk Hcr Hcb hwc zgE
     clear hwK
     have q0:¬ 9223372036854775807<t.size+m.size:=by omega
     have hsz:(t++m).size=t.size+2:=by rw [ByteArray.size_append,hm2]
     go_upto_region 11 with fail
     generalize t++m=t1 at *
     clear q0
     go_wp2_with fail
     go_loopw [3,6] (fun v jv wr=>∃ (j:Nat) (t:ByteArray),j≤l.length∧jv=.int .i64 j∧v=.string t∧t.size≤22+100*k+10*j∧Ext wK wr) (fun _ jv _=>l.length - (intOf jv).toNat)
     case atStart=>exact⟨0,t1,Nat.zero_le _,rfl,rfl,by omega,hwc⟩
     case round =>
      clear hwc
      obtain⟨j,t2,hj,rfl,rfl,ht2,hwx⟩:=hrel
      have cb0:=Hcb.out wr hwx
      have hc0:=Hcr.out wr hwx
      by_cases hjl:j<l.length
      ·obtain⟨ad2,q,rfl,-,-,hql,hcq⟩:=(Hrk.out wr hwx).int hjl
       obtain⟨hq0,hq1⟩:=hq.out.2 q (List.mem_of_getElem? hql.out)
       obtain⟨u,rfl⟩:∃ u:Nat,q=u:=⟨q.toNat,by omega⟩
       have hu:u<100:=by have:=Hn.out;omega
       clear hq0 hq1
       go_upto_if 39 with fail
       go_cut [3] (fun s3 wx=>∃ m:ByteArray,s3=.string m∧m.size≤t2.size+1∧wx=wr)
       case first =>
        by_cases hj0:0<j
        ·have hj0':((j:Int)>0):=by omega
         have q1:¬ 9223372036854775807<t2.size+1:=by omega
         go_wp2_with fail
         go_meet
         exact⟨_,rfl,by rw [ByteArray.size_append];exact Nat.le_refl _,rfl⟩
        ·have hj0':¬ ((j:Int)>0):=by omega
         go_wp2_with fail
         go_meet
         exact⟨t2,rfl,by omega,rfl⟩
       case rest =>
        obtain⟨m3,rfl,hm3,rfl⟩:=hcut
        go_wp2_with fail
        refine (zci (n:=u) hu).mono ?_
        rintro e w4 ⟨t4,rfl,ht4,hx4⟩
        have q2:¬ 9223372036854775807<m3.size+t4.size:=by omega
        go_wp2_with fail
        go_roundw
        case rel=>exact⟨j+1,_,by omega,by go_num,rfl,by rw [ByteArray.size_append];omega,hwx.trans hx4⟩
        case measure=>simp [intOf];omega
      ·obtain rfl:j=l.length:=by omega
       go_wp2_with fail
       go_roundw
       case rel=>exact⟨k+1,t2,by omega,by go_num,rfl,by omega,zgE.trans hwx⟩
       case measure=>simp [intOf];omega
   ·obtain rfl:n=k:=by omega
    go_wp2_with fail
    go_ret
    have hv:=H1.out
    exact⟨t,rfl,fun h=>absurd (hv.symm.trans h) (by decide),hw1.trans zgE⟩
def RetStrs1 (L N:Nat) (w:World) (e:Ending) (w':World):Prop:=∃ (A:Option Addr) (n c:Nat) (l:List ByteArray),e=.returned (.slice A n c)∧n=l.length∧0<n∧w'.ownsRow w.heap.size 9 1 (.slice A n c) n (zL l)∧(∀ x∈l,x.size≤L)∧n≤N∧Ext w w'
theorem spec_l19Cut1 {s:ByteArray} {w:World}(hs:s.size≤1000000) :
  Calls Tryz.prog 57 #[.string s,.int .u8 32] w (RetStrs1 s.size (s.size+1) w):=by
 go_enter Tryz.func57,Tryz.ntmps57
 go_wp2_with fail
 go_loopw [5,6,7] (fun v f i wr=>∃ (k m:Nat) (l:List ByteArray),k≤s.size+1∧i=.int .i64 k∧m≤k∧f=.int .i64 m∧l.length≤k∧wr.ownsRow w.heap.size 9 1 v l.length (zL l)∧Hid (∀ x∈l,x.size≤s.size)∧Ext w wr∧Hid (s.size<k→0<l.length)) (fun _ _ i _=>s.size+1 - (intOf i).toNat)
 case atStart=>exact⟨0,0,[],Nat.zero_le _,rfl,Nat.le_refl _,rfl,Nat.le_refl _,World.ownsRow_lit w #[] 0 (Nat.le_refl _) (by unfold maxLen;omega) rfl,(fun x hx=>by cases hx),(Ext.refl _).alloc _,za (fun hh=>absurd hh (by omega))⟩
 case round =>
  obtain⟨k,m,l,hk,rfl,hm,rfl,hl,zgC,hlx,zgE,hpos⟩:=hrel
  by_cases hle:k≤s.size
  ·have hle':(k:Int)≤(s.size:Int):=by omega
   have hm':(m:Int)≤(k:Int):=by omega
   have hex:=za (show (s.extract m k).size≤s.size by rw [ByteArray.size_extract];omega)
   have hall:=za (show ∀ x∈l++[s.extract m k],x.size≤s.size from fun x hx=>by
    rcases List.mem_append.1 hx with h1|h1
    ·exact hlx.out x h1
    ·rw [List.mem_singleton.1 h1];exact hex.out)
   by_cases he:k=s.size
   ·have heq:((k:Int)==(s.size:Int))=true:=by simp [he]
    have He:=za he
    clear he
    go_wp2_with (at_builtin;refine zW w wr rfl _ _ _ rfl 9 _ 1 16 Tryz.underlying55 zj rfl (by decide) u5 _ _ _ _ rfl rfl zgE zgC rfl (zbq _) (by unfold maxLen;omega) (by omega) ?_;intro v' w1 hext1 zgL hg1 hat1)
    go_roundw
    case rel=>exact⟨k+1,k+1,l++[s.extract m k],by omega,by go_num,by omega,by go_num,by simp;omega,by simpa [zL] using zgL,hall.out,by assumption,za (fun _=>by simp)⟩
    case measure=>simp [intOf];omega
   ·have heq:((k:Int)==(s.size:Int))=false:=by rw [beq_eq_false_iff_ne];omega
    have hlt:k<s.size:=by omega
    have hb:=zbu s k hlt
    cases hc:((s[k].toNat:Int)==32)
    ·go_wp2_with fail
     go_roundw
     case rel=>exact⟨k+1,m,l,by omega,by go_num,by omega,rfl,by omega,zgC,hlx,zgE,za (fun hh=>absurd hh (by omega))⟩
     case measure=>simp [intOf];omega
    ·go_wp2_with (at_builtin;refine zW w wr rfl _ _ _ rfl 9 _ 1 16 Tryz.underlying55 zj rfl (by decide) u5 _ _ _ _ rfl rfl zgE zgC rfl (zbq _) (by unfold maxLen;omega) (by omega) ?_;intro v' w1 hext1 zgL hg1 hat1)
     go_roundw
     case rel=>exact⟨k+1,k+1,l++[s.extract m k],by omega,by go_num,by omega,by go_num,by simp;omega,by simpa [zL] using zgL,hall.out,by assumption,za (fun _=>by simp)⟩
     case measure=>simp [intOf];omega
  ·obtain rfl:k=s.size+1:=by omega
   obtain⟨A,c,rfl⟩:=ze zgC
   go_wp2_with fail
   go_ret
   exact⟨A,_,c,l,rfl,rfl,hpos.out (by omega),zgC,hlx.out,by omega,zgE⟩
end Go.Proofs.YtfcjhpodichpjaaGreat
