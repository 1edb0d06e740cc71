/- spec.l6Chang -/
import Derived.Test.YtfcjhpodichpjaaGreatDoorU03
import Derived.Test.YtfcjhpodichpjaaGreatDoorU02
import Derived.Test.YtfcjhpodichpjaaGreatDoorU01
import Derived.Lib.TrailingZeros
import Derived.Shelf.Spec.TrailingZeros
import Derived.Deep.DeepCutAuto
import Derived.StillTailTactics
import Derived.Deep.CutBlock
import Derived.Shelf.RegionOpenPlain
import Derived.Deep.LoopGhost
import Derived.Sort.WalkB12
import Derived.Lib.SlicesMore
import Derived.Laws.BytesArg
set_option maxHeartbeats 4000000
set_option maxRecDepth 100000
namespace Go.Proofs.YtfcjhpodichpjaaGreatDoor
open Go Go.RowKit
theorem pickA {p x:Nat}(h:1≤(p:Int)→(x:Int)<p)(h0:(p:Int)<1→x=0):x<p+1:=by
 rcases Nat.lt_or_ge 0 p with h1|h1
 ·have:=h (by omega);omega
 ·have:=h0 (by omega);omega
theorem e_filledA {R M M' E x y p:Nat} {w2 w4:World}(hb:Blk w4 E 103 #[.int .i64 0,.int .i64 0,.int .i64 0])(hr:Rd w4 R M')(hd:Dr R w2 w4)(hE:w2.heap.size≤E)(hR:R<w2.heap.size)(hx:x<p+1)(hy:y<p+1)(hM:M'≤M) :
  ∃ E' x' y':Nat,Value.pointer (some ⟨E,0,none⟩)=.pointer (some ⟨E',0,none⟩)∧x'<p+1∧y'<p+1∧w2.heap.size≤E'∧Blk (((w4.setCell ⟨E,0,none⟩ (.int .i64 x)).setCell ⟨E,1,none⟩ (.int .i64 0)).setCell ⟨E,2,none⟩ (.int .i64 y)) E' 103 #[.int .i64 x',.int .i64 0,.int .i64 y']∧Rd (((w4.setCell ⟨E,0,none⟩ (.int .i64 x)).setCell ⟨E,1,none⟩ (.int .i64 0)).setCell ⟨E,2,none⟩ (.int .i64 y)) R M∧Dr R w2 (((w4.setCell ⟨E,0,none⟩ (.int .i64 x)).setCell ⟨E,1,none⟩ (.int .i64 0)).setCell ⟨E,2,none⟩ (.int .i64 y)):=by
 have hf:=zef w4 E (.int .i64 x) (.int .i64 0) (.int .i64 y)
 refine⟨E,x,y,rfl,by omega,by omega,hE,by simpa using ((hb.set_ 0 (.int .i64 x)).set_ 1 (.int .i64 0)).set_ 2 (.int .i64 y),(hr.frm hf (fun k h1 h2=>by omega)).more hM,?_⟩
 exact ((hd.setNew (p:=⟨E,0,none⟩) hE _).setNew (p:=⟨E,1,none⟩) hE _).setNew (p:=⟨E,2,none⟩) hE _
theorem zgo {R M n c L a p:Nat} {A:Option Addr} {es:List Edg} {w:World}(h:Rd w R M)(hM:M≤900000000)(hs:zbd w R A n ⟨a,p,es⟩)(ha:a<64)(hp:p≤16)(hfew:Few (p+1) es)(hn:n≤L)(hL:L≤100000) :
  Calls Tryz.prog 72 #[.pointer (some ⟨R,0,none⟩),.agg #[.int .i64 a,.int .i64 p,.slice A n c]] w (RetA R (M+10) (L+1) w):=by
 have hRl:=h.lt
 have hr0:=hs.at_.2
 have hen:=za hs.1
 have Hfew:=za hfew
 have hsm:Sm a:=by unfold Sm;omega
 have hx1:Ext w (((w.alloc (.cells #[.int .i64 a,.int .i64 p,.slice A n c] 39)).alloc (.cells #[.int .i64 0,.int .i64 0,.slice none 0 0] 39)).alloc (.cells #[.int .i64 a,.int .i64 p,.slice none 0 0] 39)):=(((Ext.refl _).alloc _).alloc _).alloc _
 obtain⟨bS,bZ,bG⟩:=zV (Ext.refl (((w.alloc (.cells #[.int .i64 a,.int .i64 p,.slice A n c] 39)).alloc (.cells #[.int .i64 0,.int .i64 0,.slice none 0 0] 39)).alloc (.cells #[.int .i64 a,.int .i64 p,.slice none 0 0] 39)))
 have HbS:=za bS
 have HbZ:=za bZ
 have HbG:=za bG
 have Hx1:=za hx1
 clear bS bZ bG hx1 hs hfew
 go_enter Tryz.func72,Tryz.ntmps72
 go_wp2_with fail
 generalize ((w.alloc (.cells #[.int .i64 a,.int .i64 p,.slice A n c] 39)).alloc (.cells #[.int .i64 0,.int .i64 0,.slice none 0 0] 39)).alloc (.cells #[.int .i64 a,.int .i64 p,.slice none 0 0] 39)=w1 at *
 refine (zv (h.ext Hx1.out) (by omega)).mono ?_
 rintro e w2 ⟨gone,rfl,-,-,hr2,hd2⟩
 have hz1:=HbG.out.lt
 have bS2:=HbS.out.dr hd2 (by omega)
 have bZ2:=HbZ.out.dr hd2 (by omega)
 have bG2:=HbG.out.dr hd2 (by omega)
 have hw2:=Hx1.out.dr.trans hd2
 have cS:∀ W,Dr R w2 W→∀ q,W.cell? ⟨w.heap.size,q,none⟩=#[Value.int .i64 a,.int .i64 p,.slice A n c][q]?:=fun W hW=>(bS2.dr hW (by omega)).cell
 go_upto_region 3 with fail
 go_cut [7] (fun s7 wx=>∃ E x y:Nat,s7=.pointer (some ⟨E,0,none⟩)∧x<p+1∧y<p+1∧w2.heap.size≤E∧Blk wx E 103 #[.int .i64 x,.int .i64 0,.int .i64 y]∧Rd wx R (M+3)∧Dr R w2 wx)
 case first =>
  refine tR (fun X=>Dr R w2 X) [10] (Ord.app [0,1,2,4,5,6] (Ord.two 3 (Ord.two 7 (Ord.of [8,9,10]) 9 (Ord.of [7,8,10])) 9 (Ord.of [3,7,8,10]))) ?_
  refine tQ ?_
  refine tseq_both (fun K hK=>?_) (fun K hK=>?_)
  ·go_simp
   refine (zv (n:=p) (hr2.ext ((Ext.refl _).drew)) (by omega)).mono ?_
   rintro e w3 ⟨x,rfl,hx,hx0,hr3,hd3⟩
   have hd23:Dr R w2 w3:=((Dr.refl R w2).drew).trans hd3
   refine hK.out _ _ hd23 ?_
   refine pT ?_
   refine tseq_both (fun K hK=>?_) (fun K hK=>?_)
   ·go_simp
    refine (zv (n:=p) hr3 (by omega)).mono ?_
    rintro e w4 ⟨y,rfl,hy,hy0,hr4,hd4⟩
    have hd24:=hd23.trans hd4
    refine hK.out _ _ hd24 ?_
    refine pT ?_
    refine tQ ?_
    refine zG fun K hK=>?_;go_simp
    refine hK.out _ _ (hd24.alloc _) ?_
    refine pT ?_
    refine tQ ?_
    refine zal fun K hK=>?_
    go_simp
    refine hK.out _ _ ?_
    refine zay ?_
    go_wp2_with fail
    go_meet
    exact⟨w4.heap.size,x,y,rfl,by omega,by omega,hd24.size,Blk.new _ _ _,hr4.ext ((Ext.refl _).alloc _),hd24.alloc _⟩
   ·go_simp
    have hx3:=(Ext.refl w3).alloc (.cells #[.int .i64 0,.int .i64 0,.int .i64 0] 103)
    have hb3:=Blk.new w3 103 #[.int .i64 0,.int .i64 0,.int .i64 0]
    have hd23':=hd23.ext hx3
    have hr3':=hr3.ext hx3
    have hRw:=hr3.lt
    refine hK.out _ _ hd23' ?_
    generalize w3.alloc (.cells #[.int .i64 0,.int .i64 0,.int .i64 0] 103)=w3' at *
    refine pT ?_
    refine zG fun K hK=>?_;go_simp
    refine (zv (n:=p) hr3' (by omega)).mono ?_
    rintro e w4 ⟨y,rfl,hy,hy0,hr4,hd4⟩
    have hd24:=hd23'.trans hd4
    have hb4:=hb3.dr hd4 (by omega)
    refine hK.out _ _ hd24 ?_
    refine pT ?_
    refine tQ ?_
    have cE:=hb4.cell
    have fE:=hb4.frozen
    refine zal fun K hK=>?_
    go_simp
    refine hK.out _ _ ?_
    refine zay ?_
    go_wp2_with fail
    go_meet
    exact e_filledA hb4 hr4 hd24 hd23.size hr2.lt (pickA hx hx0) (pickA hy hy0) (by omega)
  ·go_simp
   have hx2:=((Ext.refl w2).alloc (.cells #[.int .i64 0,.int .i64 0,.int .i64 0] 103)).drew
   have hb2:Blk (w2.alloc (.cells #[.int .i64 0,.int .i64 0,.int .i64 0] 103)).drew w2.heap.size 103 #[.int .i64 0,.int .i64 0,.int .i64 0]:=Blk.new w2 _ _
   have hr2':=hr2.ext hx2
   have hRw:=hr2.lt
   have hd22:Dr R w2 (w2.alloc (.cells #[.int .i64 0,.int .i64 0,.int .i64 0] 103)).drew:=hx2.dr
   refine hK.out _ _ hd22 ?_
   generalize (w2.alloc (.cells #[.int .i64 0,.int .i64 0,.int .i64 0] 103)).drew=w2' at *
   refine pT ?_
   refine zG fun K hK=>?_;go_simp
   refine (zv (n:=p) hr2' (by omega)).mono ?_
   rintro e w3 ⟨x,rfl,hx,hx0,hr3,hd3⟩
   have hd23:=hd22.trans hd3
   have hb3:=hb2.dr hd3 (by omega)
   refine hK.out _ _ hd23 ?_
   refine pT ?_
   refine zG fun K hK=>?_;go_simp
   refine (zv (n:=p) hr3 (by omega)).mono ?_
   rintro e w4 ⟨y,rfl,hy,hy0,hr4,hd4⟩
   have hd24:=hd23.trans hd4
   have hb4:=hb3.dr hd4 (by omega)
   refine hK.out _ _ hd24 ?_
   refine pT ?_
   refine tQ ?_
   have cE:=hb4.cell
   have fE:=hb4.frozen
   refine zal fun K hK=>?_
   go_simp
   refine hK.out _ _ ?_
   refine zay ?_
   go_wp2_with fail
   go_meet
   exact e_filledA hb4 hr4 hd24 (Nat.le_refl _) hRw (pickA hx hx0) (pickA hy hy0) (by omega)
 case rest =>
  obtain⟨E,x,y,rfl,hx,hy,hE,hbE,hr3,hd3⟩:=hcut
  have hw3:=hw2.trans hd3
  have bS3:=bS2.dr hd3 (by omega)
  have bZ3:=bZ2.dr hd3 (by omega)
  have bG3:=bG2.dr hd3 (by omega)
  have hz2:=bG2.lt
  clear cS
  have cS:=bS3.cell
  go_wp2_with fail
  refine (zJ a hsm _).mono ?_
  rintro e w4 ⟨B,d,rfl,hown4,hx4⟩
  have hw4:=hw3.ext hx4
  have bS4:=bS3.ext hx4
  have bZ4:=bZ3.ext hx4
  have bG4:=bG3.ext hx4
  have bE4:=hbE.ext hx4
  have hr4:=hr3.ext hx4
  have hE3:=hbE.lt
  have hl6:=zq a 6
  have hlm:=za (fun k (hk:k∈letters a 6)=>(zaH.1 hk).1)
  have hrd4:=(Reads.of_own hown4)
  have hz23:=hd3.size
  have hz34:=hx4.size
  have hRz:=hr2.lt
  clear cS hown4 hx4 bS3 bZ3 bG3 hbE hr3 hw3 HbS HbZ HbG Hx1 bS2 bZ2 bG2 hw2 hr2
  generalize letters a 6=ls at *
  go_upto_region 5 with fail
  go_cut [9] (fun s9 wx=>∃ b:Bool,s9=.bool b∧(b=true→0<ls.length)∧Rd wx R (M+4)∧Dr R w4 wx)
  case first =>
   by_cases hl:0<ls.length
   ·go_wp2_with fail
    refine (zv hr4 (by omega)).mono ?_
    rintro e w5 ⟨z,rfl,-,-,hr5,hd5⟩
    go_wp2_with fail
    go_meet
    exact⟨_,rfl,fun _=>hl,hr5,hd5⟩
   ·go_wp2_with fail
    go_meet
    exact⟨false,rfl,fun h=>by (first|cases h|omega),hr4.more (by omega),Dr.refl _ _⟩
  case rest =>
   obtain⟨b,rfl,hbl,hr5,hd5⟩:=hcut
   go_upto_if 42 with fail
   go_cut [] (fun wx=>∃ l:Nat,l<6∧Blk wx E 103 #[.int .i64 x,.int .i64 l,.int .i64 y]∧Blk wx w.heap.size 39 #[.int .i64 a,.int .i64 p,.slice A n c]∧Blk wx (w.heap.size+1) 39 #[.int .i64 0,.int .i64 0,.slice none 0 0]∧Blk wx (w.heap.size+1+1) 39 #[.int .i64 a,.int .i64 p,.slice none 0 0]∧Rd wx R (M+5)∧Dr R w wx)
   case first =>
    have bS5:=bS4.dr hd5 (by omega)
    have bZ5:=bZ4.dr hd5 (by omega)
    have bG5:=bG4.dr hd5 (by omega)
    have bE5:=bE4.dr hd5 (by omega)
    have hw5:=hw4.trans hd5
    clear bS4 bZ4 bG4 bE4 hw4 hr4
    cases b
    ·go_wp2_with fail
     go_meet
     exact⟨0,by omega,bE5,bS5,bZ5,bG5,hr5.more (by omega),hw5⟩
    ·have hl0:=hbl rfl
     have hl1:(1:Int)≤(ls.length:Int):=by omega
     clear hbl
     go_wp2_with fail
     refine (zv hr5 (by omega)).mono ?_
     rintro e w6 ⟨z,rfl,hz,-,hr6,hd6⟩
     have hzl:=hz hl1
     have hzl':z<ls.length:=by omega
     obtain⟨ad,l,rfl,_,_,hl,hlc⟩:=((hrd4.dr hd5 (by omega)).dr hd6 (by omega)).nat hzl'
     have hl6':=hlm.out l (List.mem_of_getElem? hl.out)
     have bS6:=bS5.dr hd6 (by omega)
     have bZ6:=bZ5.dr hd6 (by omega)
     have bG6:=bG5.dr hd6 (by omega)
     have bE6:=bE5.dr hd6 (by omega)
     have hw6:=hw5.trans hd6
     have cE:=bE6.cell
     have fE:=bE6.frozen
     have hf:=Frm.setCell w6 E 1 (.int .i64 (l:Nat))
     clear hz bS5 bZ5 bG5 bE5 hw5
     go_wp2_with fail
     go_meet
     exact⟨l,hl6',by simpa using bE6.set_ 1 (.int .i64 (l:Nat)),bS6.frm hf (by omega),bZ6.frm hf (by omega),bG6.frm hf (by omega),(hr6.frm hf (fun k h1 h2=>by omega)),hw6.setNew (by dsimp only;omega) _⟩
   case rest =>
    obtain⟨l,hl,bE,bS,bZ,bG,hrB,hdB⟩:=hcut
    clear bS4 bZ4 bG4 bE4 hw4 hr4 hd5 hr5 hlm hrd4 hl6 hbl
    obtain⟨wB,hwB⟩:∃ wB,wB=wc:=⟨_,rfl⟩
    subst hwB
    have zhK:Acc w wB wB R (w.heap.size+1+1) (M+5) a p (.slice none 0 0) []:=⟨bG,World.ownsRow_nil _ _ _ _,hrB,hdB,Frm.refl _ _,hRl,hdB.size,by omega⟩
    have hEz:=bE.lt
    have hSz:=bG.lt
    clear bG
    go_wp2_with fail
    go_loopw [9,10] (fun v i wr=>∃ (b:Bool) (k:Nat),k≤n∧i=.int .i64 k∧v=.bool b∧∃ (u:Value) (fs:List Edg),Acc w wB wr R (w.heap.size+1+1) (M+5) a p u fs∧fs.length+b.toNat≤k+1∧Hid (Few (p+1) fs)) (fun _ i _=>n - (intOf i).toNat)
    case atStart=>exact⟨b,0,Nat.zero_le _,rfl,rfl,_,[],zhK,by cases b<;>decide,few_nil (p+1)⟩
    case round =>
     clear zhK
     obtain⟨b,k,hk,rfl,rfl,u,fs,zhK,hlen,hfw⟩:=hrel
     have bS1:=bS.frm zhK.fr (by omega)
     have bE1:=bE.frm zhK.fr (by omega)
     have cS:=bS1.cell
     have hxyl:(0≤(x:Int)∧(x:Int)<((p+1:Nat):Int))∧(0≤(l:Int)∧(l:Int)<6)∧(0≤(y:Int)∧(y:Int)<((p+1:Nat):Int)):=by omega
     by_cases hlt:k<n
     ·obtain⟨b0,o0,ed,rfl,hlo,hhi,he,c0,c1,c2⟩:=(hr0.dr zhK.dr (by omega)).edge hlt
      have hedf:=za (Hfew.out ed (List.mem_of_getElem? he.out))
      go_upto_region 11 with fail
      clear cS
      go_cut [67] (fun s wx=>∃ q:Bool,s=.bool q∧(q=true→b=true)∧Ext wr wx)
      case first =>
       have cS:=bS1.cells
       have cE:=bE1.cells
       have C0:∀ W,Ext wr W→W.cell? ⟨b0,o0+k*3,none⟩=some (.int .i64 ed.fr):=fun W hW=>hW.cell_some c0
       have C1:∀ W,Ext wr W→W.cell? ⟨b0,o0+k*3+1,none⟩=some (.int .i64 ed.le):=fun W hW=>hW.cell_some c1
       have C2:∀ W,Ext wr W→W.cell? ⟨b0,o0+k*3+2,none⟩=some (.int .i64 ed.ta):=fun W hW=>hW.cell_some c2
       have hww:=Ext.refl wr
       cases b
       ·go_wp2_with fail
        go_quiet (fail)
        go_wp2_with fail
        go_meet
        exact⟨false,rfl,fun h=>h,(Ext.refl _).drewN _⟩
       ·go_wp2_with fail
        go_region_held3 (fun W=>Ext wr W) (first|assumption|(refine Ext.drew ?_;assumption)|(refine Ext.trans ?_ (by assumption);assumption)|(refine Ext.trans ?_ (by assumption);refine Ext.drew ?_;assumption)) ((go_at_call 123;refine (zcB (a:=⟨x,l,y⟩) (b:=ed)).mono ?_;rintro e w5 ⟨rfl,hx5⟩))
        go_wp2_with fail
        go_meet
        exact⟨_,rfl,fun _=>by trivial,by assumption⟩
      case rest =>
       obtain⟨q,rfl,hq,hxc⟩:=hcut
       replace zhK:=zhK.ext hxc
       replace bE1:=bE1.ext hxc
       go_upto_if 67 with fail
       go_cut [9] (fun s9 wx=>∃ (b:Bool) (u:Value) (fs:List Edg),s9=.bool b∧Acc w wB wx R (w.heap.size+1+1) (M+5) a p u fs∧fs.length+b.toNat≤k+1∧Hid (Few (p+1) fs))
       case first =>
        cases q
        ·go_wp2_with fail
         go_meet
         exact⟨b,u,fs,rfl,zhK,hlen,hfw⟩
        ·obtain rfl:=hq rfl
         have cG:=zhK.blk.cell
         have cE:=bE1.cell
         simp only [Bool.toNat_true] at hlen
         clear hq
         go_wp2_with (at_builtin;refine zab wB _ rfl _ _ _ rfl 103 _ 3 24 Tryz.underlying37 zci rfl (by decide) u fs.length (zB fs) _ _ rfl rfl zhK.fr.size zhK.own rfl (by simp [Value.oneCell']) (by unfold maxLen;omega) (by omega) ?_;intro g cap w3 zhU hg3 hat3 hlt3;obtain⟨h1,h2,h3⟩:=zhK.push (e:=⟨x,l,y⟩) zhU hg3 hat3;have h1':=h1.out)
         go_meet
         exact⟨false,_,_,rfl,h3,by simp;omega,zfe hfw.out hxyl⟩
       case rest =>
        clear zhK hlen hfw bS1 bE1 c0 c1 c2 hxc hq
        obtain⟨b,u,fs,rfl,zhK,hlen,hfw⟩:=hcut
        obtain⟨wr,hwr⟩:∃ wr,wr=wc:=⟨_,rfl⟩
        subst hwr
        have bS1:=bS.frm zhK.fr (by omega)
        have bE1:=bE.frm zhK.fr (by omega)
        obtain⟨c0,c1,c2⟩:=(hr0.dr zhK.dr (by omega)).edge2 he.out
        go_upto_region 14 with fail
        go_cut [83] (fun s wx=>∃ q:Bool,s=.bool q∧Ext wr wx)
        case first =>
         have cS:=bS1.cells
         have cE:=bE1.cells
         have C0:∀ W,Ext wr W→W.cell? ⟨b0,o0+k*3,none⟩=some (.int .i64 ed.fr):=fun W hW=>hW.cell_some c0
         have C1:∀ W,Ext wr W→W.cell? ⟨b0,o0+k*3+1,none⟩=some (.int .i64 ed.le):=fun W hW=>hW.cell_some c1
         have C2:∀ W,Ext wr W→W.cell? ⟨b0,o0+k*3+2,none⟩=some (.int .i64 ed.ta):=fun W hW=>hW.cell_some c2
         have hww:=Ext.refl wr
         cases b
         ·go_wp2_with fail
          go_quiet (fail)
          go_wp2_with fail
          go_meet
          exact⟨false,rfl,(Ext.refl _).drewN _⟩
         ·go_wp2_with fail
          refine sR (fun X=>Ext wr X) [0,1,2,3,4,5,6,7,8,9] (fun hS=>?_)
          refine sQ ?_
          have HE:=eq_edge (x:Int) (l:Int) (y:Int) ed.fr ed.le ed.ta
          refine seq_read (v:=.bool (((x:Int)==ed.fr)&&(((l:Int)==ed.le)&&((y:Int)==ed.ta)))) rfl rfl rfl (fun X hX=>?_) (by assumption) ?_
          ·go_simp
          ·clear HE
           refine pT ?_
           generalize (((x:Int)==ed.fr)&&(((l:Int)==ed.le)&&((y:Int)==ed.ta)))=q
           refine sQ ?_
           refine zfJ ?_
           go_wp2_with fail
           go_meet
           exact⟨_,rfl,(Ext.refl _).drew⟩
        case rest =>
         obtain⟨q,rfl,hxc⟩:=hcut
         replace zhK:=zhK.ext hxc
         replace bS1:=bS1.ext hxc
         replace c0:=hxc.cell_some c0
         replace c1:=hxc.cell_some c1
         replace c2:=hxc.cell_some c2
         clear bE1 hxc
         go_upto_if 83 with fail
         go_cut [9] (fun s9 wx=>∃ b':Bool,s9=.bool b'∧b'.toNat≤b.toNat∧wc=wx)
         case first =>
          cases q
          ·go_wp2_with fail
           go_meet
           exact⟨b,rfl,Nat.le_refl _,rfl⟩
          ·go_wp2_with fail
           go_meet
           exact⟨false,rfl,Nat.zero_le _,rfl⟩
         case rest =>
          obtain⟨b',rfl,hbb,hwc⟩:=hcut
          subst hwc
          by_cases hgo:k=gone
          ·have hne:((k:Int) != (gone:Int))=false:=by simp [hgo]
           have Hgo:=za hgo
           clear hgo
           go_wp2_with fail
           go_roundw
           case rel=>exact⟨b',k+1,by omega,by go_num,rfl,u,fs,zhK,by omega,hfw⟩
           case measure=>simp [intOf];omega
          ·have hne:((k:Int) != (gone:Int))=true:=by simp;omega
           clear hgo
           obtain⟨wr,hwr⟩:∃ wr,wr=wc:=⟨_,rfl⟩
           subst hwr
           have cS:=bS1.cells
           have cG:∀ W,Ext wr W→∀ q,W.cell? ⟨w.heap.size+1+1,q,none⟩=#[Value.int .i64 a,.int .i64 p,u][q]?:=fun W hW=>(zhK.blk.ext hW).cell
           have C0:∀ W,Ext wr W→W.cell? ⟨b0,o0+k*3,none⟩=some (.int .i64 ed.fr):=fun W hW=>hW.cell_some c0
           have C1:∀ W,Ext wr W→W.cell? ⟨b0,o0+k*3+1,none⟩=some (.int .i64 ed.le):=fun W hW=>hW.cell_some c1
           have C2:∀ W,Ext wr W→W.cell? ⟨b0,o0+k*3+2,none⟩=some (.int .i64 ed.ta):=fun W hW=>hW.cell_some c2
           go_wp2_with fail
           refine tR (fun X=>Ext wr X) [8,10] (Ord.of [0,1,2,3,4,5,6,7,8,9,10]) ?_
           refine tQ ?_
           refine zG fun K hK=>?_;go_simp
           refine hK.out _ _ ((Ext.refl _).drew.alloc _) ?_
           refine pT ?_
           refine zal fun K hK=>?_
           refine zaC wB wr.drew _ _ _ rfl 103 _ 3 24 Tryz.underlying37 zci rfl (by decide) u fs.length (zB fs) _ _ rfl rfl zhK.fr.size zhK.own rfl (by simp [Value.oneCell']) (by unfold maxLen;omega) (by omega) ?_
           intro g cap w3 zhU hg3 hat3 hlt3
           refine hK.out _ _ ?_
           refine pT ?_
           refine tQ ?_
           obtain⟨h1,h2,h3⟩:=(zhK.ext ((Ext.refl _).drew)).push (e:=ed) (W':=w3) zhU hg3 hat3
           have h1':=h1.out
           refine zal fun K hK=>?_
           go_simp
           refine hK.out _ _ ?_
           refine zay ?_
           go_wp2_with fail
           go_roundw
           case rel=>exact⟨b',k+1,by omega,by go_num,rfl,_,_,h3,by simp;omega,zfe hfw.out hedf.out⟩
           case measure=>simp [intOf];omega
     ·obtain rfl:k=n:=by omega
      go_upto_if 97 with fail
      go_cut [] (fun wx=>∃ (u:Value) (fs:List Edg),Acc w wB wx R (w.heap.size+1+1) (M+5) a p u fs∧fs.length≤k+1∧Hid (Few (p+1) fs))
      case first =>
       cases b
       ·go_wp2_with fail
        go_meet
        exact⟨u,fs,zhK,by simpa using hlen,hfw⟩
       ·have cG:=zhK.blk.cell
        have cE:=bE1.cell
        simp only [Bool.toNat_true] at hlen
        go_wp2_with (at_builtin;refine zab wB _ rfl _ _ _ rfl 103 _ 3 24 Tryz.underlying37 zci rfl (by decide) u fs.length (zB fs) _ _ rfl rfl zhK.fr.size zhK.own rfl (by simp [Value.oneCell']) (by unfold maxLen;omega) (by omega) ?_;intro g cap w3 zhU hg3 hat3 hlt3;obtain⟨h1,h2,h3⟩:=zhK.push (e:=⟨x,l,y⟩) zhU hg3 hat3;have h1':=h1.out)
        go_meet
        exact⟨_,_,h3,by simp;omega,zfe hfw.out hxyl⟩
      case rest =>
       clear zhK hlen hfw cS bS1 bE1
       obtain⟨u,fs,zhK,hlen,hfw⟩:=hcut
       obtain⟨A',n',c',rfl⟩:=zhK.form
       obtain⟨rfl,_⟩:=zhK.reads
       have hcap:=zhh zhK.own
       have cG:=zhK.blk.cell
       have bz2:=bZ.frm zhK.fr (by omega)
       have cz:=bz2.cell
       have hzz:=bZ.lt
       have fz:=bz2.frozen
       obtain⟨f1,f2,f3⟩:=zhK.fin (Z:=w.heap.size+1) (by omega) (by omega) (.int .i64 a) (.int .i64 p) (.slice A' fs.length c')
       have Hfin:=za (show RetA R (M+10) (L+1) w (.returned (.agg #[.int .i64 a,.int .i64 p,.slice A' fs.length c'])) _ from ⟨⟨a,p,fs⟩,A',fs.length,c',rfl,f1,by omega,f2.more (by omega),f3⟩)
       clear f1 f2 f3
       go_wp2_with fail
       exact bodyPost_ret (v:=.agg #[.int .i64 a,.int .i64 p,.slice A' fs.length c']) (by simp [results,Tryz.results72,go_sem,cz]) rfl Hfin.out
theorem zdD {R M n c L:Nat} {A:Option Addr} {s:Sys} {w:World}(h:Rd w R M)(hM:M≤900000000)(hs:zbd w R A n s)(hf:Fair s)(hn:n≤L)(hL:L≤100000) :
  Calls Tryz.prog 72 #[.pointer (some ⟨R,0,none⟩),.agg #[.int .i64 s.al,.int .i64 s.st,.slice A n c]] w (RetA R (M+10) (L+1) w):=by
 obtain⟨al,st,es⟩:=s
 obtain⟨a,p,h1,h2,h3,h5,h6⟩:=hf
 simp only at h1 h3 h6
 subst h1;subst h3
 exact zgo h hM hs h2 h5 h6 hn hL
theorem yU04a1 {P:Prop}(h:P:=by
 go_wp2_with (at_builtin;refine zI w wr rfl _ _ _ rfl 9 _ 1 16 Tryz.underlying61 zi rfl (by decide) u5 _ _ _ _ rfl rfl zhL zhJ rfl (zaD _) (by unfold maxLen;omega) (by omega) ?_;intro v' w1 hext1 zhS hg1 hat1)
 go_roundw
 case rel=>exact⟨k+1,k+1,l++[s.extract m k],by omega,by go_num,by omega,by go_num,by simp;omega,by simpa [zF] using zhS,hall.out,by assumption⟩
 case measure=>simp [intOf];omega
 ):P:=h
theorem spec_l19CutC {s:ByteArray} {w:World}(hs:s.size≤1000000) :
  Calls Tryz.prog 78 #[.string s,.int .u8 44] w (RetStrs s.size (s.size+1) w):=by
 go_enter Tryz.func78,Tryz.ntmps78
 go_wp2_with fail
 go_loopw [5,6,7] (fun v f i wr=>∃ (k m:Nat) (l:List ByteArray),k≤s.size+1∧i=.int .i64 k∧m≤k∧f=.int .i64 m∧l.length≤k∧wr.ownsRow w.heap.size 9 1 v l.length (zF l)∧Hid (∀ x∈l,x.size≤s.size)∧Ext w wr) (fun _ _ i _=>s.size+1 - (intOf i).toNat)
 case atStart=>exact⟨0,0,[],Nat.zero_le _,rfl,Nat.le_refl _,rfl,Nat.le_refl _,World.ownsRow_lit w #[] 0 (Nat.le_refl _) (by unfold maxLen;omega) rfl,(fun x hx=>by cases hx),(Ext.refl _).alloc _⟩
 case round =>
  obtain⟨k,m,l,hk,rfl,hm,rfl,hl,zhJ,hlx,zhL⟩:=hrel
  by_cases hle:k≤s.size
  ·have hle':(k:Int)≤(s.size:Int):=by omega
   have hm':(m:Int)≤(k:Int):=by omega
   have hex:=za (show (s.extract m k).size≤s.size by rw [ByteArray.size_extract];omega)
   have hall:=za (show ∀ x∈l++[s.extract m k],x.size≤s.size from fun x hx=>by
    rcases List.mem_append.1 hx with h1|h1
    ·exact hlx.out x h1
    ·rw [List.mem_singleton.1 h1];exact hex.out)
   by_cases he:k=s.size
   ·have heq:((k:Int)==(s.size:Int))=true:=by simp [he]
    have He:=za he
    clear he
    exact yU04a1
   ·have heq:((k:Int)==(s.size:Int))=false:=by rw [beq_eq_false_iff_ne];omega
    have hlt:k<s.size:=by omega
    have hb:=zaP s k hlt
    cases hc:((s[k].toNat:Int)==44)
    ·go_wp2_with fail
     go_roundw
     case rel=>exact⟨k+1,m,l,by omega,by go_num,by omega,rfl,by omega,zhJ,hlx,zhL⟩
     case measure=>simp [intOf];omega
    ·exact yU04a1
  ·obtain rfl:k=s.size+1:=by omega
   obtain⟨A,c,rfl⟩:=zf zhJ
   go_wp2_with fail
   go_ret
   exact⟨A,_,c,l,rfl,rfl,zhJ,hlx.out,by omega,zhL⟩
def RetIntsS (N:Nat) (w:World) (e:Ending) (w':World):Prop:=∃ (A:Option Addr) (n c:Nat) (l:List Int) (ok:Bool),e=.returned (.tuple #[.slice A n c,.bool ok])∧n=l.length∧w'.ownsRow w.heap.size 3 1 (.slice A n c) n (ints l)∧n≤N∧Ext w w'
theorem spec_l3Parse {s:ByteArray} {w:World}(hs:s.size≤1000) :
  Calls Tryz.prog 80 #[.string s] w (RetIntsS (s.size+1) w):=by
 have h0:=World.ownsRow_lit (base:=w.heap.size) (e:=3) (size:=1) w #[] 0 (Nat.le_refl _) (by unfold maxLen;omega) rfl
 have hx1:=(Ext.refl w).alloc (.cells #[] 3)
 go_enter Tryz.func80,Tryz.ntmps80
 go_upto_region 2 with fail
 obtain⟨K,hK⟩:∃ K,Hid (K=w.heap.size):=⟨_,za rfl⟩
 rw [← hK.out] at h0 ⊢
 generalize w.alloc (.cells #[] 3)=w1 at *
 cases he:s.toList.isEmpty
 ·go_wp2_with fail
  refine (spec_l19CutC (s:=s) (by omega)).mono ?_
  rintro e w2 ⟨B,m,d,l,rfl,hml,zhT,hlx,hm,hx2⟩
  have hw2:=hx1.trans hx2
  have h02:=ze h0 hx2
  have Hlx:=za hlx
  have Hml:=za hml
  have hm1:m≤s.size+1:=hm
  clear hlx hml h0 he hm
  go_wp2_with fail
  go_loopw [4,6] (fun v iv wr=>∃ (k:Nat) (ls:List Int),k≤m∧iv=.int .i64 (k:Nat)∧wr.ownsRow K 3 1 v k (ints ls)∧Hid (ls.length=k)∧wr.ownsRow w1.heap.size 9 1 (.slice B m d) m (zF l)∧Ext w wr) (fun _ iv _=>m - (intOf iv).toNat)
  case atStart=>exact⟨0,[],Nat.zero_le _,rfl,h02,za rfl,zhT,hw2⟩
  case round =>
   clear h02 zhT hw2 hx2
   obtain⟨k,ls,hk,rfl,hv,hll,hstr,hw⟩:=hrel
   obtain⟨A5,c5,rfl⟩:=zf hv
   by_cases hlt:k<m
   ·obtain⟨gB,rfl,-,-⟩:=zP hstr (by omega)
    obtain⟨ad,xk,hae,-,-,hxk,hck⟩:=(Reads.of_own hstr).str hlt
    obtain rfl:=Option.some.inj hae
    rw [zH,Nat.zero_add] at hck
    have hbk:=za (Hlx.out xk (List.mem_of_getElem? hxk.out))
    go_wp2_with fail
    refine (zbR (s:=xk) (by have:=hbk.out;omega)).mono ?_
    rintro e w3 ⟨x,ok,rfl,rfl⟩
    cases ok
    ·go_wp2_with fail
     exact bodyPost_ret (v:=.tuple #[.slice none 0 0,.bool false]) (by simp [results,Tryz.results80,go_sem]) rfl ⟨none,0,0,[],false,rfl,rfl,World.ownsRow_nil _ _ _ _,by omega,hw⟩
    ·have hsz:=hw.size
     go_wp2_with (at_builtin;refine zab w wr rfl _ _ _ rfl 3 _ 1 8 Tryz.underlying74 zac rfl (by decide) (.slice A5 k c5) k (ints ls) _ _ rfl rfl hsz (by rw [← hK.out];exact hv) rfl (by simp [Value.oneCell']) (by unfold maxLen;omega) (by omega) ?_;intro g5 cap5 w5 zhV hg5 hat5 hlt5)
     go_roundw
     case rel=>exact⟨k+1,ls++[x],by omega,by go_num,by rw [hK.out];simpa [ints] using zhV,za (by have:=hll.out;simp;omega),zd hstr (Frm.of_grown hg5) (fun b hb hS=>zaq hstr hv (by decide) hb hS),hw.grown hg5 (fun j hj=>by have:=(hv.lt j hj).1;have:=hK.out;omega)⟩
     case measure=>simp [intOf];omega
   ·obtain rfl:k=m:=by omega
    go_wp2_with fail
    exact bodyPost_ret (v:=.tuple #[.slice A5 k c5,.bool true]) (by simp [results,Tryz.results80,go_sem]) rfl ⟨A5,k,c5,ls,true,rfl,hll.out.symm,by rw [← hK.out];exact hv,hm1,hw⟩
 ·go_wp2_with fail
  exact bodyPost_ret (v:=.tuple #[.slice (some ⟨K,0,none⟩) 0 0,.bool true]) (by simp [results,Tryz.results80,go_sem]) rfl ⟨some ⟨w.heap.size,0,none⟩,0,0,[],true,by rw [hK.out],rfl,by rw [hK.out] at h0;exact h0,by omega,hx1⟩
def RetStrs1 (L N:Nat) (w:World) (e:Ending) (w':World):Prop:=∃ (A:Option Addr) (n c:Nat) (l:List ByteArray),e=.returned (.slice A n c)∧n=l.length∧0<n∧w'.ownsRow w.heap.size 9 1 (.slice A n c) n (zF l)∧(∀ x∈l,x.size≤L)∧n≤N∧Ext w w'
theorem spec_l19Cut1 {s:ByteArray} {w:World}(hs:s.size≤1000000) :
  Calls Tryz.prog 78 #[.string s,.int .u8 32] w (RetStrs1 s.size (s.size+1) w):=by
 go_enter Tryz.func78,Tryz.ntmps78
 go_wp2_with fail
 go_loopw [5,6,7] (fun v f i wr=>∃ (k m:Nat) (l:List ByteArray),k≤s.size+1∧i=.int .i64 k∧m≤k∧f=.int .i64 m∧l.length≤k∧wr.ownsRow w.heap.size 9 1 v l.length (zF l)∧Hid (∀ x∈l,x.size≤s.size)∧Ext w wr∧Hid (s.size<k→0<l.length)) (fun _ _ i _=>s.size+1 - (intOf i).toNat)
 case atStart=>exact⟨0,0,[],Nat.zero_le _,rfl,Nat.le_refl _,rfl,Nat.le_refl _,World.ownsRow_lit w #[] 0 (Nat.le_refl _) (by unfold maxLen;omega) rfl,(fun x hx=>by cases hx),(Ext.refl _).alloc _,za (fun hh=>absurd hh (by omega))⟩
 case round =>
  obtain⟨k,m,l,hk,rfl,hm,rfl,hl,zhJ,hlx,zhL,hpos⟩:=hrel
  by_cases hle:k≤s.size
  ·have hle':(k:Int)≤(s.size:Int):=by omega
   have hm':(m:Int)≤(k:Int):=by omega
   have hex:=za (show (s.extract m k).size≤s.size by rw [ByteArray.size_extract];omega)
   have hall:=za (show ∀ x∈l++[s.extract m k],x.size≤s.size from fun x hx=>by
    rcases List.mem_append.1 hx with h1|h1
    ·exact hlx.out x h1
    ·rw [List.mem_singleton.1 h1];exact hex.out)
   by_cases he:k=s.size
   ·have heq:((k:Int)==(s.size:Int))=true:=by simp [he]
    have He:=za he
    clear he
    go_wp2_with (at_builtin;refine zI w wr rfl _ _ _ rfl 9 _ 1 16 Tryz.underlying61 zi rfl (by decide) u5 _ _ _ _ rfl rfl zhL zhJ rfl (zaD _) (by unfold maxLen;omega) (by omega) ?_;intro v' w1 hext1 zhS hg1 hat1)
    go_roundw
    case rel=>exact⟨k+1,k+1,l++[s.extract m k],by omega,by go_num,by omega,by go_num,by simp;omega,by simpa [zF] using zhS,hall.out,by assumption,za (fun _=>by simp)⟩
    case measure=>simp [intOf];omega
   ·have heq:((k:Int)==(s.size:Int))=false:=by rw [beq_eq_false_iff_ne];omega
    have hlt:k<s.size:=by omega
    have hb:=zaP s k hlt
    cases hc:((s[k].toNat:Int)==32)
    ·go_wp2_with fail
     go_roundw
     case rel=>exact⟨k+1,m,l,by omega,by go_num,by omega,rfl,by omega,zhJ,hlx,zhL,za (fun hh=>absurd hh (by omega))⟩
     case measure=>simp [intOf];omega
    ·go_wp2_with (at_builtin;refine zI w wr rfl _ _ _ rfl 9 _ 1 16 Tryz.underlying61 zi rfl (by decide) u5 _ _ _ _ rfl rfl zhL zhJ rfl (zaD _) (by unfold maxLen;omega) (by omega) ?_;intro v' w1 hext1 zhS hg1 hat1)
     go_roundw
     case rel=>exact⟨k+1,k+1,l++[s.extract m k],by omega,by go_num,by omega,by go_num,by simp;omega,by simpa [zF] using zhS,hall.out,by assumption,za (fun _=>by simp)⟩
     case measure=>simp [intOf];omega
  ·obtain rfl:k=s.size+1:=by omega
   obtain⟨A,c,rfl⟩:=zf zhJ
   go_wp2_with fail
   go_ret
   exact⟨A,_,c,l,rfl,rfl,hpos.out (by omega),zhJ,hlx.out,by omega,zhL⟩
def RetParA (R M L:Nat) (w:World) (e:Ending) (w':World):Prop:=
 ∃ (b:Aut) (A:Option Addr) (n c:Nat) (A':Option Addr) (n' c':Nat) (ok:Bool),e=.returned (.tuple #[.agg #[.int .i64 b.al,.slice A n c,.slice A' n' c'],.bool ok])∧zO w' w.heap.size A n c A' n' c' b∧Hid (BdA L b)∧Rd w' R M∧Dr R w w'
theorem zhj {R M L Z:Nat} {w W:World}(hR:R<w.heap.size)(h:Rd W R M)(hd:Dr R w W)(hZ:w.heap.size≤Z) :
  Hid (RetParA R M L w (.returned (.tuple #[.agg #[.int .i64 0,.slice none 0 0,.slice none 0 0],.bool false])) (((W.setCell ⟨Z,0,none⟩ (.int .i64 0)).setCell ⟨Z,1,none⟩ (.slice none 0 0)).setCell ⟨Z,2,none⟩ (.slice none 0 0))):=
 za ⟨⟨0,[],[]⟩,none,0,0,none,0,0,false,rfl,⟨⟨[],World.ownsRow_nil _ _ _ _,zy.nil _ _⟩,rfl,World.ownsRow_nil _ _ _ _,rfl⟩,za ⟨Nat.zero_le _,Nat.zero_le _,fun l hl=>by simp at hl⟩,h.frm (zaj W Z _ _ _) (fun k hk e=>by omega),((hd.setNew (p:=⟨Z,0,none⟩) hZ _).setNew (p:=⟨Z,1,none⟩) hZ _).setNew (p:=⟨Z,2,none⟩) hZ _⟩
theorem yU04a2 {P:Prop}(h:P:=by
 go_wp2_with fail
 have hfb:=zL bz4 rfl (.int .i64 0) (.slice none 0 0) (.slice none 0 0)
 have cf:=hfb.cell
 exact bodyPost_ret (v:=.tuple #[.agg #[.int .i64 0,.slice none 0 0,.slice none 0 0],.bool false]) (by simp [results,Tryz.results38,go_sem,cf]) rfl hno4.out
 ):P:=h
theorem yU04a3 {P:Prop}(h:P:=by
 have cf:=hfb.cell
 exact bodyPost_ret (v:=.tuple #[.agg #[.int .i64 0,.slice none 0 0,.slice none 0 0],.bool false]) (by simp [results,Tryz.results38,go_sem,cf]) rfl hno.out
 ):P:=h
theorem zdR {R M:Nat} {x:ByteArray} {w:World}(h:Rd w R M)(hx:x.size≤1000) :
  Calls Tryz.prog 38 #[.string x] w (RetParA R M (x.size+1) w):=by
 have hRl:=h.lt
 go_enter Tryz.func38,Tryz.ntmps38
 have hx0:=(Ext.refl w).alloc (.cells #[.int .i64 0,.slice none 0 0,.slice none 0 0] 26)
 have bz:=Blk.new w 26 #[.int .i64 0,.slice none 0 0,.slice none 0 0]
 have hz0:=bz.lt
 go_wp2_with fail
 generalize w.alloc (.cells #[.int .i64 0,.slice none 0 0,.slice none 0 0] 26)=w0 at *
 refine (spec_l19Cut1 (s:=x) (by omega)).mono ?_
 rintro e w1 ⟨B,m,d,l,rfl,hml,hm0,zhS,hlx,hm,hx1⟩
 have Hlx:=za hlx
 have Hml:=za hml
 have hmx:m≤1001:=by omega
 clear hlx hml
 obtain⟨gB,rfl,hgB,-⟩:=zP zhS hm0
 obtain⟨ad,x0,hae,-,-,hx0',hc0⟩:=(Reads.of_own zhS).str (k:=0) hm0
 obtain rfl:=Option.some.inj hae
 rw [zH,Nat.add_zero] at hc0
 have hm0':(0:Int)<(m:Int):=by omega
 go_wp2_with fail
 refine (zca (x:=x0)).mono ?_
 rintro e w2 ⟨al,ok1,rfl,ha,hx2⟩
 have hw2:=hx1.trans hx2
 have bz2:=bz.ext hw2
 have cz2:=bz2.cell
 have fz2:=bz2.frozen
 have hno:=zhj (L:=x.size+1) (M:=M) (Z:=w.heap.size) hRl (h.ext (hx0.trans hw2)) (hx0.trans hw2).dr (Nat.le_refl _)
 cases ok1
 ·go_wp2_with fail
  have hfb:=zL bz2 rfl (.int .i64 0) (.slice none 0 0) (.slice none 0 0)
  exact yU04a3
 ·have bG:=Blk.new w2 26 #[.int .i64 al,.slice none 0 0,.slice none 0 0]
  have hx3:=(Ext.refl w2).alloc (.cells #[.int .i64 al,.slice none 0 0,.slice none 0 0] 26)
  have hs2:=hw2.size
  have zhT:=ze zhS hx2
  have hcx:=za (show ∀ W,Ext w2 W→Ext w W from fun W hW=>(hx0.trans hw2).trans hW)
  go_upto_region 6 with fail
  have zhU:=ze zhT hx3
  have zhK:zaW w0 (w2.alloc (.cells #[.int .i64 al,.slice none 0 0,.slice none 0 0] 26)) R w2.heap.size M al (.slice none 0 0) [] [] (.slice none 0 0) []:=⟨bG,World.ownsRow_nil _ _ _ _,zy.nil _ _,World.ownsRow_nil _ _ _ _,(h.ext (hx0.trans hw2)).ext hx3,(hw2.trans hx3).dr,by omega,hs2⟩
  generalize w2.alloc (.cells #[.int .i64 al,.slice none 0 0,.slice none 0 0] 26)=w3 at *
  generalize w2.heap.size=G at *
  clear hno cz2 fz2 hc0 zhT
  go_wp2_with fail
  go_loopw [8] (fun iv wr=>∃ (i:Nat) (v:Value) (rows:List Value) (ls:List (List Int)) (vA:Value) (acc:List Bool),1≤i∧i≤m∧iv=.int .i64 (i:Nat)∧zaW w0 wr R G M al v rows ls vA acc∧Hid (ls.length≤i - 1)∧Hid (acc.length=ls.length)∧Hid (∀ l∈ls,l.length≤x.size+1)∧wr.ownsRow w0.heap.size 9 1 (.slice (some ⟨gB,0,none⟩) m d) m (zF l)) (fun iv _=>m - (intOf iv).toNat)
  case atStart=>exact⟨1,_,_,[],_,[],Nat.le_refl _,hm0,rfl,zhK,za (Nat.zero_le _),za rfl,za (fun l hl=>by simp at hl),zhU⟩
  case round =>
   clear zhK zhU
   obtain⟨i,v,rows,ls,vA,acc,hi1,hi,rfl,zhK,hln,hal,hlx,hstr⟩:=hrel
   have hno:=zhj (L:=x.size+1) (M:=M) (Z:=w.heap.size) hRl zhK.rd (hx0.dr.trans zhK.dr) (Nat.le_refl _)
   have bz3:=bz.dr zhK.dr (by omega)
   by_cases hlt:i<m
   ·obtain⟨ad,xk,hae,-,-,hxk,hck⟩:=(Reads.of_own hstr).str hlt
    obtain rfl:=Option.some.inj hae
    rw [zH,Nat.zero_add] at hck
    have hbk:=Hlx.out xk (List.mem_of_getElem? hxk.out)
    cases he:xk.toList.isEmpty
    ·have h1k:1≤xk.size:=by
      rcases Nat.eq_zero_or_pos xk.size with h0|h0
      ·rw [ByteArray.toList_eq] at he
       have e2:xk.data.toList.length=xk.size:=rfl
       rw [List.eq_nil_of_length_eq_zero (e2.trans h0)] at he
       cases he
      ·exact h0
     have h1k':(1:Int)≤(xk.size:Int):=by omega
     have hex:(xk.extract 1 xk.size).size≤x.size:=by rw [ByteArray.size_extract];omega
     go_wp2_with fail
     refine (spec_l3Parse (s:=xk.extract 1 xk.size) (by omega)).mono ?_
     rintro e w4 ⟨Ar,nr,cr,lr,ok,rfl,hnr,hor,hnb,hx4⟩
     cases ok
     ·have hno4:=zhj (L:=x.size+1) (M:=M) (Z:=w.heap.size) hRl (zhK.rd.ext hx4) ((hx0.dr.trans zhK.dr).ext hx4) (Nat.le_refl _)
      have bz4:=bz3.ext hx4
      have cz:=bz4.cell
      have fz:=bz4.frozen
      exact yU04a2
     ·subst hnr
      have hlow:=za zhK.low
      have hs1:=za zhK.dr.size
      have hacc4:=zhK.ext hx4
      have hstr4:=ze hstr hx4
      have cG:=hacc4.blk.cell
      have hs4:=hacc4.dr.size
      have hlm:ls.length≤1001:=by have:=hln.out;omega
      have Hxk:=za hxk.out
      have hno':=hno
      clear zhK hstr hck hno hno'
      go_upto_region 15 with (at_builtin;refine zab w0 w4 rfl _ _ _ rfl 74 _ 1 24 Tryz.underlying23 zbj rfl (by decide) v ls.length rows _ _ rfl rfl hs4 hacc4.nx rfl (zat _ _ _) (by unfold maxLen;omega) (by omega) ?_;intro g5 cap5 w6 hown6 hg6 hat6 hlt6;obtain⟨q1,q2,q3⟩:=hacc4.pushRow hlow.out hs1.out hor hown6 hg6 hat6;have q1':=q1.out;have hstr6:=(zd hstr4 (Frm.of_grown hg6) (fun b hb hS=>zaq hstr4 hacc4.nx (by decide) hb hS)))
      have hstr7:=zd hstr6 (Frm.setCell w6 G 1 (.slice (some ⟨g5,0,none⟩) (ls.length+1) cap5)) (fun b hb hS=>by
       have hB6:Blk w6 G 26 #[.int .i64 al,v,vA]:=(hg6.block G hacc4.blk.lt (fun e=>zk hacc4.nx hacc4.blk (by decide) e.symm rfl)).trans hacc4.blk
       exact zk hstr6 hB6 (by decide) hb hS)
      have hln7:=za (show (ls++[lr]).length≤i by have:=hln.out;simp;omega)
      have hal7:=za (show acc.length+1=(ls++[lr]).length by have:=hal.out;simp;omega)
      have hlx7:=za (show ∀ l'∈ls++[lr],l'.length≤x.size+1 from fun l' hl'=>by
       rcases List.mem_append.1 hl' with h1|h1
       ·exact hlx.out l' h1
       ·rw [List.mem_singleton.1 h1];omega)
      clear q1 q1' q2 hown6 hg6 hat6 hlt6 hstr6 hstr4 hacc4 cG hln hal hlx hor
      generalize ls++[lr]=ls7 at *
      generalize rows++[.slice Ar lr.length cr]=rows7 at *
      generalize w6.setCell ⟨G,1,none⟩ (.slice (some ⟨g5,0,none⟩) (ls.length+1) cap5)=w7 at *
      generalize Value.slice (some ⟨g5,0,none⟩) (ls.length+1) cap5=v7 at *
      obtain⟨ad7,xk7,hae7,-,-,hxk7,hck7⟩:=(Reads.of_own hstr7).str hlt
      obtain rfl:=Option.some.inj hae7
      rw [zH,Nat.zero_add] at hck7
      obtain rfl:xk7=xk:=Option.some.inj (hxk7.out.symm.trans Hxk.out)
      have cG:∀ W,Ext w7 W→∀ q,W.cell? ⟨G,q,none⟩=#[Value.int .i64 al,v7,vA][q]?:=fun W hW=>(q3.blk.ext hW).cell
      have cS:∀ W,Ext w7 W→W.cell? ⟨gB,i,none⟩=some (.string xk7):=fun W hW=>hW.cell_some hck7
      have h0k:0<xk7.size:=by omega
      have h0k':(0:Int)<(xk7.size:Int):=by omega
      have hb0:=zaP xk7 0 h0k
      obtain⟨bb,hbb⟩:∃ bb,((xk7[0].toNat:Int)==43)=bb:=⟨_,rfl⟩
      have hww:=Ext.refl w7
      clear hck7 hxk7 Hxk
      refine uR (fun X=>Ext w7 X) [9,11] (zK.of [0,1,2,3,4,5,6,7,8,9,10,11]) ?_
      refine uQ ?_
      have hxd:=hww.drew
      refine zb fun K hK=>?_;go_simp
      refine hK.out _ _ (hxd.alloc _) ?_
      refine pT ?_
      refine zg fun K hK=>?_
      have hs7:=q3.dr.size
      have q3d:=q3.ext hxd
      have hal8:acc.length≤1001:=by have:=hal7.out;have:=hln7.out;omega
      have hstr8:=ze hstr7 hxd
      refine zaC w0 w7.drew _ _ _ rfl 4 _ 1 1 Tryz.underlying24 zaG rfl (by decide) vA acc.length (zas acc) _ _ rfl rfl q3d.dr.size q3d.acc rfl (by simp [Value.oneCell']) (by unfold maxLen;omega) (by omega) ?_
      intro g8 cap8 w8 hown8 hg8 hat8 hlt8
      refine hK.out _ _ ?_
      refine pT ?_
      refine uQ ?_
      obtain⟨p1,p2,p3⟩:=q3d.pushAcc (x:=bb) (W':=w8) hown8 hg8 hat8
      have p1':=p1.out
      have hstr9:=zd hstr8 (Frm.of_grown hg8) (fun b hb hS=>zaq hstr8 q3d.acc (by decide) hb hS)
      have hstr10:=zd hstr9 (Frm.setCell w8 G 2 (.slice (some ⟨g8,0,none⟩) (acc.length+1) cap8)) (fun b hb hS=>by
       have hB8:Blk w8 G 26 #[.int .i64 al,v7,vA]:=(hg8.block G q3d.blk.lt (fun e=>zk q3d.acc q3d.blk (by decide) e.symm rfl)).trans q3d.blk
       exact zk hstr9 hB8 (by decide) hb hS)
      refine zg fun K hK=>?_
      go_simp
      refine hK.out _ _ ?_
      refine zj ?_
      go_wp2_with fail
      go_roundw
      case rel=>exact⟨i+1,_,_,ls7,_,acc++[bb],by omega,by omega,by go_num,p3,za (by have:=hln7.out;omega),za (by have:=hal7.out;simp;omega),hlx7,hstr10⟩
      case measure=>simp [intOf];omega
    ·have cz:=bz3.cell
     have fz:=bz3.frozen
     go_wp2_with fail
     have hfb:=zL bz3 rfl (.int .i64 0) (.slice none 0 0) (.slice none 0 0)
     exact yU04a3
   ·obtain⟨A5,c5,rfl⟩:=zf zhK.nx
    obtain⟨B5,d5,rfl⟩:=zf zhK.acc
    have hat:zM wr w0.heap.size wr.heap.size A5 ls.length B5 acc.length (⟨al,ls,acc⟩:Aut):=⟨zdm.reads ⟨rows,zhK.nx,zhK.rows⟩ rfl,rfl,Reads.of_own zhK.acc⟩
    have cG:=zhK.blk.cell
    clear hno
    go_wp2_with fail
    refine (zdt (a:=⟨al,ls,acc⟩) hat).mono ?_
    rintro e w4 ⟨tx,rfl,-,hx4⟩
    have hacc4:=zhK.ext hx4
    have hno4:=zhj (L:=x.size+1) (M:=M) (Z:=w.heap.size) hRl (zhK.rd.ext hx4) ((hx0.dr.trans zhK.dr).ext hx4) (Nat.le_refl _)
    have bz4:=bz3.ext hx4
    have cz:=bz4.cell
    have fz:=bz4.frozen
    have cG4:=hacc4.blk.cell
    clear cG
    cases hne:tx.toList==x.toList
    ·exact yU04a2
    ·obtain⟨f1,f2⟩:=hacc4.fin (N:=M) (sh:=BdA (x.size+1)) hx0 bz rfl hRl (Nat.le_refl _) hz0 (Nat.le_refl _) ⟨by have:=hln.out;show ls.length≤_;omega,by have:=hln.out;have:=hal.out;show acc.length≤_;omega,hlx.out⟩
     go_wp2_with fail
     have cf:=f2.cell
     obtain⟨b,A6,n6,c6,A7,n7,c7,he,ho6,hsh6,hr6,hd6⟩:=f1.out
     exact bodyPost_ret (v:=.tuple #[.agg #[.int .i64 al,.slice A5 ls.length c5,.slice B5 acc.length d5],.bool true]) (by simp [results,Tryz.results38,go_sem,cf]) rfl ⟨b,A6,n6,c6,A7,n7,c7,true,by injection he with he;rw [he],ho6,hsh6,hr6,hd6⟩
def Texts3 (W:World) (base g n:Nat):Prop:=
 ∀ k<n,∃ (b:Nat) (l:List ByteArray),W.cell? ⟨g,k,none⟩=some (.slice (some ⟨b,0,none⟩) 3 3)∧l.length=3∧((∀ x∈l,x.size≤100)∧∀ x,l[2]?=some x→x.size≤40)∧W.ownsRow base 9 1 (.slice (some ⟨b,0,none⟩) 3 3) 3 (zF l)
def RetT3 (w:World) (e:Ending) (w':World):Prop:=∃ g,e=.returned (.slice (some ⟨g,0,none⟩) 9 9)∧w.heap.size≤g∧Texts3 w' w.heap.size g 9∧Ext w w'
def Sh3 (u:Array Value):Prop:=zF (u.toList.map zgp)=u.toList∧u.size=3∧(∀ x∈u.toList.map zgp,x.size≤100)∧∀ x∈(u.toList.map zgp).drop 2,x.size≤40
theorem Sh3.third {u:Array Value}(h:Sh3 u):(u.toList.map zgp).length=3∧(∀ x∈u.toList.map zgp,x.size≤100)∧∀ x,(u.toList.map zgp)[2]?=some x→x.size≤40:=by
 obtain⟨-,h2,h3,h4⟩:=h
 refine⟨by simp [h2],h3,fun x hx=>h4 x ?_⟩
 have hl:=(List.getElem?_eq_some_iff.1 hx).1
 rw [List.mem_iff_getElem?]
 exact⟨0,by rw [List.getElem?_drop];exact hx⟩
theorem lit9 (w:World) {u1 u2 u3 u4 u5 u6 u7 u8 u9:Array Value}(h1:Sh3 u1)(h2:Sh3 u2)(h3:Sh3 u3)(h4:Sh3 u4)(h5:Sh3 u5)(h6:Sh3 u6)(h7:Sh3 u7)(h8:Sh3 u8)(h9:Sh3 u9) :
  RetT3 w (.returned (.slice (some ⟨w.heap.size+9,0,none⟩) 9 9)) ((((((((((w.alloc (.cells u1 9)).alloc (.cells u2 9)).alloc (.cells u3 9)).alloc (.cells u4 9)).alloc (.cells u5 9)).alloc (.cells u6 9)).alloc (.cells u7 9)).alloc (.cells u8 9)).alloc (.cells u9 9)).alloc (.cells #[.slice (some ⟨w.heap.size,0,none⟩) 3 3,.slice (some ⟨w.heap.size+1,0,none⟩) 3 3,.slice (some ⟨w.heap.size+2,0,none⟩) 3 3,.slice (some ⟨w.heap.size+3,0,none⟩) 3 3,.slice (some ⟨w.heap.size+4,0,none⟩) 3 3,.slice (some ⟨w.heap.size+5,0,none⟩) 3 3,.slice (some ⟨w.heap.size+6,0,none⟩) 3 3,.slice (some ⟨w.heap.size+7,0,none⟩) 3 3,.slice (some ⟨w.heap.size+8,0,none⟩) 3 3] 61)):=by
 have o1:=zaF w h1.1 h1.2.1 (by omega)
 have x1:=(Ext.refl w).alloc (.cells u1 9)
 have s1:(w.alloc (.cells u1 9)).heap.size=w.heap.size+1:=by simp
 generalize w.alloc (.cells u1 9)=w1 at *
 have o2:=zaF w1 h2.1 h2.2.1 (by omega)
 have x2:=(Ext.refl w1).alloc (.cells u2 9)
 have s2:(w1.alloc (.cells u2 9)).heap.size=w.heap.size+2:=by simp [s1]
 rw [s1] at o2
 generalize w1.alloc (.cells u2 9)=w2 at *
 have o3:=zaF w2 h3.1 h3.2.1 (by omega)
 have x3:=(Ext.refl w2).alloc (.cells u3 9)
 have s3:(w2.alloc (.cells u3 9)).heap.size=w.heap.size+3:=by simp [s2]
 rw [s2] at o3
 generalize w2.alloc (.cells u3 9)=w3 at *
 have o4:=zaF w3 h4.1 h4.2.1 (by omega)
 have x4:=(Ext.refl w3).alloc (.cells u4 9)
 have s4:(w3.alloc (.cells u4 9)).heap.size=w.heap.size+4:=by simp [s3]
 rw [s3] at o4
 generalize w3.alloc (.cells u4 9)=w4 at *
 have o5:=zaF w4 h5.1 h5.2.1 (by omega)
 have x5:=(Ext.refl w4).alloc (.cells u5 9)
 have s5:(w4.alloc (.cells u5 9)).heap.size=w.heap.size+5:=by simp [s4]
 rw [s4] at o5
 generalize w4.alloc (.cells u5 9)=w5 at *
 have o6:=zaF w5 h6.1 h6.2.1 (by omega)
 have x6:=(Ext.refl w5).alloc (.cells u6 9)
 have s6:(w5.alloc (.cells u6 9)).heap.size=w.heap.size+6:=by simp [s5]
 rw [s5] at o6
 generalize w5.alloc (.cells u6 9)=w6 at *
 have o7:=zaF w6 h7.1 h7.2.1 (by omega)
 have x7:=(Ext.refl w6).alloc (.cells u7 9)
 have s7:(w6.alloc (.cells u7 9)).heap.size=w.heap.size+7:=by simp [s6]
 rw [s6] at o7
 generalize w6.alloc (.cells u7 9)=w7 at *
 have o8:=zaF w7 h8.1 h8.2.1 (by omega)
 have x8:=(Ext.refl w7).alloc (.cells u8 9)
 have s8:(w7.alloc (.cells u8 9)).heap.size=w.heap.size+8:=by simp [s7]
 rw [s7] at o8
 generalize w7.alloc (.cells u8 9)=w8 at *
 have o9:=zaF w8 h9.1 h9.2.1 (by omega)
 have x9:=(Ext.refl w8).alloc (.cells u9 9)
 have s9:(w8.alloc (.cells u9 9)).heap.size=w.heap.size+9:=by simp [s8]
 rw [s8] at o9
 generalize w8.alloc (.cells u9 9)=w9 at *
 have bl:=Blk.new w9 61 #[.slice (some ⟨w.heap.size,0,none⟩) 3 3,.slice (some ⟨w.heap.size+1,0,none⟩) 3 3,.slice (some ⟨w.heap.size+2,0,none⟩) 3 3,.slice (some ⟨w.heap.size+3,0,none⟩) 3 3,.slice (some ⟨w.heap.size+4,0,none⟩) 3 3,.slice (some ⟨w.heap.size+5,0,none⟩) 3 3,.slice (some ⟨w.heap.size+6,0,none⟩) 3 3,.slice (some ⟨w.heap.size+7,0,none⟩) 3 3,.slice (some ⟨w.heap.size+8,0,none⟩) 3 3]
 have x10:=(Ext.refl w9).alloc (.cells #[.slice (some ⟨w.heap.size,0,none⟩) 3 3,.slice (some ⟨w.heap.size+1,0,none⟩) 3 3,.slice (some ⟨w.heap.size+2,0,none⟩) 3 3,.slice (some ⟨w.heap.size+3,0,none⟩) 3 3,.slice (some ⟨w.heap.size+4,0,none⟩) 3 3,.slice (some ⟨w.heap.size+5,0,none⟩) 3 3,.slice (some ⟨w.heap.size+6,0,none⟩) 3 3,.slice (some ⟨w.heap.size+7,0,none⟩) 3 3,.slice (some ⟨w.heap.size+8,0,none⟩) 3 3] 61)
 rw [s9] at bl
 generalize w9.alloc (.cells #[.slice (some ⟨w.heap.size,0,none⟩) 3 3,.slice (some ⟨w.heap.size+1,0,none⟩) 3 3,.slice (some ⟨w.heap.size+2,0,none⟩) 3 3,.slice (some ⟨w.heap.size+3,0,none⟩) 3 3,.slice (some ⟨w.heap.size+4,0,none⟩) 3 3,.slice (some ⟨w.heap.size+5,0,none⟩) 3 3,.slice (some ⟨w.heap.size+6,0,none⟩) 3 3,.slice (some ⟨w.heap.size+7,0,none⟩) 3 3,.slice (some ⟨w.heap.size+8,0,none⟩) 3 3] 61)=w10 at *
 have y9:=x10
 have y8:=x9.trans y9
 have y7:=x8.trans y8
 have y6:=x7.trans y7
 have y5:=x6.trans y6
 have y4:=x5.trans y5
 have y3:=x4.trans y4
 have y2:=x3.trans y3
 have y1:=x2.trans y2
 refine⟨_,rfl,by omega,fun k hk=>?_,x1.trans y1⟩
 have hk':k=0∨k=1∨k=2∨k=3∨k=4∨k=5∨k=6∨k=7∨k=8:=by omega
 rcases hk' with rfl|rfl|rfl|rfl|rfl|rfl|rfl|rfl|rfl
 ·exact⟨_,_,bl.cell 0,h1.third.1,h1.third.2,ze o1 y1⟩
 ·exact⟨_,_,bl.cell 1,h2.third.1,h2.third.2,zl (ze o2 y2) (by omega)⟩
 ·exact⟨_,_,bl.cell 2,h3.third.1,h3.third.2,zl (ze o3 y3) (by omega)⟩
 ·exact⟨_,_,bl.cell 3,h4.third.1,h4.third.2,zl (ze o4 y4) (by omega)⟩
 ·exact⟨_,_,bl.cell 4,h5.third.1,h5.third.2,zl (ze o5 y5) (by omega)⟩
 ·exact⟨_,_,bl.cell 5,h6.third.1,h6.third.2,zl (ze o6 y6) (by omega)⟩
 ·exact⟨_,_,bl.cell 6,h7.third.1,h7.third.2,zl (ze o7 y7) (by omega)⟩
 ·exact⟨_,_,bl.cell 7,h8.third.1,h8.third.2,zl (ze o8 y8) (by omega)⟩
 ·exact⟨_,_,bl.cell 8,h9.third.1,h9.third.2,zl (ze o9 y9) (by omega)⟩
theorem zht {w:World}:Calls Tryz.prog 70 #[] w (RetT3 w):=by
 go_enter Tryz.func70,Tryz.ntmps70
 go_wp2_with fail
 go_ret
 exact lit9 w ⟨rfl,rfl,by decide +kernel,by decide +kernel⟩ ⟨rfl,rfl,by decide +kernel,by decide +kernel⟩ ⟨rfl,rfl,by decide +kernel,by decide +kernel⟩ ⟨rfl,rfl,by decide +kernel,by decide +kernel⟩ ⟨rfl,rfl,by decide +kernel,by decide +kernel⟩ ⟨rfl,rfl,by decide +kernel,by decide +kernel⟩ ⟨rfl,rfl,by decide +kernel,by decide +kernel⟩ ⟨rfl,rfl,by decide +kernel,by decide +kernel⟩ ⟨rfl,rfl,by decide +kernel,by decide +kernel⟩
theorem zgX {S:Nat→Prop} {w w':World}(h:Frm S w w') {p:Addr} {v:Value}(hv:w.cell? p=some v)(hp:¬ S p.block):w'.cell? p=some v:=
 (World.cell?_of_block (w:=w) (h.block _ (World.block_lt_of_cell? w p hv) hp)).trans hv
theorem zbg.own {w0 W:World} {R M L K n c k c2 m d m' d':Nat} {s t:Sys} {p:Aut} {A B B' C:Option Addr}(h:zbg w0 W R M L K s A n c t C k c2 p B m d B' m' d'):zbg W W R M L K s A n c t C k c2 p B m d B' m' d':={ h with dr:=Dr.refl _ _,hR:=h.rd.lt }
theorem zeL {R M:Nat} {w:World}(h:Rd w R M)(hM:M≤500000000) :
  Calls Tryz.prog 34 #[.pointer (some ⟨R,0,none⟩)] w (RetSTP R (M+200000) 30000 50 w):=by
 have hRl:=h.lt
 have hx0:Ext w (((w.alloc (.cells #[.int .i64 0,.int .i64 0,.slice none 0 0] 39)).alloc (.cells #[.int .i64 0,.int .i64 0,.slice none 0 0] 39)).alloc (.cells #[.int .i64 0,.slice none 0 0,.slice none 0 0] 26)):=(((Ext.refl _).alloc _).alloc _).alloc _
 obtain⟨z1,z2,z3⟩:=zV (Ext.refl (((w.alloc (.cells #[.int .i64 0,.int .i64 0,.slice none 0 0] 39)).alloc (.cells #[.int .i64 0,.int .i64 0,.slice none 0 0] 39)).alloc (.cells #[.int .i64 0,.slice none 0 0,.slice none 0 0] 26)))
 have hsz:(((w.alloc (.cells #[.int .i64 0,.int .i64 0,.slice none 0 0] 39)).alloc (.cells #[.int .i64 0,.int .i64 0,.slice none 0 0] 39)).alloc (.cells #[.int .i64 0,.slice none 0 0,.slice none 0 0] 26)).heap.size=w.heap.size+3:=by simp
 go_enter Tryz.func34,Tryz.ntmps34
 go_upto_region 1 with fail
 generalize ((w.alloc (.cells #[.int .i64 0,.int .i64 0,.slice none 0 0] 39)).alloc (.cells #[.int .i64 0,.int .i64 0,.slice none 0 0] 39)).alloc (.cells #[.int .i64 0,.slice none 0 0,.slice none 0 0] 26)=w0 at *
 go_upto_region 2 with (first
  |(go_at_call 69;refine (spec_l9Three (h.ext hx0) (by omega)).mono ?_;rintro e w1 ⟨s,A,n,c,t,C,k,c2,p,B,m,d,B',m',d',rfl,ht⟩))
 have hx1:Ext w1 (((w1.alloc (.cells #[.int .i64 s.al,.int .i64 s.st,.slice A n c] 39)).alloc (.cells #[.int .i64 p.al,.slice B m d,.slice B' m' d'] 26)).alloc (.cells #[.int .i64 t.al,.int .i64 t.st,.slice C k c2] 39)):=(((Ext.refl _).alloc _).alloc _).alloc _
 obtain⟨b1,b2,b3⟩:=zV (Ext.refl (((w1.alloc (.cells #[.int .i64 s.al,.int .i64 s.st,.slice A n c] 39)).alloc (.cells #[.int .i64 p.al,.slice B m d,.slice B' m' d'] 26)).alloc (.cells #[.int .i64 t.al,.int .i64 t.st,.slice C k c2] 39)))
 have hw1:=ht.dr.size
 have ht1:Tri w (((w1.alloc (.cells #[.int .i64 s.al,.int .i64 s.st,.slice A n c] 39)).alloc (.cells #[.int .i64 p.al,.slice B m d,.slice B' m' d'] 26)).alloc (.cells #[.int .i64 t.al,.int .i64 t.st,.slice C k c2] 39)) R (M+150000) 30000 50 w.heap.size (w.heap.size+1) (w.heap.size+1+1) w1.heap.size (w1.heap.size+1+1) (w1.heap.size+1) s A n c t C k c2 p B m d B' m' d':=
  ⟨((ht.less hx0.dr hRl).ext hx1).more (by omega) (by omega) (by omega),(z1.dr ht.dr (by omega)).ext hx1,(z2.dr ht.dr (by omega)).ext hx1,(z3.dr ht.dr (by omega)).ext hx1,b1,b3,.inr b2,by omega,za (by unfold Ne6;omega)⟩
 clear ht b1 b2 b3 z1 z2 z3 hx1
 have hge:=za (show w.heap.size+3≤w1.heap.size by omega)
 have hG3:(((w1.alloc (.cells #[.int .i64 s.al,.int .i64 s.st,.slice A n c] 39)).alloc (.cells #[.int .i64 p.al,.slice B m d,.slice B' m' d'] 26)).alloc (.cells #[.int .i64 t.al,.int .i64 t.st,.slice C k c2] 39)).heap.size=w1.heap.size+3:=by simp
 clear hw1
 generalize hG:w1.heap.size=G at *
 generalize ((w1.alloc (.cells #[.int .i64 s.al,.int .i64 s.st,.slice A n c] 39)).alloc (.cells #[.int .i64 p.al,.slice B m d,.slice B' m' d'] 26)).alloc (.cells #[.int .i64 t.al,.int .i64 t.st,.slice C k c2] 39)=w2 at *
 clear hG w1
 go_wp2_with fail
 refine (zv ht1.at_.rd (by omega)).mono ?_
 rintro e w3 ⟨y,rfl,-,-,hr3,hd3⟩
 have ht2:=ht1.drawn hd3 hr3
 have hge2:=za (show G+3≤w3.heap.size by have:=hd3.size;omega)
 clear ht1 hr3 hd3 hG3
 go_upto_if 18 with fail
 go_cut [] (fun wx=>∃ (s:Sys) (A:Option Addr) (n c:Nat) (t:Sys) (C:Option Addr) (k c2:Nat) (p:Aut) (B:Option Addr) (m d:Nat) (B':Option Addr) (m' d':Nat),Tri w wx R (M+200000) 30000 50 w.heap.size (w.heap.size+1) (w.heap.size+1+1) G (G+1+1) (G+1) s A n c t C k c2 p B m d B' m' d')
 case first =>
  by_cases hy:y=0
  ·subst hy
   have hy0:True:=trivial
   have hp1:G+1≠0:=by omega
   go_wp2_with fail
   refine (zht).mono ?_
   rintro e w4 ⟨g,rfl,hg,hT,hx4⟩
   have ht3:=ht2.ext hx4
   have hq:=ht2.at_.rd.lt
   clear ht2
   have hsz4:=hx4.size
   go_wp2_with fail
   refine (zv ht3.at_.rd (by omega)).mono ?_
   rintro e w5 ⟨j,rfl,hj,-,hr5,hd5⟩
   have hj9:j<9:=by have:=hj (by omega);omega
   have ht4:=ht3.drawn hd5 hr5
   obtain⟨bt,lt,hct,hl3,hs3,hot⟩:=hT j hj9
   have ct5:=hd5.cell_some hct (by dsimp only;omega)
   have hot5:=zaN hot hd5 (fun b h1 e=>by omega)
   have hj9':(j:Int)<9:=by omega
   clear hj hT hct hot ht3
   have hbt:w3.heap.size≤bt:=(hot5.lt bt rfl).1
   obtain⟨ad0,x0,e0,_,_,hx0',cx0⟩:=(Reads.of_own hot5).str (show 0<3 by omega)
   obtain⟨ad1,x1,e1,_,_,hx1',cx1⟩:=(Reads.of_own hot5).str (show 1<3 by omega)
   obtain⟨ad2,x2,e2,_,_,hx2',cx2⟩:=(Reads.of_own hot5).str (show 2<3 by omega)
   obtain rfl:=Option.some.inj e0
   obtain rfl:=Option.some.inj e1
   obtain rfl:=Option.some.inj e2
   have hx0s:=hs3.1 x0 (List.mem_of_getElem? hx0'.out)
   have hx1s:=hs3.1 x1 (List.mem_of_getElem? hx1'.out)
   have hx2s:=hs3.2 x2 hx2'.out
   rw [zH,Nat.zero_add] at cx0 cx1 cx2
   clear e0 e1 e2 hx0' hx1' hx2' hs3 hl3 hot5
   go_wp2_with fail
   refine (zbE ht4.at_.rd (by omega)).mono ?_
   rintro e w6 ⟨s1,A1,n1,c1,ok,rfl,hs1,⟨-,hf1⟩,hn1,hr6,hd6⟩
   have hRG:=za (show R<w.heap.size from hRl)
   have ht5:=ht4.drawn hd6 hr6
   have cG:=ht5.bs.cell
   have fG:=ht5.bs.frozen
   have fin:=ht5.setS hs1 (by omega:n1≤30000∧n1≤c1)
   have f1:=zaw w6 G (.int .i64 s1.al) (.int .i64 s1.st) (.slice A1 n1 c1)
   have kx1:=(hd6.cell_some cx1 (by have:=hge2.out;have:=hge.out;dsimp only;omega))
   have kx2:=(hd6.cell_some cx2 (by have:=hge2.out;have:=hge.out;dsimp only;omega))
   have kt:=(hd6.cell_some ct5 (by have:=hge2.out;have:=hge.out;dsimp only;omega))
   have lx1:=zgX f1 kx1 (by have:=hge2.out;dsimp only;omega)
   have lx2:=zgX f1 kx2 (by have:=hge2.out;dsimp only;omega)
   clear cx0 cx1 cx2 ct5 kx1 kx2 kt ht4 ht5 f1 hd6 hr6
   go_upto_region 6 with fail
   clear cG fG
   generalize ((w6.setCell ⟨G,0,none⟩ (.int .i64 s1.al)).setCell ⟨G,1,none⟩ (.int .i64 s1.st)).setCell ⟨G,2,none⟩ (.slice A1 n1 c1)=w7 at *
   go_wp2_with fail
   refine (zbE fin.at_.rd (by omega)).mono ?_
   rintro e w8 ⟨s2,A2,n2,d2,ok2,rfl,hs2,⟨-,hf2⟩,hn2,hr8,hd8⟩
   have ht6:=fin.drawn hd8 hr8
   have cG:=ht6.bt.cell
   have fG:=ht6.bt.frozen
   have fin2:=ht6.setT hs2 (by omega:n2≤30000∧n2≤d2)
   have f2:=zaw w8 (G+1+1) (.int .i64 s2.al) (.int .i64 s2.st) (.slice A2 n2 d2)
   have kx2:=(hd8.cell_some lx2 (by have:=hge2.out;have:=hge.out;dsimp only;omega))
   have mx2:=zgX f2 kx2 (by have:=hge2.out;dsimp only;omega)
   clear lx1 lx2 kx2 fin ht6 f2 hd8 hr8
   go_upto_region 7 with fail
   clear cG fG
   generalize ((w8.setCell ⟨G+1+1,0,none⟩ (.int .i64 s2.al)).setCell ⟨G+1+1,1,none⟩ (.int .i64 s2.st)).setCell ⟨G+1+1,2,none⟩ (.slice A2 n2 d2)=w9 at *
   go_wp2_with fail
   refine (zdR fin2.at_.rd (by omega)).mono ?_
   rintro e w10 ⟨b1,A3,n3,d3,A4,n4,d4,ok3,rfl,ho3,hb3,hr10,hd10⟩
   have hq9:=fin2.at_.rd.lt
   have ht7:=fin2.drawn hd10 hr10
   have cG:=(ht7.pvar hp1).cell
   have fG:=(ht7.pvar hp1).frozen
   have fin3:=ht7.setP hp1 (ho3.less (by omega)) (BdL.more hb3.out (by omega))
   clear mx2 fin2 ht7 hd10 hr10 ho3
   go_upto_region 8 with fail
   clear cG fG
   generalize ((w10.setCell ⟨G+1,0,none⟩ (.int .i64 b1.al)).setCell ⟨G+1,1,none⟩ (.slice A3 n3 d3)).setCell ⟨G+1,2,none⟩ (.slice A4 n4 d4)=w11 at *
   go_wp2_with fail
   refine (zv fin3.at_.rd (by omega)).mono ?_
   rintro e w12 ⟨y,rfl,-,-,hr12,hd12⟩
   have ht8:=fin3.drawn hd12 hr12
   clear fin3 hr12 hd12
   have hcases:y=0∨y=1∨y=2∨3≤y:=by omega
   rcases hcases with hy|hy|hy|hy
   ·subst hy
    have cG:=ht8.bs.cell
    go_wp2_with fail
    refine (zdD (L:=1001) ht8.at_.rd (by omega) ht8.at_.is hf1 (by omega) (by omega)).mono ?_
    rintro e w13 ⟨s5,A5,n5,d5,rfl,hs5,hn5,hr13,hd13⟩
    have ht9:=(ht8.drawn hd13 hr13).more (N:=M+200000) (J:=30000) (H:=50) (by omega) (by omega) (by omega)
    clear cG
    have cG:=ht9.bs.cell
    have fG:=ht9.bs.frozen
    have fin:=ht9.setS hs5 (by omega:n5≤30000∧n5≤d5)
    go_wp2_with fail
    go_meet
    exact⟨_,_,_,_,_,_,_,_,_,_,_,_,_,_,_,fin⟩
   ·subst hy
    have cG:=ht8.bt.cell
    go_wp2_with fail
    refine (zdD (L:=1001) ht8.at_.rd (by omega) ht8.at_.it hf2 (by omega) (by omega)).mono ?_
    rintro e w13 ⟨s5,A5,n5,d5,rfl,hs5,hn5,hr13,hd13⟩
    have ht9:=(ht8.drawn hd13 hr13).more (N:=M+200000) (J:=30000) (H:=50) (by omega) (by omega) (by omega)
    clear cG
    have cG:=ht9.bt.cell
    have fG:=ht9.bt.frozen
    have fin:=ht9.setT hs5 (by omega:n5≤30000∧n5≤d5)
    go_wp2_with fail
    go_meet
    exact⟨_,_,_,_,_,_,_,_,_,_,_,_,_,_,_,fin⟩
   ·subst hy
    have cG:=(ht8.pvar hp1).cell
    go_wp2_with fail
    refine (zeq (L:=x2.size+1) ht8.at_.rd (by omega) ht8.at_.ip hb3.out (by omega)).mono ?_
    rintro e w13 ⟨b5,A5,n5,d5,A6,n6,d6,rfl,ho5,hb5,hr13,hd13⟩
    have hq:=ht8.at_.rd.lt
    have ht9:=(ht8.drawn hd13 hr13).more (N:=M+200000) (J:=30000) (H:=50) (by omega) (by omega) (by omega)
    clear cG
    have cG:=(ht9.pvar hp1).cell
    have fG:=(ht9.pvar hp1).frozen
    have fin:=ht9.setP hp1 (ho5.less (by omega)) (BdL.more hb5.out (by omega))
    go_wp2_with fail
    go_meet
    exact⟨_,_,_,_,_,_,_,_,_,_,_,_,_,_,_,fin⟩
   ·have h0:((y:Int)==0)=false:=by simp;omega
    have h1:((y:Int)==1)=false:=by simp;omega
    have h2:((y:Int)==2)=false:=by simp;omega
    go_wp2_with fail
    go_meet
    exact⟨_,_,_,_,_,_,_,_,_,_,_,_,_,_,_,ht8.more (by omega) (by omega) (by omega)⟩
  ·have hy':((y:Int)==0)=false:=by simp;omega
   go_wp2_with fail
   go_meet
   exact⟨_,_,_,_,_,_,_,_,_,_,_,_,_,_,_,ht2.more (by omega) (by omega) (by omega)⟩
 case rest =>
  clear ht2
  obtain⟨s,A,n,c,t,C,k,c2,p,B,m,d,B',m',d',ht⟩:=hcut
  have hp1:G+1≠0:=by omega
  have hord:Hid (G+3≤wc.heap.size∧w.heap.size+3≤G):=za ⟨by have:=(ht.bt).lt;omega,hge.out⟩
  obtain⟨wE,hwE⟩:∃ wE,wE=wc:=⟨_,rfl⟩
  subst hwE
  have cS:∀ W,Frm (fun k=>k=w.heap.size∨k=w.heap.size+1) wE W→∀ q,W.cell? ⟨G,q,none⟩=#[Value.int .i64 s.al,.int .i64 s.st,.slice A n c][q]?:=fun W hW=>(ht.bs.frm hW (by have:=hord.out;omega)).cell
  have cT:∀ W,Frm (fun k=>k=w.heap.size∨k=w.heap.size+1) wE W→∀ q,W.cell? ⟨G+1+1,q,none⟩=#[Value.int .i64 t.al,.int .i64 t.st,.slice C k c2][q]?:=fun W hW=>(ht.bt.frm hW (by have:=hord.out;omega)).cell
  have cP:∀ W,Frm (fun k=>k=w.heap.size∨k=w.heap.size+1) wE W→∀ q,W.cell? ⟨G+1,q,none⟩=#[Value.int .i64 p.al,.slice B m d,.slice B' m' d'][q]?:=fun W hW=>((ht.pvar hp1).frm hW (by have:=hord.out;omega)).cell
  have hS0:Frm (fun k=>k=w.heap.size∨k=w.heap.size+1) wE wE.drew:=(Ext.refl wE).drew.toFrm
  have ht5:=ht.ext (Ext.refl wE).drew
  go_wp2_with fail
  refine tR (fun X=>Frm (fun k=>k=w.heap.size∨k=w.heap.size+1) wE X) [5] (Ord.of [0,1,2,3,4,5]) ?_
  refine tQ ?_
  generalize hwD:wE.drew=wD at *
  clear hwD
  have ha:=ht5.at_
  have zs:=ht5.zs
  have zt:=ht5.zt
  have zp:=ht5.zp
  have cs:=zs.cell
  have fs:=zs.frozen
  clear ht5 ht
  refine zG fun K hK=>?_;go_simp
  have q1:=zaV zs rfl (.int .i64 s.al) (.int .i64 s.st) (.slice A n c)
  have e1:=zaw wD w.heap.size (.int .i64 s.al) (.int .i64 s.st) (.slice A n c)
  replace ha:=ha.far zs e1 (by omega) (by decide) (by decide)
  replace zt:=zt.frm e1 (by omega)
  replace zp:=zp.frm e1 (by omega)
  have hS8:=hS0.trans (e1.mono (T:=fun k=>k=w.heap.size∨k=w.heap.size+1) (fun k _ hk=>.inl hk))
  refine hK.out _ _ hS8 ?_
  refine pT ?_
  clear cs fs zs e1
  generalize ((wD.setCell ⟨w.heap.size,0,none⟩ (.int .i64 s.al)).setCell ⟨w.heap.size,1,none⟩ (.int .i64 s.st)).setCell ⟨w.heap.size,2,none⟩ (.slice A n c)=wA at *
  have ct:=zt.cell
  have ft:=zt.frozen
  refine zG fun K hK=>?_;go_simp
  have q2:=zaV zt rfl (.int .i64 t.al) (.int .i64 t.st) (.slice C k c2)
  have e2:=zaw wA (w.heap.size+1) (.int .i64 t.al) (.int .i64 t.st) (.slice C k c2)
  replace ha:=ha.far zt e2 (by omega) (by decide) (by decide)
  replace zp:=zp.frm e2 (by omega)
  replace q1:=q1.frm e2 (by omega)
  have hS9:=hS8.trans (e2.mono (T:=fun k=>k=w.heap.size∨k=w.heap.size+1) (fun k _ hk=>.inr hk))
  refine hK.out _ _ hS9 ?_
  refine pT ?_
  clear ct ft zt e2 hS8
  generalize ((wA.setCell ⟨w.heap.size+1,0,none⟩ (.int .i64 t.al)).setCell ⟨w.heap.size+1,1,none⟩ (.int .i64 t.st)).setCell ⟨w.heap.size+1,2,none⟩ (.slice C k c2)=wB at *
  have cp:=zp.cell
  have fp:=zp.frozen
  refine zal fun K hK=>?_
  go_simp
  have q3:=zaV zp rfl (.int .i64 p.al) (.slice B m d) (.slice B' m' d')
  have e3:=zaw wB (w.heap.size+1+1) (.int .i64 p.al) (.slice B m d) (.slice B' m' d')
  replace ha:=ha.far zp e3 (by omega) (by decide) (by decide)
  replace q1:=q1.frm e3 (by omega)
  replace q2:=q2.frm e3 (by omega)
  refine hK.out _ _ ?_
  refine zay ?_
  clear cp fp zp e3 hS9 hS0 cS cT cP
  generalize ((wB.setCell ⟨w.heap.size+1+1,0,none⟩ (.int .i64 p.al)).setCell ⟨w.heap.size+1+1,1,none⟩ (.slice B m d)).setCell ⟨w.heap.size+1+1,2,none⟩ (.slice B' m' d')=wC at *
  have ha':=za ha
  clear ha
  go_wp2_with fail
  have c1:=q1.cell
  have cc2:=q2.cell
  have c3:=q3.cell
  exact bodyPost_ret (v:=.tuple #[.agg #[.int .i64 s.al,.int .i64 s.st,.slice A n c],.agg #[.int .i64 t.al,.int .i64 t.st,.slice C k c2],.agg #[.int .i64 p.al,.slice B m d,.slice B' m' d']]) (by simp [results,Tryz.results34,go_sem,c1,cc2,c3]) rfl ⟨s,A,n,c,t,C,k,c2,p,B,m,d,B',m',d',rfl,ha'.out⟩
def zdF (w:List Nat):Nat:=w.foldl (fun v l=>v*7+(l+1)) 0
theorem zbA (w:List Nat) (l:Nat):zdF (w++[l])=zdF w*7+(l+1):=by simp [zdF]
theorem zhI:zdF []=0:=rfl
theorem zbc {α:Type} (w:List α):w=[]∨∃ u l,w=u++[l]:=by
 rcases List.eq_nil_or_concat w with h|⟨u,l,h⟩
 ·exact Or.inl h
 ·exact Or.inr ⟨u,l,by simpa using h⟩
theorem wval_inj:∀ (n:Nat) (u v:List Nat),u.length≤n→(∀ l∈u,l<6)→(∀ l∈v,l<6)→zdF u=zdF v→u=v:=by
 intro n
 induction n with
 |zero =>
  intro u v hu _ _ h
  obtain rfl:u=[]:=List.eq_nil_of_length_eq_zero (by omega)
  rcases zbc v with rfl|⟨v,m,rfl⟩
  ·rfl
  ·rw [zbA,zhI] at h;omega
 |succ n ih =>
  intro u v hu h1 h2 h
  rcases zbc u with rfl|⟨u,l,rfl⟩
  ·rcases zbc v with rfl|⟨v,m,rfl⟩
   ·rfl
   ·rw [zbA,zhI] at h;omega
  ·rcases zbc v with rfl|⟨v,m,rfl⟩
   ·rw [zbA,zhI] at h;omega
   ·have hl:=h1 l (by simp)
    have hm:=h2 m (by simp)
    rw [zbA,zbA] at h
    have e1:l=m:=by omega
    have e2:zdF u=zdF v:=by omega
    simp only [List.length_append,List.length_singleton] at hu
    rw [e1,ih u v (by omega) (fun x hx=>h1 x (by simp [hx])) (fun x hx=>h2 x (by simp [hx])) e2]
inductive zdd (d:Nat→Nat→List Nat) (start:List Nat):List Nat→Nat→Prop where
 |nil {x:Nat} (h:x∈start):zdd d start [] x
 |snoc {w:List Nat} {l n x:Nat} (h:zdd d start w n) (hx:x∈d n l):zdd d start (w++[l]) x
theorem zdd.inv {d:Nat→Nat→List Nat} {start w:List Nat} {l x:Nat}(h:zdd d start (w++[l]) x):∃ n,zdd d start w n∧x∈d n l:=by
 generalize hv:w++[l]=v at h
 cases h with
 |nil _=>simp at hv
 |@snoc w' l' n _ h hx =>
  have:=List.append_inj' hv rfl
  obtain⟨rfl,h2⟩:=this
  simp at h2
  subst h2
  exact⟨n,h,hx⟩
theorem zdd.inv_nil {d:Nat→Nat→List Nat} {start:List Nat} {x:Nat}(h:zdd d start [] x):x∈start:=by
 generalize hv:([]:List Nat)=v at h
 cases h with
 |nil h=>exact h
 |snoc _ _=>simp at hv
structure Stp where
 parent:Int
 letter:Nat
 nodes:List Nat
section
variable {d:Nat→Nat→List Nat} {start:List Nat} {goal:Nat→Bool} {L:List Nat} {N:Nat} {S:List Bool} {st:List Stp} {ws:List (List Nat)} {i j:Nat}
def Rise (L:List Nat):Prop:=(∀ l∈L,l<6)∧∀ (a b x y:Nat),L[a]?=some x→L[b]?=some y→a<b→x<y
end
end Go.Proofs.YtfcjhpodichpjaaGreatDoor
namespace Go.Proofs.YtfcjhpodichpjaaGreatDoor
def Found (d:Nat→Nat→List Nat) (start:List Nat) (goal:Nat→Bool) (L:List Nat) (v:List Nat):Prop:=
 (∀ l∈v,l∈L)∧(∃ x,zdd d start v x∧goal x=true)∧∀ u,(∀ l∈u,l∈L)→zdF u<zdF v→∀ x,zdd d start u x→goal x=false
def Lost (d:Nat→Nat→List Nat) (start:List Nat) (goal:Nat→Bool) (L:List Nat):Prop:=∀ v,(∀ l∈v,l∈L)→∀ x,zdd d start v x→goal x=false
end Go.Proofs.YtfcjhpodichpjaaGreatDoor
namespace Go.Proofs.YtfcjhpodichpjaaGreatDoor
open Go Go.RowKit
def cho (s:Sys) (i l:Nat):List Nat:=if s.al.toNat.testBit l then letters (succ s.edges i l) 32 else [i]
def nx:List Sys→Nat→Nat→List Nat × Nat × Nat
 |[],m,_=>([0],1,m)
 |s :: r,m,l=>((cho s ((nx r m l).2.2 % s.st.toNat) l).flatMap (fun q=>(nx r m l).1.map fun x=>q*(nx r m l).2.1+x),(nx r m l).2.1*s.st.toNat,(nx r m l).2.2 / s.st.toNat)
def Sml (s:Sys):Prop:=1≤s.st∧s.st≤16∧Few s.st.toNat s.edges∧0≤s.al∧s.al≤63
theorem zej (a k:Nat):(letters a k).Nodup:=List.Pairwise.filter _ List.nodup_range
theorem zX {a k x:Nat}:x∈letters a k↔x<k∧a.testBit x=true:=by simp [letters,List.mem_filter]
theorem cho_lt {s:Sys}(h:Sml s) {i l:Nat}(hi:i<s.st.toNat):∀ q∈cho s i l,q<s.st.toNat:=by
 intro q hq
 unfold cho at hq
 split at hq
 ·have hb:=(zX.1 hq).2
  rcases Nat.lt_or_ge q s.st.toNat with h1|h1
  ·exact h1
  ·have:=Nat.testBit_lt_two_pow (Nat.lt_of_lt_of_le (succ_lt h.2.2.1 i l) (Nat.pow_le_pow_right (by omega) h1))
   rw [hb] at this;cases this
 ·rw [List.mem_singleton.1 hq];exact hi
theorem cho_nodup (s:Sys) (i l:Nat):(cho s i l).Nodup:=by
 unfold cho
 split
 ·exact zej _ _
 ·simp
theorem nodup_len {l:List Nat}(h:l.Nodup) {p:Nat}(hl:∀ x∈l,x<p):l.length≤p:=by
 have h1:l ⊆ List.range p:=fun x hx=>List.mem_range.2 (hl x hx)
 have:=List.Nodup.length_le_of_subset h h1
 simpa using this
theorem cho_len {s:Sys}(h:Sml s) {i l:Nat}(hi:i<s.st.toNat):(cho s i l).length≤s.st.toNat:=nodup_len (cho_nodup s i l) (cho_lt h hi)
def place (a l:Nat):Nat:=(letters a l).length
def aGo (a:Aut) (q l:Nat):Nat:=if a.al.toNat.testBit l then ((a.next.getD q []).getD (place a.al.toNat l) 0).toNat else q
abbrev Mem:=Nat × (Nat→Nat→List Nat)
def sMem (s:Sys):Mem:=(s.st.toNat,cho s)
def zeV (a:Aut):Mem:=(a.next.length,fun q l=>[aGo a q l])
def zap:List Nat→Nat
 |[]=>1
 |m :: r=>m*zap r
def zak (ms:List Mem):Nat:=zap (ms.map Prod.fst)
theorem zdj (m:Mem) (r:List Mem):zak (m :: r)=m.1*zak r:=rfl
theorem zbY (a b:List Nat):zap (a++b)=zap a*zap b:=by
 induction a with
 |nil=>simp [zap]
 |cons x r ih=>rw [List.cons_append,zap,zap,ih,Nat.mul_assoc]
theorem prodN_append (a b:List Mem):zak (a++b)=zak a*zak b:=by
 unfold zak
 rw [List.map_append,zbY]
theorem prodS_pos {l:List Nat}(h:∀ x∈l,1≤x):1≤zap l:=by
 induction l with
 |nil=>simp [zap]
 |cons x r ih=>exact Nat.mul_pos (h x (by simp)) (ih fun y hy=>h y (by simp [hy]))
def dec:List Nat→Nat→List Nat
 |[],_=>[]
 |s :: r,x=>(x / zap r % s) :: dec r x
theorem zcg (l:List Nat) (x:Nat):(dec l x).length=l.length:=by
 induction l with
 |nil=>rfl
 |cons s r ih=>simp [dec,ih]
theorem zgW {l:List Nat} {x k s:Nat}(h:l[k]?=some s):(dec l x)[k]?=some (x / zap (l.drop (k+1)) % s):=by
 induction l generalizing k with
 |nil=>simp at h
 |cons t r ih =>
  cases k with
  |zero=>simp at h;subst h;simp [dec]
  |succ k=>simp at h;simpa [dec] using ih h
def encF (acc:Nat):List Nat→List Nat→Nat
 |s :: r,x :: xs=>encF (acc*s+x) r xs
 |_,_=>acc
def pnx:List Mem→Nat→Nat→List Nat
 |[],_,_=>[0]
 |m :: r,x,l=>(m.2 (x / zak r % m.1) l).flatMap fun q=>(pnx r x l).map fun y=>q*zak r+y
def MemOk (m:Mem):Prop:=1≤m.1∧∀ q l,q<m.1→l<6→∀ x∈m.2 q l,x<m.1
theorem prodN_pos {ms:List Mem}(h:∀ m∈ms,MemOk m):1≤zak ms:=prodS_pos fun x hx=>by
 obtain⟨m,hm,rfl⟩:=List.mem_map.1 hx
 exact (h m hm).1
theorem pnx_lt {ms:List Mem}(h:∀ m∈ms,MemOk m) {x l:Nat}(hl:l<6):∀ y∈pnx ms x l,y<zak ms:=by
 induction ms with
 |nil=>intro y hy;simp [pnx] at hy;subst hy;simp [zak,zap]
 |cons m r ih =>
  intro y hy
  rw [pnx] at hy
  obtain⟨q,hq,hy⟩:=List.mem_flatMap.1 hy
  obtain⟨z,hz,rfl⟩:=List.mem_map.1 hy
  have h1:=(h m (by simp)).2 _ l (Nat.mod_lt _ (h m (by simp)).1) hl q hq
  have h2:=ih (fun m hm=>h m (by simp [hm])) z hz
  rw [zdj]
  calc q*zak r+z<q*zak r+zak r:=by omega
   _=(q+1)*zak r:=by rw [Nat.add_mul,Nat.one_mul]
   _≤m.1*zak r:=Nat.mul_le_mul_right _ h1
theorem zeA (a b:List Mem) (x l:Nat):pnx (a++b) x l=(pnx a (x / zak b) l).flatMap fun q=>(pnx b x l).map fun y=>q*zak b+y:=by
 induction a with
 |nil=>simp [pnx]
 |cons m r ih =>
  rw [List.cons_append,pnx,pnx,ih,prodN_append,List.flatMap_assoc]
  rw [Nat.div_div_eq_div_mul,Nat.mul_comm (zak b) (zak r)]
  congr 1
  funext q
  rw [List.map_flatMap,List.flatMap_map]
  congr 1
  funext z
  rw [List.map_map]
  congr 1
  funext y
  simp only [Function.comp]
  rw [Nat.add_mul,Nat.mul_assoc,Nat.add_assoc]
theorem nx_pnx (ss:List Sys) (m l:Nat):nx ss m l=(pnx (ss.map sMem) m l,zak (ss.map sMem),m / zak (ss.map sMem)):=by
 induction ss with
 |nil=>simp [nx,pnx,zak,zap]
 |cons s r ih =>
  rw [nx,ih,List.map_cons,pnx,zdj]
  simp only [sMem]
  rw [Nat.div_div_eq_div_mul,Nat.mul_comm (zak _) s.st.toNat]
theorem pnx_two (a p:Aut) (x l:Nat):pnx [zeV a,zeV p] x l=[aGo a (x / p.next.length % a.next.length) l*p.next.length+aGo p (x % p.next.length) l]:=by
 simp [pnx,zeV,zak,zap]
theorem pnx_one (p:Aut) (x l:Nat):pnx [zeV p] x l=[aGo p (x % p.next.length) l]:=by
 simp [pnx,zeV,zak,zap]
theorem pnx_under (ss:List Sys) (a p:Aut) (x l:Nat) :
  pnx (ss.map sMem++[zeV a,zeV p]) x l=(nx ss (x / p.next.length / a.next.length) l).1.map fun y=>y*a.next.length*p.next.length+(aGo a (x / p.next.length % a.next.length) l*p.next.length+aGo p (x % p.next.length) l):=by
 have hp:zak [zeV a,zeV p]=a.next.length*p.next.length:=by simp [zak,zap,zeV]
 rw [zeA,pnx_two,nx_pnx,hp,Nat.div_div_eq_div_mul,Nat.mul_comm p.next.length a.next.length]
 simp only [List.map_cons,List.map_nil,← List.map_eq_flatMap,Nat.mul_assoc]
def free:Aut:=⟨0,[[]],[true]⟩
theorem pnx_free (ss:List Sys) (p:Aut) (x l:Nat):pnx (ss.map sMem++[zeV free,zeV p]) x l=pnx (ss.map sMem++[zeV p]) x l:=by
 have h0:∀ q l,aGo free q l=q:=fun q l=>by simp [aGo,free]
 rw [zeA,zeA,pnx_two,pnx_one,h0]
 have h1:zak [zeV free,zeV p]=p.next.length:=by simp [zak,zap,zeV,free]
 have h2:zak [zeV p]=p.next.length:=by simp [zak,zap,zeV]
 rw [h1,h2]
 have h3:free.next.length=1:=rfl
 rw [h3,Nat.mod_one,Nat.zero_mul,Nat.zero_add]
def fwd (cs:List (Nat × List Nat)):List Nat:=cs.foldl (fun out c=>out.flatMap fun o=>c.2.map fun x=>o*c.1+x) [0]
theorem zgY (cs:List (Nat × List Nat)) (c:Nat × List Nat):fwd (cs++[c])=(fwd cs).flatMap fun o=>c.2.map fun x=>o*c.1+x:=by simp [fwd]
def chs:List Mem→Nat→Nat→List (Nat × List Nat)
 |[],_,_=>[]
 |m :: r,x,l=>(m.1,m.2 (x / zak r % m.1) l) :: chs r x l
theorem zew (ms:List Mem) (x l:Nat):(chs ms x l).length=ms.length:=by
 induction ms with
 |nil=>rfl
 |cons m r ih=>simp [chs,ih]
theorem chs_get {ms:List Mem} {x l k:Nat} {m:Mem}(h:ms[k]?=some m):(chs ms x l)[k]?=some (m.1,m.2 (x / zak (ms.drop (k+1)) % m.1) l):=by
 induction ms generalizing k with
 |nil=>simp at h
 |cons t r ih =>
  cases k with
  |zero=>simp at h;subst h;simp [chs]
  |succ k=>simp at h;simpa [chs] using ih h
theorem foldl_pnx (ms:List Mem) (x l:Nat) (out:List Nat):(chs ms x l).foldl (fun out c=>out.flatMap fun o=>c.2.map fun x=>o*c.1+x) out=out.flatMap fun o=>(pnx ms x l).map fun y=>o*zak ms+y:=by
 induction ms generalizing out with
 |nil=>simp [chs,pnx,zak,zap]
 |cons m r ih =>
  rw [chs,List.foldl_cons,ih,pnx,List.flatMap_assoc]
  congr 1
  funext o
  rw [List.flatMap_map,List.map_flatMap]
  congr 1
  funext q
  rw [List.map_map]
  congr 1
  funext y
  simp only [Function.comp,zdj]
  rw [Nat.add_mul,Nat.mul_assoc,Nat.add_assoc]
theorem fwd_pnx (ms:List Mem) (x l:Nat):fwd (chs ms x l)=pnx ms x l:=by
 have:=foldl_pnx ms x l [0]
 simpa [fwd] using this
theorem flat_len {α β:Type} {l:List α} {f:α→List β} {k:Nat}(h:∀ x∈l,(f x).length≤k):(l.flatMap f).length≤l.length*k:=by
 induction l with
 |nil=>simp
 |cons x r ih =>
  have h1:=ih fun y hy=>h y (by simp [hy])
  have h2:=h x (by simp)
  rw [List.flatMap_cons,List.length_append,List.length_cons,Nat.add_mul,Nat.one_mul]
  omega
theorem fwd_len {cs:List (Nat × List Nat)}(h:∀ c∈cs,c.2.length≤c.1):(fwd cs).length≤zap (cs.map Prod.fst):=by
 have key:∀ n,n≤cs.length→(fwd (cs.take n)).length≤zap ((cs.take n).map Prod.fst):=by
  intro n
  induction n with
  |zero=>intro _;simp [fwd,zap]
  |succ n ih =>
   intro hn
   have hc:cs[n]?=some cs[n]:=List.getElem?_eq_getElem (by omega)
   rw [List.take_add_one,hc]
   simp only [Option.toList_some]
   rw [zgY,List.map_append,zbY]
   refine Nat.le_trans (flat_len (k:=(cs[n]).2.length) fun x _=>by simp) ?_
   refine Nat.mul_le_mul (ih (by omega)) ?_
   simpa [zap] using h cs[n] (List.getElem_mem _)
 have:=key cs.length (Nat.le_refl _)
 rwa [List.take_length] at this
theorem fwd_lt {cs:List (Nat × List Nat)}(h:∀ c∈cs,∀ x∈c.2,x<c.1):∀ y∈fwd cs,y<zap (cs.map Prod.fst):=by
 have key:∀ n,n≤cs.length→∀ y∈fwd (cs.take n),y<zap ((cs.take n).map Prod.fst):=by
  intro n
  induction n with
  |zero=>intro _ y hy;simp [fwd] at hy;subst hy;simp [zap]
  |succ n ih =>
   intro hn y hy
   have hc:cs[n]?=some cs[n]:=List.getElem?_eq_getElem (by omega)
   rw [List.take_add_one,hc] at hy ⊢
   simp only [Option.toList_some] at hy ⊢
   rw [zgY] at hy
   rw [List.map_append,zbY]
   obtain⟨o,ho,hy⟩:=List.mem_flatMap.1 hy
   obtain⟨x,hx,rfl⟩:=List.mem_map.1 hy
   have h1:=ih (by omega) o ho
   have h2:=h cs[n] (List.getElem_mem _) x hx
   simp only [List.map_cons,List.map_nil,zap,Nat.mul_one]
   calc o*(cs[n]).1+x<o*(cs[n]).1+(cs[n]).1:=by omega
    _=(o+1)*(cs[n]).1:=by rw [Nat.add_mul,Nat.one_mul]
    _≤_:=Nat.mul_le_mul_right _ h1
 have:=key cs.length (Nat.le_refl _)
 rwa [List.take_length] at this
theorem sMem_ok {s:Sys}(h:Sml s):MemOk (sMem s):=⟨by have:=h.1;simp only [sMem];omega,fun q l hq hl x hx=>cho_lt h hq x hx⟩
theorem zx {a:Aut}(h:zh a=true):(0≤a.al∧a.al≤63)∧(1≤a.next.length∧a.next.length≤12)∧a.acc.length=a.next.length∧∀ (q:Nat) (row:List Int),a.next[q]?=some row→row.length=(letters a.al.toNat 6).length∧∀ x∈row,0≤x∧x<a.next.length:=by
 simp only [zh,Bool.and_eq_true,decide_eq_true_eq,List.all_eq_true] at h
 obtain⟨h1,h2,h3,h4⟩:=h
 refine⟨h1,h2,h3,fun q row hr=>?_⟩
 have:=h4 row (List.mem_of_getElem? hr)
 simp only [zhk,Bool.and_eq_true,decide_eq_true_eq,List.all_eq_true] at this
 exact this
def Fit (N:Nat) (a:Aut):Prop:=(0≤a.al∧a.al≤63)∧(1≤a.next.length∧a.next.length≤N)∧a.acc.length=a.next.length∧∀ (q:Nat) (row:List Int),a.next[q]?=some row→row.length=(letters a.al.toNat 6).length∧∀ x∈row,0≤x∧x<a.next.length
theorem Fit.row {N:Nat} {a:Aut}(h:Fit N a):(0≤a.al∧a.al≤63)∧(1≤a.next.length∧a.next.length≤N)∧a.acc.length=a.next.length∧∀ (q:Nat) (row:List Int),a.next[q]?=some row→row.length=(letters a.al.toNat 6).length∧∀ x∈row,0≤x∧x<a.next.length:=h
theorem fit_of {a:Aut}(h:zh a=true):Fit 12 a:=zx h
theorem place_lt {a l:Nat}(hl:l<6)(hb:a.testBit l=true):place a l<(letters a 6).length:=by
 have key:∀ n,l+1≤n→place a l<(letters a n).length:=by
  intro n
  induction n with
  |zero=>intro h;omega
  |succ n ih =>
   intro h
   rw [zbW,List.length_append]
   by_cases e:n=l
   ·subst e
    simp [place,hb]
   ·have:=ih (by omega)
    omega
 exact key 6 (by omega)
theorem aGo_ltF {N:Nat} {a:Aut}(h:Fit N a) {q l:Nat}(hq:q<a.next.length)(hl:l<6):aGo a q l<a.next.length:=by
 obtain⟨_,_,_,hr⟩:=h.row
 unfold aGo
 split
 ·rename_i hb
  have hrow:a.next[q]?=some a.next[q]:=List.getElem?_eq_getElem hq
  obtain⟨h1,h2⟩:=hr q _ hrow
  have hp:=place_lt hl hb
  rw [← h1] at hp
  have hx:=h2 _ (List.getElem_mem hp)
  simp only [List.getD_eq_getElem?_getD,hrow,Option.getD_some,List.getElem?_eq_getElem hp]
  omega
 ·exact hq
theorem zgs {a:Aut}(h:zh a=true) {q l:Nat}(hq:q<a.next.length)(hl:l<6):aGo a q l<a.next.length:=aGo_ltF (fit_of h) hq hl
theorem aMem_ok {a:Aut}(h:zh a=true):MemOk (zeV a):=⟨(zx h).2.1.1,fun q l hq hl x hx=>by
 simp only [zeV,List.mem_singleton] at hx ⊢
 subst hx
 exact zgs h hq hl⟩
theorem free_valid:zh free=true:=by decide
def lst (x:Nat):Nat:=(letters x 32).headD 0
def clsOf (R:List Nat):Nat→List Nat × Nat
 |0=>([],0)
 |k+1=>if lst (R.getD k 0)=k then ((clsOf R k).1++[(clsOf R k).2],(clsOf R k).2+1) else ((clsOf R k).1++[(clsOf R k).1.getD (lst (R.getD k 0)) 0],(clsOf R k).2)
def cl (R:List Nat) (i:Nat):Nat:=(clsOf R (i+1)).1.getD i 0
theorem ltE_trans {a b c:Edg}(h:ltE a b=true)(h':ltE b c=true):ltE a c=true:=by
 unfold ltE at *
 (repeat' split at h)<;>(repeat' split at h')<;>(repeat' split)<;>simp only [decide_eq_true_eq] at*<;> omega
theorem ltE_iff {a b:Edg}:ltE a b=true↔a.fr<b.fr∨a.fr=b.fr∧(a.le<b.le∨a.le=b.le∧a.ta<b.ta):=by
 unfold ltE
 (repeat' split)<;>simp only [decide_eq_true_eq]<;>omega
def Rising (es:List Edg):Prop:=∀ (a b:Nat) (x y:Edg),es[a]?=some x→es[b]?=some y→a<b→ltE x y=true
theorem rising_of {es:List Edg}(h:∀ k x y,es[k]?=some x→es[k+1]?=some y→ltE x y=true):Rising es:=by
 intro a b x y hx hy hab
 induction b generalizing y with
 |zero=>omega
 |succ b ih =>
  have hb:=(List.getElem?_eq_some_iff.1 hy).1
  obtain⟨z,hz⟩:∃ z,es[b]?=some z:=⟨_,List.getElem?_eq_getElem (by omega)⟩
  have h1:=h b z y hz hy
  rcases Nat.lt_or_ge a b with h2|h2
  ·exact ltE_trans (ih z hz h2) h1
  ·obtain rfl:a=b:=by omega
   rw [hx] at hz
   obtain rfl:=Option.some.inj hz
   exact h1
theorem valid_iff {s:Sys}:zr s=true↔(0≤s.al∧s.al≤63)∧(1≤s.st∧s.st≤16)∧(∀ e∈s.edges,edgB s.al.toNat s.st e=true)∧Rising s.edges:=by
 simp only [zr,Bool.and_eq_true,decide_eq_true_eq,List.all_eq_true,List.mem_range]
 constructor
 ·rintro ⟨h1,h2,h3⟩
  refine⟨h1,h2,fun e he=>?_,rising_of fun k x y hx hy=>?_⟩
  ·obtain⟨k,hk⟩:=List.getElem?_of_mem he
   have:=h3 k (List.getElem?_eq_some_iff.1 hk).1
   rw [zcM,hk] at this
   simp only [Bool.and_eq_true] at this
   exact this.1
  ·have:=h3 (k+1) (List.getElem?_eq_some_iff.1 hy).1
   unfold zcM at this
   rw [hy] at this
   simp only [Nat.add_sub_cancel,hx,Bool.and_eq_true,Bool.or_eq_true,decide_eq_true_eq] at this
   rcases this.2 with h|h
   ·omega
   ·exact h
 ·rintro ⟨h1,h2,h3,h4⟩
  refine⟨h1,h2,fun k hk=>?_⟩
  have hx:s.edges[k]?=some s.edges[k]:=List.getElem?_eq_getElem hk
  unfold zcM
  rw [hx]
  simp only [Bool.and_eq_true,Bool.or_eq_true,decide_eq_true_eq]
  refine⟨h3 _ (List.getElem_mem hk),?_⟩
  cases k with
  |zero=>exact Or.inl rfl
  |succ k =>
   have hy:s.edges[k]?=some s.edges[k]:=List.getElem?_eq_getElem (by omega)
   simp only [Nat.add_sub_cancel,hy]
   exact Or.inr (h4 k (k+1) _ _ hy hx (by omega))
def ALAt (w:World) (lo hi:Nat) (A:Option Addr) (n:Nat) (us:List Aut):Prop:=
 n=us.length∧∃ cells,Reads w lo hi 3 A n cells∧∀ (k:Nat) (a:Aut),us[k]?=some a→∃ (B:Option Addr) (m c:Nat) (B':Option Addr) (m' c':Nat),cells[k*3]?=some (.int .i64 a.al)∧cells[k*3+1]?=some (.slice B m c)∧cells[k*3+2]?=some (.slice B' m' c')∧zM w lo hi B m B' m' a
section
variable {w w':World} {lo hi n k:Nat} {A:Option Addr} {us:List Aut}
theorem ALAt.ext (h:ALAt w lo hi A n us)(hb:Ext w w'):ALAt w' lo hi A n us:=by
 obtain⟨e,cells,hr,hx⟩:=h
 refine⟨e,cells,hr.ext hb,fun k s hs=>?_⟩
 obtain⟨B,m,c,B',m',c',h0,h1,h2,h3⟩:=hx k s hs
 exact⟨B,m,c,B',m',c',h0,h1,h2,h3.ext hb⟩
theorem ALAt.len (h:ALAt w lo hi A n us):n≤9223372036854775807:=by
 obtain⟨_,cells,hr,_⟩:=h
 exact hr.len
theorem ALAt.aut (h:ALAt w lo hi A n us)(hk:k<n):∃ b o a B m c B' m' c',A=some ⟨b,o,none⟩∧Hid (us[k]?=some a)∧w.cell? ⟨b,o+k*3,none⟩=some (.int .i64 a.al)∧w.cell? ⟨b,o+k*3+1,none⟩=some (.slice B m c)∧w.cell? ⟨b,o+k*3+2,none⟩=some (.slice B' m' c')∧zM w lo hi B m B' m' a:=by
 obtain⟨e,cells,hr,hx⟩:=h
 have h0:us[0]?=some (us[0]'(by omega)):=List.getElem?_eq_getElem _
 obtain⟨_,_,_,_,_,_,z0,_⟩:=hx 0 _ h0
 rw [Nat.zero_mul] at z0
 obtain⟨b,o,rfl,hl,hb,hc⟩:=zgE hr (by omega) z0
 have hs:us[k]?=some (us[k]'(by omega)):=List.getElem?_eq_getElem _
 obtain⟨B,m,c,B',m',c',h0,h1,h2,h3⟩:=hx k _ hs
 exact⟨b,o,_,B,m,c,B',m',c',rfl,hs,hc _ _ h0,by rw [Nat.add_assoc];exact hc _ _ h1,by rw [Nat.add_assoc];exact hc _ _ h2,h3⟩
end
structure zeb (w:World) (PA:Option Addr) (pn:Nat) (AA:Option Addr) (an:Nat) (ss:List Sys) (us:List Aut):Prop where
 sys:∃ lo hi,SLAt w lo hi PA pn ss
 aut:∃ lo hi,ALAt w lo hi AA an us
theorem zeb.ext {w w':World} {PA AA:Option Addr} {pn an:Nat} {ss:List Sys} {us:List Aut}(h:zeb w PA pn AA an ss us)(hx:Ext w w'):zeb w' PA pn AA an ss us:=by
 obtain⟨⟨lo,hi,h1⟩,lo',hi',h2⟩:=h
 exact⟨⟨lo,hi,h1.ext hx⟩,lo',hi',h2.ext hx⟩
def zaS (ss:List Sys) (us:List Aut):List Mem:=ss.map sMem++us.map zeV
def szs (ss:List Sys) (us:List Aut):List Nat:=ss.map (fun s=>s.st.toNat)++us.map fun a=>a.next.length
theorem zel (ss:List Sys) (us:List Aut):(zaS ss us).map Prod.fst=szs ss us:=by
 simp [zaS,szs,sMem,zeV,Function.comp_def]
structure zco (ss:List Sys) (us:List Aut):Prop where
 sys:∀ s∈ss,zr s=true
 aut:∀ a∈us,zh a=true
 few:ss.length≤3
 few':us.length≤2
theorem zcS {s:Sys}(h:zr s=true):Sml s:=by
 obtain⟨h1,h2,h3,h4⟩:=valid_iff.1 h
 obtain⟨p,hp,_,_,hf⟩:=zdb h
 refine⟨h2.1,h2.2,?_,h1.1,h1.2⟩
 rw [hp]
 exact hf
theorem zco.ok {ss:List Sys} {us:List Aut}(h:zco ss us):∀ m∈zaS ss us,MemOk m:=by
 intro m hm
 rcases List.mem_append.1 hm with h1|h1
 ·obtain⟨s,hs,rfl⟩:=List.mem_map.1 h1
  exact sMem_ok (zcS (h.sys s hs))
 ·obtain⟨a,ha,rfl⟩:=List.mem_map.1 h1
  exact aMem_ok (h.aut a ha)
theorem prodS_le {l:List Nat} {b:Nat}(h:∀ x∈l,x≤b):zap l≤b ^ l.length:=by
 induction l with
 |nil=>simp [zap]
 |cons x r ih =>
  rw [zap,List.length_cons,Nat.pow_succ,Nat.mul_comm]
  exact Nat.mul_le_mul (ih fun y hy=>h y (by simp [hy])) (h x (by simp))
theorem zco.le16 {ss:List Sys} {us:List Aut}(h:zco ss us):∀ x∈szs ss us,1≤x∧x≤16:=by
 intro x hx
 rcases List.mem_append.1 hx with h1|h1
 ·obtain⟨s,hs,rfl⟩:=List.mem_map.1 h1
  have hh:=zcS (h.sys s hs)
  have:=hh.1;have:=hh.2.1
  omega
 ·obtain⟨a,ha,rfl⟩:=List.mem_map.1 h1
  have:=(zx (h.aut a ha)).2.1
  omega
theorem zco.len {ss:List Sys} {us:List Aut}(h:zco ss us):(szs ss us).length≤5:=by
 have:=h.few;have:=h.few'
 simp [szs];omega
theorem zco.total {ss:List Sys} {us:List Aut}(h:zco ss us) (l:List Nat)(hl:l.Sublist (szs ss us)):1≤zap l∧zap l≤1048576:=by
 refine⟨prodS_pos fun x hx=>(h.le16 x (hl.subset hx)).1,?_⟩
 have h1:=prodS_le (l:=l) (b:=16) fun x hx=>(h.le16 x (hl.subset hx)).2
 have h2:=hl.length_le
 have h3:=h.len
 calc zap l≤16 ^ l.length:=h1
  _≤16 ^ 5:=Nat.pow_le_pow_right (by omega) (by omega)
  _=1048576:=by decide
theorem place_succ (a k:Nat):place a (k+1)=place a k+if a.testBit k then 1 else 0:=by
 unfold place
 rw [zbW,List.length_append]
 cases a.testBit k<;>simp
theorem spec_l1Place (a l:Nat)(ha:Sm a)(hl:l≤6) (w:World) :
  Calls Tryz.prog 205 #[.int .i64 a,.int .i64 l] w fun e w'=>e=.returned (.int .i64 (place a l:Nat))∧w=w':=by
 go_enter Tryz.func205,Tryz.ntmps205
 go_wp2
 go_loop [5,6] (fun v i=>∃ k y:Nat,k≤l∧i=.int .i64 k∧v=.int .i64 y∧y≤k∧Hid (y=place a k)) (fun _ i=>l - (intOf i).toNat)
 case atStart=>exact⟨0,0,Nat.zero_le _,rfl,rfl,Nat.le_refl _,rfl⟩
 case round =>
  obtain⟨k,y,hk,rfl,rfl,hy,hyo⟩:=hrel
  by_cases hlt:k<l
  ·cases hb:a.testBit k
   all_goals
    have Hb:=za hb
    have Hs:=za (place_succ a k)
    clear hb
    go_wp2_with (go_at_call 112;refine (zaa a k ha _ (by omega)).mono ?_;rw [Hb.out];rintro e w' ⟨rfl,rfl⟩)
    go_round
    case rel=>first|exact⟨k+1,y,by omega,by go_num,rfl,by omega,by unfold Hid;rw [Hs.out,Hb.out,← hyo.out];rfl⟩|exact⟨k+1,y+1,by omega,by go_num,by go_num,by omega,by unfold Hid;rw [Hs.out,Hb.out,← hyo.out];rfl⟩
    case measure=>simp [intOf];omega
  ·obtain rfl:l=k:=by omega
   go_wp2
   go_ret
   exact⟨zan (by rw [hyo.out]),rfl⟩
theorem zcm {lo hi:Nat} {B:Option Addr} {m d:Nat} {B':Option Addr} {m' d':Nat} {a:Aut} {q l:Nat} {w:World}(h:zM w lo hi B m B' m' a)(hv:zh a=true)(hq:q<a.next.length)(hl:l<6) :
  Calls Tryz.prog 172 #[.agg #[.int .i64 a.al,.slice B m d,.slice B' m' d'],.int .i64 q,.int .i64 l] w fun e w'=>e=.returned (.int .i64 (aGo a q l:Nat))∧Ext w w':=by
 obtain⟨⟨al0,al1⟩,_,_,hrows⟩:=zx hv
 obtain⟨al,hal⟩:∃ al:Nat,Hid (a.al=al):=⟨a.al.toNat,by unfold Hid;omega⟩
 have hsm:Sm al:=by have:=hal.out;unfold Sm;omega
 have htn:a.al.toNat=al:=by have:=hal.out;omega
 have Hn:=za h.n1
 have HN:=za (fun W (hW:Ext w W)=>h.1.ext hW)
 have hqm:q<m:=by rw [h.n1];exact hq
 have hG:=za (show aGo a q l=if al.testBit l then ((a.next.getD q []).getD (place al l) 0).toNat else q by unfold aGo;rw [htn])
 have hrow:a.next[q]?=some a.next[q]:=List.getElem?_eq_getElem hq
 obtain⟨hr1,hr2⟩:=hrows q _ hrow
 rw [htn] at hr1
 have Hrow:=za hrow
 have Hr2:=za hr2
 have Hr1:=za hr1
 have hlm:=h.1.len
 clear hr1 hr2 hrow htn hrows h
 generalize a.next[q]=row at *
 cases hb:al.testBit l
 ·have Hb:=za hb
  clear hb
  rw [hal.out]
  clear al0 al1
  go_enter Tryz.func172,Tryz.ntmps172
  go_wp2_with (go_at_call 112;refine (zaa al l hsm _ (by omega)).mono ?_;rw [Hb.out];rintro e w' ⟨rfl,rfl⟩)
  go_ret
  exact⟨zan (by rw [hG.out,Hb.out];rfl),(Ext.refl _).alloc _⟩
 ·have hp:=za (place_lt hl hb)
  have Hb:=za hb
  clear hb
  rw [hal.out]
  clear al0 al1
  have hpr:place al l<row.length:=by rw [Hr1.out];exact hp.out
  obtain⟨x,hx⟩:∃ x,Hid (row[place al l]?=some x):=⟨_,List.getElem?_eq_getElem hpr⟩
  obtain⟨x0,x1⟩:=Hr2.out x (List.mem_of_getElem? hx.out)
  obtain⟨y,rfl⟩:∃ y:Nat,x=y:=⟨x.toNat,by omega⟩
  have zhM:=za (show aGo a q l=y by rw [hG.out,Hb.out,if_pos rfl];simp only [List.getD_eq_getElem?_getD,Hrow.out,Option.getD_some,hx.out];rfl)
  go_enter Tryz.func172,Tryz.ntmps172
  go_wp2_with (go_at_call 112;refine (zaa al l hsm _ (by omega)).mono ?_;rw [Hb.out];rintro e w' ⟨rfl,rfl⟩)
  have hw1:Ext w (w.alloc (.cells #[.int .i64 al,.slice B m d,.slice B' m' d'] 26)):=(Ext.refl w).alloc _
  have hb1:=Blk.new w 26 #[.int .i64 al,.slice B m d,.slice B' m' d']
  generalize w.alloc (.cells #[.int .i64 al,.slice B m d,.slice B' m' d'] 26)=w1 at *
  obtain⟨ad,Ak,ck,l',rfl,_,_,hl',hc,hrd⟩:=(HN.out w1 hw1).row hqm
  obtain rfl:row=l':=by have h1:=Hrow.out;have h2:=hl'.out;rw [h1] at h2;exact Option.some.inj h2
  have hpc:∀ W,Ext w1 W→∃ ad',Ak=some ad'∧W.cell? (ad'.add (place al l))=some (.int .i64 (y:Nat)):=fun W hW=>by
   obtain⟨ad',z,e,_,_,hz,hcz⟩:=(hrd.ext hW).int hpr
   have h1:=hx.out;have h2:=hz.out
   rw [h1] at h2
   obtain rfl:=Option.some.inj h2
   exact⟨ad',e,hcz⟩
  obtain⟨ad',rfl,_⟩:=hpc w1 (Ext.refl _)
  have c2:∀ W,Ext w1 W→W.cell? (ad'.add (place al l))=some (.int .i64 (y:Nat)):=fun W hW=>by
   obtain⟨ad2,e,h⟩:=hpc W hW
   injection e with e
   subst e
   exact h
  have c1:∀ W,Ext w1 W→W.cell? (ad.add q)=some (.slice (some ad') row.length ck):=fun W hW=>hW.cell_some hc
  have c0:=hb1.cells
  clear hpc hc hrd
  have hpi:(place al l:Int)<(row.length:Int):=by omega
  have hrr:=Ext.refl w1
  generalize hpp:place al l=pl at *
  have Hpp:=za hpp
  clear hpp
  go_wp2_with fail
  go_region_held3 (fun W=>Ext w1 W) (first|assumption|(refine Ext.drew ?_;assumption)|(refine Ext.trans ?_ (by assumption);assumption)|(refine Ext.trans ?_ (by assumption);refine Ext.drew ?_;assumption)) ((go_at_call 205;refine (spec_l1Place al l hsm (by omega) _).mono ?_;rw [Hpp.out];rintro e w' ⟨rfl,rfl⟩))
  go_wp2
  go_ret
  exact⟨zan (by rw [zhM.out]),hw1.trans (by assumption)⟩
abbrev Lay (α:Type):=World→Nat→Nat→Value→α→Prop
structure Lay.Ok {α:Type} (P:Lay α):Prop where
 frm:∀ {S:Nat→Prop} {W W':World} {lo hi:Nat} {r:Value} {x:α},P W lo hi r x→Frm S W W'→(∀ k,lo≤k→k<hi→¬ S k)→P W' lo hi r x
 more:∀ {W:World} {lo hi lo' hi':Nat} {r:Value} {x:α},P W lo hi r x→lo'≤lo→hi≤hi'→P W lo' hi' r x
def zbf:Lay Nat:=fun _ _ _ r n=>r=.int .i64 (n:Nat)
theorem zbf.ok:Lay.Ok zbf:=⟨fun h _ _=>h,fun h _ _=>h⟩
def Lst {α:Type} (P:Lay α) (W:World) (lo hi:Nat) (A:Option Addr) (xs:List α):Prop:=
 ∃ rows,Reads W lo hi 1 A xs.length rows∧∀ (i:Nat) (r:Value) (x:α),rows[i]?=some r→xs[i]?=some x→P W lo hi r x
def LstP {α:Type} (P:Lay α):Lay (List α):=fun W lo hi r xs=>∃ A c,r=.slice A xs.length c∧Lst P W lo hi A xs
section
variable {α:Type} {P:Lay α} {W W':World} {lo hi:Nat} {A:Option Addr} {xs:List α}
theorem Lst.frm (hP:Lay.Ok P) {S:Nat→Prop}(h:Lst P W lo hi A xs)(hx:Frm S W W')(hS:∀ k,lo≤k→k<hi→¬ S k):Lst P W' lo hi A xs:=by
 obtain⟨rows,h1,h2⟩:=h
 exact⟨rows,h1.frm hx hS,fun i r x hr hx'=>hP.frm (h2 i r x hr hx') hx hS⟩
theorem Lst.ext (hP:Lay.Ok P)(h:Lst P W lo hi A xs)(hx:Ext W W'):Lst P W' lo hi A xs:=h.frm hP hx (fun _ _ _ h=>h)
theorem Lst.more (hP:Lay.Ok P) {lo' hi':Nat}(h:Lst P W lo hi A xs)(h1:lo'≤lo)(h2:hi≤hi'):Lst P W lo' hi' A xs:=by
 obtain⟨rows,h3,h4⟩:=h
 exact⟨rows,h3.more h1 h2,fun i r x hr hx'=>hP.more (h4 i r x hr hx') h1 h2⟩
theorem LstP.ok (hP:Lay.Ok P):Lay.Ok (LstP P):=by
 refine⟨fun h hx hS=>?_,fun h h1 h2=>?_⟩
 ·obtain⟨A,c,e,h⟩:=h
  exact⟨A,c,e,h.frm hP hx hS⟩
 ·obtain⟨A,c,e,h⟩:=h
  exact⟨A,c,e,h.more hP h1 h2⟩
theorem Lst.len (h:Lst P W lo hi A xs):xs.length≤9223372036854775807:=by
 obtain⟨rows,h1,_⟩:=h
 exact h1.len
theorem Lst.get {k:Nat}(h:Lst P W lo hi A xs)(hk:k<xs.length):∃ b o r x,A=some ⟨b,o,none⟩∧lo≤b∧b<hi∧Hid (xs[k]?=some x)∧W.cell? ⟨b,o+k,none⟩=some r∧P W lo hi r x:=by
 obtain⟨rows,h1,h2⟩:=h
 have hl:=h1.length
 rw [Nat.mul_one] at hl
 obtain⟨ad,e,h3,h4,h5⟩:=h1.at_ hk
 have hr0:rows[0]?=some (rows[0]'(by omega)):=List.getElem?_eq_getElem _
 have hrk:rows[k]?=some (rows[k]'(by omega)):=List.getElem?_eq_getElem _
 have hs:=zcJ (h5 0 _ hr0)
 have hc:=h5 k _ hrk
 rw [hs,zH] at hc
 exact⟨ad.block,ad.off,_,_,by rw [e,← hs],h3,h4,List.getElem?_eq_getElem hk,hc,h2 k _ _ hrk (List.getElem?_eq_getElem hk)⟩
theorem Lst.get2 {k b o:Nat} {x:α}(h:Lst P W lo hi (some ⟨b,o,none⟩) xs)(hx:xs[k]?=some x):∃ r,W.cell? ⟨b,o+k,none⟩=some r∧P W lo hi r x:=by
 obtain⟨b',o',r,y,e,_,_,hy,hc,hp⟩:=h.get (List.getElem?_eq_some_iff.1 hx).1
 injection e with e
 injection e with e1 e2
 subst e1;subst e2
 rw [hx] at hy
 have:=Option.some.inj hy.out
 subst this
 exact⟨r,hc,hp⟩
end
theorem Lst.of_nats {W:World} {lo hi:Nat} {A:Option Addr} {xs:List Nat}(h:Reads W lo hi 1 A xs.length (zaK xs)):Lst zbf W lo hi A xs:=⟨zaK xs,h,fun i r x hr hx=>by
 simp only [zaK,List.getElem?_map,hx,Option.map_some] at hr
 exact (Option.some.inj hr).symm⟩
theorem Lst.own_nats {W:World} {base c:Nat} {A:Option Addr} {xs:List Nat}(h:W.ownsRow base 3 1 (.slice A xs.length c) xs.length (zaK xs)):Lst zbf W base W.heap.size A xs:=Lst.of_nats (Reads.of_own h)
theorem Lst.num {W:World} {lo hi k:Nat} {A:Option Addr} {xs:List Nat}(h:Lst zbf W lo hi A xs)(hk:k<xs.length):∃ b o x,A=some ⟨b,o,none⟩∧lo≤b∧b<hi∧Hid (xs[k]?=some x)∧W.cell? ⟨b,o+k,none⟩=some (.int .i64 (x:Nat)):=by
 obtain⟨b,o,r,x,e,h1,h2,h3,h4,h5⟩:=h.get hk
 exact⟨b,o,x,e,h1,h2,h3,by rw [h4,h5]⟩
theorem Lst.num2 {W:World} {lo hi k b o x:Nat} {xs:List Nat}(h:Lst zbf W lo hi (some ⟨b,o,none⟩) xs)(hx:xs[k]?=some x):W.cell? ⟨b,o+k,none⟩=some (.int .i64 (x:Nat)):=by
 obtain⟨r,h1,h2⟩:=h.get2 hx
 rw [h1,h2]
def Grl {α:Type} (P:Lay α) (W:World) (base:Nat) (e:TypeId) (v:Value) (xs:List α):Prop:=
 ∃ rows:List Value,W.ownsRow base e 1 v xs.length rows∧∀ (i:Nat) (r:Value) (x:α),rows[i]?=some r→xs[i]?=some x→∃ lo hi,base≤lo∧hi≤W.heap.size∧P W lo hi r x∧∀ b,v.ownBlock=some b→b<lo∨hi≤b
section
variable {α:Type} {P:Lay α} {W W':World} {base:Nat} {e:TypeId} {v:Value} {xs:List α}
theorem Grl.form (h:Grl P W base e v xs):∃ A c,v=.slice A xs.length c:=by
 obtain⟨rows,h1,_⟩:=h
 exact zf h1
theorem Grl.lst (hP:Lay.Ok P) {A:Option Addr} {n c:Nat}(h:Grl P W base e (.slice A n c) xs):Lst P W base W.heap.size A xs:=by
 obtain⟨rows,h1,h2⟩:=h
 have hn:n=xs.length:=by
  obtain⟨A',c',hh⟩:=zf h1
  injection hh
 subst hn
 refine⟨rows,Reads.of_own h1,fun i r x hr hx=>?_⟩
 obtain⟨lo,hi,h3,h4,h5,_⟩:=h2 i r x hr hx
 exact hP.more h5 h3 h4
theorem Grl.push (hP:Lay.Ok P) {W1:World} {rows:List Value} {v' r:Value} {x:α} {lo hi:Nat}(h2:∀ (i:Nat) (r:Value) (x:α),rows[i]?=some r→xs[i]?=some x→∃ lo hi,base≤lo∧hi≤W.heap.size∧P W lo hi r x∧∀ b,v.ownBlock=some b→b<lo∨hi≤b)(h1:W.ownsRow base e 1 v xs.length rows)
  (hx:Ext W W1) (hr:P W1 lo hi r x) (hlo:W.heap.size≤lo) (hb:base≤lo) (hhi:hi≤W1.heap.size) (zhJ:W'.ownsRow base e 1 v' (xs.length+1) (rows++[r])) (hg:W1.grownBy W' v.ownBlock) (hat:v'.ownBlock=v.ownBlock∨v'.ownBlock=some (W1.heap.size+1)):Grl P W' base e v' (xs++[x]):=by
 have hlen:rows.length=xs.length:=by have:=zfG h1;omega
 have hfr:Frm (fun k=>v.ownBlock=some k) W1 W':=Frm.of_grown hg
 refine⟨rows++[r],by rw [List.length_append,List.length_singleton];exact zhJ,fun i s y hs hy=>?_⟩
 rcases Nat.lt_trichotomy i rows.length with hi' | hi' | hi'
 ·rw [List.getElem?_append_left hi'] at hs
  rw [List.getElem?_append_left (by omega)] at hy
  obtain⟨lo',hi'',h3,h4,h5,h6⟩:=h2 i s y hs hy
  refine⟨lo',hi'',h3,Nat.le_trans h4 (Nat.le_trans hx.size hfr.size),hP.frm (hP.frm h5 hx (fun _ _ _ h=>h)) hfr (fun k hk1 hk2 hk=>by have:=h6 k hk;omega),fun b hb'=>?_⟩
  rcases hat with h7|h7
  ·rw [h7] at hb';exact h6 b hb'
  ·rw [h7] at hb'
   have:=Option.some.inj hb'
   have:=hx.size
   omega
 ·rw [List.getElem?_append_right (by omega),hi',Nat.sub_self] at hs
  rw [List.getElem?_append_right (by omega),hi',hlen,Nat.sub_self] at hy
  simp at hs hy
  subst hs;subst hy
  refine⟨lo,hi,hb,Nat.le_trans hhi hfr.size,hP.frm hr hfr (fun k hk1 hk2 hk=>by have:=(h1.lt k hk).2;omega),fun b hb'=>?_⟩
  rcases hat with h7|h7
  ·rw [h7] at hb'
   have:=(h1.lt b hb').2
   omega
  ·rw [h7] at hb'
   have:=Option.some.inj hb'
   omega
 ·rw [List.getElem?_eq_none (by simp;omega)] at hs;cases hs
theorem Grl.push2 (hP:Lay.Ok P) {W1:World} {rows:List Value} {r:Value} {x:α} {lo hi g cap:Nat}(h2:∀ (i:Nat) (r:Value) (x:α),rows[i]?=some r→xs[i]?=some x→∃ lo hi,base≤lo∧hi≤W.heap.size∧P W lo hi r x∧∀ b,v.ownBlock=some b→b<lo∨hi≤b)(h1:W.ownsRow base e 1 v xs.length rows)
  (hx:Ext W W1) (hr:P W1 lo hi r x) (hlo:W.heap.size≤lo) (hb:base≤lo) (hhi:hi≤W1.heap.size) (zhJ:W'.ownsRow base e 1 (.slice (some ⟨g,0,none⟩) (xs.length+1) cap) (xs.length+1) (rows++[r])) (hg:W1.grownBy W' v.ownBlock) (hat:v.ownBlock=some g∨g=W1.heap.size+1):Grl P W' base e (.slice (some ⟨g,0,none⟩) (xs.length+1) cap) (xs++[x]):=
 Grl.push hP h2 h1 hx hr hlo hb hhi zhJ hg (by
  rcases hat with h|h
  ·exact Or.inl h.symm
  ·exact Or.inr (by rw [h];rfl))
end
theorem own_farP {w:World} {base:Nat} {e t:TypeId} {size n G:Nat} {v:Value} {xs:List Value} {cs:Array Value}(h:w.ownsRow base e size v n xs)(hB:Blk w G t cs)(hne:e≠t) {b:Nat}(hv:v.ownBlock=some b):b≠G:=by
 rintro rfl
 rcases h.2 with ⟨rfl,_⟩|⟨g,cap,cur,rfl,_,hh,_⟩
 ·simp [Value.ownBlock] at hv
 ·have hg:g=b:=by simpa [Value.ownBlock] using hv
  subst hg
  unfold Blk at hB
  rw [hh] at hB
  injection hB with hB
  injection hB with _ ht
  exact absurd ht hne
theorem zcQ (l:List Nat) (x:Nat):zaK (l++[x])=zaK l++[.int .i64 (x:Nat)]:=by simp [zaK]
theorem spec_l4Sizes {PA AA:Option Addr} {pn pc an ac:Nat} {sv:Value} {L K G:Int} {ss:List Sys} {us:List Aut} {w:World}(h:zeb w PA pn AA an ss us)(hok:zco ss us) :
  Calls Tryz.prog 206 #[.agg #[.slice PA pn pc,.slice AA an ac,sv,.int .i64 L,.int .i64 K,.int .i64 G]] w (zbq w (szs ss us)):=by
 have HN:=za (fun W (hW:Ext w W)=>h.ext hW)
 have hpn:Hid (pn=ss.length):=by obtain⟨_,_,h1⟩:=h.sys;exact h1.1
 have han:Hid (an=us.length):=by obtain⟨_,_,h1⟩:=h.aut;exact h1.1
 have hp3:pn≤3:=by rw [hpn.out];exact hok.few
 have ha2:an≤2:=by rw [han.out];exact hok.few'
 have Hok:=za hok
 clear h hok
 go_enter Tryz.func206,Tryz.ntmps206
 have hw1:Ext w (w.alloc (.cells #[.slice PA pn pc,.slice AA an ac,sv,.int .i64 L,.int .i64 K,.int .i64 G] 178)):=(Ext.refl w).alloc _
 have hb1:=Blk.new w 178 #[.slice PA pn pc,.slice AA an ac,sv,.int .i64 L,.int .i64 K,.int .i64 G]
 go_wp2
 go_loopw [3,4] (fun v i wr=>∃ k:Nat,k≤pn∧i=.int .i64 k∧wr.ownsRow w.heap.size 3 1 v k (zaK ((ss.take k).map fun s=>s.st.toNat))∧Ext w wr∧Blk wr w.heap.size 178 #[.slice PA pn pc,.slice AA an ac,sv,.int .i64 L,.int .i64 K,.int .i64 G])
  (fun _ i _=>pn - (intOf i).toNat)
 case atStart=>exact⟨0,Nat.zero_le _,rfl,(by have h0:=World.ownsRow_lit (base:=w.heap.size) (e:=3) (size:=1) (w.alloc (.cells #[.slice PA pn pc,.slice AA an ac,sv,.int .i64 L,.int .i64 K,.int .i64 G] 178)) #[] 0 (by simp) (by unfold maxLen;omega) rfl;simpa [zaK] using h0),hw1.alloc _,hb1.ext ((Ext.refl _).alloc _)⟩
 case round =>
  obtain⟨k,hk,rfl,zhJ,zhL,hbx⟩:=hrel
  have c0:=hbx.cell
  by_cases hlt:k<pn
  ·obtain⟨lo,hi,hsl⟩:=(HN.out wr zhL).sys
   obtain⟨b,o,s,B,q,d,rfl,hlo,hhi,hs,e0,e1,e2,hsy⟩:=hsl.sys hlt
   have hss:=zcS (Hok.out.sys s (List.mem_of_getElem? hs.out))
   obtain⟨p,hp⟩:∃ p:Nat,Hid (s.st=p):=⟨s.st.toNat,by have:=hss.1;unfold Hid;omega⟩
   rw [hp.out] at e1
   have Htk:=za (show (ss.take (k+1)).map (fun s=>s.st.toNat)=(ss.take k).map (fun s=>s.st.toNat)++[p] by rw [List.take_add_one,hs.out];simp [hp.out])
   clear hss hsl hsy
   go_wp2_with (at_builtin;refine zI w wr rfl _ _ _ rfl 3 _ 1 8 Tryz.underlying74 zac rfl (by decide) u3 _ _ _ _ rfl rfl zhL zhJ rfl (zbv _) (by unfold maxLen;omega) (by omega) ?_;intro v' w1 hext1 zhS hg1 hat1)
   have hbx1:Blk w1 w.heap.size 178 #[.slice (some ⟨b,o,none⟩) pn pc,.slice AA an ac,sv,.int .i64 L,.int .i64 K,.int .i64 G]:=(hg1.block _ hbx.lt (fun e=>own_farP zhJ hbx (by decide) e.symm rfl)).trans hbx
   go_roundw
   case rel=>exact⟨k+1,by omega,by go_num,by rw [Htk.out,zcQ];exact zhS,hext1,hbx1⟩
   case measure=>simp [intOf];omega
  ·obtain rfl:pn=k:=by omega
   have hown0:wr.ownsRow w.heap.size 3 1 u3 pn (zaK (ss.map fun s=>s.st.toNat)):=by rw [List.take_of_length_le (by have:=hpn.out;omega)] at zhJ;exact zhJ
   clear zhJ
   go_wp2
   go_loopw [3,5] (fun v i wr=>∃ k:Nat,k≤an∧i=.int .i64 k∧wr.ownsRow w.heap.size 3 1 v (pn+k) (zaK (ss.map (fun s=>s.st.toNat)++(us.take k).map fun a=>a.next.length))∧Ext w wr∧Blk wr w.heap.size 178 #[.slice PA pn pc,.slice AA an ac,sv,.int .i64 L,.int .i64 K,.int .i64 G])
    (fun _ i _=>an - (intOf i).toNat)
   case atStart=>exact⟨0,Nat.zero_le _,rfl,by simpa using hown0,zhL,hbx⟩
   case round =>
    clear hown0 zhL hbx c0
    obtain⟨k,hk,rfl,zhJ,zhL,hbx⟩:=hrel
    have c0:=hbx.cell
    by_cases hlt:k<an
    ·obtain⟨lo,hi,hsl⟩:=(HN.out wr zhL).aut
     obtain⟨b,o,a,B,m,c,B',m',c',rfl,hs,e0,e1,e2,hat⟩:=hsl.aut hlt
     have hm:=za hat.n1
     have hm12:m≤12:=by have:=(zx (Hok.out.aut a (List.mem_of_getElem? hs.out))).2.1;rw [← hm.out] at this;omega
     have Htk:=za (show ss.map (fun s=>s.st.toNat)++(us.take (k+1)).map (fun a=>a.next.length)=(ss.map (fun s=>s.st.toNat)++(us.take k).map (fun a=>a.next.length))++[m] by rw [List.take_add_one,hs.out];simp [hm.out])
     clear hsl hat
     go_wp2_with (at_builtin;refine zI w wr rfl _ _ _ rfl 3 _ 1 8 Tryz.underlying74 zac rfl (by decide) u3 _ _ _ _ rfl rfl zhL zhJ rfl (zbv _) (by unfold maxLen;omega) (by omega) ?_;intro v' w1 hext1 zhS hg1 hat1)
     have hbx1:Blk w1 w.heap.size 178 #[.slice PA pn pc,.slice (some ⟨b,o,none⟩) an ac,sv,.int .i64 L,.int .i64 K,.int .i64 G]:=(hg1.block _ hbx.lt (fun e=>own_farP zhJ hbx (by decide) e.symm rfl)).trans hbx
     go_roundw
     case rel=>exact⟨k+1,by omega,by go_num,by rw [Htk.out,zcQ];exact zhS,hext1,hbx1⟩
     case measure=>simp [intOf];omega
    ·obtain rfl:an=k:=by omega
     have hown0:wr.ownsRow w.heap.size 3 1 u3 (pn+an) (zaK (szs ss us)):=by rw [List.take_of_length_le (by have:=han.out;omega)] at zhJ;exact zhJ
     have hle:pn+an=(szs ss us).length:=by have:=zfG hown0;simp [zaK] at this;omega
     rw [hle] at hown0
     obtain⟨A5,c5,rfl⟩:=zf hown0
     clear zhJ
     go_wp2
     go_ret
     exact⟨_,_,rfl,hown0,zhL⟩
theorem zhy {A B:Option Addr} {c d:Nat} {lo hi lo' hi':Nat} {sz st:List Nat} {w:World}(h:Lst zbf w lo hi A sz)(h':Lst zbf w lo' hi' B st)(hl:sz.length=st.length)(hb:∀ k,k≤sz.length→encF 0 (sz.take k) (st.take k)≤1048576)(hz:∀ x∈sz,x≤16)(hs:∀ x∈st,x≤16) :
  Calls Tryz.prog 211 #[.slice A sz.length c,.slice B st.length d] w fun e w'=>e=.returned (.int .i64 (encF 0 sz st:Nat))∧Ext w w':=by
 have HA:=za (fun W (hW:Ext w W)=>h.ext zbf.ok hW)
 have HB:=za (fun W (hW:Ext w W)=>h'.ext zbf.ok hW)
 have Hb:=za hb
 have Hz:=za hz
 have Hs:=za hs
 have hlen:=h.len
 have hn:∃ n:Nat,Hid (sz.length=n)∧Hid (st.length=n):=⟨sz.length,rfl,hl.symm⟩
 obtain⟨n,hn1,hn2⟩:=hn
 rw [hn1.out] at hlen
 rw [hn1.out,hn2.out]
 clear hb hz hs hl h h'
 go_enter Tryz.func211,Tryz.ntmps211
 go_wp2
 go_loopw [5,6] (fun v i wr=>∃ k y:Nat,k≤n∧i=.int .i64 k∧v=.int .i64 y∧Hid (y=encF 0 (sz.take k) (st.take k))∧y≤1048576∧Ext w wr) (fun _ i _=>n - (intOf i).toNat)
 case atStart=>exact⟨0,0,Nat.zero_le _,rfl,rfl,rfl,by omega,Ext.refl _⟩
 case round =>
  obtain⟨k,y,hk,rfl,rfl,hy,hym,hx⟩:=hrel
  by_cases hlt:k<n
  ·obtain⟨b,o,s,rfl,_,_,hs,hc⟩:=(HA.out wr hx).num (show k<sz.length by rw [hn1.out];exact hlt)
   obtain⟨b',o',t,rfl,_,_,ht,hc'⟩:=(HB.out wr hx).num (show k<st.length by rw [hn2.out];exact hlt)
   have hs16:=Hz.out s (List.mem_of_getElem? hs.out)
   have ht16:=Hs.out t (List.mem_of_getElem? ht.out)
   have c1:∀ W,Ext wr W→W.cell? ⟨b,o+k,none⟩=some (.int .i64 (s:Nat)):=fun W hW=>hW.cell_some hc
   have c2:∀ W,Ext wr W→W.cell? ⟨b',o'+k,none⟩=some (.int .i64 (t:Nat)):=fun W hW=>hW.cell_some hc'
   have hst:=za (show encF 0 (sz.take (k+1)) (st.take (k+1))=y*s+t by
    have key:∀ (k acc:Nat) (sz st:List Nat),sz[k]?=some s→st[k]?=some t→encF acc (sz.take (k+1)) (st.take (k+1))=encF acc (sz.take k) (st.take k)*s+t:=by
     intro k
     induction k with
     |zero =>
      intro acc sz st h1 h2
      cases sz<;>cases st<;>simp at h1 h2
      subst h1;subst h2
      simp [encF]
     |succ k ih =>
      intro acc sz st h1 h2
      cases sz<;>cases st<;>simp at h1 h2
      simpa [encF] using ih _ _ _ h1 h2
    rw [key k 0 sz st hs.out ht.out,hy.out])
   have hbd:=Hb.out (k+1) (by rw [hn1.out];omega)
   rw [hst.out] at hbd
   have hmul:y*s≤1048576:=by omega
   obtain⟨ys,hys⟩:∃ z:Nat,Hid (y*s=z):=⟨_,rfl⟩
   have hysi:(y:Int)*(s:Int)=(ys:Int):=by rw [← hys.out];exact (Int.natCast_mul y s).symm
   rw [hys.out] at hmul hbd hst
   have hrr:=Ext.refl wr
   clear hc hc'
   go_wp2_with fail
   go_quiet (fail)
   go_wp2_with fail
   go_roundw
   case rel=>exact⟨k+1,ys+t,by omega,by go_num,by go_num,by unfold Hid;rw [hst.out],hbd,hx.drewN _⟩
   case measure=>simp [intOf];omega
  ·obtain rfl:n=k:=by omega
   have zhM:=za (show y=encF 0 sz st by rw [hy.out,List.take_of_length_le (by rw [hn1.out];exact Nat.le_refl _),List.take_of_length_le (by rw [hn2.out];exact Nat.le_refl _)])
   go_wp2
   go_ret
   exact⟨zan (by rw [zhM.out]),hx⟩
def decV (sz:List Nat) (x k:Nat):List Nat:=List.replicate k 0++dec (sz.drop k) x
theorem decV_set {sz:List Nat} {x k s:Nat}(h:sz[k]?=some s):(zaK (decV sz x (k+1))).set k (.int .i64 ((x / zap (sz.drop (k+1)) % s:Nat):Int))=zaK (decV sz x k):=by
 have hd:sz.drop k=s :: sz.drop (k+1):=by
  obtain⟨hk,rfl⟩:=List.getElem?_eq_some_iff.1 h
  exact List.drop_eq_getElem_cons hk
 unfold decV zaK
 rw [hd,dec,List.replicate_succ',List.append_assoc,List.map_append,List.map_append,List.set_append_right _ _ (by simp)]
 simp
theorem zer {A:Option Addr} {c n y0:Nat} {lo hi:Nat} {sz:List Nat} {w:World}(h:Lst zbf w lo hi A sz)(hn:sz.length=n)(hn5:n≤1000)(hz:∀ x∈sz,1≤x∧x≤16)(hy:y0≤4611686018427387904) :
  Calls Tryz.prog 209 #[.slice A n c,.int .i64 y0] w (zbq w (dec sz y0)):=by
 have HA:=za (fun W (hW:Ext w W)=>h.ext zbf.ok hW)
 have Hz:=za hz
 have Hn:=za hn
 clear hz h hn
 go_enter Tryz.func209,Tryz.ntmps209
 go_wp2_with (at_make;refine zbT w w rfl _ _ 74 rfl 3 _ 1 8 Tryz.underlying74 zac _ _ n rfl rfl (Ext.refl _) (by omega) (by unfold maxLen;omega) ?_;intro w3 hw3 zhU hx23 hsz3)
 generalize hg:w.heap.size=g at *
 have Hg:=za hg
 clear hg hx23 hsz3
 go_loopw [1,6] (fun v i wr=>∃ k y:Nat,k≤n∧i=.int .i64 ((k:Int) - 1)∧v=.int .i64 y∧y≤4611686018427387904∧Hid (y=y0 / zap (sz.drop k))∧wr.ownsRow g 3 1 (.slice (some ⟨g,0,none⟩) n n) n (zaK (decV sz y0 k))∧Ext w wr) (fun _ i _=>(intOf i+1).toNat)
 case atStart=>exact⟨n,y0,Nat.le_refl _,by go_num,rfl,hy,by unfold Hid;rw [List.drop_of_length_le (by have:=Hn.out;omega)];simp [zap],by rw [decV,List.drop_of_length_le (by have:=Hn.out;omega)];simpa [zaK,dec,Value.cells,toList_madeCells_one] using zhU,hw3⟩
 case round =>
  clear zhU hw3
  obtain⟨k,y,hk,rfl,rfl,hym,hyo,zhJ,hx⟩:=hrel
  by_cases hlt:0<k
  ·obtain⟨j,rfl⟩:∃ j,k=j+1:=⟨k - 1,by omega⟩
   obtain⟨b,o,s,rfl,_,_,hs,hc⟩:=(HA.out wr hx).num (show j<sz.length by have:=Hn.out;omega)
   obtain⟨s1,s16⟩:=Hz.out s (List.mem_of_getElem? hs.out)
   obtain⟨o0,g0⟩:=zbJ zhJ j (by omega)
   have f0:=zhJ.frozenAt j
   have hmd:(y:Int) % (s:Int)=((y % s:Nat):Int):=(Int.natCast_emod y s).symm
   have hdv:(y:Int) / (s:Int)=((y / s:Nat):Int):=(Int.natCast_ediv y s).symm
   have hst:=zhJ.stored j (.int .i64 ((y % s:Nat):Int))
   rw [hyo.out,decV_set hs.out,← hyo.out] at hst
   have hdr:=za (show y / s=y0 / zap (sz.drop j) by
    rw [hyo.out,Nat.div_div_eq_div_mul,List.drop_eq_getElem_cons (show j<sz.length by have:=Hn.out;omega),zap]
    have:sz[j]'(by have:=Hn.out;omega)=s:=by
     obtain⟨h1,h2⟩:=List.getElem?_eq_some_iff.1 hs.out
     exact h2
    rw [this,Nat.mul_comm])
   have hle:y / s≤4611686018427387904:=Nat.le_trans (Nat.div_le_self _ _) hym
   have hs0:¬ (s=0):=by omega
   have hgw:w.heap.size≤g:=by have:=Hg.out;omega
   have hj1:((j+1:Nat):Int) - 1=(j:Int):=by omega
   rw [hj1]
   have hc2:=(HA.out _ (hx.setCell (p:=⟨g,j,none⟩) hgw (.int .i64 ((y % s:Nat):Int)))).num2 hs.out
   generalize y % s=ym at *
   generalize y / s=yd at *
   go_wp2
   go_roundw
   case rel=>exact⟨j,yd,by omega,rfl,rfl,hle,hdr,hst.1,hx.setCell (p:=⟨g,j,none⟩) hgw _⟩
   case measure=>simp [intOf]
  ·obtain rfl:k=0:=by omega
   have hlen:=zcg sz y0
   have zhM:=za (show wr.ownsRow w.heap.size 3 1 (.slice (some ⟨g,0,none⟩) (dec sz y0).length n) (dec sz y0).length (zaK (dec sz y0)) by
    rw [hlen,Hn.out,Hg.out]
    simpa [decV] using zhJ)
   have hln:(dec sz y0).length=n:=by have:=Hn.out;omega
   go_wp2
   go_ret
   exact⟨some ⟨g,0,none⟩,n,by rw [hln];rfl,zhM.out,hx⟩
theorem spec_l4In {A:Option Addr} {c n:Nat} {lo hi x:Nat} {xs:List Nat} {w:World}(h:Lst zbf w lo hi A xs)(hn:xs.length=n) :
  Calls Tryz.prog 245 #[.slice A n c,.int .i64 x] w fun e w'=>e=.returned (.bool (decide (x∈xs)))∧w=w':=by
 have Hn:=za hn
 have hlen:=h.len
 rw [hn] at hlen
 clear hn
 go_enter Tryz.func245,Tryz.ntmps245
 go_wp2
 go_loop [5] (fun i=>∃ k:Nat,k≤n∧i=.int .i64 k∧Hid (∀ (j z:Nat),j<k→xs[j]?=some z→z≠x)) (fun i=>n - (intOf i).toNat)
 case atStart=>exact⟨0,Nat.zero_le _,rfl,(show Hid _ from fun j z hj=>by omega)⟩
 case round =>
  obtain⟨k,hk,rfl,hno⟩:=hrel
  by_cases hlt:k<n
  ·obtain⟨b,o,z,rfl,_,_,hz,hc⟩:=h.num (show k<xs.length by rw [Hn.out];exact hlt)
   by_cases hzx:z=x
   ·subst hzx
    have hm:=za (List.mem_of_getElem? hz.out)
    go_wp2
    go_ret
    exact⟨zm (by rw [decide_eq_true hm.out]),rfl⟩
   ·have hne:((z:Int)==(x:Int))=false:=by simp;omega
    go_wp2
    go_round
    case rel=>exact⟨k+1,by omega,by go_num,(show Hid _ from fun j y hj hy=>by
     by_cases e:j=k
     ·subst e
      have:=hz.out
      rw [hy] at this
      injection this with this
      subst this
      exact hzx
     ·exact hno.out j y (by omega) hy)⟩
    case measure=>simp [intOf];omega
  ·obtain rfl:n=k:=by omega
   have hm:=za (show ¬ x∈xs from fun hx=>by
    obtain⟨j,hj⟩:=List.getElem?_of_mem hx
    exact hno.out j x (by have:=(List.getElem?_eq_some_iff.1 hj).1;rw [Hn.out] at this;exact this) hj rfl)
   go_wp2
   go_ret
   exact⟨zm (by rw [decide_eq_false hm.out]),rfl⟩
def zet (a:Aut) (q:Nat):Bool:=a.acc.getD q false
theorem zfS {PA AA:Option Addr} {pn pc an ac:Nat} {sv:Value} {L K G:Int} {ss:List Sys} {us:List Aut} {w:World} {SA:Option Addr} {sn sc lo hi i q:Nat} {st:List Nat} {a:Aut}(h:zeb w PA pn AA an ss us)(h':Lst zbf w lo hi SA st)(hsn:st.length=sn)(hi:us[i]?=some a)(hq:st[pn+i]?=some q)(hqa:q<a.acc.length) :
  Calls Tryz.prog 243 #[.agg #[.slice PA pn pc,.slice AA an ac,sv,.int .i64 L,.int .i64 K,.int .i64 G],.slice SA sn sc,.int .i64 i] w fun e w'=>e=.returned (.bool (zet a q))∧Ext w w':=by
 have hia:i<an:=by obtain⟨_,_,h1⟩:=h.aut;rw [h1.1];exact (List.getElem?_eq_some_iff.1 hi).1
 have hsq:pn+i<sn:=by rw [← hsn];exact (List.getElem?_eq_some_iff.1 hq).1
 obtain⟨lo',hi',hal⟩:=h.aut
 have hlen:=hal.len
 have hlen':pn≤9223372036854775807:=by obtain⟨_,_,h1⟩:=h.sys;exact h1.len
 have hlen2:=h'.len
 rw [hsn] at hlen2
 obtain⟨b,o,a',B,m,c,B',m',c',rfl,ha',e0,e1,e2,hat⟩:=hal.aut hia
 obtain rfl:a=a':=by have:=ha'.out;rw [hi] at this;exact Option.some.inj this
 obtain⟨bs,os,q',rfl,_,_,hq',hc⟩:=h'.num (show pn+i<st.length by rw [hsn];exact hsq)
 obtain rfl:q=q':=by have:=hq'.out;rw [hq] at this;exact Option.some.inj this
 have hm':q<m':=by rw [hat.n2];exact hqa
 obtain⟨ad,x,rfl,_,_,hx,hcx⟩:=hat.2.2.bool hm'
 have zhM:=za (show zet a q=x by unfold zet;rw [List.getD_eq_getElem?_getD,hx.out];rfl)
 have hml:=hat.2.2.len
 have hw1:Ext w (w.alloc (.cells #[.slice PA pn pc,.slice (some ⟨b,o,none⟩) an ac,sv,.int .i64 L,.int .i64 K,.int .i64 G] 178)):=(Ext.refl w).alloc _
 have hb1:=Blk.new w 178 #[.slice PA pn pc,.slice (some ⟨b,o,none⟩) an ac,sv,.int .i64 L,.int .i64 K,.int .i64 G]
 have c1:∀ W,Ext w W→W.cell? ⟨b,o+i*3+2,none⟩=some (.slice (some ad) m' c'):=fun W hW=>hW.cell_some e2
 have c2:∀ W,Ext w W→W.cell? ⟨bs,os+(pn+i),none⟩=some (.int .i64 (q:Nat)):=fun W hW=>hW.cell_some hc
 have c3:∀ W,Ext w W→W.cell? (ad.add q)=some (.bool x):=fun W hW=>hW.cell_some hcx
 clear hal hat h h' e0 e1 e2 hc hcx hx hq' ha' hi hq hqa
 go_enter Tryz.func243,Tryz.ntmps243
 go_wp2_with fail
 generalize w.alloc (.cells #[.slice PA pn pc,.slice (some ⟨b,o,none⟩) an ac,sv,.int .i64 L,.int .i64 K,.int .i64 G] 178)=w1 at *
 have c0:=hb1.cell
 have c1:=c1 w1 hw1
 have c2:=c2 w1 hw1
 have c3:=c3 w1 hw1
 have hpi:(pn:Int)+(i:Int)<(sn:Int):=by omega
 have hii:(i:Int)<(an:Int):=by omega
 have hqi:(q:Int)<(m':Int):=by omega
 go_quiet (fail)
 go_wp2_with fail
 go_ret
 exact⟨zm (by rw [zhM.out]),hw1.drewN _⟩
end Go.Proofs.YtfcjhpodichpjaaGreatDoor
namespace Go.Proofs.YtfcjhpodichpjaaGreatDoor
open Go Go.RowKit Go.Lib Go.Sort
abbrev enc8 (n:Int):Value:=.int .u8 n
end Go.Proofs.YtfcjhpodichpjaaGreatDoor
namespace Go.Proofs.YtfcjhpodichpjaaGreatDoor
open Go Go.RowKit
theorem zgg {l:Nat}(hl:l<6) (w:World):Calls Tryz.prog 105 #[.int .i64 (l:Nat)] w fun e w'=>e=.returned (.int .u8 ((97+l:Nat):Nat))∧w=w':=by
 go_enter Tryz.func105,Tryz.ntmps105
 go_wp2
 go_ret
 exact⟨by rw [show (((97+l:Nat):Nat):Int)=97+(l:Int) by omega];rfl,rfl⟩
theorem info_u8:(Tryz.prog.info? 5).map (fun i=>(i.zero,i.size,i.bytes))=some (some (.int .u8 0),1,1):=by kernel_rfl
def lbs (o:List Nat):List Int:=o.map fun l=>((97+l:Nat):Int)
def u8s (l:List Int):List Value:=l.map enc8
theorem Holds.own8 {w:World} {base g n cap:Nat} {e:TypeId} {l:List Int}(h:w.ownsRow base e 1 (.slice (some ⟨g,0,none⟩) n cap) n (u8s l)):Sort.Holds enc8 w g 0 l.toArray:=by
 intro j hj
 have hj':j<l.length:=by simpa using hj
 have hn:=h.1
 simp only [u8s,List.length_map] at hn
 refine⟨?_,by rw [Nat.zero_add];exact h.frozenAt j⟩
 rw [Nat.zero_add,h.cellAt j (by omega)]
 simp [u8s,hj']
theorem u8_row:Tryz.prog.underlying 22=some (.slice 5):=by kernel_rfl
theorem u8_und:Tryz.prog.underlying 5=some (.int .u8):=by kernel_rfl
theorem str_und:Tryz.prog.underlying 9=some .string:=by kernel_rfl
def zfo (w:World) (d:Nat→Nat→List Nat) (start:List Nat) (goal:Nat→Bool) (L:List Nat) (e:Ending) (w':World):Prop:=
 Ext w w'∧((∃ v,e=.returned (.tuple #[.string (strOfNums (lbs v)),.bool true])∧Found d start goal L v)∨(e=.returned (.tuple #[.string ByteArray.empty,.bool false])∧Lost d start goal L))
theorem stepB_zero (es:List Edg) (l:Int):zbS es 0 l=0:=by
 apply Nat.eq_of_testBit_eq
 intro k
 rw [Nat.zero_testBit,Bool.eq_false_iff]
 intro h
 obtain⟨e,_,⟨_,h2⟩,_⟩:=(zfV es 0 l k).1 h
 simp at h2
theorem rising_pw {es:List Edg}:Rising es↔es.Pairwise (fun x y=>ltE x y=true):=by
 rw [List.pairwise_iff_getElem]
 constructor
 ·intro h i j hi hj hij
  exact h i j _ _ (List.getElem?_eq_getElem hi) (List.getElem?_eq_getElem hj) hij
 ·intro h a b x y hx hy hab
  obtain⟨ha,rfl⟩:=List.getElem?_eq_some_iff.1 hx
  obtain⟨hb,rfl⟩:=List.getElem?_eq_some_iff.1 hy
  exact h a b ha hb hab
theorem zgA (a k:Nat):(letters a k).Pairwise (·<·):=List.Pairwise.filter _ List.pairwise_lt_range
theorem asc_ext:∀ {l m:List Nat},l.Pairwise (·<·)→m.Pairwise (·<·)→(∀ x,x∈l↔x∈m)→l=m:=by
 intro l
 induction l with
 |nil =>
  intro m _ _ h
  cases m with
  |nil=>rfl
  |cons y s=>exact absurd ((h y).2 (by simp)) (by simp)
 |cons x r ih =>
  intro m hl hm h
  cases m with
  |nil=>exact absurd ((h x).1 (by simp)) (by simp)
  |cons y s =>
   rw [List.pairwise_cons] at hl hm
   have e:x=y:=by
    have h1:=(h x).1 (by simp)
    have h2:=(h y).2 (by simp)
    rcases List.mem_cons.1 h1 with h1|h1
    ·exact h1
    ·rcases List.mem_cons.1 h2 with h2|h2
     ·exact h2.symm
     ·have:=hl.1 y h2
      have:=hm.1 x h1
      omega
   subst e
   rw [ih hl.2 hm.2 fun z=>?_]
   have hz:=h z
   simp only [List.mem_cons] at hz
   constructor
   ·intro h1
    have:=hl.1 z h1
    rcases hz.1 (Or.inr h1) with h2|h2
    ·omega
    ·exact h2
   ·intro h1
    have:=hm.1 z h1
    rcases hz.2 (Or.inr h1) with h2|h2
    ·omega
    ·exact h2
def chE (es:List Edg) (q l:Nat):List Nat:=(es.filter fun e=>e.fr==(q:Int)&&e.le==(l:Int)).map fun e=>e.ta.toNat
theorem chE_cho {p:Nat} {es:List Edg}(hf:Few p es)(hp:p≤16)(hr:Rising es) (q l:Nat):chE es q l=letters (succ es q l) 32:=by
 refine asc_ext ?_ (zgA _ _) fun x=>?_
 ·have h1:=rising_pw.1 hr
  rw [chE,List.pairwise_map,List.pairwise_filter]
  refine h1.imp_of_mem fun {a b} ha hb hab h2 h3=>?_
  simp only [Bool.and_eq_true,beq_iff_eq] at h2 h3
  have:=ltE_iff.1 hab
  have:=hf a ha
  have:=hf b hb
  omega
 ·rw [zX,zfm,chE,List.mem_map]
  simp only [List.mem_filter,Bool.and_eq_true,beq_iff_eq]
  constructor
  ·rintro ⟨e,⟨h1,h2⟩,rfl⟩
   have:=hf e h1
   exact⟨by omega,e,h1,h2,rfl⟩
  ·rintro ⟨_,e,h1,h2,rfl⟩
   exact⟨e,⟨h1,h2⟩,rfl⟩
theorem chE_take {es:List Edg} {k:Nat} {x:Edg}(h:es[k]?=some x) (q l:Nat):chE (es.take (k+1)) q l=chE (es.take k) q l++if x.fr=(q:Int)∧x.le=(l:Int) then [x.ta.toNat] else []:=by
 rw [List.take_add_one,h]
 unfold chE
 rw [Option.toList_some,List.filter_append,List.map_append]
 congr 1
 by_cases hc:x.fr=(q:Int)∧x.le=(l:Int)
 ·rw [if_pos hc];simp [hc]
 ·rw [if_neg hc]
  have:(x.fr==(q:Int)&&x.le==(l:Int))=false:=by
   rw [Bool.eq_false_iff]
   intro h
   simp only [Bool.and_eq_true,beq_iff_eq] at h
   exact hc h
  simp [this]
theorem chE_len {p:Nat} {es:List Edg}(hf:Few p es)(hp:p≤16)(hr:Rising es) (q l k:Nat):(chE (es.take k) q l).length≤16:=by
 have h1:(chE (es.take k) q l).Sublist (chE es q l):=((List.take_sublist k es).filter _).map _
 refine Nat.le_trans h1.length_le (Nat.le_trans (nodup_len (p:=p) ?_ ?_) hp)
 ·rw [chE_cho hf hp hr];exact zej _ _
 ·intro x hx
  obtain⟨e,he,rfl⟩:=List.mem_map.1 hx
  have:=hf e (List.mem_filter.1 he).1
  omega
theorem ret_one {w W:World} {y g:Nat}(hx:Ext w W)(hb:Blk W g 3 #[.int .i64 (y:Nat)])(hg:w.heap.size≤g):zbq w [y] (.returned (.slice (some ⟨g,0,none⟩) 1 1)) W:=
 ⟨some ⟨g,0,none⟩,1,rfl,⟨rfl,.inr ⟨g,1,_,rfl,hg,hb,by simp [zaK,maxLen]⟩⟩,hx⟩
theorem zgn {PA AA:Option Addr} {pn pc an ac:Nat} {sv:Value} {L K G:Int} {ss:List Sys} {us:List Aut} {w:World} {i q l:Nat} {m:Mem}(h:zeb w PA pn AA an ss us)(hok:zco ss us)(hm:(zaS ss us)[i]?=some m)(hq:q<m.1)(hl:l<6) :
  Calls Tryz.prog 263 #[.agg #[.slice PA pn pc,.slice AA an ac,sv,.int .i64 L,.int .i64 K,.int .i64 G],.int .i64 i,.int .i64 q,.int .i64 l] w (zbq w (m.2 q l)):=by
 have hw1:Ext w (w.alloc (.cells #[.slice PA pn pc,.slice AA an ac,sv,.int .i64 L,.int .i64 K,.int .i64 G] 178)):=(Ext.refl w).alloc _
 have hb1:=Blk.new w 178 #[.slice PA pn pc,.slice AA an ac,sv,.int .i64 L,.int .i64 K,.int .i64 G]
 have HN:=za (fun W (hW:Ext w W)=>h.ext hW)
 have hpn:Hid (pn=ss.length):=by obtain⟨_,_,h1⟩:=h.sys;exact h1.1
 have han:Hid (an=us.length):=by obtain⟨_,_,h1⟩:=h.aut;exact h1.1
 have hp3:pn≤3:=by rw [hpn.out];exact hok.few
 have ha2:an≤2:=by rw [han.out];exact hok.few'
 by_cases hip:i<pn
 ·have hs:ss[i]?=some (ss[i]'(by rw [← hpn.out];exact hip)):=List.getElem?_eq_getElem _
  generalize ss[i]'(by rw [← hpn.out];exact hip)=s at hs
  obtain rfl:m=sMem s:=by
   rw [zaS,List.getElem?_append_left (by simp;have:=hpn.out;omega),List.getElem?_map,hs] at hm
   exact (Option.some.inj hm).symm
  have hv:=hok.sys s (List.mem_of_getElem? hs)
  obtain⟨hal,hst,_,hris⟩:=valid_iff.1 hv
  obtain⟨p,hp,hp1,hp2,hf⟩:=zdb hv
  obtain⟨al,ha⟩:∃ al:Nat,Hid (s.al=al):=⟨s.al.toNat,by unfold Hid;omega⟩
  have hsm:Sm al:=by have:=ha.out;unfold Sm;omega
  have hres:=za (show (sMem s).2 q l=if al.testBit l then chE s.edges q l else [q] by
   rw [chE_cho hf hp2 hris]
   simp only [sMem,cho]
   rw [ha.out,Int.toNat_natCast])
  have Hs:=za hs
  have H16:=za (chE_len hf hp2 hris q l)
  have Hf:=za hf
  clear hs hv hal hst hris hf hm hok h hq
  rw [hres.out]
  cases hb:al.testBit l
  ·have Hb:=za hb
   clear hb
   go_enter Tryz.func263,Tryz.ntmps263
   go_upto_region 1 with fail
   generalize w.alloc (.cells #[.slice PA pn pc,.slice AA an ac,sv,.int .i64 L,.int .i64 K,.int .i64 G] 178)=w1 at *
   have c0:=hb1.cell
   obtain⟨lo,hi,hsl⟩:=(HN.out w1 hw1).sys
   obtain⟨b,o,s',B,n,c',rfl,_,_,hs',e0,e1,e2,hsx⟩:=hsl.sys hip
   obtain rfl:s=s':=by have:=hs'.out;rw [Hs.out] at this;exact Option.some.inj this
   rw [ha.out] at e0
   clear e1 hsl hsx
   go_wp2_with (go_at_call 112;with_reducible refine (zaa al l hsm _ (by omega)).mono ?_;rw [Hb.out];rintro e w' ⟨rfl,rfl⟩)
   go_ret
   exact ret_one (hw1.alloc _) (Blk.new _ _ _) hw1.size
  ·have Hb:=za hb
   clear hb
   simp only [if_true]
   go_enter Tryz.func263,Tryz.ntmps263
   go_upto_region 1 with fail
   generalize w.alloc (.cells #[.slice PA pn pc,.slice AA an ac,sv,.int .i64 L,.int .i64 K,.int .i64 G] 178)=w1 at *
   have c0:=hb1.cell
   obtain⟨lo,hi,hsl⟩:=(HN.out w1 hw1).sys
   obtain⟨b,o,s',B,n,c',rfl,_,_,hs',e0,e1,e2,hsx⟩:=hsl.sys hip
   obtain rfl:s=s':=by have:=hs'.out;rw [Hs.out] at this;exact Option.some.inj this
   rw [ha.out] at e0
   have Hnl:=za hsx.1
   have HR:=za (fun W (hW:Ext w1 W)=>hsx.2.ext hW)
   have hnm:=hsx.2.len
   clear e1 hsl hsx
   go_upto_region 6 with (go_at_call 112;with_reducible refine (zaa al l hsm _ (by omega)).mono ?_;rw [Hb.out];rintro e w' ⟨rfl,rfl⟩)
   have hx2:=(Ext.refl w1).alloc (.cells #[] 3)
   have hsz2:w.heap.size≤w1.heap.size:=hw1.size
   have zhT:=World.ownsRow_lit (base:=w1.heap.size) (e:=3) (size:=1) w1 #[] 0 (Nat.le_refl _) (by unfold maxLen;omega) rfl
   have c0':=(hb1.ext hx2).cell
   have e2':=hx2.cell_some e2
   generalize w1.alloc (.cells #[] 3)=w2 at *
   clear c0 e0 e2
   go_wp2_with fail
   go_loopw [9,11] (fun v j wr=>∃ k:Nat,k≤n∧j=.int .i64 k∧wr.ownsRow w1.heap.size 3 1 v (chE (s.edges.take k) q l).length (zaK (chE (s.edges.take k) q l))∧Ext w1 wr) (fun _ j _=>n - (intOf j).toNat)
   case atStart=>exact⟨0,Nat.zero_le _,rfl,zhT,hx2⟩
   case round =>
    clear zhT c0' e2' hx2
    obtain⟨k,hk,rfl,zhJ,hx⟩:=hrel
    by_cases hlt:k<n
    ·obtain⟨b',o',x,rfl,_,_,hxx,d0,d1,d2⟩:=(HR.out wr hx).edge hlt
     obtain⟨⟨f0,f1⟩,⟨l0,l1⟩,⟨t0,t1⟩⟩:=Hf.out x (List.mem_of_getElem? hxx.out)
     have Htk:=za (chE_take hxx.out q l)
     have hck':=H16.out k
     by_cases hfr:x.fr=(q:Int)
     ·by_cases hle:x.le=(l:Int)
      ·obtain⟨t,ht⟩:∃ t:Nat,x.ta=t:=⟨x.ta.toNat,by omega⟩
       rw [hfr] at d0
       rw [hle] at d1
       rw [ht] at d2
       have Htk2:=za (show chE (s.edges.take (k+1)) q l=chE (s.edges.take k) q l++[t] by rw [Htk.out,if_pos ⟨hfr,hle⟩,ht];rfl)
       clear hfr hle f0 f1 l0 l1 t0 t1 ht Htk
       generalize chE (s.edges.take k) q l=cs at *
       go_wp2_with (at_builtin;refine zI w1 wr rfl _ _ _ rfl 3 _ 1 8 Tryz.underlying74 zac rfl (by decide) u9 _ _ _ _ rfl rfl hx zhJ rfl (zbv _) (by unfold maxLen;omega) (by omega) ?_;intro v' w5 hext5 zhV hg5 hat5)
       go_roundw
       case rel=>exact⟨k+1,by omega,by go_num,by rw [Htk2.out,List.length_append,zcQ];exact zhV,hext5⟩
       case measure=>simp [intOf];omega
      ·have hne:(x.le==(l:Int))=false:=by simp;omega
       have Htk2:=za (show chE (s.edges.take (k+1)) q l=chE (s.edges.take k) q l by rw [Htk.out,if_neg (fun h=>hle h.2),List.append_nil])
       rw [hfr] at d0
       clear hfr hle f0 f1 l0 l1 t0 t1 Htk
       go_wp2_with fail
       go_roundw
       case rel=>exact⟨k+1,by omega,by go_num,by rw [Htk2.out];exact zhJ,hx⟩
       case measure=>simp [intOf];omega
     ·have hne:(x.fr==(q:Int))=false:=by simp;omega
      have Htk2:=za (show chE (s.edges.take (k+1)) q l=chE (s.edges.take k) q l by rw [Htk.out,if_neg (fun h=>hfr h.1),List.append_nil])
      clear hfr f0 f1 l0 l1 t0 t1 Htk
      go_wp2_with fail
      go_roundw
      case rel=>exact⟨k+1,by omega,by go_num,by rw [Htk2.out];exact zhJ,hx⟩
      case measure=>simp [intOf];omega
    ·obtain rfl:n=k:=by omega
     have zhM:=za (show wr.ownsRow w.heap.size 3 1 u9 (chE s.edges q l).length (zaK (chE s.edges q l)) by
      rw [List.take_of_length_le (by have:=Hnl.out;omega)] at zhJ
      exact zl zhJ hsz2)
     obtain⟨A5,c5,rfl⟩:=zf zhM.out
     have hxw:=hw1.trans hx
     clear zhJ
     go_wp2
     go_ret
     exact⟨_,_,rfl,zhM.out,hxw⟩
 ·obtain⟨j,hj⟩:∃ j,i=pn+j:=⟨i - pn,by omega⟩
  subst hj
  have hmj:us[j]?.map zeV=some m:=by
   rw [zaS,List.getElem?_append_right (by simp;have:=hpn.out;omega),List.getElem?_map] at hm
   rw [← hm]
   congr 2
   simp;have:=hpn.out;omega
  obtain⟨a,ha,rfl⟩:=Option.map_eq_some_iff.1 hmj
  have hja:j<an:=by rw [han.out];exact (List.getElem?_eq_some_iff.1 ha).1
  have hva:=za (hok.aut a (List.mem_of_getElem? ha))
  have Ha:=za ha
  have Hq:=za (show q<a.next.length from hq)
  clear hm hmj ha hok h hq
  change Calls _ _ _ _ (zbq w [aGo a q l])
  go_enter Tryz.func263,Tryz.ntmps263
  go_upto_region 1 with fail
  generalize w.alloc (.cells #[.slice PA pn pc,.slice AA an ac,sv,.int .i64 L,.int .i64 K,.int .i64 G] 178)=w1 at *
  have c0:=hb1.cell
  obtain⟨lo,hi,hal⟩:=(HN.out w1 hw1).aut
  obtain⟨b,o,a',B,m,c,B',m',c',rfl,ha',e0,e1,e2,hat⟩:=hal.aut hja
  obtain rfl:a=a':=by have:=ha'.out;rw [Ha.out] at this;exact Option.some.inj this
  have hge:¬ ((pn+j:Nat):Int)<(pn:Int):=by omega
  have hsb:((pn+j:Nat):Int) - (pn:Int)=(j:Int):=by omega
  have Hat:=za hat
  clear hal hat
  go_wp2_with (go_at_call 172;with_reducible refine (zcm Hat.out hva.out Hq.out hl).mono ?_;rintro e w5 ⟨rfl,hx5⟩)
  go_ret
  exact ret_one ((hw1.trans hx5).alloc _) (Blk.new _ _ _) ((hw1.trans hx5).size)
end Go.Proofs.YtfcjhpodichpjaaGreatDoor
