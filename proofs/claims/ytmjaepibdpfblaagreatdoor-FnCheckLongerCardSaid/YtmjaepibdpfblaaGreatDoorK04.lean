/- spec.l6Chang -/
import Derived.Test.YtmjaepibdpfblaaGreatDoorK03
import Derived.Test.YtmjaepibdpfblaaGreatDoorK02
import Derived.Test.YtmjaepibdpfblaaGreatDoorK01
import Derived.Deep.DeepCutAuto
namespace Go.Proofs.YtmjaepibdpfblaaGreatDoor
open Go Go.RowKit
set_option maxHeartbeats 4000000
set_option maxRecDepth 100000
theorem pickA {p x:Nat}(h:1≤(p:Int)→(x:Int)<p)(h0:(p:Int)<1→x=0):x<p+1:=by
 rcases Nat.lt_or_ge 0 p with h1|h1
 ·have:=h (by omega);omega
 ·have:=h0 (by omega);omega
theorem e_filledA {R M M' E x y p:Nat} {w2 w4:World}(hb:Blk w4 E 153 #[.int .i64 0,.int .i64 0,.int .i64 0])(hr:Rd w4 R M')(hd:Dr R w2 w4)(hE:w2.heap.size≤E)(hR:R<w2.heap.size)(hx:x<p+1)(hy:y<p+1)(hM:M'≤M) :
  ∃ E' x' y':Nat,Value.pointer (some ⟨E,0,none⟩)=.pointer (some ⟨E',0,none⟩)∧x'<p+1∧y'<p+1∧w2.heap.size≤E'∧Blk (((w4.setCell ⟨E,0,none⟩ (.int .i64 x)).setCell ⟨E,1,none⟩ (.int .i64 0)).setCell ⟨E,2,none⟩ (.int .i64 y)) E' 153 #[.int .i64 x',.int .i64 0,.int .i64 y']∧Rd (((w4.setCell ⟨E,0,none⟩ (.int .i64 x)).setCell ⟨E,1,none⟩ (.int .i64 0)).setCell ⟨E,2,none⟩ (.int .i64 y)) R M∧Dr R w2 (((w4.setCell ⟨E,0,none⟩ (.int .i64 x)).setCell ⟨E,1,none⟩ (.int .i64 0)).setCell ⟨E,2,none⟩ (.int .i64 y)):=by
 have hf:=zdV w4 E (.int .i64 x) (.int .i64 0) (.int .i64 y)
 refine⟨E,x,y,rfl,by omega,by omega,hE,by simpa using ((hb.set_ 0 (.int .i64 x)).set_ 1 (.int .i64 0)).set_ 2 (.int .i64 y),(hr.frm hf (fun k h1 h2=>by omega)).more hM,?_⟩
 exact ((hd.setNew (p:=⟨E,0,none⟩) hE _).setNew (p:=⟨E,1,none⟩) hE _).setNew (p:=⟨E,2,none⟩) hE _
theorem zgZ {R M n c L a p:Nat} {A:Option Addr} {es:List Edg} {w:World}(h:Rd w R M)(hM:M≤900000000)(hs:zbq w R A n ⟨a,p,es⟩)(ha:a<64)(hp:p≤16)(hfew:Few (p+1) es)(hn:n≤L)(hL:L≤100000) :
  Calls Tryz.prog 173 #[.pointer (some ⟨R,0,none⟩),.agg #[.int .i64 a,.int .i64 p,.slice A n c]] w (RetA R (M+10) (L+1) w):=by
 have hRl:=h.lt
 have hr0:=hs.at_.2
 have hen:=za hs.1
 have Hfew:=za hfew
 have hsm:Sm a:=by unfold Sm;omega
 have hx1:Ext w (((w.alloc (.cells #[.int .i64 a,.int .i64 p,.slice A n c] 38)).alloc (.cells #[.int .i64 0,.int .i64 0,.slice none 0 0] 38)).alloc (.cells #[.int .i64 a,.int .i64 p,.slice none 0 0] 38)):=(((Ext.refl _).alloc _).alloc _).alloc _
 obtain⟨bS,bZ,bG⟩:=zO (Ext.refl (((w.alloc (.cells #[.int .i64 a,.int .i64 p,.slice A n c] 38)).alloc (.cells #[.int .i64 0,.int .i64 0,.slice none 0 0] 38)).alloc (.cells #[.int .i64 a,.int .i64 p,.slice none 0 0] 38)))
 have HbS:=za bS
 have HbZ:=za bZ
 have HbG:=za bG
 have Hx1:=za hx1
 clear bS bZ bG hx1 hs hfew
 go_enter Tryz.func173,Tryz.ntmps173
 go_wp2_with fail
 generalize ((w.alloc (.cells #[.int .i64 a,.int .i64 p,.slice A n c] 38)).alloc (.cells #[.int .i64 0,.int .i64 0,.slice none 0 0] 38)).alloc (.cells #[.int .i64 a,.int .i64 p,.slice none 0 0] 38)=w1 at *
 refine (zx (h.ext Hx1.out) (by omega)).mono ?_
 rintro e w2 ⟨gone,rfl,-,-,hr2,hd2⟩
 have hz1:=HbG.out.lt
 have bS2:=HbS.out.dr hd2 (by omega)
 have bZ2:=HbZ.out.dr hd2 (by omega)
 have bG2:=HbG.out.dr hd2 (by omega)
 have hw2:=Hx1.out.dr.trans hd2
 have cS:∀ W,Dr R w2 W→∀ q,W.cell? ⟨w.heap.size,q,none⟩=#[Value.int .i64 a,.int .i64 p,.slice A n c][q]?:=fun W hW=>(bS2.dr hW (by omega)).cell
 go_upto_region 3 with fail
 go_cut [7] (fun s7 wx=>∃ E x y:Nat,s7=.pointer (some ⟨E,0,none⟩)∧x<p+1∧y<p+1∧w2.heap.size≤E∧Blk wx E 153 #[.int .i64 x,.int .i64 0,.int .i64 y]∧Rd wx R (M+3)∧Dr R w2 wx)
 case first =>
  refine tR (fun X=>Dr R w2 X) [10] (Ord.app [0,1,2,4,5,6] (Ord.two 3 (Ord.two 7 (Ord.of [8,9,10]) 9 (Ord.of [7,8,10])) 9 (Ord.of [3,7,8,10]))) ?_
  refine tQ ?_
  refine zfm rfl rfl rfl rfl (fun K hK=>?_) (fun K hK=>?_)
  ·go_simp
   refine (zx (n:=p) (hr2.ext ((Ext.refl _).drew)) (by omega)).mono ?_
   rintro e w3 ⟨x,rfl,hx,hx0,hr3,hd3⟩
   have hd23:Dr R w2 w3:=((Dr.refl R w2).drew).trans hd3
   refine hK.out _ _ hd23 ?_
   refine pT ?_
   refine zfm rfl rfl rfl rfl (fun K hK=>?_) (fun K hK=>?_)
   ·go_simp
    refine (zx (n:=p) hr3 (by omega)).mono ?_
    rintro e w4 ⟨y,rfl,hy,hy0,hr4,hd4⟩
    have hd24:=hd23.trans hd4
    refine hK.out _ _ hd24 ?_
    refine pT ?_
    refine tQ ?_
    (refine zA rfl rfl rfl (fun K hK=>?_);go_simp)
    refine hK.out _ _ (hd24.alloc _) ?_
    refine pT ?_
    refine tQ ?_
    (refine zL rfl rfl rfl rfl (fun K hK=>?_))
    go_simp
    refine hK.out _ _ ?_
    refine zaj ?_
    go_wp2_with fail
    go_meet
    exact⟨w4.heap.size,x,y,rfl,by omega,by omega,hd24.size,Blk.new _ _ _,hr4.ext ((Ext.refl _).alloc _),hd24.alloc _⟩
   ·go_simp
    have hx3:=(Ext.refl w3).alloc (.cells #[.int .i64 0,.int .i64 0,.int .i64 0] 153)
    have hb3:=Blk.new w3 153 #[.int .i64 0,.int .i64 0,.int .i64 0]
    have hd23':=hd23.ext hx3
    have hr3':=hr3.ext hx3
    have hRw:=hr3.lt
    refine hK.out _ _ hd23' ?_
    generalize w3.alloc (.cells #[.int .i64 0,.int .i64 0,.int .i64 0] 153)=w3' at *
    refine pT ?_
    (refine zA rfl rfl rfl (fun K hK=>?_);go_simp)
    refine (zx (n:=p) hr3' (by omega)).mono ?_
    rintro e w4 ⟨y,rfl,hy,hy0,hr4,hd4⟩
    have hd24:=hd23'.trans hd4
    have hb4:=hb3.dr hd4 (by omega)
    refine hK.out _ _ hd24 ?_
    refine pT ?_
    refine tQ ?_
    have cE:=hb4.cell
    have fE:=hb4.frozen
    (refine zL rfl rfl rfl rfl (fun K hK=>?_))
    go_simp
    refine hK.out _ _ ?_
    refine zaj ?_
    go_wp2_with fail
    go_meet
    exact e_filledA hb4 hr4 hd24 hd23.size hr2.lt (pickA hx hx0) (pickA hy hy0) (by omega)
  ·go_simp
   have hx2:=((Ext.refl w2).alloc (.cells #[.int .i64 0,.int .i64 0,.int .i64 0] 153)).drew
   have hb2:Blk (w2.alloc (.cells #[.int .i64 0,.int .i64 0,.int .i64 0] 153)).drew w2.heap.size 153 #[.int .i64 0,.int .i64 0,.int .i64 0]:=Blk.new w2 _ _
   have hr2':=hr2.ext hx2
   have hRw:=hr2.lt
   have hd22:Dr R w2 (w2.alloc (.cells #[.int .i64 0,.int .i64 0,.int .i64 0] 153)).drew:=hx2.dr
   refine hK.out _ _ hd22 ?_
   generalize (w2.alloc (.cells #[.int .i64 0,.int .i64 0,.int .i64 0] 153)).drew=w2' at *
   refine pT ?_
   (refine zA rfl rfl rfl (fun K hK=>?_);go_simp)
   refine (zx (n:=p) hr2' (by omega)).mono ?_
   rintro e w3 ⟨x,rfl,hx,hx0,hr3,hd3⟩
   have hd23:=hd22.trans hd3
   have hb3:=hb2.dr hd3 (by omega)
   refine hK.out _ _ hd23 ?_
   refine pT ?_
   (refine zA rfl rfl rfl (fun K hK=>?_);go_simp)
   refine (zx (n:=p) hr3 (by omega)).mono ?_
   rintro e w4 ⟨y,rfl,hy,hy0,hr4,hd4⟩
   have hd24:=hd23.trans hd4
   have hb4:=hb3.dr hd4 (by omega)
   refine hK.out _ _ hd24 ?_
   refine pT ?_
   refine tQ ?_
   have cE:=hb4.cell
   have fE:=hb4.frozen
   (refine zL rfl rfl rfl rfl (fun K hK=>?_))
   go_simp
   refine hK.out _ _ ?_
   refine zaj ?_
   go_wp2_with fail
   go_meet
   exact e_filledA hb4 hr4 hd24 (Nat.le_refl _) hRw (pickA hx hx0) (pickA hy hy0) (by omega)
 case rest =>
  obtain⟨E,x,y,rfl,hx,hy,hE,hbE,hr3,hd3⟩:=hcut
  have hw3:=hw2.trans hd3
  have bS3:=bS2.dr hd3 (by omega)
  have bZ3:=bZ2.dr hd3 (by omega)
  have bG3:=bG2.dr hd3 (by omega)
  have hz2:=bG2.lt
  clear cS
  have cS:=bS3.cell
  go_wp2_with fail
  refine (zV a hsm _).mono ?_
  rintro e w4 ⟨B,d,rfl,hown4,hx4⟩
  have hw4:=hw3.ext hx4
  have bS4:=bS3.ext hx4
  have bZ4:=bZ3.ext hx4
  have bG4:=bG3.ext hx4
  have bE4:=hbE.ext hx4
  have hr4:=hr3.ext hx4
  have hE3:=hbE.lt
  have hl6:=zC a 6
  have hlm:=za (fun k (hk:k∈letters a 6)=>(zbT.1 hk).1)
  have hrd4:=(Reads.of_own hown4)
  have hz23:=hd3.size
  have hz34:=hx4.size
  have hRz:=hr2.lt
  clear cS hown4 hx4 bS3 bZ3 bG3 hbE hr3 hw3 HbS HbZ HbG Hx1 bS2 bZ2 bG2 hw2 hr2
  generalize letters a 6=ls at *
  go_upto_region 5 with fail
  go_cut [9] (fun s9 wx=>∃ b:Bool,s9=.bool b∧(b=true→0<ls.length)∧Rd wx R (M+4)∧Dr R w4 wx)
  case first =>
   by_cases hl:0<ls.length
   ·go_wp2_with fail
    refine (zx hr4 (by omega)).mono ?_
    rintro e w5 ⟨z,rfl,-,-,hr5,hd5⟩
    go_wp2_with fail
    go_meet
    exact⟨_,rfl,fun _=>hl,hr5,hd5⟩
   ·go_wp2_with fail
    go_meet
    exact⟨false,rfl,fun h=>by (first|cases h|omega),hr4.more (by omega),Dr.refl _ _⟩
  case rest =>
   obtain⟨b,rfl,hbl,hr5,hd5⟩:=hcut
   go_upto_if 42 with fail
   go_cut [] (fun wx=>∃ l:Nat,l<6∧Blk wx E 153 #[.int .i64 x,.int .i64 l,.int .i64 y]∧Blk wx w.heap.size 38 #[.int .i64 a,.int .i64 p,.slice A n c]∧Blk wx (w.heap.size+1) 38 #[.int .i64 0,.int .i64 0,.slice none 0 0]∧Blk wx (w.heap.size+1+1) 38 #[.int .i64 a,.int .i64 p,.slice none 0 0]∧Rd wx R (M+5)∧Dr R w wx)
   case first =>
    have bS5:=bS4.dr hd5 (by omega)
    have bZ5:=bZ4.dr hd5 (by omega)
    have bG5:=bG4.dr hd5 (by omega)
    have bE5:=bE4.dr hd5 (by omega)
    have hw5:=hw4.trans hd5
    clear bS4 bZ4 bG4 bE4 hw4 hr4
    cases b
    ·go_wp2_with fail
     go_meet
     exact⟨0,by omega,bE5,bS5,bZ5,bG5,hr5.more (by omega),hw5⟩
    ·have hl0:=hbl rfl
     have hl1:(1:Int)≤(ls.length:Int):=by omega
     clear hbl
     go_wp2_with fail
     refine (zx hr5 (by omega)).mono ?_
     rintro e w6 ⟨z,rfl,hz,-,hr6,hd6⟩
     have hzl:=hz hl1
     have hzl':z<ls.length:=by omega
     obtain⟨ad,l,rfl,_,_,hl,hlc⟩:=((hrd4.dr hd5 (by omega)).dr hd6 (by omega)).nat hzl'
     have hl6':=hlm.out l (List.mem_of_getElem? hl.out)
     have bS6:=bS5.dr hd6 (by omega)
     have bZ6:=bZ5.dr hd6 (by omega)
     have bG6:=bG5.dr hd6 (by omega)
     have bE6:=bE5.dr hd6 (by omega)
     have hw6:=hw5.trans hd6
     have cE:=bE6.cell
     have fE:=bE6.frozen
     have hf:=Frm.setCell w6 E 1 (.int .i64 (l:Nat))
     clear hz bS5 bZ5 bG5 bE5 hw5
     go_wp2_with fail
     go_meet
     exact⟨l,hl6',by simpa using bE6.set_ 1 (.int .i64 (l:Nat)),bS6.frm hf (by omega),bZ6.frm hf (by omega),bG6.frm hf (by omega),(hr6.frm hf (fun k h1 h2=>by omega)),hw6.setNew (by dsimp only;omega) _⟩
   case rest =>
    obtain⟨l,hl,bE,bS,bZ,bG,hrB,hdB⟩:=hcut
    clear bS4 bZ4 bG4 bE4 hw4 hr4 hd5 hr5 hlm hrd4 hl6 hbl
    obtain⟨wB,hwB⟩:∃ wB,wB=wc:=⟨_,rfl⟩
    subst hwB
    have zim:Acc w wB wB R (w.heap.size+1+1) (M+5) a p (.slice none 0 0) []:=⟨bG,World.ownsRow_nil _ _ _ _,hrB,hdB,Frm.refl _ _,hRl,hdB.size,by omega⟩
    have hEz:=bE.lt
    have hSz:=bG.lt
    clear bG
    go_wp2_with fail
    go_loopw [9,10] (fun v i wr=>∃ (b:Bool) (k:Nat),k≤n∧i=.int .i64 k∧v=.bool b∧∃ (u:Value) (fs:List Edg),Acc w wB wr R (w.heap.size+1+1) (M+5) a p u fs∧fs.length+b.toNat≤k+1∧Hid (Few (p+1) fs)) (fun _ i _=>n - (intOf i).toNat)
    case atStart=>exact⟨b,0,Nat.zero_le _,rfl,rfl,_,[],zim,by cases b<;>decide,few_nil (p+1)⟩
    case round =>
     clear zim
     obtain⟨b,k,hk,rfl,rfl,u,fs,zim,hlen,hfw⟩:=hrel
     have bS1:=bS.frm zim.fr (by omega)
     have bE1:=bE.frm zim.fr (by omega)
     have cS:=bS1.cell
     have hxyl:(0≤(x:Int)∧(x:Int)<((p+1:Nat):Int))∧(0≤(l:Int)∧(l:Int)<6)∧(0≤(y:Int)∧(y:Int)<((p+1:Nat):Int)):=by omega
     by_cases hlt:k<n
     ·obtain⟨b0,o0,ed,rfl,hlo,hhi,he,c0,c1,c2⟩:=(hr0.dr zim.dr (by omega)).edge hlt
      have hedf:=za (Hfew.out ed (List.mem_of_getElem? he.out))
      go_upto_region 11 with fail
      clear cS
      go_cut [67] (fun s wx=>∃ q:Bool,s=.bool q∧(q=true→b=true)∧Ext wr wx)
      case first =>
       have cS:=bS1.cells
       have cE:=bE1.cells
       have C0:∀ W,Ext wr W→W.cell? ⟨b0,o0+k*3,none⟩=some (.int .i64 ed.fr):=fun W hW=>hW.cell_some c0
       have C1:∀ W,Ext wr W→W.cell? ⟨b0,o0+k*3+1,none⟩=some (.int .i64 ed.le):=fun W hW=>hW.cell_some c1
       have C2:∀ W,Ext wr W→W.cell? ⟨b0,o0+k*3+2,none⟩=some (.int .i64 ed.ta):=fun W hW=>hW.cell_some c2
       have hww:=Ext.refl wr
       cases b
       ·go_wp2_with fail
        go_quiet (fail)
        go_wp2_with fail
        go_meet
        exact⟨false,rfl,fun h=>h,(Ext.refl _).drewN _⟩
       ·go_wp2_with fail
        go_region_held3 (fun W=>Ext wr W) (first|assumption|(refine Ext.drew ?_;assumption)|(refine Ext.trans ?_ (by assumption);assumption)|(refine Ext.trans ?_ (by assumption);refine Ext.drew ?_;assumption)) ((go_at_call 251;refine (zdr (a:=⟨x,l,y⟩) (b:=ed)).mono ?_;rintro e w5 ⟨rfl,hx5⟩))
        go_wp2_with fail
        go_meet
        exact⟨_,rfl,fun _=>by trivial,by assumption⟩
      case rest =>
       obtain⟨q,rfl,hq,hxc⟩:=hcut
       replace zim:=zim.ext hxc
       replace bE1:=bE1.ext hxc
       go_upto_if 67 with fail
       go_cut [9] (fun s9 wx=>∃ (b:Bool) (u:Value) (fs:List Edg),s9=.bool b∧Acc w wB wx R (w.heap.size+1+1) (M+5) a p u fs∧fs.length+b.toNat≤k+1∧Hid (Few (p+1) fs))
       case first =>
        cases q
        ·go_wp2_with fail
         go_meet
         exact⟨b,u,fs,rfl,zim,hlen,hfw⟩
        ·obtain rfl:=hq rfl
         have cG:=zim.blk.cell
         have cE:=bE1.cell
         simp only [Bool.toNat_true] at hlen
         clear hq
         go_wp2_with (at_builtin;refine zX wB _ rfl _ _ _ rfl 153 _ 3 24 Tryz.underlying36 zbg rfl (by decide) u fs.length (zu fs) _ _ rfl rfl zim.fr.size zim.own rfl (by simp [Value.oneCell']) (by unfold maxLen;omega) (by omega) ?_;intro g cap w3 zix hg3 hat3 hlt3;obtain⟨h1,h2,h3⟩:=zim.push (e:=⟨x,l,y⟩) zix hg3 hat3;have h1':=h1.out)
         go_meet
         exact⟨false,_,_,rfl,h3,by simp;omega,zfY hfw.out hxyl⟩
       case rest =>
        clear zim hlen hfw bS1 bE1 c0 c1 c2 hxc hq
        obtain⟨b,u,fs,rfl,zim,hlen,hfw⟩:=hcut
        obtain⟨wr,hwr⟩:∃ wr,wr=wc:=⟨_,rfl⟩
        subst hwr
        have bS1:=bS.frm zim.fr (by omega)
        have bE1:=bE.frm zim.fr (by omega)
        obtain⟨c0,c1,c2⟩:=(hr0.dr zim.dr (by omega)).edge2 he.out
        go_upto_region 14 with fail
        go_cut [83] (fun s wx=>∃ q:Bool,s=.bool q∧Ext wr wx)
        case first =>
         have cS:=bS1.cells
         have cE:=bE1.cells
         have C0:∀ W,Ext wr W→W.cell? ⟨b0,o0+k*3,none⟩=some (.int .i64 ed.fr):=fun W hW=>hW.cell_some c0
         have C1:∀ W,Ext wr W→W.cell? ⟨b0,o0+k*3+1,none⟩=some (.int .i64 ed.le):=fun W hW=>hW.cell_some c1
         have C2:∀ W,Ext wr W→W.cell? ⟨b0,o0+k*3+2,none⟩=some (.int .i64 ed.ta):=fun W hW=>hW.cell_some c2
         have hww:=Ext.refl wr
         cases b
         ·go_wp2_with fail
          go_quiet (fail)
          go_wp2_with fail
          go_meet
          exact⟨false,rfl,(Ext.refl _).drewN _⟩
         ·go_wp2_with fail
          refine sR (fun X=>Ext wr X) [0,1,2,3,4,5,6,7,8,9] (fun hS=>?_)
          refine sQ ?_
          have HE:=eq_edge (x:Int) (l:Int) (y:Int) ed.fr ed.le ed.ta
          refine seq_read (v:=.bool (((x:Int)==ed.fr)&&(((l:Int)==ed.le)&&((y:Int)==ed.ta)))) rfl rfl rfl (fun X hX=>?_) (by assumption) ?_
          ·go_simp
          ·clear HE
           refine pT ?_
           generalize (((x:Int)==ed.fr)&&(((l:Int)==ed.le)&&((y:Int)==ed.ta)))=q
           refine sQ ?_
           refine zch ?_
           go_wp2_with fail
           go_meet
           exact⟨_,rfl,(Ext.refl _).drew⟩
        case rest =>
         obtain⟨q,rfl,hxc⟩:=hcut
         replace zim:=zim.ext hxc
         replace bS1:=bS1.ext hxc
         replace c0:=hxc.cell_some c0
         replace c1:=hxc.cell_some c1
         replace c2:=hxc.cell_some c2
         clear bE1 hxc
         go_upto_if 83 with fail
         go_cut [9] (fun s9 wx=>∃ b':Bool,s9=.bool b'∧b'.toNat≤b.toNat∧wc=wx)
         case first =>
          cases q
          ·go_wp2_with fail
           go_meet
           exact⟨b,rfl,Nat.le_refl _,rfl⟩
          ·go_wp2_with fail
           go_meet
           exact⟨false,rfl,Nat.zero_le _,rfl⟩
         case rest =>
          obtain⟨b',rfl,hbb,hwc⟩:=hcut
          subst hwc
          by_cases hgo:k=gone
          ·have hne:((k:Int) != (gone:Int))=false:=by simp [hgo]
           have Hgo:=za hgo
           clear hgo
           go_wp2_with fail
           go_roundw
           case rel=>exact⟨b',k+1,by omega,by go_num,rfl,u,fs,zim,by omega,hfw⟩
           case measure=>simp [intOf];omega
          ·have hne:((k:Int) != (gone:Int))=true:=by simp;omega
           clear hgo
           obtain⟨wr,hwr⟩:∃ wr,wr=wc:=⟨_,rfl⟩
           subst hwr
           have cS:=bS1.cells
           have cG:∀ W,Ext wr W→∀ q,W.cell? ⟨w.heap.size+1+1,q,none⟩=#[Value.int .i64 a,.int .i64 p,u][q]?:=fun W hW=>(zim.blk.ext hW).cell
           have C0:∀ W,Ext wr W→W.cell? ⟨b0,o0+k*3,none⟩=some (.int .i64 ed.fr):=fun W hW=>hW.cell_some c0
           have C1:∀ W,Ext wr W→W.cell? ⟨b0,o0+k*3+1,none⟩=some (.int .i64 ed.le):=fun W hW=>hW.cell_some c1
           have C2:∀ W,Ext wr W→W.cell? ⟨b0,o0+k*3+2,none⟩=some (.int .i64 ed.ta):=fun W hW=>hW.cell_some c2
           go_wp2_with fail
           refine tR (fun X=>Ext wr X) [8,10] (Ord.of [0,1,2,3,4,5,6,7,8,9,10]) ?_
           refine tQ ?_
           (refine zA rfl rfl rfl (fun K hK=>?_);go_simp)
           refine hK.out _ _ ((Ext.refl _).drew.alloc _) ?_
           refine pT ?_
           (refine zL rfl rfl rfl rfl (fun K hK=>?_))
           refine zaG wB wr.drew _ _ _ rfl 153 _ 3 24 Tryz.underlying36 zbg rfl (by decide) u fs.length (zu fs) _ _ rfl rfl zim.fr.size zim.own rfl (by simp [Value.oneCell']) (by unfold maxLen;omega) (by omega) ?_
           intro g cap w3 zix hg3 hat3 hlt3
           refine hK.out _ _ ?_
           refine pT ?_
           refine tQ ?_
           obtain⟨h1,h2,h3⟩:=(zim.ext ((Ext.refl _).drew)).push (e:=ed) (W':=w3) zix hg3 hat3
           have h1':=h1.out
           (refine zL rfl rfl rfl rfl (fun K hK=>?_))
           go_simp
           refine hK.out _ _ ?_
           refine zaj ?_
           go_wp2_with fail
           go_roundw
           case rel=>exact⟨b',k+1,by omega,by go_num,rfl,_,_,h3,by simp;omega,zfY hfw.out hedf.out⟩
           case measure=>simp [intOf];omega
     ·obtain rfl:k=n:=by omega
      go_upto_if 97 with fail
      go_cut [] (fun wx=>∃ (u:Value) (fs:List Edg),Acc w wB wx R (w.heap.size+1+1) (M+5) a p u fs∧fs.length≤k+1∧Hid (Few (p+1) fs))
      case first =>
       cases b
       ·go_wp2_with fail
        go_meet
        exact⟨u,fs,zim,by simpa using hlen,hfw⟩
       ·have cG:=zim.blk.cell
        have cE:=bE1.cell
        simp only [Bool.toNat_true] at hlen
        go_wp2_with (at_builtin;refine zX wB _ rfl _ _ _ rfl 153 _ 3 24 Tryz.underlying36 zbg rfl (by decide) u fs.length (zu fs) _ _ rfl rfl zim.fr.size zim.own rfl (by simp [Value.oneCell']) (by unfold maxLen;omega) (by omega) ?_;intro g cap w3 zix hg3 hat3 hlt3;obtain⟨h1,h2,h3⟩:=zim.push (e:=⟨x,l,y⟩) zix hg3 hat3;have h1':=h1.out)
        go_meet
        exact⟨_,_,h3,by simp;omega,zfY hfw.out hxyl⟩
      case rest =>
       clear zim hlen hfw cS bS1 bE1
       obtain⟨u,fs,zim,hlen,hfw⟩:=hcut
       obtain⟨A',n',c',rfl⟩:=zim.form
       obtain⟨rfl,_⟩:=zim.reads
       have hcap:=zhM zim.own
       have cG:=zim.blk.cell
       have bz2:=bZ.frm zim.fr (by omega)
       have cz:=bz2.cell
       have hzz:=bZ.lt
       have fz:=bz2.frozen
       obtain⟨f1,f2,f3⟩:=zim.fin (Z:=w.heap.size+1) (by omega) (by omega) (.int .i64 a) (.int .i64 p) (.slice A' fs.length c')
       have Hfin:=za (show RetA R (M+10) (L+1) w (.returned (.agg #[.int .i64 a,.int .i64 p,.slice A' fs.length c'])) _ from ⟨⟨a,p,fs⟩,A',fs.length,c',rfl,f1,by omega,f2.more (by omega),f3⟩)
       clear f1 f2 f3
       go_wp2_with fail
       exact bodyPost_ret (v:=.agg #[.int .i64 a,.int .i64 p,.slice A' fs.length c']) (by simp [results,Tryz.results173,go_sem,cz]) rfl Hfin.out
theorem zes {R M n c L:Nat} {A:Option Addr} {s:Sys} {w:World}(h:Rd w R M)(hM:M≤900000000)(hs:zbq w R A n s)(hf:Fair s)(hn:n≤L)(hL:L≤100000) :
  Calls Tryz.prog 173 #[.pointer (some ⟨R,0,none⟩),.agg #[.int .i64 s.al,.int .i64 s.st,.slice A n c]] w (RetA R (M+10) (L+1) w):=by
 obtain⟨al,st,es⟩:=s
 obtain⟨a,p,h1,h2,h3,h5,h6⟩:=hf
 simp only at h1 h3 h6
 subst h1;subst h3
 exact zgZ h hM hs h2 h5 h6 hn hL
theorem yK04a1 {P:Prop}(h:P:=by
 go_wp2_with (at_builtin;refine zQ w wr rfl _ _ _ rfl 9 _ 1 16 Tryz.underlying100 zo rfl (by decide) u5 _ _ _ _ rfl rfl zin zil rfl (zcb _) (by unfold maxLen;omega) (by omega) ?_;intro v' w1 hext1 ziv hg1 hat1)
 go_roundw
 case rel=>exact⟨k+1,k+1,l++[s.extract m k],by omega,by go_num,by omega,by go_num,by simp;omega,by simpa [zW] using ziv,hall.out,by assumption⟩
 case measure=>simp [intOf];omega
 ):P:=h
theorem spec_l19CutC {s:ByteArray} {w:World}(hs:s.size≤1000000) :
  Calls Tryz.prog 244 #[.string s,.int .u8 44] w (RetStrs s.size (s.size+1) w):=by
 go_enter Tryz.func244,Tryz.ntmps244
 go_wp2_with fail
 go_loopw [5,6,7] (fun v f i wr=>∃ (k m:Nat) (l:List ByteArray),k≤s.size+1∧i=.int .i64 k∧m≤k∧f=.int .i64 m∧l.length≤k∧wr.ownsRow w.heap.size 9 1 v l.length (zW l)∧Hid (∀ x∈l,x.size≤s.size)∧Ext w wr) (fun _ _ i _=>s.size+1 - (intOf i).toNat)
 case atStart=>exact⟨0,0,[],Nat.zero_le _,rfl,Nat.le_refl _,rfl,Nat.le_refl _,World.ownsRow_lit w #[] 0 (Nat.le_refl _) (by unfold maxLen;omega) rfl,(fun x hx=>by cases hx),(Ext.refl _).alloc _⟩
 case round =>
  obtain⟨k,m,l,hk,rfl,hm,rfl,hl,zil,hlx,zin⟩:=hrel
  by_cases hle:k≤s.size
  ·have hle':(k:Int)≤(s.size:Int):=by omega
   have hm':(m:Int)≤(k:Int):=by omega
   have hex:=za (show (s.extract m k).size≤s.size by rw [ByteArray.size_extract];omega)
   have hall:=za (show ∀ x∈l++[s.extract m k],x.size≤s.size from fun x hx=>by
    rcases List.mem_append.1 hx with h1|h1
    ·exact hlx.out x h1
    ·rw [List.mem_singleton.1 h1];exact hex.out)
   by_cases he:k=s.size
   ·have heq:((k:Int)==(s.size:Int))=true:=by simp [he]
    have He:=za he
    clear he
    exact yK04a1
   ·have heq:((k:Int)==(s.size:Int))=false:=by rw [beq_eq_false_iff_ne];omega
    have hlt:k<s.size:=by omega
    have hb:=zcf s k hlt
    cases hc:((s[k].toNat:Int)==44)
    ·go_wp2_with fail
     go_roundw
     case rel=>exact⟨k+1,m,l,by omega,by go_num,by omega,rfl,by omega,zil,hlx,zin⟩
     case measure=>simp [intOf];omega
    ·exact yK04a1
  ·obtain rfl:k=s.size+1:=by omega
   obtain⟨A,c,rfl⟩:=zg zil
   go_wp2_with fail
   go_ret
   exact⟨A,_,c,l,rfl,rfl,zil,hlx.out,by omega,zin⟩
def RetIntsS (N:Nat) (w:World) (e:Ending) (w':World):Prop:=∃ (A:Option Addr) (n c:Nat) (l:List Int) (ok:Bool),e=.returned (.tuple #[.slice A n c,.bool ok])∧n=l.length∧w'.ownsRow w.heap.size 3 1 (.slice A n c) n (ints l)∧n≤N∧Ext w w'
theorem spec_l3Parse {s:ByteArray} {w:World}(hs:s.size≤1000) :
  Calls Tryz.prog 249 #[.string s] w (RetIntsS (s.size+1) w):=by
 have h0:=World.ownsRow_lit (base:=w.heap.size) (e:=3) (size:=1) w #[] 0 (Nat.le_refl _) (by unfold maxLen;omega) rfl
 have hx1:=(Ext.refl w).alloc (.cells #[] 3)
 go_enter Tryz.func249,Tryz.ntmps249
 go_upto_region 2 with fail
 obtain⟨K,hK⟩:∃ K,Hid (K=w.heap.size):=⟨_,za rfl⟩
 rw [← hK.out] at h0 ⊢
 generalize w.alloc (.cells #[] 3)=w1 at *
 cases he:s.toList.isEmpty
 ·go_wp2_with fail
  refine (spec_l19CutC (s:=s) (by omega)).mono ?_
  rintro e w2 ⟨B,m,d,l,rfl,hml,ziw,hlx,hm,hx2⟩
  have hw2:=hx1.trans hx2
  have h02:=zh h0 hx2
  have Hlx:=za hlx
  have Hml:=za hml
  have hm1:m≤s.size+1:=hm
  clear hlx hml h0 he hm
  go_wp2_with fail
  go_loopw [4,6] (fun v iv wr=>∃ (k:Nat) (ls:List Int),k≤m∧iv=.int .i64 (k:Nat)∧wr.ownsRow K 3 1 v k (ints ls)∧Hid (ls.length=k)∧wr.ownsRow w1.heap.size 9 1 (.slice B m d) m (zW l)∧Ext w wr) (fun _ iv _=>m - (intOf iv).toNat)
  case atStart=>exact⟨0,[],Nat.zero_le _,rfl,h02,za rfl,ziw,hw2⟩
  case round =>
   clear h02 ziw hw2 hx2
   obtain⟨k,ls,hk,rfl,hv,hll,hstr,hw⟩:=hrel
   obtain⟨A5,c5,rfl⟩:=zg hv
   by_cases hlt:k<m
   ·obtain⟨gB,rfl,-,-⟩:=zae hstr (by omega)
    obtain⟨ad,xk,hae,-,-,hxk,hck⟩:=(Reads.of_own hstr).str hlt
    obtain rfl:=Option.some.inj hae
    rw [zT,Nat.zero_add] at hck
    have hbk:=za (Hlx.out xk (List.mem_of_getElem? hxk.out))
    go_wp2_with fail
    refine (zdp (s:=xk) (by have:=hbk.out;omega)).mono ?_
    rintro e w3 ⟨x,ok,rfl,rfl⟩
    cases ok
    ·go_wp2_with fail
     exact bodyPost_ret (v:=.tuple #[.slice none 0 0,.bool false]) (by simp [results,Tryz.results249,go_sem]) rfl ⟨none,0,0,[],false,rfl,rfl,World.ownsRow_nil _ _ _ _,by omega,hw⟩
    ·have hsz:=hw.size
     go_wp2_with (at_builtin;refine zX w wr rfl _ _ _ rfl 3 _ 1 8 Tryz.underlying137 zY rfl (by decide) (.slice A5 k c5) k (ints ls) _ _ rfl rfl hsz (by rw [← hK.out];exact hv) rfl (by simp [Value.oneCell']) (by unfold maxLen;omega) (by omega) ?_;intro g5 cap5 w5 ziy hg5 hat5 hlt5)
     go_roundw
     case rel=>exact⟨k+1,ls++[x],by omega,by go_num,by rw [hK.out];simpa [ints] using ziy,za (by have:=hll.out;simp;omega),zf hstr (Frm.of_grown hg5) (fun b hb hS=>zaS hstr hv (by decide) hb hS),hw.grown hg5 (fun j hj=>by have:=(hv.lt j hj).1;have:=hK.out;omega)⟩
     case measure=>simp [intOf];omega
   ·obtain rfl:k=m:=by omega
    go_wp2_with fail
    exact bodyPost_ret (v:=.tuple #[.slice A5 k c5,.bool true]) (by simp [results,Tryz.results249,go_sem]) rfl ⟨A5,k,c5,ls,true,rfl,hll.out.symm,by rw [← hK.out];exact hv,hm1,hw⟩
 ·go_wp2_with fail
  exact bodyPost_ret (v:=.tuple #[.slice (some ⟨K,0,none⟩) 0 0,.bool true]) (by simp [results,Tryz.results249,go_sem]) rfl ⟨some ⟨w.heap.size,0,none⟩,0,0,[],true,by rw [hK.out],rfl,by rw [hK.out] at h0;exact h0,by omega,hx1⟩
def zhO (k n:Nat) (row:List Int):Bool:=decide (row.length=k)&&row.all fun q=>decide (0≤q∧q<n)
def zi (a:Aut):Bool:=
 decide (0≤a.al∧a.al≤63)&&(decide (1≤a.next.length∧a.next.length≤12)&&(decide (a.acc.length=a.next.length)&&a.next.all (zhO (letters a.al.toNat 6).length a.next.length)))
theorem zhq (lo hi:Nat) (A:Option Addr) (n c:Nat) (l:List Int) (k m:Nat) (w:World)(h:Reads w lo hi 1 A n (ints l))(hk:k≤100) (_hm:m≤100) :
  Calls Tryz.prog 258 #[.slice A n c,.int .i64 k,.int .i64 m] w fun e w'=>e=.returned (.bool (zhO k m l))∧w=w':=by
 have hn:=h.len
 have hl:l.length=n:=by have:=h.length;rw [zdk] at this;omega
 have Hl:=za hl
 clear hl
 by_cases he:n=k
 ·subst he
  go_enter Tryz.func258,Tryz.ntmps258
  go_wp2
  go_loop [7] (fun i=>∃ k:Nat,k≤n∧i=.int .i64 k∧Hid ((l.take k).all (fun q=>decide (0≤q∧q<m))=true)) (fun i=>n - (intOf i).toNat)
  case atStart=>exact⟨0,Nat.zero_le _,rfl,rfl⟩
  case round =>
   obtain⟨k,hk,rfl,hall⟩:=hrel
   by_cases hlt:k<n
   ·obtain⟨ad,x,rfl,_,_,hx,hcell⟩:=h.int hlt
    by_cases h0:x<0
    ·go_wp2
     go_ret
     exact⟨zk (by rw [zhO,zaE hx.out (by simp;omega),Bool.and_false]),rfl⟩
    ·by_cases h1:(m:Int)≤x
     ·go_wp2
      go_ret
      exact⟨zk (by rw [zhO,zaE hx.out (by simp;omega),Bool.and_false]),rfl⟩
     ·go_wp2
      go_round
      case rel=>exact⟨k+1,by omega,by go_num,zbY hx.out hall.out (by simp;omega)⟩
      case measure=>simp [intOf];omega
   ·obtain rfl:k=n:=by omega
    go_wp2
    go_ret
    exact⟨zk (by rw [zhO,zdD (by have:=Hl.out;omega) hall.out,Hl.out];simp),rfl⟩
 ·go_enter Tryz.func258,Tryz.ntmps258
  go_wp2
  go_ret
  exact⟨zk (by rw [zhO,Hl.out];simp [he]),rfl⟩
theorem zJ (lo hi:Nat) (A:Option Addr) (n c:Nat) (A':Option Addr) (n' c':Nat) (a:Aut) (w:World)(h:zG w lo hi A n A' n' a) :
  Calls Tryz.prog 186 #[.agg #[.int .i64 a.al,.slice A n c,.slice A' n' c']] w fun e w'=>e=.returned (.bool (zi a))∧Ext w w':=by
 have h1:=h.n1
 have h2:=h.n2
 have Hv:=za (show zi a=(decide (0≤a.al∧a.al≤63)&&(decide (1≤n∧n≤12)&&(decide (n'=n)&&a.next.all (zhO (letters a.al.toNat 6).length n)))) by unfold zi;rw [← h1,← h2])
 have hl1:=h.1.len
 have hl2:=h.2.2.len
 clear h1 h2
 by_cases hal:0≤a.al∧a.al≤63
 ·have hd:=za (show decide (0≤a.al∧a.al≤63)=true by simp;omega)
  by_cases hn:1≤n∧n≤12
  ·have hd1:decide ((n:Int)<1)=false:=by simp;omega
   have hd2:decide (12<(n:Int))=false:=by simp;omega
   by_cases hn':n'=n
   ·subst hn'
    obtain⟨al,hal'⟩:∃ al:Nat,Hid (a.al=al):=⟨a.al.toNat,by unfold Hid;omega⟩
    have hsm:Sm al:=by have:=hal'.out;unfold Sm;omega
    have hll:=zC al 6
    rw [hal'.out]
    rw [hal'.out] at hd
    rw [hal'.out,Int.toNat_natCast] at Hv
    clear hal
    have hR:=fun W (hW:Ext w W)=>h.1.ext hW
    have HR:=za hR
    clear hR
    go_enter Tryz.func186,Tryz.ntmps186
    go_wp2_with (go_at_call 143;refine (zR _ _).mono ?_;rw [hd.out];rintro e w' ⟨rfl,rfl⟩)
    go_loopw [4] (fun i wr=>∃ k:Nat,k≤n'∧i=.int .i64 k∧Hid ((a.next.take k).all (zhO (letters al 6).length n')=true)∧Ext (w.alloc (.cells #[Value.int .i64 al,Value.slice A n' c,Value.slice A' n' c'] 31)) wr)
     (fun i _=>n' - (intOf i).toNat)
    case atStart=>exact⟨0,Nat.zero_le _,rfl,rfl,Ext.refl _⟩
    case round =>
     obtain⟨k,hk,rfl,hall,zin⟩:=hrel
     have hbox:∀ W,Ext wr W→∀ j,W.cell? ⟨w.heap.size,j,none⟩=#[Value.int .i64 al,Value.slice A n' c,Value.slice A' n' c'][j]?:=fun W hW=>zcr (zin.trans hW)
     by_cases hlt:k<n'
     ·obtain⟨ad,Ak,ck,l,rfl,hlo,hhi,hl,hcell,hrk⟩:=(HR.out wr (((Ext.refl _).alloc _).trans zin)).row hlt
      have hce:∀ W,Ext wr W→W.cell? (ad.add k)=some (.slice Ak l.length ck):=fun W hW=>hW.cell_some hcell
      have hwr:=Ext.refl wr
      have zio:∀ W,Ext wr W→Ext w W:=fun W hW=>(((Ext.refl _).alloc _).trans zin).trans hW
      have Hfin:=za zio
      clear zio
      cases hrb:zhO (letters al 6).length n' l
      ·have Hrb:=za hrb
       clear hrb
       go_wp2_with fail
       go_region_held3 (fun W=>Ext wr W) (first|assumption|(refine Ext.drew ?_;assumption)|(refine Ext.trans ?_ (by assumption);assumption)|(refine Ext.trans ?_ (by assumption);refine Ext.drew ?_;assumption)) (first|(go_at_call 135;refine (zV _ hsm _).mono ?_;rintro e w2 ⟨A2,c2,rfl,ziw,hext2⟩)|(go_at_call 258;refine (zhq _ _ _ _ _ _ _ _ _ (hrk.ext ?_) (by omega) (by omega)).mono ?_;assumption;rw [Hrb.out];rintro e w3 ⟨rfl,rfl⟩))
       go_wp2
       go_ret
       exact⟨zk (by rw [Hv.out,zaE hl.out Hrb.out];simp),Hfin.out _ (by assumption)⟩
      ·have Hrb:=za hrb
       clear hrb
       go_wp2_with fail
       go_region_held3 (fun W=>Ext wr W) (first|assumption|(refine Ext.drew ?_;assumption)|(refine Ext.trans ?_ (by assumption);assumption)|(refine Ext.trans ?_ (by assumption);refine Ext.drew ?_;assumption)) (first|(go_at_call 135;refine (zV _ hsm _).mono ?_;rintro e w2 ⟨A2,c2,rfl,ziw,hext2⟩)|(go_at_call 258;refine (zhq _ _ _ _ _ _ _ _ _ (hrk.ext ?_) (by omega) (by omega)).mono ?_;assumption;rw [Hrb.out];rintro e w3 ⟨rfl,rfl⟩))
       go_wp2
       go_roundw
       case rel=>exact⟨k+1,by omega,by go_num,zbY hl.out hall.out Hrb.out,zin.trans (by assumption)⟩
       case measure=>simp [intOf];omega
     ·obtain rfl:k=n':=by omega
      go_wp2
      go_ret
      exact⟨zk (by rw [Hv.out,zdD (by have:=h.n1;omega) hall.out,hd.out];simp;omega),((Ext.refl _).alloc _).trans zin⟩
   ·have hne:((n':Int) != (n:Int))=true:=by simp;omega
    go_enter Tryz.func186,Tryz.ntmps186
    go_wp2_with (go_at_call 143;refine (zR _ _).mono ?_;rw [hd.out];rintro e w' ⟨rfl,rfl⟩)
    go_ret
    exact⟨zk (by rw [Hv.out];simp [hn']),(Ext.refl _).alloc _⟩
  ·go_enter Tryz.func186,Tryz.ntmps186
   go_wp2_with (go_at_call 143;refine (zR _ _).mono ?_;rw [hd.out];rintro e w' ⟨rfl,rfl⟩)
   all_goals go_ret
   all_goals exact⟨zk (by rw [Hv.out];simp [hn]),(Ext.refl _).alloc _⟩
 ·go_enter Tryz.func186,Tryz.ntmps186
  have hd:decide (0≤a.al∧a.al≤63)=false:=by simp;omega
  go_wp2_with (go_at_call 143;refine (zR _ _).mono ?_;rw [hd];rintro e w' ⟨rfl,rfl⟩)
  go_ret
  exact⟨zk (by rw [Hv.out];simp;omega),(Ext.refl _).alloc _⟩
theorem autValid_few {a:Aut}(h:zi a=true):∃ al:Nat,a.al=al∧al<64∧1≤a.next.length∧a.next.length≤12∧a.acc.length=a.next.length∧∀ l∈a.next,l.length=(letters al 6).length∧∀ q∈l,0≤q∧q<a.next.length:=by
 simp only [zi,Bool.and_eq_true,decide_eq_true_eq,List.all_eq_true,zhO] at h
 obtain⟨h1,h2,h3,h4⟩:=h
 refine⟨a.al.toNat,by omega,by omega,h2.1,h2.2,h3,fun l hl=>⟨(h4 l hl).1,fun q hq=>(h4 l hl).2 q hq⟩⟩
def RetFmtA (a:Aut) (w:World) (e:Ending) (w':World):Prop:=∃ t:ByteArray,e=.returned (.string t)∧(zi a=false→t.size=0)∧Ext w w'
theorem zej {lo hi:Nat} {A:Option Addr} {n c:Nat} {A':Option Addr} {n' c':Nat} {a:Aut} {w:World}(h:zG w lo hi A n A' n' a) :
  Calls Tryz.prog 250 #[.agg #[.int .i64 a.al,.slice A n c,.slice A' n' c']] w (RetFmtA a w):=by
 have HV:=za (fun W (hW:Ext w W)=>zJ lo hi A n c A' n' c' a W ⟨h.1.ext hW,h.2.1,h.2.2.ext hW⟩)
 cases h1:zi a
 ·have H1:=za h1
  clear h1 h
  go_enter Tryz.func250,Tryz.ntmps250
  go_wp2_with (go_at_call 186;refine (HV.out _ ((Ext.refl _).alloc _)).mono ?_;rw [H1.out];rintro e w1 ⟨rfl,hx⟩)
  go_ret
  exact⟨_,rfl,fun _=>rfl,((Ext.refl _).alloc _).trans hx⟩
 ·obtain⟨al,ha,ha2,hn1,hn2,hac,hrows⟩:=autValid_few h1
  have H1:=za h1
  have Hn:=za h.n1
  have Hn':=za h.n2
  have Ha:=za ha
  have Hrows:=za hrows
  have HS:=za (fun W (hW:Ext w W)=>h.1.ext hW)
  have HB:=za (fun W (hW:Ext w W)=>h.2.2.ext hW)
  have e1:n=n':=by have:=h.n1;have:=h.n2;omega
  subst e1
  have hnn:n≤12:=by have:=h.n1;omega
  clear h1 ha hn1 hn2 hac hrows h
  go_enter Tryz.func250,Tryz.ntmps250
  go_wp2_with fail
  refine (HV.out _ ((Ext.refl _).alloc _)).mono ?_
  rw [H1.out]
  rintro e w1 ⟨rfl,hx⟩
  have b1:=zbH hx
  rw [Ha.out] at b1
  have hw1:=((Ext.refl w).alloc _).trans hx
  have cb:=b1.cells
  have hr1:=Ext.refl w1
  clear hx
  go_wp2_with fail
  refine (zbx ha2).mono ?_
  rintro e w2 ⟨t2,rfl,ht2,hx2⟩
  go_wp2_with fail
  go_loopw [3,4] (fun v i wr=>∃ (k:Nat) (t:ByteArray),k≤n∧i=.int .i64 k∧v=.string t∧t.size≤20+100*k∧Ext w1 wr) (fun _ i _=>n - (intOf i).toNat)
  case atStart=>exact⟨0,t2,Nat.zero_le _,rfl,rfl,by omega,hx2⟩
  case round =>
   clear hx2 ht2 hr1
   obtain⟨k,t,hk,rfl,rfl,ht,zin⟩:=hrel
   have cb0:=cb wr zin
   by_cases hlt:k<n
   ·obtain⟨ad,Ak,ck,l,rfl,_,_,hl,hc0,hrk⟩:=(HS.out wr (hw1.trans zin)).row hlt
    obtain⟨ad',x,rfl,_,_,-,hb0⟩:=(HB.out wr (hw1.trans zin)).bool hlt
    have hq:=za (Hrows.out l (List.mem_of_getElem? hl.out))
    have hl6:l.length≤6:=by have:=hq.out.1;have:=zC al 6;omega
    have Hrk:=za (fun W (hW:Ext wr W)=>hrk.ext hW)
    have Hcr:=za (fun W (hW:Ext wr W)=>hW.cell_some hc0)
    have Hcb:=za (fun W (hW:Ext wr W)=>cb W (zin.trans hW))
    have hww:=Ext.refl wr
    clear hrk
    go_upto_if 24 with fail
    go_cut [5] (fun s5 wx=>∃ m:ByteArray,s5=.string m∧m.size=2∧Ext wr wx)
    case first =>
     cases x
     ·go_wp2_with fail
      go_meet
      exact⟨{ data:=#[32,45] },rfl,rfl,hww⟩
     ·go_wp2_with fail
      go_meet
      exact⟨{ data:=#[32,43] },rfl,rfl,hww⟩
    case rest =>
     clear hc0 hb0 cb0 hww
     obtain⟨m,rfl,hm2,hwc⟩:=hcut
     obtain⟨wK,hwK⟩:∃ wK,wK=wr:=⟨_,rfl⟩
     rw [← hwK] at Hrk Hcr Hcb hwc zin
     clear hwK
     have q0:¬ 9223372036854775807<t.size+m.size:=by omega
     have hsz:(t++m).size=t.size+2:=by rw [ByteArray.size_append,hm2]
     go_upto_region 11 with fail
     generalize t++m=t1 at *
     clear q0
     go_wp2_with fail
     go_loopw [3,6] (fun v jv wr=>∃ (j:Nat) (t:ByteArray),j≤l.length∧jv=.int .i64 j∧v=.string t∧t.size≤22+100*k+10*j∧Ext wK wr) (fun _ jv _=>l.length - (intOf jv).toNat)
     case atStart=>exact⟨0,t1,Nat.zero_le _,rfl,rfl,by omega,hwc⟩
     case round =>
      clear hwc
      obtain⟨j,t2,hj,rfl,rfl,ht2,hwx⟩:=hrel
      have cb0:=Hcb.out wr hwx
      have hc0:=Hcr.out wr hwx
      by_cases hjl:j<l.length
      ·obtain⟨ad2,q,rfl,-,-,hql,hcq⟩:=(Hrk.out wr hwx).int hjl
       obtain⟨hq0,hq1⟩:=hq.out.2 q (List.mem_of_getElem? hql.out)
       obtain⟨u,rfl⟩:∃ u:Nat,q=u:=⟨q.toNat,by omega⟩
       have hu:u<100:=by have:=Hn.out;omega
       clear hq0 hq1
       go_upto_if 39 with fail
       go_cut [3] (fun s3 wx=>∃ m:ByteArray,s3=.string m∧m.size≤t2.size+1∧wx=wr)
       case first =>
        by_cases hj0:0<j
        ·have hj0':((j:Int)>0):=by omega
         have q1:¬ 9223372036854775807<t2.size+1:=by omega
         go_wp2_with fail
         go_meet
         exact⟨_,rfl,by rw [ByteArray.size_append];exact Nat.le_refl _,rfl⟩
        ·have hj0':¬ ((j:Int)>0):=by omega
         go_wp2_with fail
         go_meet
         exact⟨t2,rfl,by omega,rfl⟩
       case rest =>
        obtain⟨m3,rfl,hm3,rfl⟩:=hcut
        go_wp2_with fail
        refine (zdo (n:=u) hu).mono ?_
        rintro e w4 ⟨t4,rfl,ht4,hx4⟩
        have q2:¬ 9223372036854775807<m3.size+t4.size:=by omega
        go_wp2_with fail
        go_roundw
        case rel=>exact⟨j+1,_,by omega,by go_num,rfl,by rw [ByteArray.size_append];omega,hwx.trans hx4⟩
        case measure=>simp [intOf];omega
      ·obtain rfl:j=l.length:=by omega
       go_wp2_with fail
       go_roundw
       case rel=>exact⟨k+1,t2,by omega,by go_num,rfl,by omega,zin.trans hwx⟩
       case measure=>simp [intOf];omega
   ·obtain rfl:n=k:=by omega
    go_wp2_with fail
    go_ret
    have hv:=H1.out
    exact⟨t,rfl,fun h=>absurd (hv.symm.trans h) (by decide),hw1.trans zin⟩
def RetStrs1 (L N:Nat) (w:World) (e:Ending) (w':World):Prop:=∃ (A:Option Addr) (n c:Nat) (l:List ByteArray),e=.returned (.slice A n c)∧n=l.length∧0<n∧w'.ownsRow w.heap.size 9 1 (.slice A n c) n (zW l)∧(∀ x∈l,x.size≤L)∧n≤N∧Ext w w'
theorem spec_l19Cut1 {s:ByteArray} {w:World}(hs:s.size≤1000000) :
  Calls Tryz.prog 244 #[.string s,.int .u8 32] w (RetStrs1 s.size (s.size+1) w):=by
 go_enter Tryz.func244,Tryz.ntmps244
 go_wp2_with fail
 go_loopw [5,6,7] (fun v f i wr=>∃ (k m:Nat) (l:List ByteArray),k≤s.size+1∧i=.int .i64 k∧m≤k∧f=.int .i64 m∧l.length≤k∧wr.ownsRow w.heap.size 9 1 v l.length (zW l)∧Hid (∀ x∈l,x.size≤s.size)∧Ext w wr∧Hid (s.size<k→0<l.length)) (fun _ _ i _=>s.size+1 - (intOf i).toNat)
 case atStart=>exact⟨0,0,[],Nat.zero_le _,rfl,Nat.le_refl _,rfl,Nat.le_refl _,World.ownsRow_lit w #[] 0 (Nat.le_refl _) (by unfold maxLen;omega) rfl,(fun x hx=>by cases hx),(Ext.refl _).alloc _,za (fun hh=>absurd hh (by omega))⟩
 case round =>
  obtain⟨k,m,l,hk,rfl,hm,rfl,hl,zil,hlx,zin,hpos⟩:=hrel
  by_cases hle:k≤s.size
  ·have hle':(k:Int)≤(s.size:Int):=by omega
   have hm':(m:Int)≤(k:Int):=by omega
   have hex:=za (show (s.extract m k).size≤s.size by rw [ByteArray.size_extract];omega)
   have hall:=za (show ∀ x∈l++[s.extract m k],x.size≤s.size from fun x hx=>by
    rcases List.mem_append.1 hx with h1|h1
    ·exact hlx.out x h1
    ·rw [List.mem_singleton.1 h1];exact hex.out)
   by_cases he:k=s.size
   ·have heq:((k:Int)==(s.size:Int))=true:=by simp [he]
    have He:=za he
    clear he
    go_wp2_with (at_builtin;refine zQ w wr rfl _ _ _ rfl 9 _ 1 16 Tryz.underlying100 zo rfl (by decide) u5 _ _ _ _ rfl rfl zin zil rfl (zcb _) (by unfold maxLen;omega) (by omega) ?_;intro v' w1 hext1 ziv hg1 hat1)
    go_roundw
    case rel=>exact⟨k+1,k+1,l++[s.extract m k],by omega,by go_num,by omega,by go_num,by simp;omega,by simpa [zW] using ziv,hall.out,by assumption,za (fun _=>by simp)⟩
    case measure=>simp [intOf];omega
   ·have heq:((k:Int)==(s.size:Int))=false:=by rw [beq_eq_false_iff_ne];omega
    have hlt:k<s.size:=by omega
    have hb:=zcf s k hlt
    cases hc:((s[k].toNat:Int)==32)
    ·go_wp2_with fail
     go_roundw
     case rel=>exact⟨k+1,m,l,by omega,by go_num,by omega,rfl,by omega,zil,hlx,zin,za (fun hh=>absurd hh (by omega))⟩
     case measure=>simp [intOf];omega
    ·go_wp2_with (at_builtin;refine zQ w wr rfl _ _ _ rfl 9 _ 1 16 Tryz.underlying100 zo rfl (by decide) u5 _ _ _ _ rfl rfl zin zil rfl (zcb _) (by unfold maxLen;omega) (by omega) ?_;intro v' w1 hext1 ziv hg1 hat1)
     go_roundw
     case rel=>exact⟨k+1,k+1,l++[s.extract m k],by omega,by go_num,by omega,by go_num,by simp;omega,by simpa [zW] using ziv,hall.out,by assumption,za (fun _=>by simp)⟩
     case measure=>simp [intOf];omega
  ·obtain rfl:k=s.size+1:=by omega
   obtain⟨A,c,rfl⟩:=zg zil
   go_wp2_with fail
   go_ret
   exact⟨A,_,c,l,rfl,rfl,hpos.out (by omega),zil,hlx.out,by omega,zin⟩
def RetParA (R M L:Nat) (w:World) (e:Ending) (w':World):Prop:=
 ∃ (b:Aut) (A:Option Addr) (n c:Nat) (A':Option Addr) (n' c':Nat) (ok:Bool),e=.returned (.tuple #[.agg #[.int .i64 b.al,.slice A n c,.slice A' n' c'],.bool ok])∧zZ w' w.heap.size A n c A' n' c' b∧Hid (BdA L b)∧Rd w' R M∧Dr R w w'
theorem zhN {R M L Z:Nat} {w W:World}(hR:R<w.heap.size)(h:Rd W R M)(hd:Dr R w W)(hZ:w.heap.size≤Z) :
  Hid (RetParA R M L w (.returned (.tuple #[.agg #[.int .i64 0,.slice none 0 0,.slice none 0 0],.bool false])) (((W.setCell ⟨Z,0,none⟩ (.int .i64 0)).setCell ⟨Z,1,none⟩ (.slice none 0 0)).setCell ⟨Z,2,none⟩ (.slice none 0 0))):=
 za ⟨⟨0,[],[]⟩,none,0,0,none,0,0,false,rfl,⟨⟨[],World.ownsRow_nil _ _ _ _,zI.nil _ _⟩,rfl,World.ownsRow_nil _ _ _ _,rfl⟩,za ⟨Nat.zero_le _,Nat.zero_le _,fun l hl=>by simp at hl⟩,h.frm (zad W Z _ _ _) (fun k hk e=>by omega),((hd.setNew (p:=⟨Z,0,none⟩) hZ _).setNew (p:=⟨Z,1,none⟩) hZ _).setNew (p:=⟨Z,2,none⟩) hZ _⟩
theorem yK04a2 {P:Prop}(h:P:=by
 go_wp2_with fail
 have hfb:=zau bz4 rfl (.int .i64 0) (.slice none 0 0) (.slice none 0 0)
 have cf:=hfb.cell
 exact bodyPost_ret (v:=.tuple #[.agg #[.int .i64 0,.slice none 0 0,.slice none 0 0],.bool false]) (by simp [results,Tryz.results172,go_sem,cf]) rfl hno4.out
 ):P:=h
theorem yK04a3 {P:Prop}(h:P:=by
 have cf:=hfb.cell
 exact bodyPost_ret (v:=.tuple #[.agg #[.int .i64 0,.slice none 0 0,.slice none 0 0],.bool false]) (by simp [results,Tryz.results172,go_sem,cf]) rfl hno.out
 ):P:=h
theorem zeN {R M:Nat} {x:ByteArray} {w:World}(h:Rd w R M)(hx:x.size≤1000) :
  Calls Tryz.prog 172 #[.string x] w (RetParA R M (x.size+1) w):=by
 have hRl:=h.lt
 go_enter Tryz.func172,Tryz.ntmps172
 have hx0:=(Ext.refl w).alloc (.cells #[.int .i64 0,.slice none 0 0,.slice none 0 0] 31)
 have bz:=Blk.new w 31 #[.int .i64 0,.slice none 0 0,.slice none 0 0]
 have hz0:=bz.lt
 go_wp2_with fail
 generalize w.alloc (.cells #[.int .i64 0,.slice none 0 0,.slice none 0 0] 31)=w0 at *
 refine (spec_l19Cut1 (s:=x) (by omega)).mono ?_
 rintro e w1 ⟨B,m,d,l,rfl,hml,hm0,ziv,hlx,hm,hx1⟩
 have Hlx:=za hlx
 have Hml:=za hml
 have hmx:m≤1001:=by omega
 clear hlx hml
 obtain⟨gB,rfl,hgB,-⟩:=zae ziv hm0
 obtain⟨ad,x0,hae,-,-,hx0',hc0⟩:=(Reads.of_own ziv).str (k:=0) hm0
 obtain rfl:=Option.some.inj hae
 rw [zT,Nat.add_zero] at hc0
 have hm0':(0:Int)<(m:Int):=by omega
 go_wp2_with fail
 refine (zcG (x:=x0)).mono ?_
 rintro e w2 ⟨al,ok1,rfl,ha,hx2⟩
 have hw2:=hx1.trans hx2
 have bz2:=bz.ext hw2
 have cz2:=bz2.cell
 have fz2:=bz2.frozen
 have hno:=zhN (L:=x.size+1) (M:=M) (Z:=w.heap.size) hRl (h.ext (hx0.trans hw2)) (hx0.trans hw2).dr (Nat.le_refl _)
 cases ok1
 ·go_wp2_with fail
  have hfb:=zau bz2 rfl (.int .i64 0) (.slice none 0 0) (.slice none 0 0)
  exact yK04a3
 ·have bG:=Blk.new w2 31 #[.int .i64 al,.slice none 0 0,.slice none 0 0]
  have hx3:=(Ext.refl w2).alloc (.cells #[.int .i64 al,.slice none 0 0,.slice none 0 0] 31)
  have hs2:=hw2.size
  have ziw:=zh ziv hx2
  have hcx:=za (show ∀ W,Ext w2 W→Ext w W from fun W hW=>(hx0.trans hw2).trans hW)
  go_upto_region 6 with fail
  have zix:=zh ziw hx3
  have zim:zbt w0 (w2.alloc (.cells #[.int .i64 al,.slice none 0 0,.slice none 0 0] 31)) R w2.heap.size M al (.slice none 0 0) [] [] (.slice none 0 0) []:=⟨bG,World.ownsRow_nil _ _ _ _,zI.nil _ _,World.ownsRow_nil _ _ _ _,(h.ext (hx0.trans hw2)).ext hx3,(hw2.trans hx3).dr,by omega,hs2⟩
  generalize w2.alloc (.cells #[.int .i64 al,.slice none 0 0,.slice none 0 0] 31)=w3 at *
  generalize w2.heap.size=G at *
  clear hno cz2 fz2 hc0 ziw
  go_wp2_with fail
  go_loopw [8] (fun iv wr=>∃ (i:Nat) (v:Value) (rows:List Value) (ls:List (List Int)) (vA:Value) (acc:List Bool),1≤i∧i≤m∧iv=.int .i64 (i:Nat)∧zbt w0 wr R G M al v rows ls vA acc∧Hid (ls.length≤i - 1)∧Hid (acc.length=ls.length)∧Hid (∀ l∈ls,l.length≤x.size+1)∧wr.ownsRow w0.heap.size 9 1 (.slice (some ⟨gB,0,none⟩) m d) m (zW l)) (fun iv _=>m - (intOf iv).toNat)
  case atStart=>exact⟨1,_,_,[],_,[],Nat.le_refl _,hm0,rfl,zim,za (Nat.zero_le _),za rfl,za (fun l hl=>by simp at hl),zix⟩
  case round =>
   clear zim zix
   obtain⟨i,v,rows,ls,vA,acc,hi1,hi,rfl,zim,hln,hal,hlx,hstr⟩:=hrel
   have hno:=zhN (L:=x.size+1) (M:=M) (Z:=w.heap.size) hRl zim.rd (hx0.dr.trans zim.dr) (Nat.le_refl _)
   have bz3:=bz.dr zim.dr (by omega)
   by_cases hlt:i<m
   ·obtain⟨ad,xk,hae,-,-,hxk,hck⟩:=(Reads.of_own hstr).str hlt
    obtain rfl:=Option.some.inj hae
    rw [zT,Nat.zero_add] at hck
    have hbk:=Hlx.out xk (List.mem_of_getElem? hxk.out)
    cases he:xk.toList.isEmpty
    ·have h1k:1≤xk.size:=by
      rcases Nat.eq_zero_or_pos xk.size with h0|h0
      ·rw [ByteArray.toList_eq] at he
       have e2:xk.data.toList.length=xk.size:=rfl
       rw [List.eq_nil_of_length_eq_zero (e2.trans h0)] at he
       cases he
      ·exact h0
     have h1k':(1:Int)≤(xk.size:Int):=by omega
     have hex:(xk.extract 1 xk.size).size≤x.size:=by rw [ByteArray.size_extract];omega
     go_wp2_with fail
     refine (spec_l3Parse (s:=xk.extract 1 xk.size) (by omega)).mono ?_
     rintro e w4 ⟨Ar,nr,cr,lr,ok,rfl,hnr,hor,hnb,hx4⟩
     cases ok
     ·have hno4:=zhN (L:=x.size+1) (M:=M) (Z:=w.heap.size) hRl (zim.rd.ext hx4) ((hx0.dr.trans zim.dr).ext hx4) (Nat.le_refl _)
      have bz4:=bz3.ext hx4
      have cz:=bz4.cell
      have fz:=bz4.frozen
      exact yK04a2
     ·subst hnr
      have hlow:=za zim.low
      have hs1:=za zim.dr.size
      have hacc4:=zim.ext hx4
      have hstr4:=zh hstr hx4
      have cG:=hacc4.blk.cell
      have hs4:=hacc4.dr.size
      have hlm:ls.length≤1001:=by have:=hln.out;omega
      have Hxk:=za hxk.out
      have hno':=hno
      clear zim hstr hck hno hno'
      go_upto_region 15 with (at_builtin;refine zX w0 w4 rfl _ _ _ rfl 137 _ 1 24 Tryz.underlying25 zbJ rfl (by decide) v ls.length rows _ _ rfl rfl hs4 hacc4.nx rfl (zaJ _ _ _) (by unfold maxLen;omega) (by omega) ?_;intro g5 cap5 w6 hown6 hg6 hat6 hlt6;obtain⟨q1,q2,q3⟩:=hacc4.pushRow hlow.out hs1.out hor hown6 hg6 hat6;have q1':=q1.out;have hstr6:=(zf hstr4 (Frm.of_grown hg6) (fun b hb hS=>zaS hstr4 hacc4.nx (by decide) hb hS)))
      have hstr7:=zf hstr6 (Frm.setCell w6 G 1 (.slice (some ⟨g5,0,none⟩) (ls.length+1) cap5)) (fun b hb hS=>by
       have hB6:Blk w6 G 31 #[.int .i64 al,v,vA]:=(hg6.block G hacc4.blk.lt (fun e=>zq hacc4.nx hacc4.blk (by decide) e.symm rfl)).trans hacc4.blk
       exact zq hstr6 hB6 (by decide) hb hS)
      have hln7:=za (show (ls++[lr]).length≤i by have:=hln.out;simp;omega)
      have hal7:=za (show acc.length+1=(ls++[lr]).length by have:=hal.out;simp;omega)
      have hlx7:=za (show ∀ l'∈ls++[lr],l'.length≤x.size+1 from fun l' hl'=>by
       rcases List.mem_append.1 hl' with h1|h1
       ·exact hlx.out l' h1
       ·rw [List.mem_singleton.1 h1];omega)
      clear q1 q1' q2 hown6 hg6 hat6 hlt6 hstr6 hstr4 hacc4 cG hln hal hlx hor
      generalize ls++[lr]=ls7 at *
      generalize rows++[.slice Ar lr.length cr]=rows7 at *
      generalize w6.setCell ⟨G,1,none⟩ (.slice (some ⟨g5,0,none⟩) (ls.length+1) cap5)=w7 at *
      generalize Value.slice (some ⟨g5,0,none⟩) (ls.length+1) cap5=v7 at *
      obtain⟨ad7,xk7,hae7,-,-,hxk7,hck7⟩:=(Reads.of_own hstr7).str hlt
      obtain rfl:=Option.some.inj hae7
      rw [zT,Nat.zero_add] at hck7
      obtain rfl:xk7=xk:=Option.some.inj (hxk7.out.symm.trans Hxk.out)
      have cG:∀ W,Ext w7 W→∀ q,W.cell? ⟨G,q,none⟩=#[Value.int .i64 al,v7,vA][q]?:=fun W hW=>(q3.blk.ext hW).cell
      have cS:∀ W,Ext w7 W→W.cell? ⟨gB,i,none⟩=some (.string xk7):=fun W hW=>hW.cell_some hck7
      have h0k:0<xk7.size:=by omega
      have h0k':(0:Int)<(xk7.size:Int):=by omega
      have hb0:=zcf xk7 0 h0k
      obtain⟨bb,hbb⟩:∃ bb,((xk7[0].toNat:Int)==43)=bb:=⟨_,rfl⟩
      have hww:=Ext.refl w7
      clear hck7 hxk7 Hxk
      refine uR (fun X=>Ext w7 X) [9,11] (zw.of [0,1,2,3,4,5,6,7,8,9,10,11]) ?_
      refine uQ ?_
      have hxd:=hww.drew
      (refine zd rfl rfl rfl (fun K hK=>?_);go_simp)
      refine hK.out _ _ (hxd.alloc _) ?_
      refine pT ?_
      (refine zb rfl rfl rfl rfl (fun K hK=>?_))
      have hs7:=q3.dr.size
      have q3d:=q3.ext hxd
      have hal8:acc.length≤1001:=by have:=hal7.out;have:=hln7.out;omega
      have hstr8:=zh hstr7 hxd
      refine zaG w0 w7.drew _ _ _ rfl 4 _ 1 1 Tryz.underlying26 zaX rfl (by decide) vA acc.length (zaB acc) _ _ rfl rfl q3d.dr.size q3d.acc rfl (by simp [Value.oneCell']) (by unfold maxLen;omega) (by omega) ?_
      intro g8 cap8 w8 hown8 hg8 hat8 hlt8
      refine hK.out _ _ ?_
      refine pT ?_
      refine uQ ?_
      obtain⟨p1,p2,p3⟩:=q3d.pushAcc (x:=bb) (W':=w8) hown8 hg8 hat8
      have p1':=p1.out
      have hstr9:=zf hstr8 (Frm.of_grown hg8) (fun b hb hS=>zaS hstr8 q3d.acc (by decide) hb hS)
      have hstr10:=zf hstr9 (Frm.setCell w8 G 2 (.slice (some ⟨g8,0,none⟩) (acc.length+1) cap8)) (fun b hb hS=>by
       have hB8:Blk w8 G 31 #[.int .i64 al,v7,vA]:=(hg8.block G q3d.blk.lt (fun e=>zq q3d.acc q3d.blk (by decide) e.symm rfl)).trans q3d.blk
       exact zq hstr9 hB8 (by decide) hb hS)
      (refine zb rfl rfl rfl rfl (fun K hK=>?_))
      go_simp
      refine hK.out _ _ ?_
      refine ze ?_
      go_wp2_with fail
      go_roundw
      case rel=>exact⟨i+1,_,_,ls7,_,acc++[bb],by omega,by omega,by go_num,p3,za (by have:=hln7.out;omega),za (by have:=hal7.out;simp;omega),hlx7,hstr10⟩
      case measure=>simp [intOf];omega
    ·have cz:=bz3.cell
     have fz:=bz3.frozen
     go_wp2_with fail
     have hfb:=zau bz3 rfl (.int .i64 0) (.slice none 0 0) (.slice none 0 0)
     exact yK04a3
   ·obtain⟨A5,c5,rfl⟩:=zg zim.nx
    obtain⟨B5,d5,rfl⟩:=zg zim.acc
    have hat:zG wr w0.heap.size wr.heap.size A5 ls.length B5 acc.length (⟨al,ls,acc⟩:Aut):=⟨zea.reads ⟨rows,zim.nx,zim.rows⟩ rfl,rfl,Reads.of_own zim.acc⟩
    have cG:=zim.blk.cell
    clear hno
    go_wp2_with fail
    refine (zej (a:=⟨al,ls,acc⟩) hat).mono ?_
    rintro e w4 ⟨tx,rfl,-,hx4⟩
    have hacc4:=zim.ext hx4
    have hno4:=zhN (L:=x.size+1) (M:=M) (Z:=w.heap.size) hRl (zim.rd.ext hx4) ((hx0.dr.trans zim.dr).ext hx4) (Nat.le_refl _)
    have bz4:=bz3.ext hx4
    have cz:=bz4.cell
    have fz:=bz4.frozen
    have cG4:=hacc4.blk.cell
    clear cG
    cases hne:tx.toList==x.toList
    ·exact yK04a2
    ·obtain⟨f1,f2⟩:=hacc4.fin (N:=M) (sh:=BdA (x.size+1)) hx0 bz rfl hRl (Nat.le_refl _) hz0 (Nat.le_refl _) ⟨by have:=hln.out;show ls.length≤_;omega,by have:=hln.out;have:=hal.out;show acc.length≤_;omega,hlx.out⟩
     go_wp2_with fail
     have cf:=f2.cell
     obtain⟨b,A6,n6,c6,A7,n7,c7,he,ho6,hsh6,hr6,hd6⟩:=f1.out
     exact bodyPost_ret (v:=.tuple #[.agg #[.int .i64 al,.slice A5 ls.length c5,.slice B5 acc.length d5],.bool true]) (by simp [results,Tryz.results172,go_sem,cf]) rfl ⟨b,A6,n6,c6,A7,n7,c7,true,by injection he with he;rw [he],ho6,hsh6,hr6,hd6⟩
def Texts3 (W:World) (base g n:Nat):Prop:=
 ∀ k<n,∃ (b:Nat) (l:List ByteArray),W.cell? ⟨g,k,none⟩=some (.slice (some ⟨b,0,none⟩) 3 3)∧l.length=3∧((∀ x∈l,x.size≤100)∧∀ x,l[2]?=some x→x.size≤40)∧W.ownsRow base 9 1 (.slice (some ⟨b,0,none⟩) 3 3) 3 (zW l)
def RetT3 (w:World) (e:Ending) (w':World):Prop:=∃ g,e=.returned (.slice (some ⟨g,0,none⟩) 9 9)∧w.heap.size≤g∧Texts3 w' w.heap.size g 9∧Ext w w'
def Sh3 (u:Array Value):Prop:=zW (u.toList.map zif)=u.toList∧u.size=3∧(∀ x∈u.toList.map zif,x.size≤100)∧∀ x∈(u.toList.map zif).drop 2,x.size≤40
theorem Sh3.third {u:Array Value}(h:Sh3 u):(u.toList.map zif).length=3∧(∀ x∈u.toList.map zif,x.size≤100)∧∀ x,(u.toList.map zif)[2]?=some x→x.size≤40:=by
 obtain⟨-,h2,h3,h4⟩:=h
 refine⟨by simp [h2],h3,fun x hx=>h4 x ?_⟩
 have hl:=(List.getElem?_eq_some_iff.1 hx).1
 rw [List.mem_iff_getElem?]
 exact⟨0,by rw [List.getElem?_drop];exact hx⟩
theorem lit9 (w:World) {u1 u2 u3 u4 u5 u6 u7 u8 u9:Array Value}(h1:Sh3 u1)(h2:Sh3 u2)(h3:Sh3 u3)(h4:Sh3 u4)(h5:Sh3 u5)(h6:Sh3 u6)(h7:Sh3 u7)(h8:Sh3 u8)(h9:Sh3 u9) :
  RetT3 w (.returned (.slice (some ⟨w.heap.size+9,0,none⟩) 9 9)) ((((((((((w.alloc (.cells u1 9)).alloc (.cells u2 9)).alloc (.cells u3 9)).alloc (.cells u4 9)).alloc (.cells u5 9)).alloc (.cells u6 9)).alloc (.cells u7 9)).alloc (.cells u8 9)).alloc (.cells u9 9)).alloc (.cells #[.slice (some ⟨w.heap.size,0,none⟩) 3 3,.slice (some ⟨w.heap.size+1,0,none⟩) 3 3,.slice (some ⟨w.heap.size+2,0,none⟩) 3 3,.slice (some ⟨w.heap.size+3,0,none⟩) 3 3,.slice (some ⟨w.heap.size+4,0,none⟩) 3 3,.slice (some ⟨w.heap.size+5,0,none⟩) 3 3,.slice (some ⟨w.heap.size+6,0,none⟩) 3 3,.slice (some ⟨w.heap.size+7,0,none⟩) 3 3,.slice (some ⟨w.heap.size+8,0,none⟩) 3 3] 100)):=by
 have o1:=zbk w h1.1 h1.2.1 (by omega)
 have x1:=(Ext.refl w).alloc (.cells u1 9)
 have s1:(w.alloc (.cells u1 9)).heap.size=w.heap.size+1:=by simp
 generalize w.alloc (.cells u1 9)=w1 at *
 have o2:=zbk w1 h2.1 h2.2.1 (by omega)
 have x2:=(Ext.refl w1).alloc (.cells u2 9)
 have s2:(w1.alloc (.cells u2 9)).heap.size=w.heap.size+2:=by simp [s1]
 rw [s1] at o2
 generalize w1.alloc (.cells u2 9)=w2 at *
 have o3:=zbk w2 h3.1 h3.2.1 (by omega)
 have x3:=(Ext.refl w2).alloc (.cells u3 9)
 have s3:(w2.alloc (.cells u3 9)).heap.size=w.heap.size+3:=by simp [s2]
 rw [s2] at o3
 generalize w2.alloc (.cells u3 9)=w3 at *
 have o4:=zbk w3 h4.1 h4.2.1 (by omega)
 have x4:=(Ext.refl w3).alloc (.cells u4 9)
 have s4:(w3.alloc (.cells u4 9)).heap.size=w.heap.size+4:=by simp [s3]
 rw [s3] at o4
 generalize w3.alloc (.cells u4 9)=w4 at *
 have o5:=zbk w4 h5.1 h5.2.1 (by omega)
 have x5:=(Ext.refl w4).alloc (.cells u5 9)
 have s5:(w4.alloc (.cells u5 9)).heap.size=w.heap.size+5:=by simp [s4]
 rw [s4] at o5
 generalize w4.alloc (.cells u5 9)=w5 at *
 have o6:=zbk w5 h6.1 h6.2.1 (by omega)
 have x6:=(Ext.refl w5).alloc (.cells u6 9)
 have s6:(w5.alloc (.cells u6 9)).heap.size=w.heap.size+6:=by simp [s5]
 rw [s5] at o6
 generalize w5.alloc (.cells u6 9)=w6 at *
 have o7:=zbk w6 h7.1 h7.2.1 (by omega)
 have x7:=(Ext.refl w6).alloc (.cells u7 9)
 have s7:(w6.alloc (.cells u7 9)).heap.size=w.heap.size+7:=by simp [s6]
 rw [s6] at o7
 generalize w6.alloc (.cells u7 9)=w7 at *
 have o8:=zbk w7 h8.1 h8.2.1 (by omega)
 have x8:=(Ext.refl w7).alloc (.cells u8 9)
 have s8:(w7.alloc (.cells u8 9)).heap.size=w.heap.size+8:=by simp [s7]
 rw [s7] at o8
 generalize w7.alloc (.cells u8 9)=w8 at *
 have o9:=zbk w8 h9.1 h9.2.1 (by omega)
 have x9:=(Ext.refl w8).alloc (.cells u9 9)
 have s9:(w8.alloc (.cells u9 9)).heap.size=w.heap.size+9:=by simp [s8]
 rw [s8] at o9
 generalize w8.alloc (.cells u9 9)=w9 at *
 have bl:=Blk.new w9 100 #[.slice (some ⟨w.heap.size,0,none⟩) 3 3,.slice (some ⟨w.heap.size+1,0,none⟩) 3 3,.slice (some ⟨w.heap.size+2,0,none⟩) 3 3,.slice (some ⟨w.heap.size+3,0,none⟩) 3 3,.slice (some ⟨w.heap.size+4,0,none⟩) 3 3,.slice (some ⟨w.heap.size+5,0,none⟩) 3 3,.slice (some ⟨w.heap.size+6,0,none⟩) 3 3,.slice (some ⟨w.heap.size+7,0,none⟩) 3 3,.slice (some ⟨w.heap.size+8,0,none⟩) 3 3]
 have x10:=(Ext.refl w9).alloc (.cells #[.slice (some ⟨w.heap.size,0,none⟩) 3 3,.slice (some ⟨w.heap.size+1,0,none⟩) 3 3,.slice (some ⟨w.heap.size+2,0,none⟩) 3 3,.slice (some ⟨w.heap.size+3,0,none⟩) 3 3,.slice (some ⟨w.heap.size+4,0,none⟩) 3 3,.slice (some ⟨w.heap.size+5,0,none⟩) 3 3,.slice (some ⟨w.heap.size+6,0,none⟩) 3 3,.slice (some ⟨w.heap.size+7,0,none⟩) 3 3,.slice (some ⟨w.heap.size+8,0,none⟩) 3 3] 100)
 rw [s9] at bl
 generalize w9.alloc (.cells #[.slice (some ⟨w.heap.size,0,none⟩) 3 3,.slice (some ⟨w.heap.size+1,0,none⟩) 3 3,.slice (some ⟨w.heap.size+2,0,none⟩) 3 3,.slice (some ⟨w.heap.size+3,0,none⟩) 3 3,.slice (some ⟨w.heap.size+4,0,none⟩) 3 3,.slice (some ⟨w.heap.size+5,0,none⟩) 3 3,.slice (some ⟨w.heap.size+6,0,none⟩) 3 3,.slice (some ⟨w.heap.size+7,0,none⟩) 3 3,.slice (some ⟨w.heap.size+8,0,none⟩) 3 3] 100)=w10 at *
 have y9:=x10
 have y8:=x9.trans y9
 have y7:=x8.trans y8
 have y6:=x7.trans y7
 have y5:=x6.trans y6
 have y4:=x5.trans y5
 have y3:=x4.trans y4
 have y2:=x3.trans y3
 have y1:=x2.trans y2
 refine⟨_,rfl,by omega,fun k hk=>?_,x1.trans y1⟩
 have hk':k=0∨k=1∨k=2∨k=3∨k=4∨k=5∨k=6∨k=7∨k=8:=by omega
 rcases hk' with rfl|rfl|rfl|rfl|rfl|rfl|rfl|rfl|rfl
 ·exact⟨_,_,bl.cell 0,h1.third.1,h1.third.2,zh o1 y1⟩
 ·exact⟨_,_,bl.cell 1,h2.third.1,h2.third.2,zn (zh o2 y2) (by omega)⟩
 ·exact⟨_,_,bl.cell 2,h3.third.1,h3.third.2,zn (zh o3 y3) (by omega)⟩
 ·exact⟨_,_,bl.cell 3,h4.third.1,h4.third.2,zn (zh o4 y4) (by omega)⟩
 ·exact⟨_,_,bl.cell 4,h5.third.1,h5.third.2,zn (zh o5 y5) (by omega)⟩
 ·exact⟨_,_,bl.cell 5,h6.third.1,h6.third.2,zn (zh o6 y6) (by omega)⟩
 ·exact⟨_,_,bl.cell 6,h7.third.1,h7.third.2,zn (zh o7 y7) (by omega)⟩
 ·exact⟨_,_,bl.cell 7,h8.third.1,h8.third.2,zn (zh o8 y8) (by omega)⟩
 ·exact⟨_,_,bl.cell 8,h9.third.1,h9.third.2,zn (zh o9 y9) (by omega)⟩
theorem zhW {w:World}:Calls Tryz.prog 170 #[] w (RetT3 w):=by
 go_enter Tryz.func170,Tryz.ntmps170
 go_wp2_with fail
 go_ret
 exact lit9 w ⟨rfl,rfl,by decide +kernel,by decide +kernel⟩ ⟨rfl,rfl,by decide +kernel,by decide +kernel⟩ ⟨rfl,rfl,by decide +kernel,by decide +kernel⟩ ⟨rfl,rfl,by decide +kernel,by decide +kernel⟩ ⟨rfl,rfl,by decide +kernel,by decide +kernel⟩ ⟨rfl,rfl,by decide +kernel,by decide +kernel⟩ ⟨rfl,rfl,by decide +kernel,by decide +kernel⟩ ⟨rfl,rfl,by decide +kernel,by decide +kernel⟩ ⟨rfl,rfl,by decide +kernel,by decide +kernel⟩
theorem zhE {S:Nat→Prop} {w w':World}(h:Frm S w w') {p:Addr} {v:Value}(hv:w.cell? p=some v)(hp:¬ S p.block):w'.cell? p=some v:=
 (World.cell?_of_block (w:=w) (h.block _ (World.block_lt_of_cell? w p hv) hp)).trans hv
theorem zbw.own {w0 W:World} {R M L K n c k c2 m d m' d':Nat} {s t:Sys} {p:Aut} {A B B' C:Option Addr}(h:zbw w0 W R M L K s A n c t C k c2 p B m d B' m' d'):zbw W W R M L K s A n c t C k c2 p B m d B' m' d':={ h with dr:=Dr.refl _ _,hR:=h.rd.lt }
theorem spec_l9Spoil {R M L K n c k c2 m d m' d':Nat} {s t:Sys} {p:Aut} {A B B' C:Option Addr} {w:World}(h:zbw w w R M L K s A n c t C k c2 p B m d B' m' d')(hM:M≤600000000)(hL:L≤90000)(hK:K≤60) :
  Calls Tryz.prog 94 #[.pointer (some ⟨R,0,none⟩),.agg #[.int .i64 s.al,.int .i64 s.st,.slice A n c],.agg #[.int .i64 p.al,.slice B m d,.slice B' m' d'],.agg #[.int .i64 t.al,.int .i64 t.st,.slice C k c2]] w (RetSPT R (M+100) (L+3) (K+39) w):=by
 have hRl:=h.hR
 have hx0:Ext w ((((((w.alloc (.cells #[.int .i64 s.al,.int .i64 s.st,.slice A n c] 38)).alloc (.cells #[.int .i64 p.al,.slice B m d,.slice B' m' d'] 31)).alloc (.cells #[.int .i64 t.al,.int .i64 t.st,.slice C k c2] 38)).alloc (.cells #[.int .i64 0,.int .i64 0,.slice none 0 0] 38)).alloc (.cells #[.int .i64 0,.slice none 0 0,.slice none 0 0] 31)).alloc (.cells #[.int .i64 0,.int .i64 0,.slice none 0 0] 38)):=((((((Ext.refl _).alloc _).alloc _).alloc _).alloc _).alloc _).alloc _
 obtain⟨b1,b2,b3⟩:=zO (Ext.refl (((w.alloc (.cells #[.int .i64 s.al,.int .i64 s.st,.slice A n c] 38)).alloc (.cells #[.int .i64 p.al,.slice B m d,.slice B' m' d'] 31)).alloc (.cells #[.int .i64 t.al,.int .i64 t.st,.slice C k c2] 38)))
 go_enter Tryz.func94,Tryz.ntmps94
 go_upto_region 1 with fail
 have hsz:(((w.alloc (.cells #[.int .i64 s.al,.int .i64 s.st,.slice A n c] 38)).alloc (.cells #[.int .i64 p.al,.slice B m d,.slice B' m' d'] 31)).alloc (.cells #[.int .i64 t.al,.int .i64 t.st,.slice C k c2] 38)).heap.size=w.heap.size+3:=by simp
 generalize ((w.alloc (.cells #[.int .i64 s.al,.int .i64 s.st,.slice A n c] 38)).alloc (.cells #[.int .i64 p.al,.slice B m d,.slice B' m' d'] 31)).alloc (.cells #[.int .i64 t.al,.int .i64 t.st,.slice C k c2] 38)=w0 at *
 obtain⟨z1,z2,z3⟩:=zO (Ext.refl (((w0.alloc (.cells #[.int .i64 0,.int .i64 0,.slice none 0 0] 38)).alloc (.cells #[.int .i64 0,.slice none 0 0,.slice none 0 0] 31)).alloc (.cells #[.int .i64 0,.int .i64 0,.slice none 0 0] 38)))
 have hx1:Ext w0 (((w0.alloc (.cells #[.int .i64 0,.int .i64 0,.slice none 0 0] 38)).alloc (.cells #[.int .i64 0,.slice none 0 0,.slice none 0 0] 31)).alloc (.cells #[.int .i64 0,.int .i64 0,.slice none 0 0] 38)):=(((Ext.refl _).alloc _).alloc _).alloc _
 generalize ((w0.alloc (.cells #[.int .i64 0,.int .i64 0,.slice none 0 0] 38)).alloc (.cells #[.int .i64 0,.slice none 0 0,.slice none 0 0] 31)).alloc (.cells #[.int .i64 0,.int .i64 0,.slice none 0 0] 38)=w1 at *
 simp only [hsz] at z1 z2 z3
 have ht0:Tri w w1 R M L K (w.heap.size+1+1+1) (w.heap.size+1+1+1+1+1) (w.heap.size+1+1+1+1) w.heap.size (w.heap.size+1+1) (w.heap.size+1) s A n c t C k c2 p B m d B' m' d':=
  ⟨h.ext hx0,z1,z3,z2,b1.ext hx1,b3.ext hx1,.inr (b2.ext hx1),by omega,za (by unfold Ne6;omega)⟩
 have hsz1:=hx0.size
 clear z1 z2 z3 b1 b2 b3 hx0 hx1 h hsz
 have hge:=za (show w.heap.size+1≠0 by omega)
 have hne:=za (show Ne6 (w.heap.size+1+1+1) (w.heap.size+1+1+1+1+1) (w.heap.size+1+1+1+1) w.heap.size (w.heap.size+1+1) (w.heap.size+1) by unfold Ne6;omega)
 generalize hZt:w.heap.size+1+1+1+1+1=Zt at *
 generalize hZp:w.heap.size+1+1+1+1=Zp at *
 generalize hZs:w.heap.size+1+1+1=Zs at *
 generalize hGt:w.heap.size+1+1=Gt at *
 generalize hGp:w.heap.size+1=Gp at *
 generalize hGs:w.heap.size=Gs at *
 have hord:=za (show w.heap.size≤Zs∧w.heap.size≤Zt∧w.heap.size≤Zp by omega)
 clear hZt hZp hZs hGt hGp hGs hsz1
 go_wp2_with fail
 refine (zx ht0.at_.rd (by omega)).mono ?_
 rintro e w2 ⟨y,rfl,-,-,hr2,hd2⟩
 have ht1:=ht0.drawn hd2 hr2
 clear ht0 hr2 hd2
 go_upto_block 0 with fail
 go_cut [] (fun wx=>∃ (s:Sys) (A:Option Addr) (n c:Nat) (t:Sys) (C:Option Addr) (k c2:Nat) (p:Aut) (B:Option Addr) (m d:Nat) (B':Option Addr) (m' d':Nat),Tri w wx R (M+100) (L+3) (K+39) (Zs) (Zt) (Zp) Gs (Gt) (Gp) s A n c t C k c2 p B m d B' m' d')
 case first =>
  have hcases:y=0∨y=1∨y=2∨3≤y:=by omega
  rcases hcases with hy|hy|hy|hy
  ·subst hy
   have hy0:True:=trivial
   have cG:=ht1.bs.cell
   go_wp2_with fail
   refine (zbC (L:=L) ht1.at_.rd (by omega) ht1.at_.is ht1.at_.ns.1.1 (by omega)).mono ?_
   rintro e v1 ⟨s1,A1,n1,d1,rfl,hs1,hn1,hr1,hd1⟩
   have ht2:=ht1.drawn hd1 hr1
   clear cG
   go_wp2_with fail
   refine (zbC (L:=L+1) ht2.at_.rd (by omega) hs1 hn1.1 (by omega)).mono ?_
   rintro e v2 ⟨s2,A2,n2,d2,rfl,hs2,hn2,hr2,hd2⟩
   have ht3:=ht2.drawn hd2 hr2
   go_wp2_with fail
   refine (zbC (L:=L+2) ht3.at_.rd (by omega) hs2 hn2.1 (by omega)).mono ?_
   rintro e v3 ⟨s3,A3,n3,d3,rfl,hs3,hn3,hr3,hd3⟩
   have ht4:=(ht3.drawn hd3 hr3).more (N:=M+100) (J:=L+3) (H:=K+39) (by omega) (by omega) (by omega)
   have cG:=ht4.bs.cell
   have fG:=ht4.bs.frozen
   have fin:=ht4.setS hs3 hn3
   go_wp2_with fail
   go_meet
   exact⟨_,_,_,_,_,_,_,_,_,_,_,_,_,_,_,fin⟩
  ·subst hy
   have hy0:True:=trivial
   have hp1:=hge.out
   have cG:=(ht1.pvar hp1).cell
   go_wp2_with fail
   refine (zbD ht1.at_.rd (by omega) ht1.at_.ip ht1.at_.bd.out (by omega)).mono ?_
   rintro e v1 ⟨b1,A1,n1,d1,B1,m1,e1,rfl,ho1,hb1,hr1,hd1⟩
   have ht2:=ht1.drawn hd1 hr1
   have hq1:=ht1.at_.rd.lt
   have hq2:=ht2.at_.rd.lt
   clear cG
   go_wp2_with fail
   refine (zbD hr1 (by omega) (ho1.less (by omega)) hb1.out (by omega)).mono ?_
   rintro e v2 ⟨b2,A2,n2,d2,B2,m2,e2,rfl,ho2,hb2,hr2,hd2⟩
   have ht3:=ht2.drawn hd2 hr2
   have hq3:=ht3.at_.rd.lt
   go_wp2_with fail
   refine (zbD hr2 (by omega) (ho2.less (by omega)) hb2.out (by omega)).mono ?_
   rintro e v3 ⟨b3,A3,n3,d3,B3,m3,e3,rfl,ho3,hb3,hr3,hd3⟩
   have ht4:=(ht3.drawn hd3 hr3).more (N:=M+100) (J:=L+3) (H:=K+39) (by omega) (by omega) (by omega)
   have cG:=(ht4.pvar hp1).cell
   have fG:=(ht4.pvar hp1).frozen
   have fin:=ht4.setP hp1 (ho3.less (by omega)) (BdL.more hb3.out (by omega))
   go_wp2_with fail
   go_meet
   exact⟨_,_,_,_,_,_,_,_,_,_,_,_,_,_,_,fin⟩
  ·subst hy
   have hy0:True:=trivial
   have cG:=ht1.bt.cell
   go_wp2_with fail
   refine (zbC (L:=L) ht1.at_.rd (by omega) ht1.at_.it ht1.at_.ns.2.1 (by omega)).mono ?_
   rintro e v1 ⟨s1,A1,n1,d1,rfl,hs1,hn1,hr1,hd1⟩
   have ht2:=ht1.drawn hd1 hr1
   clear cG
   go_wp2_with fail
   refine (zbC (L:=L+1) ht2.at_.rd (by omega) hs1 hn1.1 (by omega)).mono ?_
   rintro e v2 ⟨s2,A2,n2,d2,rfl,hs2,hn2,hr2,hd2⟩
   have ht3:=ht2.drawn hd2 hr2
   go_wp2_with fail
   refine (zbC (L:=L+2) ht3.at_.rd (by omega) hs2 hn2.1 (by omega)).mono ?_
   rintro e v3 ⟨s3,A3,n3,d3,rfl,hs3,hn3,hr3,hd3⟩
   have ht4:=(ht3.drawn hd3 hr3).more (N:=M+100) (J:=L+3) (H:=K+39) (by omega) (by omega) (by omega)
   have cG:=ht4.bt.cell
   have fG:=ht4.bt.frozen
   have fin:=ht4.setT hs3 hn3
   go_wp2_with fail
   go_meet
   exact⟨_,_,_,_,_,_,_,_,_,_,_,_,_,_,_,fin⟩
  ·have h0:((y:Int)==0)=false:=by simp;omega
   have h1:((y:Int)==1)=false:=by simp;omega
   have h2:((y:Int)==2)=false:=by simp;omega
   go_wp2_with fail
   go_meet
   exact⟨_,_,_,_,_,_,_,_,_,_,_,_,_,_,_,ht1.more (by omega) (by omega) (by omega)⟩
 case rest =>
  clear ht1
  obtain⟨s,A,n,c,t,C,k,c2,p,B,m,d,B',m',d',ht⟩:=hcut
  have hp1:=hge.out
  obtain⟨wE,hwE⟩:∃ wE,wE=wc:=⟨_,rfl⟩
  subst hwE
  have cS:∀ W,Frm (fun k=>k=Zs∨k=Zp) wE W→∀ q,W.cell? ⟨Gs,q,none⟩=#[Value.int .i64 s.al,.int .i64 s.st,.slice A n c][q]?:=fun W hW=>(ht.bs.frm hW (by have:=hne.out;unfold Ne6 at this;omega)).cell
  have cT:∀ W,Frm (fun k=>k=Zs∨k=Zp) wE W→∀ q,W.cell? ⟨Gt,q,none⟩=#[Value.int .i64 t.al,.int .i64 t.st,.slice C k c2][q]?:=fun W hW=>(ht.bt.frm hW (by have:=hne.out;unfold Ne6 at this;omega)).cell
  have cP:∀ W,Frm (fun k=>k=Zs∨k=Zp) wE W→∀ q,W.cell? ⟨Gp,q,none⟩=#[Value.int .i64 p.al,.slice B m d,.slice B' m' d'][q]?:=fun W hW=>((ht.pvar hp1).frm hW (by have:=hne.out;unfold Ne6 at this;omega)).cell
  have hS0:Frm (fun k=>k=Zs∨k=Zp) wE wE.drew:=(Ext.refl wE).drew.toFrm
  have ht5:=ht.ext (Ext.refl wE).drew
  go_wp2_with fail
  refine tR (fun X=>Frm (fun k=>k=Zs∨k=Zp) wE X) [5] (Ord.of [0,1,2,3,4,5]) ?_
  refine tQ ?_
  generalize hwD:wE.drew=wD at *
  clear hwD
  have ha:=ht5.at_
  have zs:=ht5.zs
  have zt:=ht5.zt
  have zp:=ht5.zp
  have cs:=zs.cell
  have fs:=zs.frozen
  have hn6:=za hne.out
  clear ht5 ht
  (refine zA rfl rfl rfl (fun K hK=>?_);go_simp)
  have q1:=zax zs rfl (.int .i64 s.al) (.int .i64 s.st) (.slice A n c)
  have e1:=zah wD Zs (.int .i64 s.al) (.int .i64 s.st) (.slice A n c)
  replace ha:=ha.far zs e1 hord.out.1 (by decide) (by decide)
  replace zt:=zt.frm e1 (by have:=hn6.out;unfold Ne6 at this;omega)
  replace zp:=zp.frm e1 (by have:=hn6.out;unfold Ne6 at this;omega)
  have hS8:=hS0.trans (e1.mono (T:=fun k=>k=Zs∨k=Zp) (fun k _ hk=>.inl hk))
  refine hK.out _ _ hS8 ?_
  refine pT ?_
  clear cs fs zs e1
  generalize ((wD.setCell ⟨Zs,0,none⟩ (.int .i64 s.al)).setCell ⟨Zs,1,none⟩ (.int .i64 s.st)).setCell ⟨Zs,2,none⟩ (.slice A n c)=wA at *
  have cp:=zp.cell
  have fp:=zp.frozen
  (refine zA rfl rfl rfl (fun K hK=>?_);go_simp)
  have q2:=zax zp rfl (.int .i64 p.al) (.slice B m d) (.slice B' m' d')
  have e2:=zah wA Zp (.int .i64 p.al) (.slice B m d) (.slice B' m' d')
  replace ha:=ha.far zp e2 hord.out.2.2 (by decide) (by decide)
  replace zt:=zt.frm e2 (by have:=hn6.out;unfold Ne6 at this;omega)
  replace q1:=q1.frm e2 (by have:=hn6.out;unfold Ne6 at this;omega)
  have hS9:=hS8.trans (e2.mono (T:=fun k=>k=Zs∨k=Zp) (fun k _ hk=>.inr hk))
  refine hK.out _ _ hS9 ?_
  refine pT ?_
  clear cp fp zp e2 hS8
  generalize ((wA.setCell ⟨Zp,0,none⟩ (.int .i64 p.al)).setCell ⟨Zp,1,none⟩ (.slice B m d)).setCell ⟨Zp,2,none⟩ (.slice B' m' d')=wB at *
  have ct:=zt.cell
  have ft:=zt.frozen
  (refine zL rfl rfl rfl rfl (fun K hK=>?_))
  go_simp
  have q3:=zax zt rfl (.int .i64 t.al) (.int .i64 t.st) (.slice C k c2)
  have e3:=zah wB Zt (.int .i64 t.al) (.int .i64 t.st) (.slice C k c2)
  replace ha:=ha.far zt e3 hord.out.2.1 (by decide) (by decide)
  replace q1:=q1.frm e3 (by have:=hn6.out;unfold Ne6 at this;omega)
  replace q2:=q2.frm e3 (by have:=hn6.out;unfold Ne6 at this;omega)
  refine hK.out _ _ ?_
  refine zaj ?_
  clear ct ft zt e3 hS9 hS0 cS cT cP
  generalize ((wB.setCell ⟨Zt,0,none⟩ (.int .i64 t.al)).setCell ⟨Zt,1,none⟩ (.int .i64 t.st)).setCell ⟨Zt,2,none⟩ (.slice C k c2)=wC at *
  have ha':=za ha
  clear ha
  go_wp2_with fail
  have c1:=q1.cell
  have cc2:=q2.cell
  have c3:=q3.cell
  exact bodyPost_ret (v:=.tuple #[.agg #[.int .i64 s.al,.int .i64 s.st,.slice A n c],.agg #[.int .i64 p.al,.slice B m d,.slice B' m' d'],.agg #[.int .i64 t.al,.int .i64 t.st,.slice C k c2]]) (by simp [results,Tryz.results94,go_sem,c1,cc2,c3]) rfl ⟨s,A,n,c,t,C,k,c2,p,B,m,d,B',m',d',rfl,ha'.out⟩
theorem spec_l12Draw {R M:Nat} {w:World}(h:Rd w R M)(hM:M≤500000000) :
  Calls Tryz.prog 91 #[.pointer (some ⟨R,0,none⟩)] w (RetSTP R (M+200000) 30000 50 w):=by
 have hRl:=h.lt
 have hx0:Ext w (((w.alloc (.cells #[.int .i64 0,.int .i64 0,.slice none 0 0] 38)).alloc (.cells #[.int .i64 0,.int .i64 0,.slice none 0 0] 38)).alloc (.cells #[.int .i64 0,.slice none 0 0,.slice none 0 0] 31)):=(((Ext.refl _).alloc _).alloc _).alloc _
 obtain⟨z1,z2,z3⟩:=zO (Ext.refl (((w.alloc (.cells #[.int .i64 0,.int .i64 0,.slice none 0 0] 38)).alloc (.cells #[.int .i64 0,.int .i64 0,.slice none 0 0] 38)).alloc (.cells #[.int .i64 0,.slice none 0 0,.slice none 0 0] 31)))
 have hsz:(((w.alloc (.cells #[.int .i64 0,.int .i64 0,.slice none 0 0] 38)).alloc (.cells #[.int .i64 0,.int .i64 0,.slice none 0 0] 38)).alloc (.cells #[.int .i64 0,.slice none 0 0,.slice none 0 0] 31)).heap.size=w.heap.size+3:=by simp
 go_enter Tryz.func91,Tryz.ntmps91
 go_upto_region 1 with fail
 generalize ((w.alloc (.cells #[.int .i64 0,.int .i64 0,.slice none 0 0] 38)).alloc (.cells #[.int .i64 0,.int .i64 0,.slice none 0 0] 38)).alloc (.cells #[.int .i64 0,.slice none 0 0,.slice none 0 0] 31)=w0 at *
 go_upto_region 2 with (first
  |(go_at_call 168;refine (spec_l9Three (h.ext hx0) (by omega)).mono ?_;rintro e w1 ⟨s,A,n,c,t,C,k,c2,p,B,m,d,B',m',d',rfl,ht⟩))
 have hx1:Ext w1 (((w1.alloc (.cells #[.int .i64 s.al,.int .i64 s.st,.slice A n c] 38)).alloc (.cells #[.int .i64 p.al,.slice B m d,.slice B' m' d'] 31)).alloc (.cells #[.int .i64 t.al,.int .i64 t.st,.slice C k c2] 38)):=(((Ext.refl _).alloc _).alloc _).alloc _
 obtain⟨b1,b2,b3⟩:=zO (Ext.refl (((w1.alloc (.cells #[.int .i64 s.al,.int .i64 s.st,.slice A n c] 38)).alloc (.cells #[.int .i64 p.al,.slice B m d,.slice B' m' d'] 31)).alloc (.cells #[.int .i64 t.al,.int .i64 t.st,.slice C k c2] 38)))
 have hw1:=ht.dr.size
 have ht1:Tri w (((w1.alloc (.cells #[.int .i64 s.al,.int .i64 s.st,.slice A n c] 38)).alloc (.cells #[.int .i64 p.al,.slice B m d,.slice B' m' d'] 31)).alloc (.cells #[.int .i64 t.al,.int .i64 t.st,.slice C k c2] 38)) R (M+150000) 30000 50 w.heap.size (w.heap.size+1) (w.heap.size+1+1) w1.heap.size (w1.heap.size+1+1) (w1.heap.size+1) s A n c t C k c2 p B m d B' m' d':=
  ⟨((ht.less hx0.dr hRl).ext hx1).more (by omega) (by omega) (by omega),(z1.dr ht.dr (by omega)).ext hx1,(z2.dr ht.dr (by omega)).ext hx1,(z3.dr ht.dr (by omega)).ext hx1,b1,b3,.inr b2,by omega,za (by unfold Ne6;omega)⟩
 clear ht b1 b2 b3 z1 z2 z3 hx1
 have hge:=za (show w.heap.size+3≤w1.heap.size by omega)
 have hG3:(((w1.alloc (.cells #[.int .i64 s.al,.int .i64 s.st,.slice A n c] 38)).alloc (.cells #[.int .i64 p.al,.slice B m d,.slice B' m' d'] 31)).alloc (.cells #[.int .i64 t.al,.int .i64 t.st,.slice C k c2] 38)).heap.size=w1.heap.size+3:=by simp
 clear hw1
 generalize hG:w1.heap.size=G at *
 generalize ((w1.alloc (.cells #[.int .i64 s.al,.int .i64 s.st,.slice A n c] 38)).alloc (.cells #[.int .i64 p.al,.slice B m d,.slice B' m' d'] 31)).alloc (.cells #[.int .i64 t.al,.int .i64 t.st,.slice C k c2] 38)=w2 at *
 clear hG w1
 go_wp2_with fail
 refine (zx ht1.at_.rd (by omega)).mono ?_
 rintro e w3 ⟨y,rfl,-,-,hr3,hd3⟩
 have ht2:=ht1.drawn hd3 hr3
 have hge2:=za (show G+3≤w3.heap.size by have:=hd3.size;omega)
 clear ht1 hr3 hd3 hG3
 go_upto_if 18 with fail
 go_cut [] (fun wx=>∃ (s:Sys) (A:Option Addr) (n c:Nat) (t:Sys) (C:Option Addr) (k c2:Nat) (p:Aut) (B:Option Addr) (m d:Nat) (B':Option Addr) (m' d':Nat),Tri w wx R (M+200000) 30000 50 w.heap.size (w.heap.size+1) (w.heap.size+1+1) G (G+1+1) (G+1) s A n c t C k c2 p B m d B' m' d')
 case first =>
  by_cases hy:y=0
  ·subst hy
   have hy0:True:=trivial
   have hp1:G+1≠0:=by omega
   go_wp2_with fail
   refine (zhW).mono ?_
   rintro e w4 ⟨g,rfl,hg,hT,hx4⟩
   have ht3:=ht2.ext hx4
   have hq:=ht2.at_.rd.lt
   clear ht2
   have hsz4:=hx4.size
   go_wp2_with fail
   refine (zx ht3.at_.rd (by omega)).mono ?_
   rintro e w5 ⟨j,rfl,hj,-,hr5,hd5⟩
   have hj9:j<9:=by have:=hj (by omega);omega
   have ht4:=ht3.drawn hd5 hr5
   obtain⟨bt,lt,hct,hl3,hs3,hot⟩:=hT j hj9
   have ct5:=hd5.cell_some hct (by dsimp only;omega)
   have hot5:=zbo hot hd5 (fun b h1 e=>by omega)
   have hj9':(j:Int)<9:=by omega
   clear hj hT hct hot ht3
   have hbt:w3.heap.size≤bt:=(hot5.lt bt rfl).1
   obtain⟨ad0,x0,e0,_,_,hx0',cx0⟩:=(Reads.of_own hot5).str (show 0<3 by omega)
   obtain⟨ad1,x1,e1,_,_,hx1',cx1⟩:=(Reads.of_own hot5).str (show 1<3 by omega)
   obtain⟨ad2,x2,e2,_,_,hx2',cx2⟩:=(Reads.of_own hot5).str (show 2<3 by omega)
   obtain rfl:=Option.some.inj e0
   obtain rfl:=Option.some.inj e1
   obtain rfl:=Option.some.inj e2
   have hx0s:=hs3.1 x0 (List.mem_of_getElem? hx0'.out)
   have hx1s:=hs3.1 x1 (List.mem_of_getElem? hx1'.out)
   have hx2s:=hs3.2 x2 hx2'.out
   rw [zT,Nat.zero_add] at cx0 cx1 cx2
   clear e0 e1 e2 hx0' hx1' hx2' hs3 hl3 hot5
   go_wp2_with fail
   refine (zci ht4.at_.rd (by omega)).mono ?_
   rintro e w6 ⟨s1,A1,n1,c1,ok,rfl,hs1,⟨-,hf1⟩,hn1,hr6,hd6⟩
   have hRG:=za (show R<w.heap.size from hRl)
   have ht5:=ht4.drawn hd6 hr6
   have cG:=ht5.bs.cell
   have fG:=ht5.bs.frozen
   have fin:=ht5.setS hs1 (by omega:n1≤30000∧n1≤c1)
   have f1:=zah w6 G (.int .i64 s1.al) (.int .i64 s1.st) (.slice A1 n1 c1)
   have kx1:=(hd6.cell_some cx1 (by have:=hge2.out;have:=hge.out;dsimp only;omega))
   have kx2:=(hd6.cell_some cx2 (by have:=hge2.out;have:=hge.out;dsimp only;omega))
   have kt:=(hd6.cell_some ct5 (by have:=hge2.out;have:=hge.out;dsimp only;omega))
   have lx1:=zhE f1 kx1 (by have:=hge2.out;dsimp only;omega)
   have lx2:=zhE f1 kx2 (by have:=hge2.out;dsimp only;omega)
   clear cx0 cx1 cx2 ct5 kx1 kx2 kt ht4 ht5 f1 hd6 hr6
   go_upto_region 6 with fail
   clear cG fG
   generalize ((w6.setCell ⟨G,0,none⟩ (.int .i64 s1.al)).setCell ⟨G,1,none⟩ (.int .i64 s1.st)).setCell ⟨G,2,none⟩ (.slice A1 n1 c1)=w7 at *
   go_wp2_with fail
   refine (zci fin.at_.rd (by omega)).mono ?_
   rintro e w8 ⟨s2,A2,n2,d2,ok2,rfl,hs2,⟨-,hf2⟩,hn2,hr8,hd8⟩
   have ht6:=fin.drawn hd8 hr8
   have cG:=ht6.bt.cell
   have fG:=ht6.bt.frozen
   have fin2:=ht6.setT hs2 (by omega:n2≤30000∧n2≤d2)
   have f2:=zah w8 (G+1+1) (.int .i64 s2.al) (.int .i64 s2.st) (.slice A2 n2 d2)
   have kx2:=(hd8.cell_some lx2 (by have:=hge2.out;have:=hge.out;dsimp only;omega))
   have mx2:=zhE f2 kx2 (by have:=hge2.out;dsimp only;omega)
   clear lx1 lx2 kx2 fin ht6 f2 hd8 hr8
   go_upto_region 7 with fail
   clear cG fG
   generalize ((w8.setCell ⟨G+1+1,0,none⟩ (.int .i64 s2.al)).setCell ⟨G+1+1,1,none⟩ (.int .i64 s2.st)).setCell ⟨G+1+1,2,none⟩ (.slice A2 n2 d2)=w9 at *
   go_wp2_with fail
   refine (zeN fin2.at_.rd (by omega)).mono ?_
   rintro e w10 ⟨b1,A3,n3,d3,A4,n4,d4,ok3,rfl,ho3,hb3,hr10,hd10⟩
   have hq9:=fin2.at_.rd.lt
   have ht7:=fin2.drawn hd10 hr10
   have cG:=(ht7.pvar hp1).cell
   have fG:=(ht7.pvar hp1).frozen
   have fin3:=ht7.setP hp1 (ho3.less (by omega)) (BdL.more hb3.out (by omega))
   clear mx2 fin2 ht7 hd10 hr10 ho3
   go_upto_region 8 with fail
   clear cG fG
   generalize ((w10.setCell ⟨G+1,0,none⟩ (.int .i64 b1.al)).setCell ⟨G+1,1,none⟩ (.slice A3 n3 d3)).setCell ⟨G+1,2,none⟩ (.slice A4 n4 d4)=w11 at *
   go_wp2_with fail
   refine (zx fin3.at_.rd (by omega)).mono ?_
   rintro e w12 ⟨y,rfl,-,-,hr12,hd12⟩
   have ht8:=fin3.drawn hd12 hr12
   clear fin3 hr12 hd12
   have hcases:y=0∨y=1∨y=2∨3≤y:=by omega
   rcases hcases with hy|hy|hy|hy
   ·subst hy
    have cG:=ht8.bs.cell
    go_wp2_with fail
    refine (zes (L:=1001) ht8.at_.rd (by omega) ht8.at_.is hf1 (by omega) (by omega)).mono ?_
    rintro e w13 ⟨s5,A5,n5,d5,rfl,hs5,hn5,hr13,hd13⟩
    have ht9:=(ht8.drawn hd13 hr13).more (N:=M+200000) (J:=30000) (H:=50) (by omega) (by omega) (by omega)
    clear cG
    have cG:=ht9.bs.cell
    have fG:=ht9.bs.frozen
    have fin:=ht9.setS hs5 (by omega:n5≤30000∧n5≤d5)
    go_wp2_with fail
    go_meet
    exact⟨_,_,_,_,_,_,_,_,_,_,_,_,_,_,_,fin⟩
   ·subst hy
    have cG:=ht8.bt.cell
    go_wp2_with fail
    refine (zes (L:=1001) ht8.at_.rd (by omega) ht8.at_.it hf2 (by omega) (by omega)).mono ?_
    rintro e w13 ⟨s5,A5,n5,d5,rfl,hs5,hn5,hr13,hd13⟩
    have ht9:=(ht8.drawn hd13 hr13).more (N:=M+200000) (J:=30000) (H:=50) (by omega) (by omega) (by omega)
    clear cG
    have cG:=ht9.bt.cell
    have fG:=ht9.bt.frozen
    have fin:=ht9.setT hs5 (by omega:n5≤30000∧n5≤d5)
    go_wp2_with fail
    go_meet
    exact⟨_,_,_,_,_,_,_,_,_,_,_,_,_,_,_,fin⟩
   ·subst hy
    have cG:=(ht8.pvar hp1).cell
    go_wp2_with fail
    refine (zfj (L:=x2.size+1) ht8.at_.rd (by omega) ht8.at_.ip hb3.out (by omega)).mono ?_
    rintro e w13 ⟨b5,A5,n5,d5,A6,n6,d6,rfl,ho5,hb5,hr13,hd13⟩
    have hq:=ht8.at_.rd.lt
    have ht9:=(ht8.drawn hd13 hr13).more (N:=M+200000) (J:=30000) (H:=50) (by omega) (by omega) (by omega)
    clear cG
    have cG:=(ht9.pvar hp1).cell
    have fG:=(ht9.pvar hp1).frozen
    have fin:=ht9.setP hp1 (ho5.less (by omega)) (BdL.more hb5.out (by omega))
    go_wp2_with fail
    go_meet
    exact⟨_,_,_,_,_,_,_,_,_,_,_,_,_,_,_,fin⟩
   ·have h0:((y:Int)==0)=false:=by simp;omega
    have h1:((y:Int)==1)=false:=by simp;omega
    have h2:((y:Int)==2)=false:=by simp;omega
    go_wp2_with fail
    go_meet
    exact⟨_,_,_,_,_,_,_,_,_,_,_,_,_,_,_,ht8.more (by omega) (by omega) (by omega)⟩
  ·have hy':((y:Int)==0)=false:=by simp;omega
   go_wp2_with fail
   go_meet
   exact⟨_,_,_,_,_,_,_,_,_,_,_,_,_,_,_,ht2.more (by omega) (by omega) (by omega)⟩
 case rest =>
  clear ht2
  obtain⟨s,A,n,c,t,C,k,c2,p,B,m,d,B',m',d',ht⟩:=hcut
  have hp1:G+1≠0:=by omega
  have hord:Hid (G+3≤wc.heap.size∧w.heap.size+3≤G):=za ⟨by have:=(ht.bt).lt;omega,hge.out⟩
  obtain⟨wE,hwE⟩:∃ wE,wE=wc:=⟨_,rfl⟩
  subst hwE
  have cS:∀ W,Frm (fun k=>k=w.heap.size∨k=w.heap.size+1) wE W→∀ q,W.cell? ⟨G,q,none⟩=#[Value.int .i64 s.al,.int .i64 s.st,.slice A n c][q]?:=fun W hW=>(ht.bs.frm hW (by have:=hord.out;omega)).cell
  have cT:∀ W,Frm (fun k=>k=w.heap.size∨k=w.heap.size+1) wE W→∀ q,W.cell? ⟨G+1+1,q,none⟩=#[Value.int .i64 t.al,.int .i64 t.st,.slice C k c2][q]?:=fun W hW=>(ht.bt.frm hW (by have:=hord.out;omega)).cell
  have cP:∀ W,Frm (fun k=>k=w.heap.size∨k=w.heap.size+1) wE W→∀ q,W.cell? ⟨G+1,q,none⟩=#[Value.int .i64 p.al,.slice B m d,.slice B' m' d'][q]?:=fun W hW=>((ht.pvar hp1).frm hW (by have:=hord.out;omega)).cell
  have hS0:Frm (fun k=>k=w.heap.size∨k=w.heap.size+1) wE wE.drew:=(Ext.refl wE).drew.toFrm
  have ht5:=ht.ext (Ext.refl wE).drew
  go_wp2_with fail
  refine tR (fun X=>Frm (fun k=>k=w.heap.size∨k=w.heap.size+1) wE X) [5] (Ord.of [0,1,2,3,4,5]) ?_
  refine tQ ?_
  generalize hwD:wE.drew=wD at *
  clear hwD
  have ha:=ht5.at_
  have zs:=ht5.zs
  have zt:=ht5.zt
  have zp:=ht5.zp
  have cs:=zs.cell
  have fs:=zs.frozen
  clear ht5 ht
  (refine zA rfl rfl rfl (fun K hK=>?_);go_simp)
  have q1:=zax zs rfl (.int .i64 s.al) (.int .i64 s.st) (.slice A n c)
  have e1:=zah wD w.heap.size (.int .i64 s.al) (.int .i64 s.st) (.slice A n c)
  replace ha:=ha.far zs e1 (by omega) (by decide) (by decide)
  replace zt:=zt.frm e1 (by omega)
  replace zp:=zp.frm e1 (by omega)
  have hS8:=hS0.trans (e1.mono (T:=fun k=>k=w.heap.size∨k=w.heap.size+1) (fun k _ hk=>.inl hk))
  refine hK.out _ _ hS8 ?_
  refine pT ?_
  clear cs fs zs e1
  generalize ((wD.setCell ⟨w.heap.size,0,none⟩ (.int .i64 s.al)).setCell ⟨w.heap.size,1,none⟩ (.int .i64 s.st)).setCell ⟨w.heap.size,2,none⟩ (.slice A n c)=wA at *
  have ct:=zt.cell
  have ft:=zt.frozen
  (refine zA rfl rfl rfl (fun K hK=>?_);go_simp)
  have q2:=zax zt rfl (.int .i64 t.al) (.int .i64 t.st) (.slice C k c2)
  have e2:=zah wA (w.heap.size+1) (.int .i64 t.al) (.int .i64 t.st) (.slice C k c2)
  replace ha:=ha.far zt e2 (by omega) (by decide) (by decide)
  replace zp:=zp.frm e2 (by omega)
  replace q1:=q1.frm e2 (by omega)
  have hS9:=hS8.trans (e2.mono (T:=fun k=>k=w.heap.size∨k=w.heap.size+1) (fun k _ hk=>.inr hk))
  refine hK.out _ _ hS9 ?_
  refine pT ?_
  clear ct ft zt e2 hS8
  generalize ((wA.setCell ⟨w.heap.size+1,0,none⟩ (.int .i64 t.al)).setCell ⟨w.heap.size+1,1,none⟩ (.int .i64 t.st)).setCell ⟨w.heap.size+1,2,none⟩ (.slice C k c2)=wB at *
  have cp:=zp.cell
  have fp:=zp.frozen
  (refine zL rfl rfl rfl rfl (fun K hK=>?_))
  go_simp
  have q3:=zax zp rfl (.int .i64 p.al) (.slice B m d) (.slice B' m' d')
  have e3:=zah wB (w.heap.size+1+1) (.int .i64 p.al) (.slice B m d) (.slice B' m' d')
  replace ha:=ha.far zp e3 (by omega) (by decide) (by decide)
  replace q1:=q1.frm e3 (by omega)
  replace q2:=q2.frm e3 (by omega)
  refine hK.out _ _ ?_
  refine zaj ?_
  clear cp fp zp e3 hS9 hS0 cS cT cP
  generalize ((wB.setCell ⟨w.heap.size+1+1,0,none⟩ (.int .i64 p.al)).setCell ⟨w.heap.size+1+1,1,none⟩ (.slice B m d)).setCell ⟨w.heap.size+1+1,2,none⟩ (.slice B' m' d')=wC at *
  have ha':=za ha
  clear ha
  go_wp2_with fail
  have c1:=q1.cell
  have cc2:=q2.cell
  have c3:=q3.cell
  exact bodyPost_ret (v:=.tuple #[.agg #[.int .i64 s.al,.int .i64 s.st,.slice A n c],.agg #[.int .i64 t.al,.int .i64 t.st,.slice C k c2],.agg #[.int .i64 p.al,.slice B m d,.slice B' m' d']]) (by simp [results,Tryz.results91,go_sem,c1,cc2,c3]) rfl ⟨s,A,n,c,t,C,k,c2,p,B,m,d,B',m',d',rfl,ha'.out⟩
def zco (w:List Nat):Nat:=w.foldl (fun v l=>v*7+(l+1)) 0
theorem zaD (w:List Nat) (l:Nat):zco (w++[l])=zco w*7+(l+1):=by simp [zco]
theorem zfo:zco []=0:=rfl
theorem zaA {α:Type} (w:List α):w=[]∨∃ u l,w=u++[l]:=by
 rcases List.eq_nil_or_concat w with h|⟨u,l,h⟩
 ·exact Or.inl h
 ·exact Or.inr ⟨u,l,by simpa using h⟩
theorem wval_inj:∀ (n:Nat) (u v:List Nat),u.length≤n→(∀ l∈u,l<6)→(∀ l∈v,l<6)→zco u=zco v→u=v:=by
 intro n
 induction n with
 |zero =>
  intro u v hu _ _ h
  obtain rfl:u=[]:=List.eq_nil_of_length_eq_zero (by omega)
  rcases zaA v with rfl|⟨v,m,rfl⟩
  ·rfl
  ·rw [zaD,zfo] at h;omega
 |succ n ih =>
  intro u v hu h1 h2 h
  rcases zaA u with rfl|⟨u,l,rfl⟩
  ·rcases zaA v with rfl|⟨v,m,rfl⟩
   ·rfl
   ·rw [zaD,zfo] at h;omega
  ·rcases zaA v with rfl|⟨v,m,rfl⟩
   ·rw [zaD,zfo] at h;omega
   ·have hl:=h1 l (by simp)
    have hm:=h2 m (by simp)
    rw [zaD,zaD] at h
    have e1:l=m:=by omega
    have e2:zco u=zco v:=by omega
    simp only [List.length_append,List.length_singleton] at hu
    rw [e1,ih u v (by omega) (fun x hx=>h1 x (by simp [hx])) (fun x hx=>h2 x (by simp [hx])) e2]
inductive zcA (d:Nat→Nat→List Nat) (start:List Nat):List Nat→Nat→Prop where
 |nil {x:Nat} (h:x∈start):zcA d start [] x
 |snoc {w:List Nat} {l n x:Nat} (h:zcA d start w n) (hx:x∈d n l):zcA d start (w++[l]) x
theorem zcA.inv {d:Nat→Nat→List Nat} {start w:List Nat} {l x:Nat}(h:zcA d start (w++[l]) x):∃ n,zcA d start w n∧x∈d n l:=by
 generalize hv:w++[l]=v at h
 cases h with
 |nil _=>simp at hv
 |@snoc w' l' n _ h hx =>
  have:=List.append_inj' hv rfl
  obtain⟨rfl,h2⟩:=this
  simp at h2
  subst h2
  exact⟨n,h,hx⟩
theorem zcA.inv_nil {d:Nat→Nat→List Nat} {start:List Nat} {x:Nat}(h:zcA d start [] x):x∈start:=by
 generalize hv:([]:List Nat)=v at h
 cases h with
 |nil h=>exact h
 |snoc _ _=>simp at hv
def visN (st:List Bool × List Nat) (n:Nat):List Bool × List Nat:=if st.1.getD n true then st else (st.1.set n true,st.2++[n])
def vis (S:List Bool) (ns:List Nat):List Bool × List Nat:=ns.foldl visN (S,[])
theorem vis_snoc (S:List Bool) (ns:List Nat) (n:Nat):vis S (ns++[n])=visN (vis S ns) n:=by simp [vis]
theorem zgh (S:List Bool) (ns:List Nat)(hn:∀ n∈ns,n<S.length) :
  (vis S ns).1.length=S.length∧(∀ x,x<S.length→((vis S ns).1.getD x true=true↔S.getD x true=true∨x∈ns))∧(∀ x,x∈(vis S ns).2↔x∈ns∧S.getD x true=false):=by
 have key:∀ k,k≤ns.length→(vis S (ns.take k)).1.length=S.length∧(∀ x,x<S.length→((vis S (ns.take k)).1.getD x true=true↔S.getD x true=true∨x∈ns.take k))∧(∀ x,x∈(vis S (ns.take k)).2↔x∈ns.take k∧S.getD x true=false):=by
  intro k
  induction k with
  |zero=>intro _;exact⟨rfl,fun x _=>by simp [vis],fun x=>by simp [vis]⟩
  |succ k ih =>
   intro hk
   obtain⟨h1,h2,h3⟩:=ih (by omega)
   have hx:ns[k]?=some ns[k]:=List.getElem?_eq_getElem (by omega)
   have hnk:=hn ns[k] (List.getElem_mem _)
   rw [List.take_add_one,hx]
   simp only [Option.toList_some]
   generalize ns[k]=n at *
   rw [vis_snoc]
   generalize vis S (ns.take k)=st at *
   obtain⟨T,fr⟩:=st
   simp only at h1 h2 h3
   unfold visN
   simp only
   cases hT:T.getD n true
   ·have hTS:=h2 n hnk
    rw [hT] at hTS
    have hnS:S.getD n true=false:=by cases h:S.getD n true<;>simp_all
    have hnn:n∉ns.take k:=fun h=>by simp [h] at hTS
    refine⟨by simp [h1],fun x hx=>?_,fun x=>?_⟩
    ·simp only [Bool.false_eq_true,if_false,List.getD_eq_getElem?_getD,List.mem_append,List.mem_singleton]
     by_cases e:x=n
     ·subst e
      rw [List.getElem?_set_self (by omega)]
      simp
     ·rw [List.getElem?_set_ne (by omega)]
      have:=h2 x hx
      rw [List.getD_eq_getElem?_getD,List.getD_eq_getElem?_getD] at this
      simp only [e,or_false]
      exact this
    ·simp only [Bool.false_eq_true,if_false,List.mem_append,List.mem_singleton]
     constructor
     ·rintro (h|rfl)
      ·exact⟨Or.inl ((h3 x).1 h).1,((h3 x).1 h).2⟩
      ·exact⟨Or.inr rfl,hnS⟩
     ·rintro ⟨h|rfl,h'⟩
      ·exact Or.inl ((h3 x).2 ⟨h,h'⟩)
      ·exact Or.inr rfl
   ·refine⟨h1,fun x hx=>?_,fun x=>?_⟩
    ·simp only [if_true,List.mem_append,List.mem_singleton]
     rw [h2 x hx]
     have hTS:=(h2 n hnk).1 hT
     constructor
     ·rintro (h|h)
      ·exact Or.inl h
      ·exact Or.inr (Or.inl h)
     ·rintro (h|h|rfl)
      ·exact Or.inl h
      ·exact Or.inr h
      ·exact hTS
    ·simp only [if_true,List.mem_append,List.mem_singleton]
     rw [h3 x]
     have hTS:=(h2 n hnk).1 hT
     constructor
     ·rintro ⟨h,h'⟩;exact⟨Or.inl h,h'⟩
     ·rintro ⟨h|rfl,h'⟩
      ·exact⟨h,h'⟩
      ·rcases hTS with h|h
       ·rw [h] at h';cases h'
       ·exact⟨h,h'⟩
 have:=key ns.length (Nat.le_refl _)
 rwa [List.take_length] at this
structure Stp where
 parent:Int
 letter:Nat
 nodes:List Nat
structure Bfs (d:Nat→Nat→List Nat) (start:List Nat) (goal:Nat→Bool) (L:List Nat) (N:Nat) (S:List Bool) (st:List Stp) (ws:List (List Nat)) (i j:Nat):Prop where
 len:S.length=N
 wl:ws.length=st.length
 small:∀ (k:Nat) (p:Stp),st[k]?=some p→∀ x∈p.nodes,x<N
 some_:∀ (k:Nat) (p:Stp),st[k]?=some p→p.nodes≠[]
 word:∀ (k:Nat) (p:Stp),st[k]?=some p→(k=0∧p.parent = -1∧ws.getD k []=[])∨(∃ a b:Nat,p.parent=(a:Int)∧a<k∧(a<i∨a=i∧b<j)∧L[b]?=some p.letter∧ws.getD k []=ws.getD a []++[p.letter])
 goes:∀ (k:Nat) (p:Stp),st[k]?=some p→∀ x∈p.nodes,zcA d start (ws.getD k []) x
 incr:∀ a b:Nat,a<b→b<st.length→zco (ws.getD a [])<zco (ws.getD b [])
 seen:∀ x,x<N→(S.getD x true=true↔∃ (k:Nat) (p:Stp),st[k]?=some p∧x∈p.nodes)
 first:∀ x∈start,∃ (p:Stp),st[0]?=some p∧x∈p.nodes
 zero:∀ p,st[0]?=some p→ws.getD 0 []=[]
 proc:∀ (k:Nat) (p:Stp) (b l:Nat),st[k]?=some p→L[b]?=some l→(k<i∨k=i∧b<j)→∀ n∈p.nodes,∀ x∈d n l,∃ (k':Nat) (q:Stp),st[k']?=some q∧x∈q.nodes∧zco (ws.getD k' [])≤zco (ws.getD k []++[l])
 dull:∀ (k:Nat) (p:Stp),st[k]?=some p→∀ x∈p.nodes,goal x=false
section
variable {d:Nat→Nat→List Nat} {start:List Nat} {goal:Nat→Bool} {L:List Nat} {N:Nat} {S:List Bool} {st:List Stp} {ws:List (List Nat)} {i j:Nat}
def Rise (L:List Nat):Prop:=(∀ l∈L,l<6)∧∀ (a b x y:Nat),L[a]?=some x→L[b]?=some y→a<b→x<y
theorem Bfs.before (h:Bfs d start goal L N S st ws i j) {V:Nat}(hV:∀ (k:Nat) (p:Stp) (b l:Nat),st[k]?=some p→L[b]?=some l→zco (ws.getD k []++[l])<V→(k<i∨k=i∧b<j)) :
  ∀ (m:Nat) (v:List Nat),v.length≤m→(∀ l∈v,l∈L)→zco v<V→∀ x,zcA d start v x→∃ (k:Nat) (p:Stp),st[k]?=some p∧x∈p.nodes∧zco (ws.getD k [])≤zco v:=by
 intro m
 induction m with
 |zero =>
  intro v hv _ _ x hx
  obtain rfl:v=[]:=List.eq_nil_of_length_eq_zero (by omega)
  obtain⟨p,hp,hxp⟩:=h.first x hx.inv_nil
  exact⟨0,p,hp,hxp,by rw [h.zero p hp];exact Nat.le_refl _⟩
 |succ m ih =>
  intro v hv hl hlt x hx
  rcases zaA v with rfl|⟨u,l,rfl⟩
  ·obtain⟨p,hp,hxp⟩:=h.first x hx.inv_nil
   exact⟨0,p,hp,hxp,by rw [h.zero p hp];exact Nat.le_refl _⟩
  ·obtain⟨n,hn,hxn⟩:=hx.inv
   simp only [List.length_append,List.length_singleton] at hv
   have hlL:=hl l (by simp)
   obtain⟨b,hb⟩:=List.getElem?_of_mem hlL
   rw [zaD] at hlt
   obtain⟨k,p,hp,hnp,hk⟩:=ih u (by omega) (fun x hx=>hl x (by simp [hx])) (by omega) n hn
   have hlt2:zco (ws.getD k []++[l])<V:=by rw [zaD];omega
   obtain⟨k',q,hq,hxq,hk'⟩:=h.proc k p b l hp hb (hV k p b l hp hb hlt2) n hnp x hxn
   exact⟨k',q,hq,hxq,by rw [zaD] at hk' ⊢;omega⟩
theorem Bfs.none (h:Bfs d start goal L N S st ws i j)(hend:st.length≤i) {v:List Nat}(hv:∀ l∈v,l∈L) {x:Nat}(hx:zcA d start v x):goal x=false:=by
 by_cases hst:st=[]
 ·subst hst
  exfalso
  have:∀ (m:Nat) (v:List Nat),v.length≤m→∀ x,¬ zcA d start v x:=by
   intro m
   induction m with
   |zero =>
    intro v hv x hx
    obtain rfl:v=[]:=List.eq_nil_of_length_eq_zero (by omega)
    obtain⟨p,hp,_⟩:=h.first x hx.inv_nil
    simp at hp
   |succ m ih =>
    intro v hv x hx
    rcases zaA v with rfl|⟨u,l,rfl⟩
    ·obtain⟨p,hp,_⟩:=h.first x hx.inv_nil
     simp at hp
    ·obtain⟨n,hn,_⟩:=hx.inv
     exact ih u (by simp at hv;omega) n hn
  exact this v.length v (Nat.le_refl _) x hx
 ·obtain⟨k,p,hp,hxp,_⟩:=h.before (V:=zco v+1) (fun k p b l hp hb _=>Or.inl (by have:=(List.getElem?_eq_some_iff.1 hp).1;omega)) v.length v (Nat.le_refl _) hv (by omega) x hx
  exact h.dull k p hp x hxp
theorem Bfs.ahead (h:Bfs d start goal L N S st ws i j)(hL:Rise L) {l:Nat}(hi:i<st.length)(hl:L[j]?=some l) {k:Nat}(hk:k<st.length):zco (ws.getD k [])<zco (ws.getD i []++[l]):=by
 rw [zaD]
 rcases h.word k _ (List.getElem?_eq_getElem hk) with ⟨_,_,e⟩|⟨a,b,_,hak,hab,hb,e⟩
 ·rw [e,zfo];omega
 ·rw [e,zaD]
  have hbl:=hL.1 _ (List.mem_of_getElem? hb)
  rcases hab with h1|⟨rfl,h2⟩
  ·have:=h.incr a i h1 hi
   omega
  ·have:=hL.2 b j _ _ hb hl h2
   omega
theorem Bfs.taken (h:Bfs d start goal L N S st ws i j)(hL:Rise L) {l:Nat}(hi:i<st.length)(hl:L[j]?=some l) (k:Nat) (p:Stp) (b m:Nat)(hp:st[k]?=some p)(hb:L[b]?=some m)(hlt:zco (ws.getD k []++[m])<zco (ws.getD i []++[l])):k<i∨k=i∧b<j:=by
 rw [zaD,zaD] at hlt
 have hk:=(List.getElem?_eq_some_iff.1 hp).1
 have h1:=hL.1 _ (List.mem_of_getElem? hb)
 have h2:=hL.1 _ (List.mem_of_getElem? hl)
 rcases Nat.lt_trichotomy k i with h3|h3|h3
 ·exact Or.inl h3
 ·subst h3
  refine Or.inr ⟨rfl,?_⟩
  rcases Nat.lt_trichotomy b j with h4|h4|h4
  ·exact h4
  ·subst h4
   rw [hb] at hl
   have:=Option.some.inj hl
   omega
  ·have:=hL.2 j b _ _ hl hb h4
   omega
 ·have:=h.incr i k h3 hk
  omega
theorem Bfs.found (h:Bfs d start goal L N S st ws i j)(hL:Rise L) {l:Nat}(hi:i<st.length)(hl:L[j]?=some l) {v:List Nat}(hv:∀ x∈v,x∈L)(hlt:zco v<zco (ws.getD i []++[l])) {x:Nat}(hx:zcA d start v x):goal x=false:=by
 obtain⟨k,p,hp,hxp,_⟩:=h.before (fun k p b m hp hb hlt=>h.taken hL hi hl k p b m hp hb hlt) v.length v (Nat.le_refl _) hv hlt x hx
 exact h.dull k p hp x hxp
theorem Bfs.row (h:Bfs d start goal L N S st ws i j)(hj:L.length≤j):Bfs d start goal L N S st ws (i+1) 0:=
 { h with
  word:=fun k p hp=>by
   rcases h.word k p hp with h1|⟨a,b,h1,h2,h3,h4⟩
   ·exact Or.inl h1
   ·exact Or.inr ⟨a,b,h1,h2,by omega,h4⟩
  proc:=fun k p b l hp hb hk=>by
   have hbl:=(List.getElem?_eq_some_iff.1 hb).1
   exact h.proc k p b l hp hb (by omega) }
def addS (st:List Stp) (a:Int) (l:Nat) (fr:List Nat):List Stp:=if fr=[] then st else st++[⟨a,l,fr⟩]
def addW (ws:List (List Nat)) (w:List Nat) (fr:List Nat):List (List Nat):=if fr=[] then ws else ws++[w]
theorem zeU {ws:List (List Nat)} {k:Nat} (w:List Nat)(hk:k<ws.length):(ws++[w]).getD k []=ws.getD k []:=by
 rw [List.getD_eq_getElem?_getD,List.getD_eq_getElem?_getD,List.getElem?_append_left hk]
theorem zgn {ws:List (List Nat)} (w:List Nat):(ws++[w]).getD ws.length []=w:=by
 rw [List.getD_eq_getElem?_getD,List.getElem?_append_right (Nat.le_refl _),Nat.sub_self]
 rfl
theorem Bfs.step (h:Bfs d start goal L N S st ws i j)(hL:Rise L) {l:Nat} {pi:Stp}(hi:st[i]?=some pi)(hl:L[j]?=some l) {rs:List Nat}(hrs:∀ x,x∈rs↔∃ n∈pi.nodes,x∈d n l)(hN:∀ x∈rs,x<N)(hg:∀ x∈(vis S rs).2,goal x=false) :
  Bfs d start goal L N (vis S rs).1 (addS st i l (vis S rs).2) (addW ws (ws.getD i []++[l]) (vis S rs).2) i (j+1):=by
 have hil:=(List.getElem?_eq_some_iff.1 hi).1
 obtain⟨v1,v2,v3⟩:=zgh S rs (fun n hn=>by rw [h.len];exact hN n hn)
 generalize (vis S rs).1=T at *
 generalize (vis S rs).2=fr at *
 have hahead:=fun k hk=>h.ahead hL hil hl (k:=k) hk
 by_cases hfr:fr=[]
 ·subst hfr
  rw [addS,if_pos rfl,addW,if_pos rfl]
  have hsub:∀ x∈rs,S.getD x true=true:=fun x hx=>by
   cases hS:S.getD x true
   ·have:=(v3 x).2 ⟨hx,hS⟩
    cases this
   ·rfl
  refine { h with len:=v1.trans h.len,word:=?_,seen:=?_,proc:=?_ }
  ·intro k p hp
   rcases h.word k p hp with h1|⟨a,b,h1,h2,h3,h4⟩
   ·exact Or.inl h1
   ·exact Or.inr ⟨a,b,h1,h2,by omega,h4⟩
  ·intro x hx
   rw [v2 x (by rw [h.len];exact hx)]
   constructor
   ·rintro (h1|h1)
    ·exact (h.seen x hx).1 h1
    ·exact (h.seen x hx).1 (hsub x h1)
   ·intro h1
    exact Or.inl ((h.seen x hx).2 h1)
  ·intro k p b m hp hb hk n hn x hx
   by_cases hkj:k=i∧b=j
   ·obtain⟨rfl,rfl⟩:=hkj
    rw [hi] at hp
    obtain rfl:=Option.some.inj hp
    rw [hl] at hb
    obtain rfl:=Option.some.inj hb
    have hxr:=(hrs x).2 ⟨n,hn,hx⟩
    obtain⟨k',q,hq,hxq⟩:=(h.seen x (hN x hxr)).1 (hsub x hxr)
    exact⟨k',q,hq,hxq,Nat.le_of_lt (hahead k' (List.getElem?_eq_some_iff.1 hq).1)⟩
   ·exact h.proc k p b m hp hb (by omega) n hn x hx
 ·rw [addS,if_neg hfr,addW,if_neg hfr]
  have hold:∀ {k:Nat} {p:Stp},(st++[(⟨i,l,fr⟩:Stp)])[k]?=some p→(k<st.length∧st[k]?=some p)∨(k=st.length∧p=⟨i,l,fr⟩):=by
   intro k p hp
   rcases Nat.lt_trichotomy k st.length with hk|hk|hk
   ·rw [List.getElem?_append_left hk] at hp
    exact Or.inl ⟨hk,hp⟩
   ·rw [List.getElem?_append_right (by omega),hk,Nat.sub_self] at hp
    exact Or.inr ⟨hk,(Option.some.inj hp).symm⟩
   ·rw [List.getElem?_eq_none (by simp;omega)] at hp
    cases hp
  have hkeep:∀ {k:Nat} {p:Stp},st[k]?=some p→(st++[(⟨i,l,fr⟩:Stp)])[k]?=some p:=fun {k p} hp=>by
   rw [List.getElem?_append_left (List.getElem?_eq_some_iff.1 hp).1];exact hp
  have hnew:(st++[(⟨i,l,fr⟩:Stp)])[st.length]?=some ⟨i,l,fr⟩:=by rw [List.getElem?_append_right (Nat.le_refl _),Nat.sub_self];rfl
  have hwl:=h.wl
  have hgl:∀ k,k<st.length→(ws++[ws.getD i []++[l]]).getD k []=ws.getD k []:=fun k hk=>zeU _ (by omega)
  have hgn:(ws++[ws.getD i []++[l]]).getD st.length []=ws.getD i []++[l]:=by rw [← hwl];exact zgn _
  have hfrs:∀ x∈fr,x∈rs∧S.getD x true=false:=fun x hx=>(v3 x).1 hx
  refine⟨v1.trans h.len,by simp [hwl],?_,?_,?_,?_,?_,?_,?_,?_,?_,?_⟩
  ·intro k p hp x hx
   rcases hold hp with ⟨_,h1⟩|⟨_,rfl⟩
   ·exact h.small k p h1 x hx
   ·exact hN x (hfrs x hx).1
  ·intro k p hp
   rcases hold hp with ⟨_,h1⟩|⟨_,rfl⟩
   ·exact h.some_ k p h1
   ·exact hfr
  ·intro k p hp
   rcases hold hp with ⟨h0,h1⟩|⟨rfl,rfl⟩
   ·rcases h.word k p h1 with ⟨e0,e1,e2⟩|⟨a,b,e1,e2,e3,e4,e5⟩
    ·exact Or.inl ⟨e0,e1,by rw [hgl k h0];exact e2⟩
    ·exact Or.inr ⟨a,b,e1,e2,by omega,e4,by rw [hgl k h0,hgl a (by omega)];exact e5⟩
   ·exact Or.inr ⟨i,j,rfl,hil,Or.inr ⟨rfl,by omega⟩,hl,by rw [hgn,hgl i hil]⟩
  ·intro k p hp x hx
   rcases hold hp with ⟨h0,h1⟩|⟨rfl,rfl⟩
   ·rw [hgl k h0];exact h.goes k p h1 x hx
   ·rw [hgn]
    obtain⟨n,hn,hxn⟩:=(hrs x).1 (hfrs x hx).1
    exact .snoc (h.goes i pi hi n hn) hxn
  ·intro a b hab hb
   simp only [List.length_append,List.length_singleton] at hb
   by_cases hbl:b<st.length
   ·rw [hgl a (by omega),hgl b hbl];exact h.incr a b hab hbl
   ·obtain rfl:b=st.length:=by omega
    rw [hgl a hab,hgn];exact hahead a hab
  ·intro x hx
   rw [v2 x (by rw [h.len];exact hx)]
   constructor
   ·rintro (h1|h1)
    ·obtain⟨k,p,hp,hxp⟩:=(h.seen x hx).1 h1
     exact⟨k,p,hkeep hp,hxp⟩
    ·cases hS:S.getD x true
     ·exact⟨_,_,hnew,(v3 x).2 ⟨h1,hS⟩⟩
     ·obtain⟨k,p,hp,hxp⟩:=(h.seen x hx).1 hS
      exact⟨k,p,hkeep hp,hxp⟩
   ·rintro ⟨k,p,hp,hxp⟩
    rcases hold hp with ⟨_,h1⟩|⟨_,rfl⟩
    ·exact Or.inl ((h.seen x hx).2 ⟨k,p,h1,hxp⟩)
    ·exact Or.inr (hfrs x hxp).1
  ·intro x hx
   obtain⟨p,hp,hxp⟩:=h.first x hx
   exact⟨p,hkeep hp,hxp⟩
  ·intro p hp
   rcases hold hp with ⟨h0,h1⟩|⟨h0,_⟩
   ·rw [hgl 0 h0];exact h.zero p h1
   ·omega
  ·intro k p b m hp hb hk n hn x hx
   rcases hold hp with ⟨h0,h1⟩|⟨rfl,rfl⟩
   ·rw [hgl k h0]
    by_cases hkj:k=i∧b=j
    ·obtain⟨rfl,rfl⟩:=hkj
     rw [hi] at h1
     obtain rfl:=Option.some.inj h1
     rw [hl] at hb
     obtain rfl:=Option.some.inj hb
     have hxr:=(hrs x).2 ⟨n,hn,hx⟩
     cases hS:S.getD x true
     ·exact⟨_,_,hnew,(v3 x).2 ⟨hxr,hS⟩,by rw [hgn];exact Nat.le_refl _⟩
     ·obtain⟨k',q,hq,hxq⟩:=(h.seen x (hN x hxr)).1 hS
      have hk':=(List.getElem?_eq_some_iff.1 hq).1
      exact⟨k',q,hkeep hq,hxq,by rw [hgl k' hk'];exact Nat.le_of_lt (hahead k' hk')⟩
    ·obtain⟨k',q,hq,hxq,hle⟩:=h.proc k p b m h1 hb (by omega) n hn x hx
     have hk':=(List.getElem?_eq_some_iff.1 hq).1
     exact⟨k',q,hkeep hq,hxq,by rw [hgl k' hk'];exact hle⟩
   ·omega
  ·intro k p hp x hx
   rcases hold hp with ⟨_,h1⟩|⟨_,rfl⟩
   ·exact h.dull k p h1 x hx
   ·exact hg x hx
theorem Bfs.begin_ {d:Nat→Nat→List Nat} {start:List Nat} {goal:Nat→Bool} {L:List Nat} {N:Nat}(hN:∀ x∈start,x<N)(hg:∀ x∈(vis (List.replicate N false) start).2,goal x=false) :
  Bfs d start goal L N (vis (List.replicate N false) start).1 (addS [] (-1) 0 (vis (List.replicate N false) start).2) (addW [] [] (vis (List.replicate N false) start).2) 0 0:=by
 obtain⟨v1,v2,v3⟩:=zgh (List.replicate N false) start (fun n hn=>by simpa using hN n hn)
 have hf:∀ x,x<N→(List.replicate N false).getD x true=false:=fun x hx=>by simp [List.getD_eq_getElem?_getD,hx]
 generalize (vis (List.replicate N false) start).1=T at *
 generalize (vis (List.replicate N false) start).2=fr at *
 have hfr:∀ x,x∈fr↔x∈start:=fun x=>(v3 x).trans ⟨fun h=>h.1,fun h=>⟨h,hf x (hN x h)⟩⟩
 have hT:∀ x,x<N→(T.getD x true=true↔x∈start):=fun x hx=>by
  rw [v2 x (by simpa using hx),hf x hx]
  simp
 by_cases he:fr=[]
 ·subst he
  rw [addS,if_pos rfl,addW,if_pos rfl]
  have hs:∀ x,x∉start:=fun x hx=>by have:=(hfr x).2 hx;cases this
  refine⟨by simpa using v1,rfl,fun k p hp=>by simp at hp,fun k p hp=>by simp at hp,fun k p hp=>by simp at hp,fun k p hp=>by simp at hp,fun a b _ hb=>by simp at hb,fun x hx=>?_,fun x hx=>absurd hx (hs x),fun p hp=>by simp at hp,fun k p b l hp=>by simp at hp,fun k p hp=>by simp at hp⟩
  rw [hT x hx]
  exact⟨fun h=>absurd h (hs x),fun ⟨k,p,hp,_⟩=>by simp at hp⟩
 ·rw [addS,if_neg he,addW,if_neg he]
  have hold:∀ {k:Nat} {p:Stp},([]++[(⟨-1,0,fr⟩:Stp)])[k]?=some p→k=0∧p=⟨-1,0,fr⟩:=by
   intro k p hp
   cases k with
   |zero=>exact⟨rfl,by simpa using hp.symm⟩
   |succ k=>simp at hp
  refine⟨by simpa using v1,rfl,?_,?_,?_,?_,?_,?_,?_,?_,?_,?_⟩
  ·intro k p hp x hx
   obtain⟨rfl,rfl⟩:=hold hp
   exact hN x ((hfr x).1 hx)
  ·intro k p hp
   obtain⟨rfl,rfl⟩:=hold hp
   exact he
  ·intro k p hp
   obtain⟨rfl,rfl⟩:=hold hp
   exact Or.inl ⟨rfl,rfl,rfl⟩
  ·intro k p hp x hx
   obtain⟨rfl,rfl⟩:=hold hp
   exact .nil ((hfr x).1 hx)
  ·intro a b hab hb
   simp at hb;omega
  ·intro x hx
   rw [hT x hx]
   constructor
   ·intro h
    exact⟨0,_,rfl,(hfr x).2 h⟩
   ·rintro ⟨k,p,hp,hxp⟩
    obtain⟨rfl,rfl⟩:=hold hp
    exact (hfr x).1 hxp
  ·intro x hx
   exact⟨_,rfl,(hfr x).2 hx⟩
  ·intro p _
   rfl
  ·intro k p b l hp _ hk
   omega
  ·intro k p hp x hx
   obtain⟨rfl,rfl⟩:=hold hp
   exact hg x hx
end
end Go.Proofs.YtmjaepibdpfblaaGreatDoor
namespace Go.Proofs.YtmjaepibdpfblaaGreatDoor
theorem visN_cnt (st:List Bool × List Nat) (n:Nat):(visN st n).1.count true+st.2.length=st.1.count true+(visN st n).2.length:=by
 unfold visN
 cases h:st.1.getD n true
 ·have hn:n<st.1.length:=by
   rcases Nat.lt_or_ge n st.1.length with h1|h1
   ·exact h1
   ·rw [List.getD_eq_getElem?_getD,List.getElem?_eq_none h1] at h;cases h
  have hv:st.1[n]=false:=by rw [List.getD_eq_getElem?_getD,List.getElem?_eq_getElem hn] at h;exact h
  simp only [Bool.false_eq_true,if_false]
  rw [List.count_set hn,hv]
  simp
  omega
 ·simp
theorem foldl_cnt (ns:List Nat) (st:List Bool × List Nat):(ns.foldl visN st).1.count true+st.2.length=st.1.count true+(ns.foldl visN st).2.length:=by
 induction ns generalizing st with
 |nil=>rfl
 |cons n r ih =>
  have h1:=ih (visN st n)
  have h2:=visN_cnt st n
  rw [List.foldl_cons]
  omega
theorem vis_cnt (S:List Bool) (ns:List Nat):(vis S ns).1.count true=S.count true+(vis S ns).2.length:=by
 have:=foldl_cnt ns (S,[])
 simpa [vis] using this
def Cnt (S:List Bool) (st:List Stp):Prop:=(st.map fun p=>p.nodes.length).sum=S.count true
theorem Cnt.add {S:List Bool} {st:List Stp}(h:Cnt S st) (a:Int) (l:Nat) (ns:List Nat):Cnt (vis S ns).1 (addS st a l (vis S ns).2):=by
 unfold Cnt at h ⊢
 rw [vis_cnt,addS]
 by_cases he:(vis S ns).2=[]
 ·rw [if_pos he,he,h];rfl
 ·rw [if_neg he]
  simp [h]
theorem Cnt.nil (N:Nat):Cnt (List.replicate N false) []:=by
 unfold Cnt
 simp [List.count_replicate]
theorem sum_len {l:List Nat}(h:∀ x∈l,1≤x):l.length≤l.sum:=by
 induction l with
 |nil=>simp
 |cons x r ih =>
  have h1:=ih (fun y hy=>h y (by simp [hy]))
  have h2:=h x (by simp)
  simp
  omega
theorem sum_mem {l:List Nat} {x:Nat}(h:x∈l):x≤l.sum:=by
 induction l with
 |nil=>cases h
 |cons y r ih =>
  rcases List.mem_cons.1 h with rfl|h
  ·simp
  ·have:=ih h
   simp
   omega
theorem Cnt.steps {S:List Bool} {st:List Stp}(h:Cnt S st)(hs:∀ (k:Nat) (p:Stp),st[k]?=some p→p.nodes≠[]):st.length≤S.length:=by
 unfold Cnt at h
 have h1:(st.map fun p=>p.nodes.length).length≤(st.map fun p=>p.nodes.length).sum:=sum_len (fun x hx=>by
  obtain⟨p,hp,rfl⟩:=List.mem_map.1 hx
  obtain⟨k,hk⟩:=List.getElem?_of_mem hp
  have:=hs k p hk
  have:=List.length_pos_iff.2 this
  omega)
 rw [List.length_map,h] at h1
 exact Nat.le_trans h1 List.count_le_length
theorem Cnt.nodes {S:List Bool} {st:List Stp}(h:Cnt S st) {k:Nat} {p:Stp}(hp:st[k]?=some p):p.nodes.length≤S.length:=by
 unfold Cnt at h
 have h1:=sum_mem (List.mem_map.2 ⟨p,List.mem_of_getElem? hp,rfl⟩:p.nodes.length∈st.map fun p=>p.nodes.length)
 rw [h] at h1
 exact Nat.le_trans h1 List.count_le_length
def reach (d:Nat→Nat→List Nat) (l:Nat) (ns:List Nat):List Nat:=(ns.map fun n=>d n l).flatten
theorem zgu {d:Nat→Nat→List Nat} {l:Nat} {ns:List Nat} {x:Nat}:x∈reach d l ns↔∃ n∈ns,x∈d n l:=by
 unfold reach
 rw [List.mem_flatten]
 exact⟨fun ⟨ys,h1,h2⟩=>by obtain⟨n,hn,rfl⟩:=List.mem_map.1 h1;exact⟨n,hn,h2⟩,fun ⟨n,hn,h2⟩=>⟨_,List.mem_map.2 ⟨n,hn,rfl⟩,h2⟩⟩
theorem reach_snoc (d:Nat→Nat→List Nat) (l:Nat) (ns:List Nat) (n:Nat):reach d l (ns++[n])=reach d l ns++d n l:=by simp [reach]
theorem reach_take {d:Nat→Nat→List Nat} {l k n:Nat} {ns:List Nat}(h:ns[k]?=some n):reach d l (ns.take (k+1))=reach d l (ns.take k)++d n l:=by
 rw [List.take_add_one,h]
 exact reach_snoc _ _ _ _
theorem reach_len {d:Nat→Nat→List Nat} {l D:Nat} {ns:List Nat}(h:∀ n∈ns,(d n l).length≤D):(reach d l ns).length≤ns.length*D:=by
 induction ns with
 |nil=>simp [reach]
 |cons n r ih =>
  have h1:=ih (fun x hx=>h x (by simp [hx]))
  have h2:=h n (by simp)
  simp only [reach,List.map_cons,List.flatten_cons,List.length_append,List.length_cons,Nat.add_mul,Nat.one_mul] at h1 ⊢
  omega
def Found (d:Nat→Nat→List Nat) (start:List Nat) (goal:Nat→Bool) (L:List Nat) (v:List Nat):Prop:=
 (∀ l∈v,l∈L)∧(∃ x,zcA d start v x∧goal x=true)∧∀ u,(∀ l∈u,l∈L)→zco u<zco v→∀ x,zcA d start u x→goal x=false
def Lost (d:Nat→Nat→List Nat) (start:List Nat) (goal:Nat→Bool) (L:List Nat):Prop:=∀ v,(∀ l∈v,l∈L)→∀ x,zcA d start v x→goal x=false
end Go.Proofs.YtmjaepibdpfblaaGreatDoor
namespace Go.Proofs.YtmjaepibdpfblaaGreatDoor
open Go Go.RowKit
def cho (s:Sys) (i l:Nat):List Nat:=if s.al.toNat.testBit l then letters (succ s.edges i l) 32 else [i]
def nx:List Sys→Nat→Nat→List Nat × Nat × Nat
 |[],m,_=>([0],1,m)
 |s :: r,m,l=>((cho s ((nx r m l).2.2 % s.st.toNat) l).flatMap (fun q=>(nx r m l).1.map fun x=>q*(nx r m l).2.1+x),(nx r m l).2.1*s.st.toNat,(nx r m l).2.2 / s.st.toNat)
def Sml (s:Sys):Prop:=1≤s.st∧s.st≤16∧Few s.st.toNat s.edges∧0≤s.al∧s.al≤63
theorem zfb (a k:Nat):(letters a k).Nodup:=List.Pairwise.filter _ List.nodup_range
theorem zF {a k x:Nat}:x∈letters a k↔x<k∧a.testBit x=true:=by simp [letters,List.mem_filter]
theorem cho_lt {s:Sys}(h:Sml s) {i l:Nat}(hi:i<s.st.toNat):∀ q∈cho s i l,q<s.st.toNat:=by
 intro q hq
 unfold cho at hq
 split at hq
 ·have hb:=(zF.1 hq).2
  rcases Nat.lt_or_ge q s.st.toNat with h1|h1
  ·exact h1
  ·have:=Nat.testBit_lt_two_pow (Nat.lt_of_lt_of_le (succ_lt h.2.2.1 i l) (Nat.pow_le_pow_right (by omega) h1))
   rw [hb] at this;cases this
 ·rw [List.mem_singleton.1 hq];exact hi
theorem cho_nodup (s:Sys) (i l:Nat):(cho s i l).Nodup:=by
 unfold cho
 split
 ·exact zfb _ _
 ·simp
theorem zcV {l:List Nat}(h:l.Nodup) {p:Nat}(hl:∀ x∈l,x<p):l.length≤p:=by
 have h1:l ⊆ List.range p:=fun x hx=>List.mem_range.2 (hl x hx)
 have:=List.Nodup.length_le_of_subset h h1
 simpa using this
theorem cho_len {s:Sys}(h:Sml s) {i l:Nat}(hi:i<s.st.toNat):(cho s i l).length≤s.st.toNat:=zcV (cho_nodup s i l) (cho_lt h hi)
theorem flat_nodup {l R:List Nat} {W:Nat}(hl:l.Nodup)(hR:R.Nodup)(hW:∀ x∈R,x<W):(l.flatMap fun q=>R.map fun x=>q*W+x).Nodup:=by
 induction l with
 |nil=>simp
 |cons a r ih =>
  rw [List.flatMap_cons]
  rw [List.nodup_cons] at hl
  refine List.nodup_append.2 ⟨?_,ih hl.2,?_⟩
  ·exact List.Pairwise.map _ (fun a b h=>by simpa using h) hR
  ·intro x hx y hy hxy
   subst hxy
   obtain⟨u,hu,rfl⟩:=List.mem_map.1 hx
   obtain⟨b,hb,hy⟩:=List.mem_flatMap.1 hy
   obtain⟨v,hv,he⟩:=List.mem_map.1 hy
   have h1:=hW u hu
   have h2:=hW v hv
   have:a=b:=by
    have e1:(a*W+u) / W=a:=by rw [Nat.add_comm,Nat.add_mul_div_right _ _ (by omega),Nat.div_eq_of_lt h1,Nat.zero_add]
    have e2:(b*W+v) / W=b:=by rw [Nat.add_comm,Nat.add_mul_div_right _ _ (by omega),Nat.div_eq_of_lt h2,Nat.zero_add]
    rw [← e1,← e2,he]
   subst this
   exact hl.1 hb
theorem nx_facts {ss:List Sys}(h:∀ s∈ss,Sml s) (m l:Nat):1≤(nx ss m l).2.1∧(nx ss m l).2.1≤16 ^ ss.length∧(∀ x∈(nx ss m l).1,x<(nx ss m l).2.1)∧(nx ss m l).1.Nodup∧(nx ss m l).2.2≤m:=by
 induction ss with
 |nil=>simp [nx]
 |cons s r ih =>
  obtain⟨h1,h2,h3,h4,h5⟩:=ih fun s hs=>h s (List.mem_cons_of_mem _ hs)
  have hs:=h s List.mem_cons_self
  have hst:1≤s.st.toNat∧s.st.toNat≤16:=by have:=hs.1;have:=hs.2.1;omega
  refine⟨Nat.mul_pos h1 hst.1,?_,fun x hx=>?_,flat_nodup (cho_nodup _ _ _) h4 h3,Nat.le_trans (Nat.div_le_self _ _) h5⟩
  ·rw [nx,List.length_cons,Nat.pow_succ]
   exact Nat.mul_le_mul h2 hst.2
  ·rw [nx] at hx ⊢
   obtain⟨q,hq,hx⟩:=List.mem_flatMap.1 hx
   obtain⟨y,hy,rfl⟩:=List.mem_map.1 hx
   have hq':=cho_lt hs (Nat.mod_lt _ hst.1) q hq
   have hy':=h3 y hy
   calc q*(nx r m l).2.1+y<q*(nx r m l).2.1+(nx r m l).2.1:=by omega
    _=(q+1)*(nx r m l).2.1:=by rw [Nat.add_mul,Nat.one_mul]
    _≤s.st.toNat*(nx r m l).2.1:=Nat.mul_le_mul_right _ hq'
    _=(nx r m l).2.1*s.st.toNat:=Nat.mul_comm _ _
theorem nx_len {ss:List Sys}(h:∀ s∈ss,Sml s) (m l:Nat):(nx ss m l).1.length≤16 ^ ss.length:=by
 obtain⟨h1,h2,h3,h4,_⟩:=nx_facts h m l
 exact Nat.le_trans (zcV h4 h3) h2
def place (a l:Nat):Nat:=(letters a l).length
def aGo (a:Aut) (q l:Nat):Nat:=if a.al.toNat.testBit l then ((a.next.getD q []).getD (place a.al.toNat l) 0).toNat else q
abbrev Mem:=Nat × (Nat→Nat→List Nat)
def zeI (s:Sys):Mem:=(s.st.toNat,cho s)
def zdB (a:Aut):Mem:=(a.next.length,fun q l=>[aGo a q l])
def zaz:List Nat→Nat
 |[]=>1
 |m :: r=>m*zaz r
def zab (ms:List Mem):Nat:=zaz (ms.map Prod.fst)
theorem zdY (m:Mem) (r:List Mem):zab (m :: r)=m.1*zab r:=rfl
theorem zcF (a b:List Nat):zaz (a++b)=zaz a*zaz b:=by
 induction a with
 |nil=>simp [zaz]
 |cons x r ih=>rw [List.cons_append,zaz,zaz,ih,Nat.mul_assoc]
theorem zcc (a b:List Mem):zab (a++b)=zab a*zab b:=by
 unfold zab
 rw [List.map_append,zcF]
theorem prodS_pos {l:List Nat}(h:∀ x∈l,1≤x):1≤zaz l:=by
 induction l with
 |nil=>simp [zaz]
 |cons x r ih=>exact Nat.mul_pos (h x (by simp)) (ih fun y hy=>h y (by simp [hy]))
def dec:List Nat→Nat→List Nat
 |[],_=>[]
 |s :: r,x=>(x / zaz r % s) :: dec r x
theorem zcP (l:List Nat) (x:Nat):(dec l x).length=l.length:=by
 induction l with
 |nil=>rfl
 |cons s r ih=>simp [dec,ih]
theorem zhC {l:List Nat} {x k s:Nat}(h:l[k]?=some s):(dec l x)[k]?=some (x / zaz (l.drop (k+1)) % s):=by
 induction l generalizing k with
 |nil=>simp at h
 |cons t r ih =>
  cases k with
  |zero=>simp at h;subst h;simp [dec]
  |succ k=>simp at h;simpa [dec] using ih h
def encF (acc:Nat):List Nat→List Nat→Nat
 |s :: r,x :: xs=>encF (acc*s+x) r xs
 |_,_=>acc
def pnx:List Mem→Nat→Nat→List Nat
 |[],_,_=>[0]
 |m :: r,x,l=>(m.2 (x / zab r % m.1) l).flatMap fun q=>(pnx r x l).map fun y=>q*zab r+y
def MemOk (m:Mem):Prop:=1≤m.1∧∀ q l,q<m.1→l<6→∀ x∈m.2 q l,x<m.1
theorem prodN_pos {ms:List Mem}(h:∀ m∈ms,MemOk m):1≤zab ms:=prodS_pos fun x hx=>by
 obtain⟨m,hm,rfl⟩:=List.mem_map.1 hx
 exact (h m hm).1
theorem pnx_lt {ms:List Mem}(h:∀ m∈ms,MemOk m) {x l:Nat}(hl:l<6):∀ y∈pnx ms x l,y<zab ms:=by
 induction ms with
 |nil=>intro y hy;simp [pnx] at hy;subst hy;simp [zab,zaz]
 |cons m r ih =>
  intro y hy
  rw [pnx] at hy
  obtain⟨q,hq,hy⟩:=List.mem_flatMap.1 hy
  obtain⟨z,hz,rfl⟩:=List.mem_map.1 hy
  have h1:=(h m (by simp)).2 _ l (Nat.mod_lt _ (h m (by simp)).1) hl q hq
  have h2:=ih (fun m hm=>h m (by simp [hm])) z hz
  rw [zdY]
  calc q*zab r+z<q*zab r+zab r:=by omega
   _=(q+1)*zab r:=by rw [Nat.add_mul,Nat.one_mul]
   _≤m.1*zab r:=Nat.mul_le_mul_right _ h1
theorem zft (a b:List Mem) (x l:Nat):pnx (a++b) x l=(pnx a (x / zab b) l).flatMap fun q=>(pnx b x l).map fun y=>q*zab b+y:=by
 induction a with
 |nil=>simp [pnx]
 |cons m r ih =>
  rw [List.cons_append,pnx,pnx,ih,zcc,List.flatMap_assoc]
  rw [Nat.div_div_eq_div_mul,Nat.mul_comm (zab b) (zab r)]
  congr 1
  funext q
  rw [List.map_flatMap,List.flatMap_map]
  congr 1
  funext z
  rw [List.map_map]
  congr 1
  funext y
  simp only [Function.comp]
  rw [Nat.add_mul,Nat.mul_assoc,Nat.add_assoc]
theorem nx_pnx (ss:List Sys) (m l:Nat):nx ss m l=(pnx (ss.map zeI) m l,zab (ss.map zeI),m / zab (ss.map zeI)):=by
 induction ss with
 |nil=>simp [nx,pnx,zab,zaz]
 |cons s r ih =>
  rw [nx,ih,List.map_cons,pnx,zdY]
  simp only [zeI]
  rw [Nat.div_div_eq_div_mul,Nat.mul_comm (zab _) s.st.toNat]
theorem pnx_two (a p:Aut) (x l:Nat):pnx [zdB a,zdB p] x l=[aGo a (x / p.next.length % a.next.length) l*p.next.length+aGo p (x % p.next.length) l]:=by
 simp [pnx,zdB,zab,zaz]
theorem pnx_one (p:Aut) (x l:Nat):pnx [zdB p] x l=[aGo p (x % p.next.length) l]:=by
 simp [pnx,zdB,zab,zaz]
theorem pnx_under (ss:List Sys) (a p:Aut) (x l:Nat) :
  pnx (ss.map zeI++[zdB a,zdB p]) x l=(nx ss (x / p.next.length / a.next.length) l).1.map fun y=>y*a.next.length*p.next.length+(aGo a (x / p.next.length % a.next.length) l*p.next.length+aGo p (x % p.next.length) l):=by
 have hp:zab [zdB a,zdB p]=a.next.length*p.next.length:=by simp [zab,zaz,zdB]
 rw [zft,pnx_two,nx_pnx,hp,Nat.div_div_eq_div_mul,Nat.mul_comm p.next.length a.next.length]
 simp only [List.map_cons,List.map_nil,← List.map_eq_flatMap,Nat.mul_assoc]
def free:Aut:=⟨0,[[]],[true]⟩
theorem pnx_free (ss:List Sys) (p:Aut) (x l:Nat):pnx (ss.map zeI++[zdB free,zdB p]) x l=pnx (ss.map zeI++[zdB p]) x l:=by
 have h0:∀ q l,aGo free q l=q:=fun q l=>by simp [aGo,free]
 rw [zft,zft,pnx_two,pnx_one,h0]
 have h1:zab [zdB free,zdB p]=p.next.length:=by simp [zab,zaz,zdB,free]
 have h2:zab [zdB p]=p.next.length:=by simp [zab,zaz,zdB]
 rw [h1,h2]
 have h3:free.next.length=1:=rfl
 rw [h3,Nat.mod_one,Nat.zero_mul,Nat.zero_add]
def fwd (cs:List (Nat × List Nat)):List Nat:=cs.foldl (fun out c=>out.flatMap fun o=>c.2.map fun x=>o*c.1+x) [0]
theorem zhF (cs:List (Nat × List Nat)) (c:Nat × List Nat):fwd (cs++[c])=(fwd cs).flatMap fun o=>c.2.map fun x=>o*c.1+x:=by simp [fwd]
def chs:List Mem→Nat→Nat→List (Nat × List Nat)
 |[],_,_=>[]
 |m :: r,x,l=>(m.1,m.2 (x / zab r % m.1) l) :: chs r x l
theorem zfs (ms:List Mem) (x l:Nat):(chs ms x l).length=ms.length:=by
 induction ms with
 |nil=>rfl
 |cons m r ih=>simp [chs,ih]
theorem chs_get {ms:List Mem} {x l k:Nat} {m:Mem}(h:ms[k]?=some m):(chs ms x l)[k]?=some (m.1,m.2 (x / zab (ms.drop (k+1)) % m.1) l):=by
 induction ms generalizing k with
 |nil=>simp at h
 |cons t r ih =>
  cases k with
  |zero=>simp at h;subst h;simp [chs]
  |succ k=>simp at h;simpa [chs] using ih h
theorem foldl_pnx (ms:List Mem) (x l:Nat) (out:List Nat):(chs ms x l).foldl (fun out c=>out.flatMap fun o=>c.2.map fun x=>o*c.1+x) out=out.flatMap fun o=>(pnx ms x l).map fun y=>o*zab ms+y:=by
 induction ms generalizing out with
 |nil=>simp [chs,pnx,zab,zaz]
 |cons m r ih =>
  rw [chs,List.foldl_cons,ih,pnx,List.flatMap_assoc]
  congr 1
  funext o
  rw [List.flatMap_map,List.map_flatMap]
  congr 1
  funext q
  rw [List.map_map]
  congr 1
  funext y
  simp only [Function.comp,zdY]
  rw [Nat.add_mul,Nat.mul_assoc,Nat.add_assoc]
theorem fwd_pnx (ms:List Mem) (x l:Nat):fwd (chs ms x l)=pnx ms x l:=by
 have:=foldl_pnx ms x l [0]
 simpa [fwd] using this
theorem flat_len {α β:Type} {l:List α} {f:α→List β} {k:Nat}(h:∀ x∈l,(f x).length≤k):(l.flatMap f).length≤l.length*k:=by
 induction l with
 |nil=>simp
 |cons x r ih =>
  have h1:=ih fun y hy=>h y (by simp [hy])
  have h2:=h x (by simp)
  rw [List.flatMap_cons,List.length_append,List.length_cons,Nat.add_mul,Nat.one_mul]
  omega
theorem fwd_len {cs:List (Nat × List Nat)}(h:∀ c∈cs,c.2.length≤c.1):(fwd cs).length≤zaz (cs.map Prod.fst):=by
 have key:∀ n,n≤cs.length→(fwd (cs.take n)).length≤zaz ((cs.take n).map Prod.fst):=by
  intro n
  induction n with
  |zero=>intro _;simp [fwd,zaz]
  |succ n ih =>
   intro hn
   have hc:cs[n]?=some cs[n]:=List.getElem?_eq_getElem (by omega)
   rw [List.take_add_one,hc]
   simp only [Option.toList_some]
   rw [zhF,List.map_append,zcF]
   refine Nat.le_trans (flat_len (k:=(cs[n]).2.length) fun x _=>by simp) ?_
   refine Nat.mul_le_mul (ih (by omega)) ?_
   simpa [zaz] using h cs[n] (List.getElem_mem _)
 have:=key cs.length (Nat.le_refl _)
 rwa [List.take_length] at this
theorem fwd_lt {cs:List (Nat × List Nat)}(h:∀ c∈cs,∀ x∈c.2,x<c.1):∀ y∈fwd cs,y<zaz (cs.map Prod.fst):=by
 have key:∀ n,n≤cs.length→∀ y∈fwd (cs.take n),y<zaz ((cs.take n).map Prod.fst):=by
  intro n
  induction n with
  |zero=>intro _ y hy;simp [fwd] at hy;subst hy;simp [zaz]
  |succ n ih =>
   intro hn y hy
   have hc:cs[n]?=some cs[n]:=List.getElem?_eq_getElem (by omega)
   rw [List.take_add_one,hc] at hy ⊢
   simp only [Option.toList_some] at hy ⊢
   rw [zhF] at hy
   rw [List.map_append,zcF]
   obtain⟨o,ho,hy⟩:=List.mem_flatMap.1 hy
   obtain⟨x,hx,rfl⟩:=List.mem_map.1 hy
   have h1:=ih (by omega) o ho
   have h2:=h cs[n] (List.getElem_mem _) x hx
   simp only [List.map_cons,List.map_nil,zaz,Nat.mul_one]
   calc o*(cs[n]).1+x<o*(cs[n]).1+(cs[n]).1:=by omega
    _=(o+1)*(cs[n]).1:=by rw [Nat.add_mul,Nat.one_mul]
    _≤_:=Nat.mul_le_mul_right _ h1
 have:=key cs.length (Nat.le_refl _)
 rwa [List.take_length] at this
theorem zfv {s:Sys}(h:Sml s):MemOk (zeI s):=⟨by have:=h.1;simp only [zeI];omega,fun q l hq hl x hx=>cho_lt h hq x hx⟩
theorem zj {a:Aut}(h:zi a=true):(0≤a.al∧a.al≤63)∧(1≤a.next.length∧a.next.length≤12)∧a.acc.length=a.next.length∧∀ (q:Nat) (row:List Int),a.next[q]?=some row→row.length=(letters a.al.toNat 6).length∧∀ x∈row,0≤x∧x<a.next.length:=by
 simp only [zi,Bool.and_eq_true,decide_eq_true_eq,List.all_eq_true] at h
 obtain⟨h1,h2,h3,h4⟩:=h
 refine⟨h1,h2,h3,fun q row hr=>?_⟩
 have:=h4 row (List.mem_of_getElem? hr)
 simp only [zhO,Bool.and_eq_true,decide_eq_true_eq,List.all_eq_true] at this
 exact this
theorem place_lt {a l:Nat}(hl:l<6)(hb:a.testBit l=true):place a l<(letters a 6).length:=by
 have key:∀ n,l+1≤n→place a l<(letters a n).length:=by
  intro n
  induction n with
  |zero=>intro h;omega
  |succ n ih =>
   intro h
   rw [zbh,List.length_append]
   by_cases e:n=l
   ·subst e
    simp [place,hb]
   ·have:=ih (by omega)
    omega
 exact key 6 (by omega)
theorem zdC {a:Aut}(h:zi a=true) {q l:Nat}(hq:q<a.next.length)(hl:l<6):aGo a q l<a.next.length:=by
 obtain⟨_,_,_,hr⟩:=zj h
 unfold aGo
 split
 ·rename_i hb
  have hrow:a.next[q]?=some a.next[q]:=List.getElem?_eq_getElem hq
  obtain⟨h1,h2⟩:=hr q _ hrow
  have hp:=place_lt hl hb
  rw [← h1] at hp
  have hx:=h2 _ (List.getElem_mem hp)
  simp only [List.getD_eq_getElem?_getD,hrow,Option.getD_some,List.getElem?_eq_getElem hp]
  omega
 ·exact hq
theorem zde {a:Aut}(h:zi a=true):MemOk (zdB a):=⟨(zj h).2.1.1,fun q l hq hl x hx=>by
 simp only [zdB,List.mem_singleton] at hx ⊢
 subst hx
 exact zdC h hq hl⟩
theorem zhi:zi free=true:=by decide
def lst (x:Nat):Nat:=(letters x 32).headD 0
def clsOf (R:List Nat):Nat→List Nat × Nat
 |0=>([],0)
 |k+1=>if lst (R.getD k 0)=k then ((clsOf R k).1++[(clsOf R k).2],(clsOf R k).2+1) else ((clsOf R k).1++[(clsOf R k).1.getD (lst (R.getD k 0)) 0],(clsOf R k).2)
def cl (R:List Nat) (i:Nat):Nat:=(clsOf R (i+1)).1.getD i 0
theorem ltE_trans {a b c:Edg}(h:ltE a b=true)(h':ltE b c=true):ltE a c=true:=by
 unfold ltE at *
 (repeat' split at h)<;>(repeat' split at h')<;>(repeat' split)<;>simp only [decide_eq_true_eq] at*<;> omega
theorem ltE_iff {a b:Edg}:ltE a b=true↔a.fr<b.fr∨a.fr=b.fr∧(a.le<b.le∨a.le=b.le∧a.ta<b.ta):=by
 unfold ltE
 (repeat' split)<;>simp only [decide_eq_true_eq]<;>omega
def Rising (es:List Edg):Prop:=∀ (a b:Nat) (x y:Edg),es[a]?=some x→es[b]?=some y→a<b→ltE x y=true
theorem rising_of {es:List Edg}(h:∀ k x y,es[k]?=some x→es[k+1]?=some y→ltE x y=true):Rising es:=by
 intro a b x y hx hy hab
 induction b generalizing y with
 |zero=>omega
 |succ b ih =>
  have hb:=(List.getElem?_eq_some_iff.1 hy).1
  obtain⟨z,hz⟩:∃ z,es[b]?=some z:=⟨_,List.getElem?_eq_getElem (by omega)⟩
  have h1:=h b z y hz hy
  rcases Nat.lt_or_ge a b with h2|h2
  ·exact ltE_trans (ih z hz h2) h1
  ·obtain rfl:a=b:=by omega
   rw [hx] at hz
   obtain rfl:=Option.some.inj hz
   exact h1
theorem valid_iff {s:Sys}:zl s=true↔(0≤s.al∧s.al≤63)∧(1≤s.st∧s.st≤16)∧(∀ e∈s.edges,edgB s.al.toNat s.st e=true)∧Rising s.edges:=by
 simp only [zl,Bool.and_eq_true,decide_eq_true_eq,List.all_eq_true,List.mem_range]
 constructor
 ·rintro ⟨h1,h2,h3⟩
  refine⟨h1,h2,fun e he=>?_,rising_of fun k x y hx hy=>?_⟩
  ·obtain⟨k,hk⟩:=List.getElem?_of_mem he
   have:=h3 k (List.getElem?_eq_some_iff.1 hk).1
   rw [zbA,hk] at this
   simp only [Bool.and_eq_true] at this
   exact this.1
  ·have:=h3 (k+1) (List.getElem?_eq_some_iff.1 hy).1
   unfold zbA at this
   rw [hy] at this
   simp only [Nat.add_sub_cancel,hx,Bool.and_eq_true,Bool.or_eq_true,decide_eq_true_eq] at this
   rcases this.2 with h|h
   ·omega
   ·exact h
 ·rintro ⟨h1,h2,h3,h4⟩
  refine⟨h1,h2,fun k hk=>?_⟩
  have hx:s.edges[k]?=some s.edges[k]:=List.getElem?_eq_getElem hk
  unfold zbA
  rw [hx]
  simp only [Bool.and_eq_true,Bool.or_eq_true,decide_eq_true_eq]
  refine⟨h3 _ (List.getElem_mem hk),?_⟩
  cases k with
  |zero=>exact Or.inl rfl
  |succ k =>
   have hy:s.edges[k]?=some s.edges[k]:=List.getElem?_eq_getElem (by omega)
   simp only [Nat.add_sub_cancel,hy]
   exact Or.inr (h4 k (k+1) _ _ hy hx (by omega))
end Go.Proofs.YtmjaepibdpfblaaGreatDoor
