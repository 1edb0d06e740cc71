/- The law FnChainFewer, walked: it answers true, and leaves all old memory as it was; printed by gen_lawchf.py. -/
import Derived.Test.YtndhahednhnnbaaGreatDoorH14
import Derived.Test.YtndhahednhnnbaaGreatDoorH08
import Derived.Test.YtndhahednhnnbaaGreatDoorH07
import Derived.Test.YtndhahednhnnbaaGreatDoorH02
namespace Go.Proofs.YtndhahednhnnbaaGreatDoor
open Go Go.RowKit
set_option maxHeartbeats 4000000
theorem sl_three {W:World} {g lo hi lo2 hi2 n c m d k e:Nat} {A B C:Option Addr} {x y z:Sys}(hb:Blk W g 39 #[.int .i64 x.al,.int .i64 x.st,.slice A n c,.int .i64 y.al,.int .i64 y.st,.slice B m d,.int .i64 z.al,.int .i64 z.st,.slice C k e])
  (h:zQ W lo hi A n x) (h':zQ W lo hi B m y) (h3:zQ W lo2 hi2 C k z):∃ lo hi,SLAt W lo hi (some ⟨g,0,none⟩) 3 [x,y,z]:=by
 refine⟨0,hi+hi2+g+1,rfl,[.int .i64 x.al,.int .i64 x.st,.slice A n c,.int .i64 y.al,.int .i64 y.st,.slice B m d,.int .i64 z.al,.int .i64 z.st,.slice C k e],⟨rfl,by omega,fun _=>⟨_,rfl,Nat.zero_le _,by dsimp only;omega,fun j u hu=>?_⟩⟩,fun j u hu=>?_⟩
 ·rw [zO,Nat.zero_add,hb.cell]
  simpa using hu
 ·match j with
  |0 =>
   simp at hu;subst hu
   exact⟨A,n,c,rfl,rfl,rfl,h.1,h.2.more (Nat.zero_le _) (by omega)⟩
  |1 =>
   simp at hu;subst hu
   exact⟨B,m,d,rfl,rfl,rfl,h'.1,h'.2.more (Nat.zero_le _) (by omega)⟩
  |2 =>
   simp at hu;subst hu
   exact⟨C,k,e,rfl,rfl,rfl,h3.1,h3.2.more (Nat.zero_le _) (by omega)⟩
  |j+3=>simp at hu
theorem yZLawChfFewera1 {P:Prop}(h:P:=by
 go_wp2_with (first
  |(go_at_call 16;with_reducible refine (HI.out _ hcur).mono ?_;rintro e wz ⟨rfl,hz⟩;replace hcur:=hcur.trans hz;replace h2:=h2.trans hz;clear hz)
  |(go_at_call 18;with_reducible refine (HR.out _ hcur).mono ?_;rintro e wz ⟨rfl,hz⟩;replace hcur:=hcur.trans hz;replace h2:=h2.trans hz;clear hz))
 go_ret
 exact⟨zk (by simp),hx1.trans hcur⟩
 ):P:=h
set_option maxRecDepth 100000 in
theorem law_ChainFewer {A0:Option Addr} {n0 c0:Nat} {w:World}(h:Bytes w A0 n0)(hn:n0≤9223372036854775807)(hc:n0≤c0)(hc2:c0≤9223372036854775807)(hT:Tab w) :
  Calls Tryz.prog 4 #[.slice A0 n0 c0] w fun e w'=>e=.returned (.bool true)∧Ext w w':=by
 have Hh:=hide h
 have HT:=hide (fun W (hW:Ext w W)=>hT.ext hW)
 clear h hT
 by_cases hbig:1048576<n0
 ·have hbig':(1048576:Int)<(n0:Int):=by omega
  go_enter Tryz.func4,Tryz.ntmps4
  go_wp2
  go_ret
  exact⟨rfl,Ext.refl _⟩
 have hbig':(n0:Int)≤1048576:=by omega
 clear hbig
 go_enter Tryz.func4,Tryz.ntmps4
 go_upto_region 4 with (first
  |(go_at_call 15;refine (spec_DrawChainFault Hh.out hn hc hc2).mono ?_;rintro e w1 ⟨l,k,g,c,p,A,n,c1,A',n',c2,f,B,m,d,B',m',d',u,C,q,e1,C',q',e1',hl,hk,hkc,rfl,hsl,⟨hp,hf,hu⟩,hdl,-,hx1⟩))
 clear hbig' hn hc hc2
 obtain⟨ss,hss⟩:∃ ss,Hid (l.map Ent.s=ss):=⟨_,rfl⟩
 rw [hss.out] at hsl
 have HS:=hide (fun W (hW:Ext w1 W)=>hsl.ext hW)
 have HP:=hide (fun W (hW:Ext w1 W)=>hp.ext hW)
 have HF:=hide (fun W (hW:Ext w1 W)=>hf.ext hW)
 have HU:=hide (fun W (hW:Ext w1 W)=>hu.ext hW)
 have HTw:=hide (fun W (hW:Ext w1 W)=>HT.out W (hx1.trans hW))
 have hcur:Ext w1 ((w1.alloc (.cells #[.int .i64 p.al,.slice A n c1,.slice A' n' c2] 27)).alloc (.cells #[.int .i64 f.al,.slice B m d,.slice B' m' d',.int .i64 u.al,.slice C q e1,.slice C' q' e1'] 29)):=((Ext.refl _).alloc _).alloc _
 obtain⟨b1,b2⟩:=zR (Ext.refl ((w1.alloc (.cells #[.int .i64 p.al,.slice A n c1,.slice A' n' c2] 27)).alloc (.cells #[.int .i64 f.al,.slice B m d,.slice B' m' d',.int .i64 u.al,.slice C q e1,.slice C' q' e1'] 29)))
 clear hsl hp hf hu Hh HT
 obtain⟨w2,hw2⟩:∃ w2,w2=(w1.alloc (.cells #[.int .i64 p.al,.slice A n c1,.slice A' n' c2] 27)).alloc (.cells #[.int .i64 f.al,.slice B m d,.slice B' m' d',.int .i64 u.al,.slice C q e1,.slice C' q' e1'] 29):=⟨_,rfl⟩
 rw [← hw2] at hcur b1 b2 ⊢
 clear hw2
 generalize w1.heap.size=G at *
 have cP:=b1.cells
 have cC:=b2.cells
 have h2:=Ext.refl w2
 clear b1 b2
 have HI:=hide (fun W (hW:Ext w1 W)=>impl_ChainFault (c:=c) (d1:=c1) (d1':=c2) (d2:=d) (d2':=d') (d3:=e1) (d3':=e1') (HS.out _ hW) (HP.out _ hW) (HF.out _ hW) (HU.out _ hW) (HTw.out _ hW))
 have HR:=hide (fun W (hW:Ext w1 W)=>spec_ChainFault (c:=c) (d1:=c1) (d1':=c2) (d2:=d) (d2':=d') (d3:=e1) (d3':=e1') (HS.out _ hW) (HP.out _ hW) (HF.out _ hW) (HU.out _ hW))
 by_cases hz:zaA ss p f u=0
 case neg =>
  have z0:(zaA ss p f u != 0)=true:=by simpa using hz
  generalize zaA ss p f u=z at *
  clear hz
  exact yZLawChfFewera1
 case pos =>
  obtain⟨x,y,z,hxyz,-,-⟩:=(chain_sound hz).2
  subst hxyz
  obtain rfl:k=3:=(HS.out w1 (Ext.refl _)).1
  obtain⟨Bx,nx_,cx,q0,q1,q2,hxs⟩:=(HS.out w1 (Ext.refl _)).sys2 (k:=0) (s:=x) rfl
  obtain⟨By,ny,cy,r0,r1,r2,hys⟩:=(HS.out w1 (Ext.refl _)).sys2 (k:=1) (s:=y) rfl
  obtain⟨Bz,nz,cz,s0,s1,s2,hzs⟩:=(HS.out w1 (Ext.refl _)).sys2 (k:=2) (s:=z) rfl
  have hcx:∀ W,Ext w2 W→W.cell? ⟨g,0,none⟩=some (.int .i64 x.al)∧W.cell? ⟨g,1,none⟩=some (.int .i64 x.st)∧W.cell? ⟨g,2,none⟩=some (.slice Bx nx_ cx)∧W.cell? ⟨g,3,none⟩=some (.int .i64 y.al)∧W.cell? ⟨g,4,none⟩=some (.int .i64 y.st)∧W.cell? ⟨g,5,none⟩=some (.slice By ny cy)∧W.cell? ⟨g,6,none⟩=some (.int .i64 z.al)∧W.cell? ⟨g,7,none⟩=some (.int .i64 z.st)∧W.cell? ⟨g,8,none⟩=some (.slice Bz nz cz):=fun W hW=>by
   have hW1:=hcur.trans hW
   exact⟨hW1.cell_some (by simpa using q0),hW1.cell_some (by simpa using q1),hW1.cell_some (by simpa using q2),hW1.cell_some (by simpa using r0),hW1.cell_some (by simpa using r1),hW1.cell_some (by simpa using r2),hW1.cell_some (by simpa using s0),hW1.cell_some (by simpa using s1),hW1.cell_some (by simpa using s2)⟩
  have hsz:nz≤cz∧nz≤50000:=by
   have e1:(l.map Ent.s)[2]?=some z:=by rw [hss.out];rfl
   rw [List.getElem?_map,Option.map_eq_some_iff] at e1
   obtain⟨en,e2,-⟩:=e1
   obtain⟨e3,e4,e5⟩:=hdl.out 2 en e2
   have e6:w1.cell? ⟨g,8,none⟩=some (.slice Bz nz cz):=by simpa using s2
   have e7:w1.cell? ⟨g,8,none⟩=some (.slice en.A en.n en.c):=e5
   rw [e6] at e7
   injection e7 with e7
   injection e7 with e8 e9 e10
   omega
  clear q0 q1 q2 r0 r1 r2 s0 s1 s2
  have HX:=hide (fun W (hW:Ext w1 W)=>hxs.ext hW)
  have HY:=hide (fun W (hW:Ext w1 W)=>hys.ext hW)
  have HZ:=hide (fun W (hW:Ext w1 W)=>hzs.ext hW)
  clear hxs hys hzs
  have hvz:zj z=true:=by
   obtain⟨x',y',z',hxyz,h3,-⟩:=zez.1 hz
   have:=(zan (zcD.1 h3).2.1).2
   exact this z (by simp)
  have hz2:=hide (chain_fewer (z:=z) (u:=tailS z) (valid_tail hvz) rfl (fun e (he:e∈z.edges.drop 1)=>List.mem_of_mem_drop he) hz)
  rw [hz] at HI HR
  have hkc3:(3:Int)≤(c:Int):=by omega
  have hnz:=hide ((HZ.out _ (Ext.refl _)).1)
  clear hz hvz hk
  by_cases hk0:nz=0
  ·subst hk0
   clear HX HY HZ hz2 hnz hdl
   exact yZLawChfFewera1
  ·obtain⟨m1,rfl⟩:∃ m1,nz=m1+1:=⟨nz - 1,by omega⟩
   have hm0:((m1:Int)+1==0)=false:=by simp;omega
   obtain⟨ad,hadB,_,_,_⟩:=(HZ.out w1 (Ext.refl _)).2.at_ (k:=0) (by omega)
   subst hadB
   clear hk0 hdl
   go_upto_region 7 with (first
    |(go_at_call 16;with_reducible refine (HI.out _ hcur).mono ?_;rintro e wz ⟨rfl,hz⟩;replace hcur:=hcur.trans hz;replace h2:=h2.trans hz;clear hz)
    |(go_at_call 18;with_reducible refine (HR.out _ hcur).mono ?_;rintro e wz ⟨rfl,hz⟩;replace hcur:=hcur.trans hz;replace h2:=h2.trans hz;clear hz))
   obtain⟨w6,hw6⟩:∃ w6,w6=wz:=⟨_,rfl⟩
   subst hw6
   have HS6:=hide (HZ.out _ hcur)
   have hm1:(1:Int)≤(m1:Int)+1:=by omega
   go_cut [7] (fun v wx=>∃ GG:Nat,v=.pointer (some ⟨GG,0,none⟩)∧NewSys w6 wx GG (tailS z))
   case first =>
     have hcx6:∀ W,Ext w6 W→W.cell? ⟨g,6,none⟩=some (.int .i64 z.al)∧W.cell? ⟨g,7,none⟩=some (.int .i64 z.st)∧W.cell? ⟨g,8,none⟩=some (.slice (some ad) (m1+1) cz):=fun W hW=>(hcx W (h2.trans hW)).2.2.2.2.2.2
     have hlen0:=hide (show m1=(tailS z).edges.length by have:=hnz.out;simp [tailS];omega)
     have hmc:m1+1≤cz∧m1+1≤100000:=⟨hsz.1,by omega⟩
     clear cP cC hcx HI HR HX HY HZ hz2
     by_cases hc1:cz=1
     ·obtain rfl:m1=0:=by omega
      have hlen:=hlen0.out
      have hnil:z.edges.drop 1=[]:=List.eq_nil_of_length_eq_zero hlen.symm
      have hsl:Reads w6 w.heap.size G 3 (some ad) 0 (zp (z.edges.drop 1)):=by rw [hnil];exact⟨rfl,by omega,fun h=>absurd h (by omega)⟩
      have Hlen:=hide hlen
      clear hnil hlen
      subst hc1
      refine tR (fun X=>Ext w6 X) [17] (Ord.app [0,1,2,3,4,5,6,7,9,10,11,12,13] (Ord.two 8 (Ord.two 14 (Ord.of [15,16,17]) 16 (Ord.of [14,15,17])) 16 (Ord.of [8,14,15,17]))) ?_
      refine tQ ?_
      refine zet rfl rfl rfl rfl (fun K hK=>?_) (fun K hK=>?_)
      ·go_simp
       have hx2:Ext w6 (w6.alloc (.cells #[] 126)).drew:=((Ext.refl w6).alloc _).drew
       have hown:(w6.alloc (.cells #[] 126)).drew.ownsRow w6.heap.size 126 3 (.slice (some ⟨w6.heap.size,0,none⟩) 0 0) 0 []:=edge_lit w6
       have hz2:(w6.alloc (.cells #[] 126)).drew.heap.size=w6.heap.size+1:=by simp
       refine hK.out _ _ hx2 ?_
       refine pT ?_
       generalize (w6.alloc (.cells #[] 126)).drew=w7 at *
       refine zet rfl rfl rfl rfl (fun K hK=>?_) (fun K hK=>?_)
       ·refine zt _ _ _ _ rfl w6.heap.size 126 _ 3 24 Tryz.underlying37 zaQ rfl (by decide) (.slice (some ⟨w6.heap.size,0,none⟩) 0 0) 0 [] rfl hown _ _ _ _ _ (zp (z.edges.drop 1)) rfl (hsl.ext hx2) (zcH _) (by unfold maxLen;omega) (by omega) hx2.size ?_
        intro v w3 hown3 hg3 hat3
        rw [Nat.zero_add,List.nil_append] at hown3
        obtain⟨A3,c3,rfl⟩:=zh hown3
        have hx3:Ext w6 w3:=hx2.grown hg3 (fun k hk=>by simp [Value.ownBlock] at hk;omega)
        refine hK.out _ _ hx3 ?_
        refine pT ?_
        refine tQ ?_
        (refine zA rfl rfl rfl (fun K hK=>?_);go_simp)
        refine hK.out _ _ (hx3.alloc _) ?_
        refine pT ?_
        refine tQ ?_
        (refine zN rfl rfl rfl rfl (fun K hK=>?_))
        go_simp
        refine hK.out _ _ ?_
        refine zag ?_
        go_wp2_with fail
        go_meet
        exact⟨w3.heap.size,rfl,new_alloc (s:=tailS z) hx3 Hlen.out hown3⟩
       ·go_simp
        have hx2':=hx2.alloc (.cells #[.int .i64 0,.int .i64 0,.slice none 0 0] 39)
        have hx22:=(Ext.refl w7).alloc (.cells #[.int .i64 0,.int .i64 0,.slice none 0 0] 39)
        have hb3:=Blk.new w7 39 #[.int .i64 0,.int .i64 0,.slice none 0 0]
        replace hown:=zf hown hx22
        refine hK.out _ _ hx2' ?_
        generalize w7.alloc (.cells #[.int .i64 0,.int .i64 0,.slice none 0 0] 39)=w8 at *
        rw [hz2] at hb3
        refine pT ?_
        refine zA rfl rfl rfl (fun K hK=>?_)
        refine zt _ _ _ _ rfl w6.heap.size 126 _ 3 24 Tryz.underlying37 zaQ rfl (by decide) (.slice (some ⟨w6.heap.size,0,none⟩) 0 0) 0 [] rfl hown _ _ _ _ _ (zp (z.edges.drop 1)) rfl (hsl.ext hx2') (zcH _) (by unfold maxLen;omega) (by omega) hx2'.size ?_
        intro v w3 hown3 hg3 hat3
        rw [Nat.zero_add,List.nil_append] at hown3
        obtain⟨A3,c3,rfl⟩:=zh hown3
        have hx3:Ext w6 w3:=hx2'.grown hg3 (fun k hk=>by simp [Value.ownBlock] at hk;omega)
        have hb4:Blk w3 (w6.heap.size+1) 39 #[.int .i64 0,.int .i64 0,.slice none 0 0]:=hb3.frm (Frm.of_grown hg3) (by simp [Value.ownBlock])
        refine hK.out _ _ hx3 ?_
        refine pT ?_
        refine tQ ?_
        have cE:=hb4.cell
        have fE:=hb4.frozen
        (refine zN rfl rfl rfl rfl (fun K hK=>?_))
        go_simp
        refine hK.out _ _ ?_
        refine zag ?_
        go_wp2_with fail
        go_meet
        exact⟨_,rfl,new_fill (s:=tailS z) hx3 Hlen.out hown3 hb4 (by omega)⟩
      ·go_simp
       have hx2:Ext w6 (w6.alloc (.cells #[.int .i64 0,.int .i64 0,.slice none 0 0] 39)).drew:=((Ext.refl w6).alloc _).drew
       have hb2:Blk (w6.alloc (.cells #[.int .i64 0,.int .i64 0,.slice none 0 0] 39)).drew w6.heap.size 39 #[.int .i64 0,.int .i64 0,.slice none 0 0]:=Blk.new w6 _ _
       have hz2:(w6.alloc (.cells #[.int .i64 0,.int .i64 0,.slice none 0 0] 39)).drew.heap.size=w6.heap.size+1:=by simp
       refine hK.out _ _ hx2 ?_
       refine pT ?_
       generalize (w6.alloc (.cells #[.int .i64 0,.int .i64 0,.slice none 0 0] 39)).drew=w7 at *
       (refine zA rfl rfl rfl (fun K hK=>?_);go_simp)
       have hx2':=hx2.alloc (.cells #[] 126)
       have hown:(w7.alloc (.cells #[] 126)).ownsRow w6.heap.size 126 3 (.slice (some ⟨w6.heap.size+1,0,none⟩) 0 0) 0 []:=by
        rw [← hz2]
        exact World.ownsRow_lit w7 #[] 0 hx2.size (by unfold maxLen;omega) rfl
       have hb3:=hb2.ext ((Ext.refl w7).alloc (.cells #[] 126))
       refine hK.out _ _ hx2' ?_
       generalize w7.alloc (.cells #[] 126)=w8 at *
       refine pT ?_
       refine zA rfl rfl rfl (fun K hK=>?_)
       refine zt _ _ _ _ rfl w6.heap.size 126 _ 3 24 Tryz.underlying37 zaQ rfl (by decide) (.slice (some ⟨w6.heap.size+1,0,none⟩) 0 0) 0 [] rfl hown _ _ _ _ _ (zp (z.edges.drop 1)) rfl (hsl.ext hx2') (zcH _) (by unfold maxLen;omega) (by omega) hx2'.size ?_
       intro v w3 hown3 hg3 hat3
       rw [Nat.zero_add,List.nil_append] at hown3
       obtain⟨A3,c3,rfl⟩:=zh hown3
       have hx3:Ext w6 w3:=hx2'.grown hg3 (fun k hk=>by simp [Value.ownBlock] at hk;omega)
       have hb4:Blk w3 w6.heap.size 39 #[.int .i64 0,.int .i64 0,.slice none 0 0]:=hb3.frm (Frm.of_grown hg3) (by simp [Value.ownBlock])
       refine hK.out _ _ hx3 ?_
       refine pT ?_
       refine tQ ?_
       have cE:=hb4.cell
       have fE:=hb4.frozen
       (refine zN rfl rfl rfl rfl (fun K hK=>?_))
       go_simp
       refine hK.out _ _ ?_
       refine zag ?_
       go_wp2_with fail
       go_meet
       exact⟨_,rfl,new_fill (s:=tailS z) hx3 Hlen.out hown3 hb4 (Nat.le_refl _)⟩
     ·have hlen:=hlen0
      have hsl:Reads w6 w.heap.size G 3 (some (ad.add 3)) m1 (zp (z.edges.drop 1)):=HS6.out.tail
      refine tR (fun X=>Ext w6 X) [17] (Ord.app [0,1,2,3,4,5,6,7,9,10,11,12,13] (Ord.two 8 (Ord.two 14 (Ord.of [15,16,17]) 16 (Ord.of [14,15,17])) 16 (Ord.of [8,14,15,17]))) ?_
      refine tQ ?_
      refine zet rfl rfl rfl rfl (fun K hK=>?_) (fun K hK=>?_)
      ·go_simp
       have hx2:Ext w6 (w6.alloc (.cells #[] 126)).drew:=((Ext.refl w6).alloc _).drew
       have hown:(w6.alloc (.cells #[] 126)).drew.ownsRow w6.heap.size 126 3 (.slice (some ⟨w6.heap.size,0,none⟩) 0 0) 0 []:=edge_lit w6
       have hz2:(w6.alloc (.cells #[] 126)).drew.heap.size=w6.heap.size+1:=by simp
       refine hK.out _ _ hx2 ?_
       refine pT ?_
       generalize (w6.alloc (.cells #[] 126)).drew=w7 at *
       refine zet rfl rfl rfl rfl (fun K hK=>?_) (fun K hK=>?_)
       ·refine zt _ _ _ _ rfl w6.heap.size 126 _ 3 24 Tryz.underlying37 zaQ rfl (by decide) (.slice (some ⟨w6.heap.size,0,none⟩) 0 0) 0 [] rfl hown _ _ _ _ _ (zp (z.edges.drop 1)) rfl (hsl.ext hx2) (zcH _) (by unfold maxLen;omega) (by omega) hx2.size ?_
        intro v w3 hown3 hg3 hat3
        rw [Nat.zero_add,List.nil_append] at hown3
        obtain⟨A3,c3,rfl⟩:=zh hown3
        have hx3:Ext w6 w3:=hx2.grown hg3 (fun k hk=>by simp [Value.ownBlock] at hk;omega)
        refine hK.out _ _ hx3 ?_
        refine pT ?_
        refine tQ ?_
        (refine zA rfl rfl rfl (fun K hK=>?_);go_simp)
        refine hK.out _ _ (hx3.alloc _) ?_
        refine pT ?_
        refine tQ ?_
        (refine zN rfl rfl rfl rfl (fun K hK=>?_))
        go_simp
        refine hK.out _ _ ?_
        refine zag ?_
        go_wp2_with fail
        go_meet
        exact⟨w3.heap.size,rfl,new_alloc (s:=tailS z) hx3 hlen.out hown3⟩
       ·go_simp
        have hx2':=hx2.alloc (.cells #[.int .i64 0,.int .i64 0,.slice none 0 0] 39)
        have hx22:=(Ext.refl w7).alloc (.cells #[.int .i64 0,.int .i64 0,.slice none 0 0] 39)
        have hb3:=Blk.new w7 39 #[.int .i64 0,.int .i64 0,.slice none 0 0]
        replace hown:=zf hown hx22
        refine hK.out _ _ hx2' ?_
        generalize w7.alloc (.cells #[.int .i64 0,.int .i64 0,.slice none 0 0] 39)=w8 at *
        rw [hz2] at hb3
        refine pT ?_
        refine zA rfl rfl rfl (fun K hK=>?_)
        refine zt _ _ _ _ rfl w6.heap.size 126 _ 3 24 Tryz.underlying37 zaQ rfl (by decide) (.slice (some ⟨w6.heap.size,0,none⟩) 0 0) 0 [] rfl hown _ _ _ _ _ (zp (z.edges.drop 1)) rfl (hsl.ext hx2') (zcH _) (by unfold maxLen;omega) (by omega) hx2'.size ?_
        intro v w3 hown3 hg3 hat3
        rw [Nat.zero_add,List.nil_append] at hown3
        obtain⟨A3,c3,rfl⟩:=zh hown3
        have hx3:Ext w6 w3:=hx2'.grown hg3 (fun k hk=>by simp [Value.ownBlock] at hk;omega)
        have hb4:Blk w3 (w6.heap.size+1) 39 #[.int .i64 0,.int .i64 0,.slice none 0 0]:=hb3.frm (Frm.of_grown hg3) (by simp [Value.ownBlock])
        refine hK.out _ _ hx3 ?_
        refine pT ?_
        refine tQ ?_
        have cE:=hb4.cell
        have fE:=hb4.frozen
        (refine zN rfl rfl rfl rfl (fun K hK=>?_))
        go_simp
        refine hK.out _ _ ?_
        refine zag ?_
        go_wp2_with fail
        go_meet
        exact⟨_,rfl,new_fill (s:=tailS z) hx3 hlen.out hown3 hb4 (by omega)⟩
      ·go_simp
       have hx2:Ext w6 (w6.alloc (.cells #[.int .i64 0,.int .i64 0,.slice none 0 0] 39)).drew:=((Ext.refl w6).alloc _).drew
       have hb2:Blk (w6.alloc (.cells #[.int .i64 0,.int .i64 0,.slice none 0 0] 39)).drew w6.heap.size 39 #[.int .i64 0,.int .i64 0,.slice none 0 0]:=Blk.new w6 _ _
       have hz2:(w6.alloc (.cells #[.int .i64 0,.int .i64 0,.slice none 0 0] 39)).drew.heap.size=w6.heap.size+1:=by simp
       refine hK.out _ _ hx2 ?_
       refine pT ?_
       generalize (w6.alloc (.cells #[.int .i64 0,.int .i64 0,.slice none 0 0] 39)).drew=w7 at *
       (refine zA rfl rfl rfl (fun K hK=>?_);go_simp)
       have hx2':=hx2.alloc (.cells #[] 126)
       have hown:(w7.alloc (.cells #[] 126)).ownsRow w6.heap.size 126 3 (.slice (some ⟨w6.heap.size+1,0,none⟩) 0 0) 0 []:=by
        rw [← hz2]
        exact World.ownsRow_lit w7 #[] 0 hx2.size (by unfold maxLen;omega) rfl
       have hb3:=hb2.ext ((Ext.refl w7).alloc (.cells #[] 126))
       refine hK.out _ _ hx2' ?_
       generalize w7.alloc (.cells #[] 126)=w8 at *
       refine pT ?_
       refine zA rfl rfl rfl (fun K hK=>?_)
       refine zt _ _ _ _ rfl w6.heap.size 126 _ 3 24 Tryz.underlying37 zaQ rfl (by decide) (.slice (some ⟨w6.heap.size+1,0,none⟩) 0 0) 0 [] rfl hown _ _ _ _ _ (zp (z.edges.drop 1)) rfl (hsl.ext hx2') (zcH _) (by unfold maxLen;omega) (by omega) hx2'.size ?_
       intro v w3 hown3 hg3 hat3
       rw [Nat.zero_add,List.nil_append] at hown3
       obtain⟨A3,c3,rfl⟩:=zh hown3
       have hx3:Ext w6 w3:=hx2'.grown hg3 (fun k hk=>by simp [Value.ownBlock] at hk;omega)
       have hb4:Blk w3 w6.heap.size 39 #[.int .i64 0,.int .i64 0,.slice none 0 0]:=hb3.frm (Frm.of_grown hg3) (by simp [Value.ownBlock])
       refine hK.out _ _ hx3 ?_
       refine pT ?_
       refine tQ ?_
       have cE:=hb4.cell
       have fE:=hb4.frozen
       (refine zN rfl rfl rfl rfl (fun K hK=>?_))
       go_simp
       refine hK.out _ _ ?_
       refine zag ?_
       go_wp2_with fail
       go_meet
       exact⟨_,rfl,new_fill (s:=tailS z) hx3 hlen.out hown3 hb4 (Nat.le_refl _)⟩
   case rest =>
     obtain⟨GG,rfl,B3,n3,c3,hx7,b3,h3⟩:=hcut
     replace hcur:=hcur.trans hx7
     replace h2:=h2.trans hx7
     have k3:=b3.cells
     have hcxc:∀ W,Ext wc W→W.cell? ⟨g,0,none⟩=some (.int .i64 x.al)∧W.cell? ⟨g,1,none⟩=some (.int .i64 x.st)∧W.cell? ⟨g,2,none⟩=some (.slice Bx nx_ cx)∧W.cell? ⟨g,3,none⟩=some (.int .i64 y.al)∧W.cell? ⟨g,4,none⟩=some (.int .i64 y.st)∧W.cell? ⟨g,5,none⟩=some (.slice By ny cy):=fun W hW=>by
      obtain⟨a0,a1,a2,a3,a4,a5,-⟩:=hcx W (h2.trans hW)
      exact⟨a0,a1,a2,a3,a4,a5⟩
     have cPc:∀ W,Ext wc W→∀ j,W.cell? ⟨G,j,none⟩=#[Value.int .i64 p.al,.slice A n c1,.slice A' n' c2][j]?:=fun W hW=>cP W (h2.trans hW)
     have cCc:∀ W,Ext wc W→∀ j,W.cell? ⟨G+1,j,none⟩=#[Value.int .i64 f.al,.slice B m d,.slice B' m' d',.int .i64 u.al,.slice C q e1,.slice C' q' e1'][j]?:=fun W hW=>cC W (h2.trans hW)
     clear cP cC hcx
     have hxc:=Ext.refl wc
     go_upto_region 8 with fail
     have hxd:Ext wc wc.drew:=hxc.drew
     refine uR (fun X=>Ext wc X) [10] (OrdU.of [0,1,2,3,4,5,6,8,9,7,10,11,12]) ?_
     refine uQ ?_
     generalize wc.drew=wd at *
     (refine zb rfl rfl rfl (fun K hK=>?_);go_simp)
     have hxa:=hxd.alloc (.cells #[.int .i64 x.al,.int .i64 x.st,.slice Bx nx_ cx,.int .i64 y.al,.int .i64 y.st,.slice By ny cy,.int .i64 (tailS z).al,.int .i64 (tailS z).st,.slice B3 n3 c3] 39)
     have hxa1:=(Ext.refl wd).alloc (.cells #[.int .i64 x.al,.int .i64 x.st,.slice Bx nx_ cx,.int .i64 y.al,.int .i64 y.st,.slice By ny cy,.int .i64 (tailS z).al,.int .i64 (tailS z).st,.slice B3 n3 c3] 39)
     obtain⟨lo3,hi3,hsl3⟩:=sl_three (Blk.new wd 39 #[.int .i64 x.al,.int .i64 x.st,.slice Bx nx_ cx,.int .i64 y.al,.int .i64 y.st,.slice By ny cy,.int .i64 (tailS z).al,.int .i64 (tailS z).st,.slice B3 n3 c3]) ((HX.out _ (hcur.trans hxd)).ext hxa1) ((HY.out _ (hcur.trans hxd)).ext hxa1) ((h3.ext hxd).ext hxa1)
     have HC:=hide (impl_ChainFault (c:=3) (d1:=c1) (d1':=c2) (d2:=d) (d2':=d') (d3:=e1) (d3':=e1') hsl3 (HP.out _ (hcur.trans hxa)) (HF.out _ (hcur.trans hxa)) (HU.out _ (hcur.trans hxa)) (HTw.out _ (hcur.trans hxa)))
     rw [hz2.out] at HC
     clear hsl3 hxa1
     refine hK.out _ _ hxa ?_
     refine pT ?_
     (refine za rfl rfl rfl rfl (fun K hK=>?_))
     go_simp
     refine HC.out.mono ?_
     rintro e wy ⟨rfl,hy⟩
     refine hK.out _ _ ?_
     refine pT ?_
     refine uQ ?_
     refine zd ?_
     go_wp2_with fail
     go_ret
     exact⟨zk (by simp),hx1.trans (hcur.trans (hxa.trans hy))⟩
end Go.Proofs.YtndhahednhnnbaaGreatDoor
