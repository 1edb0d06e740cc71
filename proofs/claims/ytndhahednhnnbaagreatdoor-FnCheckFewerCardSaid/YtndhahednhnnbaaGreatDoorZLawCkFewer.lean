/- The law FnCheckFewer, walked: it answers true, and leaves all old memory as it was; printed by gen_lawck.py. -/
import Derived.Test.YtndhahednhnnbaaGreatDoorG15
namespace Go.Proofs.YtndhahednhnnbaaGreatDoor
open Go Go.RowKit
set_option maxHeartbeats 4000000
theorem yZLawCkFewera1 {P:Prop}(h:P:=by
 go_wp2_with (first
  |(go_at_call 25;with_reducible refine (HI.out _ hcur).mono ?_;rintro e wz ⟨rfl,hz⟩;replace hcur:=hcur.trans hz;replace h2:=h2.trans hz;clear hz)
  |(go_at_call 26;with_reducible refine (HR.out _ hcur).mono ?_;rintro e wz ⟨rfl,hz⟩;replace hcur:=hcur.trans hz;replace h2:=h2.trans hz;clear hz)
  |(go_at_call 27;with_reducible refine (HV.out _ hcur).mono ?_;rintro e wz ⟨rfl,hz⟩;replace hcur:=hcur.trans hz;replace h2:=h2.trans hz;clear hz))
 go_ret
 exact⟨zi (by simp),hx1.trans hcur⟩
 ):P:=h
set_option maxRecDepth 100000 in
theorem law_CheckFewer {A0:Option Addr} {n0 c0:Nat} {w:World}(h:Bytes w A0 n0)(hn:n0≤9223372036854775807)(hc:n0≤c0)(hc2:c0≤9223372036854775807)(hT:Tab w) :
  Calls Tryz.prog 8 #[.slice A0 n0 c0] w fun e w'=>e=.returned (.bool true)∧Ext w w':=by
 have Hh:=hide h
 have HT:=hide (fun W (hW:Ext w W)=>hT.ext hW)
 clear h hT
 by_cases hbig:1048576<n0
 ·have hbig':(1048576:Int)<(n0:Int):=by omega
  go_enter Tryz.func8,Tryz.ntmps8
  go_wp2
  go_ret
  exact⟨rfl,Ext.refl _⟩
 have hbig':(n0:Int)≤1048576:=by omega
 clear hbig
 go_enter Tryz.func8,Tryz.ntmps8
 go_upto_region 4 with (first
  |(go_at_call 24;refine (zgI Hh.out hn hc hc2).mono ?_;rintro e w1 ⟨s,A,n,c,t,C,k,c2,p,B,m,d,B',m',d',hd,a,D,q,f,D',q',f',x,rfl,⟨hs,ht,hp,ha⟩,hsz,hx1⟩))
 clear hbig' hn hc hc2
 have Hsz:=hide hsz.out
 have hxs:=hide (show x.size≤9223372036854775807 from Nat.le_trans Hsz.out.2.2.2 (by omega))
 have HS:=hide (fun W (hW:Ext w1 W)=>hs.ext hW)
 have HU:=hide (fun W (hW:Ext w1 W)=>ht.ext hW)
 have HP:=hide (fun W (hW:Ext w1 W)=>hp.ext hW)
 have HA:=hide (fun W (hW:Ext w1 W)=>ha.ext hW)
 have HTw:=hide (fun W (hW:Ext w1 W)=>HT.out W (hx1.trans hW))
 have hcur:Ext w1 ((((w1.alloc (.cells #[.int .i64 s.al,.int .i64 s.st,.slice A n c] 39)).alloc (.cells #[.int .i64 t.al,.int .i64 t.st,.slice C k c2] 39)).alloc (.cells #[.int .i64 p.al,.slice B m d,.slice B' m' d'] 27)).alloc (.cells #[.bool hd,.int .i64 a.al,.slice D q f,.slice D' q' f',.string x] 45)):=((((Ext.refl _).alloc _).alloc _).alloc _).alloc _
 obtain⟨b1,b2,b3,b4⟩:=zeJ (Ext.refl ((((w1.alloc (.cells #[.int .i64 s.al,.int .i64 s.st,.slice A n c] 39)).alloc (.cells #[.int .i64 t.al,.int .i64 t.st,.slice C k c2] 39)).alloc (.cells #[.int .i64 p.al,.slice B m d,.slice B' m' d'] 27)).alloc (.cells #[.bool hd,.int .i64 a.al,.slice D q f,.slice D' q' f',.string x] 45)))
 clear hs ht hp ha hsz Hh HT
 generalize (((w1.alloc (.cells #[.int .i64 s.al,.int .i64 s.st,.slice A n c] 39)).alloc (.cells #[.int .i64 t.al,.int .i64 t.st,.slice C k c2] 39)).alloc (.cells #[.int .i64 p.al,.slice B m d,.slice B' m' d'] 27)).alloc (.cells #[.bool hd,.int .i64 a.al,.slice D q f,.slice D' q' f',.string x] 45)=w2 at *
 generalize w1.heap.size=G at *
 have cS:=b1.cells
 have cT:=b2.cells
 have cP:=b3.cells
 have cC:=b4.cells
 have cPa:∀ W o,Ext w2 W→∀ j,(W.alloc o).cell? ⟨G+1+1,j,none⟩=#[Value.int .i64 p.al,.slice B m d,.slice B' m' d'][j]?:=fun W o hW=>(b3.ext (hW.alloc o)).cell
 have cCa:∀ W o,Ext w2 W→∀ j,(W.alloc o).cell? ⟨G+1+1+1,j,none⟩=#[Value.bool hd,.int .i64 a.al,.slice D q f,.slice D' q' f',.string x][j]?:=fun W o hW=>(b4.ext (hW.alloc o)).cell
 have h2:=Ext.refl w2
 clear b1 b2 b3 b4
 have HI:=hide (fun W (hW:Ext w1 W)=>impl_CheckCertificate (c:=c) (d1:=d) (d1':=d') (c2:=c2) (d2:=f) (d2':=f') (hd:=hd) (x:=x) (HS.out _ hW) (HU.out _ hW) (HP.out _ hW) (HA.out _ hW) hxs.out (HTw.out _ hW))
 have HR:=hide (fun W (hW:Ext w1 W)=>spec_CheckCertificate (c:=c) (d1:=d) (d1':=d') (c2:=c2) (d2:=f) (d2':=f') (hd:=hd) (x:=x) (HS.out _ hW) (HU.out _ hW) (HP.out _ hW) (HA.out _ hW) hxs.out)
 have HV:=hide (fun W (hW:Ext w1 W)=>zdt _ _ _ _ f _ _ f' hd _ x _ (HA.out _ hW) hxs.out)
 by_cases hz:zaR s t p hd a x=0
 case neg =>
  have z0:(zaR s t p hd a x != 0)=true:=by simpa using hz
  generalize zaR s t p hd a x=z at *
  clear hz
  exact yZLawCkFewera1
 case pos =>
  cases hd
  case false =>
   rw [hz] at HI HR
   exact yZLawCkFewera1
  case true =>
   have hv:zk t=true:=by
    have:=(zdm.1 hz).2
    exact (zcG (zcV.1 this).1).2.2
   have hv2:=valid_tail hv
   have hv3:zk ⟨t.al,t.st,[]⟩=true:=by
    simp only [zk,Bool.and_eq_true,decide_eq_true_eq] at hv ⊢
    exact⟨hv.1,hv.2.1,by simp⟩
   have hz2:=hide (check_fewer (t:=t) (u:=tailS t) hv2 rfl (fun e (he:e∈t.edges.drop 1)=>List.mem_of_mem_drop he) hz)
   have hz3:=hide (check_fewer (t:=t) (u:=⟨t.al,t.st,[]⟩) hv3 rfl (fun e he=>by cases he) hz)
   have HI2:=hide (fun W (hW:Ext w1 W) (lo hi n3 c3:Nat) (B3:Option Addr) (h3:zO W lo hi B3 n3 (tailS t))=>impl_CheckCertificate (c:=c) (d1:=d) (d1':=d') (c2:=c3) (d2:=f) (d2':=f') (hd:=true) (x:=x) (HS.out _ hW) h3 (HP.out _ hW) (HA.out _ hW) hxs.out (HTw.out _ hW))
   have HI3:=hide (fun W (hW:Ext w1 W)=>impl_CheckCertificate (c:=c) (d1:=d) (d1':=d') (c2:=0) (d2:=f) (d2':=f') (hd:=true) (x:=x) (lo2:=0) (hi2:=0) (C:=none) (k:=0) (t:=⟨t.al,t.st,[]⟩) (HS.out _ hW) ⟨rfl,Reads.nil⟩ (HP.out _ hW) (HA.out _ hW) hxs.out (HTw.out _ hW))
   rw [hz] at HI HR
   clear hv hv2 hv3 hz
   have hkl:=hide (HU.out w1 (Ext.refl _)).1
   have hkc:=hide Hsz.out.1.2
   by_cases hk0:k=0
   ·subst hk0
    exact yZLawCkFewera1
   ·obtain⟨m1,rfl⟩:∃ m1,k=m1+1:=⟨k - 1,by omega⟩
    have hm0:((m1:Int)+1==0)=false:=by simp;omega
    obtain⟨ad,hadB,_,_,_⟩:=(HU.out w1 (Ext.refl _)).2.at_ (k:=0) (by omega)
    subst hadB
    clear hk0
    go_upto_region 7 with (first
     |(go_at_call 25;with_reducible refine (HI.out _ hcur).mono ?_;rintro e wz ⟨rfl,hz⟩;replace hcur:=hcur.trans hz;replace h2:=h2.trans hz;clear hz)
     |(go_at_call 26;with_reducible refine (HR.out _ hcur).mono ?_;rintro e wz ⟨rfl,hz⟩;replace hcur:=hcur.trans hz;replace h2:=h2.trans hz;clear hz)
     |(go_at_call 27;with_reducible refine (HV.out _ hcur).mono ?_;rintro e wz ⟨rfl,hz⟩;replace hcur:=hcur.trans hz;replace h2:=h2.trans hz;clear hz))
    obtain⟨w6,hw6⟩:∃ w6,w6=wz:=⟨_,rfl⟩
    subst hw6
    have HS6:=hide (HU.out _ hcur)
    have hm1:(1:Int)≤(m1:Int)+1:=by omega
    go_cut [8] (fun v wx=>∃ G:Nat,v=.pointer (some ⟨G,0,none⟩)∧NewSys w6 wx G (tailS t))
    case first =>
     have cG:∀ W,Ext w6 W→∀ q,W.cell? ⟨G+1,q,none⟩=#[Value.int .i64 t.al,.int .i64 t.st,.slice (some ad) (m1+1) c2][q]?:=fun W hW=>cT W (h2.trans hW)
     have hlen0:=hide (show m1=(tailS t).edges.length by have:=hkl.out;simp [tailS];omega)
     have hmc:m1+1≤c2∧m1+1≤100000:=⟨hkc.out.2,hkc.out.1⟩
     clear cS cT cP cC cPa cCa HI HR HV HI2 HI3 hz2 hz3
     by_cases hc1:c2=1
     ·obtain rfl:m1=0:=by omega
      have hlen:=hlen0.out
      have hnil:t.edges.drop 1=[]:=List.eq_nil_of_length_eq_zero hlen.symm
      have hsl:Reads w6 w.heap.size G 3 (some ad) 0 (zo (t.edges.drop 1)):=by rw [hnil];exact⟨rfl,by omega,fun h=>absurd h (by omega)⟩
      have Hlen:=hide hlen
      clear hnil hlen
      subst hc1
      refine tR (fun X=>Ext w6 X) [11] (Ord.app [0,1,2,3,5,6,7] (Ord.two 4 (Ord.two 8 (Ord.of [9,10,11]) 10 (Ord.of [8,9,11])) 10 (Ord.of [4,8,9,11]))) ?_
      refine tQ ?_
      refine zeC rfl rfl rfl rfl (fun K hK=>?_) (fun K hK=>?_)
      ·go_simp
       have hx2:Ext w6 (w6.alloc (.cells #[] 126)).drew:=((Ext.refl w6).alloc _).drew
       have hown:(w6.alloc (.cells #[] 126)).drew.ownsRow w6.heap.size 126 3 (.slice (some ⟨w6.heap.size,0,none⟩) 0 0) 0 []:=edge_lit w6
       have hz2:(w6.alloc (.cells #[] 126)).drew.heap.size=w6.heap.size+1:=by simp
       refine hK.out _ _ hx2 ?_
       refine pT ?_
       generalize (w6.alloc (.cells #[] 126)).drew=w7 at *
       refine zeC rfl rfl rfl rfl (fun K hK=>?_) (fun K hK=>?_)
       ·refine zu _ _ _ _ rfl w6.heap.size 126 _ 3 24 Tryz.underlying37 zbd rfl (by decide) (.slice (some ⟨w6.heap.size,0,none⟩) 0 0) 0 [] rfl hown _ _ _ _ _ (zo (t.edges.drop 1)) rfl (hsl.ext hx2) (zcW _) (by unfold maxLen;omega) (by omega) hx2.size ?_
        intro v w3 hown3 hg3 hat3
        rw [Nat.zero_add,List.nil_append] at hown3
        obtain⟨A3,c3,rfl⟩:=zh hown3
        have hx3:Ext w6 w3:=hx2.grown hg3 (fun k hk=>by simp [Value.ownBlock] at hk;omega)
        refine hK.out _ _ hx3 ?_
        refine pT ?_
        refine tQ ?_
        (refine zx rfl rfl rfl (fun K hK=>?_);go_simp)
        refine hK.out _ _ (hx3.alloc _) ?_
        refine pT ?_
        refine tQ ?_
        (refine zM rfl rfl rfl rfl (fun K hK=>?_))
        go_simp
        refine hK.out _ _ ?_
        refine zaf ?_
        go_wp2_with fail
        go_meet
        exact⟨w3.heap.size,rfl,new_alloc (s:=tailS t) hx3 Hlen.out hown3⟩
       ·go_simp
        have hx2':=hx2.alloc (.cells #[.int .i64 0,.int .i64 0,.slice none 0 0] 39)
        have hx22:=(Ext.refl w7).alloc (.cells #[.int .i64 0,.int .i64 0,.slice none 0 0] 39)
        have hb3:=Blk.new w7 39 #[.int .i64 0,.int .i64 0,.slice none 0 0]
        replace hown:=zg hown hx22
        refine hK.out _ _ hx2' ?_
        generalize w7.alloc (.cells #[.int .i64 0,.int .i64 0,.slice none 0 0] 39)=w8 at *
        rw [hz2] at hb3
        refine pT ?_
        refine zx rfl rfl rfl (fun K hK=>?_)
        refine zu _ _ _ _ rfl w6.heap.size 126 _ 3 24 Tryz.underlying37 zbd rfl (by decide) (.slice (some ⟨w6.heap.size,0,none⟩) 0 0) 0 [] rfl hown _ _ _ _ _ (zo (t.edges.drop 1)) rfl (hsl.ext hx2') (zcW _) (by unfold maxLen;omega) (by omega) hx2'.size ?_
        intro v w3 hown3 hg3 hat3
        rw [Nat.zero_add,List.nil_append] at hown3
        obtain⟨A3,c3,rfl⟩:=zh hown3
        have hx3:Ext w6 w3:=hx2'.grown hg3 (fun k hk=>by simp [Value.ownBlock] at hk;omega)
        have hb4:Blk w3 (w6.heap.size+1) 39 #[.int .i64 0,.int .i64 0,.slice none 0 0]:=hb3.frm (Frm.of_grown hg3) (by simp [Value.ownBlock])
        refine hK.out _ _ hx3 ?_
        refine pT ?_
        refine tQ ?_
        have cE:=hb4.cell
        have fE:=hb4.frozen
        (refine zM rfl rfl rfl rfl (fun K hK=>?_))
        go_simp
        refine hK.out _ _ ?_
        refine zaf ?_
        go_wp2_with fail
        go_meet
        exact⟨_,rfl,new_fill (s:=tailS t) hx3 Hlen.out hown3 hb4 (by omega)⟩
      ·go_simp
       have hx2:Ext w6 (w6.alloc (.cells #[.int .i64 0,.int .i64 0,.slice none 0 0] 39)).drew:=((Ext.refl w6).alloc _).drew
       have hb2:Blk (w6.alloc (.cells #[.int .i64 0,.int .i64 0,.slice none 0 0] 39)).drew w6.heap.size 39 #[.int .i64 0,.int .i64 0,.slice none 0 0]:=Blk.new w6 _ _
       have hz2:(w6.alloc (.cells #[.int .i64 0,.int .i64 0,.slice none 0 0] 39)).drew.heap.size=w6.heap.size+1:=by simp
       refine hK.out _ _ hx2 ?_
       refine pT ?_
       generalize (w6.alloc (.cells #[.int .i64 0,.int .i64 0,.slice none 0 0] 39)).drew=w7 at *
       (refine zx rfl rfl rfl (fun K hK=>?_);go_simp)
       have hx2':=hx2.alloc (.cells #[] 126)
       have hown:(w7.alloc (.cells #[] 126)).ownsRow w6.heap.size 126 3 (.slice (some ⟨w6.heap.size+1,0,none⟩) 0 0) 0 []:=by
        rw [← hz2]
        exact World.ownsRow_lit w7 #[] 0 hx2.size (by unfold maxLen;omega) rfl
       have hb3:=hb2.ext ((Ext.refl w7).alloc (.cells #[] 126))
       refine hK.out _ _ hx2' ?_
       generalize w7.alloc (.cells #[] 126)=w8 at *
       refine pT ?_
       refine zx rfl rfl rfl (fun K hK=>?_)
       refine zu _ _ _ _ rfl w6.heap.size 126 _ 3 24 Tryz.underlying37 zbd rfl (by decide) (.slice (some ⟨w6.heap.size+1,0,none⟩) 0 0) 0 [] rfl hown _ _ _ _ _ (zo (t.edges.drop 1)) rfl (hsl.ext hx2') (zcW _) (by unfold maxLen;omega) (by omega) hx2'.size ?_
       intro v w3 hown3 hg3 hat3
       rw [Nat.zero_add,List.nil_append] at hown3
       obtain⟨A3,c3,rfl⟩:=zh hown3
       have hx3:Ext w6 w3:=hx2'.grown hg3 (fun k hk=>by simp [Value.ownBlock] at hk;omega)
       have hb4:Blk w3 w6.heap.size 39 #[.int .i64 0,.int .i64 0,.slice none 0 0]:=hb3.frm (Frm.of_grown hg3) (by simp [Value.ownBlock])
       refine hK.out _ _ hx3 ?_
       refine pT ?_
       refine tQ ?_
       have cE:=hb4.cell
       have fE:=hb4.frozen
       (refine zM rfl rfl rfl rfl (fun K hK=>?_))
       go_simp
       refine hK.out _ _ ?_
       refine zaf ?_
       go_wp2_with fail
       go_meet
       exact⟨_,rfl,new_fill (s:=tailS t) hx3 Hlen.out hown3 hb4 (Nat.le_refl _)⟩
     ·have hlen:=hlen0
      have hsl:Reads w6 w.heap.size G 3 (some (ad.add 3)) m1 (zo (t.edges.drop 1)):=HS6.out.tail
      refine tR (fun X=>Ext w6 X) [11] (Ord.app [0,1,2,3,5,6,7] (Ord.two 4 (Ord.two 8 (Ord.of [9,10,11]) 10 (Ord.of [8,9,11])) 10 (Ord.of [4,8,9,11]))) ?_
      refine tQ ?_
      refine zeC rfl rfl rfl rfl (fun K hK=>?_) (fun K hK=>?_)
      ·go_simp
       have hx2:Ext w6 (w6.alloc (.cells #[] 126)).drew:=((Ext.refl w6).alloc _).drew
       have hown:(w6.alloc (.cells #[] 126)).drew.ownsRow w6.heap.size 126 3 (.slice (some ⟨w6.heap.size,0,none⟩) 0 0) 0 []:=edge_lit w6
       have hz2:(w6.alloc (.cells #[] 126)).drew.heap.size=w6.heap.size+1:=by simp
       refine hK.out _ _ hx2 ?_
       refine pT ?_
       generalize (w6.alloc (.cells #[] 126)).drew=w7 at *
       refine zeC rfl rfl rfl rfl (fun K hK=>?_) (fun K hK=>?_)
       ·refine zu _ _ _ _ rfl w6.heap.size 126 _ 3 24 Tryz.underlying37 zbd rfl (by decide) (.slice (some ⟨w6.heap.size,0,none⟩) 0 0) 0 [] rfl hown _ _ _ _ _ (zo (t.edges.drop 1)) rfl (hsl.ext hx2) (zcW _) (by unfold maxLen;omega) (by omega) hx2.size ?_
        intro v w3 hown3 hg3 hat3
        rw [Nat.zero_add,List.nil_append] at hown3
        obtain⟨A3,c3,rfl⟩:=zh hown3
        have hx3:Ext w6 w3:=hx2.grown hg3 (fun k hk=>by simp [Value.ownBlock] at hk;omega)
        refine hK.out _ _ hx3 ?_
        refine pT ?_
        refine tQ ?_
        (refine zx rfl rfl rfl (fun K hK=>?_);go_simp)
        refine hK.out _ _ (hx3.alloc _) ?_
        refine pT ?_
        refine tQ ?_
        (refine zM rfl rfl rfl rfl (fun K hK=>?_))
        go_simp
        refine hK.out _ _ ?_
        refine zaf ?_
        go_wp2_with fail
        go_meet
        exact⟨w3.heap.size,rfl,new_alloc (s:=tailS t) hx3 hlen.out hown3⟩
       ·go_simp
        have hx2':=hx2.alloc (.cells #[.int .i64 0,.int .i64 0,.slice none 0 0] 39)
        have hx22:=(Ext.refl w7).alloc (.cells #[.int .i64 0,.int .i64 0,.slice none 0 0] 39)
        have hb3:=Blk.new w7 39 #[.int .i64 0,.int .i64 0,.slice none 0 0]
        replace hown:=zg hown hx22
        refine hK.out _ _ hx2' ?_
        generalize w7.alloc (.cells #[.int .i64 0,.int .i64 0,.slice none 0 0] 39)=w8 at *
        rw [hz2] at hb3
        refine pT ?_
        refine zx rfl rfl rfl (fun K hK=>?_)
        refine zu _ _ _ _ rfl w6.heap.size 126 _ 3 24 Tryz.underlying37 zbd rfl (by decide) (.slice (some ⟨w6.heap.size,0,none⟩) 0 0) 0 [] rfl hown _ _ _ _ _ (zo (t.edges.drop 1)) rfl (hsl.ext hx2') (zcW _) (by unfold maxLen;omega) (by omega) hx2'.size ?_
        intro v w3 hown3 hg3 hat3
        rw [Nat.zero_add,List.nil_append] at hown3
        obtain⟨A3,c3,rfl⟩:=zh hown3
        have hx3:Ext w6 w3:=hx2'.grown hg3 (fun k hk=>by simp [Value.ownBlock] at hk;omega)
        have hb4:Blk w3 (w6.heap.size+1) 39 #[.int .i64 0,.int .i64 0,.slice none 0 0]:=hb3.frm (Frm.of_grown hg3) (by simp [Value.ownBlock])
        refine hK.out _ _ hx3 ?_
        refine pT ?_
        refine tQ ?_
        have cE:=hb4.cell
        have fE:=hb4.frozen
        (refine zM rfl rfl rfl rfl (fun K hK=>?_))
        go_simp
        refine hK.out _ _ ?_
        refine zaf ?_
        go_wp2_with fail
        go_meet
        exact⟨_,rfl,new_fill (s:=tailS t) hx3 hlen.out hown3 hb4 (by omega)⟩
      ·go_simp
       have hx2:Ext w6 (w6.alloc (.cells #[.int .i64 0,.int .i64 0,.slice none 0 0] 39)).drew:=((Ext.refl w6).alloc _).drew
       have hb2:Blk (w6.alloc (.cells #[.int .i64 0,.int .i64 0,.slice none 0 0] 39)).drew w6.heap.size 39 #[.int .i64 0,.int .i64 0,.slice none 0 0]:=Blk.new w6 _ _
       have hz2:(w6.alloc (.cells #[.int .i64 0,.int .i64 0,.slice none 0 0] 39)).drew.heap.size=w6.heap.size+1:=by simp
       refine hK.out _ _ hx2 ?_
       refine pT ?_
       generalize (w6.alloc (.cells #[.int .i64 0,.int .i64 0,.slice none 0 0] 39)).drew=w7 at *
       (refine zx rfl rfl rfl (fun K hK=>?_);go_simp)
       have hx2':=hx2.alloc (.cells #[] 126)
       have hown:(w7.alloc (.cells #[] 126)).ownsRow w6.heap.size 126 3 (.slice (some ⟨w6.heap.size+1,0,none⟩) 0 0) 0 []:=by
        rw [← hz2]
        exact World.ownsRow_lit w7 #[] 0 hx2.size (by unfold maxLen;omega) rfl
       have hb3:=hb2.ext ((Ext.refl w7).alloc (.cells #[] 126))
       refine hK.out _ _ hx2' ?_
       generalize w7.alloc (.cells #[] 126)=w8 at *
       refine pT ?_
       refine zx rfl rfl rfl (fun K hK=>?_)
       refine zu _ _ _ _ rfl w6.heap.size 126 _ 3 24 Tryz.underlying37 zbd rfl (by decide) (.slice (some ⟨w6.heap.size+1,0,none⟩) 0 0) 0 [] rfl hown _ _ _ _ _ (zo (t.edges.drop 1)) rfl (hsl.ext hx2') (zcW _) (by unfold maxLen;omega) (by omega) hx2'.size ?_
       intro v w3 hown3 hg3 hat3
       rw [Nat.zero_add,List.nil_append] at hown3
       obtain⟨A3,c3,rfl⟩:=zh hown3
       have hx3:Ext w6 w3:=hx2'.grown hg3 (fun k hk=>by simp [Value.ownBlock] at hk;omega)
       have hb4:Blk w3 w6.heap.size 39 #[.int .i64 0,.int .i64 0,.slice none 0 0]:=hb3.frm (Frm.of_grown hg3) (by simp [Value.ownBlock])
       refine hK.out _ _ hx3 ?_
       refine pT ?_
       refine tQ ?_
       have cE:=hb4.cell
       have fE:=hb4.frozen
       (refine zM rfl rfl rfl rfl (fun K hK=>?_))
       go_simp
       refine hK.out _ _ ?_
       refine zaf ?_
       go_wp2_with fail
       go_meet
       exact⟨_,rfl,new_fill (s:=tailS t) hx3 hlen.out hown3 hb4 (Nat.le_refl _)⟩
    case rest =>
     obtain⟨GG,rfl,B3,n3,c3,hx7,b3,h3⟩:=hcut
     replace hcur:=hcur.trans hx7
     replace h2:=h2.trans hx7
     have k3:=b3.cells
     have hl3:=b3.lt
     go_upto_region 9 with fail
     have hx8:=(Ext.refl wc).alloc (.cells #[.int .i64 t.al,.int .i64 t.st,.slice none 0 0] 39)
     have b8:=Blk.new wc 39 #[.int .i64 t.al,.int .i64 t.st,.slice none 0 0]
     replace hcur:=hcur.trans hx8
     replace h2:=h2.trans hx8
     replace h3:=h3.ext hx8
     have k3':∀ W,Ext (wc.alloc (.cells #[.int .i64 t.al,.int .i64 t.st,.slice none 0 0] 39)) W→∀ q,W.cell? ⟨GG,q,none⟩=#[Value.int .i64 (tailS t).al,.int .i64 (tailS t).st,.slice B3 n3 c3][q]?:=fun W hW=>k3 W (hx8.trans hW)
     have k8:∀ W,Ext (wc.alloc (.cells #[.int .i64 t.al,.int .i64 t.st,.slice none 0 0] 39)) W→∀ q,W.cell? ⟨wc.heap.size,q,none⟩=#[Value.int .i64 t.al,.int .i64 t.st,.slice none 0 0][q]?:=fun W hW=>(b8.ext hW).cell
     clear b8 b3 k3 hx8
     generalize wc.alloc (.cells #[.int .i64 t.al,.int .i64 t.st,.slice none 0 0] 39)=w9 at *
     have hx9:=Ext.refl w9
     have HX:=hide (HI2.out _ hcur _ _ n3 c3 _ h3)
     rw [hz2.out] at HX
     rw [hz3.out] at HI3
     go_wp2_with (first
      |(go_at_call 25;with_reducible refine (HX.out).mono ?_;rintro e wz ⟨rfl,hz⟩;replace hcur:=hcur.trans hz;replace h2:=h2.trans hz;replace hx9:=hx9.trans hz;clear hz)
      |(go_at_call 25;with_reducible refine (HI3.out _ hcur).mono ?_;rintro e wz ⟨rfl,hz⟩;replace hcur:=hcur.trans hz;replace h2:=h2.trans hz;replace hx9:=hx9.trans hz;clear hz))
     go_ret
     exact⟨zi (by simp),hx1.trans hcur⟩
end Go.Proofs.YtndhahednhnnbaaGreatDoor
