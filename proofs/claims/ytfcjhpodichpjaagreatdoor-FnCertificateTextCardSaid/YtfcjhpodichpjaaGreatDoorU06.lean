/- spec.l1Word -/
import Derived.Test.YtfcjhpodichpjaaGreatDoorU03
import Derived.Test.YtfcjhpodichpjaaGreatDoorU05
import Derived.Test.YtfcjhpodichpjaaGreatDoorU02
import Derived.OwnWalk
import Derived.Test.YtfcjhpodichpjaaGreatDoorU01
import Derived.Deep.DeepCutAuto
import Derived.Deep.CutBlock
import Derived.Test.YtfcjhpodichpjaaGreatDoorU04
import Derived.Deep.AppendLies
set_option maxHeartbeats 4000000
set_option maxRecDepth 100000
namespace Go.Proofs.YtfcjhpodichpjaaGreatDoor
open Go Go.RowKit
def RetSd (R M L:Nat) (w:World) (e:Ending) (w':World):Prop:=∃ x:ByteArray,e=.returned (.string x)∧x.size≤L∧Rd w' R M∧Dr R w w'
theorem SLAt.dr {w w':World} {R lo hi n:Nat} {A:Option Addr} {ss:List Sys}(h:SLAt w lo hi A n ss)(hd:Dr R w w')(hl:R<lo):SLAt w' lo hi A n ss:=by
 obtain⟨e,cells,hr,hx⟩:=h
 refine⟨e,cells,hr.dr hd hl,fun k s hs=>?_⟩
 obtain⟨B,m,c,h0,h1,h2,h3⟩:=hx k s hs
 exact⟨B,m,c,h0,h1,h2,h3.1,h3.2.dr hd hl⟩
theorem spec_l1Word {R M a q:Nat} {w:World}(h:Rd w R M)(hM:M≤900000000)(ha:a<64)(hq:q≤1000) :
  Calls Tryz.prog 77 #[.pointer (some ⟨R,0,none⟩),.int .i64 a,.int .i64 q] w (RetSd R (M+q+2) q w):=by
 have hRl:=h.lt
 go_enter Tryz.func77,Tryz.ntmps77
 go_wp2_with fail
 refine (zJ a (by unfold Sm;omega) _).mono ?_
 rintro e w1 ⟨B,d,rfl,zhS,hx1⟩
 have hl6:=zq a 6
 have hlm:=za (fun k (hk:k∈letters a 6)=>(zaH.1 hk).1)
 have hrd:=(Reads.of_own zhS)
 have hr1:=h.ext hx1
 clear zhS h
 generalize letters a 6=ls at *
 go_wp2_with fail
 refine (zv hr1 (by omega)).mono ?_
 rintro e w2 ⟨k0,rfl,hk0,-,hr2,hd2⟩
 have hk0q:k0≤q:=by have:=hk0 (by omega);omega
 have hrd2:=hrd.dr hd2 hRl
 have hw2:Dr R w w2:=hx1.dr.trans hd2
 have hst:Hid ((⟨#[]⟩:ByteArray).size+k0≤q):=za (by show 0+k0≤q;omega)
 clear hk0 hrd hr1 hd2 hx1
 go_wp2_with fail
 go_loopw [8,9] (fun v i wr=>∃ (x:ByteArray) (j:Nat),v=.string x∧i=.int .i64 j∧j≤k0∧Hid (x.size+j≤q)∧Rd wr R (M+1+(k0 - j))∧Dr R w2 wr) (fun _ i _=>(intOf i).toNat)
 case atStart=>exact⟨_,k0,rfl,rfl,Nat.le_refl _,hst,hr2.more (by omega),Dr.refl _ _⟩
 case round =>
  clear hst
  obtain⟨x,j,rfl,rfl,hj,hxj,hr,hd⟩:=hrel
  by_cases h0:0<j∧0<ls.length
  ·obtain⟨h0,h1⟩:=h0
   have h0':(j:Int)>0:=by omega
   have h1':(ls.length:Int)>0:=by omega
   go_wp2_with fail
   refine (zv (n:=ls.length) hr (by omega)).mono ?_
   rintro e w3 ⟨y,rfl,hy,-,hr3,hd3⟩
   have hyl:y<ls.length:=by have:=hy (by omega);omega
   obtain⟨ad,l,rfl,_,_,hl,hlc⟩:=((hrd2.dr hd hRl).dr hd3 hRl).nat hyl
   have hl6':=hlm.out l (List.mem_of_getElem? hl.out)
   clear hy
   go_wp2_with fail
   refine (zcA (l:=(l:Int)) (by omega) (by omega)).mono ?_
   rintro e w4 ⟨t,rfl,ht,hx4⟩
   have hst:x.size+t.size≤5000:=by have:=hxj.out;omega
   go_wp2_with fail
   go_roundw
   case rel=>exact⟨_,j - 1,rfl,by go_num,by omega,za (by rw [ByteArray.size_append];have:=hxj.out;omega),(hr3.ext hx4).more (by omega),(hd.trans hd3).ext hx4⟩
   case measure=>simp [intOf];omega
  ·by_cases h1:0<j
   ·have h0':(j:Int)>0:=by omega
    have h2:ls.length=0:=by omega
    have h2':¬ ((ls.length:Int)>0):=by omega
    go_wp2_with fail
    go_ret
    exact⟨x,rfl,by have:=hxj.out;omega,hr.more (by omega),hw2.trans hd⟩
   ·obtain rfl:j=0:=by omega
    go_wp2_with fail
    go_ret
    exact⟨x,rfl,by have:=hxj.out;omega,hr.more (by omega),hw2.trans hd⟩
theorem spec_l7Trace {R M q lo hi n c:Nat} {A:Option Addr} {ss:List Sys} {w:World}(h:Rd w R M)(hM:M≤900000000)(hs:SLAt w lo hi A n ss)(hlo:R<lo)(hq:q≤1000) :
  Calls Tryz.prog 76 #[.pointer (some ⟨R,0,none⟩),.slice A n c,.int .i64 q] w (RetSd R (M+2*q+2) q w):=by
 have hRl:=h.lt
 have HS:=za (fun W (hW:Dr R w W)=>hs.dr hW hlo)
 have HP:=za (zY (c:=c) hs)
 have hpc:=za (partsA_cases ss)
 clear hs
 go_enter Tryz.func76,Tryz.ntmps76
 go_wp2_with fail
 refine HP.out.mono ?_
 generalize zby ss=pa at *
 rintro e w1 ⟨rfl,hx1⟩
 have hr1:=h.ext hx1
 clear h HP
 go_wp2_with fail
 refine (zv hr1 (by omega)).mono ?_
 rintro e w2 ⟨k0,rfl,hk0,-,hr2,hd2⟩
 have hk0q:k0≤q:=by have:=hk0 (by omega);omega
 have hw2:Dr R w w2:=hx1.dr.trans hd2
 have hst:Hid ((⟨#[]⟩:ByteArray).size+k0≤q):=za (by show 0+k0≤q;omega)
 clear hk0 hr1 hd2 hx1
 go_wp2_with fail
 go_loopw [8,9,10,11,12,13] (fun v i _ _ _ _ wr=>∃ (x:ByteArray) (j:Nat),v=.string x∧i=.int .i64 j∧j≤k0∧Hid (x.size+j≤q)∧Rd wr R (M+1+(k0 - j))∧Dr R w2 wr) (fun _ i _ _ _ _ _=>(intOf i).toNat)
 case atStart=>exact⟨_,k0,rfl,rfl,Nat.le_refl _,hst,hr2.more (by omega),Dr.refl _ _⟩
 case round =>
  clear hst
  obtain⟨x,j,rfl,rfl,hj,hxj,hr,hd⟩:=hrel
  by_cases h0:0<j∧pa>0
  ·obtain⟨h0,h1⟩:=h0
   have h0':(j:Int)>0:=by omega
   obtain⟨a,hpa,ha⟩:∃ a:Nat,pa=(a:Int)∧a<64:=by
    rcases hpc.out with h|h
    ·exact h
    ·omega
   have h1':(a:Int)>0:=by omega
   subst hpa
   go_wp2_with fail
   refine (zJ a (by unfold Sm;omega) _).mono ?_
   rintro e w3 ⟨B,d,rfl,zhU,hx3⟩
   have hl6:=zq a 6
   have hlm:=za (fun k (hk:k∈letters a 6)=>(zaH.1 hk).1)
   have hrd:=(Reads.of_own zhU)
   have hRr:=hr.lt
   clear zhU
   generalize letters a 6=ls at *
   go_wp2_with fail
   refine (zv (n:=ls.length) (hr.ext hx3) (by omega)).mono ?_
   rintro e w4 ⟨y,rfl,hy,hy0,hr4,hd4⟩
   have hrd4:=hrd.dr hd4 hRr
   have hd04:Dr R w2 w4:=(hd.ext hx3).trans hd4
   have hyl:y≤6:=by
    rcases Nat.eq_zero_or_pos ls.length with h|h
    ·have:=hy0 (by omega);omega
    ·have:=hy (by omega);omega
   clear hy hy0 hrd hr hx3
   go_wp2_with fail
   go_loopw [8,12,13] (fun v iv _ wr=>∃ (i:Nat),v=.string x∧iv=.int .i64 i∧i≤ls.length∧Ext w4 wr) (fun _ iv _ _=>ls.length - (intOf iv).toNat)
   case atStart=>exact⟨0,rfl,rfl,Nat.zero_le _,Ext.refl _⟩
   case round =>
    obtain⟨i,rfl,rfl,hi,hxr⟩:=hrel
    by_cases hlt:i<ls.length
    ·have tm:((y:Int)+(i:Int)).tmod (ls.length:Int)=(((y+i) % ls.length:Nat):Int):=by rw [← Int.natCast_add];rfl
     have hml:(y+i) % ls.length<ls.length:=Nat.mod_lt _ (by omega)
     generalize (y+i) % ls.length=z at *
     obtain⟨ad,l,rfl,_,_,hl,hlc⟩:=(hrd4.ext hxr).nat hml
     have hl6':=hlm.out l (List.mem_of_getElem? hl.out)
     go_wp2_with fail
     refine (zcA (l:=(l:Int)) (by omega) (by omega)).mono ?_
     rintro e w5 ⟨t,rfl,ht,hx5⟩
     have hst:x.size+t.size≤5000:=by have:=hxj.out;omega
     have hxt:(x++t).size≤x.size+1:=by rw [ByteArray.size_append];omega
     go_wp2_with fail
     refine (zeD (t:=x++t) (HS.out _ (((hw2.trans hd04).ext hxr).ext hx5)) (by rw [ByteArray.size_append];omega)).mono ?_
     generalize topB ss (x++t)=b at *
     rintro e w6 ⟨rfl,hx6⟩
     have hx46:Ext w4 w6:=(hxr.trans hx5).trans hx6
     cases b
     ·go_wp2_with fail
      go_roundw
      case rel=>exact⟨i+1,rfl,by go_num,by omega,hx46⟩
      case measure=>simp [intOf];omega
     ·go_wp2_with fail
      go_roundw
      case rel=>exact⟨x++t,j - 1,rfl,by go_num,by omega,za (by have:=hxj.out;omega),(hr4.ext hx46).more (by omega),hd04.ext hx46⟩
      case measure=>simp [intOf];omega
    ·obtain rfl:i=ls.length:=by omega
     go_wp2_with fail
     go_roundw
     case rel=>exact⟨x,j - 1,rfl,by go_num,by omega,za (by have:=hxj.out;omega),(hr4.ext hxr).more (by omega),hd04.ext hxr⟩
     case measure=>simp [intOf];omega
  ·by_cases h1:0<j
   ·have h0':(j:Int)>0:=by omega
    have h2:¬ (pa>0):=by omega
    go_wp2_with fail
    go_ret
    exact⟨x,rfl,by have:=hxj.out;omega,hr.more (by omega),hw2.trans hd⟩
   ·obtain rfl:j=0:=by omega
    go_wp2_with fail
    go_ret
    exact⟨x,rfl,by have:=hxj.out;omega,hr.more (by omega),hw2.trans hd⟩
def zfW (s:Sys) (a p:Aut):Bool:=zr s&&(zh a&&zh p)
noncomputable def zeQ (s:Sys) (a p:Aut):Bool:=zfW s a p&&vioB [s] a p
noncomputable def zda (s:Sys) (a p:Aut):ByteArray:=if zfW s a p=true then vioW [s] a p else ByteArray.empty
def zgD (ss:List Sys) (p:Aut):Bool:=zU ss&&zh p
noncomputable def zeW (ss:List Sys) (p:Aut):Bool:=zgD ss p&&vioB ss free p
noncomputable def zbe (ss:List Sys) (p:Aut):ByteArray:=if zgD ss p=true then vioW ss free p else ByteArray.empty
section
variable {lo hi n c:Nat} {A:Option Addr} {s:Sys} {lo1 hi1 m1 d1 m1' d1':Nat} {B B':Option Addr} {a:Aut} {lo2 hi2 m2 d2 m2' d2':Nat} {C C':Option Addr} {p:Aut} {w:World}
theorem spec_l8Three (h:zah w lo hi A n s)(ha:zM w lo1 hi1 B m1 B' m1' a)(hp:zM w lo2 hi2 C m2 C' m2' p) :
  Calls Tryz.prog 145 #[.agg #[.int .i64 s.al,.int .i64 s.st,.slice A n c],.agg #[.int .i64 a.al,.slice B m1 d1,.slice B' m1' d1'],.agg #[.int .i64 p.al,.slice C m2 d2,.slice C' m2' d2']] w fun e w'=>e=.returned (.bool (zfW s a p))∧Ext w w':=by
 have HS:=za (fun W (hW:Ext w W)=>zS (c:=c) (h.ext hW))
 have HA:=za (fun W (hW:Ext w W)=>zE _ _ _ _ d1 _ _ d1' _ _ (ha.ext hW))
 have HP:=za (fun W (hW:Ext w W)=>zE _ _ _ _ d2 _ _ d2' _ _ (hp.ext hW))
 have hr:=za (show zfW s a p=(zr s&&(zh a&&zh p)) from rfl)
 clear h ha hp
 have hw1:Ext w (((w.alloc (.cells #[.int .i64 s.al,.int .i64 s.st,.slice A n c] 39)).alloc (.cells #[.int .i64 a.al,.slice B m1 d1,.slice B' m1' d1'] 26)).alloc (.cells #[.int .i64 p.al,.slice C m2 d2,.slice C' m2' d2'] 26)):=(((Ext.refl w).alloc _).alloc _).alloc _
 obtain⟨b1,b2,b3⟩:=zV (Ext.refl (((w.alloc (.cells #[.int .i64 s.al,.int .i64 s.st,.slice A n c] 39)).alloc (.cells #[.int .i64 a.al,.slice B m1 d1,.slice B' m1' d1'] 26)).alloc (.cells #[.int .i64 p.al,.slice C m2 d2,.slice C' m2' d2'] 26)))
 cases h1:zr s<;>cases h2:zh a<;>cases h3:zh p
 all_goals
  have H1:=za h1
  have H2:=za h2
  have H3:=za h3
  clear h1 h2 h3
  go_enter Tryz.func145,Tryz.ntmps145
  go_upto_region 1 with fail
  generalize ((w.alloc (.cells #[.int .i64 s.al,.int .i64 s.st,.slice A n c] 39)).alloc (.cells #[.int .i64 a.al,.slice B m1 d1,.slice B' m1' d1'] 26)).alloc (.cells #[.int .i64 p.al,.slice C m2 d2,.slice C' m2' d2'] 26)=w1 at *
  have c1:=b1.cell
  go_wp2_with (first
   |(go_at_call 94;with_reducible refine (HS.out _ hw1).mono ?_;rw [H1.out];rintro e w2 ⟨rfl,hx2⟩;have hw2:=hw1.trans hx2;have c2:=(b2.ext hx2).cell)
   |(go_at_call 27;with_reducible refine (HA.out _ hw2).mono ?_;rw [H2.out];rintro e w3 ⟨rfl,hx3⟩;have hw3:=hw2.trans hx3;have c3:=(b3.ext (hx2.trans hx3)).cell)
   |(go_at_call 27;with_reducible refine (HP.out _ hw3).mono ?_;rw [H3.out];rintro e w4 ⟨rfl,hx4⟩;have hw4:=hw3.trans hx4))
  go_ret
  exact⟨zm (by rw [hr.out,H1.out,H2.out,H3.out];rfl),by first|exact hw4|exact hw3|exact hw2⟩
theorem zdS (h:zah w lo hi A n s)(ha:zM w lo1 hi1 B m1 B' m1' a)(hp:zM w lo2 hi2 C m2 C' m2' p) :
  Calls Tryz.prog 144 #[.agg #[.int .i64 s.al,.int .i64 s.st,.slice A n c],.agg #[.int .i64 a.al,.slice B m1 d1,.slice B' m1' d1'],.agg #[.int .i64 p.al,.slice C m2 d2,.slice C' m2' d2']] w fun e w'=>e=.returned (.tuple #[.string (zda s a p),.bool (zeQ s a p)])∧Ext w w':=by
 have H8:=za (fun W (hW:Ext w W)=>spec_l8Three (c:=c) (d1:=d1) (d1':=d1') (d2:=d2) (d2':=d2') (h.ext hW) (ha.ext hW) (hp.ext hW))
 have HS:=za (fun W (hW:Ext w W)=>h.ext hW)
 have HA:=za (fun W (hW:Ext w W)=>ha.ext hW)
 have HP:=za (fun W (hW:Ext w W)=>hp.ext hW)
 clear h ha hp
 have hw1:Ext w (((w.alloc (.cells #[.int .i64 s.al,.int .i64 s.st,.slice A n c] 39)).alloc (.cells #[.int .i64 a.al,.slice B m1 d1,.slice B' m1' d1'] 26)).alloc (.cells #[.int .i64 p.al,.slice C m2 d2,.slice C' m2' d2'] 26)):=(((Ext.refl w).alloc _).alloc _).alloc _
 obtain⟨b1,b2,b3⟩:=zV (Ext.refl (((w.alloc (.cells #[.int .i64 s.al,.int .i64 s.st,.slice A n c] 39)).alloc (.cells #[.int .i64 a.al,.slice B m1 d1,.slice B' m1' d1'] 26)).alloc (.cells #[.int .i64 p.al,.slice C m2 d2,.slice C' m2' d2'] 26)))
 cases hT:zfW s a p
 ·have HT:=za hT
  have hr:=za (show zda s a p=ByteArray.empty∧zeQ s a p=false by unfold zda zeQ;rw [hT];exact⟨rfl,rfl⟩)
  clear hT
  go_enter Tryz.func144,Tryz.ntmps144
  go_upto_region 1 with fail
  generalize ((w.alloc (.cells #[.int .i64 s.al,.int .i64 s.st,.slice A n c] 39)).alloc (.cells #[.int .i64 a.al,.slice B m1 d1,.slice B' m1' d1'] 26)).alloc (.cells #[.int .i64 p.al,.slice C m2 d2,.slice C' m2' d2'] 26)=w1 at *
  have c1:=b1.cell
  have c2:=b2.cell
  have c3:=b3.cell
  go_wp2_with (go_at_call 145;refine (H8.out _ hw1).mono ?_;rw [HT.out];rintro e w2 ⟨rfl,hx2⟩)
  go_ret2
  exact⟨by rw [hr.out.1,hr.out.2];rfl,hw1.trans hx2⟩
 ·have hv:zr s=true∧zh a=true∧zh p=true:=by
   unfold zfW at hT
   simp only [Bool.and_eq_true] at hT
   exact hT
  obtain⟨v1,v2,v3⟩:=hv
  have HT:=za hT
  have hr:=za (show zda s a p=vioW [s] a p∧zeQ s a p=vioB [s] a p by unfold zda zeQ;rw [hT];exact⟨rfl,by simp⟩)
  have hal:=(zx v2).1
  have hsl:=zai v1
  obtain⟨sl,hse⟩:∃ al:Nat,Hid (s.al=al):=⟨s.al.toNat,by unfold Hid;omega⟩
  obtain⟨al,hae⟩:∃ al:Nat,Hid (a.al=al):=⟨a.al.toNat,by unfold Hid;omega⟩
  have hsl6:sl≤63:=by have:=hse.out;omega
  have hal6:al≤63:=by have:=hae.out;omega
  have hor:bits .or .i64 (sl:Int) (al:Int)=((sl|||al:Nat):Int):=zcr (by unfold Sm;omega) (by unfold Sm;omega)
  have hLe:=za (show (sl|||al)=zaz [s]|||a.al.toNat by
   have h1:=hse.out;have h2:=hae.out
   rw [h2,Int.toNat_natCast]
   simp [zaz,h1])
  have hap:=za (show zU [s]=true by simp [zU,v1])
  have V2:=za v2
  have V3:=za v3
  clear hT hal hsl v1 v2 v3
  go_enter Tryz.func144,Tryz.ntmps144
  go_upto_region 1 with fail
  generalize ((w.alloc (.cells #[.int .i64 s.al,.int .i64 s.st,.slice A n c] 39)).alloc (.cells #[.int .i64 a.al,.slice B m1 d1,.slice B' m1' d1'] 26)).alloc (.cells #[.int .i64 p.al,.slice C m2 d2,.slice C' m2' d2'] 26)=w1 at *
  have c1:=b1.cell
  have c2:=b2.cell
  have c3:=b3.cell
  go_upto_region 3 with (go_at_call 145;refine (H8.out _ hw1).mono ?_;rw [HT.out];rintro e w2 ⟨rfl,hx2⟩)
  clear c1 c2 c3
  replace b1:=b1.ext hx2
  replace b2:=b2.ext hx2
  replace b3:=b3.ext hx2
  have hw2:=hw1.trans hx2
  clear hw1 hx2
  have e1:=Blk.new w2 39 #[.int .i64 s.al,.int .i64 s.st,.slice A n c]
  have f1:=(Ext.refl w2).alloc (.cells #[.int .i64 s.al,.int .i64 s.st,.slice A n c] 39)
  have b1':=b1
  have b2':=b2.ext f1
  have b3':=b3.ext f1
  have e2:=Blk.new (w2.alloc (.cells #[.int .i64 s.al,.int .i64 s.st,.slice A n c] 39)) 26 #[.int .i64 a.al,.slice B m1 d1,.slice B' m1' d1',.int .i64 p.al,.slice C m2 d2,.slice C' m2' d2']
  have f2:=(Ext.refl (w2.alloc (.cells #[.int .i64 s.al,.int .i64 s.st,.slice A n c] 39))).alloc (.cells #[.int .i64 a.al,.slice B m1 d1,.slice B' m1' d1',.int .i64 p.al,.slice C m2 d2,.slice C' m2' d2'] 26)
  have e3:=Blk.new ((w2.alloc (.cells #[.int .i64 s.al,.int .i64 s.st,.slice A n c] 39)).alloc (.cells #[.int .i64 a.al,.slice B m1 d1,.slice B' m1' d1',.int .i64 p.al,.slice C m2 d2,.slice C' m2' d2'] 26)) 3 #[.int .i64 0,.int .i64 0,.int .i64 0]
  have f3:=(Ext.refl ((w2.alloc (.cells #[.int .i64 s.al,.int .i64 s.st,.slice A n c] 39)).alloc (.cells #[.int .i64 a.al,.slice B m1 d1,.slice B' m1' d1',.int .i64 p.al,.slice C m2 d2,.slice C' m2' d2'] 26))).alloc (.cells #[.int .i64 0,.int .i64 0,.int .i64 0] 3)
  have b1'':=b1.ext (f1.trans (f2.trans f3))
  have b2'':=b2.ext (f1.trans (f2.trans f3))
  have k1:=b1.cell
  have k2:=b2'.cell
  have k3:=b3'.cell
  have k4:=(b1''.cell 0).trans (show #[Value.int .i64 s.al,.int .i64 s.st,.slice A n c][0]?=some (Value.int .i64 (sl:Nat)) by rw [hse.out];rfl)
  have k5:=(b2''.cell 0).trans (show #[Value.int .i64 a.al,.slice B m1 d1,.slice B' m1' d1'][0]?=some (Value.int .i64 (al:Nat)) by rw [hae.out];rfl)
  have hw3:=hw2.trans (f1.trans (f2.trans f3))
  have hnet:∃ lo hi,zeb (((w2.alloc (.cells #[.int .i64 s.al,.int .i64 s.st,.slice A n c] 39)).alloc (.cells #[.int .i64 a.al,.slice B m1 d1,.slice B' m1' d1',.int .i64 p.al,.slice C m2 d2,.slice C' m2' d2'] 26)).alloc (.cells #[.int .i64 0,.int .i64 0,.int .i64 0] 3)) (some ⟨w2.heap.size,0,none⟩) 1 (some ⟨w2.heap.size+1,0,none⟩) 2 [s] [a,p]∧Lst zbf (((w2.alloc (.cells #[.int .i64 s.al,.int .i64 s.st,.slice A n c] 39)).alloc (.cells #[.int .i64 a.al,.slice B m1 d1,.slice B' m1' d1',.int .i64 p.al,.slice C m2 d2,.slice C' m2' d2'] 26)).alloc (.cells #[.int .i64 0,.int .i64 0,.int .i64 0] 3)) lo hi (some ⟨w2.heap.size+1+1,0,none⟩) (List.replicate 3 0):=by
   have e2':=e2.ext f3
   have e3':=e3
   simp only [World.size_alloc] at e2' e3'
   exact⟨_,_,⟨sl_one (e1.ext (f2.trans f3)) (HS.out _ hw3),al_two e2' (HA.out _ hw3) (HP.out _ hw3)⟩,zeros_blk (n:=3) e3' rfl (by omega)⟩
  have Hnet:=za hnet
  clear hnet e1 e2 e3 f1 f2 f3 b1 b2 b3 b1' b2' b3' b1'' b2'' hw2
  go_wp2_with (go_at_call 173;obtain⟨l1,h1,hn1,hn2⟩:=Hnet.out;refine (first_under (pn:=1) hn1 hap.out V2.out V3.out hn2 hLe.out).mono ?_;rintro e w4 ⟨rfl,hx4⟩)
  go_ret2
  exact⟨by rw [hr.out.1,hr.out.2];rfl,hw3.trans hx4⟩
end
theorem wp_make {P:Program} (w:World) {o:Oper} {a:Act} {K:Act→World→Prop} {Q:Exit→Act→World→Prop} (l c:Operand) (t:TypeId)(ho:o.op=.makeSlice t l c)
  (e:TypeId) (z:Value) (size bytes:Nat) (ht:P.underlying t=some (.slice e)) (hi:(P.info? e).map (fun i=>(i.zero,i.size,i.bytes))=some (some z,size,bytes))
  (kl kc:IntKind) (n:Nat) (hl:a.eval l=.int kl (n:Int)) (hc:a.eval c=.int kc (n:Int)) (hbytes:n*bytes≤140737488355328) (h63:n≤maxLen)
  (h:∀ w',w'.ownsRow w.heap.size e size (.slice (some ⟨w.heap.size,0,none⟩) n n) n (madeCells z.cells (n*size)).toList→Ext w w'→K (a.put o.dst (.slice (some ⟨w.heap.size,0,none⟩) n n)) w') :
  o.wp P a w K Q:=by
 obtain⟨i,hi0,hz0,hz1,hz2⟩:=info_parts hi
 obtain⟨w',hrun,r1,r2⟩:=run_make_full (P:=P) w w.heap.size t e i z size ht hi0 hz0 hz1 kl kc n (by rw [hz2,Nat.mul_comm];omega) h63 (Nat.le_refl _)
 unfold Oper.wp
 simp [execOp,ho,hl,hc,hrun,Result.andThen]
 exact h w' r1 ((Ext.refl _).grown r2 (by simp))
section
variable {lo hi n c:Nat} {A:Option Addr} {s:Sys} {lo1 hi1 m1 d1 m1' d1':Nat} {B B':Option Addr} {a:Aut} {lo2 hi2 m2 d2 m2' d2':Nat} {C C':Option Addr} {p:Aut} {w:World}
theorem madeZ (n:Nat):(madeCells (Value.int .i64 0).cells (n*1)).toList=zaK (List.replicate n 0):=by
 simp [Value.cells,toList_madeCells_one,zaK]
variable {k:Nat} {ss:List Sys}
theorem zbP (h:SLAt w lo hi A k ss)(hp:zM w lo2 hi2 C m2 C' m2' p) :
  Calls Tryz.prog 174 #[.slice A k c,.agg #[.int .i64 p.al,.slice C m2 d2,.slice C' m2' d2']] w fun e w'=>e=.returned (.tuple #[.string (zbe ss p),.bool (zeW ss p)])∧Ext w w':=by
 have HS:=za (fun W (hW:Ext w W)=>h.ext hW)
 have HP:=za (fun W (hW:Ext w W)=>hp.ext hW)
 have hkl:=h.len
 have hkL:=za h.1
 clear h hp
 have hw1:Ext w (w.alloc (.cells #[.int .i64 p.al,.slice C m2 d2,.slice C' m2' d2'] 26)):=(Ext.refl w).alloc _
 have b1:=Blk.new w 26 #[.int .i64 p.al,.slice C m2 d2,.slice C' m2' d2']
 cases hA:zU ss
 ·have hr:=za (show zbe ss p=ByteArray.empty∧zeW ss p=false by unfold zbe zeW zgD;rw [hA];exact⟨rfl,rfl⟩)
  have hPA:=za (show zby ss = -1 by unfold zby;rw [hA];rfl)
  clear hA
  go_enter Tryz.func174,Tryz.ntmps174
  go_upto_region 1 with fail
  generalize w.alloc (.cells #[.int .i64 p.al,.slice C m2 d2,.slice C' m2' d2'] 26)=w1 at *
  go_wp2_with (go_at_call 130;refine (zY (HS.out _ hw1)).mono ?_;rw [hPA.out];rintro e w2 ⟨rfl,hx2⟩)
  go_ret2
  exact⟨by rw [hr.out.1,hr.out.2];rfl,hw1.trans hx2⟩
 ·have hPA:=za (show zby ss=(zaz ss:Int) by unfold zby;rw [hA];rfl)
  cases hV:zh p
  ·have hr:=za (show zbe ss p=ByteArray.empty∧zeW ss p=false by unfold zbe zeW zgD;rw [hA,hV];exact⟨rfl,rfl⟩)
   have HV:=za hV
   clear hA hV
   go_enter Tryz.func174,Tryz.ntmps174
   go_upto_region 1 with fail
   generalize w.alloc (.cells #[.int .i64 p.al,.slice C m2 d2,.slice C' m2' d2'] 26)=w1 at *
   go_wp2_with (first
    |(go_at_call 130;refine (zY (HS.out _ hw1)).mono ?_;rw [hPA.out];rintro e w2 ⟨rfl,hx2⟩;have hw2:=hw1.trans hx2;have c2:=(b1.ext hx2).cell)
    |(go_at_call 27;refine (zE _ _ _ _ _ _ _ _ _ _ (HP.out _ hw2)).mono ?_;rw [HV.out];rintro e w3 ⟨rfl,hx3⟩;have hw3:=hw2.trans hx3))
   go_ret2
   exact⟨by rw [hr.out.1,hr.out.2];rfl,hw3⟩
  ·have hr:=za (show zbe ss p=vioW ss free p∧zeW ss p=vioB ss free p by unfold zbe zeW zgD;rw [hA,hV];exact⟨rfl,by simp⟩)
   obtain⟨⟨_,hk3⟩,hsv⟩:=zbM hA
   have hk3':k≤3:=by rw [hkL.out];exact hk3
   have hU:=zfn hsv
   have HV:=za hV
   have HA:=za hA
   clear hA hV hsv hk3
   generalize hUe:zaz ss=U at *
   have HU:=za hUe
   clear hUe
   go_enter Tryz.func174,Tryz.ntmps174
   go_upto_region 1 with fail
   generalize w.alloc (.cells #[.int .i64 p.al,.slice C m2 d2,.slice C' m2' d2'] 26)=w1 at *
   go_upto_region 4 with (first
    |(go_at_call 130;refine (zY (HS.out _ hw1)).mono ?_;rw [hPA.out];rintro e w2 ⟨rfl,hx2⟩;have hw2:=hw1.trans hx2;have c2:=(b1.ext hx2).cell)
    |(go_at_call 27;refine (zE _ _ _ _ _ _ _ _ _ _ (HP.out _ hw2)).mono ?_;rw [HV.out];rintro e w3 ⟨rfl,hx3⟩;have hw3:=hw2.trans hx3))
   have b13:=b1.ext (hx2.trans hx3)
   have c3:=b13.cells
   have hww:=Ext.refl w3
   have hk1:IntKind.i64.wrap ((k:Int)+1)=((k+1:Nat):Int):=by rw [← Int.natCast_succ];exact wrapN (k+1) (by omega)
   clear c2 b1 b13
   refine uR (fun X=>Ext w3 X) [9] (zK.app [0,1,3,4,5,7] (zK.two 2 (zK.of [6,8,9,10,11,12,13]) 6 (zK.of [2,8,9,10,11,12,13]))) ?_
   refine uQ ?_
   have hx0:Ext w3 w3.drew:=hww.drew
   generalize w3.drew=wd at *
   refine zD (fun K hK=>?_) (fun K hK=>?_)
   ·go_simp
    have e2:=Blk.new wd 26 #[.int .i64 p.al,.slice C m2 d2,.slice C' m2' d2']
    replace hx0:=hx0.alloc (.cells #[.int .i64 p.al,.slice C m2 d2,.slice C' m2' d2'] 26)
    refine hK.out _ _ hx0 ?_
    generalize wd.alloc (.cells #[.int .i64 p.al,.slice C m2 d2,.slice C' m2' d2'] 26)=w4 at *
    generalize wd.heap.size=g4 at *
    refine pT ?_
    refine zb (fun K hK=>?_)
    refine wp_make w4 _ _ 74 rfl 3 _ 1 8 Tryz.underlying74 zac .i64 .i64 (k+1) ?_ ?_ (by omega) (by unfold maxLen;omega) ?_
    ·go_simp
    ·go_simp
    intro w5 zhV hx5
    rw [madeZ] at zhV
    replace hx0:=hx0.trans hx5
    replace e2:=e2.ext hx5
    refine hK.out _ _ hx0 ?_
    refine pT ?_
    refine uQ ?_
    refine zg fun K hK=>?_
    go_simp
    have hw5:=hw3.trans hx0
    refine (zgw (pn:=k) ⟨⟨_,_,HS.out _ hw5⟩,al_one e2 (HP.out _ hw5)⟩ HA.out HV.out (zeros_row zhV) HU.out.symm).mono ?_
    rintro e w6 ⟨rfl,hx6⟩
    have zhM:=hw5.trans hx6
    refine hK.out _ _ ?_
    refine pT ?_
    refine uQ ?_
    refine zj ?_
    go_wp2_with fail
    go_ret2
    exact⟨by rw [hr.out.1,hr.out.2];rfl,zhM⟩
   ·refine wp_make wd _ _ 74 rfl 3 _ 1 8 Tryz.underlying74 zac .i64 .i64 (k+1) ?_ ?_ (by omega) (by unfold maxLen;omega) ?_
    ·go_simp
    ·go_simp
    intro w5 zhV hx5
    rw [madeZ] at zhV
    replace hx0:=hx0.trans hx5
    refine hK.out _ _ hx0 ?_
    generalize wd.heap.size=g5 at *
    refine pT ?_
    refine zb fun K hK=>?_;go_simp
    have e2:=Blk.new w5 26 #[.int .i64 p.al,.slice C m2 d2,.slice C' m2' d2']
    have hx6:=(Ext.refl w5).alloc (.cells #[.int .i64 p.al,.slice C m2 d2,.slice C' m2' d2'] 26)
    replace hx0:=hx0.trans hx6
    replace zhV:=ze zhV hx6
    refine hK.out _ _ hx0 ?_
    generalize w5.alloc (.cells #[.int .i64 p.al,.slice C m2 d2,.slice C' m2' d2'] 26)=w6 at *
    generalize w5.heap.size=g4 at *
    refine pT ?_
    refine uQ ?_
    refine zg fun K hK=>?_
    go_simp
    have hw5:=hw3.trans hx0
    refine (zgw (pn:=k) ⟨⟨_,_,HS.out _ hw5⟩,al_one e2 (HP.out _ hw5)⟩ HA.out HV.out (zeros_row zhV) HU.out.symm).mono ?_
    rintro e w7 ⟨rfl,hx7⟩
    have zhM:=hw5.trans hx7
    refine hK.out _ _ ?_
    refine pT ?_
    refine uQ ?_
    refine zj ?_
    go_wp2_with fail
    go_ret2
    exact⟨by rw [hr.out.1,hr.out.2];rfl,zhM⟩
end
def three (ss:List Sys) (p:Aut):Bool:=decide (ss.length=3)&&(zU ss&&zh p)
def iface (s:Sys) (p:Aut) (t:Sys):Int:=if (zr s&&(zh p&&zr t))=true then (((s.al.toNat|||p.al.toNat)&&&t.al.toNat:Nat):Int) else -1
section
variable {lo hi n c:Nat} {A:Option Addr} {s:Sys} {lo1 hi1 m1 d1 m1' d1':Nat} {B B':Option Addr} {p:Aut} {lo2 hi2 k c2:Nat} {C:Option Addr} {t:Sys} {w:World}
theorem zbD (h:zah w lo hi A n s)(hp:zM w lo1 hi1 B m1 B' m1' p)(ht:zah w lo2 hi2 C k t) :
  Calls Tryz.prog 45 #[.agg #[.int .i64 s.al,.int .i64 s.st,.slice A n c],.agg #[.int .i64 p.al,.slice B m1 d1,.slice B' m1' d1'],.agg #[.int .i64 t.al,.int .i64 t.st,.slice C k c2]] w fun e w'=>e=.returned (.int .i64 (iface s p t))∧Ext w w':=by
 have HS:=za (fun W (hW:Ext w W)=>zS (c:=c) (h.ext hW))
 have HP:=za (fun W (hW:Ext w W)=>zE _ _ _ _ d1 _ _ d1' _ _ (hp.ext hW))
 have HT:=za (fun W (hW:Ext w W)=>zS (c:=c2) (ht.ext hW))
 clear h hp ht
 cases h1:zr s<;>cases h2:zh p<;>cases h3:zr t
 case true.true.true =>
  have H1:=za h1
  have H2:=za h2
  have H3:=za h3
  have v1:=zai h1
  have v2:=(zx h2).1
  have v3:=zai h3
  obtain⟨a,ha⟩:∃ a:Nat,Hid (s.al=a):=⟨s.al.toNat,by unfold Hid;omega⟩
  obtain⟨b,hb⟩:∃ a:Nat,Hid (p.al=a):=⟨p.al.toNat,by unfold Hid;omega⟩
  obtain⟨d,hd⟩:∃ a:Nat,Hid (t.al=a):=⟨t.al.toNat,by unfold Hid;omega⟩
  have hr:=za (show iface s p t=((((a|||b)&&&d:Nat)):Int) by unfold iface;rw [h1,h2,h3,ha.out,hb.out,hd.out];rfl)
  rw [ha.out] at v1
  rw [hb.out] at v2
  rw [hd.out] at v3
  have a6:a≤63:=by omega
  have b6:b≤63:=by omega
  have d6:d≤63:=by omega
  have o6:=Nat.or_lt_two_pow (n:=6) (x:=a) (y:=b) (by omega) (by omega)
  have ho:=zcr (a:=a) (b:=b) (by unfold Sm;omega) (by unfold Sm;omega)
  have hn:=zdf (a:=a|||b) (b:=d) (by unfold Sm;omega) (by unfold Sm;omega)
  clear h1 h2 h3 v1 v2 v3 o6
  rw [ha.out] at HS ⊢
  rw [hb.out] at HP ⊢
  rw [hd.out] at HT ⊢
  have hw1:Ext w (((w.alloc (.cells #[.int .i64 a,.int .i64 s.st,.slice A n c] 39)).alloc (.cells #[.int .i64 b,.slice B m1 d1,.slice B' m1' d1'] 26)).alloc (.cells #[.int .i64 d,.int .i64 t.st,.slice C k c2] 39)):=(((Ext.refl w).alloc _).alloc _).alloc _
  obtain⟨b1,b2,b3⟩:=zV (Ext.refl (((w.alloc (.cells #[.int .i64 a,.int .i64 s.st,.slice A n c] 39)).alloc (.cells #[.int .i64 b,.slice B m1 d1,.slice B' m1' d1'] 26)).alloc (.cells #[.int .i64 d,.int .i64 t.st,.slice C k c2] 39)))
  go_enter Tryz.func45,Tryz.ntmps45
  go_upto_region 1 with fail
  generalize ((w.alloc (.cells #[.int .i64 a,.int .i64 s.st,.slice A n c] 39)).alloc (.cells #[.int .i64 b,.slice B m1 d1,.slice B' m1' d1'] 26)).alloc (.cells #[.int .i64 d,.int .i64 t.st,.slice C k c2] 39)=w1 at *
  have c1:=b1.cell
  go_wp2_with (first
   |(go_at_call 94;with_reducible refine (HS.out _ hw1).mono ?_;rw [H1.out];rintro e w2 ⟨rfl,hx2⟩;have hw2:=hw1.trans hx2;have c2:=(b2.ext hx2).cell)
   |(go_at_call 27;with_reducible refine (HP.out _ hw2).mono ?_;rw [H2.out];rintro e w3 ⟨rfl,hx3⟩;have hw3:=hw2.trans hx3;have c3:=(b3.ext (hx2.trans hx3)).cell)
   |(go_at_call 94;with_reducible refine (HT.out _ hw3).mono ?_;rw [H3.out];rintro e w4 ⟨rfl,hx4⟩;have hw4:=hw3.trans hx4;have k1:=(b1.ext (hx2.trans (hx3.trans hx4))).cell;have k2:=(b2.ext (hx2.trans (hx3.trans hx4))).cell;have k3:=(b3.ext (hx2.trans (hx3.trans hx4))).cell))
  go_ret
  exact⟨zan (by rw [hr.out]),hw4⟩
 all_goals
  have hr:=za (show iface s p t = -1 by unfold iface;rw [h1,h2,h3];rfl)
  have H1:=za h1
  have H2:=za h2
  have H3:=za h3
  clear h1 h2 h3
  have hw1:Ext w (((w.alloc (.cells #[.int .i64 s.al,.int .i64 s.st,.slice A n c] 39)).alloc (.cells #[.int .i64 p.al,.slice B m1 d1,.slice B' m1' d1'] 26)).alloc (.cells #[.int .i64 t.al,.int .i64 t.st,.slice C k c2] 39)):=(((Ext.refl w).alloc _).alloc _).alloc _
  obtain⟨b1,b2,b3⟩:=zV (Ext.refl (((w.alloc (.cells #[.int .i64 s.al,.int .i64 s.st,.slice A n c] 39)).alloc (.cells #[.int .i64 p.al,.slice B m1 d1,.slice B' m1' d1'] 26)).alloc (.cells #[.int .i64 t.al,.int .i64 t.st,.slice C k c2] 39)))
  go_enter Tryz.func45,Tryz.ntmps45
  go_upto_region 1 with fail
  generalize ((w.alloc (.cells #[.int .i64 s.al,.int .i64 s.st,.slice A n c] 39)).alloc (.cells #[.int .i64 p.al,.slice B m1 d1,.slice B' m1' d1'] 26)).alloc (.cells #[.int .i64 t.al,.int .i64 t.st,.slice C k c2] 39)=w1 at *
  have c1:=b1.cell
  go_wp2_with (first
   |(go_at_call 94;with_reducible refine (HS.out _ hw1).mono ?_;rw [H1.out];rintro e w2 ⟨rfl,hx2⟩;have hw2:=hw1.trans hx2;have c2:=(b2.ext hx2).cell)
   |(go_at_call 27;with_reducible refine (HP.out _ hw2).mono ?_;rw [H2.out];rintro e w3 ⟨rfl,hx3⟩;have hw3:=hw2.trans hx3;have c3:=(b3.ext (hx2.trans hx3)).cell)
   |(go_at_call 94;with_reducible refine (HT.out _ hw3).mono ?_;rw [H3.out];rintro e w4 ⟨rfl,hx4⟩;have hw4:=hw3.trans hx4))
  go_ret
  exact⟨zan (by rw [hr.out]),by first|exact hw4|exact hw3|exact hw2⟩
end
def runA (p:Aut) (q:Nat) (ls:List Nat):Nat:=ls.foldl (aGo p) q
theorem runA_snoc (p:Aut) (q:Nat) (ls:List Nat) (l:Nat):runA p q (ls++[l])=aGo p (runA p q ls) l:=by simp [runA]
theorem runA_ltF {N:Nat} {p:Aut}(hv:Fit N p) {ls:List Nat}(h:∀ l∈ls,l<6) {q:Nat}(hq:q<p.next.length):runA p q ls<p.next.length:=by
 induction ls generalizing q with
 |nil=>exact hq
 |cons l r ih=>exact ih (fun x hx=>h x (List.mem_cons_of_mem _ hx)) (aGo_ltF hv hq (h l List.mem_cons_self))
theorem runA_lt {p:Aut}(hv:zh p=true) {ls:List Nat}(h:∀ l∈ls,l<6) {q:Nat}(hq:q<p.next.length):runA p q ls<p.next.length:=runA_ltF (fit_of hv) h hq
theorem restB_data (s:ByteArray) (a:Nat):(zbN s a).data.toList=zgf a s.data.toList:=by
 unfold zbN strOfNums bnum
 simp only [List.map_map]
 refine (List.map_congr_left (g:=id) fun b _=>?_).trans (List.map_id _)
 simp
theorem zhi {s:ByteArray}(h:zaO s=true) (a:Nat):inB (zbN s a) a=true:=by
 unfold inB zeX
 rw [restB_data,Bool.and_eq_true,decide_eq_true_eq]
 refine⟨Nat.le_trans (zgF s a) (zaT h),?_⟩
 rw [List.all_eq_true]
 intro b hb
 exact (List.mem_filter.1 hb).2
section
variable {lo hi m d m' d':Nat} {B B':Option Addr} {p:Aut} {t:ByteArray} {w:World}
theorem spec_l3Run (h:zM w lo hi B m B' m' p)(hv:zh p=true)(ht:zaO t=true) :
  Calls Tryz.prog 143 #[.agg #[.int .i64 p.al,.slice B m d,.slice B' m' d'],.int .i64 0,.string t] w fun e w'=>e=.returned (.int .i64 (runA p 0 (wl t):Nat))∧Ext w w':=by
 have HS:=za (fun W (hW:Ext w W)=>h.ext hW)
 have hsz:=zaT ht
 have Hb:=za (fun k hk=>zbo ht (k:=k) hk)
 have hn1:=(zx hv).2.1
 have Hv:=za hv
 have Hlt:=za (fun k=>runA_lt hv (ls:=(wl t).take k) (fun l hl=>wl_lt ht l (List.mem_of_mem_take hl)) (q:=0) (by omega))
 clear h hv ht
 go_enter Tryz.func143,Tryz.ntmps143
 go_upto_region 1 with fail
 have hw1:Ext w (w.alloc (.cells #[.int .i64 p.al,.slice B m d,.slice B' m' d'] 26)):=(Ext.refl w).alloc _
 have b1:=Blk.new w 26 #[.int .i64 p.al,.slice B m d,.slice B' m' d']
 generalize w.alloc (.cells #[.int .i64 p.al,.slice B m d,.slice B' m' d'] 26)=w1 at *
 go_wp2_with fail
 go_loopw [1,7] (fun v i wr=>∃ k x:Nat,i=.int .i64 k∧k≤t.size∧v=.int .i64 x∧Hid (x=runA p 0 ((wl t).take k))∧Ext w1 wr) (fun _ i _=>t.size - (intOf i).toNat)
 case atStart=>exact⟨0,0,rfl,Nat.zero_le _,rfl,rfl,Ext.refl _⟩
 case round =>
  obtain⟨k,x,rfl,hk,rfl,hxo,hxr⟩:=hrel
  by_cases hlt:k<t.size
  ·have hbb:=Hb.out k hlt
   obtain⟨l,hl⟩:∃ l:Nat,Hid ((t[k].toNat:Int) - 97=l):=⟨t[k].toNat - 97,by unfold Hid;omega⟩
   have hl6:l<6:=by have:=hl.out;omega
   have hst:=za (show aGo p x l=runA p 0 ((wl t).take (k+1)) by
    rw [List.take_add_one,zeR hlt,Option.toList_some,runA_snoc,← hxo.out]
    congr 1
    have:=hl.out;omega)
   have hxl:x<p.next.length:=by rw [hxo.out];exact Hlt.out k
   have HC:=za (fun W (hW:Ext w1 W)=>zcm (d:=d) (d':=d') (HS.out W (hw1.trans hW)) Hv.out hxl hl6)
   generalize aGo p x l=y at *
   have c1:∀ W,Ext wr W→∀ j,W.cell? ⟨w.heap.size,j,none⟩=#[Value.int .i64 p.al,.slice B m d,.slice B' m' d'][j]?:=fun W hW=>(b1.ext (hxr.trans hW)).cell
   have hww:=Ext.refl wr
   clear hbb
   go_upto_region 4 with fail
   refine uR (fun X=>Ext wr X) [5] (zK.of [0,1,2,3,4,5,6]) ?_
   refine uQ ?_
   refine zb fun K hK=>?_;go_simp
   refine (zaI t k hlt _).mono ?_
   rw [hl.out]
   rintro e w' ⟨rfl,rfl⟩
   refine hK.out _ _ hww.drew ?_
   refine pT ?_
   refine zg fun K hK=>?_
   go_simp
   refine (HC.out _ (hxr.trans hww.drew)).mono ?_
   rintro e w5 ⟨rfl,hx5⟩
   refine hK.out _ _ ?_
   refine pT ?_
   refine uQ ?_
   refine zj ?_
   have hx6:=hxr.trans (hww.drew.trans hx5)
   go_wp2_with fail
   go_roundw
   case rel=>exact⟨k+1,y,by go_num,by omega,rfl,hst,hx6⟩
   case measure=>simp [intOf];omega
  ·obtain rfl:k=t.size:=by omega
   have zhM:=za (show x=runA p 0 (wl t) by rw [hxo.out,List.take_of_length_le (by rw [zeS];exact Nat.le_refl _)])
   go_wp2
   go_ret
   exact⟨zan (by rw [zhM.out]),hw1.trans hxr⟩
end
theorem iface_neg (s t:Sys) (p:Aut):iface s p t<0↔(zr s&&(zh p&&zr t))=false:=by
 unfold iface
 cases h:(zr s&&(zh p&&zr t))
 ·simp
 ·simp
def hidL (s:Sys) (A l:Nat):Prop:=l<6∧s.al.toNat.testBit l=true∧A.testBit l=false
inductive Cl (s:Sys) (p:Aut) (A:Nat) (B:Nat→Nat→Prop):Nat→Nat→Prop
 |base {q i:Nat} (h:B q i):Cl s p A B q i
 |hid {q i l q':Nat} (h:Cl s p A B q i) (hl:hidL s A l) (hq:q'∈cho s q l):Cl s p A B q' (aGo p i l)
def mvB (s:Sys) (p:Aut) (l:Nat) (B:Nat→Nat→Prop):Nat→Nat→Prop:=fun q' j=>∃ q i,B q i∧q'∈cho s q l∧j=aGo p i l
def prR (s:Sys) (p:Aut) (A:Nat):List Nat→Nat→Nat→Prop
 |[]=>Cl s p A (fun q i=>q=0∧i=0)
 |l :: r=>Cl s p A (mvB s p l (prR s p A r))
def PR (s:Sys) (p:Aut) (A:Nat) (v:List Nat):Nat→Nat→Prop:=prR s p A v.reverse
theorem PR_snoc (s:Sys) (p:Aut) (A:Nat) (v:List Nat) (l:Nat):PR s p A (v++[l])=Cl s p A (mvB s p l (PR s p A v)):=by
 unfold PR
 rw [List.reverse_append]
 rfl
def Bad (s:Sys) (p:Aut) (A:Nat) (v:List Nat):Prop:=∃ q i,PR s p A v q i∧zet p i=false
def SafeW (s:Sys) (p:Aut) (A:Nat) (v:List Nat):Prop:=∀ k,k≤v.length→¬ Bad s p A (v.take k)
theorem zhC {s:Sys}(hs:Sml s) {l:Nat}(hb:s.al.toNat.testBit l=true) (set q':Nat):(zbS s.edges set (l:Int)).testBit q'=true↔∃ q,set.testBit q=true∧q'∈cho s q l:=by
 obtain⟨h1,h2,hf,-⟩:=hs
 rw [zfV]
 constructor
 ·rintro ⟨e,he,⟨h3,h4⟩,rfl⟩
  obtain⟨hfr,hle,hto⟩:=hf e he
  refine⟨e.fr.toNat,h4,?_⟩
  unfold cho
  rw [if_pos hb,zX]
  refine⟨by omega,(zfm _ _ _ _).2 ⟨e,he,?_,rfl⟩⟩
  exact⟨by omega,h3⟩
 ·rintro ⟨q,h3,h4⟩
  unfold cho at h4
  rw [if_pos hb,zX] at h4
  obtain⟨e,he,⟨h5,h6⟩,h7⟩:=(zfm _ _ _ _).1 h4.2
  exact⟨e,he,⟨h6,by rw [h5];simpa using h3⟩,h7⟩
theorem zgJ {s:Sys}(hs:Sml s) (x:Nat) (l:Int):zbS s.edges x l<65536:=by
 have h1:=zhB hs.2.2.1 x l
 have h2:(2:Nat) ^ s.st.toNat≤2 ^ 16:=Nat.pow_le_pow_right (by omega) (by have:=hs.2.1;omega)
 exact Nat.lt_of_lt_of_le h1 h2
def bitS (T:List Nat) (i q:Nat):Prop:=(T.getD i 0).testBit q=true
theorem bitS_lt {T:List Nat} {i q:Nat}(h:bitS T i q):i<T.length:=by
 rcases Nat.lt_or_ge i T.length with h1|h1
 ·exact h1
 ·unfold bitS at h
  rw [List.getD_eq_getElem?_getD,List.getElem?_eq_none h1] at h
  simp at h
theorem zgT {T:List Nat} {j:Nat}(hj:j<T.length) (x i q:Nat):bitS (T.set j (T.getD j 0|||x)) i q↔bitS T i q∨(i=j∧x.testBit q=true):=by
 unfold bitS
 by_cases h:j=i
 ·subst h
  rw [List.getD_eq_getElem?_getD,List.getElem?_set_self hj,Option.getD_some,Nat.testBit_or,Bool.or_eq_true]
  simp
 ·rw [List.getD_eq_getElem?_getD,List.getElem?_set_ne h,← List.getD_eq_getElem?_getD]
  constructor
  ·exact .inl
  ·rintro (h1|⟨h1,-⟩)
   ·exact h1
   ·exact absurd h1.symm h
def zdG (T:List Nat) (n:Nat) (B:Nat→Nat→Prop):Prop:=T.length=n∧(∀ x∈T,x<65536)∧∀ i q,bitS T i q↔B q i
structure ClI (s:Sys) (p:Aut) (A:Nat) (B:Nat→Nat→Prop) (n:Nat) (T:List Nat):Prop where
 len:T.length=n
 lt:∀ x∈T,x<65536
 base:∀ q i,B q i→bitS T i q
 sub:∀ i q,bitS T i q→Cl s p A B q i
def zdg (s:Sys) (p:Aut) (T:List Nat) (i l:Nat):Prop:=∀ q,bitS T i q→∀ q'∈cho s q l,bitS T (aGo p i l) q'
section
variable {s:Sys} {p:Aut} {A n:Nat} {B:Nat→Nat→Prop} {T:List Nat}
theorem zdG.clI (h:zdG T n B):ClI s p A B n T:=⟨h.1,h.2.1,fun q i hb=>(h.2.2 i q).2 hb,fun i q hb=>.base ((h.2.2 i q).1 hb)⟩
theorem zdJ (h:∀ x∈T,x<65536) (i:Nat):T.getD i 0<65536:=by
 rw [List.getD_eq_getElem?_getD]
 cases h1:T[i]? with
 |none=>simp
 |some x=>exact h x (List.mem_of_getElem? h1)
theorem ClI.step (h:ClI s p A B n T)(hs:Sml s)(hp:zh p=true)(hn:n=p.next.length) {i l:Nat}(hi:i<n)(hl:hidL s A l) :
  ClI s p A B n (T.set (aGo p i l) (T.getD (aGo p i l) 0|||zbS s.edges (T.getD i 0) (l:Int))):=by
 have hj:aGo p i l<T.length:=by rw [h.len,hn];exact zgs hp (by omega) hl.1
 refine⟨by rw [List.length_set];exact h.len,fun x hx=>?_,fun q i' hb=>(zgT hj _ _ _).2 (.inl (h.base q i' hb)),fun i' q hb=>?_⟩
 ·rcases List.mem_or_eq_of_mem_set hx with hx|rfl
  ·exact h.lt x hx
  ·exact Nat.or_lt_two_pow (n:=16) (zdJ h.lt _) (Nat.lt_of_lt_of_le (zhB hs.2.2.1 _ _) (Nat.pow_le_pow_right (by omega) (by have:=hs.2.1;omega)))
 ·rcases (zgT hj _ _ _).1 hb with hb1|⟨rfl,hb1⟩
  ·exact h.sub _ _ hb1
  ·obtain⟨q0,h1,h2⟩:=(zhC hs hl.2.1 _ _).1 hb1
   exact .hid (h.sub _ _ h1) hl h2
theorem closedAt_of (hs:Sml s) {i l:Nat}(hl:hidL s A l)(he:T.getD (aGo p i l) 0|||zbS s.edges (T.getD i 0) (l:Int)=T.getD (aGo p i l) 0):zdg s p T i l:=by
 intro q hq q' hq'
 unfold bitS
 rw [← he,Nat.testBit_or,(zhC hs hl.2.1 _ _).2 ⟨q,hq,hq'⟩,Bool.or_true]
theorem ClI.fin (h:ClI s p A B n T)(hc:∀ i l,i<n→hidL s A l→zdg s p T i l):zdG T n (Cl s p A B):=by
 refine⟨h.len,h.lt,fun i q=>⟨h.sub i q,fun hb=>?_⟩⟩
 induction hb with
 |base hb=>exact h.base _ _ hb
 |hid _ hl hq ih=>exact hc _ _ (by rw [← h.len];exact bitS_lt ih) hl _ ih _ hq
end
def room:List Nat→Nat
 |[]=>0
 |x :: r=>(65536 - x)+room r
theorem room_set:∀ (T:List Nat) (j x:Nat),(T.getD j 0|||x)<65536→room (T.set j (T.getD j 0|||x))≤room T∧(j<T.length→T.getD j 0|||x≠T.getD j 0→room (T.set j (T.getD j 0|||x))<room T)
 |[],j,x,_=>by simp [room]
 |a :: r,0,x,h=>by
  simp only [List.getD_cons_zero,List.set_cons_zero,room] at h ⊢
  have h1:a≤a|||x:=Nat.left_le_or
  refine⟨by omega,fun _ h2=>by omega⟩
 |a :: r,j+1,x,h=>by
  simp only [List.getD_cons_succ,List.set_cons_succ,room,List.length_cons] at h ⊢
  obtain⟨h1,h2⟩:=room_set r j x h
  refine⟨by omega,fun h3 h4=>by have:=h2 (by omega) h4;omega⟩
theorem sub_bit {a b:Nat}(ha:a<64)(hb:b<64) (l:Nat):l∈letters (a - (a&&&b)) 6↔l<6∧a.testBit l=true∧b.testBit l=false:=by
 rw [zX]
 refine and_congr_right fun hl=>?_
 have key:∀ a<64,∀ b<64,∀ l<6,((a - (a&&&b)).testBit l=true↔a.testBit l=true∧b.testBit l=false):=by decide +kernel
 exact key a ha b hb l hl
theorem stand_bad {s:Sys} {p:Aut} {A n:Nat} {v:List Nat} {T:List Nat}(h:zdG T n (PR s p A v)):Bad s p A v↔∃ i,i<n∧T.getD i 0≠0∧zet p i=false:=by
 constructor
 ·rintro ⟨q,i,h1,h2⟩
  have hb:=(h.2.2 i q).2 h1
  refine⟨i,by rw [← h.1];exact bitS_lt hb,fun e=>?_,h2⟩
  unfold bitS at hb
  rw [e] at hb
  simp at hb
 ·rintro ⟨i,hi,h1,h2⟩
  obtain⟨q,hq⟩:=Nat.exists_testBit_of_ne_zero h1
  exact⟨q,i,(h.2.2 i q).1 hq,h2⟩
theorem stand_start {n:Nat}(hn:1≤n):zdG ((List.replicate n 0).set 0 1) n (fun q i=>q=0∧i=0):=by
 refine⟨by simp,fun x hx=>?_,fun i q=>?_⟩
 ·rcases List.mem_or_eq_of_mem_set hx with hx|rfl
  ·rw [List.mem_replicate] at hx;omega
  ·omega
 ·unfold bitS
  rw [List.getD_eq_getElem?_getD]
  by_cases h:i=0
  ·subst h
   rw [List.getElem?_set_self (by rw [List.length_replicate];omega),Option.getD_some]
   constructor
   ·intro h;exact⟨by cases q with|zero=>rfl|succ q=>simp [Nat.testBit_succ] at h,rfl⟩
   ·rintro ⟨rfl,-⟩;rfl
  ·rw [List.getElem?_set_ne (by omega)]
   constructor
   ·intro h
    cases h1:(List.replicate n 0)[i]? with
    |none=>rw [h1] at h;simp at h
    |some x =>
     have:=List.mem_of_getElem? h1
     rw [List.mem_replicate] at this
     rw [h1,this.2] at h
     simp at h
   ·rintro ⟨_,h1⟩;exact absurd h1 h
def memT (W:World) (g n:Nat):List Nat:=(List.range n).map fun j=>match W.cell? ⟨g,j,none⟩ with|some (.int _ z)=>z.toNat|_=>0
theorem memT_own {W:World} {base g n c:Nat} {T:List Nat}(h:W.ownsRow base 3 1 (.slice (some ⟨g,0,none⟩) n c) n (zaK T))(hT:T.length=n):memT W g n=T:=by
 refine List.ext_getElem? fun j=>?_
 unfold memT
 rw [List.getElem?_map]
 rcases Nat.lt_or_ge j n with hj|hj
 ·rw [List.getElem?_range hj,Option.map_some,h.cellAt j (by omega),show (zaK T)[j]?=T[j]?.map (fun x=>Value.int .i64 (x:Nat)) by simp [zaK]]
  rw [List.getElem?_eq_getElem (by omega)]
  simp
 ·rw [List.getElem?_eq_none (by simpa using hj),List.getElem?_eq_none (by omega)]
  rfl
theorem zcv {W:World} {base g n c j:Nat} {T:List Nat}(h:W.ownsRow base 3 1 (.slice (some ⟨g,0,none⟩) n c) n (zaK T))(hj:j<n):W.cell? ⟨g,j,none⟩=some (.int .i64 (T.getD j 0:Nat)):=by
 have hl:=zfG h
 have hT:T.length=n:=by simpa [zaK] using hl
 rw [h.cellAt j (by omega),show (zaK T)[j]?=T[j]?.map (fun x=>Value.int .i64 (x:Nat)) by simp [zaK],List.getD_eq_getElem?_getD,List.getElem?_eq_getElem (by omega)]
 simp
def RetSets (g N cc base:Nat) (Q:Nat→Nat→Prop) (w:World) (e:Ending) (w':World):Prop:=
 ∃ T':List Nat,e=.returned (.slice (some ⟨g,0,none⟩) N cc)∧w'.ownsRow base 3 1 (.slice (some ⟨g,0,none⟩) N cc) N (zaK T')∧zdG T' N Q∧Frm (fun k=>k=g) w w'
section
variable {w:World} {lo hi n c m d m' d' L:Nat} {A B B':Option Addr} {s:Sys} {p:Aut}
theorem zeP {base g N cc:Nat} {T:List Nat} {Bs:Nat→Nat→Prop}(hS:zah w lo hi A n s)(hP:zM w lo hi B m B' m' p)(hv:zr s=true)(hp:zh p=true)(hL:L<64)(hN:N=p.next.length)
  (hg:hi≤base) (zhJ:w.ownsRow base 3 1 (.slice (some ⟨g,0,none⟩) N cc) N (zaK T)) (hT:zdG T N Bs) :
  Calls Tryz.prog 265 #[.agg #[.int .i64 s.al,.int .i64 s.st,.slice A n c,.int .i64 p.al,.slice B m d,.slice B' m' d',.int .i64 L],.slice (some ⟨g,0,none⟩) N cc] w (RetSets g N cc base (Cl s p L Bs) w):=by
 have hsm:=zcS hv
 obtain⟨ha0,ha1⟩:=zai hv
 obtain⟨al,hal⟩:∃ al:Nat,Hid (s.al=al):=⟨s.al.toNat,by unfold Hid;omega⟩
 have hal64:al<64:=by have:=hal.out;omega
 have hN12:N≤12:=by have:=(zx hp).2.1;omega
 have hg0:=(zhJ.lt g rfl).1
 have hgw:=(zhJ.lt g rfl).2
 have HN:=za hN
 have Han:=za (zdf (a:=al) (b:=L) (by unfold Sm;omega) (by unfold Sm;omega))
 have hle:al&&&L≤al:=Nat.and_le_left
 have hsub:(al:Int) - ((al&&&L:Nat):Int)=((al - (al&&&L):Nat):Int):=by omega
 have Hsub:=za hsub
 clear hsub
 have Hbit:=za (fun l=>sub_bit hal64 hL l)
 have hw1:Ext w (w.alloc (.cells #[.int .i64 s.al,.int .i64 s.st,.slice A n c,.int .i64 p.al,.slice B m d,.slice B' m' d',.int .i64 L] 199)):=(Ext.refl _).alloc _
 have b1:=Blk.new w 199 #[.int .i64 s.al,.int .i64 s.st,.slice A n c,.int .i64 p.al,.slice B m d,.slice B' m' d',.int .i64 L]
 have han:=Han.out
 have k1:=b1.cell
 clear hN
 go_enter Tryz.func265,Tryz.ntmps265
 go_upto_region 1 with fail
 generalize w.alloc (.cells #[.int .i64 s.al,.int .i64 s.st,.slice A n c,.int .i64 p.al,.slice B m d,.slice B' m' d',.int .i64 L] 199)=w1 at *
 rw [hal.out] at k1
 go_wp2_with fail
 rw [Hsub.out]
 refine (zJ (al - (al&&&L)) (by unfold Sm;omega) _).mono ?_
 rintro e w2 ⟨HA,hc,rfl,hownH,hx2⟩
 have Hbit:=za (fun l=>(sub_bit hal64 hL l).trans (show l<6∧al.testBit l=true∧L.testBit l=false↔hidL s L l by unfold hidL;rw [hal.out];rfl))
 generalize letters (al - (al&&&L)) 6=hs at *
 have hhl:hs.length≤9223372036854775807:=(Reads.of_own hownH).len
 have hfr2:Frm (fun k=>k=g) w w2:=(hw1.trans hx2).toFrm
 have zhT:=ze zhJ (hw1.trans hx2)
 have hb2:=b1.ext hx2
 have hcl:=hT.clI (s:=s) (p:=p) (A:=L)
 clear zhJ hT k1 b1
 go_wp2_with fail
 go_loopw [6] (fun mv wr=>∃ (mb:Bool) (T:List Nat),mv=.bool mb∧Hid (ClI s p L Bs N T)∧Hid (mb=false→∀ i l,i<N→hidL s L l→zdg s p T i l)∧wr.ownsRow base 3 1 (.slice (some ⟨g,0,none⟩) N cc) N (zaK T)∧Frm (fun k=>k=g) w2 wr) (fun mv wr=>room (memT wr g N)+(match mv with | .bool true=>1|_=>0))
 case atStart=>exact⟨true,T,rfl,za hcl,za (fun h=>by cases h),zhT,Frm.refl _ _⟩
 case round =>
  clear hcl zhT
  obtain⟨mb,T,rfl,hcl,hdone,zhJ,hfr⟩:=hrel
  have hmem:=za (memT_own zhJ hcl.out.len)
  cases mb
  ·have zhM:=za (hcl.out.fin (hdone.out rfl))
   go_wp2_with fail
   go_ret
   exact⟨T,rfl,zhJ,zhM.out,hfr2.trans hfr⟩
  ·go_wp2_with fail
   go_loopw [6,7] (fun mv iv wq=>∃ (mb:Bool) (i:Nat) (T1:List Nat),mv=.bool mb∧iv=.int .i64 i∧i≤N∧Hid (ClI s p L Bs N T1)∧Hid (room T1≤room T∧(mb=true→room T1<room T))∧Hid (mb=false→∀ i' l,i'<i→hidL s L l→zdg s p T1 i' l)∧wq.ownsRow base 3 1 (.slice (some ⟨g,0,none⟩) N cc) N (zaK T1)∧Frm (fun k=>k=g) w2 wq) (fun _ iv _=>N - (intOf iv).toNat)
   case atStart=>exact⟨false,0,T,rfl,rfl,Nat.zero_le _,hcl,za ⟨Nat.le_refl _,fun h=>by cases h⟩,za (fun _ i' l h=>by omega),zhJ,hfr⟩
   case round =>
    clear hcl zhJ hfr hdone
    obtain⟨mb,i,T1,rfl,rfl,hi,hcl,hroom,hdone,zhJ,hfr⟩:=hrel
    by_cases hlt:i<N
    ·have hlt':(i:Int)<(N:Int):=by omega
     go_wp2_with fail
     go_loopw [6,8] (fun mv kv wq=>∃ (mb:Bool) (k:Nat) (T1:List Nat),mv=.bool mb∧kv=.int .i64 k∧k≤hs.length∧Hid (ClI s p L Bs N T1)∧Hid (room T1≤room T∧(mb=true→room T1<room T))∧Hid (mb=false→(∀ i' l,i'<i→hidL s L l→zdg s p T1 i' l)∧∀ (k' l:Nat),k'<k→hs[k']?=some l→zdg s p T1 i l)∧wq.ownsRow base 3 1 (.slice (some ⟨g,0,none⟩) N cc) N (zaK T1)∧Frm (fun k=>k=g) w2 wq) (fun _ kv _=>hs.length - (intOf kv).toNat)
     case atStart=>exact⟨mb,0,T1,rfl,rfl,Nat.zero_le _,hcl,hroom,za (fun h=>⟨hdone.out h,fun k' l h=>by omega⟩),zhJ,hfr⟩
     case round =>
      clear hcl hroom hdone zhJ hfr
      obtain⟨mb,k,T1,rfl,rfl,hk,hcl,hroom,hdone,zhJ,hfr⟩:=hrel
      by_cases hkl:k<hs.length
      ·have hkl':(k:Int)<(hs.length:Int):=by omega
       obtain⟨l,hl⟩:∃ l,hs[k]?=some l:=⟨_,List.getElem?_eq_getElem hkl⟩
       have hhid:=(Hbit.out l).1 (List.mem_of_getElem? hl)
       have hl6:=hhid.1
       have hjN:aGo p i l<N:=by rw [HN.out];exact zgs hp (by rw [← HN.out];exact hlt) hl6
       obtain⟨gh,rfl,hgh,-⟩:=zP hownH (by omega)
       have hownH2:=zaN hownH hfr (fun b h1 e=>by have:=hw1.size;omega)
       have cH:=zcv hownH2 hkl
       rw [List.getD_eq_getElem?_getD,hl,Option.getD_some] at cH
       have CH:∀ W,Ext wr W→W.cell? ⟨gh,k,none⟩=some (.int .i64 (l:Nat)):=fun W hW=>hW.cell_some cH
       have CB:∀ W,Ext wr W→∀ q,W.cell? ⟨w.heap.size,q,none⟩=#[Value.int .i64 s.al,.int .i64 s.st,.slice A n c,.int .i64 p.al,.slice B m d,.slice B' m' d',.int .i64 L][q]?:=fun W hW=>((hb2.frm hfr (by omega)).ext hW).cell
       have CI:∀ W,Ext wr W→W.cell? ⟨g,i,none⟩=some (.int .i64 (T1.getD i 0:Nat)):=fun W hW=>hW.cell_some (zcv zhJ hlt)
       have HPq:=za (fun W (hW:Ext wr W)=>((hP.ext (hw1.trans hx2)).frm hfr (fun k h1 h2 e=>by omega)).ext hW)
       have HSq:=za (fun W (hW:Ext wr W)=>((hS.ext (hw1.trans hx2)).frm hfr (fun k h1 h2 e=>by omega)).ext hW)
       have Hl:=za hl
       have hww:=Ext.refl wr
       clear hl cH hownH2
       go_wp2_with fail
       go_region_held3 (fun W=>Ext wr W) (first|assumption|(refine Ext.drew ?_;assumption)|(refine Ext.trans ?_ (by assumption);assumption)|(refine Ext.trans ?_ (by assumption);refine Ext.drew ?_;assumption)) (first|(go_at_call 172;refine (zcm (HPq.out _ ?_) hp (by rw [← HN.out];exact hlt) hl6).mono ?_;(first|assumption|(refine Ext.drew ?_;assumption));rintro e w3 ⟨rfl,hx3⟩))
       have hwq3:Ext wr w3:=by assumption
       obtain⟨j,hj⟩:∃ j,Hid (aGo p i l=j):=⟨_,rfl⟩
       rw [hj.out] at hjN ⊢
       have CJ:∀ W,Ext wr W→W.cell? ⟨g,j,none⟩=some (.int .i64 (T1.getD j 0:Nat)):=fun W hW=>hW.cell_some (zcv zhJ hjN)
       obtain⟨x,hx⟩:∃ x,Hid (T1.getD i 0=x):=⟨_,rfl⟩
       obtain⟨y,hy⟩:∃ y,Hid (T1.getD j 0=y):=⟨_,rfl⟩
       have hx16:x<65536:=by rw [← hx.out];exact zdJ hcl.out.lt i
       have hy16:y<65536:=by rw [← hy.out];exact zdJ hcl.out.lt j
       rw [hx.out] at CI
       rw [hy.out] at CJ
       have hst16:zbS s.edges x (l:Int)<65536:=zgJ hsm _ _
       obtain⟨z,hz⟩:∃ z,Hid (zbS s.edges x (l:Int)=z):=⟨_,rfl⟩
       rw [hz.out] at hst16
       have hor:=zcr (a:=y) (b:=z) (by unfold Sm;omega) (by unfold Sm;omega)
       have hjN':(j:Int)<(N:Int):=by omega
       obtain⟨u,hu⟩:∃ u,Hid (y|||z=u):=⟨_,rfl⟩
       have hu16:u<65536:=by rw [← hu.out];exact Nat.or_lt_two_pow (n:=16) hy16 hst16
       rw [hu.out] at hor
       go_wp2_with fail
       go_region_held3 (fun W=>Ext wr W) (first|assumption|(refine Ext.drew ?_;assumption)|(refine Ext.trans ?_ (by assumption);assumption)|(refine Ext.trans ?_ (by assumption);refine Ext.drew ?_;assumption)) (first|(go_at_call 241;refine (zdU (c:=c) (k0:=s.st.toNat) (HSq.out _ ?_) hsm.2.2.1 (by have:=hsm.2.1;omega) (by unfold Sm;omega)).mono ?_;(first|assumption|(refine Ext.drew ?_;assumption));rw [hz.out];rintro e w4 ⟨rfl,hx4⟩))
       have hwq4:Ext wr w4:=by assumption
       have cJ:=CJ w4 hwq4
       have hfr4:=hfr.ext hwq4
       have hown4:=ze zhJ hwq4
       have heqT:T1.getD (aGo p i l) 0|||zbS s.edges (T1.getD i 0) (l:Int)=u:=by rw [hj.out,hx.out,hy.out,hz.out,hu.out]
       have HeqT:=za heqT
       have hstep:=hcl.out.step hsm hp HN.out hlt hhid
       rw [heqT,hj.out] at hstep
       have Hstep:=za hstep
       clear heqT hstep CH CB CI CJ
       by_cases he:u=y
       ·have Hcl:=za (closedAt_of (T:=T1) (p:=p) (i:=i) hsm hhid (by rw [HeqT.out,hj.out,hy.out,he]))
        have hne:((u:Int) != (y:Int))=false:=by rw [he];simp
        clear he
        go_wp2_with fail
        go_roundw
        case rel=>exact⟨mb,k+1,T1,rfl,by go_num,by omega,hcl,hroom,za (fun h=>⟨(hdone.out h).1,fun k' l' hk' hl'=>by
         rcases Nat.lt_or_eq_of_le (Nat.le_of_lt_succ hk') with h1|rfl
         ·exact (hdone.out h).2 k' l' h1 hl'
         ·rw [Hl.out] at hl'
          obtain rfl:=Option.some.inj hl'
          exact Hcl.out⟩),hown4,hfr4⟩
        case measure=>simp [intOf];omega
       ·have hne:((u:Int) != (y:Int))=true:=by simp;omega
        have hrs:=room_set T1 j z (by rw [hy.out,hu.out];exact hu16)
        rw [hy.out,hu.out] at hrs
        have hrs2:=hrs.2 (by rw [hcl.out.len];exact hjN) he
        have Hrs:=za hrs2
        have hst:=(hown4.stored j (.int .i64 (u:Nat))).1
        rw [← zfh] at hst
        have hfz:=hown4.frozenAt j
        clear hrs hrs2 he
        go_wp2_with fail
        go_roundw
        case rel=>exact⟨true,k+1,T1.set j u,rfl,by go_num,by omega,za Hstep.out,za ⟨by have:=Hrs.out;have:=hroom.out.1;omega,fun _=>by have:=Hrs.out;have:=hroom.out.1;omega⟩,za (fun h=>by cases h),hst,hfr4.trans (Frm.setCell _ g j _)⟩
        case measure=>simp [intOf];omega
      ·go_wp2_with fail
       go_roundw
       case rel=>exact⟨mb,i+1,T1,rfl,by go_num,by omega,hcl,hroom,za (fun h i' l hi' hl=>by
        rcases Nat.lt_or_eq_of_le (Nat.le_of_lt_succ hi') with h1|rfl
        ·exact (hdone.out h).1 i' l h1 hl
        ·obtain⟨k',hk'⟩:=List.getElem?_of_mem ((Hbit.out l).2 hl)
         exact (hdone.out h).2 k' l (by have:=(List.getElem?_eq_some_iff.1 hk').1;omega) hk'),zhJ,hfr⟩
       case measure=>simp [intOf];omega
    ·go_wp2_with fail
     have hmem1:=za (memT_own zhJ hcl.out.len)
     go_roundw
     case rel=>exact⟨mb,T1,rfl,hcl,za (fun h i l hi hl=>hdone.out h i l (by omega) hl),zhJ,hfr⟩
     case measure =>
      rw [hmem.out,hmem1.out]
      have h1:=hroom.out
      cases mb
      ·simp;omega
      ·have:=h1.2 rfl
       simp;omega
end
theorem Frm.grownG {T:Nat→Prop} {w W W':World} {row:Option Nat}(h:Frm T w W)(hg:W.grownBy W' row)(hr:∀ k,row=some k→w.heap.size≤k):Frm T w W':=
 ⟨hg.os.trans h.os,hg.tape.trans h.tape,hg.output.trans h.output,Nat.le_trans h.size hg.size,fun k hk hn=>(hg.block k (Nat.lt_of_lt_of_le hk h.size) (fun e=>by have:=hr k e.symm;omega)).trans (h.block k hk hn)⟩
structure Gr2 (w0 W:World) (G:Nat) (al st:Int) (v:Value) (es:List Edg):Prop where
 blk:Blk W G 39 #[.int .i64 al,.int .i64 st,v]
 own:W.ownsRow w0.heap.size 103 3 v es.length (zB es)
 fr:Frm (fun k=>k=G) w0 W
 hG:G<w0.heap.size
theorem Gr2.ext_ {w0 W W':World} {G:Nat} {al st:Int} {v:Value} {es:List Edg}(h:Gr2 w0 W G al st v es)(hb:Ext W W'):Gr2 w0 W' G al st v es:=⟨h.blk.ext hb,ze h.own hb,h.fr.ext hb,h.hG⟩
theorem Gr2.push {w0 W W':World} {G:Nat} {al st:Int} {v:Value} {es:List Edg} {g cap:Nat} {e:Edg}(h:Gr2 w0 W G al st v es) (zhJ:W'.ownsRow w0.heap.size 103 3 (.slice (some ⟨g,0,none⟩) (es.length+1) cap) (es.length+1) (zB es++[.int .i64 e.fr,.int .i64 e.le,.int .i64 e.ta]))
  (hg:W.grownBy W' v.ownBlock) :
  Hid (W'.cell? ⟨G,2,none⟩=some v)∧W'.frozen? ⟨G,2,none⟩=false∧Gr2 w0 (W'.setCell ⟨G,2,none⟩ (.slice (some ⟨g,0,none⟩) (es.length+1) cap)) G al st (.slice (some ⟨g,0,none⟩) (es.length+1) cap) (es++[e]):=by
 have hB:Blk W' G 39 #[.int .i64 al,.int .i64 st,v]:=(hg.block G h.blk.lt (fun e=>by have:=(h.own.lt G e.symm).1;have:=h.hG;omega)).trans h.blk
 have hgG:=(zhJ.lt g rfl).1
 have hG:=h.hG
 have hf:Frm (fun k=>k=G) w0 W':=h.fr.grownG hg (fun k hk=>(h.own.lt k hk).1)
 refine⟨hB.cell 2,hB.frozen 2,⟨by simpa using hB.set_ 2 _,?_,hf.cell rfl _,hG⟩⟩
 have:=zd zhJ (Frm.setCell W' G 2 (.slice (some ⟨g,0,none⟩) (es.length+1) cap)) (fun b hv hS=>by
  have:g=b:=by simpa [Value.ownBlock] using hv
  omega)
 rw [zbB]
 simpa [zB] using this
theorem spec_l2Rank {p k:Nat} {w:World}(hp:p≤16)(hk:k≤p) :
  Calls Tryz.prog 250 #[.int .i64 (2 ^ p - 1:Nat),.int .i64 k] w fun e w'=>e=.returned (.int .i64 (k:Nat))∧w=w':=by
 have hF:2 ^ p - 1<65536:=by have:=Nat.pow_le_pow_right (show 1≤2 by omega) hp;have:(2:Nat) ^ 16=65536:=rfl;omega
 have HB:=za (fun i (hi:i<p)=>show (2 ^ p - 1).testBit i=true by rw [Nat.testBit_two_pow_sub_one];simpa using hi)
 generalize 2 ^ p - 1=F at *
 go_enter Tryz.func250,Tryz.ntmps250
 go_wp2_with fail
 go_loop [5,6] (fun v iv=>∃ i:Nat,iv=.int .i64 i∧i≤k∧v=.int .i64 i) (fun _ iv=>k - (intOf iv).toNat)
 case atStart=>exact⟨0,rfl,Nat.zero_le _,rfl⟩
 case round =>
  obtain⟨i,rfl,hi,rfl⟩:=hrel
  by_cases hlt:i<k
  ·have hlt':(i:Int)<(k:Int):=by omega
   have Hb:=za (HB.out i (by omega))
   go_wp2_with (go_at_call 112;refine (zaa F i (by unfold Sm;omega) _ (by omega)).mono ?_;rw [Hb.out];rintro e w' ⟨rfl,rfl⟩)
   go_round
   case rel=>exact⟨i+1,by go_num,by omega,by go_num⟩
   case measure=>simp [intOf];omega
  ·obtain rfl:i=k:=by omega
   go_wp2_with fail
   go_ret
   exact⟨rfl,rfl⟩
section
variable {w W:World} {lo hi n c m d m' d':Nat} {A B B':Option Addr} {s:Sys} {p:Aut}
theorem yU06a1 {P:Prop}(h:P:=by
 refine zg fun K hK=>?_
 go_simp
 refine hK.out _ _ ?_
 refine zj ?_
 go_wp2_with fail
 go_meet
 obtain⟨w1,h1,h2⟩:=Hfin.out
 exact⟨w1,rfl,h1,h2⟩
 ):P:=h
theorem spec_l2Keep {P:Nat}(h:zah w lo hi A n s)(hv:zr s=true)(hP:s.st=(P:Int))(hn:n≤1000000)(hhi:hi≤w.heap.size) :
  Calls Tryz.prog 225 #[.agg #[.int .i64 s.al,.int .i64 s.st,.slice A n c],.int .i64 (2 ^ P - 1:Nat)] w (RetSys w s):=by
 have hsm:=zcS hv
 obtain⟨hs1,hs2,hf,-⟩:=hsm
 have hP16:P≤16:=by omega
 have hPn:s.st.toNat=P:=by omega
 rw [hPn] at hf
 have Hf:=za hf
 have HS:=za (fun W (hW:Ext w W)=>h.ext hW)
 have hl:=za h.1
 have HPe:=za hP
 have hF:2 ^ P - 1<65536:=by have:=Nat.pow_le_pow_right (show 1≤2 by omega) hP16;have:(2:Nat) ^ 16=65536:=rfl;omega
 have HRk:=za (fun k W (hk:k≤P)=>spec_l2Rank (w:=W) hP16 hk)
 have HB:=za (fun i (hi:i<P)=>show (2 ^ P - 1).testBit i=true by rw [Nat.testBit_two_pow_sub_one];simpa using hi)
 rw [hP]
 generalize 2 ^ P - 1=F at *
 have hx0:Ext w ((w.alloc (.cells #[.int .i64 s.al,.int .i64 (P:Nat),.slice A n c] 39)).alloc (.cells #[.int .i64 0,.int .i64 0,.slice none 0 0] 39)):=((Ext.refl _).alloc _).alloc _
 obtain⟨b1,b2⟩:=zR (Ext.refl ((w.alloc (.cells #[.int .i64 s.al,.int .i64 (P:Nat),.slice A n c] 39)).alloc (.cells #[.int .i64 0,.int .i64 0,.slice none 0 0] 39)))
 clear h hv hP hs1 hs2 hf hPn
 go_enter Tryz.func225,Tryz.ntmps225
 go_upto_region 1 with fail
 generalize (w.alloc (.cells #[.int .i64 s.al,.int .i64 (P:Nat),.slice A n c] 39)).alloc (.cells #[.int .i64 0,.int .i64 0,.slice none 0 0] 39)=w0 at *
 have CB:=b1.cells
 have hww:=Ext.refl w0
 have hb2:=b2.lt
 have hRP:=za (fun W=>HRk.out P W (Nat.le_refl _))
 have hww1:=hww.drew
 have hxb:=(Ext.refl w0.drew).alloc (.cells #[.int .i64 0,.int .i64 0,.slice none 0 0] 39)
 have bG:=Blk.new w0.drew 39 #[.int .i64 0,.int .i64 0,.slice none 0 0]
 go_cut [5] (fun v wx=>∃ w1,v=.pointer (some ⟨w0.heap.size,0,none⟩)∧Ext w0 w1∧Gr2 w1 wx w0.heap.size s.al (P:Nat) (.slice none 0 0) [])
 case first =>
  have zhM:∃ w1,Ext w0 w1∧Gr2 w1 (w0.alloc (.cells #[.int .i64 s.al,.int .i64 (P:Nat),.slice none 0 0] 39)).drew w0.heap.size s.al (P:Nat) (.slice none 0 0) []:=
   ⟨(w0.alloc (.cells #[.int .i64 s.al,.int .i64 (P:Nat),.slice none 0 0] 39)).drew,((Ext.refl _).alloc _).drew,Blk.new w0 _ _,World.ownsRow_nil _ _ _ _,Frm.refl _ _,by simp⟩
  have Hfin:=za zhM
  have cG:=bG.cell
  have fG:=bG.frozen
  rw [show w0.drew.heap.size=w0.heap.size from rfl] at cG fG
  clear zhM
  refine uR (fun X=>Ext w0 X) [8] (zK.app [0,1,2,3,4] (zK.two 5 (zK.of [6,7,8]) 7 (zK.of [5,6,8]))) ?_
  refine uQ ?_
  refine zD (fun K hK=>?_) (fun K hK=>?_)
  ·go_simp
   refine (hRP.out _).mono ?_
   rintro e w' ⟨rfl,rfl⟩
   refine hK.out _ _ hww1 ?_
   refine pT ?_
   refine uQ ?_
   refine zb fun K hK=>?_;go_simp
   refine hK.out _ _ (hww1.alloc _) ?_
   refine pT ?_
   exact yU06a1
  ·go_simp
   refine hK.out _ _ (hww1.alloc _) ?_
   refine pT ?_
   refine zb fun K hK=>?_;go_simp
   refine (hRP.out _).mono ?_
   rintro e w' ⟨rfl,rfl⟩
   refine hK.out _ _ (hww1.alloc _) ?_
   refine pT ?_
   refine uQ ?_
   exact yU06a1
 case rest =>
  obtain⟨w1,rfl,hx01,hgr⟩:=hcut
  have HSw:=za (fun W (hW:Ext w1 W)=>HS.out W (hx0.trans (hx01.trans hW)))
  have CB1:∀ W,Frm (fun k=>k=w0.heap.size) w1 W→∀ q,W.cell? ⟨w.heap.size,q,none⟩=#[Value.int .i64 s.al,.int .i64 (P:Nat),.slice A n c][q]?:=fun W hW=>((b1.ext hx01).frm hW (by omega)).cell
  have hs01:=hx01.size
  clear hxb bG hww1 CB hww
  go_wp2_with fail
  go_loopw [6] (fun iv wr=>∃ (k:Nat) (v:Value),iv=.int .i64 k∧k≤n∧Gr2 w1 wr w0.heap.size s.al (P:Nat) v (s.edges.take k)) (fun iv _=>n - (intOf iv).toNat)
  case atStart=>exact⟨0,_,rfl,Nat.zero_le _,hgr⟩
  case round =>
   clear hgr
   obtain⟨k,v,rfl,hk,hgr⟩:=hrel
   have k1:=CB1 wr hgr.fr
   by_cases hlt:k<n
   ·have hlt':(k:Int)<(n:Int):=by omega
    have hSr:=(HSw.out w1 (Ext.refl _)).frm hgr.fr (fun k h1 h2 e=>by have:=hx0.size;omega)
    obtain⟨g,o,x,rfl,hglo,hghi,hx,c0,c1,c2⟩:=hSr.2.edge hlt
    obtain⟨⟨f0,f1⟩,⟨l0,l1⟩,t0,t1⟩:=Hf.out x (List.mem_of_getElem? hx.out)
    obtain⟨fr,hfr⟩:∃ fr:Nat,Hid (x.fr=fr):=⟨x.fr.toNat,by unfold Hid;omega⟩
    obtain⟨to_,hto⟩:∃ to_:Nat,Hid (x.ta=to_):=⟨x.ta.toNat,by unfold Hid;omega⟩
    have hfrP:fr<P:=by have:=hfr.out;omega
    have htoP:to_<P:=by have:=hto.out;omega
    rw [hfr.out] at c0
    rw [hto.out] at c2
    have hR1:=za (fun W=>HRk.out fr W (by omega))
    have hR2:=za (fun W=>HRk.out to_ W (by omega))
    have hB1:=za (HB.out fr hfrP)
    have hB2:=za (HB.out to_ htoP)
    have hxe:=(Ext.refl wr).alloc (.cells #[.int .i64 fr,.int .i64 x.le,.int .i64 to_] 103)
    have be:=Blk.new wr 103 #[.int .i64 fr,.int .i64 x.le,.int .i64 to_]
    have hgr2:=hgr.ext_ hxe
    have hk1:=za hgr.fr.size
    have hst:=za (show zB (s.edges.take (k+1))=zB (s.edges.take k)++[.int .i64 fr,.int .i64 x.le,.int .i64 to_] by
     rw [List.take_add_one,hx.out,Option.toList_some,zbB,← hfr.out,← hto.out];rfl)
    have hlt2:=za (show (s.edges.take k).length=k by rw [List.length_take];have:=hl.out;omega)
    clear f0 f1 t0 t1 hgr
    go_upto_region 6 with fail
    generalize hge:wr.heap.size=ge at *
    have HGe:=za hge
    clear hge
    generalize wr.alloc (.cells #[.int .i64 fr,.int .i64 x.le,.int .i64 to_] 103)=w2 at *
    have ce:=be.cell
    go_wp2_with (first
     |(go_at_call 112;with_reducible refine (zaa F fr (by unfold Sm;omega) _ (by omega)).mono ?_;rw [hB1.out];rintro e w' ⟨rfl,rfl⟩)
     |(go_at_call 112;with_reducible refine (zaa F to_ (by unfold Sm;omega) _ (by omega)).mono ?_;rw [hB2.out];rintro e w' ⟨rfl,rfl⟩))
    have CE:=be.cells
    have CG:∀ W,Ext w2 W→∀ q,W.cell? ⟨w0.heap.size,q,none⟩=#[Value.int .i64 s.al,.int .i64 (P:Nat),v][q]?:=fun W hW=>(hgr2.blk.ext hW).cell
    have hww:=Ext.refl w2
    clear ce
    refine uR (fun X=>Ext w2 X) [14,16] (zK.of [0,1,2,3,4,6,7,8,9,10,5,11,12,13,14,15,16]) ?_
    refine uQ ?_
    have hxd:=hww.drew
    refine zb fun K hK=>?_;go_simp
    refine (hR1.out _).mono ?_
    rintro e w' ⟨rfl,rfl⟩
    refine hK.out _ _ hxd ?_
    refine pT ?_
    refine uQ ?_
    refine zb fun K hK=>?_;go_simp
    refine (hR2.out _).mono ?_
    rintro e w' ⟨rfl,rfl⟩
    refine hK.out _ _ hxd ?_
    refine pT ?_
    refine uQ ?_
    refine zb fun K hK=>?_;go_simp
    refine hK.out _ _ (hxd.alloc _) ?_
    refine pT ?_
    refine zg fun K hK=>?_
    have hgr3:=hgr2.ext_ hxd
    have zhU:=hgr3.own
    rw [hlt2.out] at zhU
    refine zaC w1 w2.drew _ _ _ rfl 103 _ 3 24 Tryz.underlying37 zci rfl (by decide) v k (zB (s.edges.take k)) _ _ rfl rfl hgr3.fr.size zhU rfl (by simp [Value.oneCell']) (by unfold maxLen;omega) (by omega) ?_
    intro g8 cap8 w8 hown8 hg8 hat8 hlt8
    refine hK.out _ _ ?_
    refine pT ?_
    refine uQ ?_
    obtain⟨p1,p2,p3⟩:=hgr3.push (e:=⟨fr,x.le,to_⟩) (W':=w8) (by rw [hlt2.out];exact hown8) hg8
    have p1':=p1.out
    have heq:=za (show s.edges.take k++[⟨fr,x.le,to_⟩]=s.edges.take (k+1) by
     rw [List.take_add_one,hx.out,Option.toList_some,← hfr.out,← hto.out])
    rw [heq.out,hlt2.out] at p3
    refine zg fun K hK=>?_
    go_simp
    refine hK.out _ _ ?_
    refine zj ?_
    clear hown8 hg8 hat8 zhU p1 hgr3
    generalize w8.setCell ⟨w0.heap.size,2,none⟩ (.slice (some ⟨g8,0,none⟩) (k+1) cap8)=w10 at *
    go_wp2_with fail
    go_roundw
    case rel=>exact⟨k+1,_,by go_num,by omega,p3⟩
    case measure=>simp [intOf];omega
   ·obtain rfl:k=n:=by omega
    rw [List.take_of_length_le (by have:=hl.out;omega)] at hgr
    have zhJ:=hgr.own
    rw [← hl.out] at zhJ
    obtain⟨A1,c1,rfl⟩:=zf zhJ
    have bz:=(b2.ext hx01).frm hgr.fr (by omega)
    have kz:=bz.cell
    have fz:=bz.frozen
    have kG:=hgr.blk.cell
    have hf:=zaj wr (w.heap.size+1) (.int .i64 s.al) (.int .i64 (P:Nat)) (.slice A1 k c1)
    have cf:=(zL bz rfl (.int .i64 s.al) (.int .i64 (P:Nat)) (.slice A1 k c1)).cell
    have hxw:Ext w wr:=(hx0.trans hx01).frm hgr.fr (fun k hk e=>by have:=hx0.size;omega)
    have hret:=za (show RetSys w s (.returned (.agg #[.int .i64 s.al,.int .i64 (P:Nat),.slice A1 k c1])) (((wr.setCell ⟨w.heap.size+1,0,none⟩ (.int .i64 s.al)).setCell ⟨w.heap.size+1,1,none⟩ (.int .i64 (P:Nat))).setCell ⟨w.heap.size+1,2,none⟩ (.slice A1 k c1)) from
     ⟨A1,k,c1,by rw [HPe.out],⟨hl.out,zl (zd zhJ hf (fun b hv e=>zk zhJ bz (by decide) hv e)) (hx0.trans hx01).size⟩,hxw.frm hf (fun k hk e=>by omega)⟩)
    clear hf zhJ
    go_wp2_with fail
    exact bodyPost_ret (v:=.agg #[.int .i64 s.al,.int .i64 (P:Nat),.slice A1 k c1]) (by simp [results,Tryz.results225,go_sem,cf]) rfl hret.out
end
theorem iface_nat {s t:Sys} {p:Aut}(hs:zr s=true)(hp:zh p=true)(ht:zr t=true):iface s p t=(((s.al.toNat|||p.al.toNat)&&&t.al.toNat:Nat):Int):=by
 unfold iface
 rw [hs,hp,ht];rfl
theorem zeg {s t:Sys} {p:Aut}(h:0≤iface s p t):zr s=true∧zh p=true∧zr t=true:=by
 have h1:¬ iface s p t<0:=by omega
 rw [iface_neg] at h1
 simpa using h1
def RetSt (N:Nat) (Q:Nat→Nat→Prop) (w:World) (e:Ending) (w':World):Prop:=
 ∃ (T:List Nat) (g c:Nat),e=.returned (.slice (some ⟨g,0,none⟩) N c)∧w'.ownsRow w.heap.size 3 1 (.slice (some ⟨g,0,none⟩) N c) N (zaK T)∧zdG T N Q∧Ext w w'
def mset (s:Sys) (x l:Nat):Nat:=if s.al.toNat.testBit l then zbS s.edges x (l:Int) else x
theorem mset_bit {s:Sys}(hs:Sml s) (x l q':Nat):(mset s x l).testBit q'=true↔∃ q,x.testBit q=true∧q'∈cho s q l:=by
 unfold mset
 split
 ·rename_i h
  exact zhC hs h x q'
 ·rename_i h
  constructor
  ·intro h1;exact⟨q',h1,by unfold cho;rw [if_neg h];simp⟩
  ·rintro ⟨q,h1,h2⟩
   unfold cho at h2
   rw [if_neg h] at h2
   simp at h2
   rw [h2];exact h1
theorem mset_lt {s:Sys}(hs:Sml s) {x:Nat}(hx:x<65536) (l:Nat):mset s x l<65536:=by
 unfold mset
 split
 ·exact zgJ hs _ _
 ·exact hx
structure MvI (s:Sys) (p:Aut) (l N:Nat) (T:List Nat) (k:Nat) (O:List Nat):Prop where
 len:O.length=N
 lt:∀ x∈O,x<65536
 bit:∀ j q',bitS O j q'↔∃ i q,i<k∧bitS T i q∧q'∈cho s q l∧j=aGo p i l
theorem MvI.step {s:Sys} {p:Aut} {l N k:Nat} {T O:List Nat}(h:MvI s p l N T k O)(hs:Sml s)(hp:zh p=true)(hN:N=p.next.length)(hT:∀ x∈T,x<65536)(hk:k<N)(hl:l<6) :
  MvI s p l N T (k+1) (O.set (aGo p k l) (O.getD (aGo p k l) 0|||mset s (T.getD k 0) l)):=by
 have hj:aGo p k l<O.length:=by rw [h.len,hN];exact zgs hp (by omega) hl
 refine⟨by rw [List.length_set];exact h.len,fun x hx=>?_,fun j q'=>?_⟩
 ·rcases List.mem_or_eq_of_mem_set hx with hx|rfl
  ·exact h.lt x hx
  ·exact Nat.or_lt_two_pow (n:=16) (zdJ h.lt _) (mset_lt hs (zdJ hT _) _)
 ·rw [zgT hj,h.bit,mset_bit hs]
  constructor
  ·rintro (⟨i,q,h1,h2,h3,h4⟩|⟨h1,q,h2,h3⟩)
   ·exact⟨i,q,by omega,h2,h3,h4⟩
   ·exact⟨k,q,by omega,h2,h3,h1⟩
  ·rintro ⟨i,q,h1,h2,h3,h4⟩
   rcases Nat.lt_or_eq_of_le (Nat.le_of_lt_succ h1) with h5|rfl
   ·exact .inl ⟨i,q,h5,h2,h3,h4⟩
   ·exact .inr ⟨h4,q,h2,h3⟩
theorem MvI.zero (s:Sys) (p:Aut) (l N:Nat) (T:List Nat):MvI s p l N T 0 (List.replicate N 0):=by
 refine⟨by simp,fun x hx=>by rw [List.mem_replicate] at hx;omega,fun j q'=>?_⟩
 constructor
 ·intro h
  unfold bitS at h
  rw [List.getD_eq_getElem?_getD] at h
  cases h1:(List.replicate N 0)[j]? with
  |none=>rw [h1] at h;simp at h
  |some x =>
   have:=List.mem_of_getElem? h1
   rw [List.mem_replicate] at this
   rw [h1,this.2] at h
   simp at h
 ·rintro ⟨_,_,h,_⟩;omega
theorem MvI.fin {s:Sys} {p:Aut} {l N:Nat} {T O:List Nat} {B:Nat→Nat→Prop}(h:MvI s p l N T N O)(hT:zdG T N B):zdG O N (mvB s p l B):=by
 refine⟨h.len,h.lt,fun j q'=>?_⟩
 rw [h.bit]
 constructor
 ·rintro ⟨i,q,h1,h2,h3,h4⟩
  exact⟨q,i,(hT.2.2 i q).1 h2,h3,h4⟩
 ·rintro ⟨q,i,h2,h3,h4⟩
  have hb:=(hT.2.2 i q).2 h2
  exact⟨i,q,by rw [← hT.1];exact bitS_lt hb,hb,h3,h4⟩
def badT (p:Aut) (T:List Nat) (N:Nat):Bool:=(List.range N).any fun i=>T.getD i 0 != 0&&!zet p i
theorem zgR {p:Aut} {T:List Nat} {N:Nat}:badT p T N=true↔∃ i,i<N∧T.getD i 0≠0∧zet p i=false:=by
 unfold badT
 rw [List.any_eq_true]
 constructor
 ·rintro ⟨i,h1,h2⟩
  rw [List.mem_range] at h1
  simp only [Bool.and_eq_true,bne_iff_ne,Bool.not_eq_true'] at h2
  exact⟨i,h1,h2.1,h2.2⟩
 ·rintro ⟨i,h1,h2,h3⟩
  exact⟨i,List.mem_range.2 h1,by simp [h3];simpa using h2⟩
section
variable {w:World} {lo hi n c m d m' d' L:Nat} {A B B':Option Addr} {s:Sys} {p:Aut}
theorem spec_l9Start {N:Nat}(hS:zah w lo hi A n s)(hP:zM w lo hi B m B' m' p)(hv:zr s=true)(hp:zh p=true)(hL:L<64)(hhi:hi≤w.heap.size)(hN:N=p.next.length) :
  Calls Tryz.prog 256 #[.agg #[.int .i64 s.al,.int .i64 s.st,.slice A n c,.int .i64 p.al,.slice B m d,.slice B' m' d',.int .i64 L]] w (RetSt N (PR s p L []) w):=by
 have hm:m=N:=hP.n1.trans hN.symm
 subst hm
 have hN12:1≤m∧m≤12:=by have:=(zx hp).2.1;omega
 have HS:=za (fun W (hW:Ext w W)=>hS.ext hW)
 have HP:=za (fun W (hW:Ext w W)=>hP.ext hW)
 have HN:=za hN
 have hw1:Ext w (w.alloc (.cells #[.int .i64 s.al,.int .i64 s.st,.slice A n c,.int .i64 p.al,.slice B m d,.slice B' m' d',.int .i64 L] 199)):=(Ext.refl _).alloc _
 have b1:=Blk.new w 199 #[.int .i64 s.al,.int .i64 s.st,.slice A n c,.int .i64 p.al,.slice B m d,.slice B' m' d',.int .i64 L]
 have hb1:=b1.lt
 clear hS hP hN
 go_enter Tryz.func256,Tryz.ntmps256
 go_upto_region 1 with fail
 generalize w.alloc (.cells #[.int .i64 s.al,.int .i64 s.st,.slice A n c,.int .i64 p.al,.slice B m d,.slice B' m' d',.int .i64 L] 199)=w1 at *
 have k1:=b1.cell
 go_upto_region 2 with (at_make;refine zbT w1 w1 rfl _ _ 74 rfl 3 _ 1 8 Tryz.underlying74 zac _ _ m rfl rfl (Ext.refl _) (by omega) (by unfold maxLen;omega) ?_;intro w2 hx2 zhT hx23 hsz2)
 rw [madeZ] at zhT
 have hst:=(zhT.stored 0 (.int .i64 1)).1
 rw [show (zaK (List.replicate m 0)).set 0 (.int .i64 1)=zaK ((List.replicate m 0).set 0 1) from (zfh (i:=0) (v:=1) (R:=List.replicate m 0)).symm] at hst
 have hfz:=zhT.frozenAt 0
 have hc0:=zcv zhT (show 0<m by omega)
 have hw3:=(hw1.trans hx2).setCell (p:=⟨w1.heap.size,0,none⟩) hw1.size (.int .i64 1)
 have hb2:=(b1.ext hx2).far (p:=⟨w1.heap.size,0,none⟩) (by dsimp only;omega) (.int .i64 1)
 have h0m:(0:Int)<(m:Int):=by omega
 clear k1
 have k1:=hb2.cell
 have hH:=za (fun T' (hT':zdG T' m (fun q i=>q=0∧i=0))=>hT')
 have hS3:=HS.out _ hw3
 have hP3:=HP.out _ hw3
 have hT0:=stand_start hN12.1
 have hsz:=hw1.size
 clear hx23
 go_wp2_with fail
 refine (zeP (c:=c) (d:=d) (d':=d') hS3 hP3 hv hp hL HN.out (by omega) hst hT0).mono ?_
 rintro e w4 ⟨T',rfl,hown4,hT4,hfr4⟩
 go_wp2_with fail
 go_ret
 exact⟨T',w1.heap.size,m,rfl,zl hown4 hw1.size,hT4,hw3.frm hfr4 (fun k hk e=>by omega)⟩
theorem spec_l9Move {N l g0 b0 c0:Nat} {T:List Nat} {Q:Nat→Nat→Prop}(hS:zah w lo hi A n s)(hP:zM w lo hi B m B' m' p)(hv:zr s=true)(hp:zh p=true)(hL:L<64)(hhi:hi≤w.heap.size)(hN:N=p.next.length)(hl:l<6)
  (zhJ:w.ownsRow b0 3 1 (.slice (some ⟨g0,0,none⟩) N c0) N (zaK T)) (hT:zdG T N Q) :
  Calls Tryz.prog 258 #[.agg #[.int .i64 s.al,.int .i64 s.st,.slice A n c,.int .i64 p.al,.slice B m d,.slice B' m' d',.int .i64 L],.slice (some ⟨g0,0,none⟩) N c0,.int .i64 l] w (RetSt N (Cl s p L (mvB s p l Q)) w):=by
 have hsm:=zcS hv
 obtain⟨ha0,ha1⟩:=zai hv
 obtain⟨al,hal⟩:∃ al:Nat,Hid (s.al=al):=⟨s.al.toNat,by unfold Hid;omega⟩
 have hal64:al<64:=by have:=hal.out;omega
 have hto:=za (show s.al.toNat=al by have:=hal.out;omega)
 have hN12:1≤N∧N≤12:=by have:=(zx hp).2.1;omega
 have HS:=za (fun W (hW:Ext w W)=>hS.ext hW)
 have HP:=za (fun W (hW:Ext w W)=>hP.ext hW)
 have HN:=za hN
 have HT:=za hT
 have hgw:=(zhJ.lt g0 rfl).2
 have hw1:Ext w (w.alloc (.cells #[.int .i64 s.al,.int .i64 s.st,.slice A n c,.int .i64 p.al,.slice B m d,.slice B' m' d',.int .i64 L] 199)):=(Ext.refl _).alloc _
 have b1:=Blk.new w 199 #[.int .i64 s.al,.int .i64 s.st,.slice A n c,.int .i64 p.al,.slice B m d,.slice B' m' d',.int .i64 L]
 have hb1:=b1.lt
 clear hS hP hN hT
 go_enter Tryz.func258,Tryz.ntmps258
 go_upto_region 1 with fail
 generalize w.alloc (.cells #[.int .i64 s.al,.int .i64 s.st,.slice A n c,.int .i64 p.al,.slice B m d,.slice B' m' d',.int .i64 L] 199)=w1 at *
 go_wp2_with (at_make;refine zbT w1 w1 rfl _ _ 74 rfl 3 _ 1 8 Tryz.underlying74 zac _ _ N rfl rfl (Ext.refl _) (by omega) (by unfold maxLen;omega) ?_;intro w2 hx2 zhT hx23 hsz2)
 rw [madeZ] at zhT
 have hsz1:=hw1.size
 have hw2:=hw1.trans hx2
 clear hx23
 obtain⟨gO,hgO⟩:∃ gO,gO=w1.heap.size:=⟨_,rfl⟩
 rw [← hgO] at zhT ⊢
 have hOw:w.heap.size<gO:=by omega
 clear hgO
 go_loopw [8] (fun iv wr=>∃ (i:Nat) (O:List Nat),iv=.int .i64 i∧i≤N∧Hid (MvI s p l N T i O)∧wr.ownsRow gO 3 1 (.slice (some ⟨gO,0,none⟩) N N) N (zaK O)∧Frm (fun k=>k=gO) w2 wr) (fun iv _=>N - (intOf iv).toNat)
 case atStart=>exact⟨0,_,rfl,Nat.zero_le _,za (MvI.zero s p l N T),zhT,Frm.refl _ _⟩
 case round =>
  clear zhT
  obtain⟨i,O,rfl,hi,hO,hownO,hfr⟩:=hrel
  have hxr:Ext w wr:=hw2.frm hfr (fun k hk e=>by omega)
  have k1:=((b1.ext hx2).frm hfr (by omega)).cell
  by_cases hlt:i<N
  ·have hlt':(i:Int)<(N:Int):=by omega
   have cI:=zcv (ze zhJ hxr) hlt
   obtain⟨x,hx⟩:∃ x,Hid (T.getD i 0=x):=⟨_,rfl⟩
   have hx16:x<65536:=by rw [← hx.out];exact zdJ HT.out.2.1 i
   rw [hx.out] at cI
   have CB:∀ W,Ext wr W→∀ q,W.cell? ⟨w.heap.size,q,none⟩=#[Value.int .i64 al,.int .i64 s.st,.slice A n c,.int .i64 p.al,.slice B m d,.slice B' m' d',.int .i64 L][q]?:=fun W hW q=>by rw [(((b1.ext hx2).frm hfr (by omega)).ext hW).cell,hal.out]
   have CI:∀ W,Ext wr W→W.cell? ⟨g0,i,none⟩=some (.int .i64 (x:Nat)):=fun W hW=>hW.cell_some cI
   obtain⟨j,hj⟩:∃ j,Hid (aGo p i l=j):=⟨_,rfl⟩
   have hjN:j<N:=by rw [← hj.out,HN.out];exact zgs hp (by rw [← HN.out];exact hlt) hl
   have hjN':(j:Int)<(N:Int):=by omega
   obtain⟨v,hv0⟩:∃ v,Hid (O.getD j 0=v):=⟨_,rfl⟩
   obtain⟨y,hy⟩:∃ y,Hid (mset s x l=y):=⟨_,rfl⟩
   obtain⟨u,hu⟩:∃ u,Hid (v|||y=u):=⟨_,rfl⟩
   have hv16:v<65536:=by rw [← hv0.out];exact zdJ hO.out.lt j
   have hy16:y<65536:=by rw [← hy.out];exact mset_lt hsm hx16 l
   have hor:=zcr (a:=v) (b:=y) (by unfold Sm;omega) (by unfold Sm;omega)
   rw [hu.out] at hor
   have CJ:∀ W,Ext wr W→W.cell? ⟨gO,j,none⟩=some (.int .i64 (v:Nat)):=fun W hW=>hW.cell_some (hv0.out ▸ zcv hownO hjN)
   have FJ:∀ W,Ext wr W→W.frozen? ⟨gO,j,none⟩=false:=fun W hW=>(ze hownO hW).frozenAt j
   have hstep:=hO.out.step hsm hp HN.out HT.out.2.1 hlt hl
   rw [hj.out,hv0.out,hx.out,hy.out,hu.out] at hstep
   have Hstep:=za hstep
   have Hst:=za (fun W (hW:Ext wr W)=>((ze hownO hW).stored j (.int .i64 (u:Nat))).1)
   have hww:=Ext.refl wr
   clear hstep k1 cI
   cases hb:al.testBit l
   ·have Hb:=za hb
    have hyx:x=y:=by rw [← hy.out];unfold mset;rw [hto.out,hb];rfl
    subst hyx
    clear hb
    go_wp2_with (first
     |(go_at_call 112;refine (zaa al l (by unfold Sm;omega) _ (by omega)).mono ?_;rw [Hb.out];rintro e w' ⟨rfl,rfl⟩)
     |(go_at_call 172;refine (zcm (HP.out _ hxr) hp (by rw [← HN.out];exact hlt) hl).mono ?_;rw [hj.out];rintro e w4 ⟨rfl,hx4⟩))
    have hst:=Hst.out w4 hx4
    rw [← zfh] at hst
    go_roundw
    case rel=>exact⟨i+1,O.set j u,by go_num,by omega,Hstep,hst,(hfr.ext hx4).trans (Frm.setCell _ gO j _)⟩
    case measure=>simp [intOf];omega
   ·have Hb:=za hb
    have hyx:Hid (zbS s.edges x (l:Int)=y):=by unfold Hid;rw [← hy.out];unfold mset;rw [hto.out,hb];rfl
    clear hb
    go_wp2_with (first
     |(go_at_call 112;refine (zaa al l (by unfold Sm;omega) _ (by omega)).mono ?_;rw [Hb.out];rintro e w' ⟨rfl,rfl⟩)
     |(go_at_call 241;rw [← hal.out];refine (zdU (c:=c) (k0:=s.st.toNat) (HS.out _ hxr) hsm.2.2.1 (by have:=hsm.2.1;omega) (by unfold Sm;omega)).mono ?_;rw [hyx.out];rintro e w3 ⟨rfl,hx3⟩;have hxr3:=hxr.trans hx3)
     |(go_at_call 172;refine (zcm (HP.out _ hxr3) hp (by rw [← HN.out];exact hlt) hl).mono ?_;rw [hj.out];rintro e w4 ⟨rfl,hx4⟩;have hx34:=hx3.trans hx4))
    have hst:=Hst.out w4 hx34
    rw [← zfh] at hst
    go_roundw
    case rel=>exact⟨i+1,O.set j u,by go_num,by omega,Hstep,hst,(hfr.ext hx34).trans (Frm.setCell _ gO j _)⟩
    case measure=>simp [intOf];omega
  ·obtain rfl:i=N:=by omega
   have zhM:=hO.out.fin HT.out
   go_wp2_with fail
   refine (zeP (c:=c) (d:=d) (d':=d') (HS.out _ hxr) (HP.out _ hxr) hv hp hL HN.out (by omega) hownO zhM).mono ?_
   rintro e w4 ⟨T',rfl,hown4,hT4,hfr4⟩
   go_wp2_with fail
   go_ret
   exact⟨T',gO,i,rfl,zl hown4 (by omega),hT4,hxr.frm hfr4 (fun k hk e=>by omega)⟩
end
noncomputable def zu (s:Sys) (p:Aut) (L:Nat) (t:ByteArray):Bool:=by
 classical exact inB t L&&decide (SafeW s p L (wl t))
theorem zfI {s:Sys} {p:Aut} {L:Nat} {t:ByteArray}:zu s p L t=true↔inB t L=true∧SafeW s p L (wl t):=by
 unfold zu
 simp
section
variable {w:World} {lo hi n c m d m' d' L:Nat} {A B B':Option Addr} {s:Sys} {p:Aut}
theorem spec_l9Bad {N g0 b0 c0:Nat} {T:List Nat}(hP:zM w lo hi B m B' m' p)(hp:zh p=true)(hN:N=p.next.length)
  (zhJ:w.ownsRow b0 3 1 (.slice (some ⟨g0,0,none⟩) N c0) N (zaK T)) :
  Calls Tryz.prog 257 #[.agg #[.int .i64 s.al,.int .i64 s.st,.slice A n c,.int .i64 p.al,.slice B m d,.slice B' m' d',.int .i64 L],.slice (some ⟨g0,0,none⟩) N c0] w fun e w'=>e=.returned (.bool (badT p T N))∧Ext w w':=by
 have hN12:1≤N∧N≤12:=by have:=(zx hp).2.1;omega
 have hm':m'=N:=by rw [hP.n2,(zx hp).2.2.1,hN]
 have HB:=za (fun W (hW:Ext w W) q hq=>accB_cell (q:=q) (hP.ext hW) hq)
 have hw1:Ext w (w.alloc (.cells #[.int .i64 s.al,.int .i64 s.st,.slice A n c,.int .i64 p.al,.slice B m d,.slice B' m' d',.int .i64 L] 199)):=(Ext.refl _).alloc _
 have b1:=Blk.new w 199 #[.int .i64 s.al,.int .i64 s.st,.slice A n c,.int .i64 p.al,.slice B m d,.slice B' m' d',.int .i64 L]
 subst hm'
 clear hP hN
 go_enter Tryz.func257,Tryz.ntmps257
 go_upto_region 1 with fail
 generalize w.alloc (.cells #[.int .i64 s.al,.int .i64 s.st,.slice A n c,.int .i64 p.al,.slice B m d,.slice B' m' d',.int .i64 L] 199)=w1 at *
 have k1:=b1.cell
 go_wp2_with fail
 go_loop [5] (fun iv=>∃ i:Nat,iv=.int .i64 i∧i≤m'∧Hid (∀ j,j<i→T.getD j 0=0∨zet p j=true)) (fun iv=>m' - (intOf iv).toNat)
 case atStart=>exact⟨0,rfl,Nat.zero_le _,za (fun j h=>by omega)⟩
 case round =>
  obtain⟨i,rfl,hi,hdone⟩:=hrel
  by_cases hlt:i<m'
  ·have hlt':(i:Int)<(m':Int):=by omega
   obtain⟨ad,rfl,cA⟩:=HB.out w1 hw1 i hlt
   have cI:=zcv (ze zhJ hw1) hlt
   obtain⟨x,hx⟩:∃ x,Hid (T.getD i 0=x):=⟨_,rfl⟩
   rw [hx.out] at cI
   by_cases h0:x=0
   ·subst h0
    go_wp2_with fail
    go_round
    case rel=>exact⟨i+1,by go_num,by omega,za (fun j hj=>by
     rcases Nat.lt_or_eq_of_le (Nat.le_of_lt_succ hj) with h1|rfl
     ·exact hdone.out j h1
     ·exact .inl hx.out)⟩
    case measure=>simp [intOf];omega
   ·have hne:((x:Int) != 0)=true:=by simp;omega
    cases zhK:zet p i
    ·have hb:=za (show badT p T m'=true from zgR.2 ⟨i,hlt,by rw [hx.out];exact h0,zhK⟩)
     rw [zhK] at cA
     clear zhK h0
     go_wp2_with fail
     go_ret
     exact⟨zm (by rw [hb.out]),hw1⟩
    ·have Hacc:=za zhK
     rw [zhK] at cA
     clear zhK h0
     go_wp2_with fail
     go_round
     case rel=>exact⟨i+1,by go_num,by omega,za (fun j hj=>by
      rcases Nat.lt_or_eq_of_le (Nat.le_of_lt_succ hj) with h1|rfl
      ·exact hdone.out j h1
      ·exact .inr Hacc.out)⟩
     case measure=>simp [intOf];omega
  ·obtain rfl:i=m':=by omega
   have hb:=za (show badT p T i=false by
    rw [Bool.eq_false_iff]
    intro h
    obtain⟨j,h1,h2,h3⟩:=zgR.1 h
    rcases hdone.out j h1 with h4|h4
    ·exact h2 h4
    ·rw [h3] at h4;cases h4)
   go_wp2_with fail
   go_ret
   exact⟨zm (by rw [hb.out]),hw1⟩
theorem zdB (hS:zah w lo hi A n s)(hP:zM w lo hi B m B' m' p)(hv:zr s=true)(hp:zh p=true)(hL:L<64) :
  Calls Tryz.prog 254 #[.agg #[.int .i64 s.al,.int .i64 s.st,.slice A n c,.int .i64 p.al,.slice B m d,.slice B' m' d',.int .i64 L]] w fun e w'=>e=.returned (.bool true)∧Ext w w':=by
 have HS:=za (fun W (hW:Ext w W)=>zS (c:=c) (hS.ext hW))
 have HP:=za (fun W (hW:Ext w W)=>zE _ _ _ _ d _ _ d' _ _ (hP.ext hW))
 rw [hv] at HS
 rw [hp] at HP
 have hal:=za (show (decide ((0:Int)≤L∧(L:Int)≤63))=true by simp;omega)
 have hw1:Ext w (w.alloc (.cells #[.int .i64 s.al,.int .i64 s.st,.slice A n c,.int .i64 p.al,.slice B m d,.slice B' m' d',.int .i64 L] 199)):=(Ext.refl _).alloc _
 have b1:=Blk.new w 199 #[.int .i64 s.al,.int .i64 s.st,.slice A n c,.int .i64 p.al,.slice B m d,.slice B' m' d',.int .i64 L]
 clear hS hP hv hp
 go_enter Tryz.func254,Tryz.ntmps254
 go_upto_region 1 with fail
 generalize w.alloc (.cells #[.int .i64 s.al,.int .i64 s.st,.slice A n c,.int .i64 p.al,.slice B m d,.slice B' m' d',.int .i64 L] 199)=w1 at *
 have CB:=b1.cells
 have hww:=Ext.refl w1
 go_wp2_with (first
  |(go_at_call 94;refine (HS.out _ hw1).mono ?_;rintro e w2 ⟨rfl,hx2⟩)
  |(go_at_call 27;refine (HP.out _ (hw1.trans hx2)).mono ?_;rintro e w3 ⟨rfl,hx3⟩;have hx23:=hx2.trans hx3)
  |(go_at_call 59;refine (zC _ _).mono ?_;rw [hal.out];rintro e w4 ⟨rfl,rfl⟩))
 go_ret
 exact⟨rfl,hw1.trans hx23⟩
theorem zgS {N k:Nat} {T v:List Nat}(h:zdG T N (PR s p L (v.take k))):badT p T N=true↔Bad s p L (v.take k):=zgR.trans (stand_bad h).symm
theorem zen {t:ByteArray}(hS:zah w lo hi A n s)(hP:zM w lo hi B m B' m' p)(hv:zr s=true)(hp:zh p=true)(hL:L<64)(hhi:hi≤w.heap.size)(ht:t.size≤9223372036854775807) :
  Calls Tryz.prog 233 #[.agg #[.int .i64 s.al,.int .i64 s.st,.slice A n c,.int .i64 p.al,.slice B m d,.slice B' m' d',.int .i64 L],.string t] w fun e w'=>e=.returned (.bool (zu s p L t))∧Ext w w':=by
 obtain⟨N,hN⟩:∃ N,Hid (N=p.next.length):=⟨_,rfl⟩
 have HV:=za (fun W (hW:Ext w W)=>zdB (c:=c) (d:=d) (d':=d') (L:=L) (hS.ext hW) (hP.ext hW) hv hp hL)
 have HSt:=za (fun W (hW:Ext w W)=>spec_l9Start (c:=c) (d:=d) (d':=d') (L:=L) (N:=N) (hS.ext hW) (hP.ext hW) hv hp hL (Nat.le_trans hhi hW.size) hN.out)
 have HB:=za (fun (g0 b0 c0:Nat) (T:List Nat) W (hW:Ext w W) (ho:W.ownsRow b0 3 1 (.slice (some ⟨g0,0,none⟩) N c0) N (zaK T))=>spec_l9Bad (A:=A) (n:=n) (c:=c) (d:=d) (d':=d') (L:=L) (s:=s) (hP.ext hW) hp hN.out ho)
 have HM:=za (fun (l g0 b0 c0:Nat) (T:List Nat) (Q:Nat→Nat→Prop) W (hW:Ext w W) (hl:l<6) (ho:W.ownsRow b0 3 1 (.slice (some ⟨g0,0,none⟩) N c0) N (zaK T)) (hT:zdG T N Q)=>spec_l9Move (c:=c) (d:=d) (d':=d') (L:=L) (hS.ext hW) (hP.ext hW) hv hp hL (Nat.le_trans hhi hW.size) hN.out hl ho hT)
 have hw1:Ext w (w.alloc (.cells #[.int .i64 s.al,.int .i64 s.st,.slice A n c,.int .i64 p.al,.slice B m d,.slice B' m' d',.int .i64 L] 199)):=(Ext.refl _).alloc _
 have b1:=Blk.new w 199 #[.int .i64 s.al,.int .i64 s.st,.slice A n c,.int .i64 p.al,.slice B m d,.slice B' m' d',.int .i64 L]
 clear hS hP
 cases hin:inB t L
 ·have Hin:=za hin
  have zhM:=za (show zu s p L t=false by rw [Bool.eq_false_iff];intro h;have:=(zfI.1 h).1;rw [hin] at this;cases this)
  clear hin
  go_enter Tryz.func233,Tryz.ntmps233
  go_upto_region 1 with fail
  generalize w.alloc (.cells #[.int .i64 s.al,.int .i64 s.st,.slice A n c,.int .i64 p.al,.slice B m d,.slice B' m' d',.int .i64 L] 199)=w1 at *
  have CB:=b1.cells
  have hww:=Ext.refl w1
  go_wp2_with (first
   |(go_at_call 254;refine (HV.out _ hw1).mono ?_;rintro e w2 ⟨rfl,hx2⟩)
   |(go_at_call 140;refine (zQ ht (by omega)).mono ?_;rw [Hin.out];rintro e w3 ⟨rfl,rfl⟩))
  go_ret
  exact⟨zm (by rw [zhM.out]),hw1.trans hx2⟩
 ·have Hin:=za hin
  have Hb:=za (fun k hk=>zbo (zbi hin) (k:=k) hk)
  clear hin
  go_enter Tryz.func233,Tryz.ntmps233
  go_upto_region 1 with fail
  generalize w.alloc (.cells #[.int .i64 s.al,.int .i64 s.st,.slice A n c,.int .i64 p.al,.slice B m d,.slice B' m' d',.int .i64 L] 199)=w1 at *
  have CB:=b1.cells
  have hww:=Ext.refl w1
  go_wp2_with (first
   |(go_at_call 254;refine (HV.out _ hw1).mono ?_;rintro e w2 ⟨rfl,hx2⟩)
   |(go_at_call 140;refine (zQ ht (by omega)).mono ?_;rw [Hin.out];rintro e w3 ⟨rfl,rfl⟩)
   |(go_at_call 256;refine (HSt.out _ (hw1.trans hx2)).mono ?_;rintro e w4 ⟨T,g,cc,rfl,zhJ,hT,hx4⟩;have hx14:=hx2.trans hx4))
  go_loopw [5,6] (fun v iv wr=>∃ (k g b0 cc:Nat) (T:List Nat),iv=.int .i64 k∧k≤t.size∧v=.slice (some ⟨g,0,none⟩) N cc∧wr.ownsRow b0 3 1 (.slice (some ⟨g,0,none⟩) N cc) N (zaK T)∧Hid (zdG T N (PR s p L ((wl t).take k)))∧Hid (∀ j,j<k→¬ Bad s p L ((wl t).take j))∧Ext w1 wr) (fun _ iv _=>t.size - (intOf iv).toNat)
  case atStart=>exact⟨0,g,_,cc,T,rfl,Nat.zero_le _,rfl,zhJ,za (by simpa using hT),za (fun j h=>by omega),hx14⟩
  case round =>
   clear zhJ hT hx2 hx4 hx14
   obtain⟨k,g,b0,cc,T,rfl,hk,rfl,zhJ,hT,hdone,hxr⟩:=hrel
   by_cases hlt:k<t.size
   ·have hlt':(k:Int)<(t.size:Int):=by omega
    obtain⟨l,hl⟩:∃ l:Nat,Hid ((t[k].toNat:Int) - 97=l):=⟨t[k].toNat - 97,by unfold Hid;have:=Hb.out k hlt;omega⟩
    have hl6:l<6:=by have:=hl.out;have:=Hb.out k hlt;omega
    have hst:=za (show (wl t).take (k+1)=(wl t).take k++[l] by rw [List.take_add_one,zeR hlt,Option.toList_some,show t[k].toNat - 97=l by have:=hl.out;have:=Hb.out k hlt;omega])
    cases hbad:badT p T N
    ·have Hbad:=za hbad
     have hnb:=za (show ¬ Bad s p L ((wl t).take k) by rw [← zgS hT.out,hbad];decide)
     clear hbad
     go_wp2_with (first|(go_at_call 257;refine (HB.out _ _ _ _ _ (hw1.trans hxr) zhJ).mono ?_;rw [Hbad.out];rintro e w5 ⟨rfl,hx5⟩;have hxr5:=hxr.trans hx5))
     have HMr:=za (fun W (hW:Ext wr W)=>HM.out l g b0 cc T _ W ((hw1.trans hxr).trans hW) hl6 (ze zhJ hW) hT.out)
     have CBr:∀ W,Ext wr W→∀ q,W.cell? ⟨w.heap.size,q,none⟩=#[Value.int .i64 s.al,.int .i64 s.st,.slice A n c,.int .i64 p.al,.slice B m d,.slice B' m' d',.int .i64 L][q]?:=fun W hW=>CB W (hxr.trans hW)
     go_region_held3 (fun W=>Ext wr W) (first|assumption|(refine Ext.drew ?_;assumption)|(refine Ext.trans ?_ (by assumption);assumption)|(refine Ext.trans ?_ (by assumption);refine Ext.drew ?_;assumption)) (first
      |(go_at_call 62;refine (zaI t k hlt _).mono ?_;rw [hl.out];rintro e w6 ⟨rfl,rfl⟩)
      |(go_at_call 258;refine (HMr.out _ ?_).mono ?_;(first|assumption|(refine Ext.drew ?_;assumption));rintro e w7 ⟨T7,g7,c7,rfl,hown7,hT7,hx7⟩))
     have hx17:Ext w1 w7:=hxr.trans (by assumption)
     rw [← PR_snoc,← hst.out] at hT7
     have HT7:=za hT7
     clear hT7 HMr CBr
     go_wp2_with fail
     go_roundw
     case rel=>exact⟨k+1,g7,_,c7,T7,by go_num,by omega,rfl,hown7,HT7,za (fun j hj=>by
      rcases Nat.lt_or_eq_of_le (Nat.le_of_lt_succ hj) with h1|rfl
      ·exact hdone.out j h1
      ·exact hnb.out),hx17⟩
     case measure=>simp [intOf];omega
    ·have Hbad:=za hbad
     have zhM:=za (show zu s p L t=false by
      rw [Bool.eq_false_iff]
      intro h
      exact (zfI.1 h).2 k (by rw [zeS];omega) ((zgS hT.out).1 hbad))
     clear hbad
     go_wp2_with (first
      |(go_at_call 257;with_reducible refine (HB.out _ _ _ _ _ (hw1.trans hxr) zhJ).mono ?_;rw [Hbad.out];rintro e w5 ⟨rfl,hx5⟩;have hxr5:=hxr.trans hx5)
      |(go_at_call 257;refine (HB.out _ _ _ _ _ (hw1.trans hxr5) (ze zhJ hx5)).mono ?_;rw [Hbad.out];rintro e w6 ⟨rfl,hx6⟩))
     go_ret
     exact⟨zm (by rw [zhM.out]),hw1.trans (hxr5.trans hx6)⟩
   ·have hkt:k=t.size:=by omega
    have hge:(t.size:Int)≤(k:Int):=by omega
    have zhM:=za (show zu s p L t=!badT p T N by
     rw [Bool.eq_iff_iff,zfI,Bool.not_eq_true',← Bool.not_eq_true,zgS hT.out]
     constructor
     ·intro h;exact h.2 k (by rw [zeS];omega)
     ·intro h
      refine⟨Hin.out,fun j hj=>?_⟩
      rw [zeS] at hj
      rcases Nat.lt_or_eq_of_le hj with h1|rfl
      ·exact hdone.out j (by omega)
      ·rw [hkt] at h;exact h)
    clear hkt hlt hk
    go_wp2_with (first
     |(go_at_call 257;refine (HB.out _ _ _ _ _ (hw1.trans hxr) zhJ).mono ?_;rintro e w6 ⟨rfl,hx6⟩))
    go_ret
    exact⟨zm (by rw [zhM.out]),hw1.trans (hxr.trans hx6)⟩
end
structure Tch (w:World) (A:Option Addr) (n:Nat) (B:Option Addr) (m:Nat) (B':Option Addr) (m':Nat) (s:Sys) (p:Aut) (L:Nat):Prop where
 at_:∃ lo hi,zah w lo hi A n s∧zM w lo hi B m B' m' p∧hi≤w.heap.size
 sv:zr s=true
 pv:zh p=true
 lt:L<64
section
variable {w W:World} {n c m d m' d' L:Nat} {A B B':Option Addr} {s:Sys} {p:Aut}
theorem Tch.ext (h:Tch w A n B m B' m' s p L)(hx:Ext w W):Tch W A n B m B' m' s p L:=by
 obtain⟨lo,hi,h1,h2,h3⟩:=h.at_
 exact⟨⟨lo,hi,h1.ext hx,h2.ext hx,Nat.le_trans h3 hx.size⟩,h.sv,h.pv,h.lt⟩
theorem zax (h:Tch w A n B m B' m' s p L) :
  Calls Tryz.prog 228 #[.agg #[.bool false,.int .i64 0,.slice none 0 0,.slice none 0 0,.int .i64 s.al,.int .i64 s.st,.slice A n c,.int .i64 p.al,.slice B m d,.slice B' m' d',.int .i64 L]] w fun e w'=>e=.returned (.int .i64 (L:Nat))∧Ext w w':=by
 obtain⟨lo,hi,h1,h2,h3⟩:=h.at_
 have HV:=za (fun W (hW:Ext w W)=>zdB (c:=c) (d:=d) (d':=d') (L:=L) (h1.ext hW) (h2.ext hW) h.sv h.pv h.lt)
 have hw1:Ext w (w.alloc (.cells #[.bool false,.int .i64 0,.slice none 0 0,.slice none 0 0,.int .i64 s.al,.int .i64 s.st,.slice A n c,.int .i64 p.al,.slice B m d,.slice B' m' d',.int .i64 L] 203)):=(Ext.refl _).alloc _
 have b1:=Blk.new w 203 #[.bool false,.int .i64 0,.slice none 0 0,.slice none 0 0,.int .i64 s.al,.int .i64 s.st,.slice A n c,.int .i64 p.al,.slice B m d,.slice B' m' d',.int .i64 L]
 clear h h1 h2
 go_enter Tryz.func228,Tryz.ntmps228
 go_upto_region 1 with fail
 generalize w.alloc (.cells #[.bool false,.int .i64 0,.slice none 0 0,.slice none 0 0,.int .i64 s.al,.int .i64 s.st,.slice A n c,.int .i64 p.al,.slice B m d,.slice B' m' d',.int .i64 L] 203)=w1 at *
 have CB:=b1.cells
 have hww:=Ext.refl w1
 go_wp2_with (first
  |(go_at_call 254;refine (HV.out _ hw1).mono ?_;rintro e w2 ⟨rfl,hx2⟩))
 go_ret
 exact⟨rfl,hw1.trans hx2⟩
theorem zcU {t:ByteArray}(h:Tch w A n B m B' m' s p L)(ht:t.size≤9223372036854775807) :
  Calls Tryz.prog 255 #[.agg #[.bool false,.int .i64 0,.slice none 0 0,.slice none 0 0,.int .i64 s.al,.int .i64 s.st,.slice A n c,.int .i64 p.al,.slice B m d,.slice B' m' d',.int .i64 L],.string t] w fun e w'=>e=.returned (.bool (zu s p L t))∧Ext w w':=by
 obtain⟨lo,hi,h1,h2,h3⟩:=h.at_
 have HV:=za (fun W (hW:Ext w W)=>zen (c:=c) (d:=d) (d':=d') (L:=L) (t:=t) (h1.ext hW) (h2.ext hW) h.sv h.pv h.lt (Nat.le_trans h3 hW.size) ht)
 have hw1:Ext w (w.alloc (.cells #[.bool false,.int .i64 0,.slice none 0 0,.slice none 0 0,.int .i64 s.al,.int .i64 s.st,.slice A n c,.int .i64 p.al,.slice B m d,.slice B' m' d',.int .i64 L] 203)):=(Ext.refl _).alloc _
 have b1:=Blk.new w 203 #[.bool false,.int .i64 0,.slice none 0 0,.slice none 0 0,.int .i64 s.al,.int .i64 s.st,.slice A n c,.int .i64 p.al,.slice B m d,.slice B' m' d',.int .i64 L]
 clear h h1 h2
 go_enter Tryz.func255,Tryz.ntmps255
 go_upto_region 1 with fail
 generalize w.alloc (.cells #[.bool false,.int .i64 0,.slice none 0 0,.slice none 0 0,.int .i64 s.al,.int .i64 s.st,.slice A n c,.int .i64 p.al,.slice B m d,.slice B' m' d',.int .i64 L] 203)=w1 at *
 have CB:=b1.cells
 have hww:=Ext.refl w1
 go_wp2_with (first
  |(go_at_call 233;refine (HV.out _ hw1).mono ?_;rintro e w2 ⟨rfl,hx2⟩))
 go_ret
 exact⟨rfl,hw1.trans hx2⟩
end
theorem str_loop (b:ByteArray):∀ (k:Nat) (i:Nat) (r:List UInt8),b.size - i=k→ByteArray.toList.loop b i r=r.reverse++b.data.toList.drop i:=by
 intro k
 induction k with
 |zero =>
  intro i r h
  unfold ByteArray.toList.loop
  rw [if_neg (by omega),List.drop_of_length_le (by rw [Array.length_toList];show b.size≤i;omega),List.append_nil]
 |succ k ih =>
  intro i r h
  have hi:i<b.size:=by omega
  unfold ByteArray.toList.loop
  rw [if_pos hi,ih (i+1) _ (by omega),List.drop_eq_getElem_cons (i:=i) (by rw [Array.length_toList];exact hi),List.reverse_cons,List.append_assoc]
  have e:b.get! i=b.data.toList[i]'(by rw [Array.length_toList];exact hi):=by
   rw [Array.getElem_toList]
   show b.data[i]! = _
   exact getElem!_pos b.data i hi
  rw [e]
  rfl
theorem str_data (b:ByteArray):b.toList=b.data.toList:=by
 unfold ByteArray.toList
 rw [str_loop b _ 0 [] rfl]
 rfl
theorem str_ext {x y:ByteArray}(h:x.toList=y.toList):x=y:=by
 rw [str_data,str_data] at h
 cases x;cases y
 congr 1
 exact Array.toList_inj.1 h
theorem str_ne {x y:ByteArray}(h:¬ x=y):(x.toList==y.toList)=false:=by
 rw [beq_eq_false_iff_ne]
 exact fun e=>h (str_ext e)
noncomputable def zfF (l:List ByteArray) (x:ByteArray):Bool:=by classical exact decide (x∈l)
theorem zdi {l:List ByteArray} {x:ByteArray}:zfF l x=true↔x∈l:=by unfold zfF;simp
theorem zbK {l:List ByteArray} {x:ByteArray}:zfF l x=false↔x∉l:=by rw [← Bool.not_eq_true,zdi]
theorem zcl {w:World} {lo hi n c:Nat} {A:Option Addr} {l:List ByteArray} {x:ByteArray}(h:Reads w lo hi 1 A n (zF l)) :
  Calls Tryz.prog 261 #[.slice A n c,.string x] w fun e w'=>e=.returned (.bool (zfF l x))∧w=w':=by
 have hn:=h.len
 have hl:l.length=n:=by have:=h.length;rw [zba] at this;omega
 have Hl:=za hl
 clear hl
 go_enter Tryz.func261,Tryz.ntmps261
 go_wp2_with fail
 go_loop [5] (fun iv=>∃ i:Nat,iv=.int .i64 i∧i≤n∧Hid (∀ j,j<i→l[j]?≠some x)) (fun iv=>n - (intOf iv).toNat)
 case atStart=>exact⟨0,rfl,Nat.zero_le _,za (fun j h=>by omega)⟩
 case round =>
  obtain⟨i,rfl,hi,hdone⟩:=hrel
  by_cases hlt:i<n
  ·have hlt':(i:Int)<(n:Int):=by omega
   obtain⟨ad,y,rfl,_,_,hy,cy⟩:=h.str hlt
   by_cases he:y=x
   ·subst he
    have hb:=za (zdi.2 (List.mem_of_getElem? hy.out))
    go_wp2_with fail
    go_ret
    exact⟨zm (by rw [hb.out]),rfl⟩
   ·have He:=za he
    have htest:=str_ne he
    clear he
    go_wp2_with fail
    go_round
    case rel=>exact⟨i+1,by go_num,by omega,za (fun j hj=>by
     rcases Nat.lt_or_eq_of_le (Nat.le_of_lt_succ hj) with h1|rfl
     ·exact hdone.out j h1
     ·rw [hy.out];intro h;exact He.out (Option.some.inj h))⟩
    case measure=>simp [intOf];omega
  ·obtain rfl:i=n:=by omega
   have hb:=za (show zfF l x=false by
    rw [zbK]
    intro hx
    obtain⟨j,hj⟩:=List.getElem?_of_mem hx
    exact hdone.out j (by have:=(List.getElem?_eq_some_iff.1 hj).1;have:=Hl.out;omega) hj)
   go_wp2_with fail
   go_ret
   exact⟨zm (by rw [hb.out]),rfl⟩
def zcI (f:ByteArray→Bool) (cols:List ByteArray) (x:ByteArray):List Bool:=cols.map fun c=>f (x++c)
def mkB (b:Bool):ByteArray:=if b then ⟨#[43]⟩ else ⟨#[45]⟩
def mkS (bs:List Bool):ByteArray:=bs.foldl (fun o b=>o++mkB b) ByteArray.empty
theorem mkS_snoc (bs:List Bool) (b:Bool):mkS (bs++[b])=mkS bs++mkB b:=by simp [mkS]
theorem zfg:∀ (bs:List Bool),(mkS bs).data.toList=bs.map fun b=>if b then 43 else 45:=by
 have key:∀ (bs:List Bool) (o:ByteArray),(bs.foldl (fun o b=>o++mkB b) o).data.toList=o.data.toList++bs.map fun b=>if b then 43 else 45:=by
  intro bs
  induction bs with
  |nil=>intro o;simp
  |cons b r ih =>
   intro o
   rw [List.foldl_cons,ih,ByteArray.data_append,Array.toList_append,List.append_assoc,List.map_cons]
   cases b<;>rfl
 intro bs
 unfold mkS
 rw [key]
 rfl
theorem map_inj' {α β:Type} {f:α→β}(hf:∀ x y,f x=f y→x=y):∀ {a b:List α},a.map f=b.map f→a=b
 |[],[],_=>rfl
 |[],_ :: _,h=>by simp at h
 |_ :: _,[],h=>by simp at h
 |x :: a,y :: b,h=>by
  simp only [List.map_cons,List.cons.injEq] at h
  rw [hf x y h.1,map_inj' hf h.2]
theorem mkS_inj {a b:List Bool}(h:mkS a=mkS b):a=b:=by
 have h1:(mkS a).data.toList=(mkS b).data.toList:=by rw [h]
 rw [zfg,zfg] at h1
 exact map_inj' (fun x y=>by cases x<;>cases y<;>simp) h1
theorem mkS_size (bs:List Bool):(mkS bs).size=bs.length:=by
 have h:=congrArg List.length (zfg bs)
 rw [List.length_map,Array.length_toList] at h
 exact h
section
variable {w W:World} {n c m d m' d' L:Nat} {A B B':Option Addr} {s:Sys} {p:Aut}
theorem zdT {C:Option Addr} {nc cc lo hi:Nat} {cols:List ByteArray} {x:ByteArray}(h:Tch w A n B m B' m' s p L)(hC:Reads w lo hi 1 C nc (zF cols))(hc:nc≤1000)(hx:x.size≤1000000)(hcs:∀ y∈cols,y.size≤1000000) :
  Calls Tryz.prog 231 #[.agg #[.bool false,.int .i64 0,.slice none 0 0,.slice none 0 0,.int .i64 s.al,.int .i64 s.st,.slice A n c,.int .i64 p.al,.slice B m d,.slice B' m' d',.int .i64 L],.slice C nc cc,.string x] w fun e w'=>e=.returned (.string (mkS (zcI (zu s p L) cols x)))∧Ext w w':=by
 have hl:cols.length=nc:=by have:=hC.length;rw [zba] at this;omega
 have HV:=za (fun W (hW:Ext w W) (y:ByteArray) hy=>zcU (c:=c) (d:=d) (d':=d') (t:=y) (h.ext hW) hy)
 have HC:=za (fun W (hW:Ext w W)=>hC.ext hW)
 have Hl:=za hl
 have Hcs:=za hcs
 have hw1:Ext w (w.alloc (.cells #[.bool false,.int .i64 0,.slice none 0 0,.slice none 0 0,.int .i64 s.al,.int .i64 s.st,.slice A n c,.int .i64 p.al,.slice B m d,.slice B' m' d',.int .i64 L] 203)):=(Ext.refl _).alloc _
 have b1:=Blk.new w 203 #[.bool false,.int .i64 0,.slice none 0 0,.slice none 0 0,.int .i64 s.al,.int .i64 s.st,.slice A n c,.int .i64 p.al,.slice B m d,.slice B' m' d',.int .i64 L]
 clear h hC hl hcs
 go_enter Tryz.func231,Tryz.ntmps231
 go_upto_region 1 with fail
 generalize w.alloc (.cells #[.bool false,.int .i64 0,.slice none 0 0,.slice none 0 0,.int .i64 s.al,.int .i64 s.st,.slice A n c,.int .i64 p.al,.slice B m d,.slice B' m' d',.int .i64 L] 203)=w1 at *
 have CB:=b1.cells
 go_wp2_with fail
 go_loopw [7,8] (fun v iv wr=>∃ (k:Nat) (o:ByteArray),iv=.int .i64 k∧k≤nc∧v=.string o∧o.size≤k∧Hid (o=mkS (zcI (zu s p L) (cols.take k) x))∧Ext w1 wr) (fun _ iv _=>nc - (intOf iv).toNat)
 case atStart=>exact⟨0,_,rfl,Nat.zero_le _,rfl,by decide,za rfl,Ext.refl _⟩
 case round =>
  obtain⟨k,o,rfl,hk,rfl,hos,ho,hxr⟩:=hrel
  by_cases hlt:k<nc
  ·have hlt':(k:Int)<(nc:Int):=by omega
   obtain⟨ad,y,rfl,_,_,hy,cy⟩:=(HC.out wr (hw1.trans hxr)).str hlt
   have hys:=Hcs.out y (List.mem_of_getElem? hy.out)
   have CY:∀ W,Ext wr W→W.cell? (ad.add k)=some (.string y):=fun W hW=>hW.cell_some cy
   have CBr:∀ W,Ext wr W→∀ q,W.cell? ⟨w.heap.size,q,none⟩=#[Value.bool false,.int .i64 0,.slice none 0 0,.slice none 0 0,.int .i64 s.al,.int .i64 s.st,.slice A n c,.int .i64 p.al,.slice B m d,.slice B' m' d',.int .i64 L][q]?:=fun W hW=>CB W (hxr.trans hW)
   have hsz:¬ 9223372036854775807<x.size+y.size:=by omega
   have hsz2:¬ 9223372036854775807<o.size+1:=by omega
   have hsum:(x++y).size≤9223372036854775807:=by rw [ByteArray.size_append];omega
   have HVr:=za (fun W (hW:Ext wr W)=>HV.out W ((hw1.trans hxr).trans hW) (x++y) hsum)
   have hww:=Ext.refl wr
   have hst:=za (show mkS (zcI (zu s p L) (cols.take (k+1)) x)=o++mkB (zu s p L (x++y)) by
    rw [List.take_add_one,hy.out,zcI,List.map_append,← zcI,ho.out,Option.toList_some,List.map_singleton,mkS_snoc])
   obtain⟨bv,hbv⟩:∃ bv,Hid (zu s p L (x++y)=bv):=⟨_,rfl⟩
   rw [hbv.out] at HVr hst
   clear cy hsum
   go_wp2_with fail
   go_region_held3 (fun W=>Ext wr W) (first|assumption|(refine Ext.drew ?_;assumption)|(refine Ext.trans ?_ (by assumption);assumption)|(refine Ext.trans ?_ (by assumption);refine Ext.drew ?_;assumption)) (first
    |(go_at_call 255;refine (HVr.out _ ?_).mono ?_;(first|assumption|(refine Ext.drew ?_;assumption));rintro e w7 ⟨rfl,hx7⟩))
   have hx17:Ext w1 w7:=hxr.trans (by assumption)
   cases bv
   all_goals
    go_wp2_with fail
    go_roundw
    case rel=>exact⟨k+1,_,by go_num,by omega,rfl,by rw [ByteArray.size_append];show o.size+1≤k+1;omega,hst.symm,hx17⟩
    case measure=>simp [intOf];omega
  ·obtain rfl:k=nc:=by omega
   have zhM:=za (show mkS (zcI (zu s p L) cols x)=o by rw [ho.out,List.take_of_length_le (by have:=Hl.out;omega)])
   go_wp2_with fail
   go_ret
   exact⟨by rw [zhM.out];rfl,hw1.trans hxr⟩
end
def RetStrL (w:World) (l:List ByteArray) (e:Ending) (w':World):Prop:=
 ∃ A c,e=.returned (.slice A l.length c)∧w'.ownsRow w.heap.size 9 1 (.slice A l.length c) l.length (zF l)∧Ext w w'
def zbl (f:ByteArray→Bool) (cols words:List ByteArray):List ByteArray:=words.map fun x=>mkS (zcI f cols x)
theorem strs_snoc (l:List ByteArray) (x:ByteArray):zF (l++[x])=zF l++[.string x]:=by simp [zF]
section
variable {w W:World} {n c m d m' d' L:Nat} {A B B':Option Addr} {s:Sys} {p:Aut}
theorem zcW {C R:Option Addr} {nc cc nr cr lo hi lo2 hi2:Nat} {cols rows:List ByteArray}(h:Tch w A n B m B' m' s p L)(hC:Reads w lo hi 1 C nc (zF cols))(hR:Reads w lo2 hi2 1 R nr (zF rows))(hc:nc≤1000)(hr:nr≤1000)(hcs:∀ y∈cols,y.size≤1000000)(hrs:∀ y∈rows,y.size≤1000000) :
  Calls Tryz.prog 229 #[.agg #[.bool false,.int .i64 0,.slice none 0 0,.slice none 0 0,.int .i64 s.al,.int .i64 s.st,.slice A n c,.int .i64 p.al,.slice B m d,.slice B' m' d',.int .i64 L],.slice C nc cc,.slice R nr cr] w (RetStrL w (zbl (zu s p L) cols rows)):=by
 have hl:rows.length=nr:=by have:=hR.length;rw [zba] at this;omega
 have HV:=za (fun W (hW:Ext w W) (y:ByteArray) hy=>zdT (c:=c) (d:=d) (d':=d') (cc:=cc) (x:=y) (h.ext hW) (hC.ext hW) hc hy hcs)
 have HR:=za (fun W (hW:Ext w W)=>hR.ext hW)
 have Hl:=za hl
 have Hrs:=za hrs
 have hw1:Ext w (w.alloc (.cells #[.bool false,.int .i64 0,.slice none 0 0,.slice none 0 0,.int .i64 s.al,.int .i64 s.st,.slice A n c,.int .i64 p.al,.slice B m d,.slice B' m' d',.int .i64 L] 203)):=(Ext.refl _).alloc _
 have b1:=Blk.new w 203 #[.bool false,.int .i64 0,.slice none 0 0,.slice none 0 0,.int .i64 s.al,.int .i64 s.st,.slice A n c,.int .i64 p.al,.slice B m d,.slice B' m' d',.int .i64 L]
 clear h hC hR hl hrs hcs
 go_enter Tryz.func229,Tryz.ntmps229
 go_upto_region 1 with fail
 generalize w.alloc (.cells #[.bool false,.int .i64 0,.slice none 0 0,.slice none 0 0,.int .i64 s.al,.int .i64 s.st,.slice A n c,.int .i64 p.al,.slice B m d,.slice B' m' d',.int .i64 L] 203)=w1 at *
 have CB:=b1.cells
 go_wp2_with fail
 go_loopw [7,8] (fun v iv wr=>∃ k:Nat,iv=.int .i64 k∧k≤nr∧wr.ownsRow w1.heap.size 9 1 v k (zF (zbl (zu s p L) cols (rows.take k)))∧Ext w1 wr) (fun _ iv _=>nr - (intOf iv).toNat)
 case atStart=>exact⟨0,rfl,Nat.zero_le _,World.ownsRow_lit w1 #[] 0 (Nat.le_refl _) (by unfold maxLen;omega) rfl,(Ext.refl _).alloc _⟩
 case round =>
  obtain⟨k,rfl,hk,zhJ,hxr⟩:=hrel
  by_cases hlt:k<nr
  ·have hlt':(k:Int)<(nr:Int):=by omega
   obtain⟨ad,y,rfl,_,_,hy,cy⟩:=(HR.out wr (hw1.trans hxr)).str hlt
   have hys:=Hrs.out y (List.mem_of_getElem? hy.out)
   have CY:∀ W,Ext wr W→W.cell? (ad.add k)=some (.string y):=fun W hW=>hW.cell_some cy
   have CBr:∀ W,Ext wr W→∀ q,W.cell? ⟨w.heap.size,q,none⟩=#[Value.bool false,.int .i64 0,.slice none 0 0,.slice none 0 0,.int .i64 s.al,.int .i64 s.st,.slice A n c,.int .i64 p.al,.slice B m d,.slice B' m' d',.int .i64 L][q]?:=fun W hW=>CB W (hxr.trans hW)
   have HVr:=za (fun W (hW:Ext wr W)=>HV.out W ((hw1.trans hxr).trans hW) y hys)
   have hww:=Ext.refl wr
   have hst:=za (show zF (zbl (zu s p L) cols (rows.take (k+1)))=zF (zbl (zu s p L) cols (rows.take k))++[.string (mkS (zcI (zu s p L) cols y))] by
    rw [List.take_add_one,hy.out,zbl,List.map_append,← zbl,Option.toList_some,List.map_singleton,strs_snoc])
   generalize mkS (zcI (zu s p L) cols y)=z at *
   clear cy
   go_wp2_with fail
   refine uR (fun X=>Ext wr X) [9] (zK.of [0,1,2,3,4,5,6,7,8,9,10]) ?_
   refine uQ ?_
   refine zb fun K hK=>?_;go_simp
   refine (HVr.out _ hww.drew).mono ?_
   rintro e w5 ⟨rfl,hx5⟩
   have hxr5:Ext wr w5:=hww.drew.trans hx5
   refine hK.out _ _ hxr5 ?_
   refine pT ?_
   refine uQ ?_
   refine zb fun K hK=>?_;go_simp
   refine hK.out _ _ (hxr5.alloc _) ?_
   refine pT ?_
   refine zg fun K hK=>?_
   refine zaC w1 w5 _ _ _ rfl 9 _ 1 16 Tryz.underlying61 zi rfl (by decide) _ k (zF (zbl (zu s p L) cols (rows.take k))) _ _ rfl rfl (hxr.trans hxr5).size (ze zhJ hxr5) rfl (zaD _) (by unfold maxLen;omega) (by omega) ?_
   intro g8 cap8 w8 hown8 hg8 hat8 hlt8
   refine hK.out _ _ ?_
   refine pT ?_
   refine uQ ?_
   refine zj ?_
   go_wp2_with fail
   go_roundw
   case rel=>exact⟨k+1,by go_num,by omega,by rw [hst.out];exact hown8,(hxr.trans hxr5).grown hg8 (fun k hk=>(zhJ.lt k hk).1)⟩
   case measure=>simp [intOf];omega
  ·obtain rfl:k=nr:=by omega
   obtain⟨A5,c5,rfl⟩:=zf zhJ
   have zhM:=za (show (rows.take k)=rows from List.take_of_length_le (by have:=Hl.out;omega))
   rw [zhM.out] at zhJ
   have hlen:=za (show (zbl (zu s p L) cols rows).length=k by rw [zbl,List.length_map];exact Hl.out)
   go_wp2_with fail
   go_ret
   exact⟨A5,c5,by rw [hlen.out];rfl,by rw [hlen.out];exact zl zhJ hw1.size,hw1.trans hxr⟩
theorem zeK {x:ByteArray}(h:Tch w A n B m B' m' s p L)(hx:x.size≤9223372036854775807) :
  Calls Tryz.prog 259 #[.agg #[.bool false,.int .i64 0,.slice none 0 0,.slice none 0 0,.int .i64 s.al,.int .i64 s.st,.slice A n c,.int .i64 p.al,.slice B m d,.slice B' m' d',.int .i64 L],.string x] w fun e w'=>e=.returned (.bool (inB x L&&decide (x.size≤4000)))∧Ext w w':=by
 have HV:=za (fun W (hW:Ext w W)=>zax (c:=c) (d:=d) (d':=d') (h.ext hW))
 have hL:=h.lt
 have hw1:Ext w (w.alloc (.cells #[.bool false,.int .i64 0,.slice none 0 0,.slice none 0 0,.int .i64 s.al,.int .i64 s.st,.slice A n c,.int .i64 p.al,.slice B m d,.slice B' m' d',.int .i64 L] 203)):=(Ext.refl _).alloc _
 have b1:=Blk.new w 203 #[.bool false,.int .i64 0,.slice none 0 0,.slice none 0 0,.int .i64 s.al,.int .i64 s.st,.slice A n c,.int .i64 p.al,.slice B m d,.slice B' m' d',.int .i64 L]
 clear h
 cases hin:inB x L
 all_goals
  have Hin:=za hin
  clear hin
  go_enter Tryz.func259,Tryz.ntmps259
  go_upto_region 1 with fail
  generalize w.alloc (.cells #[.bool false,.int .i64 0,.slice none 0 0,.slice none 0 0,.int .i64 s.al,.int .i64 s.st,.slice A n c,.int .i64 p.al,.slice B m d,.slice B' m' d',.int .i64 L] 203)=w1 at *
  have CB:=b1.cells
  have hww:=Ext.refl w1
  go_wp2_with (first
   |(go_at_call 228;refine (HV.out _ hw1).mono ?_;rintro e w2 ⟨rfl,hx2⟩)
   |(go_at_call 140;refine (zQ hx (by omega)).mono ?_;rw [Hin.out];rintro e w3 ⟨rfl,rfl⟩))
  go_ret
  exact⟨zm (by first|rfl|(rw [Bool.true_and,decide_eq_decide];omega)),hw1.trans hx2⟩
end
def zdZ (l:Nat):ByteArray:=strOfNums [((97+l:Nat):Int)]
theorem zcP (l:Nat):(zdZ l).size=1:=strOfNums_size _
structure zcH (L:Nat) (f:ByteArray→Bool) (rows cols:List ByteArray):Prop where
 r1:1≤rows.length
 r12:rows.length≤12
 c1:1≤cols.length
 c20:cols.length≤20
 r0:rows[0]?=some ⟨#[]⟩
 c0:cols[0]?=some ⟨#[]⟩
 rw_:∀ (i:Nat) (x:ByteArray),1≤i→rows[i]?=some x→inB x L=true∧∃ y l,l<6∧x=y++zdZ l∧y∈rows.take i
 cw:∀ (i:Nat) (x:ByteArray),1≤i→cols[i]?=some x→inB x L=true∧x.size≤4000∧x∉cols.take i
 nd:(rows.map (zcI f cols)).Nodup
section
variable {L:Nat} {f:ByteArray→Bool} {rows cols:List ByteArray}
theorem inB_empty (L:Nat):inB ⟨#[]⟩ L=true:=by unfold inB zeX;rfl
theorem zcH.rsz (h:zcH L f rows cols):∀ (i:Nat) (x:ByteArray),rows[i]?=some x→x.size≤i:=by
 intro i
 induction i using Nat.strongRecOn with
 |ind i ih =>
  intro x hx
  rcases Nat.eq_zero_or_pos i with rfl|hi
  ·rw [h.r0] at hx
   obtain rfl:=Option.some.inj hx
   exact Nat.le_refl _
  ·obtain⟨-,y,l,hl,rfl,hy⟩:=h.rw_ i x hi hx
   obtain⟨j,hj⟩:=List.getElem?_of_mem hy
   have hji:j<i:=by have:=(List.getElem?_eq_some_iff.1 hj).1;rw [List.length_take] at this;omega
   rw [List.getElem?_take_of_lt hji] at hj
   have:=ih j hji y hj
   rw [ByteArray.size_append,zcP l]
   omega
theorem zcH.rin (h:zcH L f rows cols) {x:ByteArray}(hx:x∈rows):inB x L=true∧x.size≤12:=by
 obtain⟨i,hi⟩:=List.getElem?_of_mem hx
 have hil:=(List.getElem?_eq_some_iff.1 hi).1
 refine⟨?_,by have:=h.rsz i x hi;have:=h.r12;omega⟩
 rcases Nat.eq_zero_or_pos i with rfl|h0
 ·rw [h.r0] at hi
  obtain rfl:=Option.some.inj hi
  exact inB_empty L
 ·exact (h.rw_ i x h0 hi).1
theorem zcH.cin (h:zcH L f rows cols) {x:ByteArray}(hx:x∈cols):inB x L=true∧x.size≤4000:=by
 obtain⟨i,hi⟩:=List.getElem?_of_mem hx
 rcases Nat.eq_zero_or_pos i with rfl|h0
 ·rw [h.c0] at hi
  obtain rfl:=Option.some.inj hi
  exact⟨inB_empty L,by decide⟩
 ·exact⟨(h.cw i x h0 hi).1,(h.cw i x h0 hi).2.1⟩
theorem rowsM_nodup (h:zcH L f rows cols):(zbl f cols rows).Nodup:=by
 have h1:=h.nd
 unfold zbl
 have h2:rows.map (fun x=>mkS (zcI f cols x))=(rows.map (zcI f cols)).map mkS:=by rw [List.map_map];rfl
 rw [h2]
 exact List.pairwise_map.2 (h1.imp fun hne e=>hne (mkS_inj e))
end
def TabAt (w:World) (R:Option Addr) (nr:Nat) (C:Option Addr) (nc:Nat) (rows cols:List ByteArray):Prop:=
 ∃ lo hi lo2 hi2,Reads w lo hi 1 R nr (zF rows)∧Reads w lo2 hi2 1 C nc (zF cols)
theorem TabAt.ext {w W:World} {R C:Option Addr} {nr nc:Nat} {rows cols:List ByteArray}(h:TabAt w R nr C nc rows cols)(hx:Ext w W):TabAt W R nr C nc rows cols:=by
 obtain⟨lo,hi,lo2,hi2,h1,h2⟩:=h
 exact⟨lo,hi,lo2,hi2,h1.ext hx,h2.ext hx⟩
theorem TabAt.nr {w:World} {R C:Option Addr} {nr nc:Nat} {rows cols:List ByteArray}(h:TabAt w R nr C nc rows cols):rows.length=nr∧cols.length=nc:=by
 obtain⟨lo,hi,lo2,hi2,h1,h2⟩:=h
 have e1:=h1.length
 have e2:=h2.length
 rw [zba] at e1 e2
 omega
theorem Reads.takeS {w:World} {lo hi n k:Nat} {A:Option Addr} {l:List ByteArray}(h:Reads w lo hi 1 A n (zF l))(hk:k≤n):Reads w lo hi 1 A k (zF (l.take k)):=by
 have hl:=h.length
 rw [zba] at hl
 refine⟨by rw [zba,List.length_take];omega,by have:=h.len;omega,fun h0=>?_⟩
 obtain⟨ad,e,h1,h2,h3⟩:=h.2.2 (by omega)
 refine⟨ad,e,h1,h2,fun j u hu=>h3 j u ?_⟩
 unfold zF at hu ⊢
 rw [List.map_take] at hu
 have hj:j<k:=by have:=(List.getElem?_eq_some_iff.1 hu).1;rw [List.length_take] at this;omega
 rwa [List.getElem?_take_of_lt hj] at hu
theorem str_front (y:ByteArray) (l:Nat):(y++zdZ l).extract 0 y.size=y:=by
 rw [ByteArray.extract_append_eq_left rfl]
section
variable {w W:World} {L nr nc cr cc:Nat} {R C:Option Addr} {rows cols:List ByteArray} {f:ByteArray→Bool}
theorem zhr (hT:TabAt w R nr C nc rows cols)(hI:zcH L f rows cols)(hL:L<64)(hcr:nr≤cr)(hcc:nc≤cc) :
  Calls Tryz.prog 264 #[.int .i64 L,.agg #[.slice R nr cr,.slice C nc cc]] w fun e w'=>e=.returned (.bool true)∧Ext w w':=by
 obtain⟨e1,e2⟩:=hT.nr
 have hr1:=hI.r1;have hr12:=hI.r12;have hc1:=hI.c1;have hc20:=hI.c20
 rw [e1] at hr1 hr12
 rw [e2] at hc1 hc20
 obtain⟨lo,hi,lo2,hi2,h1,h2⟩:=hT
 obtain⟨ad,x,rfl,_,_,hx,cx⟩:=h1.str (show 0<nr by omega)
 obtain⟨bd,y,rfl,_,_,hy,cy⟩:=h2.str (show 0<nc by omega)
 obtain rfl:=Option.some.inj (hx.out.symm.trans hI.r0)
 obtain rfl:=Option.some.inj (hy.out.symm.trans hI.c0)
 rw [addr_zero] at cx cy
 have H1:=za (fun W (hW:Ext w W)=>h1.ext hW)
 have H2:=za (fun W (hW:Ext w W)=>h2.ext hW)
 have HI:=za hI
 have hw1:Ext w (w.alloc (.cells #[.slice (some ad) nr cr,.slice (some bd) nc cc] 205)):=(Ext.refl _).alloc _
 have b1:=Blk.new w 205 #[.slice (some ad) nr cr,.slice (some bd) nc cc]
 have CX:=fun W (hW:Ext w W)=>hW.cell_some cx
 have CY:=fun W (hW:Ext w W)=>hW.cell_some cy
 clear h1 h2 hI hx hy cx cy e1 e2
 go_enter Tryz.func264,Tryz.ntmps264
 go_upto_region 1 with fail
 generalize w.alloc (.cells #[.slice (some ad) nr cr,.slice (some bd) nc cc] 205)=w1 at *
 have k1:=b1.cell
 have cx:=CX _ hw1
 have cy:=CY _ hw1
 have hww:=Ext.refl w1
 go_wp2_with fail
 go_loopw [7] (fun iv wr=>∃ k:Nat,1≤k∧k≤nr∧iv=.int .i64 k∧Ext w1 wr) (fun iv _=>nr - (intOf iv).toNat)
 case atStart=>exact⟨1,Nat.le_refl _,hr1,rfl,hww⟩
 case round =>
  clear hww k1 cx cy
  obtain⟨k,hk1,hk,rfl,hxr⟩:=hrel
  by_cases hlt:k<nr
  ·have hlt':(k:Int)<(nr:Int):=by omega
   have hkc:(k:Int)≤(cr:Int):=by omega
   obtain⟨ad1,x,e,_,_,hx,cx⟩:=(H1.out wr (hw1.trans hxr)).str hlt
   obtain rfl:=Option.some.inj e
   obtain⟨hin,y,l,hl,hxy,hy⟩:=HI.out.rw_ k x hk1 hx.out
   have hsz:x.size=y.size+1:=by rw [hxy,ByteArray.size_append,zcP]
   have hxt:x.extract 0 y.size=y:=by rw [hxy,str_front]
   have h0:0<x.size:=by omega
   have hys:y.size≤12:=by have:=HI.out.rsz k x hx.out;omega
   have hmem:=za (zdi.2 hy)
   have HRt:=za (fun W (hW:Ext w W)=>(H1.out W hW).takeS hk)
   have Hin:=za hin
   have CXr:∀ W,Ext wr W→W.cell? (ad.add k)=some (.string x):=fun W hW=>hW.cell_some cx
   have CB:∀ W,Ext wr W→∀ q,W.cell? ⟨w.heap.size,q,none⟩=#[Value.slice (some ad) nr cr,.slice (some bd) nc cc][q]?:=fun W hW=>(b1.ext (hxr.trans hW)).cell
   have hww:=Ext.refl wr
   have hwr:IntKind.i64.wrap (y.size:Int)=(y.size:Int):=IntWalk.i64_in _ (by omega)
   have hne:((y.size:Int)+1==0)=false:=by simp;omega
   have hyx:(y.size:Int)≤(y.size:Int)+1:=by omega
   clear hin hy hxy cx hx hl e
   go_wp2_with fail
   refine uR (fun X=>Ext wr X) [] (zK.of [0,1,2,3,4,5,6,7,8,9,10,11,12,13,14,15,16,17,18,19,20,21]) ?_
   refine uQ ?_
   refine zb fun K hK=>?_;go_simp
   refine (zQ (by omega) (by omega)).mono ?_
   rw [Hin.out]
   rintro e w3 ⟨rfl,rfl⟩
   refine hK.out _ _ hww.drew ?_
   refine pT ?_
   refine uQ ?_
   refine zb fun K hK=>?_;go_simp
   refine (zcl (HRt.out _ (hw1.trans (hxr.trans hww.drew)))).mono ?_
   rw [hmem.out]
   rintro e w4 ⟨rfl,rfl⟩
   refine hK.out _ _ hww.drew ?_
   refine pT ?_
   refine uQ ?_
   refine zj ?_
   go_wp2_with fail
   go_roundw
   case rel=>exact⟨k+1,by omega,by omega,by go_num,hxr.trans hww.drew⟩
   case measure=>simp [intOf];omega
  ·have hge:(nr:Int)≤(k:Int):=by omega
   go_wp2_with fail
   go_loopw [9] (fun iv wr=>∃ k:Nat,1≤k∧k≤nc∧iv=.int .i64 k∧Ext w1 wr) (fun iv _=>nc - (intOf iv).toNat)
   case atStart=>exact⟨1,Nat.le_refl _,hc1,rfl,hxr⟩
   case round =>
    clear hxr hge hlt hk hk1
    obtain⟨k,hk1,hk,rfl,hxr⟩:=hrel
    by_cases hlt:k<nc
    ·have hlt':(k:Int)<(nc:Int):=by omega
     have hkc:(k:Int)≤(cc:Int):=by omega
     obtain⟨bd1,x,e,_,_,hx,cx⟩:=(H2.out wr (hw1.trans hxr)).str hlt
     obtain rfl:=Option.some.inj e
     obtain⟨hin,hsz,hni⟩:=HI.out.cw k x hk1 hx.out
     have hsz':¬ (4000<(x.size:Int)):=by omega
     have hmem:=za (zbK.2 hni)
     have HRt:=za (fun W (hW:Ext w W)=>(H2.out W hW).takeS hk)
     have Hin:=za hin
     have CXr:∀ W,Ext wr W→W.cell? (bd.add k)=some (.string x):=fun W hW=>hW.cell_some cx
     have CB:∀ W,Ext wr W→∀ q,W.cell? ⟨w.heap.size,q,none⟩=#[Value.slice (some ad) nr cr,.slice (some bd) nc cc][q]?:=fun W hW=>(b1.ext (hxr.trans hW)).cell
     have hww:=Ext.refl wr
     clear hin hni cx hx e
     go_wp2_with (first
      |(go_at_call 140;refine (zQ (by omega) (by omega)).mono ?_;rw [Hin.out];rintro e w3 ⟨rfl,rfl⟩)
      |(go_at_call 261;refine (zcl (HRt.out _ (hw1.trans hxr))).mono ?_;rw [hmem.out];rintro e w3 ⟨rfl,rfl⟩))
     go_roundw
     case rel=>exact⟨k+1,by omega,by omega,by go_num,hxr⟩
     case measure=>simp [intOf];omega
    ·have hge:(nc:Int)≤(k:Int):=by omega
     go_wp2_with fail
     go_ret
     exact⟨rfl,hw1.trans hxr⟩
end
end Go.Proofs.YtfcjhpodichpjaaGreatDoor
