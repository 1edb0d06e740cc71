/- spec.DrawCer -/
import Derived.Test.YtfcjhpodichpjaaGreatJ04
import Derived.Test.YtfcjhpodichpjaaGreatJ10
import Derived.Deep.DeepCutAuto
import Derived.Deep.CutBlock
import Derived.Test.YtfcjhpodichpjaaGreatJ03
import Derived.Test.YtfcjhpodichpjaaGreatJ01
import Derived.Test.YtfcjhpodichpjaaGreatJ06
set_option maxHeartbeats 4000000
set_option maxRecDepth 100000
namespace Go.Proofs.YtfcjhpodichpjaaGreat
open Go Go.RowKit
def RetDO (w:World) (e:Ending) (w':World):Prop:=
 ∃ (cd:Int) (a:Aut) (D:Option Addr) (q f:Nat) (D':Option Addr) (q' f':Nat) (x:ByteArray) (ro:Int),e=.returned (.agg #[.int .i64 cd,.int .i64 a.al,.slice D q f,.slice D' q' f',.string x,.int .i64 ro])∧zI w' w.heap.size w'.heap.size D q D' q' a∧Hid (BdA 100 a∧x.size≤5000)∧Ext w w'
theorem six_frm (W:World) (Z:Nat) (u0 u1 u2 u3 u4 u5:Value):Frm (fun k=>k=Z) W ((((((W.setCell ⟨Z,0,none⟩ u0).setCell ⟨Z,1,none⟩ u1).setCell ⟨Z,2,none⟩ u2).setCell ⟨Z,3,none⟩ u3).setCell ⟨Z,4,none⟩ u4).setCell ⟨Z,5,none⟩ u5):=
 (zD W Z u0 u1 u2 u3 u4).trans (Frm.setCell _ Z 5 _)
theorem six_blk {w:World} {Z:Nat} {cs:Array Value} {t:TypeId}(h:Blk w Z t cs)(hc:cs.size=6) (u0 u1 u2 u3 u4 u5:Value):Blk ((((((w.setCell ⟨Z,0,none⟩ u0).setCell ⟨Z,1,none⟩ u1).setCell ⟨Z,2,none⟩ u2).setCell ⟨Z,3,none⟩ u3).setCell ⟨Z,4,none⟩ u4).setCell ⟨Z,5,none⟩ u5) Z t #[u0,u1,u2,u3,u4,u5]:=by
 have h1:=(((((h.set_ 0 u0).set_ 1 u1).set_ 2 u2).set_ 3 u3).set_ 4 u4).set_ 5 u5
 obtain⟨l⟩:=cs
 match l,hc with
 |[a,b,c,d,e,f],_=>exact h1
theorem draw_do {R N H J q f q' f':Nat} {a:Aut} {D D':Option Addr} {x:ByteArray} {w w1 W W':World} {S:Nat→Prop}(hx:Ext w w1)(hR:w.heap.size≤R)(hC:zcs w1 W R N H J a D q f D' q' f' x)
  (hF:Frm S W W') (hS:∀ k,S k→w.heap.size≤k∧k<R) (hH:H≤100) (hJ:J≤5000):zI W' w.heap.size W'.heap.size D q D' q' a∧Hid (BdA 100 a∧x.size≤5000)∧Ext w W':=by
 have hxW:Ext w W:=Dr.new hx hR hC.dr
 have i4:=hC.own.keep hF (fun k h1 hk=>by have:=hS k hk;omega)
 exact⟨i4.at_new (by omega),za ⟨BdL.more hC.bd.out.1 hH,Nat.le_trans hC.bd.out.2 hJ⟩,hxW.frm hF (fun k hk hk2=>by have:=hS k hk2;omega)⟩
theorem spec_DrawCertificateOf {A0:Option Addr} {n0 c0:Nat} {w:World}(h:Bytes w A0 n0)(hn:n0≤9223372036854775807)(hc:n0≤c0)(hc2:c0≤9223372036854775807) :
  Calls Tryz.prog 8 #[.slice A0 n0 c0] w (RetDO w):=by
 have hx0:Ext w (w.alloc (.cells #[.int .i64 0,.int .i64 0,.slice none 0 0,.slice none 0 0,.string ⟨#[]⟩,.int .i64 0] 33)):=(Ext.refl _).alloc _
 have z4:=Blk.new w 33 #[.int .i64 0,.int .i64 0,.slice none 0 0,.slice none 0 0,.string ⟨#[]⟩,.int .i64 0]
 have hsz:(w.alloc (.cells #[.int .i64 0,.int .i64 0,.slice none 0 0,.slice none 0 0,.string ⟨#[]⟩,.int .i64 0] 33)).heap.size=w.heap.size+1:=by simp
 have hh:=za (h.ext hx0)
 clear h
 go_enter Tryz.func8,Tryz.ntmps8
 go_upto_region 1 with fail
 generalize w.alloc (.cells #[.int .i64 0,.int .i64 0,.slice none 0 0,.slice none 0 0,.string ⟨#[]⟩,.int .i64 0] 33)=w0 at *
 go_wp2_with fail
 refine (zej hh.out hn hc hc2).mono ?_
 rintro e w1 ⟨R,rfl,hR,hr1,hx1⟩
 have hx01:=hx0.trans hx1
 have hRl:=hr1.lt
 replace z4:=z4.ext hx1
 go_upto_region 3 with (first
  |(go_at_call 22;refine (spec_l12Any hr1 (by omega)).mono ?_;rintro e w2 ⟨s,A,n,c,t,C,k,c2,p,B,m,d,B',m',d',rfl,ht⟩))
 have hx2:Ext w2 (((w2.alloc (.cells #[.int .i64 s.al,.int .i64 s.st,.slice A n c] 43)).alloc (.cells #[.int .i64 t.al,.int .i64 t.st,.slice C k c2] 43)).alloc (.cells #[.int .i64 p.al,.slice B m d,.slice B' m' d'] 26)):=(((Ext.refl _).alloc _).alloc _).alloc _
 obtain⟨b1,b2,b3⟩:=zN (Ext.refl (((w2.alloc (.cells #[.int .i64 s.al,.int .i64 s.st,.slice A n c] 43)).alloc (.cells #[.int .i64 t.al,.int .i64 t.st,.slice C k c2] 43)).alloc (.cells #[.int .i64 p.al,.slice B m d,.slice B' m' d'] 26)))
 have hw2:=ht.dr.size
 replace z4:=(z4.dr ht.dr (by omega)).ext hx2
 have ht2:=ht.ext hx2
 clear ht hx2
 generalize w2.heap.size=G at *
 generalize ((w2.alloc (.cells #[.int .i64 s.al,.int .i64 s.st,.slice A n c] 43)).alloc (.cells #[.int .i64 t.al,.int .i64 t.st,.slice C k c2] 43)).alloc (.cells #[.int .i64 p.al,.slice B m d,.slice B' m' d'] 26)=w3 at *
 have cS:=b1.cell
 have cT:=b2.cell
 have cP:=b3.cell
 have hV:=za (zcq (c:=c) (d:=d) (d':=d') (c2:=c2) ht2.is.at_ ht2.ip.reads ht2.it.at_ (by have:=ht2.ns;omega) (Nat.le_refl _))
 have hbv:=za (show BdA 12 (vpT s t p).asm∧(vpT s t p).tr.size≤4000 from ⟨zfU (vpT_asm s t p),(zeM s t p).2⟩)
 generalize vpT s t p=v at *
 obtain⟨cd,va,vx,ro⟩:=v
 dsimp only at hV hbv
 go_upto_region 4 with (first
  |(go_at_call 23;refine (hV.out).mono ?_;rintro e w4 ⟨D,q,f,D',q',f',rfl,ho,hx4⟩;clear cS cT cP))
 have hw4:=hx4.size
 have hx5:=(Ext.refl w4).alloc (.cells #[.int .i64 cd,.int .i64 va.al,.slice D q f,.slice D' q' f',.string vx,.int .i64 ro] 33)
 have bv:=Blk.new w4 33 #[.int .i64 cd,.int .i64 va.al,.slice D q f,.slice D' q' f',.string vx,.int .i64 ro]
 have hRw3:=ht2.rd.lt
 have hw3:=ht2.dr.size
 have hzz:=z4.lt
 have hz9:=za (show w.heap.size<w4.heap.size by omega)
 have hce:zcs w1 (w4.alloc (.cells #[.int .i64 cd,.int .i64 va.al,.slice D q f,.slice D' q' f',.string vx,.int .i64 ro] 33)) R (0+200100) 12 4000 va D q f D' q' f' vx:=⟨(ho.ext hx5).less (by omega),hbv,(ht2.rd.ext hx4).ext hx5,(ht2.dr.ext hx4).ext hx5,hRl⟩
 replace z4:=(z4.ext hx4).ext hx5
 have hw14:w1.heap.size≤w4.heap.size:=by omega
 clear ho hx5 hx4 ht2 hV hbv b1 b2 b3 hw4 hw3 hzz
 generalize w4.alloc (.cells #[.int .i64 cd,.int .i64 va.al,.slice D q f,.slice D' q' f',.string vx,.int .i64 ro] 33)=w5 at *
 generalize hGv:w4.heap.size=Gv at *
 clear hGv
 go_wp2_with fail
 refine (zr hce.rd (by omega)).mono ?_
 rintro e w6 ⟨y,rfl,-,-,hr6,hd6⟩
 replace hce:=hce.drawn hd6 hr6
 have hR6:=hce.rd.lt
 have hd1:=hce.dr.size
 replace bv:=bv.dr hd6 (by omega)
 replace z4:=z4.dr hd6 (by omega)
 clear hd6 hr6
 generalize va=a at *
 generalize D=B at *
 generalize D'=B' at *
 generalize q=m at *
 generalize q'=m' at *
 generalize f=d at *
 generalize f'=d' at *
 generalize vx=x at *
 go_upto_block 0 with fail
 go_cut [] (fun wx=>∃ (cd:Int) (a:Aut) (B:Option Addr) (m d:Nat) (B':Option Addr) (m' d':Nat) (x:ByteArray),Blk wx Gv 33 #[.int .i64 cd,.int .i64 a.al,.slice B m d,.slice B' m' d',.string x,.int .i64 ro]∧Blk wx w.heap.size 33 #[.int .i64 0,.int .i64 0,.slice none 0 0,.slice none 0 0,.string ⟨#[]⟩,.int .i64 0]∧zcs w1 wx R 200300 60 4500 a B m d B' m' d' x)
 case first =>
  have cG:=bv.cell
  have hcases:y=0∨y=1∨y=2∨3≤y:=by omega
  rcases hcases with hy|hy|hy|hy
  ·subst hy
   have hy0:True:=trivial
   go_wp2_with fail
   refine (zao [0,1,2,3,(-1)] 5 #[.int .i64 0,.int .i64 1,.int .i64 2,.int .i64 3,.int .i64 (-1)] rfl rfl (by omega) (by omega) hce.rd (by omega)).mono ?_
   rintro e w7 ⟨u,hu,rfl,hr7,hd7⟩
   have hd67:Dr R w6 w7:=(((Ext.refl w6).alloc _).dr).trans hd7
   replace hce:=hce.drawn hd67 hr7
   replace bv:=bv.dr hd67 (by omega)
   replace z4:=z4.dr hd67 (by have:=hz9.out;omega)
   clear cG hd7
   have cG:=bv.cell
   have fG:=bv.frozen
   have hf:=Frm.setCell w7 Gv 0 (.int .i64 u)
   have hB:Blk (w7.setCell ⟨Gv,0,none⟩ (.int .i64 u)) Gv 33 #[.int .i64 u,.int .i64 a.al,.slice B m d,.slice B' m' d',.string x,.int .i64 ro]:=by
    simpa using bv.set_ 0 (.int .i64 u)
   have zgF:=(hce.far bv hf (by omega) (by decide)).more (N:=200300) (H:=60) (I:=4500) (by omega) (by omega) (by omega)
   have bz6:=z4.frm hf (by have:=hz9.out;omega)
   clear bv z4 hf
   go_wp2_with fail
   go_meet
   exact⟨_,_,_,_,_,_,_,_,_,hB,bz6,zgF⟩
  ·subst hy
   have hy0:True:=trivial
   have hxs:=hce.bd.out.2
   have cG':∀ W,Dr R w6 W→∀ q,W.cell? ⟨Gv,q,none⟩=#[Value.int .i64 cd,.int .i64 a.al,.slice B m d,.slice B' m' d',.string x,.int .i64 ro][q]?:=fun W hW=>(bv.dr hW (by omega)).cell
   clear cG
   go_wp2_with fail
   refine tR (fun X=>Dr R w6 X) [7] (Ord.of [0,1,2,3,4,5,6,7]) ?_
   refine tQ ?_
   refine zu fun K hK=>?_;go_simp
   refine hK.out _ _ ((Dr.refl R w6).drew.alloc _) ?_
   refine pT ?_
   refine zu fun K hK=>?_;go_simp
   have hxd:=(Ext.refl w6).drew
   have zgC:=zaC w6.drew (us:=#[.string ⟨#[97]⟩,.string ⟨#[103]⟩]) (n:=2) rfl rfl (by omega)
   have hq1:=hce.rd.lt
   refine (zge ((hce.rd.ext hxd).ext ((Ext.refl _).alloc _)) (by omega) (Reads.of_own zgC) (by show R<w6.drew.heap.size;exact hq1) (by omega)).mono ?_
   rintro e w7 ⟨u,hu,rfl,hr4,hd4⟩
   have hd24:Dr R w6 w7:=((Dr.refl R w6).drew.alloc _).trans hd4
   have hus:u.size≤1:=by
    simp [zfB] at hu
    rcases hu with rfl|rfl<;>decide
   have hxu:¬ (9223372036854775807<x.size+u.size):=by omega
   refine hK.out _ _ hd24 ?_
   refine pT ?_
   refine tQ ?_
   have hce4:=hce.drawn hd24 hr4
   have bc5:=bv.dr hd24 (by omega)
   have bz5:=z4.dr hd24 (by have:=hz9.out;omega)
   have fG:=bc5.frozen
   have hf:=Frm.setCell w7 Gv 4 (.string (x++u))
   have hB:Blk (w7.setCell ⟨Gv,4,none⟩ (.string (x++u))) Gv 33 #[.int .i64 cd,.int .i64 a.al,.slice B m d,.slice B' m' d',.string (x++u),.int .i64 ro]:=by
    simpa using bc5.set_ 4 (.string (x++u))
   have zgF:=(({ hce4 with bd:=za ⟨hce.bd.out.1,by rw [ByteArray.size_append];omega⟩ }:zcs w1 w7 R _ _ 4001 a B m d B' m' d' (x++u)).far bc5 hf (by omega) (by decide)).more (N:=200300) (H:=60) (I:=4500) (by omega) (by omega) (by omega)
   have bz6:=bz5.frm hf (by have:=hz9.out;omega)
   refine zF fun K hK=>?_
   go_simp
   refine hK.out _ _ ?_
   refine zR ?_
   clear bc5 bz5 hf
   go_wp2_with fail
   go_meet
   exact⟨_,_,_,_,_,_,_,_,_,hB,bz6,zgF⟩
  ·subst hy
   have hy0:True:=trivial
   go_wp2_with fail
   refine (zay hce.rd (by omega) hce.own hce.bd.out.1 (by omega)).mono ?_
   rintro e v1 ⟨a1,A1,n1,d1,B1,m1,e1,rfl,ho1,hb1,hr1,hd1⟩
   have hce1:=hce.drawn hd1 hr1
   have hq1:=hce.rd.lt
   have hq2:=hce1.rd.lt
   clear cG
   go_wp2_with fail
   refine (zay hr1 (by omega) (ho1.less (by omega)) hb1.out (by omega)).mono ?_
   rintro e v3 ⟨a3,A3,n3,d3,B3,m3,e3,rfl,ho3,hb3,hr3,hd3⟩
   have hce3:=hce1.drawn hd3 hr3
   have bc5:=(bv.dr hd1 (by omega)).dr hd3 (by omega)
   have bz5:=(z4.dr hd1 (by have:=hz9.out;omega)).dr hd3 (by have:=hz9.out;omega)
   have cG:=bc5.cell
   have fG:=bc5.frozen
   have hf:Frm (fun k=>k=Gv) v3 (((v3.setCell ⟨Gv,1,none⟩ (.int .i64 a3.al)).setCell ⟨Gv,2,none⟩ (.slice A3 n3 d3)).setCell ⟨Gv,3,none⟩ (.slice B3 m3 e3)):=((Frm.setCell v3 Gv 1 _).trans (Frm.setCell _ Gv 2 _)).trans (Frm.setCell _ Gv 3 _)
   have hB:Blk (((v3.setCell ⟨Gv,1,none⟩ (.int .i64 a3.al)).setCell ⟨Gv,2,none⟩ (.slice A3 n3 d3)).setCell ⟨Gv,3,none⟩ (.slice B3 m3 e3)) Gv 33 #[.int .i64 cd,.int .i64 a3.al,.slice A3 n3 d3,.slice B3 m3 e3,.string x,.int .i64 ro]:=by
    simpa using ((bc5.set_ 1 (.int .i64 a3.al)).set_ 2 (.slice A3 n3 d3)).set_ 3 (.slice B3 m3 e3)
   have zgF:=(({ hce3 with own:=ho3.less (by omega),bd:=za ⟨hb3.out,hce.bd.out.2⟩ }:zcs w1 v3 R _ (12+13+13) 4000 a3 A3 n3 d3 B3 m3 e3 x).far bc5 hf (by omega) (by decide)).more (N:=200300) (H:=60) (I:=4500) (by omega) (by omega) (by omega)
   have bz6:=bz5.frm hf (by have:=hz9.out;omega)
   clear bc5 bz5 hf
   go_wp2_with fail
   go_meet
   exact⟨_,_,_,_,_,_,_,_,_,hB,bz6,zgF⟩
  ·have h0:((y:Int)==0)=false:=by simp;omega
   have h1:((y:Int)==1)=false:=by simp;omega
   have h2:((y:Int)==2)=false:=by simp;omega
   go_wp2_with fail
   go_meet
   exact⟨_,_,_,_,_,_,_,_,_,bv,z4,hce.more (by omega) (by omega) (by omega)⟩
 case rest =>
  clear hce bv z4
  obtain⟨cd,a,B,m,d,B',m',d',x,bc,bz,hce⟩:=hcut
  have k1:=bc.cell
  have kz:=bz.cell
  have g1:=bz.frozen
  have r4:=six_blk bz rfl (.int .i64 cd) (.int .i64 a.al) (.slice B m d) (.slice B' m' d') (.string x) (.int .i64 ro)
  have e1:=six_frm wc w.heap.size (.int .i64 cd) (.int .i64 a.al) (.slice B m d) (.slice B' m' d') (.string x) (.int .i64 ro)
  have zgF:=za (draw_do hx01 (by omega) hce e1 (fun k hk=>by have hk':k=w.heap.size:=hk;omega) (by omega) (by omega))
  clear bz e1 hce
  go_wp2_with fail
  have c4:=r4.cell
  exact bodyPost_ret (v:=.agg #[.int .i64 cd,.int .i64 a.al,.slice B m d,.slice B' m' d',.string x,.int .i64 ro]) (by simp [results,Tryz.results8,go_sem,c4]) rfl ⟨cd,a,B,m,d,B',m',d',x,_,rfl,zgF.out⟩
section
variable {lo hi lo' hi' n c m d n' c' m' d':Nat} {A B A' B':Option Addr} {w:World}
theorem yJ11a1 {P:Prop}(h:P:=by
 obtain rfl:x=y:=Option.some.inj (hx.out.symm.trans hy.out)
 go_wp2
 go_quiet (fail)
 go_wp2
 go_roundw
 case rel=>exact⟨k+1,by omega,by go_num,zgE.drewN _⟩
 case measure=>simp [intOf];omega
 ):P:=h
theorem agIntsI_same {l:List Int}(h:Reads w lo hi 1 A n (ints l))(h':Reads w lo' hi' 1 B m (ints l)) :
  Calls Tryz.prog 31 #[.slice A n c,.slice B m d] w fun e w'=>e=.returned (.bool true)∧Ext w w':=by
 have hn:=h.len
 have e1:=h.length
 have e2:=h'.length
 rw [zdq] at e1 e2
 obtain rfl:n=m:=by omega
 clear e1 e2
 have HR:=za (fun W (hW:Ext w W)=>h.ext hW)
 have HR':=za (fun W (hW:Ext w W)=>h'.ext hW)
 go_enter Tryz.func31,Tryz.ntmps31
 go_wp2
 go_loopw [5] (fun v wr=>∃ k:Nat,k≤n∧v=.int .i64 k∧Ext w wr) (fun v _=>n - (intOf v).toNat)
 case atStart=>exact⟨0,Nat.zero_le _,rfl,Ext.refl _⟩
 case round =>
  obtain⟨k,hk,rfl,zgE⟩:=hrel
  by_cases hlt:k<n
  ·obtain⟨ad,x,rfl,_,_,hx,hc⟩:=(HR.out wr zgE).int hlt
   obtain⟨ad',y,rfl,_,_,hy,hc'⟩:=(HR'.out wr zgE).int hlt
   exact yJ11a1
  ·obtain rfl:k=n:=by omega
   go_wp2
   go_ret
   exact⟨rfl,zgE⟩
theorem agBools_same {l:List Bool}(h:Reads w lo hi 1 A n (zax l))(h':Reads w lo' hi' 1 B m (zax l)) :
  Calls Tryz.prog 30 #[.slice A n c,.slice B m d] w fun e w'=>e=.returned (.bool true)∧Ext w w':=by
 have hn:=h.len
 have e1:=h.length
 have e2:=h'.length
 rw [zee] at e1 e2
 obtain rfl:n=m:=by omega
 clear e1 e2
 have HR:=za (fun W (hW:Ext w W)=>h.ext hW)
 have HR':=za (fun W (hW:Ext w W)=>h'.ext hW)
 go_enter Tryz.func30,Tryz.ntmps30
 go_wp2
 go_loopw [5] (fun v wr=>∃ k:Nat,k≤n∧v=.int .i64 k∧Ext w wr) (fun v _=>n - (intOf v).toNat)
 case atStart=>exact⟨0,Nat.zero_le _,rfl,Ext.refl _⟩
 case round =>
  obtain⟨k,hk,rfl,zgE⟩:=hrel
  by_cases hlt:k<n
  ·obtain⟨ad,x,rfl,_,_,hx,hc⟩:=(HR.out wr zgE).bool hlt
   obtain⟨ad',y,rfl,_,_,hy,hc'⟩:=(HR'.out wr zgE).bool hlt
   exact yJ11a1
  ·obtain rfl:k=n:=by omega
   go_wp2
   go_ret
   exact⟨rfl,zgE⟩
theorem zeO {a:Aut}(h:zI w lo hi A n A' n' a)(h':zI w lo' hi' B m B' m' a) :
  Calls Tryz.prog 12 #[.agg #[.int .i64 a.al,.slice A n c,.slice A' n' c'],.agg #[.int .i64 a.al,.slice B m d,.slice B' m' d']] w fun e w'=>e=.returned (.bool true)∧Ext w w':=by
 have hn:=h.1.len
 obtain rfl:n=m:=h.1.1.trans h'.1.1.symm
 have HR:=za (fun W (hW:Ext w W)=>h.1.ext hW)
 have HR':=za (fun W (hW:Ext w W)=>h'.1.ext hW)
 have HB:=za (fun W (hW:Ext w W)=>agBools_same (c:=c') (d:=d') (h.2.2.ext hW) (h'.2.2.ext hW))
 clear h h'
 have hx0:Ext w ((w.alloc (.cells #[.int .i64 a.al,.slice A n c,.slice A' n' c'] 26)).alloc (.cells #[.int .i64 a.al,.slice B n d,.slice B' m' d'] 26)):=((Ext.refl _).alloc _).alloc _
 obtain⟨b1,b2⟩:=zM (Ext.refl ((w.alloc (.cells #[.int .i64 a.al,.slice A n c,.slice A' n' c'] 26)).alloc (.cells #[.int .i64 a.al,.slice B n d,.slice B' m' d'] 26)))
 go_enter Tryz.func12,Tryz.ntmps12
 go_upto_region 1 with fail
 generalize (w.alloc (.cells #[.int .i64 a.al,.slice A n c,.slice A' n' c'] 26)).alloc (.cells #[.int .i64 a.al,.slice B n d,.slice B' m' d'] 26)=w0 at *
 have cA:=b1.cells
 have cB:=b2.cells
 have hww:=Ext.refl w0
 go_wp2_with (first
  |(go_at_call 30;refine (HB.out _ hx0).mono ?_;rintro e w1 ⟨rfl,hx1⟩))
 go_loopw [5] (fun v wr=>∃ k:Nat,k≤n∧v=.int .i64 k∧Ext w0 wr) (fun v _=>n - (intOf v).toNat)
 case atStart=>exact⟨0,Nat.zero_le _,rfl,hx1⟩
 case round =>
  obtain⟨k,hk,rfl,zgE⟩:=hrel
  by_cases hlt:k<n
  ·obtain⟨ad,Ak,ck,l,rfl,_,_,hx,hc,hr⟩:=(HR.out wr (hx0.trans zgE)).row hlt
   obtain⟨ad',Bk,dk,l',rfl,_,_,hy,hc',hr'⟩:=(HR'.out wr (hx0.trans zgE)).row hlt
   obtain rfl:l=l':=Option.some.inj (hx.out.symm.trans hy.out)
   have HI:=za (fun W (hW:Ext wr W)=>agIntsI_same (c:=ck) (d:=dk) (hr.ext hW) (hr'.ext hW))
   clear hr hr'
   have hwr:=Ext.refl wr
   have cx:=fun W (hW:Ext wr W)=>hW.cell_some hc
   have cy:=fun W (hW:Ext wr W)=>hW.cell_some hc'
   have cAr:∀ W,Ext wr W→∀ j,W.cell? ⟨w.heap.size,j,none⟩=#[Value.int .i64 a.al,.slice (some ad) n c,.slice A' n' c'][j]?:=fun W hW=>cA W (zgE.trans hW)
   have cBr:∀ W,Ext wr W→∀ j,W.cell? ⟨w.heap.size+1,j,none⟩=#[Value.int .i64 a.al,.slice (some ad') n d,.slice B' m' d'][j]?:=fun W hW=>cB W (zgE.trans hW)
   go_upto_region 6 with fail
   refine uR (fun X=>Ext wr X) [10] (zG.of [0,1,2,3,4,5,6,7,8,9,10,11]) ?_
   refine uQ ?_
   refine zg fun K hK=>?_
   go_simp
   refine (HI.out _ hwr.drew).mono ?_
   rintro e w2 ⟨rfl,hx2⟩
   refine hK.out _ _ ?_
   refine pT ?_
   refine uQ ?_
   refine zh ?_
   go_wp2_with fail
   go_roundw
   case rel=>exact⟨k+1,by omega,by go_num,zgE.trans (hwr.drew.trans hx2)⟩
   case measure=>simp [intOf];omega
  ·obtain rfl:k=n:=by omega
   go_wp2_with fail
   go_ret
   exact⟨rfl,hx0.trans zgE⟩
end
section
variable {lo hi lo' hi' n c m d n' c' m' d':Nat} {A B A' B':Option Addr} {w:World}
theorem agCert_same {hd:Bool} {a:Aut} {x:ByteArray}(h:zI w lo hi A n A' n' a)(h':zI w lo' hi' B m B' m' a) :
  Calls Tryz.prog 11 #[.agg #[.bool hd,.int .i64 a.al,.slice A n c,.slice A' n' c',.string x],.agg #[.bool hd,.int .i64 a.al,.slice B m d,.slice B' m' d',.string x]] w fun e w'=>e=.returned (.bool true)∧Ext w w':=by
 have HA:=za (fun W (hW:Ext w W)=>zeO (c:=c) (c':=c') (d:=d) (d':=d') (h.ext hW) (h'.ext hW))
 clear h h'
 have hx0:Ext w ((w.alloc (.cells #[.bool hd,.int .i64 a.al,.slice A n c,.slice A' n' c',.string x] 28)).alloc (.cells #[.bool hd,.int .i64 a.al,.slice B m d,.slice B' m' d',.string x] 28)):=((Ext.refl _).alloc _).alloc _
 obtain⟨b1,b2⟩:=zM (Ext.refl ((w.alloc (.cells #[.bool hd,.int .i64 a.al,.slice A n c,.slice A' n' c',.string x] 28)).alloc (.cells #[.bool hd,.int .i64 a.al,.slice B m d,.slice B' m' d',.string x] 28)))
 have hbe:(hd==hd)=true:=by simp
 have hbn:(!hd==hd)=false:=by cases hd<;>rfl
 go_enter Tryz.func11,Tryz.ntmps11
 go_upto_region 1 with fail
 generalize (w.alloc (.cells #[.bool hd,.int .i64 a.al,.slice A n c,.slice A' n' c',.string x] 28)).alloc (.cells #[.bool hd,.int .i64 a.al,.slice B m d,.slice B' m' d',.string x] 28)=w0 at *
 have cA:=b1.cells
 have cB:=b2.cells
 have hww:=Ext.refl w0
 clear b1 b2
 go_wp2_with (first
  |(go_at_call 12;with_reducible refine (HA.out _ hx0).mono ?_;rintro e w1 ⟨rfl,hx1⟩))
 go_ret
 exact⟨rfl,hx0.trans hx1⟩
end
end Go.Proofs.YtfcjhpodichpjaaGreat
