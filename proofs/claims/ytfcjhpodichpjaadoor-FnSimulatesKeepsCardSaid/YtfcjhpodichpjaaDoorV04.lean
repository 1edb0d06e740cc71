/- spec.l3Copy, -/
import Derived.Test.YtfcjhpodichpjaaDoorV01
import Derived.Deep.DeepCutAuto
import Derived.Laws.StructEq
import Derived.Test.YtfcjhpodichpjaaDoorV03
import Derived.Deep.AppendLies
import Derived.Test.YtfcjhpodichpjaaDoorV02
import Derived.Deep.CutBlock
set_option maxHeartbeats 4000000
set_option maxRecDepth 100000
namespace Go.Proofs.YtfcjhpodichpjaaDoor
open Go Go.RowKit
theorem yV04a1 {P:Prop}(h:P:=by
 intro vA w4 hownA hgA hatA
 rw [Nat.zero_add,List.nil_append] at hownA
 obtain⟨BA,dA,rfl⟩:=zl hownA
 have hxA:Ext w2 w4:=hx0.grown hgA (fun k hk=>(hm.lt k hk).1)
 have hb:Blk w4 G 30 #[.int .i64 0,.slice none 0 0,.slice none 0 0]:=(hgA.block G hb.lt (fun e=>zo hm hb (by decide) e.symm rfl)).trans hb
 replace hx0:=hxA
 refine hK.out _ _ hx0 ?_
 refine pT ?_
 refine uQ ?_
 have cG:=hb.cell
 have fG:=hb.frozen
 refine zb fun K hK=>?_
 go_simp
 refine hK.out _ _ ?_
 refine zh ?_
 have zes:Gra w2 (((w4.setCell ⟨G,0,none⟩ (.int .i64 a.al)).setCell ⟨G,1,none⟩ (.slice none 0 0)).setCell ⟨G,2,none⟩ (.slice BA n' dA)) G a.al (.slice none 0 0) [] (.slice BA n' dA) a.acc:=⟨zas hb rfl _ _ _,⟨[],World.ownsRow_nil _ _ _ _,zq.nil _ _⟩,by
  rw [← hL'.out]
  exact zj hownA (zak w4 G _ _ _) (fun b hv hS=>zo hownA hb (by decide) hv hS),hx0.frm (zak w4 G _ _ _) (fun k hk e=>by omega),hG⟩
 go_wp2_with fail
 go_meet
 exact⟨G,_,rfl,zes⟩
 ):P:=h
theorem zdp {lo hi:Nat} {A:Option Addr} {n c:Nat} {A':Option Addr} {n' c':Nat} {a:Aut} {w:World}(h:zaS w lo hi A n A' n' a)(hs:a.size≤1048576) :
  Calls Tryd.prog 63 #[.agg #[.int .i64 a.al,.slice A n c,.slice A' n' c']] w (RetAut w a):=by
 have h1:n≤1048576:=by have:=h.n1;unfold Aut.size at hs;omega
 have h2:n'≤1048576:=by have:=h.n2;unfold Aut.size at hs;omega
 have hrow:∀ (k:Nat) (l:List Int),a.next[k]?=some l→l.length≤1048576:=fun k l hl=>by
  have h1:=zem hl
  have h2:=tot_take_le a.next (k+1)
  unfold Aut.size at hs
  omega
 have Hrow:=za hrow
 have hL:=za h.n1
 have hL':=za h.n2
 have HS:=za (fun W (hW:Ext w W)=>h.1.ext hW)
 have HA:=za (fun W (hW:Ext w W)=>h.2.2.ext hW)
 have hlen:=h.1.len
 clear hrow h hs
 go_enter Tryd.func63,Tryd.ntmps63
 obtain⟨b1,bz⟩:=zv (Ext.refl ((w.alloc (.cells #[.int .i64 a.al,.slice A n c,.slice A' n' c'] 30)).alloc (.cells #[.int .i64 0,.slice none 0 0,.slice none 0 0] 30)))
 have hw2:Ext w ((w.alloc (.cells #[.int .i64 a.al,.slice A n c,.slice A' n' c'] 30)).alloc (.cells #[.int .i64 0,.slice none 0 0,.slice none 0 0] 30)):=((Ext.refl w).alloc _).alloc _
 have hsz2:w.heap.size+2=((w.alloc (.cells #[.int .i64 a.al,.slice A n c,.slice A' n' c'] 30)).alloc (.cells #[.int .i64 0,.slice none 0 0,.slice none 0 0] 30)).heap.size:=by simp
 go_upto_region 1 with fail
 generalize (w.alloc (.cells #[.int .i64 a.al,.slice A n c,.slice A' n' c'] 30)).alloc (.cells #[.int .i64 0,.slice none 0 0,.slice none 0 0] 30)=w2 at *
 go_cut [3] (fun v wx=>∃ (G:Nat) (vA:Value),v=.pointer (some ⟨G,0,none⟩)∧Gra w2 wx G a.al (.slice none 0 0) [] vA a.acc)
 case first =>
  have c1:=fun W (hW:Ext w2 W)=>(b1.ext hW).cell
  have hww:=Ext.refl w2
  refine uR (fun X=>Ext w2 X) [8] (zE.app [0,1,3,4] (zE.two 2 (zE.two 5 (zE.of [6,7,8]) 7 (zE.of [5,6,8])) 7 (zE.of [2,5,6,8]))) ?_
  refine uQ ?_
  have hx0:Ext w2 w2.drew:=hww.drew
  generalize w2.drew=wd at *
  refine zB (fun K hK=>?_) (fun K hK=>?_)
  ·go_simp
   have hm:=World.ownsRow_made (base:=w2.heap.size) (e:=4) (size:=1) wd #[] 0 hx0.size (Nat.zero_le _) rfl
   have hx1:=(Ext.refl wd).alloc (.cells #[] 4)
   replace hx0:=hx0.trans hx1
   refine hK.out _ _ hx0 ?_
   generalize wd.alloc (.cells #[] 4)=wm at *
   generalize wd.heap.size=M at *
   refine pT ?_
   refine uQ ?_
   clear hK
   refine zB (fun K hK=>?_) (fun K hK=>?_)
   ·skip
    refine zaR wm _ _ 23 rfl w2.heap.size 4 _ 1 1 Tryd.underlying23 zal rfl (by decide) (.slice (some ⟨M,0,none⟩) 0 0) 0 [] rfl hm _ _ A' n' c' (zL a.acc) rfl (HA.out _ (hw2.trans hx0)) (zcZ _) (by unfold maxLen;omega) (by omega) hx0.size ?_
    intro vA w4 hownA hgA hatA
    rw [Nat.zero_add,List.nil_append] at hownA
    obtain⟨BA,dA,rfl⟩:=zl hownA
    have hxA:Ext w2 w4:=hx0.grown hgA (fun k hk=>(hm.lt k hk).1)
    replace hx0:=hxA
    refine hK.out _ _ hx0 ?_
    refine pT ?_
    refine uQ ?_
    refine ze fun K hK=>?_;go_simp
    have hx1:=(Ext.refl w4).alloc (.cells #[.int .i64 0,.slice none 0 0,.slice none 0 0] 30)
    have hb:=Blk.new w4 30 #[.int .i64 0,.slice none 0 0,.slice none 0 0]
    have hG:=hx0.size
    replace hownA:=zm hownA hx1
    replace hx0:=hx0.trans hx1
    refine hK.out _ _ hx0 ?_
    generalize w4.alloc (.cells #[.int .i64 0,.slice none 0 0,.slice none 0 0] 30)=wg at *
    generalize w4.heap.size=G at *
    refine pT ?_
    refine uQ ?_
    have cG:=hb.cell
    have fG:=hb.frozen
    refine zb fun K hK=>?_
    go_simp
    refine hK.out _ _ ?_
    refine zh ?_
    have zes:Gra w2 (((wg.setCell ⟨G,0,none⟩ (.int .i64 a.al)).setCell ⟨G,1,none⟩ (.slice none 0 0)).setCell ⟨G,2,none⟩ (.slice BA n' dA)) G a.al (.slice none 0 0) [] (.slice BA n' dA) a.acc:=⟨zas hb rfl _ _ _,⟨[],World.ownsRow_nil _ _ _ _,zq.nil _ _⟩,by
     rw [← hL'.out]
     exact zj hownA (zak wg G _ _ _) (fun b hv hS=>zo hownA hb (by decide) hv hS),hx0.frm (zak wg G _ _ _) (fun k hk e=>by omega),hG⟩
    go_wp2_with fail
    go_meet
    exact⟨G,_,rfl,zes⟩
   ·go_simp
    have hx1:=(Ext.refl wm).alloc (.cells #[.int .i64 0,.slice none 0 0,.slice none 0 0] 30)
    have hb:=Blk.new wm 30 #[.int .i64 0,.slice none 0 0,.slice none 0 0]
    have hG:=hx0.size
    replace hm:=zm hm hx1
    replace hx0:=hx0.trans hx1
    refine hK.out _ _ hx0 ?_
    generalize wm.alloc (.cells #[.int .i64 0,.slice none 0 0,.slice none 0 0] 30)=wg at *
    generalize wm.heap.size=G at *
    refine pT ?_
    refine uQ ?_
    refine ze (fun K hK=>?_)
    refine zaR wg _ _ 23 rfl w2.heap.size 4 _ 1 1 Tryd.underlying23 zal rfl (by decide) (.slice (some ⟨M,0,none⟩) 0 0) 0 [] rfl hm _ _ A' n' c' (zL a.acc) rfl (HA.out _ (hw2.trans hx0)) (zcZ _) (by unfold maxLen;omega) (by omega) hx0.size ?_
    exact yV04a1
  ·go_simp
   have hx1:=(Ext.refl wd).alloc (.cells #[.int .i64 0,.slice none 0 0,.slice none 0 0] 30)
   have hb:=Blk.new wd 30 #[.int .i64 0,.slice none 0 0,.slice none 0 0]
   have hG:=hx0.size
   replace hx0:=hx0.trans hx1
   refine hK.out _ _ hx0 ?_
   generalize wd.alloc (.cells #[.int .i64 0,.slice none 0 0,.slice none 0 0] 30)=wg at *
   generalize wd.heap.size=G at *
   refine pT ?_
   refine uQ ?_
   refine ze fun K hK=>?_;go_simp
   have hm:=World.ownsRow_made (base:=w2.heap.size) (e:=4) (size:=1) wg #[] 0 hx0.size (Nat.zero_le _) rfl
   have hx1:=(Ext.refl wg).alloc (.cells #[] 4)
   replace hb:=hb.ext hx1
   replace hx0:=hx0.trans hx1
   refine hK.out _ _ hx0 ?_
   generalize wg.alloc (.cells #[] 4)=wm at *
   generalize wg.heap.size=M at *
   refine pT ?_
   refine uQ ?_
   refine ze (fun K hK=>?_)
   refine zaR wm _ _ 23 rfl w2.heap.size 4 _ 1 1 Tryd.underlying23 zal rfl (by decide) (.slice (some ⟨M,0,none⟩) 0 0) 0 [] rfl hm _ _ A' n' c' (zL a.acc) rfl (HA.out _ (hw2.trans hx0)) (zcZ _) (by unfold maxLen;omega) (by omega) hx0.size ?_
   exact yV04a1
 case rest =>
  obtain⟨G,vA,rfl,hgr⟩:=hcut
  have k1:=(b1.ext hgr.ext).cell
  go_wp2_with fail
  go_loopw [4] (fun i wr=>∃ (k:Nat) (v:Value),k≤n∧i=.int .i64 k∧Gra w2 wr G a.al v (a.next.take k) vA a.acc) (fun i _=>n - (intOf i).toNat)
  case atStart=>exact⟨0,_,Nat.zero_le _,rfl,by simpa using hgr⟩
  case round =>
   clear hgr k1
   obtain⟨k,v,hk,rfl,hgr⟩:=hrel
   by_cases hlt:k<n
   ·obtain⟨ad,Ak,ck,l,rfl,_,_,hl,hc0,hrk⟩:=(HS.out wr (hw2.trans hgr.ext)).row hlt
    have hll:=Hrow.out k l hl.out
    have Htk:=za (show a.next.take (k+1)=a.next.take k++[l] by rw [List.take_add_one,hl.out];rfl)
    have htl:=za (show (a.next.take k).length=k by rw [List.length_take];have:=hL.out;omega)
    obtain⟨rows,hv,hrows⟩:=hgr.own
    have k1:=(b1.ext hgr.ext).cell
    go_upto_region 5 with fail
    clear k1
    have cG:∀ W,Ext wr W→∀ q,W.cell? ⟨G,q,none⟩=#[Value.int .i64 a.al,v,vA][q]?:=fun W hW=>(hgr.blk.ext hW).cell
    have hww:=Ext.refl wr
    have Hrk:=za (fun W (hW:Ext wr W)=>hrk.ext hW)
    have C1:∀ W,Ext wr W→∀ q,W.cell? ⟨w.heap.size,q,none⟩=#[Value.int .i64 a.al,.slice (some ad) n c,.slice A' n' c'][q]?:=fun W hW=>((b1.ext hgr.ext).ext hW).cell
    have Cr:∀ W,Ext wr W→W.cell? (ad.add k)=some (.slice Ak l.length ck):=fun W hW=>hW.cell_some hc0
    have hkn:(k:Int)<(n:Int):=by omega
    clear hc0 hrk
    refine uR (fun X=>Ext wr X) [10,12] (zE.of [0,1,3,4,5,6,7,2,8,9,10,11,12]) ?_
    refine uQ ?_
    have hx0:Ext wr wr.drew:=hww.drew
    generalize wr.drew=wd at *
    refine ze fun K hK=>?_;go_simp
    have hm:=World.ownsRow_made (base:=wr.heap.size) (e:=3) (size:=1) wd #[] 0 hx0.size (Nat.zero_le _) rfl
    have hx1:=(Ext.refl wd).alloc (.cells #[] 3)
    replace hx0:=hx0.trans hx1
    refine hK.out _ _ hx0 ?_
    generalize wd.alloc (.cells #[] 3)=wm at *
    generalize wd.heap.size=M at *
    refine pT ?_
    refine uQ ?_
    refine ze (fun K hK=>?_)
    refine zaR wm _ _ 62 rfl wr.heap.size 3 _ 1 8 Tryd.underlying62 zS rfl (by decide) (.slice (some ⟨M,0,none⟩) 0 0) 0 [] rfl hm _ _ Ak l.length ck (ints l) rfl (Hrk.out _ hx0) (zed _) (by unfold maxLen;omega) (by omega) hx0.size ?_
    intro vR w3 hrow hgR hatR
    rw [Nat.zero_add,List.nil_append] at hrow
    obtain⟨BR,dR,rfl⟩:=zl hrow
    have hww3:Ext wr w3:=hx0.grown hgR (fun k hk=>(hm.lt k hk).1)
    refine hK.out _ _ hww3 ?_
    refine pT ?_
    refine uQ ?_
    refine ze fun K hK=>?_;go_simp
    refine hK.out _ _ (hww3.alloc _) ?_
    refine pT ?_
    refine zb fun K hK=>?_
    refine zab w2 w3 _ _ _ rfl 62 _ 1 24 Tryd.underlying22 zbb rfl (by decide) v (a.next.take k).length rows _ _ rfl rfl (hgr.ext.trans hww3).size (zm hv hww3) rfl (zaF _ _ _) (by unfold maxLen;have:=htl.out;omega) (by have:=htl.out;omega) ?_
    intro g5 cap5 w5 zew hg5 hat5 hlt5
    refine hK.out _ _ ?_
    refine pT ?_
    refine uQ ?_
    obtain⟨p1,p2,p3⟩:=hgr.push hrows hv hww3 hrow (W':=w5) zew hg5 hat5
    have p1':=p1.out
    refine zb fun K hK=>?_
    go_simp
    refine hK.out _ _ ?_
    refine zh ?_
    go_wp2_with fail
    go_roundw
    case rel=>exact⟨k+1,_,by omega,by go_num,by rw [Htk.out];first|exact p3|simpa using p3⟩
    case measure=>simp [intOf];omega
   ·obtain rfl:n=k:=by omega
    obtain⟨A5,c5,rfl⟩:∃ A5 c5,v=.slice A5 n c5:=by
     obtain⟨rows,hv,_⟩:=hgr.own
     rw [List.take_of_length_le (by have:=hL.out;omega),← hL.out] at hv
     exact zl hv
    obtain⟨B5,d5,rfl⟩:=zl hgr.acc
    have k1:=(b1.ext hgr.ext).cell
    have cG:=hgr.blk.cell
    have hbz:=bz.ext hgr.ext
    have cZ:=hbz.cell
    have fZ:=hbz.frozen
    have hfl:=zak wr (w.heap.size+1) (.int .i64 a.al) (.slice A5 n c5) (.slice B5 a.acc.length d5)
    have hbf:=zas hbz rfl (.int .i64 a.al) (.slice A5 n c5) (.slice B5 a.acc.length d5)
    have hxf:=(hw2.trans hgr.ext).frm hfl (fun k hk e=>by omega)
    have zes:=za (show RetAut w a (.returned (.agg #[.int .i64 a.al,.slice A5 n c5,.slice B5 a.acc.length d5])) (((wr.setCell ⟨w.heap.size+1,0,none⟩ (.int .i64 a.al)).setCell ⟨w.heap.size+1,1,none⟩ (.slice A5 n c5)).setCell ⟨w.heap.size+1,2,none⟩ (.slice B5 a.acc.length d5)) from by
     refine⟨A5,n,c5,B5,a.acc.length,d5,rfl,⟨?_,hL.out,?_,rfl⟩,hxf⟩
     ·have ho:=hgr.own
      rw [List.take_of_length_le (by have:=hL.out;omega)] at ho
      exact (ho.keep hfl (fun b h1 e=>by omega)).less (by omega)
     ·exact zT (zaw hgr.acc hfl (fun b h1 e=>by omega)) (by omega))
    go_wp2_with fail
    generalize ((wr.setCell ⟨w.heap.size+1,0,none⟩ (.int .i64 a.al)).setCell ⟨w.heap.size+1,1,none⟩ (.slice A5 n c5)).setCell ⟨w.heap.size+1,2,none⟩ (.slice B5 a.acc.length d5)=wf at *
    have cf:=hbf.cell
    exact bodyPost_ret (v:=.agg #[.int .i64 a.al,.slice A5 n c5,.slice B5 a.acc.length d5]) (by simp [results,Tryd.results63,go_sem,cf]) rfl zes.out
theorem eq_edge (a b c d e f:Int) (w:World):(Op.equalIn 10000 116 (.agg #[.int .i64 a,.int .i64 b,.int .i64 c]) (.agg #[.int .i64 d,.int .i64 e,.int .i64 f])).run Tryd.prog w=.ok (a==d&&(b==e&&c==f)) w:=by
 have u3:=Tryd.underlying3
 have a3:=Tryd.isAgg3
 have z3:=Tryd.sizeOf3
 have hS:Tryd.prog.underlying 116=some (.struct (Tryd.prog.fieldsOf 116)):=by kernel_rfl
 have hp:Tryd.prog.stoodInHeld 116=false:=by kernel_rfl
 rw [show (10000:Nat)=9999+1 from rfl,run_equalIn_agg w 9999 116 _ _ hS hp]
 simp only [Program.fieldsOf,Tryd.underlying116]
 go_simp
 by_cases h1:a=d<;>by_cases h2:b=e<;>by_cases h3:c=f<;>simp [h1,h2,h3]
theorem e_filled {R M M' E x y p:Nat} {w2 w4:World}(hb:Blk w4 E 116 #[.int .i64 0,.int .i64 0,.int .i64 0])(hr:Rd w4 R M')(hd:Dr R w2 w4)(hE:w2.heap.size≤E)(hR:R<w2.heap.size)(hx:1≤(p:Int)→(x:Int)<p)(hy:1≤(p:Int)→(y:Int)<p)(hp:1≤p)(hM:M'≤M) :
  ∃ E' x' y':Nat,Value.pointer (some ⟨E,0,none⟩)=.pointer (some ⟨E',0,none⟩)∧x'<p∧y'<p∧w2.heap.size≤E'∧Blk (((w4.setCell ⟨E,0,none⟩ (.int .i64 x)).setCell ⟨E,1,none⟩ (.int .i64 0)).setCell ⟨E,2,none⟩ (.int .i64 y)) E' 116 #[.int .i64 x',.int .i64 0,.int .i64 y']∧Rd (((w4.setCell ⟨E,0,none⟩ (.int .i64 x)).setCell ⟨E,1,none⟩ (.int .i64 0)).setCell ⟨E,2,none⟩ (.int .i64 y)) R M∧Dr R w2 (((w4.setCell ⟨E,0,none⟩ (.int .i64 x)).setCell ⟨E,1,none⟩ (.int .i64 0)).setCell ⟨E,2,none⟩ (.int .i64 y)):=by
 have hf:=zaj w4 E (.int .i64 x) (.int .i64 0) (.int .i64 y)
 refine⟨E,x,y,rfl,by omega,by omega,hE,by simpa using ((hb.set_ 0 (.int .i64 x)).set_ 1 (.int .i64 0)).set_ 2 (.int .i64 y),(hr.frm hf (fun k h1 h2=>by omega)).more hM,?_⟩
 exact ((hd.setNew (p:=⟨E,0,none⟩) hE _).setNew (p:=⟨E,1,none⟩) hE _).setNew (p:=⟨E,2,none⟩) hE _
theorem zdG {R M n c L a p:Nat} {A:Option Addr} {es:List Edg} {w:World}(h:Rd w R M)(hM:M≤900000000)(hs:zK w R A n ⟨a,p,es⟩)(ha:a<64)(hp1:1≤p)(hp:p≤16)(hfew:Few p es)(hn:n≤L)(hL:L≤100000) :
  Calls Tryd.prog 55 #[.pointer (some ⟨R,0,none⟩),.agg #[.int .i64 a,.int .i64 p,.slice A n c]] w (RetG R (M+10) (L+1) w):=by
 have hRl:=h.lt
 have hr0:=hs.at_.2
 have hen:=za hs.1
 have Hfew:=za hfew
 have hsm:Sm a:=by unfold Sm;omega
 have hx1:Ext w (((w.alloc (.cells #[.int .i64 a,.int .i64 p,.slice A n c] 39)).alloc (.cells #[.int .i64 0,.int .i64 0,.slice none 0 0] 39)).alloc (.cells #[.int .i64 a,.int .i64 p,.slice none 0 0] 39)):=(((Ext.refl _).alloc _).alloc _).alloc _
 obtain⟨bS,bZ,bG⟩:=ext_blk3 (Ext.refl (((w.alloc (.cells #[.int .i64 a,.int .i64 p,.slice A n c] 39)).alloc (.cells #[.int .i64 0,.int .i64 0,.slice none 0 0] 39)).alloc (.cells #[.int .i64 a,.int .i64 p,.slice none 0 0] 39)))
 have HbS:=za bS
 have HbZ:=za bZ
 have HbG:=za bG
 have Hx1:=za hx1
 clear bS bZ bG hx1 hs hfew
 go_enter Tryd.func55,Tryd.ntmps55
 go_wp2_with fail
 generalize ((w.alloc (.cells #[.int .i64 a,.int .i64 p,.slice A n c] 39)).alloc (.cells #[.int .i64 0,.int .i64 0,.slice none 0 0] 39)).alloc (.cells #[.int .i64 a,.int .i64 p,.slice none 0 0] 39)=w1 at *
 refine (zg (h.ext Hx1.out) (by omega)).mono ?_
 rintro e w2 ⟨gone,rfl,-,-,hr2,hd2⟩
 have hz1:=HbG.out.lt
 have bS2:=HbS.out.dr hd2 (by omega)
 have bZ2:=HbZ.out.dr hd2 (by omega)
 have bG2:=HbG.out.dr hd2 (by omega)
 have hw2:=Hx1.out.dr.trans hd2
 have cS:∀ W,Dr R w2 W→∀ q,W.cell? ⟨w.heap.size,q,none⟩=#[Value.int .i64 a,.int .i64 p,.slice A n c][q]?:=fun W hW=>(bS2.dr hW (by omega)).cell
 go_upto_region 3 with fail
 go_cut [7] (fun s7 wx=>∃ E x y:Nat,s7=.pointer (some ⟨E,0,none⟩)∧x<p∧y<p∧w2.heap.size≤E∧Blk wx E 116 #[.int .i64 x,.int .i64 0,.int .i64 y]∧Rd wx R (M+3)∧Dr R w2 wx)
 case first =>
  refine tR (fun X=>Dr R w2 X) [10] (Ord.app [0,1,2,4,5,6] (Ord.two 3 (Ord.two 7 (Ord.of [8,9,10]) 9 (Ord.of [7,8,10])) 9 (Ord.of [3,7,8,10]))) ?_
  refine tQ ?_
  refine zbf (fun K hK=>?_) (fun K hK=>?_)
  ·go_simp
   refine (zg (n:=p) (hr2.ext ((Ext.refl _).drew)) (by omega)).mono ?_
   rintro e w3 ⟨x,rfl,hx,_,hr3,hd3⟩
   have hd23:Dr R w2 w3:=((Dr.refl R w2).drew).trans hd3
   refine hK.out _ _ hd23 ?_
   refine pT ?_
   refine zbf (fun K hK=>?_) (fun K hK=>?_)
   ·go_simp
    refine (zg (n:=p) hr3 (by omega)).mono ?_
    rintro e w4 ⟨y,rfl,hy,_,hr4,hd4⟩
    have hd24:=hd23.trans hd4
    refine hK.out _ _ hd24 ?_
    refine pT ?_
    refine tQ ?_
    refine zc fun K hK=>?_;go_simp
    refine hK.out _ _ (hd24.alloc _) ?_
    refine pT ?_
    refine tQ ?_
    refine zi fun K hK=>?_
    go_simp
    refine hK.out _ _ ?_
    refine zr ?_
    go_wp2_with fail
    go_meet
    exact⟨w4.heap.size,x,y,rfl,by omega,by omega,hd24.size,Blk.new _ _ _,hr4.ext ((Ext.refl _).alloc _),hd24.alloc _⟩
   ·go_simp
    have hx3:=(Ext.refl w3).alloc (.cells #[.int .i64 0,.int .i64 0,.int .i64 0] 116)
    have hb3:=Blk.new w3 116 #[.int .i64 0,.int .i64 0,.int .i64 0]
    have hd23':=hd23.ext hx3
    have hr3':=hr3.ext hx3
    have hRw:=hr3.lt
    refine hK.out _ _ hd23' ?_
    generalize w3.alloc (.cells #[.int .i64 0,.int .i64 0,.int .i64 0] 116)=w3' at *
    refine pT ?_
    refine zc fun K hK=>?_;go_simp
    refine (zg (n:=p) hr3' (by omega)).mono ?_
    rintro e w4 ⟨y,rfl,hy,_,hr4,hd4⟩
    have hd24:=hd23'.trans hd4
    have hb4:=hb3.dr hd4 (by omega)
    refine hK.out _ _ hd24 ?_
    refine pT ?_
    refine tQ ?_
    have cE:=hb4.cell
    have fE:=hb4.frozen
    refine zi fun K hK=>?_
    go_simp
    refine hK.out _ _ ?_
    refine zr ?_
    go_wp2_with fail
    go_meet
    exact e_filled hb4 hr4 hd24 hd23.size hr2.lt hx hy hp1 (by omega)
  ·go_simp
   have hx2:=((Ext.refl w2).alloc (.cells #[.int .i64 0,.int .i64 0,.int .i64 0] 116)).drew
   have hb2:Blk (w2.alloc (.cells #[.int .i64 0,.int .i64 0,.int .i64 0] 116)).drew w2.heap.size 116 #[.int .i64 0,.int .i64 0,.int .i64 0]:=Blk.new w2 _ _
   have hr2':=hr2.ext hx2
   have hRw:=hr2.lt
   have hd22:Dr R w2 (w2.alloc (.cells #[.int .i64 0,.int .i64 0,.int .i64 0] 116)).drew:=hx2.dr
   refine hK.out _ _ hd22 ?_
   generalize (w2.alloc (.cells #[.int .i64 0,.int .i64 0,.int .i64 0] 116)).drew=w2' at *
   refine pT ?_
   refine zc fun K hK=>?_;go_simp
   refine (zg (n:=p) hr2' (by omega)).mono ?_
   rintro e w3 ⟨x,rfl,hx,_,hr3,hd3⟩
   have hd23:=hd22.trans hd3
   have hb3:=hb2.dr hd3 (by omega)
   refine hK.out _ _ hd23 ?_
   refine pT ?_
   refine zc fun K hK=>?_;go_simp
   refine (zg (n:=p) hr3 (by omega)).mono ?_
   rintro e w4 ⟨y,rfl,hy,_,hr4,hd4⟩
   have hd24:=hd23.trans hd4
   have hb4:=hb3.dr hd4 (by omega)
   refine hK.out _ _ hd24 ?_
   refine pT ?_
   refine tQ ?_
   have cE:=hb4.cell
   have fE:=hb4.frozen
   refine zi fun K hK=>?_
   go_simp
   refine hK.out _ _ ?_
   refine zr ?_
   go_wp2_with fail
   go_meet
   exact e_filled hb4 hr4 hd24 (Nat.le_refl _) hRw hx hy hp1 (by omega)
 case rest =>
  obtain⟨E,x,y,rfl,hx,hy,hE,hbE,hr3,hd3⟩:=hcut
  have hw3:=hw2.trans hd3
  have bS3:=bS2.dr hd3 (by omega)
  have bZ3:=bZ2.dr hd3 (by omega)
  have bG3:=bG2.dr hd3 (by omega)
  have hz2:=bG2.lt
  clear cS
  have cS:=bS3.cell
  go_wp2_with fail
  refine (zai a hsm _).mono ?_
  rintro e w4 ⟨B,d,rfl,hown4,hx4⟩
  have hw4:=hw3.ext hx4
  have bS4:=bS3.ext hx4
  have bZ4:=bZ3.ext hx4
  have bG4:=bG3.ext hx4
  have bE4:=hbE.ext hx4
  have hr4:=hr3.ext hx4
  have hE3:=hbE.lt
  have hl6:=zn a 6
  have hlm:=za (fun k (hk:k∈letters a 6)=>(zO.1 hk).1)
  have hrd4:=(Reads.of_own hown4)
  have hz23:=hd3.size
  have hz34:=hx4.size
  have hRz:=hr2.lt
  clear cS hown4 hx4 bS3 bZ3 bG3 hbE hr3 hw3 HbS HbZ HbG Hx1 bS2 bZ2 bG2 hw2 hr2
  generalize letters a 6=ls at *
  go_upto_region 5 with fail
  go_cut [9] (fun s9 wx=>∃ b:Bool,s9=.bool b∧(b=true→0<ls.length)∧Rd wx R (M+4)∧Dr R w4 wx)
  case first =>
   by_cases hl:0<ls.length
   ·go_wp2_with fail
    refine (zg hr4 (by omega)).mono ?_
    rintro e w5 ⟨z,rfl,-,-,hr5,hd5⟩
    go_wp2_with fail
    go_meet
    exact⟨_,rfl,fun _=>hl,hr5,hd5⟩
   ·go_wp2_with fail
    go_meet
    exact⟨false,rfl,fun h=>by (first|cases h|omega),hr4.more (by omega),Dr.refl _ _⟩
  case rest =>
   obtain⟨b,rfl,hbl,hr5,hd5⟩:=hcut
   go_upto_if 42 with fail
   go_cut [] (fun wx=>∃ l:Nat,l<6∧Blk wx E 116 #[.int .i64 x,.int .i64 l,.int .i64 y]∧Blk wx w.heap.size 39 #[.int .i64 a,.int .i64 p,.slice A n c]∧Blk wx (w.heap.size+1) 39 #[.int .i64 0,.int .i64 0,.slice none 0 0]∧Blk wx (w.heap.size+1+1) 39 #[.int .i64 a,.int .i64 p,.slice none 0 0]∧Rd wx R (M+5)∧Dr R w wx)
   case first =>
    have bS5:=bS4.dr hd5 (by omega)
    have bZ5:=bZ4.dr hd5 (by omega)
    have bG5:=bG4.dr hd5 (by omega)
    have bE5:=bE4.dr hd5 (by omega)
    have hw5:=hw4.trans hd5
    clear bS4 bZ4 bG4 bE4 hw4 hr4
    cases b
    ·go_wp2_with fail
     go_meet
     exact⟨0,by omega,bE5,bS5,bZ5,bG5,hr5.more (by omega),hw5⟩
    ·have hl0:=hbl rfl
     have hl1:(1:Int)≤(ls.length:Int):=by omega
     clear hbl
     go_wp2_with fail
     refine (zg hr5 (by omega)).mono ?_
     rintro e w6 ⟨z,rfl,hz,-,hr6,hd6⟩
     have hzl:=hz hl1
     have hzl':z<ls.length:=by omega
     obtain⟨ad,l,rfl,_,_,hl,hlc⟩:=((hrd4.dr hd5 (by omega)).dr hd6 (by omega)).nat hzl'
     have hl6':=hlm.out l (List.mem_of_getElem? hl.out)
     have bS6:=bS5.dr hd6 (by omega)
     have bZ6:=bZ5.dr hd6 (by omega)
     have bG6:=bG5.dr hd6 (by omega)
     have bE6:=bE5.dr hd6 (by omega)
     have hw6:=hw5.trans hd6
     have cE:=bE6.cell
     have fE:=bE6.frozen
     have hf:=Frm.setCell w6 E 1 (.int .i64 (l:Nat))
     clear hz bS5 bZ5 bG5 bE5 hw5
     go_wp2_with fail
     go_meet
     exact⟨l,hl6',by simpa using bE6.set_ 1 (.int .i64 (l:Nat)),bS6.frm hf (by omega),bZ6.frm hf (by omega),bG6.frm hf (by omega),(hr6.frm hf (fun k h1 h2=>by omega)),hw6.setNew (by dsimp only;omega) _⟩
   case rest =>
    obtain⟨l,hl,bE,bS,bZ,bG,hrB,hdB⟩:=hcut
    clear bS4 bZ4 bG4 bE4 hw4 hr4 hd5 hr5 hlm hrd4 hl6 hbl
    obtain⟨wB,hwB⟩:∃ wB,wB=wc:=⟨_,rfl⟩
    subst hwB
    have zeq:Acc w wB wB R (w.heap.size+1+1) (M+5) a p (.slice none 0 0) []:=⟨bG,World.ownsRow_nil _ _ _ _,hrB,hdB,Frm.refl _ _,hRl,hdB.size,by omega⟩
    have hEz:=bE.lt
    have hSz:=bG.lt
    clear bG
    go_wp2_with fail
    go_loopw [9,10] (fun v i wr=>∃ (b:Bool) (k:Nat),k≤n∧i=.int .i64 k∧v=.bool b∧∃ (u:Value) (fs:List Edg),Acc w wB wr R (w.heap.size+1+1) (M+5) a p u fs∧fs.length+b.toNat≤k+1∧Hid (Few p fs)) (fun _ i _=>n - (intOf i).toNat)
    case atStart=>exact⟨b,0,Nat.zero_le _,rfl,rfl,_,[],zeq,by cases b<;>decide,zdb p⟩
    case round =>
     clear zeq
     obtain⟨b,k,hk,rfl,rfl,u,fs,zeq,hlen,hfw⟩:=hrel
     have bS1:=bS.frm zeq.fr (by omega)
     have bE1:=bE.frm zeq.fr (by omega)
     have cS:=bS1.cell
     have hxyl:(0≤(x:Int)∧(x:Int)<p)∧(0≤(l:Int)∧(l:Int)<6)∧(0≤(y:Int)∧(y:Int)<p):=by omega
     by_cases hlt:k<n
     ·obtain⟨b0,o0,ed,rfl,hlo,hhi,he,c0,c1,c2⟩:=(hr0.dr zeq.dr (by omega)).edge hlt
      have hedf:=za (Hfew.out ed (List.mem_of_getElem? he.out))
      go_upto_region 11 with fail
      clear cS
      go_cut [67] (fun s wx=>∃ q:Bool,s=.bool q∧(q=true→b=true)∧Ext wr wx)
      case first =>
       have cS:=bS1.cells
       have cE:=bE1.cells
       have C0:∀ W,Ext wr W→W.cell? ⟨b0,o0+k*3,none⟩=some (.int .i64 ed.fr):=fun W hW=>hW.cell_some c0
       have C1:∀ W,Ext wr W→W.cell? ⟨b0,o0+k*3+1,none⟩=some (.int .i64 ed.le):=fun W hW=>hW.cell_some c1
       have C2:∀ W,Ext wr W→W.cell? ⟨b0,o0+k*3+2,none⟩=some (.int .i64 ed.ta):=fun W hW=>hW.cell_some c2
       have hww:=Ext.refl wr
       cases b
       ·go_wp2_with fail
        go_quiet (fail)
        go_wp2_with fail
        go_meet
        exact⟨false,rfl,fun h=>h,(Ext.refl _).drewN _⟩
       ·go_wp2_with fail
        go_region_held3 (fun W=>Ext wr W) (first|assumption|(refine Ext.drew ?_;assumption)|(refine Ext.trans ?_ (by assumption);assumption)|(refine Ext.trans ?_ (by assumption);refine Ext.drew ?_;assumption)) ((go_at_call 92;refine (zbo (a:=⟨x,l,y⟩) (b:=ed)).mono ?_;rintro e w5 ⟨rfl,hx5⟩))
        go_wp2_with fail
        go_meet
        exact⟨_,rfl,fun _=>by trivial,by assumption⟩
      case rest =>
       obtain⟨q,rfl,hq,hxc⟩:=hcut
       replace zeq:=zeq.ext hxc
       replace bE1:=bE1.ext hxc
       go_upto_if 67 with fail
       go_cut [9] (fun s9 wx=>∃ (b:Bool) (u:Value) (fs:List Edg),s9=.bool b∧Acc w wB wx R (w.heap.size+1+1) (M+5) a p u fs∧fs.length+b.toNat≤k+1∧Hid (Few p fs))
       case first =>
        cases q
        ·go_wp2_with fail
         go_meet
         exact⟨b,u,fs,rfl,zeq,hlen,hfw⟩
        ·obtain rfl:=hq rfl
         have cG:=zeq.blk.cell
         have cE:=bE1.cell
         simp only [Bool.toNat_true] at hlen
         clear hq
         go_wp2_with (at_builtin;refine zJ wB _ rfl _ _ _ rfl 116 _ 3 24 Tryd.underlying37 zN rfl (by decide) u fs.length (zd fs) _ _ rfl rfl zeq.fr.size zeq.own rfl (by simp [Value.oneCell']) (by unfold maxLen;omega) (by omega) ?_;intro g cap w3 zev hg3 hat3 hlt3;obtain⟨h1,h2,h3⟩:=zeq.push (e:=⟨x,l,y⟩) zev hg3 hat3;have h1':=h1.out)
         go_meet
         exact⟨false,_,_,rfl,h3,by simp;omega,zaT hfw.out hxyl⟩
       case rest =>
        clear zeq hlen hfw bS1 bE1 c0 c1 c2 hxc hq
        obtain⟨b,u,fs,rfl,zeq,hlen,hfw⟩:=hcut
        obtain⟨wr,hwr⟩:∃ wr,wr=wc:=⟨_,rfl⟩
        subst hwr
        have bS1:=bS.frm zeq.fr (by omega)
        have bE1:=bE.frm zeq.fr (by omega)
        obtain⟨c0,c1,c2⟩:=(hr0.dr zeq.dr (by omega)).edge2 he.out
        go_upto_region 14 with fail
        go_cut [83] (fun s wx=>∃ q:Bool,s=.bool q∧Ext wr wx)
        case first =>
         have cS:=bS1.cells
         have cE:=bE1.cells
         have C0:∀ W,Ext wr W→W.cell? ⟨b0,o0+k*3,none⟩=some (.int .i64 ed.fr):=fun W hW=>hW.cell_some c0
         have C1:∀ W,Ext wr W→W.cell? ⟨b0,o0+k*3+1,none⟩=some (.int .i64 ed.le):=fun W hW=>hW.cell_some c1
         have C2:∀ W,Ext wr W→W.cell? ⟨b0,o0+k*3+2,none⟩=some (.int .i64 ed.ta):=fun W hW=>hW.cell_some c2
         have hww:=Ext.refl wr
         cases b
         ·go_wp2_with fail
          go_quiet (fail)
          go_wp2_with fail
          go_meet
          exact⟨false,rfl,(Ext.refl _).drewN _⟩
         ·go_wp2_with fail
          refine sR (fun X=>Ext wr X) [0,1,2,3,4,5,6,7,8,9] (fun hS=>?_)
          refine sQ ?_
          have HE:=eq_edge (x:Int) (l:Int) (y:Int) ed.fr ed.le ed.ta
          refine seq_read (v:=.bool (((x:Int)==ed.fr)&&(((l:Int)==ed.le)&&((y:Int)==ed.ta)))) rfl rfl rfl (fun X hX=>?_) (by assumption) ?_
          ·go_simp
          ·clear HE
           refine pT ?_
           generalize (((x:Int)==ed.fr)&&(((l:Int)==ed.le)&&((y:Int)==ed.ta)))=q
           refine sQ ?_
           refine zar ?_
           go_wp2_with fail
           go_meet
           exact⟨_,rfl,(Ext.refl _).drew⟩
        case rest =>
         obtain⟨q,rfl,hxc⟩:=hcut
         replace zeq:=zeq.ext hxc
         replace bS1:=bS1.ext hxc
         replace c0:=hxc.cell_some c0
         replace c1:=hxc.cell_some c1
         replace c2:=hxc.cell_some c2
         clear bE1 hxc
         go_upto_if 83 with fail
         go_cut [9] (fun s9 wx=>∃ b':Bool,s9=.bool b'∧b'.toNat≤b.toNat∧wc=wx)
         case first =>
          cases q
          ·go_wp2_with fail
           go_meet
           exact⟨b,rfl,Nat.le_refl _,rfl⟩
          ·go_wp2_with fail
           go_meet
           exact⟨false,rfl,Nat.zero_le _,rfl⟩
         case rest =>
          obtain⟨b',rfl,hbb,hwc⟩:=hcut
          subst hwc
          by_cases hgo:k=gone
          ·have hne:((k:Int) != (gone:Int))=false:=by simp [hgo]
           have Hgo:=za hgo
           clear hgo
           go_wp2_with fail
           go_roundw
           case rel=>exact⟨b',k+1,by omega,by go_num,rfl,u,fs,zeq,by omega,hfw⟩
           case measure=>simp [intOf];omega
          ·have hne:((k:Int) != (gone:Int))=true:=by simp;omega
           clear hgo
           obtain⟨wr,hwr⟩:∃ wr,wr=wc:=⟨_,rfl⟩
           subst hwr
           have cS:=bS1.cells
           have cG:∀ W,Ext wr W→∀ q,W.cell? ⟨w.heap.size+1+1,q,none⟩=#[Value.int .i64 a,.int .i64 p,u][q]?:=fun W hW=>(zeq.blk.ext hW).cell
           have C0:∀ W,Ext wr W→W.cell? ⟨b0,o0+k*3,none⟩=some (.int .i64 ed.fr):=fun W hW=>hW.cell_some c0
           have C1:∀ W,Ext wr W→W.cell? ⟨b0,o0+k*3+1,none⟩=some (.int .i64 ed.le):=fun W hW=>hW.cell_some c1
           have C2:∀ W,Ext wr W→W.cell? ⟨b0,o0+k*3+2,none⟩=some (.int .i64 ed.ta):=fun W hW=>hW.cell_some c2
           go_wp2_with fail
           refine tR (fun X=>Ext wr X) [8,10] (Ord.of [0,1,2,3,4,5,6,7,8,9,10]) ?_
           refine tQ ?_
           refine zc fun K hK=>?_;go_simp
           refine hK.out _ _ ((Ext.refl _).drew.alloc _) ?_
           refine pT ?_
           refine zi fun K hK=>?_
           refine zab wB wr.drew _ _ _ rfl 116 _ 3 24 Tryd.underlying37 zN rfl (by decide) u fs.length (zd fs) _ _ rfl rfl zeq.fr.size zeq.own rfl (by simp [Value.oneCell']) (by unfold maxLen;omega) (by omega) ?_
           intro g cap w3 zev hg3 hat3 hlt3
           refine hK.out _ _ ?_
           refine pT ?_
           refine tQ ?_
           obtain⟨h1,h2,h3⟩:=(zeq.ext ((Ext.refl _).drew)).push (e:=ed) (W':=w3) zev hg3 hat3
           have h1':=h1.out
           refine zi fun K hK=>?_
           go_simp
           refine hK.out _ _ ?_
           refine zr ?_
           go_wp2_with fail
           go_roundw
           case rel=>exact⟨b',k+1,by omega,by go_num,rfl,_,_,h3,by simp;omega,zaT hfw.out hedf.out⟩
           case measure=>simp [intOf];omega
     ·obtain rfl:k=n:=by omega
      go_upto_if 97 with fail
      go_cut [] (fun wx=>∃ (u:Value) (fs:List Edg),Acc w wB wx R (w.heap.size+1+1) (M+5) a p u fs∧fs.length≤k+1∧Hid (Few p fs))
      case first =>
       cases b
       ·go_wp2_with fail
        go_meet
        exact⟨u,fs,zeq,by simpa using hlen,hfw⟩
       ·have cG:=zeq.blk.cell
        have cE:=bE1.cell
        simp only [Bool.toNat_true] at hlen
        go_wp2_with (at_builtin;refine zJ wB _ rfl _ _ _ rfl 116 _ 3 24 Tryd.underlying37 zN rfl (by decide) u fs.length (zd fs) _ _ rfl rfl zeq.fr.size zeq.own rfl (by simp [Value.oneCell']) (by unfold maxLen;omega) (by omega) ?_;intro g cap w3 zev hg3 hat3 hlt3;obtain⟨h1,h2,h3⟩:=zeq.push (e:=⟨x,l,y⟩) zev hg3 hat3;have h1':=h1.out)
        go_meet
        exact⟨_,_,h3,by simp;omega,zaT hfw.out hxyl⟩
      case rest =>
       clear zeq hlen hfw cS bS1 bE1
       obtain⟨u,fs,zeq,hlen,hfw⟩:=hcut
       obtain⟨A',n',c',rfl⟩:=zeq.form
       obtain⟨rfl,_⟩:=zeq.reads
       have hcap:=zbR zeq.own
       have cG:=zeq.blk.cell
       have bz2:=bZ.frm zeq.fr (by omega)
       have cz:=bz2.cell
       have hzz:=bZ.lt
       have fz:=bz2.frozen
       obtain⟨f1,f2,f3⟩:=zeq.fin (Z:=w.heap.size+1) (by omega) (by omega) (.int .i64 a) (.int .i64 p) (.slice A' fs.length c')
       have Hfin:=za (show RetG R (M+10) (L+1) w (.returned (.agg #[.int .i64 a,.int .i64 p,.slice A' fs.length c'])) _ from ⟨⟨a,p,fs⟩,A',fs.length,c',rfl,f1,⟨a,p,rfl,ha,rfl,hp1,hp,hfw.out⟩,by omega,f2.more (by omega),f3⟩)
       clear f1 f2 f3
       go_wp2_with fail
       exact bodyPost_ret (v:=.agg #[.int .i64 a,.int .i64 p,.slice A' fs.length c']) (by simp [results,Tryd.results55,go_sem,cz]) rfl Hfin.out
theorem zaL (es:List Edg):∀ u∈zd es,u.oneCell'=true:=by
 induction es with
 |nil=>intro u h;cases h
 |cons e r ih =>
  intro u h
  simp only [zd,List.mem_cons] at h
  rcases h with rfl|rfl|rfl|h
  ·rfl
  ·rfl
  ·rfl
  ·exact ih u h
theorem zbk {es:List Edg} {k:Nat} {e:Edg}(h:es[k]?=some e) (x:Int) :
  (zd es).set (k*3) (.int .i64 x)=zd (es.set k ⟨x,e.le,e.ta⟩)∧(zd es).set (k*3+1) (.int .i64 x)=zd (es.set k ⟨e.fr,x,e.ta⟩)∧(zd es).set (k*3+2) (.int .i64 x)=zd (es.set k ⟨e.fr,e.le,x⟩):=by
 induction es generalizing k with
 |nil=>simp at h
 |cons a r ih =>
  cases k with
  |zero=>simp at h;subst h;exact⟨rfl,rfl,rfl⟩
  |succ k =>
   have:=ih (k:=k) (by simpa using h)
   have e1:(k+1)*3=k*3+1+1+1:=by omega
   refine⟨?_,?_,?_⟩<;>rw [e1]<;>simp only [zd,List.set_cons_succ]
   ·rw [this.1]
   ·rw [this.2.1]
   ·rw [this.2.2]
section
variable {w0 wB W:World} {R G M:Nat} {al st:Int} {es:List Edg}
theorem Acc.turn {g m c j:Nat} {x:Int} {fs:List Edg}(h:Acc w0 wB W R G M al st (.slice (some ⟨g,0,none⟩) m c) es)(hm:m=es.length)(hs:(zd es).set j (.int .i64 x)=zd fs)(hl:fs.length=es.length) :
  Acc w0 wB (W.setCell ⟨g,j,none⟩ (.int .i64 x)) R G M al st (.slice (some ⟨g,0,none⟩) m c) fs:=by
 have hgG:g≠G:=h.far rfl
 have hg:=(h.own.lt g rfl).1
 have hR:=h.hR
 have hB:=h.hB
 have hf:=Frm.setCell W g j (.int .i64 x)
 refine⟨h.blk.frm hf (by omega),?_,h.rd.frm hf (fun k h1 h2=>by omega),h.dr.setNew (by dsimp only;omega) _,?_,h.hR,h.hB,h.hG⟩
 ·have ho:=h.own
  rw [← hm] at ho
  have:=(ho.stored j (.int .i64 x)).1
  rw [hs] at this
  rw [hl,← hm]
  exact this
 ·exact⟨h.fr.os,h.fr.tape,h.fr.output,by simpa [World.setCell] using h.fr.size,fun k hk hn=>(Below.heap_setCell _ _ _ _ (by dsimp only;omega)).trans (h.fr.block k hk hn)⟩
end
theorem wrong_acc {R M G:Nat} {al st:Int} {es:List Edg} {w w1 W:World} {v:Value}(hr:Rd w R M)(hx:Ext w w1)(hR:R<w.heap.size)(hxW:Ext w1 W) (zep:W.ownsRow w1.heap.size 116 3 v es.length (zd es))(hG:w1.heap.size≤G)(hB:Blk W G 39 #[.int .i64 al,.int .i64 st,v]) :
  Acc w w1 W R G M al st v es:=
 ⟨hB,zep,hr.ext (hx.trans hxW),(hx.trans hxW).dr,hxW.toFrm,hR,hx.size,Nat.le_trans hx.size hG⟩
theorem edge_lit (w:World):(w.alloc (.cells #[] 116)).drew.ownsRow w.heap.size 116 3 (.slice (some ⟨w.heap.size,0,none⟩) 0 0) 0 []:=
 World.ownsRow_lit w #[] 0 (Nat.le_refl _) (by unfold maxLen;omega) rfl
theorem zdY {W:World} {base n:Nat} {v:Value} {es:List Edg}(hn:n=es.length)(h:W.ownsRow base 116 3 v n (zd es)):W.ownsRow base 116 3 v es.length (zd es):=by
 subst hn
 exact h
theorem zcL {R M G:Nat} {al st:Int} {es:List Edg} {w w1 W:World} {v:Value}(hr:Rd w R M)(hx:Ext w w1)(hR:R<w.heap.size)(hxW:Ext w1 W) (zep:W.ownsRow w1.heap.size 116 3 v es.length (zd es))(hB:Blk W G 39 #[.int .i64 0,.int .i64 0,.slice none 0 0])(hG:w1.heap.size≤G) :
  ∃ (G':Nat) (v':Value),Value.pointer (some ⟨G,0,none⟩)=.pointer (some ⟨G',0,none⟩)∧w1.heap.size≤G'∧Acc w w1 (((W.setCell ⟨G,0,none⟩ (.int .i64 al)).setCell ⟨G,1,none⟩ (.int .i64 st)).setCell ⟨G,2,none⟩ v) R G' M al st v' es:=by
 have hf:=zaj W G (.int .i64 al) (.int .i64 st) v
 have hne:∀ b,v.ownBlock=some b→b≠G:=by
  rintro b hv rfl
  rcases zep.2 with ⟨rfl,_⟩|⟨g,cap,cur,rfl,_,hh,_⟩
  ·simp [Value.ownBlock] at hv
  ·have hg:g=b:=by simpa [Value.ownBlock] using hv
   subst hg
   unfold Blk at hB
   rw [hh] at hB
   injection hB with hB
   injection hB with _ ht
   exact absurd ht (by decide)
 refine⟨G,v,rfl,hG,wrong_acc hr hx hR ?_ (zj zep hf (fun b hv hS=>hne b hv hS)) hG (by simpa using ((hB.set_ 0 (.int .i64 al)).set_ 1 (.int .i64 st)).set_ 2 v)⟩
 exact ((hxW.setCell (p:=⟨G,0,none⟩) hG _).setCell (p:=⟨G,1,none⟩) hG _).setCell (p:=⟨G,2,none⟩) hG _
theorem zcR {w0 wB W:World} {R G M:Nat} {al st:Int} {A:Option Addr} {n c:Nat} {es:List Edg}(h:Acc w0 wB W R G M al st (.slice A n c) es)(hn:0<n):∃ g,A=some ⟨g,0,none⟩:=by
 rcases h.own.2 with ⟨hv,h0⟩|⟨g,cap,cur,hv,_⟩
 ·injection hv with _ h2 _;omega
 ·injection hv with h1
  exact⟨g,h1⟩
theorem yV04a2 {P:Prop}(h:P:=by
 have h1':=h1.out
 refine zi fun K hK=>?_
 go_simp
 refine hK.out _ _ ?_
 refine zr ?_
 go_wp2_with fail
 go_meet
 exact⟨_,_,_,_,h3.more (by omega),by have:=HnL.out;simp;omega⟩
 ):P:=h
theorem yV04a3 {P:Prop}(h:P:=by
 refine zi fun K hK=>?_
 go_simp
 refine hK.out _ _ ?_
 refine zr ?_
 go_wp2_with fail
 go_meet
 exact⟨_,_,_,_,hst.more (by omega),by have:=HnL.out;simp;omega⟩
 ):P:=h
theorem zU {R M n c L:Nat} {A:Option Addr} {s:Sys} {w:World}(h:Rd w R M)(hM:M≤900000000)(hs:zK w R A n s)(hn:n≤L)(hL:L≤100000) :
  Calls Tryd.prog 58 #[.pointer (some ⟨R,0,none⟩),.agg #[.int .i64 s.al,.int .i64 s.st,.slice A n c]] w (RetA R (M+10) (L+1) w):=by
 have hRl:=h.lt
 have hr0:=hs.at_.2
 have hen:=za hs.1
 obtain⟨al,st,es⟩:=s
 simp only at hr0 hen ⊢
 have hx1:Ext w ((w.alloc (.cells #[.int .i64 al,.int .i64 st,.slice A n c] 39)).alloc (.cells #[.int .i64 0,.int .i64 0,.slice none 0 0] 39)):=((Ext.refl _).alloc _).alloc _
 obtain⟨bS,bZ⟩:=zv (Ext.refl ((w.alloc (.cells #[.int .i64 al,.int .i64 st,.slice A n c] 39)).alloc (.cells #[.int .i64 0,.int .i64 0,.slice none 0 0] 39)))
 have hsz:((w.alloc (.cells #[.int .i64 al,.int .i64 st,.slice A n c] 39)).alloc (.cells #[.int .i64 0,.int .i64 0,.slice none 0 0] 39)).heap.size=w.heap.size+2:=by simp
 have HbS:=za bS
 have HbZ:=za bZ
 have Hx1:=za hx1
 have Hsz:=za hsz
 clear bS bZ hx1 hsz hs
 go_enter Tryd.func58,Tryd.ntmps58
 go_wp2_with fail
 generalize (w.alloc (.cells #[.int .i64 al,.int .i64 st,.slice A n c] 39)).alloc (.cells #[.int .i64 0,.int .i64 0,.slice none 0 0] 39)=w1 at *
 have hz1:w.heap.size+2≤w1.heap.size:=by rw [Hsz.out];exact Nat.le_refl _
 go_upto_region 1 with fail
 go_cut [5] (fun s5 wx=>∃ (G:Nat) (v:Value),s5=.pointer (some ⟨G,0,none⟩)∧w1.heap.size≤G∧Acc w w1 wx R G M al st v es)
 case first =>
  have cS:∀ W,Ext w1 W→∀ q,W.cell? ⟨w.heap.size,q,none⟩=#[Value.int .i64 al,.int .i64 st,.slice A n c][q]?:=fun W hW=>(HbS.out.ext hW).cell
  refine tR (fun X=>Ext w1 X) [10] (Ord.app [0,1,2,3,5,6] (Ord.two 4 (Ord.two 7 (Ord.of [8,9,10]) 9 (Ord.of [7,8,10])) 9 (Ord.of [4,7,8,10]))) ?_
  refine tQ ?_
  refine zbf (fun K hK=>?_) (fun K hK=>?_)
  ·go_simp
   have hx2:Ext w1 (w1.alloc (.cells #[] 116)).drew:=((Ext.refl w1).alloc _).drew
   have zep:(w1.alloc (.cells #[] 116)).drew.ownsRow w1.heap.size 116 3 (.slice (some ⟨w1.heap.size,0,none⟩) 0 0) 0 []:=edge_lit w1
   have hz2:(w1.alloc (.cells #[] 116)).drew.heap.size=w1.heap.size+1:=by simp
   refine hK.out _ _ hx2 ?_
   refine pT ?_
   generalize (w1.alloc (.cells #[] 116)).drew=w2 at *
   refine zbf (fun K hK=>?_) (fun K hK=>?_)
   ·refine zaR _ _ _ _ rfl w1.heap.size 116 _ 3 24 Tryd.underlying37 zN rfl (by decide) (.slice (some ⟨w1.heap.size,0,none⟩) 0 0) 0 [] rfl zep (R+1) w.heap.size A n c (zd es) rfl (hr0.ext (Hx1.out.trans hx2)) (zaL es) (by unfold maxLen;omega) (by omega) hx2.size ?_
    intro v w3 zev hg3 hat3
    rw [Nat.zero_add,List.nil_append] at zev
    obtain⟨A3,c3,rfl⟩:=zl zev
    have hx3:Ext w1 w3:=hx2.grown hg3 (fun k hk=>by simp [Value.ownBlock] at hk;omega)
    refine hK.out _ _ hx3 ?_
    refine pT ?_
    refine tQ ?_
    refine zc fun K hK=>?_;go_simp
    refine hK.out _ _ (hx3.alloc _) ?_
    refine pT ?_
    refine tQ ?_
    refine zi fun K hK=>?_
    go_simp
    refine hK.out _ _ ?_
    refine zr ?_
    go_wp2_with fail
    go_meet
    exact⟨w3.heap.size,.slice A3 n c3,rfl,hx3.size,wrong_acc h Hx1.out hRl (hx3.alloc _) (zm (zdY hen.out zev) ((Ext.refl _).alloc _)) hx3.size (Blk.new _ _ _)⟩
   ·go_simp
    have hx3:=hx2.alloc (.cells #[.int .i64 0,.int .i64 0,.slice none 0 0] 39)
    have hx23:=(Ext.refl w2).alloc (.cells #[.int .i64 0,.int .i64 0,.slice none 0 0] 39)
    have hb3:=Blk.new w2 39 #[.int .i64 0,.int .i64 0,.slice none 0 0]
    replace zep:=zm zep hx23
    refine hK.out _ _ hx3 ?_
    generalize w2.alloc (.cells #[.int .i64 0,.int .i64 0,.slice none 0 0] 39)=w2' at *
    rw [hz2] at hb3
    have hx2:=hx3
    refine pT ?_
    refine zc (fun K hK=>?_)
    refine zaR _ _ _ _ rfl w1.heap.size 116 _ 3 24 Tryd.underlying37 zN rfl (by decide) (.slice (some ⟨w1.heap.size,0,none⟩) 0 0) 0 [] rfl zep (R+1) w.heap.size A n c (zd es) rfl (hr0.ext (Hx1.out.trans hx2)) (zaL es) (by unfold maxLen;omega) (by omega) hx2.size ?_
    intro v w3 zev hg3 hat3
    rw [Nat.zero_add,List.nil_append] at zev
    obtain⟨A3,c3,rfl⟩:=zl zev
    have hx3:Ext w1 w3:=hx2.grown hg3 (fun k hk=>by simp [Value.ownBlock] at hk;omega)
    have hb4:Blk w3 (w1.heap.size+1) 39 #[.int .i64 0,.int .i64 0,.slice none 0 0]:=hb3.frm (Frm.of_grown hg3) (by simp [Value.ownBlock])
    refine hK.out _ _ hx3 ?_
    refine pT ?_
    refine tQ ?_
    have cE:=hb4.cell
    have fE:=hb4.frozen
    refine zi fun K hK=>?_
    go_simp
    refine hK.out _ _ ?_
    refine zr ?_
    go_wp2_with fail
    go_meet
    exact zcL h Hx1.out hRl hx3 (zdY hen.out zev) hb4 (by omega)
  ·go_simp
   have hx2:Ext w1 (w1.alloc (.cells #[.int .i64 0,.int .i64 0,.slice none 0 0] 39)).drew:=((Ext.refl w1).alloc _).drew
   have hb2:Blk (w1.alloc (.cells #[.int .i64 0,.int .i64 0,.slice none 0 0] 39)).drew w1.heap.size 39 #[.int .i64 0,.int .i64 0,.slice none 0 0]:=Blk.new w1 _ _
   have hz2:(w1.alloc (.cells #[.int .i64 0,.int .i64 0,.slice none 0 0] 39)).drew.heap.size=w1.heap.size+1:=by simp
   refine hK.out _ _ hx2 ?_
   refine pT ?_
   generalize (w1.alloc (.cells #[.int .i64 0,.int .i64 0,.slice none 0 0] 39)).drew=w2 at *
   refine zc fun K hK=>?_;go_simp
   have hx3:=hx2.alloc (.cells #[] 116)
   have zep:(w2.alloc (.cells #[] 116)).ownsRow w1.heap.size 116 3 (.slice (some ⟨w1.heap.size+1,0,none⟩) 0 0) 0 []:=by
    rw [← hz2]
    exact World.ownsRow_lit w2 #[] 0 hx2.size (by unfold maxLen;omega) rfl
   have hb3:=hb2.ext ((Ext.refl w2).alloc (.cells #[] 116))
   refine hK.out _ _ hx3 ?_
   generalize w2.alloc (.cells #[] 116)=w3 at *
   refine pT ?_
   refine zc (fun K hK=>?_)
   refine zaR _ _ _ _ rfl w1.heap.size 116 _ 3 24 Tryd.underlying37 zN rfl (by decide) (.slice (some ⟨w1.heap.size+1,0,none⟩) 0 0) 0 [] rfl zep (R+1) w.heap.size A n c (zd es) rfl (hr0.ext (Hx1.out.trans hx3)) (zaL es) (by unfold maxLen;omega) (by omega) hx3.size ?_
   intro v w4 hown4 hg4 hat4
   rw [Nat.zero_add,List.nil_append] at hown4
   obtain⟨A4,c4,rfl⟩:=zl hown4
   have hx4:Ext w1 w4:=hx3.grown hg4 (fun k hk=>by simp [Value.ownBlock] at hk;omega)
   have hb4:Blk w4 w1.heap.size 39 #[.int .i64 0,.int .i64 0,.slice none 0 0]:=hb3.frm (Frm.of_grown hg4) (by simp [Value.ownBlock])
   refine hK.out _ _ hx4 ?_
   refine pT ?_
   refine tQ ?_
   have cE:=hb4.cell
   have fE:=hb4.frozen
   refine zi fun K hK=>?_
   go_simp
   refine hK.out _ _ ?_
   refine zr ?_
   go_wp2_with fail
   go_meet
   exact zcL h Hx1.out hRl hx4 (zdY hen.out hown4) hb4 (Nat.le_refl _)
 case rest =>
  obtain⟨G,v,rfl,hGw,zeq⟩:=hcut
  obtain⟨A1,n1,c1,rfl⟩:=zeq.form
  obtain⟨rfl,hsa⟩:=zeq.reads
  have hGz:=zeq.hG
  have cG:=zeq.blk.cell
  have hln:=hsa.2.len
  clear hsa
  have hnL:es.length≤L:=by have:=hen.out;omega
  have HnL:=za hnL
  go_wp2_with fail
  refine (zg (n:=es.length) zeq.rd (by omega)).mono ?_
  rintro e w3 ⟨k,rfl,hk1,hk0,hr3,hd3⟩
  replace zeq:=zeq.drawn hd3 hr3
  clear hd3 hr3 cG
  have Hk:=za hk1
  clear hk1 hk0
  go_wp2_with fail
  refine (zg (n:=30) zeq.rd (by omega)).mono ?_
  rintro e w4 ⟨y,rfl,-,-,hr4,hd4⟩
  replace zeq:=zeq.drawn hd4 hr4
  clear hd4 hr4
  go_upto_block 0 with fail
  go_cut [] (fun wx=>∃ (al st:Int) (v:Value) (fs:List Edg),Acc w w1 wx R G (M+10) al st v fs∧fs.length≤L+1)
  case first =>
   have Hen:=za hln
   clear hln
   have hcases:y=0∨y=1∨y=2∨y=3∨y=4∨y=5∨y=6∨7≤y:=by omega
   rcases hcases with hy|hy|hy|hy|hy|hy|hy|hy
   ·subst hy
    have hy0:True:=trivial
    go_wp2_with fail
    refine (zae [64,(-1),1,63] 4 #[.int .i64 64,.int .i64 (-1),.int .i64 1,.int .i64 63] rfl rfl (by omega) (by omega) zeq.rd (by omega)).mono ?_
    rintro e w5 ⟨x,-,rfl,hr5,hd5⟩
    replace zeq:=(zeq.ext ((Ext.refl _).alloc _)).drawn hd5 hr5
    have cG:=zeq.blk.cell
    have fG:=zeq.blk.frozen
    go_wp2_with fail
    go_meet
    exact⟨_,_,_,es,(zeq.setAl x).more (by omega),by have:=HnL.out;omega⟩
   ·subst hy
    have hy0:True:=trivial
    go_wp2_with fail
    refine (zae [0,17,(-1),16,1] 5 #[.int .i64 0,.int .i64 17,.int .i64 (-1),.int .i64 16,.int .i64 1] rfl rfl (by omega) (by omega) zeq.rd (by omega)).mono ?_
    rintro e w5 ⟨x,-,rfl,hr5,hd5⟩
    replace zeq:=(zeq.ext ((Ext.refl _).alloc _)).drawn hd5 hr5
    have cG:=zeq.blk.cell
    have fG:=zeq.blk.frozen
    go_wp2_with fail
    go_meet
    exact⟨_,_,_,es,(zeq.setSt x).more (by omega),by have:=HnL.out;omega⟩
   ·subst hy
    by_cases hn0:0<es.length
    ·have hk:=Hk.out (by omega)
     have hkl:k<es.length:=by omega
     obtain⟨g,rfl⟩:=zcR zeq hn0
     have hne0:es.length≠0:=by omega
     have hG1:R<w1.heap.size:=by have:=zeq.hR;have:=zeq.hB;omega
     have cG:∀ W,Dr R w4 W→∀ q,W.cell? ⟨G,q,none⟩=#[Value.int .i64 al,.int .i64 st,.slice (some ⟨g,0,none⟩) es.length c1][q]?:=fun W hW=>(zeq.blk.dr hW (by have:=zeq.hG;omega)).cell
     clear hk hne0
     go_wp2_with fail
     refine tR (fun X=>Dr R w4 X) [8] (Ord.of [0,1,2,3,4,5,6,7,8]) ?_
     refine tQ ?_
     refine zc fun K hK=>?_;go_simp
     refine hK.out _ _ ((Dr.refl R w4).drew.alloc _) ?_
     refine pT ?_
     refine tQ ?_
     refine zc fun K hK=>?_;go_simp
     refine (zae (w:=w4.drew) [(-1),16,0,2] 4 #[.int .i64 (-1),.int .i64 16,.int .i64 0,.int .i64 2] rfl rfl (by omega) (by omega) (zeq.rd.ext (Ext.refl _).drew) (by omega)).mono ?_
     rintro e w5 ⟨x,-,rfl,hr5,hd5⟩
     have hd45:Dr R w4 w5:=((Dr.refl R w4).drew.alloc _).trans hd5
     have hacc5:=zeq.drawn hd45 hr5
     refine hK.out _ _ hd45 ?_
     refine pT ?_
     refine tQ ?_
     have zep:=hacc5.own
     obtain⟨o0,c0⟩:=zav zep (k*3) (by omega)
     have f0:=zep.frozenAt (k*3)
     have hst:=hacc5.turn rfl (zbk (List.getElem?_eq_getElem hkl) x).1 (by simp)
     exact yV04a3
    ·have hn1:es.length=0:=by omega
     clear hn0
     go_wp2_with fail
     go_meet
     exact⟨_,_,_,es,zeq.more (by omega),by have:=HnL.out;omega⟩
   ·subst hy
    by_cases hn0:0<es.length
    ·have hk:=Hk.out (by omega)
     have hkl:k<es.length:=by omega
     obtain⟨g,rfl⟩:=zcR zeq hn0
     have hne0:es.length≠0:=by omega
     have hG1:R<w1.heap.size:=by have:=zeq.hR;have:=zeq.hB;omega
     have cG:∀ W,Dr R w4 W→∀ q,W.cell? ⟨G,q,none⟩=#[Value.int .i64 al,.int .i64 st,.slice (some ⟨g,0,none⟩) es.length c1][q]?:=fun W hW=>(zeq.blk.dr hW (by have:=zeq.hG;omega)).cell
     clear hk hne0
     go_wp2_with fail
     refine tR (fun X=>Dr R w4 X) [8] (Ord.of [0,1,2,3,4,5,6,7,8]) ?_
     refine tQ ?_
     refine zc fun K hK=>?_;go_simp
     refine hK.out _ _ ((Dr.refl R w4).drew.alloc _) ?_
     refine pT ?_
     refine tQ ?_
     refine zc fun K hK=>?_;go_simp
     refine (zae (w:=w4.drew) [(-1),16,0,3] 4 #[.int .i64 (-1),.int .i64 16,.int .i64 0,.int .i64 3] rfl rfl (by omega) (by omega) (zeq.rd.ext (Ext.refl _).drew) (by omega)).mono ?_
     rintro e w5 ⟨x,-,rfl,hr5,hd5⟩
     have hd45:Dr R w4 w5:=((Dr.refl R w4).drew.alloc _).trans hd5
     have hacc5:=zeq.drawn hd45 hr5
     refine hK.out _ _ hd45 ?_
     refine pT ?_
     refine tQ ?_
     have zep:=hacc5.own
     obtain⟨o0,c0⟩:=zav zep (k*3+2) (by omega)
     have f0:=zep.frozenAt (k*3+2)
     have hst:=hacc5.turn rfl (zbk (List.getElem?_eq_getElem hkl) x).2.2 (by simp)
     exact yV04a3
    ·have hn1:es.length=0:=by omega
     clear hn0
     go_wp2_with fail
     go_meet
     exact⟨_,_,_,es,zeq.more (by omega),by have:=HnL.out;omega⟩
   ·subst hy
    by_cases hn0:0<es.length
    ·have hk:=Hk.out (by omega)
     have hkl:k<es.length:=by omega
     obtain⟨g,rfl⟩:=zcR zeq hn0
     have hne0:es.length≠0:=by omega
     have hG1:R<w1.heap.size:=by have:=zeq.hR;have:=zeq.hB;omega
     have cG:∀ W,Dr R w4 W→∀ q,W.cell? ⟨G,q,none⟩=#[Value.int .i64 al,.int .i64 st,.slice (some ⟨g,0,none⟩) es.length c1][q]?:=fun W hW=>(zeq.blk.dr hW (by have:=zeq.hG;omega)).cell
     clear hk hne0
     go_wp2_with fail
     refine tR (fun X=>Dr R w4 X) [8] (Ord.of [0,1,2,3,4,5,6,7,8]) ?_
     refine tQ ?_
     refine zc fun K hK=>?_;go_simp
     refine hK.out _ _ ((Dr.refl R w4).drew.alloc _) ?_
     refine pT ?_
     refine tQ ?_
     refine zc fun K hK=>?_;go_simp
     refine (zae (w:=w4.drew) [(-1),6,70,5,0] 5 #[.int .i64 (-1),.int .i64 6,.int .i64 70,.int .i64 5,.int .i64 0] rfl rfl (by omega) (by omega) (zeq.rd.ext (Ext.refl _).drew) (by omega)).mono ?_
     rintro e w5 ⟨x,-,rfl,hr5,hd5⟩
     have hd45:Dr R w4 w5:=((Dr.refl R w4).drew.alloc _).trans hd5
     have hacc5:=zeq.drawn hd45 hr5
     refine hK.out _ _ hd45 ?_
     refine pT ?_
     refine tQ ?_
     have zep:=hacc5.own
     obtain⟨o0,c0⟩:=zav zep (k*3+1) (by omega)
     have f0:=zep.frozenAt (k*3+1)
     have hst:=hacc5.turn rfl (zbk (List.getElem?_eq_getElem hkl) x).2.1 (by simp)
     exact yV04a3
    ·have hn1:es.length=0:=by omega
     clear hn0
     go_wp2_with fail
     go_meet
     exact⟨_,_,_,es,zeq.more (by omega),by have:=HnL.out;omega⟩
   ·subst hy
    by_cases hn0:0<es.length
    ·have hk:=Hk.out (by omega)
     have hkl:k<es.length:=by omega
     obtain⟨g,rfl⟩:=zcR zeq hn0
     have hne0:es.length≠0:=by omega
     have zep:=zeq.own
     have hE:=za (List.getElem?_eq_getElem hkl)
     obtain⟨ed,hed⟩:∃ ed,Hid (es[k]?=some ed):=⟨_,hE.out⟩
     obtain⟨d0,d1,d2⟩:=zaK hed.out
     have cG:∀ W,Ext w4 W→∀ q,W.cell? ⟨G,q,none⟩=#[Value.int .i64 al,.int .i64 st,.slice (some ⟨g,0,none⟩) es.length c1][q]?:=fun W hW=>(zeq.blk.ext hW).cell
     have C0:∀ W,Ext w4 W→W.cell? ⟨g,k*3,none⟩=some (.int .i64 ed.fr):=fun W hW=>hW.cell_some (by rw [zep.cellAt _ (by omega)];exact d0)
     have C1:∀ W,Ext w4 W→W.cell? ⟨g,k*3+1,none⟩=some (.int .i64 ed.le):=fun W hW=>hW.cell_some (by rw [zep.cellAt _ (by omega)];exact d1)
     have C2:∀ W,Ext w4 W→W.cell? ⟨g,k*3+2,none⟩=some (.int .i64 ed.ta):=fun W hW=>hW.cell_some (by rw [zep.cellAt _ (by omega)];exact d2)
     clear hk hne0 d0 d1 d2
     go_wp2_with fail
     refine tR (fun X=>Ext w4 X) [8,10] (Ord.of [0,1,2,3,4,5,6,7,8,9,10]) ?_
     refine tQ ?_
     refine zc fun K hK=>?_;go_simp
     refine hK.out _ _ ((Ext.refl _).drew.alloc _) ?_
     refine pT ?_
     refine zi fun K hK=>?_
     refine zab w1 w4.drew _ _ _ rfl 116 _ 3 24 Tryd.underlying37 zN rfl (by decide) (.slice (some ⟨g,0,none⟩) es.length c1) es.length (zd es) _ _ rfl rfl zeq.fr.size zep rfl (by simp [Value.oneCell']) (by unfold maxLen;omega) (by omega) ?_
     intro g5 cap5 w5 zew hg5 hat5 hlt5
     refine hK.out _ _ ?_
     refine pT ?_
     refine tQ ?_
     obtain⟨h1,h2,h3⟩:=(zeq.ext ((Ext.refl _).drew)).push (e:=ed) (W':=w5) zew hg5 hat5
     exact yV04a2
    ·have hn1:es.length=0:=by omega
     clear hn0
     go_wp2_with fail
     go_meet
     exact⟨_,_,_,es,zeq.more (by omega),by have:=HnL.out;omega⟩
   ·subst hy
    have hG1:R<w1.heap.size:=by have:=zeq.hR;have:=zeq.hB;omega
    have cG:∀ W,Dr R w4 W→∀ q,W.cell? ⟨G,q,none⟩=#[Value.int .i64 al,.int .i64 st,.slice A1 es.length c1][q]?:=fun W hW=>(zeq.blk.dr hW (by have:=zeq.hG;omega)).cell
    go_wp2_with fail
    refine tR (fun X=>Dr R w4 X) [10,12] (Ord.of [0,1,2,4,6,3,5,7,8,9,10,11,12]) ?_
    refine tQ ?_
    refine zc fun K hK=>?_;go_simp
    refine (zg (n:=4) (zeq.rd.ext (Ext.refl _).drew) (by omega)).mono ?_
    rintro e w5 ⟨x,rfl,-,-,hr5,hd5⟩
    replace hd5:=((Dr.refl R w4).drew).trans hd5
    refine hK.out _ _ hd5 ?_
    refine pT ?_
    refine tQ ?_
    refine zc fun K hK=>?_;go_simp
    refine (zg (n:=3) hr5 (by omega)).mono ?_
    rintro e w6 ⟨z,rfl,-,-,hr6,hd6⟩
    replace hd6:=hd5.trans hd6
    refine hK.out _ _ hd6 ?_
    refine pT ?_
    refine tQ ?_
    refine zc fun K hK=>?_;go_simp
    refine (zg (n:=4) hr6 (by omega)).mono ?_
    rintro e w7 ⟨u,rfl,-,-,hr7,hd7⟩
    replace hd7:=hd6.trans hd7
    refine hK.out _ _ hd7 ?_
    have hacc7:=zeq.drawn hd7 hr7
    refine pT ?_
    refine tQ ?_
    refine zc fun K hK=>?_;go_simp
    refine hK.out _ _ (hd7.alloc _) ?_
    refine pT ?_
    refine zi fun K hK=>?_
    refine zab w1 w7 _ _ _ rfl 116 _ 3 24 Tryd.underlying37 zN rfl (by decide) (.slice A1 es.length c1) es.length (zd es) _ _ rfl rfl hacc7.fr.size hacc7.own rfl (by simp [Value.oneCell']) (by unfold maxLen;have:=HnL.out;omega) (by have:=HnL.out;omega) ?_
    intro g8 cap8 w8 hown8 hg8 hat8 hlt8
    refine hK.out _ _ ?_
    refine pT ?_
    refine tQ ?_
    obtain⟨h1,h2,h3⟩:=hacc7.push (e:=⟨x,z,u⟩) (W':=w8) hown8 hg8 hat8
    exact yV04a2
   ·have h0:((y:Int)==0)=false:=by simp;omega
    have h1:((y:Int)==1)=false:=by simp;omega
    have h2:((y:Int)==2)=false:=by simp;omega
    have h3:((y:Int)==3)=false:=by simp;omega
    have h4:((y:Int)==4)=false:=by simp;omega
    have h5:((y:Int)==5)=false:=by simp;omega
    have h6:((y:Int)==6)=false:=by simp;omega
    clear hy
    go_wp2_with fail
    go_meet
    exact⟨_,_,_,es,zeq.more (by omega),by have:=HnL.out;omega⟩
  case rest =>
   clear zeq
   obtain⟨al',st',v',fs,zeq,hlen⟩:=hcut
   obtain⟨A',n',c',rfl⟩:=zeq.form
   obtain⟨rfl,_⟩:=zeq.reads
   have cG:=zeq.blk.cell
   have bz2:=HbZ.out.frm zeq.fr (by omega)
   have cz:=bz2.cell
   have hzz:=HbZ.out.lt
   have fz:=bz2.frozen
   obtain⟨f1,f2,f3⟩:=zeq.fin (Z:=w.heap.size+1) (by omega) (by omega) (.int .i64 al') (.int .i64 st') (.slice A' fs.length c')
   have Hfin:=za (show RetA R (M+10) (L+1) w (.returned (.agg #[.int .i64 al',.int .i64 st',.slice A' fs.length c'])) _ from ⟨⟨al',st',fs⟩,A',fs.length,c',rfl,f1,⟨hlen,zbR zeq.own⟩,f2,f3⟩)
   clear f1 f2 f3
   go_wp2_with fail
   exact bodyPost_ret (v:=.agg #[.int .i64 al',.int .i64 st',.slice A' fs.length c']) (by simp [results,Tryd.results58,go_sem,cz]) rfl Hfin.out
def lenAt (W:World) (G:Nat):Nat:=match W.cell? ⟨G,1,none⟩ with|some (.slice _ n _)=>n|_=>0
theorem zax.lenAt {w0 W:World} {R G M n c:Nat} {A:Option Addr} {al:Int} {vA:Value} {rows:List Value} {ls:List (List Int)} {acc:List Bool}(h:zax w0 W R G M al (.slice A n c) rows ls vA acc):Go.Proofs.YtfcjhpodichpjaaDoor.lenAt W G=n:=by
 unfold Go.Proofs.YtfcjhpodichpjaaDoor.lenAt
 rw [h.blk.cell 1]
 rfl
theorem yV04a4 {P:Prop}(h:P:=by
 have hn1:m=0:=by omega
 clear hn0
 have cG:=zeq.blk.cell
 go_wp2_with fail
 go_meet
 exact⟨_,_,_,_,_,_,zeq.more (by omega),za (Hb.out.more (by omega))⟩
 ):P:=h
theorem zby {R M L:Nat} {A:Option Addr} {n c:Nat} {A':Option Addr} {n' c':Nat} {b:Aut} {w:World}(h:Rd w R M)(hM:M≤900000000)(ho:zX w (R+1) A n c A' n' c' b)(hb:BdA L b)(hL:L≤100) :
  Calls Tryd.prog 59 #[.pointer (some ⟨R,0,none⟩),.agg #[.int .i64 b.al,.slice A n c,.slice A' n' c']] w (zcb R (M+10) (BdA (L+13)) w):=by
 have hRl:=h.lt
 have hsz:=hb.size (by omega)
 go_enter Tryd.func59,Tryd.ntmps59
 have hx0:=(Ext.refl w).alloc (.cells #[.int .i64 b.al,.slice A n c,.slice A' n' c'] 30)
 have b0:=Blk.new w 30 #[.int .i64 b.al,.slice A n c,.slice A' n' c']
 have hs0:(w.alloc (.cells #[.int .i64 b.al,.slice A n c,.slice A' n' c'] 30)).heap.size=w.heap.size+1:=by simp
 have hx1:=hx0.alloc (.cells #[.int .i64 0,.slice none 0 0,.slice none 0 0] 30)
 have bz:=Blk.new (w.alloc (.cells #[.int .i64 b.al,.slice A n c,.slice A' n' c'] 30)) 30 #[.int .i64 0,.slice none 0 0,.slice none 0 0]
 replace b0:=b0.ext ((Ext.refl _).alloc (.cells #[.int .i64 0,.slice none 0 0,.slice none 0 0] 30))
 rw [hs0] at bz
 have c0:=b0.cell
 go_upto_region 1 with fail
 generalize (w.alloc (.cells #[.int .i64 b.al,.slice A n c,.slice A' n' c'] 30)).alloc (.cells #[.int .i64 0,.slice none 0 0,.slice none 0 0] 30)=w1 at *
 have hz1:=bz.lt
 go_wp2_with fail
 refine (zdp (ho.ext hx1).reads hsz).mono ?_
 rintro e w2 ⟨B,m,d,B',m',d',rfl,zep,hx2⟩
 obtain⟨rows,zeq⟩:=zax.of (R:=R) (M:=M) zep (h.ext (hx1.trans hx2)) hx2.dr (by omega)
 have hG:=hx2.size
 have hm:m=b.next.length:=zep.2.1
 have hmL:m≤100:=by have:=hb.1;omega
 have Hm:=za hm
 have Hb:=za hb
 clear zep ho hm hb hsz
 go_upto_region 2 with fail
 generalize w2.alloc (.cells #[.int .i64 b.al,.slice B m d,.slice B' m' d'] 30)=w3 at *
 generalize w2.heap.size=G at *
 have cG:=zeq.blk.cell
 go_wp2_with fail
 refine (zg zeq.rd (by omega)).mono ?_
 rintro e w4 ⟨k,rfl,hk1,-,hr4,hd4⟩
 replace zeq:=zeq.drawn hd4 hr4
 have Hk:=za hk1
 clear hd4 hr4 cG hk1
 go_wp2_with fail
 refine (zg zeq.rd (by omega)).mono ?_
 rintro e w5 ⟨y,rfl,-,-,hr5,hd5⟩
 replace zeq:=zeq.drawn hd5 hr5
 clear hd5 hr5
 go_upto_block 0 with fail
 go_cut [] (fun wx=>∃ (al:Int) (v:Value) (rows:List Value) (ls:List (List Int)) (vA:Value) (acc:List Bool),zax w1 wx R G (M+10) al v rows ls vA acc∧Hid (BdL (L+13) ls acc))
 case first =>
  have hcases:y=0∨y=1∨y=2∨y=3∨y=4∨y=5∨6≤y:=by omega
  rcases hcases with hy|hy|hy|hy|hy|hy|hy
  ·subst hy
   have hy0:True:=trivial
   go_wp2_with fail
   refine (zae [64,(-1),1,63,0] 5 #[.int .i64 64,.int .i64 (-1),.int .i64 1,.int .i64 63,.int .i64 0] rfl rfl (by omega) (by omega) zeq.rd (by omega)).mono ?_
   rintro e w6 ⟨x,-,rfl,hr6,hd6⟩
   replace zeq:=(zeq.ext ((Ext.refl _).alloc _)).drawn hd6 hr6
   have cG:=zeq.blk.cell
   have fG:=zeq.blk.frozen
   go_wp2_with fail
   go_meet
   exact⟨_,_,_,_,_,_,(zeq.setAl x).more (by omega),za (Hb.out.more (by omega))⟩
  ·subst hy
   have hy0:True:=trivial
   have cG:=zeq.blk.cell
   have hs1:=zeq.dr.size
   have hal:b.acc.length≤100:=by have:=Hb.out.2.1;omega
   go_wp2_with (at_builtin;refine zJ w1 w5 rfl _ _ _ rfl 4 _ 1 1 Tryd.underlying23 zal rfl (by decide) (.slice B' m' d') b.acc.length (zL b.acc) _ _ rfl rfl hs1 zeq.acc rfl (by simp [Value.oneCell']) (by unfold maxLen;omega) (by omega) ?_;intro g6 cap6 w6 hown6 hg6 hat6 hlt6;obtain⟨q1,q2,q3⟩:=zeq.pushAcc (x:=true) hown6 hg6 hat6;have q1':=q1.out)
   go_meet
   exact⟨_,_,_,_,_,_,q3.more (by omega),za ⟨by have:=Hb.out.1;omega,by have:=Hb.out.2.1;simp;omega,fun l hl=>by have:=Hb.out.2.2 l hl;omega⟩⟩
  ·subst hy
   have hy0:True:=trivial
   by_cases hn0:0<m
   ·have hk:=Hk.out (by omega)
    have hkm:k<b.next.length:=by have:=Hm.out;omega
    obtain⟨l,hl⟩:∃ l,b.next[k]?=some l:=⟨_,List.getElem?_eq_getElem hkm⟩
    obtain⟨gN,rfl,hgN,-⟩:=zaf (show w5.ownsRow w1.heap.size 62 1 (.slice B m d) m rows from by have:=zeq.nx;rw [← Hm.out] at this;exact this) hn0
    obtain⟨Ar,cr,hr,hcell,hor⟩:=zeq.row hl Hm.out
    have hll:l.length≤100:=by have:=Hb.out.2.2 l (List.mem_of_getElem? hl);omega
    have HL:=za hl
    have HR:=za hr
    have hs1:=zeq.dr.size
    have cG:∀ W,Frm (fun b=>(Value.slice Ar l.length cr).ownBlock=some b) w5 W→∀ q,W.cell? ⟨G,q,none⟩=#[Value.int .i64 b.al,.slice (some ⟨gN,0,none⟩) m d,.slice B' m' d'][q]?:=fun W hW=>(zeq.blk.frm hW (fun e=>zo hor zeq.blk (by decide) e rfl)).cell
    have cN:∀ W,Frm (fun b=>(Value.slice Ar l.length cr).ownBlock=some b) w5 W→W.cell? ⟨gN,k,none⟩=some (.slice Ar l.length cr):=fun W hW=>by
     have hx:W.ownsRow w1.heap.size 62 1 (.slice (some ⟨gN,0,none⟩) m d) b.next.length rows:=zj zeq.nx hW (fun b hb hS=>zZ zeq.nx hor (by decide) hb hS)
     rw [← Hm.out] at hx
     rw [hx.cellAt k (by omega),HR.out]
    have h00:Frm (fun b=>(Value.slice Ar l.length cr).ownBlock=some b) w5 w5.drew:=(Ext.refl w5).drew.toFrm
    clear hl hr hcell hkm
    go_wp2_with fail
    refine tR (fun X=>Frm (fun b=>(Value.slice Ar l.length cr).ownBlock=some b) w5 X) [11] (Ord.of [0,1,2,3,4,5,6,7,8,9,10,11]) ?_
    refine tQ ?_
    refine zc fun K hK=>?_;go_simp
    have hxd:=(Ext.refl w5).drew
    refine hK.out _ _ (hxd.alloc _).toFrm ?_
    refine pT ?_
    refine zc (fun K hK=>?_)
    refine zab w1 w5.drew _ _ _ rfl 3 _ 1 8 Tryd.underlying62 zS rfl (by decide) (.slice Ar l.length cr) l.length (ints l) _ _ rfl rfl hs1 (zm hor hxd) rfl (by simp [Value.oneCell']) (by unfold maxLen;omega) (by omega) ?_
    intro g6 cap6 w6 hown6 hg6 hat6 hlt6
    obtain⟨q1,q2,q3,q4⟩:=(zeq.ext hxd).growRow (x:=0) Hm.out HR.out HL.out hown6 hg6 hat6
    have q2':=q2.out
    refine hK.out _ _ (hxd.toFrm.trans (Frm.of_grown hg6)) ?_
    refine pT ?_
    refine tQ ?_
    refine zi fun K hK=>?_
    go_simp
    refine hK.out _ _ ?_
    refine zr ?_
    go_wp2_with fail
    go_meet
    refine⟨_,_,_,_,_,_,q4.more (by omega),za ⟨by have:=Hb.out.1;rw [List.length_set];omega,by have:=Hb.out.2.1;omega,fun l' hl'=>?_⟩⟩
    rcases List.mem_or_eq_of_mem_set hl' with h1|h1
    ·have:=Hb.out.2.2 l' h1;omega
    ·have:=Hb.out.2.2 l (List.mem_of_getElem? HL.out)
     rw [h1];simp;omega
   ·exact yV04a4
  ·subst hy
   have hy0:True:=trivial
   by_cases hn0:0<m
   ·have hk:=Hk.out (by omega)
    have hkm:k<b.next.length:=by have:=Hm.out;omega
    obtain⟨l,hl⟩:∃ l,b.next[k]?=some l:=⟨_,List.getElem?_eq_getElem hkm⟩
    obtain⟨gN,rfl,hgN,-⟩:=zaf (show w5.ownsRow w1.heap.size 62 1 (.slice B m d) m rows from by have:=zeq.nx;rw [← Hm.out] at this;exact this) hn0
    obtain⟨Ar,cr,hr,hcell,hor⟩:=zeq.row hl Hm.out
    have hll:l.length≤100:=by have:=Hb.out.2.2 l (List.mem_of_getElem? hl);omega
    have HL:=za hl
    have HR:=za hr
    have Hbl:=za (Hb.out.2.2 l (List.mem_of_getElem? hl))
    clear hl hr hkm
    have cG:=zeq.blk.cell
    by_cases hl0:0<l.length
    ·obtain⟨gr,rfl,-,-⟩:=zaf hor hl0
     go_wp2_with fail
     refine (zg (n:=l.length) zeq.rd (by omega)).mono ?_
     rintro e w6 ⟨j,rfl,hj1,-,hr6,hd6⟩
     have hjl:=hj1 (by omega)
     replace zeq:=zeq.drawn hd6 hr6
     have hRG:=zeq.hR
     have cN:∀ W,Dr R w6 W→W.cell? ⟨gN,k,none⟩=some (.slice (some ⟨gr,0,none⟩) l.length cr):=fun W hW=>(hd6.trans hW).cell_some hcell (by simp;omega)
     have hwr:IntKind.i64.wrap ((m:Int) - 1)=(m:Int) - 1:=by rw [IntKind.wrap_i64];omega
     clear cG hj1 hr6 hd6 hcell hor
     have cG:∀ W,Dr R w6 W→∀ q,W.cell? ⟨G,q,none⟩=#[Value.int .i64 b.al,.slice (some ⟨gN,0,none⟩) m d,.slice B' m' d'][q]?:=fun W hW=>(zeq.blk.dr hW (by have:=zeq.hG;omega)).cell
     go_wp2_with fail
     refine tR (fun X=>Dr R w6 X) [13] (Ord.of [0,1,2,3,4,5,6,7,8,9,10,11,12,13]) ?_
     refine tQ ?_
     refine zc fun K hK=>?_;go_simp
     refine hK.out _ _ ((Dr.refl R w6).drew.alloc _) ?_
     refine pT ?_
     refine zc fun K hK=>?_;go_simp
     refine (zae (w:=w6.drew) [(-1),m,(m:Int) - 1,0] 4 #[.int .i64 (-1),.int .i64 m,.int .i64 ((m:Int) - 1),.int .i64 0] rfl rfl (by omega) (by omega) (zeq.rd.ext (Ext.refl _).drew) (by omega)).mono ?_
     rintro e w7 ⟨x,-,rfl,hr7,hd7⟩
     have hd67:Dr R w6 w7:=((Dr.refl R w6).drew.alloc _).trans hd7
     have hacc7:=zeq.drawn hd67 hr7
     refine hK.out _ _ hd67 ?_
     refine pT ?_
     refine tQ ?_
     have zep:=hacc7.rows.2.1 k _ l HR.out HL.out
     obtain⟨o0,c0⟩:=zav zep j (by omega)
     have f0:=zep.frozenAt j
     have hst:=hacc7.setRow (k:=j) (x:=x) HR.out HL.out rfl
     refine zi fun K hK=>?_
     go_simp
     refine hK.out _ _ ?_
     refine zr ?_
     go_wp2_with fail
     go_meet
     refine⟨_,_,_,_,_,_,hst.more (by omega),za ⟨by have:=Hb.out.1;rw [List.length_set];omega,by have:=Hb.out.2.1;omega,fun l' hl'=>?_⟩⟩
     rcases List.mem_or_eq_of_mem_set hl' with h1|h1
     ·have:=Hb.out.2.2 l' h1;omega
     ·rw [h1];simp;have:=Hbl.out;omega
    ·have hl1:l.length=0:=by omega
     have hl2:¬ ((l.length:Int)>0):=by omega
     go_wp2_with fail
     go_meet
     exact⟨_,_,_,_,_,_,zeq.more (by omega),za (Hb.out.more (by omega))⟩
   ·exact yV04a4
  ·subst hy
   have hy0:True:=trivial
   have hs1:=zeq.dr.size
   have hacc1:=zeq.ext ((Ext.refl w5).alloc (.cells #[] 62))
   have hn1:=World.ownsRow_lit (base:=w1.heap.size) (e:=62) (size:=1) w5 #[] 0 hs1 (by unfold maxLen;omega) rfl
   have cG:=hacc1.blk.cell
   have fG:=hacc1.blk.frozen
   go_upto_region 18 with fail
   replace hacc1:=hacc1.setNext hn1
   clear zeq cG fG hn1
   generalize (w5.alloc (.cells #[] 62)).setCell ⟨G,1,none⟩ (.slice (some ⟨w5.heap.size,0,none⟩) 0 0)=w6 at *
   have hs6:=hacc1.dr.size
   have hacc2:=hacc1.ext ((Ext.refl w6).alloc (.cells #[] 4))
   have hn2:=World.ownsRow_lit (base:=w1.heap.size) (e:=4) (size:=1) w6 #[] 0 hs6 (by unfold maxLen;omega) rfl
   have cG:=hacc2.blk.cell
   have fG:=hacc2.blk.frozen
   go_wp2_with fail
   go_meet
   exact⟨_,_,_,_,_,_,(hacc2.setMarks hn2).more (by omega),za ⟨by simp,by simp,fun l hl=>by simp at hl⟩⟩
  ·subst hy
   have hy0:True:=trivial
   by_cases hn0:0<m
   ·have hn0':((m:Int)>0):=by omega
    have hml:m=b.next.length:=Hm.out
    have hlm:m≤L:=by have:=Hb.out.1;omega
    have hst:∃ (i:Nat) (v:Value) (rows:List Value) (ls:List (List Int)) (vA:Value) (acc:List Bool),i≤13∧zax w1 w5 R G (M+2) b.al v rows ls vA acc∧Hid (ls.length=m+i)∧Hid (i=0∨m+i≤13)∧Hid (acc.length≤L+i)∧Hid (∀ l∈ls,l.length≤L):=
     ⟨0,_,_,_,_,_,by omega,zeq,za hml.symm,za (.inl rfl),za Hb.out.2.1,za Hb.out.2.2⟩
    clear hml zeq
    go_wp2_with fail
    go_loopw [] (fun wr=>∃ (i:Nat) (v:Value) (rows:List Value) (ls:List (List Int)) (vA:Value) (acc:List Bool),i≤13∧zax w1 wr R G (M+2) b.al v rows ls vA acc∧Hid (ls.length=m+i)∧Hid (i=0∨m+i≤13)∧Hid (acc.length≤L+i)∧Hid (∀ l∈ls,l.length≤L)) (fun wr=>200 - lenAt wr G)
    case atStart=>exact hst
    case round =>
     clear hst
     obtain⟨i,v,rows,ls,vA,acc,hi,zeq,hln,him,hal,hlL⟩:=hrel
     obtain⟨gN,cN,rfl,hgN⟩:∃ g c,v=.slice (some ⟨g,0,none⟩) (m+i) c∧w1.heap.size≤g:=by
      obtain⟨A9,c9,rfl⟩:=zl zeq.nx
      obtain⟨g,rfl,hg,-⟩:=zaf zeq.nx (by have:=hln.out;omega)
      exact⟨g,c9,by rw [hln.out],hg⟩
     have hmes:=za zeq.lenAt
     by_cases hlt:m+i≤12
     ·have hlt':((m+i:Nat):Int)≤12:=by omega
      have h0l:0<ls.length:=by have:=hln.out;omega
      obtain⟨l,hl⟩:∃ l,ls[0]?=some l:=⟨_,List.getElem?_eq_getElem h0l⟩
      obtain⟨Ar,cr,hr,hcell,hor⟩:=zeq.row hl hln.out.symm
      have hll:l.length≤L:=hlL.out l (List.mem_of_getElem? hl)
      have Hll:=za hll
      have hlow:=za zeq.low
      have hs1:=zeq.dr.size
      have hrdl:=Reads.of_own hor
      have Hrd:=za (fun W (hW:Ext wr W)=>hrdl.ext hW)
      have cG:∀ W,Ext wr W→∀ q,W.cell? ⟨G,q,none⟩=#[Value.int .i64 b.al,.slice (some ⟨gN,0,none⟩) (m+i) cN,vA][q]?:=fun W hW=>(zeq.blk.ext hW).cell
      have cNx:∀ W,Ext wr W→W.cell? ⟨gN,0,none⟩=some (.slice Ar l.length cr):=fun W hW=>hW.cell_some hcell
      have hww:=Ext.refl wr
      have h0i:(0:Int)<((m+i:Nat):Int):=by omega
      have h0j:0<(m:Int)+(i:Int):=by omega
      clear hl hr hcell hor hrdl h0l
      go_upto_region 21 with fail
      refine uR (fun X=>Ext wr X) [9,11] (zE.of [0,1,3,4,5,6,2,7,8,9,10,11]) ?_
      refine uQ ?_
      have hx0:Ext wr wr.drew:=hww.drew
      generalize wr.drew=wd at *
      refine ze fun K hK=>?_;go_simp
      have hm:=World.ownsRow_made (base:=wr.heap.size) (e:=3) (size:=1) wd #[] 0 hx0.size (Nat.zero_le _) rfl
      have hx1:=(Ext.refl wd).alloc (.cells #[] 3)
      replace hx0:=hx0.trans hx1
      refine hK.out _ _ hx0 ?_
      generalize wd.alloc (.cells #[] 3)=wm at *
      generalize wd.heap.size=MM at *
      refine pT ?_
      refine uQ ?_
      refine ze (fun K hK=>?_)
      refine zaR wm _ _ 62 rfl wr.heap.size 3 _ 1 8 Tryd.underlying62 zS rfl (by decide) (.slice (some ⟨MM,0,none⟩) 0 0) 0 [] rfl hm _ _ Ar l.length cr (ints l) rfl (Hrd.out _ hx0) (zed _) (by unfold maxLen;omega) (by omega) hx0.size ?_
      intro vR w6 hrow hgR hatR
      rw [Nat.zero_add,List.nil_append] at hrow
      obtain⟨BR,dR,rfl⟩:=zl hrow
      have hww3:Ext wr w6:=hx0.grown hgR (fun k hk=>(hm.lt k hk).1)
      refine hK.out _ _ hww3 ?_
      refine pT ?_
      refine uQ ?_
      refine ze fun K hK=>?_;go_simp
      refine hK.out _ _ (hww3.alloc _) ?_
      refine pT ?_
      refine zb fun K hK=>?_
      have hacc6:=zeq.ext hww3
      have hnx6:=hacc6.nx
      rw [hln.out] at hnx6
      refine zab w1 w6 _ _ _ rfl 62 _ 1 24 Tryd.underlying22 zbb rfl (by decide) (.slice (some ⟨gN,0,none⟩) (m+i) cN) (m+i) rows _ _ rfl rfl hacc6.dr.size hnx6 rfl (zaF _ _ _) (by unfold maxLen;omega) (by omega) ?_
      intro g7 cap7 w7 hown7 hg7 hat7 hlt7
      refine hK.out _ _ ?_
      refine pT ?_
      refine uQ ?_
      obtain⟨p1,p2,p3⟩:=hacc6.pushRow (l:=l) (W':=w7) (g:=g7) (cap:=cap7) hlow.out hs1 hrow (by rw [hln.out];exact hown7) hg7 hat7
      have p1':=p1.out
      rw [hln.out] at p3
      refine zb fun K hK=>?_
      go_simp
      refine hK.out _ _ ?_
      refine zh ?_
      generalize w7.setCell ⟨G,1,none⟩ (.slice (some ⟨g7,0,none⟩) (m+i+1) cap7)=w8 at *
      have cG8:=p3.blk.cell
      have hs8:=p3.dr.size
      have hal':=hal.out
      clear p1 p1' p2 cG cNx hown7 hg7 hat7 hacc6 zeq hnx6
      go_wp2_with (at_builtin;refine zJ w1 w8 rfl _ _ _ rfl 4 _ 1 1 Tryd.underlying23 zal rfl (by decide) vA acc.length (zL acc) _ _ rfl rfl hs8 p3.acc rfl (by simp [Value.oneCell']) (by unfold maxLen;omega) (by omega) ?_;intro g9 cap9 w9 hown9 hg9 hat9 hlt9;obtain⟨q1,q2,q3⟩:=p3.pushAcc (x:=false) hown9 hg9 hat9;have q1':=q1.out)
      go_roundw
      case rel=>exact⟨i+1,by omega,_,_,ls++[l],_,acc++[false],q3,za (by have:=hln.out;simp;omega),za (by omega),za (by simp;omega),za (fun l' hl'=>by
       rcases List.mem_append.1 hl' with h1|h1
       ·exact hlL.out l' h1
       ·rw [List.mem_singleton.1 h1];exact Hll.out)⟩
      case measure=>have h1:=q3.lenAt;have h2:=hmes.out;omega
     ·have hlt':¬ (((m+i:Nat):Int)≤12):=by omega
      have cG:=zeq.blk.cell
      go_wp2_with fail
      go_meet
      exact⟨_,_,_,_,_,_,zeq.more (by omega),za ⟨by have:=hln.out;have:=him.out;omega,by have:=hal.out;omega,fun l' hl'=>by have:=hlL.out l' hl';omega⟩⟩
   ·have hn1:m=0:=by omega
    clear hn0
    have cG:=zeq.blk.cell
    have hst:=zeq
    clear zeq
    go_wp2_with fail
    go_loopw [] (fun wr=>zax w1 wr R G (M+1+1) b.al (.slice B m d) rows b.next (.slice B' m' d') b.acc) (fun wr=>0)
    case atStart=>exact hst
    case round =>
     clear hst cG
     have cG:=hrel.blk.cell
     go_wp2_with fail
     go_meet
     exact⟨_,_,_,_,_,_,hrel.more (by omega),za (Hb.out.more (by omega))⟩
  ·have h0':((y:Int)==0)=false:=by simp;omega
   have h1':((y:Int)==1)=false:=by simp;omega
   have h2':((y:Int)==2)=false:=by simp;omega
   have h3':((y:Int)==3)=false:=by simp;omega
   have h4':((y:Int)==4)=false:=by simp;omega
   have h5':((y:Int)==5)=false:=by simp;omega
   go_wp2_with fail
   go_meet
   exact⟨_,_,_,_,_,_,zeq.more (by omega),za (Hb.out.more (by omega))⟩
 case rest =>
  clear zeq
  obtain⟨al,v,rows,ls,vA,acc,zeq,hbd⟩:=hcut
  obtain⟨A5,c5,rfl⟩:=zl zeq.nx
  obtain⟨B5,d5,rfl⟩:=zl zeq.acc
  obtain⟨f1,f2⟩:=zeq.fin (N:=M+10) (sh:=BdA (L+13)) hx1 bz rfl hRl (by omega) hz1 (by omega) hbd.out
  have bz5:=bz.dr zeq.dr (by omega)
  have cG:=zeq.blk.cell
  have cZ:=bz5.cell
  have fZ:=bz5.frozen
  go_wp2_with fail
  have cf:=f2.cell
  exact bodyPost_ret (v:=.agg #[.int .i64 al,.slice A5 ls.length c5,.slice B5 acc.length d5]) (by simp [results,Tryd.results59,go_sem,cf]) rfl f1.out
theorem zek {lo hi n c k0 set:Nat} {A:Option Addr} {s:Sys} {w:World}(h:zQ w lo hi A n s)(hf:Few k0 s.edges) :
  Calls Tryd.prog 100 #[.agg #[.int .i64 s.al,.int .i64 s.st,.slice A n c],.int .i64 (set:Nat),.int .i64 0] w fun e w'=>e=.returned (.int .i64 (set:Nat))∧Ext w w':=by
 have hn:=h.2.len
 have HR:=za (fun W (hW:Ext w W)=>h.2.ext hW)
 have Hf:=za hf
 have hw1:Ext w (w.alloc (.cells #[.int .i64 s.al,.int .i64 s.st,.slice A n c] 39)):=(Ext.refl _).alloc _
 have b1:=Blk.new w 39 #[.int .i64 s.al,.int .i64 s.st,.slice A n c]
 have z0:Sm 0:=by unfold Sm;omega
 clear hf h
 go_enter Tryd.func100,Tryd.ntmps100
 go_upto_region 1 with fail
 generalize w.alloc (.cells #[.int .i64 s.al,.int .i64 s.st,.slice A n c] 39)=w1 at *
 have cb:=b1.cells
 clear b1
 go_wp2_with fail
 go_loopw [1,7,8,9] (fun s1 m _ _ wr=>s1=.int .i64 (set:Nat)∧(∃ b:Bool,m=.bool b)∧Ext w1 wr) (fun _ m _ _ _=>match m with | .bool true=>1|_=>0)
 case atStart=>exact⟨rfl,⟨true,rfl⟩,Ext.refl _⟩
 case round =>
  obtain⟨rfl,⟨b,rfl⟩,zer⟩:=hrel
  cases b
  ·go_wp2_with fail
   go_ret
   exact⟨rfl,hw1.trans zer⟩
  ·obtain⟨wo,hwo⟩:∃ wo,wo=wr:=⟨_,rfl⟩
   subst hwo
   have cb0:=cb wo zer
   go_wp2_with fail
   go_loopw [1,7,8,9] (fun s1 m i _ wr=>∃ k:Nat,k≤n∧i=.int .i64 k∧s1=.int .i64 (set:Nat)∧m=.bool false∧Ext w1 wr) (fun _ _ i _ _=>n - (intOf i).toNat)
   case atStart=>exact⟨0,Nat.zero_le _,rfl,rfl,rfl,zer⟩
   case round =>
    clear zer cb0
    obtain⟨k,hk,rfl,rfl,rfl,zer⟩:=hrel
    have cb0:=cb wr zer
    by_cases hlt:k<n
    ·obtain⟨ad,o,x,rfl,_,_,hx,c0,c1,c2⟩:=(HR.out wr (hw1.trans zer)).edge hlt
     obtain⟨-,⟨g0,g1⟩,-⟩:=Hf.out x (List.mem_of_getElem? hx.out)
     obtain⟨l,hle⟩:∃ l:Nat,x.le=l:=⟨x.le.toNat,by omega⟩
     rw [hle] at c1
     have hnx:=zer.alloc (.cells #[.int .i64 x.fr,.int .i64 l,.int .i64 x.ta] 116)
     clear hx g0
     go_wp2_with (go_at_call 33;refine (zA 0 l z0 _ (by omega)).mono ?_;rw [Nat.zero_testBit];rintro e w' ⟨rfl,rfl⟩)
     go_roundw
     case rel=>exact⟨k+1,by omega,by go_num,rfl,rfl,hnx⟩
     case measure=>simp [intOf];omega
    ·obtain rfl:n=k:=by omega
     go_wp2_with fail
     go_roundw
     case rel=>exact⟨rfl,⟨false,rfl⟩,zer⟩
     case measure=>simp
abbrev Lay (α:Type):=World→Nat→Nat→Value→α→Prop
structure Lay.Ok {α:Type} (P:Lay α):Prop where
 frm:∀ {S:Nat→Prop} {W W':World} {lo hi:Nat} {r:Value} {x:α},P W lo hi r x→Frm S W W'→(∀ k,lo≤k→k<hi→¬ S k)→P W' lo hi r x
 more:∀ {W:World} {lo hi lo' hi':Nat} {r:Value} {x:α},P W lo hi r x→lo'≤lo→hi≤hi'→P W lo' hi' r x
def NatP:Lay Nat:=fun _ _ _ r n=>r=.int .i64 (n:Nat)
theorem NatP.ok:Lay.Ok NatP:=⟨fun h _ _=>h,fun h _ _=>h⟩
def Lst {α:Type} (P:Lay α) (W:World) (lo hi:Nat) (A:Option Addr) (xs:List α):Prop:=
 ∃ rows,Reads W lo hi 1 A xs.length rows∧∀ (i:Nat) (r:Value) (x:α),rows[i]?=some r→xs[i]?=some x→P W lo hi r x
section
variable {α:Type} {P:Lay α} {W W':World} {lo hi:Nat} {A:Option Addr} {xs:List α}
theorem Lst.frm (hP:Lay.Ok P) {S:Nat→Prop}(h:Lst P W lo hi A xs)(hx:Frm S W W')(hS:∀ k,lo≤k→k<hi→¬ S k):Lst P W' lo hi A xs:=by
 obtain⟨rows,h1,h2⟩:=h
 exact⟨rows,h1.frm hx hS,fun i r x hr hx'=>hP.frm (h2 i r x hr hx') hx hS⟩
theorem Lst.ext (hP:Lay.Ok P)(h:Lst P W lo hi A xs)(hx:Ext W W'):Lst P W' lo hi A xs:=h.frm hP hx (fun _ _ _ h=>h)
theorem Lst.len (h:Lst P W lo hi A xs):xs.length≤9223372036854775807:=by
 obtain⟨rows,h1,_⟩:=h
 exact h1.len
theorem Lst.get {k:Nat}(h:Lst P W lo hi A xs)(hk:k<xs.length):∃ b o r x,A=some ⟨b,o,none⟩∧lo≤b∧b<hi∧Hid (xs[k]?=some x)∧W.cell? ⟨b,o+k,none⟩=some r∧P W lo hi r x:=by
 obtain⟨rows,h1,h2⟩:=h
 have hl:=h1.length
 rw [Nat.mul_one] at hl
 obtain⟨ad,e,h3,h4,h5⟩:=h1.at_ hk
 have hr0:rows[0]?=some (rows[0]'(by omega)):=List.getElem?_eq_getElem _
 have hrk:rows[k]?=some (rows[k]'(by omega)):=List.getElem?_eq_getElem _
 have hs:=zaZ (h5 0 _ hr0)
 have hc:=h5 k _ hrk
 rw [hs,zP] at hc
 exact⟨ad.block,ad.off,_,_,by rw [e,← hs],h3,h4,List.getElem?_eq_getElem hk,hc,h2 k _ _ hrk (List.getElem?_eq_getElem hk)⟩
end
theorem Lst.of_nats {W:World} {lo hi:Nat} {A:Option Addr} {xs:List Nat}(h:Reads W lo hi 1 A xs.length (zF xs)):Lst NatP W lo hi A xs:=⟨zF xs,h,fun i r x hr hx=>by
 simp only [zF,List.getElem?_map,hx,Option.map_some] at hr
 exact (Option.some.inj hr).symm⟩
theorem Lst.own_nats {W:World} {base c:Nat} {A:Option Addr} {xs:List Nat}(h:W.ownsRow base 3 1 (.slice A xs.length c) xs.length (zF xs)):Lst NatP W base W.heap.size A xs:=Lst.of_nats (Reads.of_own h)
theorem Lst.num {W:World} {lo hi k:Nat} {A:Option Addr} {xs:List Nat}(h:Lst NatP W lo hi A xs)(hk:k<xs.length):∃ b o x,A=some ⟨b,o,none⟩∧lo≤b∧b<hi∧Hid (xs[k]?=some x)∧W.cell? ⟨b,o+k,none⟩=some (.int .i64 (x:Nat)):=by
 obtain⟨b,o,r,x,e,h1,h2,h3,h4,h5⟩:=h.get hk
 exact⟨b,o,x,e,h1,h2,h3,by rw [h4,h5]⟩
def zdT (w:World) (e:Ending) (w':World):Prop:=
 ∃ (b:Aut) (A:Option Addr) (n c:Nat) (A':Option Addr) (n' c':Nat) (ok:Bool),e=.returned (.tuple #[.agg #[.int .i64 b.al,.slice A n c,.slice A' n' c'],.bool ok])∧zX w' w.heap.size A n c A' n' c' b∧Hid (BdA 12 b)∧Ext w w'
def Off (rows:List Value) (g:Option Nat):Prop:=∀ r∈rows,∀ k,r.ownBlock=some k→g≠some k
structure Sub (w1 W:World) (G:Nat) (al:Int) (v:Value) (rows:List Value) (ls:List (List Int)) (vA:Value) (acc:List Bool) (vS:Value) (sets:List Nat):Prop where
 gro:Gro w1 W G al v rows ls vA acc
 sets:W.ownsRow w1.heap.size 3 1 vS sets.length (zF sets)
 off:Off rows vS.ownBlock
structure SubR (w1 W:World) (G:Nat) (al:Int) (v:Value) (rows:List Value) (ls:List (List Int)) (vA:Value) (acc:List Bool) (vS:Value) (sets:List Nat) (K:Nat) (vR:Value) (l:List Int):Prop where
 sub:Sub w1 W G al v rows ls vA acc vS sets
 row:W.ownsRow K 3 1 vR l.length (ints l)
 hK:w1.heap.size≤K
 low:∀ (i:Nat) (r:Value) (b:Nat),rows[i]?=some r→r.ownBlock=some b→b<K
 off:∀ k,vR.ownBlock=some k→vS.ownBlock≠some k
theorem own_rebase {w:World} {base b size n:Nat} {e:TypeId} {v:Value} {xs:List Value}(h:w.ownsRow base e size v n xs)(hb:∀ g,v.ownBlock=some g→b≤g):w.ownsRow b e size v n xs:=by
 refine⟨h.1,?_⟩
 rcases h.2 with h2|⟨g,cap,cur,rfl,h3,h4⟩
 ·exact .inl h2
 ·exact .inr ⟨g,cap,cur,rfl,hb g rfl,h4⟩
theorem own_nat {W:World} {base n c k x:Nat} {A:Option Addr} {xs:List Nat}(h:W.ownsRow base 3 1 (.slice A n c) n (zF xs))(hx:xs[k]?=some x):∃ g,A=some ⟨g,0,none⟩∧base≤g∧W.cell? ⟨g,k,none⟩=some (.int .i64 (x:Nat)):=by
 have hk:=(List.getElem?_eq_some_iff.1 hx).1
 have hl:xs.length=n:=by have:=h.1;rw [zad] at this;omega
 rcases h.2 with ⟨_,hh⟩|⟨g,cap,cur,hv,hb,_⟩
 ·omega
 ·have e:A=some ⟨g,0,none⟩:=by injection hv
  subst e
  refine⟨g,rfl,hb,?_⟩
  rw [h.cellAt k (by omega)]
  simp [zF,hx]
section
variable {w1 W W':World} {G K:Nat} {al:Int} {v vA vS vR:Value} {rows:List Value} {ls:List (List Int)} {acc:List Bool} {sets:List Nat} {l:List Int}
theorem Sub.ext (h:Sub w1 W G al v rows ls vA acc vS sets)(hx:Ext W W'):Sub w1 W' G al v rows ls vA acc vS sets:=⟨h.gro.more hx,zm h.sets hx,h.off⟩
theorem SubR.ext (h:SubR w1 W G al v rows ls vA acc vS sets K vR l)(hx:Ext W W'):SubR w1 W' G al v rows ls vA acc vS sets K vR l:=⟨h.sub.ext hx,zm h.row hx,h.hK,h.low,h.off⟩
theorem Gro.frm_ {S:Nat→Prop}(h:Gro w1 W G al v rows ls vA acc)(hf:Frm S W W')(hx:Ext w1 W')(hG:¬ S G)(hv:∀ b,v.ownBlock=some b→¬ S b)(hr:∀ (i:Nat) (r:Value) (b:Nat),rows[i]?=some r→r.ownBlock=some b→¬ S b)(ha:∀ b,vA.ownBlock=some b→¬ S b):Gro w1 W' G al v rows ls vA acc:=
 ⟨h.blk.frm hf hG,zj h.nx hf hv,h.rows.frm hf hr,zj h.acc hf ha,hx,h.hG⟩
theorem Sub.row (h:Sub w1 W G al v rows ls vA acc vS sets):SubR w1 (W.alloc (.cells #[] 3)) G al v rows ls vA acc vS sets W.heap.size (.slice (some ⟨W.heap.size,0,none⟩) 0 0) []:=
 ⟨h.ext ((Ext.refl W).alloc _),World.ownsRow_lit W #[] 0 (Nat.le_refl _) (by unfold maxLen;omega) rfl,h.gro.ext.size,h.gro.low,fun k hk e=>by
  have h1:W.heap.size=k:=by simpa [Value.ownBlock] using hk
  have:=(h.sets.lt k e).2
  omega⟩
theorem SubR.pushSet {v':Value} {x:Nat}(h:SubR w1 W G al v rows ls vA acc vS sets K vR l)(hx:Ext w1 W') (zep:W'.ownsRow w1.heap.size 3 1 v' (sets.length+1) (zF sets++[.int .i64 (x:Nat)]))(hg:W.grownBy W' vS.ownBlock)(hat:v'.ownBlock=vS.ownBlock∨v'.ownBlock=some (W.heap.size+1)) :
  SubR w1 W' G al v rows ls vA acc v' (sets++[x]) K vR l:=by
 have hfr:=Frm.of_grown hg
 have hne:∀ b,vR.ownBlock=some b→¬ vS.ownBlock=some b:=h.off
 refine⟨⟨h.sub.gro.frm_ hfr hx (fun e=>zo h.sub.sets h.sub.gro.blk (by decide) e rfl) (fun b hb e=>zZ h.sub.gro.nx h.sub.sets (by decide) hb e) (fun i r b hr hb e=>h.sub.off r (List.mem_of_getElem? hr) b hb e) (fun b hb e=>zZ h.sub.gro.acc h.sub.sets (by decide) hb e),?_,?_⟩,zj h.row hfr hne,h.hK,h.low,?_⟩
 ·simpa [zF] using zep
 ·intro r hr k hk
  rcases hat with e|e
  ·rw [e];exact h.sub.off r hr k hk
  ·rw [e]
   obtain⟨i,hi⟩:=List.getElem?_of_mem hr
   have:=h.sub.gro.low i r k hi hk
   intro e2
   have:=Option.some.inj e2
   omega
 ·intro k hk
  rcases hat with e|e
  ·rw [e];exact h.off k hk
  ·rw [e]
   have:=(h.row.lt k hk).2
   intro e2
   have:=Option.some.inj e2
   omega
theorem SubR.pushInt {v':Value} {x:Int}(h:SubR w1 W G al v rows ls vA acc vS sets K vR l)(hx:Ext w1 W') (zep:W'.ownsRow w1.heap.size 3 1 v' (l.length+1) (ints l++[.int .i64 x]))(hg:W.grownBy W' vR.ownBlock)(hat:v'.ownBlock=vR.ownBlock∨v'.ownBlock=some (W.heap.size+1))(hKW:K≤W.heap.size) :
  SubR w1 W' G al v rows ls vA acc vS sets K v' (l++[x]):=by
 have hfr:=Frm.of_grown hg
 refine⟨⟨h.sub.gro.frm_ hfr hx (fun e=>zo h.row h.sub.gro.blk (by decide) e rfl) (fun b hb e=>zZ h.sub.gro.nx h.row (by decide) hb e) (fun i r b hr hb e=>by
  have h1:=h.low i r b hr hb
  have h2:=(h.row.lt b e).1
  omega) (fun b hb e=>zZ h.sub.gro.acc h.row (by decide) hb e),zj h.sub.sets hfr (fun b hb e=>h.off b e hb),h.sub.off⟩,?_,h.hK,h.low,?_⟩
 ·refine own_rebase (base:=w1.heap.size) (by simpa [ints] using zep) (fun g hgg=>?_)
  rcases hat with e|e
  ·rw [e] at hgg;exact (h.row.lt g hgg).1
  ·rw [e] at hgg
   have:=Option.some.inj hgg
   omega
 ·intro k hk e2
  rcases hat with e|e
  ·rw [e] at hk;exact h.off k hk e2
  ·rw [e] at hk
   have:=Option.some.inj hk
   have:=(h.sub.sets.lt k e2).2
   omega
theorem SubR.pushRow {g cap:Nat}(h:SubR w1 W G al v rows ls vA acc vS sets K vR l) (zep:W'.ownsRow w1.heap.size 62 1 (.slice (some ⟨g,0,none⟩) (ls.length+1) cap) (ls.length+1) (rows++[vR]))(hg:W.grownBy W' v.ownBlock)(hat:v.ownBlock=some g∨g=W.heap.size+1) :
  Hid (W'.cell? ⟨G,1,none⟩=some v)∧W'.frozen? ⟨G,1,none⟩=false∧Sub w1 (W'.setCell ⟨G,1,none⟩ (.slice (some ⟨g,0,none⟩) (ls.length+1) cap)) G al (.slice (some ⟨g,0,none⟩) (ls.length+1) cap) (rows++[vR]) (ls++[l]) vA acc vS sets:=by
 obtain⟨q1,q2,q3⟩:=h.sub.gro.pushRow h.low h.hK h.row zep hg hat
 have hs1:=zj h.sub.sets (Frm.of_grown hg) (fun b hb hS=>zZ h.sub.sets h.sub.gro.nx (by decide) hb hS)
 have hB6:Blk W' G 30 #[.int .i64 al,v,vA]:=(hg.block G h.sub.gro.blk.lt (fun e=>zo h.sub.gro.nx h.sub.gro.blk (by decide) e.symm rfl)).trans h.sub.gro.blk
 refine⟨q1,q2,q3,zj hs1 (Frm.setCell W' G 1 _) (fun b hb hS=>zo hs1 hB6 (by decide) hb hS),fun r hr k hk=>?_⟩
 rcases List.mem_append.1 hr with h1|h1
 ·exact h.sub.off r h1 k hk
 ·rw [List.mem_singleton.1 h1] at hk;exact h.off k hk
theorem Sub.pushAcc {x:Bool} {g cap:Nat}(h:Sub w1 W G al v rows ls vA acc vS sets) (zep:W'.ownsRow w1.heap.size 4 1 (.slice (some ⟨g,0,none⟩) (acc.length+1) cap) (acc.length+1) (zL acc++[.bool x]))(hg:W.grownBy W' vA.ownBlock)(hat:vA.ownBlock=some g∨g=W.heap.size+1) :
  Hid (W'.cell? ⟨G,2,none⟩=some vA)∧W'.frozen? ⟨G,2,none⟩=false∧Sub w1 (W'.setCell ⟨G,2,none⟩ (.slice (some ⟨g,0,none⟩) (acc.length+1) cap)) G al v rows ls (.slice (some ⟨g,0,none⟩) (acc.length+1) cap) (acc++[x]) vS sets:=by
 obtain⟨q1,q2,q3⟩:=h.gro.pushAcc (x:=x) zep hg hat
 have hs1:=zj h.sets (Frm.of_grown hg) (fun b hb hS=>zZ h.sets h.gro.acc (by decide) hb hS)
 have hB6:Blk W' G 30 #[.int .i64 al,v,vA]:=(hg.block G h.gro.blk.lt (fun e=>zo h.gro.acc h.gro.blk (by decide) e.symm rfl)).trans h.gro.blk
 exact⟨q1,q2,q3,zj hs1 (Frm.setCell W' G 2 _) (fun b hb hS=>zo hs1 hB6 (by decide) hb hS),h.off⟩
end
def zbY (w:List Nat):Nat:=w.foldl (fun v l=>v*7+(l+1)) 0
theorem zag (w:List Nat) (l:Nat):zbY (w++[l])=zbY w*7+(l+1):=by simp [zbY]
theorem zcs:zbY []=0:=rfl
theorem zaa {α:Type} (w:List α):w=[]∨∃ u l,w=u++[l]:=by
 rcases List.eq_nil_or_concat w with h|⟨u,l,h⟩
 ·exact Or.inl h
 ·exact Or.inr ⟨u,l,by simpa using h⟩
theorem wval_inj:∀ (n:Nat) (u v:List Nat),u.length≤n→(∀ l∈u,l<6)→(∀ l∈v,l<6)→zbY u=zbY v→u=v:=by
 intro n
 induction n with
 |zero =>
  intro u v hu _ _ h
  obtain rfl:u=[]:=List.eq_nil_of_length_eq_zero (by omega)
  rcases zaa v with rfl|⟨v,m,rfl⟩
  ·rfl
  ·rw [zag,zcs] at h;omega
 |succ n ih =>
  intro u v hu h1 h2 h
  rcases zaa u with rfl|⟨u,l,rfl⟩
  ·rcases zaa v with rfl|⟨v,m,rfl⟩
   ·rfl
   ·rw [zag,zcs] at h;omega
  ·rcases zaa v with rfl|⟨v,m,rfl⟩
   ·rw [zag,zcs] at h;omega
   ·have hl:=h1 l (by simp)
    have hm:=h2 m (by simp)
    rw [zag,zag] at h
    have e1:l=m:=by omega
    have e2:zbY u=zbY v:=by omega
    simp only [List.length_append,List.length_singleton] at hu
    rw [e1,ih u v (by omega) (fun x hx=>h1 x (by simp [hx])) (fun x hx=>h2 x (by simp [hx])) e2]
inductive zbt (d:Nat→Nat→List Nat) (start:List Nat):List Nat→Nat→Prop where
 |nil {x:Nat} (h:x∈start):zbt d start [] x
 |snoc {w:List Nat} {l n x:Nat} (h:zbt d start w n) (hx:x∈d n l):zbt d start (w++[l]) x
theorem zbt.inv {d:Nat→Nat→List Nat} {start w:List Nat} {l x:Nat}(h:zbt d start (w++[l]) x):∃ n,zbt d start w n∧x∈d n l:=by
 generalize hv:w++[l]=v at h
 cases h with
 |nil _=>simp at hv
 |@snoc w' l' n _ h hx =>
  have:=List.append_inj' hv rfl
  obtain⟨rfl,h2⟩:=this
  simp at h2
  subst h2
  exact⟨n,h,hx⟩
theorem zbt.inv_nil {d:Nat→Nat→List Nat} {start:List Nat} {x:Nat}(h:zbt d start [] x):x∈start:=by
 generalize hv:([]:List Nat)=v at h
 cases h with
 |nil h=>exact h
 |snoc _ _=>simp at hv
def visN (st:List Bool × List Nat) (n:Nat):List Bool × List Nat:=if st.1.getD n true then st else (st.1.set n true,st.2++[n])
def vis (S:List Bool) (ns:List Nat):List Bool × List Nat:=ns.foldl visN (S,[])
theorem vis_snoc (S:List Bool) (ns:List Nat) (n:Nat):vis S (ns++[n])=visN (vis S ns) n:=by simp [vis]
theorem zcY (S:List Bool) (ns:List Nat)(hn:∀ n∈ns,n<S.length) :
  (vis S ns).1.length=S.length∧(∀ x,x<S.length→((vis S ns).1.getD x true=true↔S.getD x true=true∨x∈ns))∧(∀ x,x∈(vis S ns).2↔x∈ns∧S.getD x true=false):=by
 have key:∀ k,k≤ns.length→(vis S (ns.take k)).1.length=S.length∧(∀ x,x<S.length→((vis S (ns.take k)).1.getD x true=true↔S.getD x true=true∨x∈ns.take k))∧(∀ x,x∈(vis S (ns.take k)).2↔x∈ns.take k∧S.getD x true=false):=by
  intro k
  induction k with
  |zero=>intro _;exact⟨rfl,fun x _=>by simp [vis],fun x=>by simp [vis]⟩
  |succ k ih =>
   intro hk
   obtain⟨h1,h2,h3⟩:=ih (by omega)
   have hx:ns[k]?=some ns[k]:=List.getElem?_eq_getElem (by omega)
   have hnk:=hn ns[k] (List.getElem_mem _)
   rw [List.take_add_one,hx]
   simp only [Option.toList_some]
   generalize ns[k]=n at *
   rw [vis_snoc]
   generalize vis S (ns.take k)=st at *
   obtain⟨T,fr⟩:=st
   simp only at h1 h2 h3
   unfold visN
   simp only
   cases hT:T.getD n true
   ·have hTS:=h2 n hnk
    rw [hT] at hTS
    have hnS:S.getD n true=false:=by cases h:S.getD n true<;>simp_all
    have hnn:n∉ns.take k:=fun h=>by simp [h] at hTS
    refine⟨by simp [h1],fun x hx=>?_,fun x=>?_⟩
    ·simp only [Bool.false_eq_true,if_false,List.getD_eq_getElem?_getD,List.mem_append,List.mem_singleton]
     by_cases e:x=n
     ·subst e
      rw [List.getElem?_set_self (by omega)]
      simp
     ·rw [List.getElem?_set_ne (by omega)]
      have:=h2 x hx
      rw [List.getD_eq_getElem?_getD,List.getD_eq_getElem?_getD] at this
      simp only [e,or_false]
      exact this
    ·simp only [Bool.false_eq_true,if_false,List.mem_append,List.mem_singleton]
     constructor
     ·rintro (h|rfl)
      ·exact⟨Or.inl ((h3 x).1 h).1,((h3 x).1 h).2⟩
      ·exact⟨Or.inr rfl,hnS⟩
     ·rintro ⟨h|rfl,h'⟩
      ·exact Or.inl ((h3 x).2 ⟨h,h'⟩)
      ·exact Or.inr rfl
   ·refine⟨h1,fun x hx=>?_,fun x=>?_⟩
    ·simp only [if_true,List.mem_append,List.mem_singleton]
     rw [h2 x hx]
     have hTS:=(h2 n hnk).1 hT
     constructor
     ·rintro (h|h)
      ·exact Or.inl h
      ·exact Or.inr (Or.inl h)
     ·rintro (h|h|rfl)
      ·exact Or.inl h
      ·exact Or.inr h
      ·exact hTS
    ·simp only [if_true,List.mem_append,List.mem_singleton]
     rw [h3 x]
     have hTS:=(h2 n hnk).1 hT
     constructor
     ·rintro ⟨h,h'⟩;exact⟨Or.inl h,h'⟩
     ·rintro ⟨h|rfl,h'⟩
      ·exact⟨h,h'⟩
      ·rcases hTS with h|h
       ·rw [h] at h';cases h'
       ·exact⟨h,h'⟩
 have:=key ns.length (Nat.le_refl _)
 rwa [List.take_length] at this
structure Stp where
 parent:Int
 letter:Nat
 nodes:List Nat
structure Bfs (d:Nat→Nat→List Nat) (start:List Nat) (goal:Nat→Bool) (L:List Nat) (N:Nat) (S:List Bool) (st:List Stp) (ws:List (List Nat)) (i j:Nat):Prop where
 len:S.length=N
 wl:ws.length=st.length
 small:∀ (k:Nat) (p:Stp),st[k]?=some p→∀ x∈p.nodes,x<N
 some_:∀ (k:Nat) (p:Stp),st[k]?=some p→p.nodes≠[]
 word:∀ (k:Nat) (p:Stp),st[k]?=some p→(k=0∧p.parent = -1∧ws.getD k []=[])∨(∃ a b:Nat,p.parent=(a:Int)∧a<k∧(a<i∨a=i∧b<j)∧L[b]?=some p.letter∧ws.getD k []=ws.getD a []++[p.letter])
 goes:∀ (k:Nat) (p:Stp),st[k]?=some p→∀ x∈p.nodes,zbt d start (ws.getD k []) x
 incr:∀ a b:Nat,a<b→b<st.length→zbY (ws.getD a [])<zbY (ws.getD b [])
 seen:∀ x,x<N→(S.getD x true=true↔∃ (k:Nat) (p:Stp),st[k]?=some p∧x∈p.nodes)
 first:∀ x∈start,∃ (p:Stp),st[0]?=some p∧x∈p.nodes
 zero:∀ p,st[0]?=some p→ws.getD 0 []=[]
 proc:∀ (k:Nat) (p:Stp) (b l:Nat),st[k]?=some p→L[b]?=some l→(k<i∨k=i∧b<j)→∀ n∈p.nodes,∀ x∈d n l,∃ (k':Nat) (q:Stp),st[k']?=some q∧x∈q.nodes∧zbY (ws.getD k' [])≤zbY (ws.getD k []++[l])
 dull:∀ (k:Nat) (p:Stp),st[k]?=some p→∀ x∈p.nodes,goal x=false
section
variable {d:Nat→Nat→List Nat} {start:List Nat} {goal:Nat→Bool} {L:List Nat} {N:Nat} {S:List Bool} {st:List Stp} {ws:List (List Nat)} {i j:Nat}
def Rise (L:List Nat):Prop:=(∀ l∈L,l<6)∧∀ (a b x y:Nat),L[a]?=some x→L[b]?=some y→a<b→x<y
theorem Bfs.before (h:Bfs d start goal L N S st ws i j) {V:Nat}(hV:∀ (k:Nat) (p:Stp) (b l:Nat),st[k]?=some p→L[b]?=some l→zbY (ws.getD k []++[l])<V→(k<i∨k=i∧b<j)) :
  ∀ (m:Nat) (v:List Nat),v.length≤m→(∀ l∈v,l∈L)→zbY v<V→∀ x,zbt d start v x→∃ (k:Nat) (p:Stp),st[k]?=some p∧x∈p.nodes∧zbY (ws.getD k [])≤zbY v:=by
 intro m
 induction m with
 |zero =>
  intro v hv _ _ x hx
  obtain rfl:v=[]:=List.eq_nil_of_length_eq_zero (by omega)
  obtain⟨p,hp,hxp⟩:=h.first x hx.inv_nil
  exact⟨0,p,hp,hxp,by rw [h.zero p hp];exact Nat.le_refl _⟩
 |succ m ih =>
  intro v hv hl hlt x hx
  rcases zaa v with rfl|⟨u,l,rfl⟩
  ·obtain⟨p,hp,hxp⟩:=h.first x hx.inv_nil
   exact⟨0,p,hp,hxp,by rw [h.zero p hp];exact Nat.le_refl _⟩
  ·obtain⟨n,hn,hxn⟩:=hx.inv
   simp only [List.length_append,List.length_singleton] at hv
   have hlL:=hl l (by simp)
   obtain⟨b,hb⟩:=List.getElem?_of_mem hlL
   rw [zag] at hlt
   obtain⟨k,p,hp,hnp,hk⟩:=ih u (by omega) (fun x hx=>hl x (by simp [hx])) (by omega) n hn
   have hlt2:zbY (ws.getD k []++[l])<V:=by rw [zag];omega
   obtain⟨k',q,hq,hxq,hk'⟩:=h.proc k p b l hp hb (hV k p b l hp hb hlt2) n hnp x hxn
   exact⟨k',q,hq,hxq,by rw [zag] at hk' ⊢;omega⟩
theorem Bfs.none (h:Bfs d start goal L N S st ws i j)(hend:st.length≤i) {v:List Nat}(hv:∀ l∈v,l∈L) {x:Nat}(hx:zbt d start v x):goal x=false:=by
 by_cases hst:st=[]
 ·subst hst
  exfalso
  have:∀ (m:Nat) (v:List Nat),v.length≤m→∀ x,¬ zbt d start v x:=by
   intro m
   induction m with
   |zero =>
    intro v hv x hx
    obtain rfl:v=[]:=List.eq_nil_of_length_eq_zero (by omega)
    obtain⟨p,hp,_⟩:=h.first x hx.inv_nil
    simp at hp
   |succ m ih =>
    intro v hv x hx
    rcases zaa v with rfl|⟨u,l,rfl⟩
    ·obtain⟨p,hp,_⟩:=h.first x hx.inv_nil
     simp at hp
    ·obtain⟨n,hn,_⟩:=hx.inv
     exact ih u (by simp at hv;omega) n hn
  exact this v.length v (Nat.le_refl _) x hx
 ·obtain⟨k,p,hp,hxp,_⟩:=h.before (V:=zbY v+1) (fun k p b l hp hb _=>Or.inl (by have:=(List.getElem?_eq_some_iff.1 hp).1;omega)) v.length v (Nat.le_refl _) hv (by omega) x hx
  exact h.dull k p hp x hxp
theorem Bfs.ahead (h:Bfs d start goal L N S st ws i j)(hL:Rise L) {l:Nat}(hi:i<st.length)(hl:L[j]?=some l) {k:Nat}(hk:k<st.length):zbY (ws.getD k [])<zbY (ws.getD i []++[l]):=by
 rw [zag]
 rcases h.word k _ (List.getElem?_eq_getElem hk) with ⟨_,_,e⟩|⟨a,b,_,hak,hab,hb,e⟩
 ·rw [e,zcs];omega
 ·rw [e,zag]
  have hbl:=hL.1 _ (List.mem_of_getElem? hb)
  rcases hab with h1|⟨rfl,h2⟩
  ·have:=h.incr a i h1 hi
   omega
  ·have:=hL.2 b j _ _ hb hl h2
   omega
theorem Bfs.taken (h:Bfs d start goal L N S st ws i j)(hL:Rise L) {l:Nat}(hi:i<st.length)(hl:L[j]?=some l) (k:Nat) (p:Stp) (b m:Nat)(hp:st[k]?=some p)(hb:L[b]?=some m)(hlt:zbY (ws.getD k []++[m])<zbY (ws.getD i []++[l])):k<i∨k=i∧b<j:=by
 rw [zag,zag] at hlt
 have hk:=(List.getElem?_eq_some_iff.1 hp).1
 have h1:=hL.1 _ (List.mem_of_getElem? hb)
 have h2:=hL.1 _ (List.mem_of_getElem? hl)
 rcases Nat.lt_trichotomy k i with h3|h3|h3
 ·exact Or.inl h3
 ·subst h3
  refine Or.inr ⟨rfl,?_⟩
  rcases Nat.lt_trichotomy b j with h4|h4|h4
  ·exact h4
  ·subst h4
   rw [hb] at hl
   have:=Option.some.inj hl
   omega
  ·have:=hL.2 j b _ _ hl hb h4
   omega
 ·have:=h.incr i k h3 hk
  omega
theorem Bfs.found (h:Bfs d start goal L N S st ws i j)(hL:Rise L) {l:Nat}(hi:i<st.length)(hl:L[j]?=some l) {v:List Nat}(hv:∀ x∈v,x∈L)(hlt:zbY v<zbY (ws.getD i []++[l])) {x:Nat}(hx:zbt d start v x):goal x=false:=by
 obtain⟨k,p,hp,hxp,_⟩:=h.before (fun k p b m hp hb hlt=>h.taken hL hi hl k p b m hp hb hlt) v.length v (Nat.le_refl _) hv hlt x hx
 exact h.dull k p hp x hxp
theorem Bfs.row (h:Bfs d start goal L N S st ws i j)(hj:L.length≤j):Bfs d start goal L N S st ws (i+1) 0:=
 { h with
  word:=fun k p hp=>by
   rcases h.word k p hp with h1|⟨a,b,h1,h2,h3,h4⟩
   ·exact Or.inl h1
   ·exact Or.inr ⟨a,b,h1,h2,by omega,h4⟩
  proc:=fun k p b l hp hb hk=>by
   have hbl:=(List.getElem?_eq_some_iff.1 hb).1
   exact h.proc k p b l hp hb (by omega) }
def addS (st:List Stp) (a:Int) (l:Nat) (fr:List Nat):List Stp:=if fr=[] then st else st++[⟨a,l,fr⟩]
def addW (ws:List (List Nat)) (w:List Nat) (fr:List Nat):List (List Nat):=if fr=[] then ws else ws++[w]
theorem zcf {ws:List (List Nat)} {k:Nat} (w:List Nat)(hk:k<ws.length):(ws++[w]).getD k []=ws.getD k []:=by
 rw [List.getD_eq_getElem?_getD,List.getD_eq_getElem?_getD,List.getElem?_append_left hk]
theorem zdc {ws:List (List Nat)} (w:List Nat):(ws++[w]).getD ws.length []=w:=by
 rw [List.getD_eq_getElem?_getD,List.getElem?_append_right (Nat.le_refl _),Nat.sub_self]
 rfl
theorem Bfs.step (h:Bfs d start goal L N S st ws i j)(hL:Rise L) {l:Nat} {pi:Stp}(hi:st[i]?=some pi)(hl:L[j]?=some l) {rs:List Nat}(hrs:∀ x,x∈rs↔∃ n∈pi.nodes,x∈d n l)(hN:∀ x∈rs,x<N)(hg:∀ x∈(vis S rs).2,goal x=false) :
  Bfs d start goal L N (vis S rs).1 (addS st i l (vis S rs).2) (addW ws (ws.getD i []++[l]) (vis S rs).2) i (j+1):=by
 have hil:=(List.getElem?_eq_some_iff.1 hi).1
 obtain⟨v1,v2,v3⟩:=zcY S rs (fun n hn=>by rw [h.len];exact hN n hn)
 generalize (vis S rs).1=T at *
 generalize (vis S rs).2=fr at *
 have hahead:=fun k hk=>h.ahead hL hil hl (k:=k) hk
 by_cases hfr:fr=[]
 ·subst hfr
  rw [addS,if_pos rfl,addW,if_pos rfl]
  have hsub:∀ x∈rs,S.getD x true=true:=fun x hx=>by
   cases hS:S.getD x true
   ·have:=(v3 x).2 ⟨hx,hS⟩
    cases this
   ·rfl
  refine { h with len:=v1.trans h.len,word:=?_,seen:=?_,proc:=?_ }
  ·intro k p hp
   rcases h.word k p hp with h1|⟨a,b,h1,h2,h3,h4⟩
   ·exact Or.inl h1
   ·exact Or.inr ⟨a,b,h1,h2,by omega,h4⟩
  ·intro x hx
   rw [v2 x (by rw [h.len];exact hx)]
   constructor
   ·rintro (h1|h1)
    ·exact (h.seen x hx).1 h1
    ·exact (h.seen x hx).1 (hsub x h1)
   ·intro h1
    exact Or.inl ((h.seen x hx).2 h1)
  ·intro k p b m hp hb hk n hn x hx
   by_cases hkj:k=i∧b=j
   ·obtain⟨rfl,rfl⟩:=hkj
    rw [hi] at hp
    obtain rfl:=Option.some.inj hp
    rw [hl] at hb
    obtain rfl:=Option.some.inj hb
    have hxr:=(hrs x).2 ⟨n,hn,hx⟩
    obtain⟨k',q,hq,hxq⟩:=(h.seen x (hN x hxr)).1 (hsub x hxr)
    exact⟨k',q,hq,hxq,Nat.le_of_lt (hahead k' (List.getElem?_eq_some_iff.1 hq).1)⟩
   ·exact h.proc k p b m hp hb (by omega) n hn x hx
 ·rw [addS,if_neg hfr,addW,if_neg hfr]
  have hold:∀ {k:Nat} {p:Stp},(st++[(⟨i,l,fr⟩:Stp)])[k]?=some p→(k<st.length∧st[k]?=some p)∨(k=st.length∧p=⟨i,l,fr⟩):=by
   intro k p hp
   rcases Nat.lt_trichotomy k st.length with hk|hk|hk
   ·rw [List.getElem?_append_left hk] at hp
    exact Or.inl ⟨hk,hp⟩
   ·rw [List.getElem?_append_right (by omega),hk,Nat.sub_self] at hp
    exact Or.inr ⟨hk,(Option.some.inj hp).symm⟩
   ·rw [List.getElem?_eq_none (by simp;omega)] at hp
    cases hp
  have hkeep:∀ {k:Nat} {p:Stp},st[k]?=some p→(st++[(⟨i,l,fr⟩:Stp)])[k]?=some p:=fun {k p} hp=>by
   rw [List.getElem?_append_left (List.getElem?_eq_some_iff.1 hp).1];exact hp
  have hnew:(st++[(⟨i,l,fr⟩:Stp)])[st.length]?=some ⟨i,l,fr⟩:=by rw [List.getElem?_append_right (Nat.le_refl _),Nat.sub_self];rfl
  have hwl:=h.wl
  have hgl:∀ k,k<st.length→(ws++[ws.getD i []++[l]]).getD k []=ws.getD k []:=fun k hk=>zcf _ (by omega)
  have hgn:(ws++[ws.getD i []++[l]]).getD st.length []=ws.getD i []++[l]:=by rw [← hwl];exact zdc _
  have hfrs:∀ x∈fr,x∈rs∧S.getD x true=false:=fun x hx=>(v3 x).1 hx
  refine⟨v1.trans h.len,by simp [hwl],?_,?_,?_,?_,?_,?_,?_,?_,?_,?_⟩
  ·intro k p hp x hx
   rcases hold hp with ⟨_,h1⟩|⟨_,rfl⟩
   ·exact h.small k p h1 x hx
   ·exact hN x (hfrs x hx).1
  ·intro k p hp
   rcases hold hp with ⟨_,h1⟩|⟨_,rfl⟩
   ·exact h.some_ k p h1
   ·exact hfr
  ·intro k p hp
   rcases hold hp with ⟨h0,h1⟩|⟨rfl,rfl⟩
   ·rcases h.word k p h1 with ⟨e0,e1,e2⟩|⟨a,b,e1,e2,e3,e4,e5⟩
    ·exact Or.inl ⟨e0,e1,by rw [hgl k h0];exact e2⟩
    ·exact Or.inr ⟨a,b,e1,e2,by omega,e4,by rw [hgl k h0,hgl a (by omega)];exact e5⟩
   ·exact Or.inr ⟨i,j,rfl,hil,Or.inr ⟨rfl,by omega⟩,hl,by rw [hgn,hgl i hil]⟩
  ·intro k p hp x hx
   rcases hold hp with ⟨h0,h1⟩|⟨rfl,rfl⟩
   ·rw [hgl k h0];exact h.goes k p h1 x hx
   ·rw [hgn]
    obtain⟨n,hn,hxn⟩:=(hrs x).1 (hfrs x hx).1
    exact .snoc (h.goes i pi hi n hn) hxn
  ·intro a b hab hb
   simp only [List.length_append,List.length_singleton] at hb
   by_cases hbl:b<st.length
   ·rw [hgl a (by omega),hgl b hbl];exact h.incr a b hab hbl
   ·obtain rfl:b=st.length:=by omega
    rw [hgl a hab,hgn];exact hahead a hab
  ·intro x hx
   rw [v2 x (by rw [h.len];exact hx)]
   constructor
   ·rintro (h1|h1)
    ·obtain⟨k,p,hp,hxp⟩:=(h.seen x hx).1 h1
     exact⟨k,p,hkeep hp,hxp⟩
    ·cases hS:S.getD x true
     ·exact⟨_,_,hnew,(v3 x).2 ⟨h1,hS⟩⟩
     ·obtain⟨k,p,hp,hxp⟩:=(h.seen x hx).1 hS
      exact⟨k,p,hkeep hp,hxp⟩
   ·rintro ⟨k,p,hp,hxp⟩
    rcases hold hp with ⟨_,h1⟩|⟨_,rfl⟩
    ·exact Or.inl ((h.seen x hx).2 ⟨k,p,h1,hxp⟩)
    ·exact Or.inr (hfrs x hxp).1
  ·intro x hx
   obtain⟨p,hp,hxp⟩:=h.first x hx
   exact⟨p,hkeep hp,hxp⟩
  ·intro p hp
   rcases hold hp with ⟨h0,h1⟩|⟨h0,_⟩
   ·rw [hgl 0 h0];exact h.zero p h1
   ·omega
  ·intro k p b m hp hb hk n hn x hx
   rcases hold hp with ⟨h0,h1⟩|⟨rfl,rfl⟩
   ·rw [hgl k h0]
    by_cases hkj:k=i∧b=j
    ·obtain⟨rfl,rfl⟩:=hkj
     rw [hi] at h1
     obtain rfl:=Option.some.inj h1
     rw [hl] at hb
     obtain rfl:=Option.some.inj hb
     have hxr:=(hrs x).2 ⟨n,hn,hx⟩
     cases hS:S.getD x true
     ·exact⟨_,_,hnew,(v3 x).2 ⟨hxr,hS⟩,by rw [hgn];exact Nat.le_refl _⟩
     ·obtain⟨k',q,hq,hxq⟩:=(h.seen x (hN x hxr)).1 hS
      have hk':=(List.getElem?_eq_some_iff.1 hq).1
      exact⟨k',q,hkeep hq,hxq,by rw [hgl k' hk'];exact Nat.le_of_lt (hahead k' hk')⟩
    ·obtain⟨k',q,hq,hxq,hle⟩:=h.proc k p b m h1 hb (by omega) n hn x hx
     have hk':=(List.getElem?_eq_some_iff.1 hq).1
     exact⟨k',q,hkeep hq,hxq,by rw [hgl k' hk'];exact hle⟩
   ·omega
  ·intro k p hp x hx
   rcases hold hp with ⟨_,h1⟩|⟨_,rfl⟩
   ·exact h.dull k p h1 x hx
   ·exact hg x hx
theorem Bfs.begin_ {d:Nat→Nat→List Nat} {start:List Nat} {goal:Nat→Bool} {L:List Nat} {N:Nat}(hN:∀ x∈start,x<N)(hg:∀ x∈(vis (List.replicate N false) start).2,goal x=false) :
  Bfs d start goal L N (vis (List.replicate N false) start).1 (addS [] (-1) 0 (vis (List.replicate N false) start).2) (addW [] [] (vis (List.replicate N false) start).2) 0 0:=by
 obtain⟨v1,v2,v3⟩:=zcY (List.replicate N false) start (fun n hn=>by simpa using hN n hn)
 have hf:∀ x,x<N→(List.replicate N false).getD x true=false:=fun x hx=>by simp [List.getD_eq_getElem?_getD,hx]
 generalize (vis (List.replicate N false) start).1=T at *
 generalize (vis (List.replicate N false) start).2=fr at *
 have hfr:∀ x,x∈fr↔x∈start:=fun x=>(v3 x).trans ⟨fun h=>h.1,fun h=>⟨h,hf x (hN x h)⟩⟩
 have hT:∀ x,x<N→(T.getD x true=true↔x∈start):=fun x hx=>by
  rw [v2 x (by simpa using hx),hf x hx]
  simp
 by_cases he:fr=[]
 ·subst he
  rw [addS,if_pos rfl,addW,if_pos rfl]
  have hs:∀ x,x∉start:=fun x hx=>by have:=(hfr x).2 hx;cases this
  refine⟨by simpa using v1,rfl,fun k p hp=>by simp at hp,fun k p hp=>by simp at hp,fun k p hp=>by simp at hp,fun k p hp=>by simp at hp,fun a b _ hb=>by simp at hb,fun x hx=>?_,fun x hx=>absurd hx (hs x),fun p hp=>by simp at hp,fun k p b l hp=>by simp at hp,fun k p hp=>by simp at hp⟩
  rw [hT x hx]
  exact⟨fun h=>absurd h (hs x),fun ⟨k,p,hp,_⟩=>by simp at hp⟩
 ·rw [addS,if_neg he,addW,if_neg he]
  have hold:∀ {k:Nat} {p:Stp},([]++[(⟨-1,0,fr⟩:Stp)])[k]?=some p→k=0∧p=⟨-1,0,fr⟩:=by
   intro k p hp
   cases k with
   |zero=>exact⟨rfl,by simpa using hp.symm⟩
   |succ k=>simp at hp
  refine⟨by simpa using v1,rfl,?_,?_,?_,?_,?_,?_,?_,?_,?_,?_⟩
  ·intro k p hp x hx
   obtain⟨rfl,rfl⟩:=hold hp
   exact hN x ((hfr x).1 hx)
  ·intro k p hp
   obtain⟨rfl,rfl⟩:=hold hp
   exact he
  ·intro k p hp
   obtain⟨rfl,rfl⟩:=hold hp
   exact Or.inl ⟨rfl,rfl,rfl⟩
  ·intro k p hp x hx
   obtain⟨rfl,rfl⟩:=hold hp
   exact .nil ((hfr x).1 hx)
  ·intro a b hab hb
   simp at hb;omega
  ·intro x hx
   rw [hT x hx]
   constructor
   ·intro h
    exact⟨0,_,rfl,(hfr x).2 h⟩
   ·rintro ⟨k,p,hp,hxp⟩
    obtain⟨rfl,rfl⟩:=hold hp
    exact (hfr x).1 hxp
  ·intro x hx
   exact⟨_,rfl,(hfr x).2 hx⟩
  ·intro p _
   rfl
  ·intro k p b l hp _ hk
   omega
  ·intro k p hp x hx
   obtain⟨rfl,rfl⟩:=hold hp
   exact hg x hx
end
end Go.Proofs.YtfcjhpodichpjaaDoor
namespace Go.Proofs.YtfcjhpodichpjaaDoor
theorem visN_cnt (st:List Bool × List Nat) (n:Nat):(visN st n).1.count true+st.2.length=st.1.count true+(visN st n).2.length:=by
 unfold visN
 cases h:st.1.getD n true
 ·have hn:n<st.1.length:=by
   rcases Nat.lt_or_ge n st.1.length with h1|h1
   ·exact h1
   ·rw [List.getD_eq_getElem?_getD,List.getElem?_eq_none h1] at h;cases h
  have hv:st.1[n]=false:=by rw [List.getD_eq_getElem?_getD,List.getElem?_eq_getElem hn] at h;exact h
  simp only [Bool.false_eq_true,if_false]
  rw [List.count_set hn,hv]
  simp
  omega
 ·simp
theorem foldl_cnt (ns:List Nat) (st:List Bool × List Nat):(ns.foldl visN st).1.count true+st.2.length=st.1.count true+(ns.foldl visN st).2.length:=by
 induction ns generalizing st with
 |nil=>rfl
 |cons n r ih =>
  have h1:=ih (visN st n)
  have h2:=visN_cnt st n
  rw [List.foldl_cons]
  omega
theorem vis_cnt (S:List Bool) (ns:List Nat):(vis S ns).1.count true=S.count true+(vis S ns).2.length:=by
 have:=foldl_cnt ns (S,[])
 simpa [vis] using this
def Cnt (S:List Bool) (st:List Stp):Prop:=(st.map fun p=>p.nodes.length).sum=S.count true
theorem Cnt.add {S:List Bool} {st:List Stp}(h:Cnt S st) (a:Int) (l:Nat) (ns:List Nat):Cnt (vis S ns).1 (addS st a l (vis S ns).2):=by
 unfold Cnt at h ⊢
 rw [vis_cnt,addS]
 by_cases he:(vis S ns).2=[]
 ·rw [if_pos he,he,h];rfl
 ·rw [if_neg he]
  simp [h]
theorem Cnt.nil (N:Nat):Cnt (List.replicate N false) []:=by
 unfold Cnt
 simp [List.count_replicate]
theorem sum_len {l:List Nat}(h:∀ x∈l,1≤x):l.length≤l.sum:=by
 induction l with
 |nil=>simp
 |cons x r ih =>
  have h1:=ih (fun y hy=>h y (by simp [hy]))
  have h2:=h x (by simp)
  simp
  omega
theorem sum_mem {l:List Nat} {x:Nat}(h:x∈l):x≤l.sum:=by
 induction l with
 |nil=>cases h
 |cons y r ih =>
  rcases List.mem_cons.1 h with rfl|h
  ·simp
  ·have:=ih h
   simp
   omega
theorem Cnt.steps {S:List Bool} {st:List Stp}(h:Cnt S st)(hs:∀ (k:Nat) (p:Stp),st[k]?=some p→p.nodes≠[]):st.length≤S.length:=by
 unfold Cnt at h
 have h1:(st.map fun p=>p.nodes.length).length≤(st.map fun p=>p.nodes.length).sum:=sum_len (fun x hx=>by
  obtain⟨p,hp,rfl⟩:=List.mem_map.1 hx
  obtain⟨k,hk⟩:=List.getElem?_of_mem hp
  have:=hs k p hk
  have:=List.length_pos_iff.2 this
  omega)
 rw [List.length_map,h] at h1
 exact Nat.le_trans h1 List.count_le_length
theorem Cnt.nodes {S:List Bool} {st:List Stp}(h:Cnt S st) {k:Nat} {p:Stp}(hp:st[k]?=some p):p.nodes.length≤S.length:=by
 unfold Cnt at h
 have h1:=sum_mem (List.mem_map.2 ⟨p,List.mem_of_getElem? hp,rfl⟩:p.nodes.length∈st.map fun p=>p.nodes.length)
 rw [h] at h1
 exact Nat.le_trans h1 List.count_le_length
def reach (d:Nat→Nat→List Nat) (l:Nat) (ns:List Nat):List Nat:=(ns.map fun n=>d n l).flatten
theorem zdg {d:Nat→Nat→List Nat} {l:Nat} {ns:List Nat} {x:Nat}:x∈reach d l ns↔∃ n∈ns,x∈d n l:=by
 unfold reach
 rw [List.mem_flatten]
 exact⟨fun ⟨ys,h1,h2⟩=>by obtain⟨n,hn,rfl⟩:=List.mem_map.1 h1;exact⟨n,hn,h2⟩,fun ⟨n,hn,h2⟩=>⟨_,List.mem_map.2 ⟨n,hn,rfl⟩,h2⟩⟩
theorem reach_snoc (d:Nat→Nat→List Nat) (l:Nat) (ns:List Nat) (n:Nat):reach d l (ns++[n])=reach d l ns++d n l:=by simp [reach]
theorem reach_take {d:Nat→Nat→List Nat} {l k n:Nat} {ns:List Nat}(h:ns[k]?=some n):reach d l (ns.take (k+1))=reach d l (ns.take k)++d n l:=by
 rw [List.take_add_one,h]
 exact reach_snoc _ _ _ _
theorem reach_len {d:Nat→Nat→List Nat} {l D:Nat} {ns:List Nat}(h:∀ n∈ns,(d n l).length≤D):(reach d l ns).length≤ns.length*D:=by
 induction ns with
 |nil=>simp [reach]
 |cons n r ih =>
  have h1:=ih (fun x hx=>h x (by simp [hx]))
  have h2:=h n (by simp)
  simp only [reach,List.map_cons,List.flatten_cons,List.length_append,List.length_cons,Nat.add_mul,Nat.one_mul] at h1 ⊢
  omega
def Found (d:Nat→Nat→List Nat) (start:List Nat) (goal:Nat→Bool) (L:List Nat) (v:List Nat):Prop:=
 (∀ l∈v,l∈L)∧(∃ x,zbt d start v x∧goal x=true)∧∀ u,(∀ l∈u,l∈L)→zbY u<zbY v→∀ x,zbt d start u x→goal x=false
def Lost (d:Nat→Nat→List Nat) (start:List Nat) (goal:Nat→Bool) (L:List Nat):Prop:=∀ v,(∀ l∈v,l∈L)→∀ x,zbt d start v x→goal x=false
end Go.Proofs.YtfcjhpodichpjaaDoor
namespace Go.Proofs.YtfcjhpodichpjaaDoor
open Go Go.RowKit
def cho (s:Sys) (i l:Nat):List Nat:=if s.al.toNat.testBit l then letters (succ s.edges i l) 32 else [i]
def nx:List Sys→Nat→Nat→List Nat × Nat × Nat
 |[],m,_=>([0],1,m)
 |s :: r,m,l=>((cho s ((nx r m l).2.2 % s.st.toNat) l).flatMap (fun q=>(nx r m l).1.map fun x=>q*(nx r m l).2.1+x),(nx r m l).2.1*s.st.toNat,(nx r m l).2.2 / s.st.toNat)
def Sml (s:Sys):Prop:=1≤s.st∧s.st≤16∧Few s.st.toNat s.edges∧0≤s.al∧s.al≤63
theorem zee (a k:Nat):(letters a k).Nodup:=List.Pairwise.filter _ List.nodup_range
theorem zac {a k x:Nat}:x∈letters a k↔x<k∧a.testBit x=true:=by simp [letters,List.mem_filter]
theorem cho_lt {s:Sys}(h:Sml s) {i l:Nat}(hi:i<s.st.toNat):∀ q∈cho s i l,q<s.st.toNat:=by
 intro q hq
 unfold cho at hq
 split at hq
 ·have hb:=(zac.1 hq).2
  rcases Nat.lt_or_ge q s.st.toNat with h1|h1
  ·exact h1
  ·have:=Nat.testBit_lt_two_pow (Nat.lt_of_lt_of_le (succ_lt h.2.2.1 i l) (Nat.pow_le_pow_right (by omega) h1))
   rw [hb] at this;cases this
 ·rw [List.mem_singleton.1 hq];exact hi
theorem cho_nodup (s:Sys) (i l:Nat):(cho s i l).Nodup:=by
 unfold cho
 split
 ·exact zee _ _
 ·simp
theorem nodup_len {l:List Nat}(h:l.Nodup) {p:Nat}(hl:∀ x∈l,x<p):l.length≤p:=by
 have h1:l ⊆ List.range p:=fun x hx=>List.mem_range.2 (hl x hx)
 have:=List.Nodup.length_le_of_subset h h1
 simpa using this
theorem cho_len {s:Sys}(h:Sml s) {i l:Nat}(hi:i<s.st.toNat):(cho s i l).length≤s.st.toNat:=nodup_len (cho_nodup s i l) (cho_lt h hi)
theorem flat_nodup {l R:List Nat} {W:Nat}(hl:l.Nodup)(hR:R.Nodup)(hW:∀ x∈R,x<W):(l.flatMap fun q=>R.map fun x=>q*W+x).Nodup:=by
 induction l with
 |nil=>simp
 |cons a r ih =>
  rw [List.flatMap_cons]
  rw [List.nodup_cons] at hl
  refine List.nodup_append.2 ⟨?_,ih hl.2,?_⟩
  ·exact List.Pairwise.map _ (fun a b h=>by simpa using h) hR
  ·intro x hx y hy hxy
   subst hxy
   obtain⟨u,hu,rfl⟩:=List.mem_map.1 hx
   obtain⟨b,hb,hy⟩:=List.mem_flatMap.1 hy
   obtain⟨v,hv,he⟩:=List.mem_map.1 hy
   have h1:=hW u hu
   have h2:=hW v hv
   have:a=b:=by
    have e1:(a*W+u) / W=a:=by rw [Nat.add_comm,Nat.add_mul_div_right _ _ (by omega),Nat.div_eq_of_lt h1,Nat.zero_add]
    have e2:(b*W+v) / W=b:=by rw [Nat.add_comm,Nat.add_mul_div_right _ _ (by omega),Nat.div_eq_of_lt h2,Nat.zero_add]
    rw [← e1,← e2,he]
   subst this
   exact hl.1 hb
theorem nx_facts {ss:List Sys}(h:∀ s∈ss,Sml s) (m l:Nat):1≤(nx ss m l).2.1∧(nx ss m l).2.1≤16 ^ ss.length∧(∀ x∈(nx ss m l).1,x<(nx ss m l).2.1)∧(nx ss m l).1.Nodup∧(nx ss m l).2.2≤m:=by
 induction ss with
 |nil=>simp [nx]
 |cons s r ih =>
  obtain⟨h1,h2,h3,h4,h5⟩:=ih fun s hs=>h s (List.mem_cons_of_mem _ hs)
  have hs:=h s List.mem_cons_self
  have hst:1≤s.st.toNat∧s.st.toNat≤16:=by have:=hs.1;have:=hs.2.1;omega
  refine⟨Nat.mul_pos h1 hst.1,?_,fun x hx=>?_,flat_nodup (cho_nodup _ _ _) h4 h3,Nat.le_trans (Nat.div_le_self _ _) h5⟩
  ·rw [nx,List.length_cons,Nat.pow_succ]
   exact Nat.mul_le_mul h2 hst.2
  ·rw [nx] at hx ⊢
   obtain⟨q,hq,hx⟩:=List.mem_flatMap.1 hx
   obtain⟨y,hy,rfl⟩:=List.mem_map.1 hx
   have hq':=cho_lt hs (Nat.mod_lt _ hst.1) q hq
   have hy':=h3 y hy
   calc q*(nx r m l).2.1+y<q*(nx r m l).2.1+(nx r m l).2.1:=by omega
    _=(q+1)*(nx r m l).2.1:=by rw [Nat.add_mul,Nat.one_mul]
    _≤s.st.toNat*(nx r m l).2.1:=Nat.mul_le_mul_right _ hq'
    _=(nx r m l).2.1*s.st.toNat:=Nat.mul_comm _ _
theorem nx_len {ss:List Sys}(h:∀ s∈ss,Sml s) (m l:Nat):(nx ss m l).1.length≤16 ^ ss.length:=by
 obtain⟨h1,h2,h3,h4,_⟩:=nx_facts h m l
 exact Nat.le_trans (nodup_len h4 h3) h2
def rowB (k n:Nat) (row:List Int):Bool:=decide (row.length=k)&&row.all fun q=>decide (0≤q∧q<n)
def zx (a:Aut):Bool:=
 decide (0≤a.al∧a.al≤63)&&(decide (1≤a.next.length∧a.next.length≤12)&&(decide (a.acc.length=a.next.length)&&a.next.all (rowB (letters a.al.toNat 6).length a.next.length)))
def place (a l:Nat):Nat:=(letters a l).length
def aGo (a:Aut) (q l:Nat):Nat:=if a.al.toNat.testBit l then ((a.next.getD q []).getD (place a.al.toNat l) 0).toNat else q
abbrev Mem:=Nat × (Nat→Nat→List Nat)
def zcl (s:Sys):Mem:=(s.st.toNat,cho s)
def zbg (a:Aut):Mem:=(a.next.length,fun q l=>[aGo a q l])
def zaM:List Nat→Nat
 |[]=>1
 |m :: r=>m*zaM r
def zu (ms:List Mem):Nat:=zaM (ms.map Prod.fst)
theorem zcB (m:Mem) (r:List Mem):zu (m :: r)=m.1*zu r:=rfl
theorem prodS_append (a b:List Nat):zaM (a++b)=zaM a*zaM b:=by
 induction a with
 |nil=>simp [zaM]
 |cons x r ih=>rw [List.cons_append,zaM,zaM,ih,Nat.mul_assoc]
theorem zaJ (a b:List Mem):zu (a++b)=zu a*zu b:=by
 unfold zu
 rw [List.map_append,prodS_append]
theorem prodS_pos {l:List Nat}(h:∀ x∈l,1≤x):1≤zaM l:=by
 induction l with
 |nil=>simp [zaM]
 |cons x r ih=>exact Nat.mul_pos (h x (by simp)) (ih fun y hy=>h y (by simp [hy]))
def pnx:List Mem→Nat→Nat→List Nat
 |[],_,_=>[0]
 |m :: r,x,l=>(m.2 (x / zu r % m.1) l).flatMap fun q=>(pnx r x l).map fun y=>q*zu r+y
def zca (m:Mem):Prop:=1≤m.1∧∀ q l,q<m.1→l<6→∀ x∈m.2 q l,x<m.1
theorem zdk {ms:List Mem}(h:∀ m∈ms,zca m):1≤zu ms:=prodS_pos fun x hx=>by
 obtain⟨m,hm,rfl⟩:=List.mem_map.1 hx
 exact (h m hm).1
theorem pnx_lt {ms:List Mem}(h:∀ m∈ms,zca m) {x l:Nat}(hl:l<6):∀ y∈pnx ms x l,y<zu ms:=by
 induction ms with
 |nil=>intro y hy;simp [pnx] at hy;subst hy;simp [zu,zaM]
 |cons m r ih =>
  intro y hy
  rw [pnx] at hy
  obtain⟨q,hq,hy⟩:=List.mem_flatMap.1 hy
  obtain⟨z,hz,rfl⟩:=List.mem_map.1 hy
  have h1:=(h m (by simp)).2 _ l (Nat.mod_lt _ (h m (by simp)).1) hl q hq
  have h2:=ih (fun m hm=>h m (by simp [hm])) z hz
  rw [zcB]
  calc q*zu r+z<q*zu r+zu r:=by omega
   _=(q+1)*zu r:=by rw [Nat.add_mul,Nat.one_mul]
   _≤m.1*zu r:=Nat.mul_le_mul_right _ h1
theorem pnx_append (a b:List Mem) (x l:Nat):pnx (a++b) x l=(pnx a (x / zu b) l).flatMap fun q=>(pnx b x l).map fun y=>q*zu b+y:=by
 induction a with
 |nil=>simp [pnx]
 |cons m r ih =>
  rw [List.cons_append,pnx,pnx,ih,zaJ,List.flatMap_assoc]
  rw [Nat.div_div_eq_div_mul,Nat.mul_comm (zu b) (zu r)]
  congr 1
  funext q
  rw [List.map_flatMap,List.flatMap_map]
  congr 1
  funext z
  rw [List.map_map]
  congr 1
  funext y
  simp only [Function.comp]
  rw [Nat.add_mul,Nat.mul_assoc,Nat.add_assoc]
theorem nx_pnx (ss:List Sys) (m l:Nat):nx ss m l=(pnx (ss.map zcl) m l,zu (ss.map zcl),m / zu (ss.map zcl)):=by
 induction ss with
 |nil=>simp [nx,pnx,zu,zaM]
 |cons s r ih =>
  rw [nx,ih,List.map_cons,pnx,zcB]
  simp only [zcl]
  rw [Nat.div_div_eq_div_mul,Nat.mul_comm (zu _) s.st.toNat]
theorem pnx_two (a p:Aut) (x l:Nat):pnx [zbg a,zbg p] x l=[aGo a (x / p.next.length % a.next.length) l*p.next.length+aGo p (x % p.next.length) l]:=by
 simp [pnx,zbg,zu,zaM]
theorem pnx_under (ss:List Sys) (a p:Aut) (x l:Nat) :
  pnx (ss.map zcl++[zbg a,zbg p]) x l=(nx ss (x / p.next.length / a.next.length) l).1.map fun y=>y*a.next.length*p.next.length+(aGo a (x / p.next.length % a.next.length) l*p.next.length+aGo p (x % p.next.length) l):=by
 have hp:zu [zbg a,zbg p]=a.next.length*p.next.length:=by simp [zu,zaM,zbg]
 rw [pnx_append,pnx_two,nx_pnx,hp,Nat.div_div_eq_div_mul,Nat.mul_comm p.next.length a.next.length]
 simp only [List.map_cons,List.map_nil,← List.map_eq_flatMap,Nat.mul_assoc]
def free:Aut:=⟨0,[[]],[true]⟩
theorem zei {s:Sys}(h:Sml s):zca (zcl s):=⟨by have:=h.1;simp only [zcl];omega,fun q l hq hl x hx=>cho_lt h hq x hx⟩
theorem zy {a:Aut}(h:zx a=true):(0≤a.al∧a.al≤63)∧(1≤a.next.length∧a.next.length≤12)∧a.acc.length=a.next.length∧∀ (q:Nat) (row:List Int),a.next[q]?=some row→row.length=(letters a.al.toNat 6).length∧∀ x∈row,0≤x∧x<a.next.length:=by
 simp only [zx,Bool.and_eq_true,decide_eq_true_eq,List.all_eq_true] at h
 obtain⟨h1,h2,h3,h4⟩:=h
 refine⟨h1,h2,h3,fun q row hr=>?_⟩
 have:=h4 row (List.mem_of_getElem? hr)
 simp only [rowB,Bool.and_eq_true,decide_eq_true_eq,List.all_eq_true] at this
 exact this
def Fit (N:Nat) (a:Aut):Prop:=(0≤a.al∧a.al≤63)∧(1≤a.next.length∧a.next.length≤N)∧a.acc.length=a.next.length∧∀ (q:Nat) (row:List Int),a.next[q]?=some row→row.length=(letters a.al.toNat 6).length∧∀ x∈row,0≤x∧x<a.next.length
theorem Fit.row {N:Nat} {a:Aut}(h:Fit N a):(0≤a.al∧a.al≤63)∧(1≤a.next.length∧a.next.length≤N)∧a.acc.length=a.next.length∧∀ (q:Nat) (row:List Int),a.next[q]?=some row→row.length=(letters a.al.toNat 6).length∧∀ x∈row,0≤x∧x<a.next.length:=h
theorem fit_of {a:Aut}(h:zx a=true):Fit 12 a:=zy h
theorem place_lt {a l:Nat}(hl:l<6)(hb:a.testBit l=true):place a l<(letters a 6).length:=by
 have key:∀ n,l+1≤n→place a l<(letters a n).length:=by
  intro n
  induction n with
  |zero=>intro h;omega
  |succ n ih =>
   intro h
   rw [zaA,List.length_append]
   by_cases e:n=l
   ·subst e
    simp [place,hb]
   ·have:=ih (by omega)
    omega
 exact key 6 (by omega)
theorem aGo_ltF {N:Nat} {a:Aut}(h:Fit N a) {q l:Nat}(hq:q<a.next.length)(hl:l<6):aGo a q l<a.next.length:=by
 obtain⟨_,_,_,hr⟩:=h.row
 unfold aGo
 split
 ·rename_i hb
  have hrow:a.next[q]?=some a.next[q]:=List.getElem?_eq_getElem hq
  obtain⟨h1,h2⟩:=hr q _ hrow
  have hp:=place_lt hl hb
  rw [← h1] at hp
  have hx:=h2 _ (List.getElem_mem hp)
  simp only [List.getD_eq_getElem?_getD,hrow,Option.getD_some,List.getElem?_eq_getElem hp]
  omega
 ·exact hq
theorem aGo_lt {a:Aut}(h:zx a=true) {q l:Nat}(hq:q<a.next.length)(hl:l<6):aGo a q l<a.next.length:=aGo_ltF (fit_of h) hq hl
theorem zbi {a:Aut}(h:zx a=true):zca (zbg a):=⟨(zy h).2.1.1,fun q l hq hl x hx=>by
 simp only [zbg,List.mem_singleton] at hx ⊢
 subst hx
 exact aGo_lt h hq hl⟩
theorem zcy:zx free=true:=by decide
theorem ltE_trans {a b c:Edg}(h:ltE a b=true)(h':ltE b c=true):ltE a c=true:=by
 unfold ltE at *
 (repeat' split at h)<;>(repeat' split at h')<;>(repeat' split)<;>simp only [decide_eq_true_eq] at*<;> omega
def Rising (es:List Edg):Prop:=∀ (a b:Nat) (x y:Edg),es[a]?=some x→es[b]?=some y→a<b→ltE x y=true
theorem rising_of {es:List Edg}(h:∀ k x y,es[k]?=some x→es[k+1]?=some y→ltE x y=true):Rising es:=by
 intro a b x y hx hy hab
 induction b generalizing y with
 |zero=>omega
 |succ b ih =>
  have hb:=(List.getElem?_eq_some_iff.1 hy).1
  obtain⟨z,hz⟩:∃ z,es[b]?=some z:=⟨_,List.getElem?_eq_getElem (by omega)⟩
  have h1:=h b z y hz hy
  rcases Nat.lt_or_ge a b with h2|h2
  ·exact ltE_trans (ih z hz h2) h1
  ·obtain rfl:a=b:=by omega
   rw [hx] at hz
   obtain rfl:=Option.some.inj hz
   exact h1
theorem valid_iff {s:Sys}:zk s=true↔(0≤s.al∧s.al≤63)∧(1≤s.st∧s.st≤16)∧(∀ e∈s.edges,edgB s.al.toNat s.st e=true)∧Rising s.edges:=by
 simp only [zk,Bool.and_eq_true,decide_eq_true_eq,List.all_eq_true,List.mem_range]
 constructor
 ·rintro ⟨h1,h2,h3⟩
  refine⟨h1,h2,fun e he=>?_,rising_of fun k x y hx hy=>?_⟩
  ·obtain⟨k,hk⟩:=List.getElem?_of_mem he
   have:=h3 k (List.getElem?_eq_some_iff.1 hk).1
   rw [zaz,hk] at this
   simp only [Bool.and_eq_true] at this
   exact this.1
  ·have:=h3 (k+1) (List.getElem?_eq_some_iff.1 hy).1
   unfold zaz at this
   rw [hy] at this
   simp only [Nat.add_sub_cancel,hx,Bool.and_eq_true,Bool.or_eq_true,decide_eq_true_eq] at this
   rcases this.2 with h|h
   ·omega
   ·exact h
 ·rintro ⟨h1,h2,h3,h4⟩
  refine⟨h1,h2,fun k hk=>?_⟩
  have hx:s.edges[k]?=some s.edges[k]:=List.getElem?_eq_getElem hk
  unfold zaz
  rw [hx]
  simp only [Bool.and_eq_true,Bool.or_eq_true,decide_eq_true_eq]
  refine⟨h3 _ (List.getElem_mem hk),?_⟩
  cases k with
  |zero=>exact Or.inl rfl
  |succ k =>
   have hy:s.edges[k]?=some s.edges[k]:=List.getElem?_eq_getElem (by omega)
   simp only [Nat.add_sub_cancel,hy]
   exact Or.inr (h4 k (k+1) _ _ hy hx (by omega))
def mems (ss:List Sys) (us:List Aut):List Mem:=ss.map zcl++us.map zbg
theorem sml_of {s:Sys}(h:zk s=true):Sml s:=by
 obtain⟨h1,h2,h3,h4⟩:=valid_iff.1 h
 obtain⟨p,hp,_,_,hf⟩:=zan h
 refine⟨h2.1,h2.2,?_,h1.1,h1.2⟩
 rw [hp]
 exact hf
theorem prodS_le {l:List Nat} {b:Nat}(h:∀ x∈l,x≤b):zaM l≤b ^ l.length:=by
 induction l with
 |nil=>simp [zaM]
 |cons x r ih =>
  rw [zaM,List.length_cons,Nat.pow_succ,Nat.mul_comm]
  exact Nat.mul_le_mul (ih fun y hy=>h y (by simp [hy])) (h x (by simp))
end Go.Proofs.YtfcjhpodichpjaaDoor
