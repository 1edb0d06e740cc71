/- spec.ParseAu -/
import Derived.Test.YtfcjhpodichpjaaGreatJ03
import Derived.Test.YtfcjhpodichpjaaGreatJ01
import Derived.Lib.TrailingZeros
import Derived.Shelf.Spec.TrailingZeros
import Derived.Test.YtfcjhpodichpjaaGreatJ02
import Derived.Deep.DeepCutAuto
import Derived.StillTailTactics
import Derived.Deep.CutBlock
import Derived.Laws.BytesArg
import Derived.Shelf.RegionOpenPlain
import Derived.Deep.LoopGhost
import Derived.Sort.WalkB12
import Derived.Lib.SlicesMore
set_option maxHeartbeats 4000000
set_option maxRecDepth 100000
namespace Go.Proofs.YtfcjhpodichpjaaGreat
open Go Go.RowKit
def RetParA (R M L:Nat) (w:World) (e:Ending) (w':World):Prop:=
 ∃ (b:Aut) (A:Option Addr) (n c:Nat) (A':Option Addr) (n' c':Nat) (ok:Bool),e=.returned (.tuple #[.agg #[.int .i64 b.al,.slice A n c,.slice A' n' c'],.bool ok])∧zO w' w.heap.size A n c A' n' c' b∧Hid (BdA L b)∧Rd w' R M∧Dr R w w'
theorem zgj {R M L Z:Nat} {w W:World}(hR:R<w.heap.size)(h:Rd W R M)(hd:Dr R w W)(hZ:w.heap.size≤Z) :
  Hid (RetParA R M L w (.returned (.tuple #[.agg #[.int .i64 0,.slice none 0 0,.slice none 0 0],.bool false])) (((W.setCell ⟨Z,0,none⟩ (.int .i64 0)).setCell ⟨Z,1,none⟩ (.slice none 0 0)).setCell ⟨Z,2,none⟩ (.slice none 0 0))):=
 za ⟨⟨0,[],[]⟩,none,0,0,none,0,0,false,rfl,⟨⟨[],World.ownsRow_nil _ _ _ _,zB.nil _ _⟩,rfl,World.ownsRow_nil _ _ _ _,rfl⟩,za ⟨Nat.zero_le _,Nat.zero_le _,fun l hl=>by simp at hl⟩,h.frm (zY W Z _ _ _) (fun k hk e=>by omega),((hd.setNew (p:=⟨Z,0,none⟩) hZ _).setNew (p:=⟨Z,1,none⟩) hZ _).setNew (p:=⟨Z,2,none⟩) hZ _⟩
theorem yJ04a1 {P:Prop}(h:P:=by
 go_wp2_with fail
 have hfb:=zai bz4 rfl (.int .i64 0) (.slice none 0 0) (.slice none 0 0)
 have cf:=hfb.cell
 exact bodyPost_ret (v:=.tuple #[.agg #[.int .i64 0,.slice none 0 0,.slice none 0 0],.bool false]) (by simp [results,Tryz.results35,go_sem,cf]) rfl hno4.out
 ):P:=h
theorem yJ04a2 {P:Prop}(h:P:=by
 have cf:=hfb.cell
 exact bodyPost_ret (v:=.tuple #[.agg #[.int .i64 0,.slice none 0 0,.slice none 0 0],.bool false]) (by simp [results,Tryz.results35,go_sem,cf]) rfl hno.out
 ):P:=h
theorem zdv {R M:Nat} {x:ByteArray} {w:World}(h:Rd w R M)(hx:x.size≤1000) :
  Calls Tryz.prog 35 #[.string x] w (RetParA R M (x.size+1) w):=by
 have hRl:=h.lt
 go_enter Tryz.func35,Tryz.ntmps35
 have hx0:=(Ext.refl w).alloc (.cells #[.int .i64 0,.slice none 0 0,.slice none 0 0] 26)
 have bz:=Blk.new w 26 #[.int .i64 0,.slice none 0 0,.slice none 0 0]
 have hz0:=bz.lt
 go_wp2_with fail
 generalize w.alloc (.cells #[.int .i64 0,.slice none 0 0,.slice none 0 0] 26)=w0 at *
 refine (spec_l19Cut1 (s:=x) (by omega)).mono ?_
 rintro e w1 ⟨B,m,d,l,rfl,hml,hm0,zgL,hlx,hm,hx1⟩
 have Hlx:=za hlx
 have Hml:=za hml
 have hmx:m≤1001:=by omega
 clear hlx hml
 obtain⟨gB,rfl,hgB,-⟩:=zad zgL hm0
 obtain⟨ad,x0,hae,-,-,hx0',hc0⟩:=(Reads.of_own zgL).str (k:=0) hm0
 obtain rfl:=Option.some.inj hae
 rw [zP,Nat.add_zero] at hc0
 have hm0':(0:Int)<(m:Int):=by omega
 go_wp2_with fail
 refine (zbO (x:=x0)).mono ?_
 rintro e w2 ⟨al,ok1,rfl,ha,hx2⟩
 have hw2:=hx1.trans hx2
 have bz2:=bz.ext hw2
 have cz2:=bz2.cell
 have fz2:=bz2.frozen
 have hno:=zgj (L:=x.size+1) (M:=M) (Z:=w.heap.size) hRl (h.ext (hx0.trans hw2)) (hx0.trans hw2).dr (Nat.le_refl _)
 cases ok1
 ·go_wp2_with fail
  have hfb:=zai bz2 rfl (.int .i64 0) (.slice none 0 0) (.slice none 0 0)
  exact yJ04a2
 ·have bG:=Blk.new w2 26 #[.int .i64 al,.slice none 0 0,.slice none 0 0]
  have hx3:=(Ext.refl w2).alloc (.cells #[.int .i64 al,.slice none 0 0,.slice none 0 0] 26)
  have hs2:=hw2.size
  have zgM:=zf zgL hx2
  have hcx:=za (show ∀ W,Ext w2 W→Ext w W from fun W hW=>(hx0.trans hw2).trans hW)
  go_upto_region 6 with fail
  have zgN:=zf zgM hx3
  have zgD:zaQ w0 (w2.alloc (.cells #[.int .i64 al,.slice none 0 0,.slice none 0 0] 26)) R w2.heap.size M al (.slice none 0 0) [] [] (.slice none 0 0) []:=⟨bG,World.ownsRow_nil _ _ _ _,zB.nil _ _,World.ownsRow_nil _ _ _ _,(h.ext (hx0.trans hw2)).ext hx3,(hw2.trans hx3).dr,by omega,hs2⟩
  generalize w2.alloc (.cells #[.int .i64 al,.slice none 0 0,.slice none 0 0] 26)=w3 at *
  generalize w2.heap.size=G at *
  clear hno cz2 fz2 hc0 zgM
  go_wp2_with fail
  go_loopw [8] (fun iv wr=>∃ (i:Nat) (v:Value) (rows:List Value) (ls:List (List Int)) (vA:Value) (acc:List Bool),1≤i∧i≤m∧iv=.int .i64 (i:Nat)∧zaQ w0 wr R G M al v rows ls vA acc∧Hid (ls.length≤i - 1)∧Hid (acc.length=ls.length)∧Hid (∀ l∈ls,l.length≤x.size+1)∧wr.ownsRow w0.heap.size 9 1 (.slice (some ⟨gB,0,none⟩) m d) m (zL l)) (fun iv _=>m - (intOf iv).toNat)
  case atStart=>exact⟨1,_,_,[],_,[],Nat.le_refl _,hm0,rfl,zgD,za (Nat.zero_le _),za rfl,za (fun l hl=>by simp at hl),zgN⟩
  case round =>
   clear zgD zgN
   obtain⟨i,v,rows,ls,vA,acc,hi1,hi,rfl,zgD,hln,hal,hlx,hstr⟩:=hrel
   have hno:=zgj (L:=x.size+1) (M:=M) (Z:=w.heap.size) hRl zgD.rd (hx0.dr.trans zgD.dr) (Nat.le_refl _)
   have bz3:=bz.dr zgD.dr (by omega)
   by_cases hlt:i<m
   ·obtain⟨ad,xk,hae,-,-,hxk,hck⟩:=(Reads.of_own hstr).str hlt
    obtain rfl:=Option.some.inj hae
    rw [zP,Nat.zero_add] at hck
    have hbk:=Hlx.out xk (List.mem_of_getElem? hxk.out)
    cases he:xk.toList.isEmpty
    ·have h1k:1≤xk.size:=by
      rcases Nat.eq_zero_or_pos xk.size with h0|h0
      ·rw [ByteArray.toList_eq] at he
       have e2:xk.data.toList.length=xk.size:=rfl
       rw [List.eq_nil_of_length_eq_zero (e2.trans h0)] at he
       cases he
      ·exact h0
     have h1k':(1:Int)≤(xk.size:Int):=by omega
     have hex:(xk.extract 1 xk.size).size≤x.size:=by rw [ByteArray.size_extract];omega
     go_wp2_with fail
     refine (spec_l3Parse (s:=xk.extract 1 xk.size) (by omega)).mono ?_
     rintro e w4 ⟨Ar,nr,cr,lr,ok,rfl,hnr,hor,hnb,hx4⟩
     cases ok
     ·have hno4:=zgj (L:=x.size+1) (M:=M) (Z:=w.heap.size) hRl (zgD.rd.ext hx4) ((hx0.dr.trans zgD.dr).ext hx4) (Nat.le_refl _)
      have bz4:=bz3.ext hx4
      have cz:=bz4.cell
      have fz:=bz4.frozen
      exact yJ04a1
     ·subst hnr
      have hlow:=za zgD.low
      have hs1:=za zgD.dr.size
      have hacc4:=zgD.ext hx4
      have hstr4:=zf hstr hx4
      have cG:=hacc4.blk.cell
      have hs4:=hacc4.dr.size
      have hlm:ls.length≤1001:=by have:=hln.out;omega
      have Hxk:=za hxk.out
      have hno':=hno
      clear zgD hstr hck hno hno'
      go_upto_region 15 with (at_builtin;refine zar w0 w4 rfl _ _ _ rfl 53 _ 1 24 Tryz.underlying23 zbr rfl (by decide) v ls.length rows _ _ rfl rfl hs4 hacc4.nx rfl (zaA _ _ _) (by unfold maxLen;omega) (by omega) ?_;intro g5 cap5 w6 hown6 hg6 hat6 hlt6;obtain⟨q1,q2,q3⟩:=hacc4.pushRow hlow.out hs1.out hor hown6 hg6 hat6;have q1':=q1.out;have hstr6:=(zd hstr4 (Frm.of_grown hg6) (fun b hb hS=>zaK hstr4 hacc4.nx (by decide) hb hS)))
      have hstr7:=zd hstr6 (Frm.setCell w6 G 1 (.slice (some ⟨g5,0,none⟩) (ls.length+1) cap5)) (fun b hb hS=>by
       have hB6:Blk w6 G 26 #[.int .i64 al,v,vA]:=(hg6.block G hacc4.blk.lt (fun e=>zm hacc4.nx hacc4.blk (by decide) e.symm rfl)).trans hacc4.blk
       exact zm hstr6 hB6 (by decide) hb hS)
      have hln7:=za (show (ls++[lr]).length≤i by have:=hln.out;simp;omega)
      have hal7:=za (show acc.length+1=(ls++[lr]).length by have:=hal.out;simp;omega)
      have hlx7:=za (show ∀ l'∈ls++[lr],l'.length≤x.size+1 from fun l' hl'=>by
       rcases List.mem_append.1 hl' with h1|h1
       ·exact hlx.out l' h1
       ·rw [List.mem_singleton.1 h1];omega)
      clear q1 q1' q2 hown6 hg6 hat6 hlt6 hstr6 hstr4 hacc4 cG hln hal hlx hor
      generalize ls++[lr]=ls7 at *
      generalize rows++[.slice Ar lr.length cr]=rows7 at *
      generalize w6.setCell ⟨G,1,none⟩ (.slice (some ⟨g5,0,none⟩) (ls.length+1) cap5)=w7 at *
      generalize Value.slice (some ⟨g5,0,none⟩) (ls.length+1) cap5=v7 at *
      obtain⟨ad7,xk7,hae7,-,-,hxk7,hck7⟩:=(Reads.of_own hstr7).str hlt
      obtain rfl:=Option.some.inj hae7
      rw [zP,Nat.zero_add] at hck7
      obtain rfl:xk7=xk:=Option.some.inj (hxk7.out.symm.trans Hxk.out)
      have cG:∀ W,Ext w7 W→∀ q,W.cell? ⟨G,q,none⟩=#[Value.int .i64 al,v7,vA][q]?:=fun W hW=>(q3.blk.ext hW).cell
      have cS:∀ W,Ext w7 W→W.cell? ⟨gB,i,none⟩=some (.string xk7):=fun W hW=>hW.cell_some hck7
      have h0k:0<xk7.size:=by omega
      have h0k':(0:Int)<(xk7.size:Int):=by omega
      have hb0:=zbu xk7 0 h0k
      obtain⟨bb,hbb⟩:∃ bb,((xk7[0].toNat:Int)==43)=bb:=⟨_,rfl⟩
      have hww:=Ext.refl w7
      clear hck7 hxk7 Hxk
      refine uR (fun X=>Ext w7 X) [9,11] (zG.of [0,1,2,3,4,5,6,7,8,9,10,11]) ?_
      refine uQ ?_
      have hxd:=hww.drew
      refine zb fun K hK=>?_;go_simp
      refine hK.out _ _ (hxd.alloc _) ?_
      refine pT ?_
      refine zg fun K hK=>?_
      have hs7:=q3.dr.size
      have q3d:=q3.ext hxd
      have hal8:acc.length≤1001:=by have:=hal7.out;have:=hln7.out;omega
      have hstr8:=zf hstr7 hxd
      refine zaw w0 w7.drew _ _ _ rfl 4 _ 1 1 Tryz.underlying24 zaL rfl (by decide) vA acc.length (zax acc) _ _ rfl rfl q3d.dr.size q3d.acc rfl (by simp [Value.oneCell']) (by unfold maxLen;omega) (by omega) ?_
      intro g8 cap8 w8 hown8 hg8 hat8 hlt8
      refine hK.out _ _ ?_
      refine pT ?_
      refine uQ ?_
      obtain⟨p1,p2,p3⟩:=q3d.pushAcc (x:=bb) (W':=w8) hown8 hg8 hat8
      have p1':=p1.out
      have hstr9:=zd hstr8 (Frm.of_grown hg8) (fun b hb hS=>zaK hstr8 q3d.acc (by decide) hb hS)
      have hstr10:=zd hstr9 (Frm.setCell w8 G 2 (.slice (some ⟨g8,0,none⟩) (acc.length+1) cap8)) (fun b hb hS=>by
       have hB8:Blk w8 G 26 #[.int .i64 al,v7,vA]:=(hg8.block G q3d.blk.lt (fun e=>zm q3d.acc q3d.blk (by decide) e.symm rfl)).trans q3d.blk
       exact zm hstr9 hB8 (by decide) hb hS)
      refine zg fun K hK=>?_
      go_simp
      refine hK.out _ _ ?_
      refine zh ?_
      go_wp2_with fail
      go_roundw
      case rel=>exact⟨i+1,_,_,ls7,_,acc++[bb],by omega,by omega,by go_num,p3,za (by have:=hln7.out;omega),za (by have:=hal7.out;simp;omega),hlx7,hstr10⟩
      case measure=>simp [intOf];omega
    ·have cz:=bz3.cell
     have fz:=bz3.frozen
     go_wp2_with fail
     have hfb:=zai bz3 rfl (.int .i64 0) (.slice none 0 0) (.slice none 0 0)
     exact yJ04a2
   ·obtain⟨A5,c5,rfl⟩:=ze zgD.nx
    obtain⟨B5,d5,rfl⟩:=ze zgD.acc
    have hat:zI wr w0.heap.size wr.heap.size A5 ls.length B5 acc.length (⟨al,ls,acc⟩:Aut):=⟨zdC.reads ⟨rows,zgD.nx,zgD.rows⟩ rfl,rfl,Reads.of_own zgD.acc⟩
    have cG:=zgD.blk.cell
    clear hno
    go_wp2_with fail
    refine (zda (a:=⟨al,ls,acc⟩) hat).mono ?_
    rintro e w4 ⟨tx,rfl,-,hx4⟩
    have hacc4:=zgD.ext hx4
    have hno4:=zgj (L:=x.size+1) (M:=M) (Z:=w.heap.size) hRl (zgD.rd.ext hx4) ((hx0.dr.trans zgD.dr).ext hx4) (Nat.le_refl _)
    have bz4:=bz3.ext hx4
    have cz:=bz4.cell
    have fz:=bz4.frozen
    have cG4:=hacc4.blk.cell
    clear cG
    cases hne:tx.toList==x.toList
    ·exact yJ04a1
    ·obtain⟨f1,f2⟩:=hacc4.fin (N:=M) (sh:=BdA (x.size+1)) hx0 bz rfl hRl (Nat.le_refl _) hz0 (Nat.le_refl _) ⟨by have:=hln.out;show ls.length≤_;omega,by have:=hln.out;have:=hal.out;show acc.length≤_;omega,hlx.out⟩
     go_wp2_with fail
     have cf:=f2.cell
     obtain⟨b,A6,n6,c6,A7,n7,c7,he,ho6,hsh6,hr6,hd6⟩:=f1.out
     exact bodyPost_ret (v:=.tuple #[.agg #[.int .i64 al,.slice A5 ls.length c5,.slice B5 acc.length d5],.bool true]) (by simp [results,Tryz.results35,go_sem,cf]) rfl ⟨b,A6,n6,c6,A7,n7,c7,true,by injection he with he;rw [he],ho6,hsh6,hr6,hd6⟩
def Texts3 (W:World) (base g n:Nat):Prop:=
 ∀ k<n,∃ (b:Nat) (l:List ByteArray),W.cell? ⟨g,k,none⟩=some (.slice (some ⟨b,0,none⟩) 3 3)∧l.length=3∧((∀ x∈l,x.size≤100)∧∀ x,l[2]?=some x→x.size≤40)∧W.ownsRow base 9 1 (.slice (some ⟨b,0,none⟩) 3 3) 3 (zL l)
def RetT3 (w:World) (e:Ending) (w':World):Prop:=∃ g,e=.returned (.slice (some ⟨g,0,none⟩) 9 9)∧w.heap.size≤g∧Texts3 w' w.heap.size g 9∧Ext w w'
def Sh3 (u:Array Value):Prop:=zL (u.toList.map zfB)=u.toList∧u.size=3∧(∀ x∈u.toList.map zfB,x.size≤100)∧∀ x∈(u.toList.map zfB).drop 2,x.size≤40
theorem Sh3.third {u:Array Value}(h:Sh3 u):(u.toList.map zfB).length=3∧(∀ x∈u.toList.map zfB,x.size≤100)∧∀ x,(u.toList.map zfB)[2]?=some x→x.size≤40:=by
 obtain⟨-,h2,h3,h4⟩:=h
 refine⟨by simp [h2],h3,fun x hx=>h4 x ?_⟩
 have hl:=(List.getElem?_eq_some_iff.1 hx).1
 rw [List.mem_iff_getElem?]
 exact⟨0,by rw [List.getElem?_drop];exact hx⟩
theorem lit9 (w:World) {u1 u2 u3 u4 u5 u6 u7 u8 u9:Array Value}(h1:Sh3 u1)(h2:Sh3 u2)(h3:Sh3 u3)(h4:Sh3 u4)(h5:Sh3 u5)(h6:Sh3 u6)(h7:Sh3 u7)(h8:Sh3 u8)(h9:Sh3 u9) :
  RetT3 w (.returned (.slice (some ⟨w.heap.size+9,0,none⟩) 9 9)) ((((((((((w.alloc (.cells u1 9)).alloc (.cells u2 9)).alloc (.cells u3 9)).alloc (.cells u4 9)).alloc (.cells u5 9)).alloc (.cells u6 9)).alloc (.cells u7 9)).alloc (.cells u8 9)).alloc (.cells u9 9)).alloc (.cells #[.slice (some ⟨w.heap.size,0,none⟩) 3 3,.slice (some ⟨w.heap.size+1,0,none⟩) 3 3,.slice (some ⟨w.heap.size+2,0,none⟩) 3 3,.slice (some ⟨w.heap.size+3,0,none⟩) 3 3,.slice (some ⟨w.heap.size+4,0,none⟩) 3 3,.slice (some ⟨w.heap.size+5,0,none⟩) 3 3,.slice (some ⟨w.heap.size+6,0,none⟩) 3 3,.slice (some ⟨w.heap.size+7,0,none⟩) 3 3,.slice (some ⟨w.heap.size+8,0,none⟩) 3 3] 55)):=by
 have o1:=zaC w h1.1 h1.2.1 (by omega)
 have x1:=(Ext.refl w).alloc (.cells u1 9)
 have s1:(w.alloc (.cells u1 9)).heap.size=w.heap.size+1:=by simp
 generalize w.alloc (.cells u1 9)=w1 at *
 have o2:=zaC w1 h2.1 h2.2.1 (by omega)
 have x2:=(Ext.refl w1).alloc (.cells u2 9)
 have s2:(w1.alloc (.cells u2 9)).heap.size=w.heap.size+2:=by simp [s1]
 rw [s1] at o2
 generalize w1.alloc (.cells u2 9)=w2 at *
 have o3:=zaC w2 h3.1 h3.2.1 (by omega)
 have x3:=(Ext.refl w2).alloc (.cells u3 9)
 have s3:(w2.alloc (.cells u3 9)).heap.size=w.heap.size+3:=by simp [s2]
 rw [s2] at o3
 generalize w2.alloc (.cells u3 9)=w3 at *
 have o4:=zaC w3 h4.1 h4.2.1 (by omega)
 have x4:=(Ext.refl w3).alloc (.cells u4 9)
 have s4:(w3.alloc (.cells u4 9)).heap.size=w.heap.size+4:=by simp [s3]
 rw [s3] at o4
 generalize w3.alloc (.cells u4 9)=w4 at *
 have o5:=zaC w4 h5.1 h5.2.1 (by omega)
 have x5:=(Ext.refl w4).alloc (.cells u5 9)
 have s5:(w4.alloc (.cells u5 9)).heap.size=w.heap.size+5:=by simp [s4]
 rw [s4] at o5
 generalize w4.alloc (.cells u5 9)=w5 at *
 have o6:=zaC w5 h6.1 h6.2.1 (by omega)
 have x6:=(Ext.refl w5).alloc (.cells u6 9)
 have s6:(w5.alloc (.cells u6 9)).heap.size=w.heap.size+6:=by simp [s5]
 rw [s5] at o6
 generalize w5.alloc (.cells u6 9)=w6 at *
 have o7:=zaC w6 h7.1 h7.2.1 (by omega)
 have x7:=(Ext.refl w6).alloc (.cells u7 9)
 have s7:(w6.alloc (.cells u7 9)).heap.size=w.heap.size+7:=by simp [s6]
 rw [s6] at o7
 generalize w6.alloc (.cells u7 9)=w7 at *
 have o8:=zaC w7 h8.1 h8.2.1 (by omega)
 have x8:=(Ext.refl w7).alloc (.cells u8 9)
 have s8:(w7.alloc (.cells u8 9)).heap.size=w.heap.size+8:=by simp [s7]
 rw [s7] at o8
 generalize w7.alloc (.cells u8 9)=w8 at *
 have o9:=zaC w8 h9.1 h9.2.1 (by omega)
 have x9:=(Ext.refl w8).alloc (.cells u9 9)
 have s9:(w8.alloc (.cells u9 9)).heap.size=w.heap.size+9:=by simp [s8]
 rw [s8] at o9
 generalize w8.alloc (.cells u9 9)=w9 at *
 have bl:=Blk.new w9 55 #[.slice (some ⟨w.heap.size,0,none⟩) 3 3,.slice (some ⟨w.heap.size+1,0,none⟩) 3 3,.slice (some ⟨w.heap.size+2,0,none⟩) 3 3,.slice (some ⟨w.heap.size+3,0,none⟩) 3 3,.slice (some ⟨w.heap.size+4,0,none⟩) 3 3,.slice (some ⟨w.heap.size+5,0,none⟩) 3 3,.slice (some ⟨w.heap.size+6,0,none⟩) 3 3,.slice (some ⟨w.heap.size+7,0,none⟩) 3 3,.slice (some ⟨w.heap.size+8,0,none⟩) 3 3]
 have x10:=(Ext.refl w9).alloc (.cells #[.slice (some ⟨w.heap.size,0,none⟩) 3 3,.slice (some ⟨w.heap.size+1,0,none⟩) 3 3,.slice (some ⟨w.heap.size+2,0,none⟩) 3 3,.slice (some ⟨w.heap.size+3,0,none⟩) 3 3,.slice (some ⟨w.heap.size+4,0,none⟩) 3 3,.slice (some ⟨w.heap.size+5,0,none⟩) 3 3,.slice (some ⟨w.heap.size+6,0,none⟩) 3 3,.slice (some ⟨w.heap.size+7,0,none⟩) 3 3,.slice (some ⟨w.heap.size+8,0,none⟩) 3 3] 55)
 rw [s9] at bl
 generalize w9.alloc (.cells #[.slice (some ⟨w.heap.size,0,none⟩) 3 3,.slice (some ⟨w.heap.size+1,0,none⟩) 3 3,.slice (some ⟨w.heap.size+2,0,none⟩) 3 3,.slice (some ⟨w.heap.size+3,0,none⟩) 3 3,.slice (some ⟨w.heap.size+4,0,none⟩) 3 3,.slice (some ⟨w.heap.size+5,0,none⟩) 3 3,.slice (some ⟨w.heap.size+6,0,none⟩) 3 3,.slice (some ⟨w.heap.size+7,0,none⟩) 3 3,.slice (some ⟨w.heap.size+8,0,none⟩) 3 3] 55)=w10 at *
 have y9:=x10
 have y8:=x9.trans y9
 have y7:=x8.trans y8
 have y6:=x7.trans y7
 have y5:=x6.trans y6
 have y4:=x5.trans y5
 have y3:=x4.trans y4
 have y2:=x3.trans y3
 have y1:=x2.trans y2
 refine⟨_,rfl,by omega,fun k hk=>?_,x1.trans y1⟩
 have hk':k=0∨k=1∨k=2∨k=3∨k=4∨k=5∨k=6∨k=7∨k=8:=by omega
 rcases hk' with rfl|rfl|rfl|rfl|rfl|rfl|rfl|rfl|rfl
 ·exact⟨_,_,bl.cell 0,h1.third.1,h1.third.2,zf o1 y1⟩
 ·exact⟨_,_,bl.cell 1,h2.third.1,h2.third.2,zi (zf o2 y2) (by omega)⟩
 ·exact⟨_,_,bl.cell 2,h3.third.1,h3.third.2,zi (zf o3 y3) (by omega)⟩
 ·exact⟨_,_,bl.cell 3,h4.third.1,h4.third.2,zi (zf o4 y4) (by omega)⟩
 ·exact⟨_,_,bl.cell 4,h5.third.1,h5.third.2,zi (zf o5 y5) (by omega)⟩
 ·exact⟨_,_,bl.cell 5,h6.third.1,h6.third.2,zi (zf o6 y6) (by omega)⟩
 ·exact⟨_,_,bl.cell 6,h7.third.1,h7.third.2,zi (zf o7 y7) (by omega)⟩
 ·exact⟨_,_,bl.cell 7,h8.third.1,h8.third.2,zi (zf o8 y8) (by omega)⟩
 ·exact⟨_,_,bl.cell 8,h9.third.1,h9.third.2,zi (zf o9 y9) (by omega)⟩
theorem zgs {w:World}:Calls Tryz.prog 33 #[] w (RetT3 w):=by
 go_enter Tryz.func33,Tryz.ntmps33
 go_wp2_with fail
 go_ret
 exact lit9 w ⟨rfl,rfl,by decide +kernel,by decide +kernel⟩ ⟨rfl,rfl,by decide +kernel,by decide +kernel⟩ ⟨rfl,rfl,by decide +kernel,by decide +kernel⟩ ⟨rfl,rfl,by decide +kernel,by decide +kernel⟩ ⟨rfl,rfl,by decide +kernel,by decide +kernel⟩ ⟨rfl,rfl,by decide +kernel,by decide +kernel⟩ ⟨rfl,rfl,by decide +kernel,by decide +kernel⟩ ⟨rfl,rfl,by decide +kernel,by decide +kernel⟩ ⟨rfl,rfl,by decide +kernel,by decide +kernel⟩
theorem zga {S:Nat→Prop} {w w':World}(h:Frm S w w') {p:Addr} {v:Value}(hv:w.cell? p=some v)(hp:¬ S p.block):w'.cell? p=some v:=
 (World.cell?_of_block (w:=w) (h.block _ (World.block_lt_of_cell? w p hv) hp)).trans hv
theorem zaZ.own {w0 W:World} {R M L K n c k c2 m d m' d':Nat} {s t:Sys} {p:Aut} {A B B' C:Option Addr}(h:zaZ w0 W R M L K s A n c t C k c2 p B m d B' m' d'):zaZ W W R M L K s A n c t C k c2 p B m d B' m' d':={ h with dr:=Dr.refl _ _,hR:=h.rd.lt }
theorem spec_l9Spoil {R M L K n c k c2 m d m' d':Nat} {s t:Sys} {p:Aut} {A B B' C:Option Addr} {w:World}(h:zaZ w w R M L K s A n c t C k c2 p B m d B' m' d')(hM:M≤600000000)(hL:L≤90000)(hK:K≤60) :
  Calls Tryz.prog 50 #[.pointer (some ⟨R,0,none⟩),.agg #[.int .i64 s.al,.int .i64 s.st,.slice A n c],.agg #[.int .i64 p.al,.slice B m d,.slice B' m' d'],.agg #[.int .i64 t.al,.int .i64 t.st,.slice C k c2]] w (RetSPT R (M+100) (L+3) (K+39) w):=by
 have hRl:=h.hR
 have hx0:Ext w ((((((w.alloc (.cells #[.int .i64 s.al,.int .i64 s.st,.slice A n c] 43)).alloc (.cells #[.int .i64 p.al,.slice B m d,.slice B' m' d'] 26)).alloc (.cells #[.int .i64 t.al,.int .i64 t.st,.slice C k c2] 43)).alloc (.cells #[.int .i64 0,.int .i64 0,.slice none 0 0] 43)).alloc (.cells #[.int .i64 0,.slice none 0 0,.slice none 0 0] 26)).alloc (.cells #[.int .i64 0,.int .i64 0,.slice none 0 0] 43)):=((((((Ext.refl _).alloc _).alloc _).alloc _).alloc _).alloc _).alloc _
 obtain⟨b1,b2,b3⟩:=zN (Ext.refl (((w.alloc (.cells #[.int .i64 s.al,.int .i64 s.st,.slice A n c] 43)).alloc (.cells #[.int .i64 p.al,.slice B m d,.slice B' m' d'] 26)).alloc (.cells #[.int .i64 t.al,.int .i64 t.st,.slice C k c2] 43)))
 go_enter Tryz.func50,Tryz.ntmps50
 go_upto_region 1 with fail
 have hsz:(((w.alloc (.cells #[.int .i64 s.al,.int .i64 s.st,.slice A n c] 43)).alloc (.cells #[.int .i64 p.al,.slice B m d,.slice B' m' d'] 26)).alloc (.cells #[.int .i64 t.al,.int .i64 t.st,.slice C k c2] 43)).heap.size=w.heap.size+3:=by simp
 generalize ((w.alloc (.cells #[.int .i64 s.al,.int .i64 s.st,.slice A n c] 43)).alloc (.cells #[.int .i64 p.al,.slice B m d,.slice B' m' d'] 26)).alloc (.cells #[.int .i64 t.al,.int .i64 t.st,.slice C k c2] 43)=w0 at *
 obtain⟨z1,z2,z3⟩:=zN (Ext.refl (((w0.alloc (.cells #[.int .i64 0,.int .i64 0,.slice none 0 0] 43)).alloc (.cells #[.int .i64 0,.slice none 0 0,.slice none 0 0] 26)).alloc (.cells #[.int .i64 0,.int .i64 0,.slice none 0 0] 43)))
 have hx1:Ext w0 (((w0.alloc (.cells #[.int .i64 0,.int .i64 0,.slice none 0 0] 43)).alloc (.cells #[.int .i64 0,.slice none 0 0,.slice none 0 0] 26)).alloc (.cells #[.int .i64 0,.int .i64 0,.slice none 0 0] 43)):=(((Ext.refl _).alloc _).alloc _).alloc _
 generalize ((w0.alloc (.cells #[.int .i64 0,.int .i64 0,.slice none 0 0] 43)).alloc (.cells #[.int .i64 0,.slice none 0 0,.slice none 0 0] 26)).alloc (.cells #[.int .i64 0,.int .i64 0,.slice none 0 0] 43)=w1 at *
 simp only [hsz] at z1 z2 z3
 have ht0:Tri w w1 R M L K (w.heap.size+1+1+1) (w.heap.size+1+1+1+1+1) (w.heap.size+1+1+1+1) w.heap.size (w.heap.size+1+1) (w.heap.size+1) s A n c t C k c2 p B m d B' m' d':=
  ⟨h.ext hx0,z1,z3,z2,b1.ext hx1,b3.ext hx1,.inr (b2.ext hx1),by omega,za (by unfold Ne6;omega)⟩
 have hsz1:=hx0.size
 clear z1 z2 z3 b1 b2 b3 hx0 hx1 h hsz
 have hge:=za (show w.heap.size+1≠0 by omega)
 have hne:=za (show Ne6 (w.heap.size+1+1+1) (w.heap.size+1+1+1+1+1) (w.heap.size+1+1+1+1) w.heap.size (w.heap.size+1+1) (w.heap.size+1) by unfold Ne6;omega)
 generalize hZt:w.heap.size+1+1+1+1+1=Zt at *
 generalize hZp:w.heap.size+1+1+1+1=Zp at *
 generalize hZs:w.heap.size+1+1+1=Zs at *
 generalize hGt:w.heap.size+1+1=Gt at *
 generalize hGp:w.heap.size+1=Gp at *
 generalize hGs:w.heap.size=Gs at *
 have hord:=za (show w.heap.size≤Zs∧w.heap.size≤Zt∧w.heap.size≤Zp by omega)
 clear hZt hZp hZs hGt hGp hGs hsz1
 go_wp2_with fail
 refine (zr ht0.at_.rd (by omega)).mono ?_
 rintro e w2 ⟨y,rfl,-,-,hr2,hd2⟩
 have ht1:=ht0.drawn hd2 hr2
 clear ht0 hr2 hd2
 go_upto_block 0 with fail
 go_cut [] (fun wx=>∃ (s:Sys) (A:Option Addr) (n c:Nat) (t:Sys) (C:Option Addr) (k c2:Nat) (p:Aut) (B:Option Addr) (m d:Nat) (B':Option Addr) (m' d':Nat),Tri w wx R (M+100) (L+3) (K+39) (Zs) (Zt) (Zp) Gs (Gt) (Gp) s A n c t C k c2 p B m d B' m' d')
 case first =>
  have hcases:y=0∨y=1∨y=2∨3≤y:=by omega
  rcases hcases with hy|hy|hy|hy
  ·subst hy
   have hy0:True:=trivial
   have cG:=ht1.bs.cell
   go_wp2_with fail
   refine (zaY (L:=L) ht1.at_.rd (by omega) ht1.at_.is ht1.at_.ns.1.1 (by omega)).mono ?_
   rintro e v1 ⟨s1,A1,n1,d1,rfl,hs1,hn1,hr1,hd1⟩
   have ht2:=ht1.drawn hd1 hr1
   clear cG
   go_wp2_with fail
   refine (zaY (L:=L+1) ht2.at_.rd (by omega) hs1 hn1.1 (by omega)).mono ?_
   rintro e v2 ⟨s2,A2,n2,d2,rfl,hs2,hn2,hr2,hd2⟩
   have ht3:=ht2.drawn hd2 hr2
   go_wp2_with fail
   refine (zaY (L:=L+2) ht3.at_.rd (by omega) hs2 hn2.1 (by omega)).mono ?_
   rintro e v3 ⟨s3,A3,n3,d3,rfl,hs3,hn3,hr3,hd3⟩
   have ht4:=(ht3.drawn hd3 hr3).more (N:=M+100) (J:=L+3) (H:=K+39) (by omega) (by omega) (by omega)
   have cG:=ht4.bs.cell
   have fG:=ht4.bs.frozen
   have fin:=ht4.setS hs3 hn3
   go_wp2_with fail
   go_meet
   exact⟨_,_,_,_,_,_,_,_,_,_,_,_,_,_,_,fin⟩
  ·subst hy
   have hy0:True:=trivial
   have hp1:=hge.out
   have cG:=(ht1.pvar hp1).cell
   go_wp2_with fail
   refine (zay ht1.at_.rd (by omega) ht1.at_.ip ht1.at_.bd.out (by omega)).mono ?_
   rintro e v1 ⟨b1,A1,n1,d1,B1,m1,e1,rfl,ho1,hb1,hr1,hd1⟩
   have ht2:=ht1.drawn hd1 hr1
   have hq1:=ht1.at_.rd.lt
   have hq2:=ht2.at_.rd.lt
   clear cG
   go_wp2_with fail
   refine (zay hr1 (by omega) (ho1.less (by omega)) hb1.out (by omega)).mono ?_
   rintro e v2 ⟨b2,A2,n2,d2,B2,m2,e2,rfl,ho2,hb2,hr2,hd2⟩
   have ht3:=ht2.drawn hd2 hr2
   have hq3:=ht3.at_.rd.lt
   go_wp2_with fail
   refine (zay hr2 (by omega) (ho2.less (by omega)) hb2.out (by omega)).mono ?_
   rintro e v3 ⟨b3,A3,n3,d3,B3,m3,e3,rfl,ho3,hb3,hr3,hd3⟩
   have ht4:=(ht3.drawn hd3 hr3).more (N:=M+100) (J:=L+3) (H:=K+39) (by omega) (by omega) (by omega)
   have cG:=(ht4.pvar hp1).cell
   have fG:=(ht4.pvar hp1).frozen
   have fin:=ht4.setP hp1 (ho3.less (by omega)) (BdL.more hb3.out (by omega))
   go_wp2_with fail
   go_meet
   exact⟨_,_,_,_,_,_,_,_,_,_,_,_,_,_,_,fin⟩
  ·subst hy
   have hy0:True:=trivial
   have cG:=ht1.bt.cell
   go_wp2_with fail
   refine (zaY (L:=L) ht1.at_.rd (by omega) ht1.at_.it ht1.at_.ns.2.1 (by omega)).mono ?_
   rintro e v1 ⟨s1,A1,n1,d1,rfl,hs1,hn1,hr1,hd1⟩
   have ht2:=ht1.drawn hd1 hr1
   clear cG
   go_wp2_with fail
   refine (zaY (L:=L+1) ht2.at_.rd (by omega) hs1 hn1.1 (by omega)).mono ?_
   rintro e v2 ⟨s2,A2,n2,d2,rfl,hs2,hn2,hr2,hd2⟩
   have ht3:=ht2.drawn hd2 hr2
   go_wp2_with fail
   refine (zaY (L:=L+2) ht3.at_.rd (by omega) hs2 hn2.1 (by omega)).mono ?_
   rintro e v3 ⟨s3,A3,n3,d3,rfl,hs3,hn3,hr3,hd3⟩
   have ht4:=(ht3.drawn hd3 hr3).more (N:=M+100) (J:=L+3) (H:=K+39) (by omega) (by omega) (by omega)
   have cG:=ht4.bt.cell
   have fG:=ht4.bt.frozen
   have fin:=ht4.setT hs3 hn3
   go_wp2_with fail
   go_meet
   exact⟨_,_,_,_,_,_,_,_,_,_,_,_,_,_,_,fin⟩
  ·have h0:((y:Int)==0)=false:=by simp;omega
   have h1:((y:Int)==1)=false:=by simp;omega
   have h2:((y:Int)==2)=false:=by simp;omega
   go_wp2_with fail
   go_meet
   exact⟨_,_,_,_,_,_,_,_,_,_,_,_,_,_,_,ht1.more (by omega) (by omega) (by omega)⟩
 case rest =>
  clear ht1
  obtain⟨s,A,n,c,t,C,k,c2,p,B,m,d,B',m',d',ht⟩:=hcut
  have hp1:=hge.out
  obtain⟨wE,hwE⟩:∃ wE,wE=wc:=⟨_,rfl⟩
  subst hwE
  have cS:∀ W,Frm (fun k=>k=Zs∨k=Zp) wE W→∀ q,W.cell? ⟨Gs,q,none⟩=#[Value.int .i64 s.al,.int .i64 s.st,.slice A n c][q]?:=fun W hW=>(ht.bs.frm hW (by have:=hne.out;unfold Ne6 at this;omega)).cell
  have cT:∀ W,Frm (fun k=>k=Zs∨k=Zp) wE W→∀ q,W.cell? ⟨Gt,q,none⟩=#[Value.int .i64 t.al,.int .i64 t.st,.slice C k c2][q]?:=fun W hW=>(ht.bt.frm hW (by have:=hne.out;unfold Ne6 at this;omega)).cell
  have cP:∀ W,Frm (fun k=>k=Zs∨k=Zp) wE W→∀ q,W.cell? ⟨Gp,q,none⟩=#[Value.int .i64 p.al,.slice B m d,.slice B' m' d'][q]?:=fun W hW=>((ht.pvar hp1).frm hW (by have:=hne.out;unfold Ne6 at this;omega)).cell
  have hS0:Frm (fun k=>k=Zs∨k=Zp) wE wE.drew:=(Ext.refl wE).drew.toFrm
  have ht5:=ht.ext (Ext.refl wE).drew
  go_wp2_with fail
  refine tR (fun X=>Frm (fun k=>k=Zs∨k=Zp) wE X) [5] (Ord.of [0,1,2,3,4,5]) ?_
  refine tQ ?_
  generalize hwD:wE.drew=wD at *
  clear hwD
  have ha:=ht5.at_
  have zs:=ht5.zs
  have zt:=ht5.zt
  have zp:=ht5.zp
  have cs:=zs.cell
  have fs:=zs.frozen
  have hn6:=za hne.out
  clear ht5 ht
  refine zu fun K hK=>?_;go_simp
  have q1:=zah zs rfl (.int .i64 s.al) (.int .i64 s.st) (.slice A n c)
  have e1:=zT wD Zs (.int .i64 s.al) (.int .i64 s.st) (.slice A n c)
  replace ha:=ha.far zs e1 hord.out.1 (by decide) (by decide)
  replace zt:=zt.frm e1 (by have:=hn6.out;unfold Ne6 at this;omega)
  replace zp:=zp.frm e1 (by have:=hn6.out;unfold Ne6 at this;omega)
  have hS8:=hS0.trans (e1.mono (T:=fun k=>k=Zs∨k=Zp) (fun k _ hk=>.inl hk))
  refine hK.out _ _ hS8 ?_
  refine pT ?_
  clear cs fs zs e1
  generalize ((wD.setCell ⟨Zs,0,none⟩ (.int .i64 s.al)).setCell ⟨Zs,1,none⟩ (.int .i64 s.st)).setCell ⟨Zs,2,none⟩ (.slice A n c)=wA at *
  have cp:=zp.cell
  have fp:=zp.frozen
  refine zu fun K hK=>?_;go_simp
  have q2:=zah zp rfl (.int .i64 p.al) (.slice B m d) (.slice B' m' d')
  have e2:=zT wA Zp (.int .i64 p.al) (.slice B m d) (.slice B' m' d')
  replace ha:=ha.far zp e2 hord.out.2.2 (by decide) (by decide)
  replace zt:=zt.frm e2 (by have:=hn6.out;unfold Ne6 at this;omega)
  replace q1:=q1.frm e2 (by have:=hn6.out;unfold Ne6 at this;omega)
  have hS9:=hS8.trans (e2.mono (T:=fun k=>k=Zs∨k=Zp) (fun k _ hk=>.inr hk))
  refine hK.out _ _ hS9 ?_
  refine pT ?_
  clear cp fp zp e2 hS8
  generalize ((wA.setCell ⟨Zp,0,none⟩ (.int .i64 p.al)).setCell ⟨Zp,1,none⟩ (.slice B m d)).setCell ⟨Zp,2,none⟩ (.slice B' m' d')=wB at *
  have ct:=zt.cell
  have ft:=zt.frozen
  refine zF fun K hK=>?_
  go_simp
  have q3:=zah zt rfl (.int .i64 t.al) (.int .i64 t.st) (.slice C k c2)
  have e3:=zT wB Zt (.int .i64 t.al) (.int .i64 t.st) (.slice C k c2)
  replace ha:=ha.far zt e3 hord.out.2.1 (by decide) (by decide)
  replace q1:=q1.frm e3 (by have:=hn6.out;unfold Ne6 at this;omega)
  replace q2:=q2.frm e3 (by have:=hn6.out;unfold Ne6 at this;omega)
  refine hK.out _ _ ?_
  refine zR ?_
  clear ct ft zt e3 hS9 hS0 cS cT cP
  generalize ((wB.setCell ⟨Zt,0,none⟩ (.int .i64 t.al)).setCell ⟨Zt,1,none⟩ (.int .i64 t.st)).setCell ⟨Zt,2,none⟩ (.slice C k c2)=wC at *
  have ha':=za ha
  clear ha
  go_wp2_with fail
  have c1:=q1.cell
  have cc2:=q2.cell
  have c3:=q3.cell
  exact bodyPost_ret (v:=.tuple #[.agg #[.int .i64 s.al,.int .i64 s.st,.slice A n c],.agg #[.int .i64 p.al,.slice B m d,.slice B' m' d'],.agg #[.int .i64 t.al,.int .i64 t.st,.slice C k c2]]) (by simp [results,Tryz.results50,go_sem,c1,cc2,c3]) rfl ⟨s,A,n,c,t,C,k,c2,p,B,m,d,B',m',d',rfl,ha'.out⟩
theorem zei {R M:Nat} {w:World}(h:Rd w R M)(hM:M≤500000000) :
  Calls Tryz.prog 14 #[.pointer (some ⟨R,0,none⟩)] w (RetSTP R (M+200000) 30000 50 w):=by
 have hRl:=h.lt
 have hx0:Ext w (((w.alloc (.cells #[.int .i64 0,.int .i64 0,.slice none 0 0] 43)).alloc (.cells #[.int .i64 0,.int .i64 0,.slice none 0 0] 43)).alloc (.cells #[.int .i64 0,.slice none 0 0,.slice none 0 0] 26)):=(((Ext.refl _).alloc _).alloc _).alloc _
 obtain⟨z1,z2,z3⟩:=zN (Ext.refl (((w.alloc (.cells #[.int .i64 0,.int .i64 0,.slice none 0 0] 43)).alloc (.cells #[.int .i64 0,.int .i64 0,.slice none 0 0] 43)).alloc (.cells #[.int .i64 0,.slice none 0 0,.slice none 0 0] 26)))
 have hsz:(((w.alloc (.cells #[.int .i64 0,.int .i64 0,.slice none 0 0] 43)).alloc (.cells #[.int .i64 0,.int .i64 0,.slice none 0 0] 43)).alloc (.cells #[.int .i64 0,.slice none 0 0,.slice none 0 0] 26)).heap.size=w.heap.size+3:=by simp
 go_enter Tryz.func14,Tryz.ntmps14
 go_upto_region 1 with fail
 generalize ((w.alloc (.cells #[.int .i64 0,.int .i64 0,.slice none 0 0] 43)).alloc (.cells #[.int .i64 0,.int .i64 0,.slice none 0 0] 43)).alloc (.cells #[.int .i64 0,.slice none 0 0,.slice none 0 0] 26)=w0 at *
 go_upto_region 2 with (first
  |(go_at_call 32;refine (spec_l9Three (h.ext hx0) (by omega)).mono ?_;rintro e w1 ⟨s,A,n,c,t,C,k,c2,p,B,m,d,B',m',d',rfl,ht⟩))
 have hx1:Ext w1 (((w1.alloc (.cells #[.int .i64 s.al,.int .i64 s.st,.slice A n c] 43)).alloc (.cells #[.int .i64 p.al,.slice B m d,.slice B' m' d'] 26)).alloc (.cells #[.int .i64 t.al,.int .i64 t.st,.slice C k c2] 43)):=(((Ext.refl _).alloc _).alloc _).alloc _
 obtain⟨b1,b2,b3⟩:=zN (Ext.refl (((w1.alloc (.cells #[.int .i64 s.al,.int .i64 s.st,.slice A n c] 43)).alloc (.cells #[.int .i64 p.al,.slice B m d,.slice B' m' d'] 26)).alloc (.cells #[.int .i64 t.al,.int .i64 t.st,.slice C k c2] 43)))
 have hw1:=ht.dr.size
 have ht1:Tri w (((w1.alloc (.cells #[.int .i64 s.al,.int .i64 s.st,.slice A n c] 43)).alloc (.cells #[.int .i64 p.al,.slice B m d,.slice B' m' d'] 26)).alloc (.cells #[.int .i64 t.al,.int .i64 t.st,.slice C k c2] 43)) R (M+150000) 30000 50 w.heap.size (w.heap.size+1) (w.heap.size+1+1) w1.heap.size (w1.heap.size+1+1) (w1.heap.size+1) s A n c t C k c2 p B m d B' m' d':=
  ⟨((ht.less hx0.dr hRl).ext hx1).more (by omega) (by omega) (by omega),(z1.dr ht.dr (by omega)).ext hx1,(z2.dr ht.dr (by omega)).ext hx1,(z3.dr ht.dr (by omega)).ext hx1,b1,b3,.inr b2,by omega,za (by unfold Ne6;omega)⟩
 clear ht b1 b2 b3 z1 z2 z3 hx1
 have hge:=za (show w.heap.size+3≤w1.heap.size by omega)
 have hG3:(((w1.alloc (.cells #[.int .i64 s.al,.int .i64 s.st,.slice A n c] 43)).alloc (.cells #[.int .i64 p.al,.slice B m d,.slice B' m' d'] 26)).alloc (.cells #[.int .i64 t.al,.int .i64 t.st,.slice C k c2] 43)).heap.size=w1.heap.size+3:=by simp
 clear hw1
 generalize hG:w1.heap.size=G at *
 generalize ((w1.alloc (.cells #[.int .i64 s.al,.int .i64 s.st,.slice A n c] 43)).alloc (.cells #[.int .i64 p.al,.slice B m d,.slice B' m' d'] 26)).alloc (.cells #[.int .i64 t.al,.int .i64 t.st,.slice C k c2] 43)=w2 at *
 clear hG w1
 go_wp2_with fail
 refine (zr ht1.at_.rd (by omega)).mono ?_
 rintro e w3 ⟨y,rfl,-,-,hr3,hd3⟩
 have ht2:=ht1.drawn hd3 hr3
 have hge2:=za (show G+3≤w3.heap.size by have:=hd3.size;omega)
 clear ht1 hr3 hd3 hG3
 go_upto_if 18 with fail
 go_cut [] (fun wx=>∃ (s:Sys) (A:Option Addr) (n c:Nat) (t:Sys) (C:Option Addr) (k c2:Nat) (p:Aut) (B:Option Addr) (m d:Nat) (B':Option Addr) (m' d':Nat),Tri w wx R (M+200000) 30000 50 w.heap.size (w.heap.size+1) (w.heap.size+1+1) G (G+1+1) (G+1) s A n c t C k c2 p B m d B' m' d')
 case first =>
  by_cases hy:y=0
  ·subst hy
   have hy0:True:=trivial
   have hp1:G+1≠0:=by omega
   go_wp2_with fail
   refine (zgs).mono ?_
   rintro e w4 ⟨g,rfl,hg,hT,hx4⟩
   have ht3:=ht2.ext hx4
   have hq:=ht2.at_.rd.lt
   clear ht2
   have hsz4:=hx4.size
   go_wp2_with fail
   refine (zr ht3.at_.rd (by omega)).mono ?_
   rintro e w5 ⟨j,rfl,hj,-,hr5,hd5⟩
   have hj9:j<9:=by have:=hj (by omega);omega
   have ht4:=ht3.drawn hd5 hr5
   obtain⟨bt,lt,hct,hl3,hs3,hot⟩:=hT j hj9
   have ct5:=hd5.cell_some hct (by dsimp only;omega)
   have hot5:=zaP hot hd5 (fun b h1 e=>by omega)
   have hj9':(j:Int)<9:=by omega
   clear hj hT hct hot ht3
   have hbt:w3.heap.size≤bt:=(hot5.lt bt rfl).1
   obtain⟨ad0,x0,e0,_,_,hx0',cx0⟩:=(Reads.of_own hot5).str (show 0<3 by omega)
   obtain⟨ad1,x1,e1,_,_,hx1',cx1⟩:=(Reads.of_own hot5).str (show 1<3 by omega)
   obtain⟨ad2,x2,e2,_,_,hx2',cx2⟩:=(Reads.of_own hot5).str (show 2<3 by omega)
   obtain rfl:=Option.some.inj e0
   obtain rfl:=Option.some.inj e1
   obtain rfl:=Option.some.inj e2
   have hx0s:=hs3.1 x0 (List.mem_of_getElem? hx0'.out)
   have hx1s:=hs3.1 x1 (List.mem_of_getElem? hx1'.out)
   have hx2s:=hs3.2 x2 hx2'.out
   rw [zP,Nat.zero_add] at cx0 cx1 cx2
   clear e0 e1 e2 hx0' hx1' hx2' hs3 hl3 hot5
   go_wp2_with fail
   refine (zbx ht4.at_.rd (by omega)).mono ?_
   rintro e w6 ⟨s1,A1,n1,c1,ok,rfl,hs1,⟨-,hf1⟩,hn1,hr6,hd6⟩
   have hRG:=za (show R<w.heap.size from hRl)
   have ht5:=ht4.drawn hd6 hr6
   have cG:=ht5.bs.cell
   have fG:=ht5.bs.frozen
   have fin:=ht5.setS hs1 (by omega:n1≤30000∧n1≤c1)
   have f1:=zT w6 G (.int .i64 s1.al) (.int .i64 s1.st) (.slice A1 n1 c1)
   have kx1:=(hd6.cell_some cx1 (by have:=hge2.out;have:=hge.out;dsimp only;omega))
   have kx2:=(hd6.cell_some cx2 (by have:=hge2.out;have:=hge.out;dsimp only;omega))
   have kt:=(hd6.cell_some ct5 (by have:=hge2.out;have:=hge.out;dsimp only;omega))
   have lx1:=zga f1 kx1 (by have:=hge2.out;dsimp only;omega)
   have lx2:=zga f1 kx2 (by have:=hge2.out;dsimp only;omega)
   clear cx0 cx1 cx2 ct5 kx1 kx2 kt ht4 ht5 f1 hd6 hr6
   go_upto_region 6 with fail
   clear cG fG
   generalize ((w6.setCell ⟨G,0,none⟩ (.int .i64 s1.al)).setCell ⟨G,1,none⟩ (.int .i64 s1.st)).setCell ⟨G,2,none⟩ (.slice A1 n1 c1)=w7 at *
   go_wp2_with fail
   refine (zbx fin.at_.rd (by omega)).mono ?_
   rintro e w8 ⟨s2,A2,n2,d2,ok2,rfl,hs2,⟨-,hf2⟩,hn2,hr8,hd8⟩
   have ht6:=fin.drawn hd8 hr8
   have cG:=ht6.bt.cell
   have fG:=ht6.bt.frozen
   have fin2:=ht6.setT hs2 (by omega:n2≤30000∧n2≤d2)
   have f2:=zT w8 (G+1+1) (.int .i64 s2.al) (.int .i64 s2.st) (.slice A2 n2 d2)
   have kx2:=(hd8.cell_some lx2 (by have:=hge2.out;have:=hge.out;dsimp only;omega))
   have mx2:=zga f2 kx2 (by have:=hge2.out;dsimp only;omega)
   clear lx1 lx2 kx2 fin ht6 f2 hd8 hr8
   go_upto_region 7 with fail
   clear cG fG
   generalize ((w8.setCell ⟨G+1+1,0,none⟩ (.int .i64 s2.al)).setCell ⟨G+1+1,1,none⟩ (.int .i64 s2.st)).setCell ⟨G+1+1,2,none⟩ (.slice A2 n2 d2)=w9 at *
   go_wp2_with fail
   refine (zdv fin2.at_.rd (by omega)).mono ?_
   rintro e w10 ⟨b1,A3,n3,d3,A4,n4,d4,ok3,rfl,ho3,hb3,hr10,hd10⟩
   have hq9:=fin2.at_.rd.lt
   have ht7:=fin2.drawn hd10 hr10
   have cG:=(ht7.pvar hp1).cell
   have fG:=(ht7.pvar hp1).frozen
   have fin3:=ht7.setP hp1 (ho3.less (by omega)) (BdL.more hb3.out (by omega))
   clear mx2 fin2 ht7 hd10 hr10 ho3
   go_upto_region 8 with fail
   clear cG fG
   generalize ((w10.setCell ⟨G+1,0,none⟩ (.int .i64 b1.al)).setCell ⟨G+1,1,none⟩ (.slice A3 n3 d3)).setCell ⟨G+1,2,none⟩ (.slice A4 n4 d4)=w11 at *
   go_wp2_with fail
   refine (zr fin3.at_.rd (by omega)).mono ?_
   rintro e w12 ⟨y,rfl,-,-,hr12,hd12⟩
   have ht8:=fin3.drawn hd12 hr12
   clear fin3 hr12 hd12
   have hcases:y=0∨y=1∨y=2∨3≤y:=by omega
   rcases hcases with hy|hy|hy|hy
   ·subst hy
    have cG:=ht8.bs.cell
    go_wp2_with fail
    refine (zdh (L:=1001) ht8.at_.rd (by omega) ht8.at_.is hf1 (by omega) (by omega)).mono ?_
    rintro e w13 ⟨s5,A5,n5,d5,rfl,hs5,hn5,hr13,hd13⟩
    have ht9:=(ht8.drawn hd13 hr13).more (N:=M+200000) (J:=30000) (H:=50) (by omega) (by omega) (by omega)
    clear cG
    have cG:=ht9.bs.cell
    have fG:=ht9.bs.frozen
    have fin:=ht9.setS hs5 (by omega:n5≤30000∧n5≤d5)
    go_wp2_with fail
    go_meet
    exact⟨_,_,_,_,_,_,_,_,_,_,_,_,_,_,_,fin⟩
   ·subst hy
    have cG:=ht8.bt.cell
    go_wp2_with fail
    refine (zdh (L:=1001) ht8.at_.rd (by omega) ht8.at_.it hf2 (by omega) (by omega)).mono ?_
    rintro e w13 ⟨s5,A5,n5,d5,rfl,hs5,hn5,hr13,hd13⟩
    have ht9:=(ht8.drawn hd13 hr13).more (N:=M+200000) (J:=30000) (H:=50) (by omega) (by omega) (by omega)
    clear cG
    have cG:=ht9.bt.cell
    have fG:=ht9.bt.frozen
    have fin:=ht9.setT hs5 (by omega:n5≤30000∧n5≤d5)
    go_wp2_with fail
    go_meet
    exact⟨_,_,_,_,_,_,_,_,_,_,_,_,_,_,_,fin⟩
   ·subst hy
    have cG:=(ht8.pvar hp1).cell
    go_wp2_with fail
    refine (zdN (L:=x2.size+1) ht8.at_.rd (by omega) ht8.at_.ip hb3.out (by omega)).mono ?_
    rintro e w13 ⟨b5,A5,n5,d5,A6,n6,d6,rfl,ho5,hb5,hr13,hd13⟩
    have hq:=ht8.at_.rd.lt
    have ht9:=(ht8.drawn hd13 hr13).more (N:=M+200000) (J:=30000) (H:=50) (by omega) (by omega) (by omega)
    clear cG
    have cG:=(ht9.pvar hp1).cell
    have fG:=(ht9.pvar hp1).frozen
    have fin:=ht9.setP hp1 (ho5.less (by omega)) (BdL.more hb5.out (by omega))
    go_wp2_with fail
    go_meet
    exact⟨_,_,_,_,_,_,_,_,_,_,_,_,_,_,_,fin⟩
   ·have h0:((y:Int)==0)=false:=by simp;omega
    have h1:((y:Int)==1)=false:=by simp;omega
    have h2:((y:Int)==2)=false:=by simp;omega
    go_wp2_with fail
    go_meet
    exact⟨_,_,_,_,_,_,_,_,_,_,_,_,_,_,_,ht8.more (by omega) (by omega) (by omega)⟩
  ·have hy':((y:Int)==0)=false:=by simp;omega
   go_wp2_with fail
   go_meet
   exact⟨_,_,_,_,_,_,_,_,_,_,_,_,_,_,_,ht2.more (by omega) (by omega) (by omega)⟩
 case rest =>
  clear ht2
  obtain⟨s,A,n,c,t,C,k,c2,p,B,m,d,B',m',d',ht⟩:=hcut
  have hp1:G+1≠0:=by omega
  have hord:Hid (G+3≤wc.heap.size∧w.heap.size+3≤G):=za ⟨by have:=(ht.bt).lt;omega,hge.out⟩
  obtain⟨wE,hwE⟩:∃ wE,wE=wc:=⟨_,rfl⟩
  subst hwE
  have cS:∀ W,Frm (fun k=>k=w.heap.size∨k=w.heap.size+1) wE W→∀ q,W.cell? ⟨G,q,none⟩=#[Value.int .i64 s.al,.int .i64 s.st,.slice A n c][q]?:=fun W hW=>(ht.bs.frm hW (by have:=hord.out;omega)).cell
  have cT:∀ W,Frm (fun k=>k=w.heap.size∨k=w.heap.size+1) wE W→∀ q,W.cell? ⟨G+1+1,q,none⟩=#[Value.int .i64 t.al,.int .i64 t.st,.slice C k c2][q]?:=fun W hW=>(ht.bt.frm hW (by have:=hord.out;omega)).cell
  have cP:∀ W,Frm (fun k=>k=w.heap.size∨k=w.heap.size+1) wE W→∀ q,W.cell? ⟨G+1,q,none⟩=#[Value.int .i64 p.al,.slice B m d,.slice B' m' d'][q]?:=fun W hW=>((ht.pvar hp1).frm hW (by have:=hord.out;omega)).cell
  have hS0:Frm (fun k=>k=w.heap.size∨k=w.heap.size+1) wE wE.drew:=(Ext.refl wE).drew.toFrm
  have ht5:=ht.ext (Ext.refl wE).drew
  go_wp2_with fail
  refine tR (fun X=>Frm (fun k=>k=w.heap.size∨k=w.heap.size+1) wE X) [5] (Ord.of [0,1,2,3,4,5]) ?_
  refine tQ ?_
  generalize hwD:wE.drew=wD at *
  clear hwD
  have ha:=ht5.at_
  have zs:=ht5.zs
  have zt:=ht5.zt
  have zp:=ht5.zp
  have cs:=zs.cell
  have fs:=zs.frozen
  clear ht5 ht
  refine zu fun K hK=>?_;go_simp
  have q1:=zah zs rfl (.int .i64 s.al) (.int .i64 s.st) (.slice A n c)
  have e1:=zT wD w.heap.size (.int .i64 s.al) (.int .i64 s.st) (.slice A n c)
  replace ha:=ha.far zs e1 (by omega) (by decide) (by decide)
  replace zt:=zt.frm e1 (by omega)
  replace zp:=zp.frm e1 (by omega)
  have hS8:=hS0.trans (e1.mono (T:=fun k=>k=w.heap.size∨k=w.heap.size+1) (fun k _ hk=>.inl hk))
  refine hK.out _ _ hS8 ?_
  refine pT ?_
  clear cs fs zs e1
  generalize ((wD.setCell ⟨w.heap.size,0,none⟩ (.int .i64 s.al)).setCell ⟨w.heap.size,1,none⟩ (.int .i64 s.st)).setCell ⟨w.heap.size,2,none⟩ (.slice A n c)=wA at *
  have ct:=zt.cell
  have ft:=zt.frozen
  refine zu fun K hK=>?_;go_simp
  have q2:=zah zt rfl (.int .i64 t.al) (.int .i64 t.st) (.slice C k c2)
  have e2:=zT wA (w.heap.size+1) (.int .i64 t.al) (.int .i64 t.st) (.slice C k c2)
  replace ha:=ha.far zt e2 (by omega) (by decide) (by decide)
  replace zp:=zp.frm e2 (by omega)
  replace q1:=q1.frm e2 (by omega)
  have hS9:=hS8.trans (e2.mono (T:=fun k=>k=w.heap.size∨k=w.heap.size+1) (fun k _ hk=>.inr hk))
  refine hK.out _ _ hS9 ?_
  refine pT ?_
  clear ct ft zt e2 hS8
  generalize ((wA.setCell ⟨w.heap.size+1,0,none⟩ (.int .i64 t.al)).setCell ⟨w.heap.size+1,1,none⟩ (.int .i64 t.st)).setCell ⟨w.heap.size+1,2,none⟩ (.slice C k c2)=wB at *
  have cp:=zp.cell
  have fp:=zp.frozen
  refine zF fun K hK=>?_
  go_simp
  have q3:=zah zp rfl (.int .i64 p.al) (.slice B m d) (.slice B' m' d')
  have e3:=zT wB (w.heap.size+1+1) (.int .i64 p.al) (.slice B m d) (.slice B' m' d')
  replace ha:=ha.far zp e3 (by omega) (by decide) (by decide)
  replace q1:=q1.frm e3 (by omega)
  replace q2:=q2.frm e3 (by omega)
  refine hK.out _ _ ?_
  refine zR ?_
  clear cp fp zp e3 hS9 hS0 cS cT cP
  generalize ((wB.setCell ⟨w.heap.size+1+1,0,none⟩ (.int .i64 p.al)).setCell ⟨w.heap.size+1+1,1,none⟩ (.slice B m d)).setCell ⟨w.heap.size+1+1,2,none⟩ (.slice B' m' d')=wC at *
  have ha':=za ha
  clear ha
  go_wp2_with fail
  have c1:=q1.cell
  have cc2:=q2.cell
  have c3:=q3.cell
  exact bodyPost_ret (v:=.tuple #[.agg #[.int .i64 s.al,.int .i64 s.st,.slice A n c],.agg #[.int .i64 t.al,.int .i64 t.st,.slice C k c2],.agg #[.int .i64 p.al,.slice B m d,.slice B' m' d']]) (by simp [results,Tryz.results14,go_sem,c1,cc2,c3]) rfl ⟨s,A,n,c,t,C,k,c2,p,B,m,d,B',m',d',rfl,ha'.out⟩
def zdj (w:List Nat):Nat:=w.foldl (fun v l=>v*7+(l+1)) 0
theorem zbt (w:List Nat) (l:Nat):zdj (w++[l])=zdj w*7+(l+1):=by simp [zdj]
theorem zgB:zdj []=0:=rfl
theorem zaX {α:Type} (w:List α):w=[]∨∃ u l,w=u++[l]:=by
 rcases List.eq_nil_or_concat w with h|⟨u,l,h⟩
 ·exact Or.inl h
 ·exact Or.inr ⟨u,l,by simpa using h⟩
theorem wval_inj:∀ (n:Nat) (u v:List Nat),u.length≤n→(∀ l∈u,l<6)→(∀ l∈v,l<6)→zdj u=zdj v→u=v:=by
 intro n
 induction n with
 |zero =>
  intro u v hu _ _ h
  obtain rfl:u=[]:=List.eq_nil_of_length_eq_zero (by omega)
  rcases zaX v with rfl|⟨v,m,rfl⟩
  ·rfl
  ·rw [zbt,zgB] at h;omega
 |succ n ih =>
  intro u v hu h1 h2 h
  rcases zaX u with rfl|⟨u,l,rfl⟩
  ·rcases zaX v with rfl|⟨v,m,rfl⟩
   ·rfl
   ·rw [zbt,zgB] at h;omega
  ·rcases zaX v with rfl|⟨v,m,rfl⟩
   ·rw [zbt,zgB] at h;omega
   ·have hl:=h1 l (by simp)
    have hm:=h2 m (by simp)
    rw [zbt,zbt] at h
    have e1:l=m:=by omega
    have e2:zdj u=zdj v:=by omega
    simp only [List.length_append,List.length_singleton] at hu
    rw [e1,ih u v (by omega) (fun x hx=>h1 x (by simp [hx])) (fun x hx=>h2 x (by simp [hx])) e2]
inductive zcI (d:Nat→Nat→List Nat) (start:List Nat):List Nat→Nat→Prop where
 |nil {x:Nat} (h:x∈start):zcI d start [] x
 |snoc {w:List Nat} {l n x:Nat} (h:zcI d start w n) (hx:x∈d n l):zcI d start (w++[l]) x
theorem zcI.inv {d:Nat→Nat→List Nat} {start w:List Nat} {l x:Nat}(h:zcI d start (w++[l]) x):∃ n,zcI d start w n∧x∈d n l:=by
 generalize hv:w++[l]=v at h
 cases h with
 |nil _=>simp at hv
 |@snoc w' l' n _ h hx =>
  have:=List.append_inj' hv rfl
  obtain⟨rfl,h2⟩:=this
  simp at h2
  subst h2
  exact⟨n,h,hx⟩
theorem zcI.inv_nil {d:Nat→Nat→List Nat} {start:List Nat} {x:Nat}(h:zcI d start [] x):x∈start:=by
 generalize hv:([]:List Nat)=v at h
 cases h with
 |nil h=>exact h
 |snoc _ _=>simp at hv
structure Stp where
 parent:Int
 letter:Nat
 nodes:List Nat
section
variable {d:Nat→Nat→List Nat} {start:List Nat} {goal:Nat→Bool} {L:List Nat} {N:Nat} {S:List Bool} {st:List Stp} {ws:List (List Nat)} {i j:Nat}
def Rise (L:List Nat):Prop:=(∀ l∈L,l<6)∧∀ (a b x y:Nat),L[a]?=some x→L[b]?=some y→a<b→x<y
end
end Go.Proofs.YtfcjhpodichpjaaGreat
namespace Go.Proofs.YtfcjhpodichpjaaGreat
def Found (d:Nat→Nat→List Nat) (start:List Nat) (goal:Nat→Bool) (L:List Nat) (v:List Nat):Prop:=
 (∀ l∈v,l∈L)∧(∃ x,zcI d start v x∧goal x=true)∧∀ u,(∀ l∈u,l∈L)→zdj u<zdj v→∀ x,zcI d start u x→goal x=false
def Lost (d:Nat→Nat→List Nat) (start:List Nat) (goal:Nat→Bool) (L:List Nat):Prop:=∀ v,(∀ l∈v,l∈L)→∀ x,zcI d start v x→goal x=false
end Go.Proofs.YtfcjhpodichpjaaGreat
namespace Go.Proofs.YtfcjhpodichpjaaGreat
open Go Go.RowKit
def cho (s:Sys) (i l:Nat):List Nat:=if s.al.toNat.testBit l then letters (succ s.edges i l) 32 else [i]
def nx:List Sys→Nat→Nat→List Nat × Nat × Nat
 |[],m,_=>([0],1,m)
 |s :: r,m,l=>((cho s ((nx r m l).2.2 % s.st.toNat) l).flatMap (fun q=>(nx r m l).1.map fun x=>q*(nx r m l).2.1+x),(nx r m l).2.1*s.st.toNat,(nx r m l).2.2 / s.st.toNat)
def Sml (s:Sys):Prop:=1≤s.st∧s.st≤16∧Few s.st.toNat s.edges∧0≤s.al∧s.al≤63
theorem zdH (a k:Nat):(letters a k).Nodup:=List.Pairwise.filter _ List.nodup_range
theorem zZ {a k x:Nat}:x∈letters a k↔x<k∧a.testBit x=true:=by simp [letters,List.mem_filter]
theorem cho_lt {s:Sys}(h:Sml s) {i l:Nat}(hi:i<s.st.toNat):∀ q∈cho s i l,q<s.st.toNat:=by
 intro q hq
 unfold cho at hq
 split at hq
 ·have hb:=(zZ.1 hq).2
  rcases Nat.lt_or_ge q s.st.toNat with h1|h1
  ·exact h1
  ·have:=Nat.testBit_lt_two_pow (Nat.lt_of_lt_of_le (succ_lt h.2.2.1 i l) (Nat.pow_le_pow_right (by omega) h1))
   rw [hb] at this;cases this
 ·rw [List.mem_singleton.1 hq];exact hi
theorem cho_nodup (s:Sys) (i l:Nat):(cho s i l).Nodup:=by
 unfold cho
 split
 ·exact zdH _ _
 ·simp
theorem nodup_len {l:List Nat}(h:l.Nodup) {p:Nat}(hl:∀ x∈l,x<p):l.length≤p:=by
 have h1:l ⊆ List.range p:=fun x hx=>List.mem_range.2 (hl x hx)
 have:=List.Nodup.length_le_of_subset h h1
 simpa using this
theorem cho_len {s:Sys}(h:Sml s) {i l:Nat}(hi:i<s.st.toNat):(cho s i l).length≤s.st.toNat:=nodup_len (cho_nodup s i l) (cho_lt h hi)
def place (a l:Nat):Nat:=(letters a l).length
def aGo (a:Aut) (q l:Nat):Nat:=if a.al.toNat.testBit l then ((a.next.getD q []).getD (place a.al.toNat l) 0).toNat else q
abbrev Mem:=Nat × (Nat→Nat→List Nat)
def sMem (s:Sys):Mem:=(s.st.toNat,cho s)
def zet (a:Aut):Mem:=(a.next.length,fun q l=>[aGo a q l])
def zan:List Nat→Nat
 |[]=>1
 |m :: r=>m*zan r
def zal (ms:List Mem):Nat:=zan (ms.map Prod.fst)
theorem zcO (m:Mem) (r:List Mem):zal (m :: r)=m.1*zal r:=rfl
theorem zbN (a b:List Nat):zan (a++b)=zan a*zan b:=by
 induction a with
 |nil=>simp [zan]
 |cons x r ih=>rw [List.cons_append,zan,zan,ih,Nat.mul_assoc]
theorem prodN_append (a b:List Mem):zal (a++b)=zal a*zal b:=by
 unfold zal
 rw [List.map_append,zbN]
theorem prodS_pos {l:List Nat}(h:∀ x∈l,1≤x):1≤zan l:=by
 induction l with
 |nil=>simp [zan]
 |cons x r ih=>exact Nat.mul_pos (h x (by simp)) (ih fun y hy=>h y (by simp [hy]))
def dec:List Nat→Nat→List Nat
 |[],_=>[]
 |s :: r,x=>(x / zan r % s) :: dec r x
theorem zbS (l:List Nat) (x:Nat):(dec l x).length=l.length:=by
 induction l with
 |nil=>rfl
 |cons s r ih=>simp [dec,ih]
theorem zfY {l:List Nat} {x k s:Nat}(h:l[k]?=some s):(dec l x)[k]?=some (x / zan (l.drop (k+1)) % s):=by
 induction l generalizing k with
 |nil=>simp at h
 |cons t r ih =>
  cases k with
  |zero=>simp at h;subst h;simp [dec]
  |succ k=>simp at h;simpa [dec] using ih h
def encF (acc:Nat):List Nat→List Nat→Nat
 |s :: r,x :: xs=>encF (acc*s+x) r xs
 |_,_=>acc
def pnx:List Mem→Nat→Nat→List Nat
 |[],_,_=>[0]
 |m :: r,x,l=>(m.2 (x / zal r % m.1) l).flatMap fun q=>(pnx r x l).map fun y=>q*zal r+y
def MemOk (m:Mem):Prop:=1≤m.1∧∀ q l,q<m.1→l<6→∀ x∈m.2 q l,x<m.1
theorem prodN_pos {ms:List Mem}(h:∀ m∈ms,MemOk m):1≤zal ms:=prodS_pos fun x hx=>by
 obtain⟨m,hm,rfl⟩:=List.mem_map.1 hx
 exact (h m hm).1
theorem pnx_lt {ms:List Mem}(h:∀ m∈ms,MemOk m) {x l:Nat}(hl:l<6):∀ y∈pnx ms x l,y<zal ms:=by
 induction ms with
 |nil=>intro y hy;simp [pnx] at hy;subst hy;simp [zal,zan]
 |cons m r ih =>
  intro y hy
  rw [pnx] at hy
  obtain⟨q,hq,hy⟩:=List.mem_flatMap.1 hy
  obtain⟨z,hz,rfl⟩:=List.mem_map.1 hy
  have h1:=(h m (by simp)).2 _ l (Nat.mod_lt _ (h m (by simp)).1) hl q hq
  have h2:=ih (fun m hm=>h m (by simp [hm])) z hz
  rw [zcO]
  calc q*zal r+z<q*zal r+zal r:=by omega
   _=(q+1)*zal r:=by rw [Nat.add_mul,Nat.one_mul]
   _≤m.1*zal r:=Nat.mul_le_mul_right _ h1
theorem zdX (a b:List Mem) (x l:Nat):pnx (a++b) x l=(pnx a (x / zal b) l).flatMap fun q=>(pnx b x l).map fun y=>q*zal b+y:=by
 induction a with
 |nil=>simp [pnx]
 |cons m r ih =>
  rw [List.cons_append,pnx,pnx,ih,prodN_append,List.flatMap_assoc]
  rw [Nat.div_div_eq_div_mul,Nat.mul_comm (zal b) (zal r)]
  congr 1
  funext q
  rw [List.map_flatMap,List.flatMap_map]
  congr 1
  funext z
  rw [List.map_map]
  congr 1
  funext y
  simp only [Function.comp]
  rw [Nat.add_mul,Nat.mul_assoc,Nat.add_assoc]
theorem nx_pnx (ss:List Sys) (m l:Nat):nx ss m l=(pnx (ss.map sMem) m l,zal (ss.map sMem),m / zal (ss.map sMem)):=by
 induction ss with
 |nil=>simp [nx,pnx,zal,zan]
 |cons s r ih =>
  rw [nx,ih,List.map_cons,pnx,zcO]
  simp only [sMem]
  rw [Nat.div_div_eq_div_mul,Nat.mul_comm (zal _) s.st.toNat]
theorem pnx_two (a p:Aut) (x l:Nat):pnx [zet a,zet p] x l=[aGo a (x / p.next.length % a.next.length) l*p.next.length+aGo p (x % p.next.length) l]:=by
 simp [pnx,zet,zal,zan]
theorem pnx_one (p:Aut) (x l:Nat):pnx [zet p] x l=[aGo p (x % p.next.length) l]:=by
 simp [pnx,zet,zal,zan]
theorem pnx_under (ss:List Sys) (a p:Aut) (x l:Nat) :
  pnx (ss.map sMem++[zet a,zet p]) x l=(nx ss (x / p.next.length / a.next.length) l).1.map fun y=>y*a.next.length*p.next.length+(aGo a (x / p.next.length % a.next.length) l*p.next.length+aGo p (x % p.next.length) l):=by
 have hp:zal [zet a,zet p]=a.next.length*p.next.length:=by simp [zal,zan,zet]
 rw [zdX,pnx_two,nx_pnx,hp,Nat.div_div_eq_div_mul,Nat.mul_comm p.next.length a.next.length]
 simp only [List.map_cons,List.map_nil,← List.map_eq_flatMap,Nat.mul_assoc]
def free:Aut:=⟨0,[[]],[true]⟩
theorem pnx_free (ss:List Sys) (p:Aut) (x l:Nat):pnx (ss.map sMem++[zet free,zet p]) x l=pnx (ss.map sMem++[zet p]) x l:=by
 have h0:∀ q l,aGo free q l=q:=fun q l=>by simp [aGo,free]
 rw [zdX,zdX,pnx_two,pnx_one,h0]
 have h1:zal [zet free,zet p]=p.next.length:=by simp [zal,zan,zet,free]
 have h2:zal [zet p]=p.next.length:=by simp [zal,zan,zet]
 rw [h1,h2]
 have h3:free.next.length=1:=rfl
 rw [h3,Nat.mod_one,Nat.zero_mul,Nat.zero_add]
def fwd (cs:List (Nat × List Nat)):List Nat:=cs.foldl (fun out c=>out.flatMap fun o=>c.2.map fun x=>o*c.1+x) [0]
theorem zgb (cs:List (Nat × List Nat)) (c:Nat × List Nat):fwd (cs++[c])=(fwd cs).flatMap fun o=>c.2.map fun x=>o*c.1+x:=by simp [fwd]
def chs:List Mem→Nat→Nat→List (Nat × List Nat)
 |[],_,_=>[]
 |m :: r,x,l=>(m.1,m.2 (x / zal r % m.1) l) :: chs r x l
theorem zdW (ms:List Mem) (x l:Nat):(chs ms x l).length=ms.length:=by
 induction ms with
 |nil=>rfl
 |cons m r ih=>simp [chs,ih]
theorem chs_get {ms:List Mem} {x l k:Nat} {m:Mem}(h:ms[k]?=some m):(chs ms x l)[k]?=some (m.1,m.2 (x / zal (ms.drop (k+1)) % m.1) l):=by
 induction ms generalizing k with
 |nil=>simp at h
 |cons t r ih =>
  cases k with
  |zero=>simp at h;subst h;simp [chs]
  |succ k=>simp at h;simpa [chs] using ih h
theorem foldl_pnx (ms:List Mem) (x l:Nat) (out:List Nat):(chs ms x l).foldl (fun out c=>out.flatMap fun o=>c.2.map fun x=>o*c.1+x) out=out.flatMap fun o=>(pnx ms x l).map fun y=>o*zal ms+y:=by
 induction ms generalizing out with
 |nil=>simp [chs,pnx,zal,zan]
 |cons m r ih =>
  rw [chs,List.foldl_cons,ih,pnx,List.flatMap_assoc]
  congr 1
  funext o
  rw [List.flatMap_map,List.map_flatMap]
  congr 1
  funext q
  rw [List.map_map]
  congr 1
  funext y
  simp only [Function.comp,zcO]
  rw [Nat.add_mul,Nat.mul_assoc,Nat.add_assoc]
theorem fwd_pnx (ms:List Mem) (x l:Nat):fwd (chs ms x l)=pnx ms x l:=by
 have:=foldl_pnx ms x l [0]
 simpa [fwd] using this
theorem flat_len {α β:Type} {l:List α} {f:α→List β} {k:Nat}(h:∀ x∈l,(f x).length≤k):(l.flatMap f).length≤l.length*k:=by
 induction l with
 |nil=>simp
 |cons x r ih =>
  have h1:=ih fun y hy=>h y (by simp [hy])
  have h2:=h x (by simp)
  rw [List.flatMap_cons,List.length_append,List.length_cons,Nat.add_mul,Nat.one_mul]
  omega
theorem fwd_len {cs:List (Nat × List Nat)}(h:∀ c∈cs,c.2.length≤c.1):(fwd cs).length≤zan (cs.map Prod.fst):=by
 have key:∀ n,n≤cs.length→(fwd (cs.take n)).length≤zan ((cs.take n).map Prod.fst):=by
  intro n
  induction n with
  |zero=>intro _;simp [fwd,zan]
  |succ n ih =>
   intro hn
   have hc:cs[n]?=some cs[n]:=List.getElem?_eq_getElem (by omega)
   rw [List.take_add_one,hc]
   simp only [Option.toList_some]
   rw [zgb,List.map_append,zbN]
   refine Nat.le_trans (flat_len (k:=(cs[n]).2.length) fun x _=>by simp) ?_
   refine Nat.mul_le_mul (ih (by omega)) ?_
   simpa [zan] using h cs[n] (List.getElem_mem _)
 have:=key cs.length (Nat.le_refl _)
 rwa [List.take_length] at this
theorem fwd_lt {cs:List (Nat × List Nat)}(h:∀ c∈cs,∀ x∈c.2,x<c.1):∀ y∈fwd cs,y<zan (cs.map Prod.fst):=by
 have key:∀ n,n≤cs.length→∀ y∈fwd (cs.take n),y<zan ((cs.take n).map Prod.fst):=by
  intro n
  induction n with
  |zero=>intro _ y hy;simp [fwd] at hy;subst hy;simp [zan]
  |succ n ih =>
   intro hn y hy
   have hc:cs[n]?=some cs[n]:=List.getElem?_eq_getElem (by omega)
   rw [List.take_add_one,hc] at hy ⊢
   simp only [Option.toList_some] at hy ⊢
   rw [zgb] at hy
   rw [List.map_append,zbN]
   obtain⟨o,ho,hy⟩:=List.mem_flatMap.1 hy
   obtain⟨x,hx,rfl⟩:=List.mem_map.1 hy
   have h1:=ih (by omega) o ho
   have h2:=h cs[n] (List.getElem_mem _) x hx
   simp only [List.map_cons,List.map_nil,zan,Nat.mul_one]
   calc o*(cs[n]).1+x<o*(cs[n]).1+(cs[n]).1:=by omega
    _=(o+1)*(cs[n]).1:=by rw [Nat.add_mul,Nat.one_mul]
    _≤_:=Nat.mul_le_mul_right _ h1
 have:=key cs.length (Nat.le_refl _)
 rwa [List.take_length] at this
theorem sMem_ok {s:Sys}(h:Sml s):MemOk (sMem s):=⟨by have:=h.1;simp only [sMem];omega,fun q l hq hl x hx=>cho_lt h hq x hx⟩
theorem zx {a:Aut}(h:zk a=true):(0≤a.al∧a.al≤63)∧(1≤a.next.length∧a.next.length≤12)∧a.acc.length=a.next.length∧∀ (q:Nat) (row:List Int),a.next[q]?=some row→row.length=(letters a.al.toNat 6).length∧∀ x∈row,0≤x∧x<a.next.length:=by
 simp only [zk,Bool.and_eq_true,decide_eq_true_eq,List.all_eq_true] at h
 obtain⟨h1,h2,h3,h4⟩:=h
 refine⟨h1,h2,h3,fun q row hr=>?_⟩
 have:=h4 row (List.mem_of_getElem? hr)
 simp only [rowB,Bool.and_eq_true,decide_eq_true_eq,List.all_eq_true] at this
 exact this
def Fit (N:Nat) (a:Aut):Prop:=(0≤a.al∧a.al≤63)∧(1≤a.next.length∧a.next.length≤N)∧a.acc.length=a.next.length∧∀ (q:Nat) (row:List Int),a.next[q]?=some row→row.length=(letters a.al.toNat 6).length∧∀ x∈row,0≤x∧x<a.next.length
theorem Fit.row {N:Nat} {a:Aut}(h:Fit N a):(0≤a.al∧a.al≤63)∧(1≤a.next.length∧a.next.length≤N)∧a.acc.length=a.next.length∧∀ (q:Nat) (row:List Int),a.next[q]?=some row→row.length=(letters a.al.toNat 6).length∧∀ x∈row,0≤x∧x<a.next.length:=h
theorem fit_of {a:Aut}(h:zk a=true):Fit 12 a:=zx h
theorem place_lt {a l:Nat}(hl:l<6)(hb:a.testBit l=true):place a l<(letters a 6).length:=by
 have key:∀ n,l+1≤n→place a l<(letters a n).length:=by
  intro n
  induction n with
  |zero=>intro h;omega
  |succ n ih =>
   intro h
   rw [zbL,List.length_append]
   by_cases e:n=l
   ·subst e
    simp [place,hb]
   ·have:=ih (by omega)
    omega
 exact key 6 (by omega)
theorem aGo_ltF {N:Nat} {a:Aut}(h:Fit N a) {q l:Nat}(hq:q<a.next.length)(hl:l<6):aGo a q l<a.next.length:=by
 obtain⟨_,_,_,hr⟩:=h.row
 unfold aGo
 split
 ·rename_i hb
  have hrow:a.next[q]?=some a.next[q]:=List.getElem?_eq_getElem hq
  obtain⟨h1,h2⟩:=hr q _ hrow
  have hp:=place_lt hl hb
  rw [← h1] at hp
  have hx:=h2 _ (List.getElem_mem hp)
  simp only [List.getD_eq_getElem?_getD,hrow,Option.getD_some,List.getElem?_eq_getElem hp]
  omega
 ·exact hq
theorem zfD {a:Aut}(h:zk a=true) {q l:Nat}(hq:q<a.next.length)(hl:l<6):aGo a q l<a.next.length:=aGo_ltF (fit_of h) hq hl
theorem aMem_ok {a:Aut}(h:zk a=true):MemOk (zet a):=⟨(zx h).2.1.1,fun q l hq hl x hx=>by
 simp only [zet,List.mem_singleton] at hx ⊢
 subst hx
 exact zfD h hq hl⟩
theorem free_valid:zk free=true:=by decide
def lst (x:Nat):Nat:=(letters x 32).headD 0
def clsOf (R:List Nat):Nat→List Nat × Nat
 |0=>([],0)
 |k+1=>if lst (R.getD k 0)=k then ((clsOf R k).1++[(clsOf R k).2],(clsOf R k).2+1) else ((clsOf R k).1++[(clsOf R k).1.getD (lst (R.getD k 0)) 0],(clsOf R k).2)
def cl (R:List Nat) (i:Nat):Nat:=(clsOf R (i+1)).1.getD i 0
theorem ltE_trans {a b c:Edg}(h:ltE a b=true)(h':ltE b c=true):ltE a c=true:=by
 unfold ltE at *
 (repeat' split at h)<;>(repeat' split at h')<;>(repeat' split)<;>simp only [decide_eq_true_eq] at*<;> omega
theorem ltE_iff {a b:Edg}:ltE a b=true↔a.fr<b.fr∨a.fr=b.fr∧(a.le<b.le∨a.le=b.le∧a.ta<b.ta):=by
 unfold ltE
 (repeat' split)<;>simp only [decide_eq_true_eq]<;>omega
def Rising (es:List Edg):Prop:=∀ (a b:Nat) (x y:Edg),es[a]?=some x→es[b]?=some y→a<b→ltE x y=true
theorem rising_of {es:List Edg}(h:∀ k x y,es[k]?=some x→es[k+1]?=some y→ltE x y=true):Rising es:=by
 intro a b x y hx hy hab
 induction b generalizing y with
 |zero=>omega
 |succ b ih =>
  have hb:=(List.getElem?_eq_some_iff.1 hy).1
  obtain⟨z,hz⟩:∃ z,es[b]?=some z:=⟨_,List.getElem?_eq_getElem (by omega)⟩
  have h1:=h b z y hz hy
  rcases Nat.lt_or_ge a b with h2|h2
  ·exact ltE_trans (ih z hz h2) h1
  ·obtain rfl:a=b:=by omega
   rw [hx] at hz
   obtain rfl:=Option.some.inj hz
   exact h1
theorem valid_iff {s:Sys}:zv s=true↔(0≤s.al∧s.al≤63)∧(1≤s.st∧s.st≤16)∧(∀ e∈s.edges,edgB s.al.toNat s.st e=true)∧Rising s.edges:=by
 simp only [zv,Bool.and_eq_true,decide_eq_true_eq,List.all_eq_true,List.mem_range]
 constructor
 ·rintro ⟨h1,h2,h3⟩
  refine⟨h1,h2,fun e he=>?_,rising_of fun k x y hx hy=>?_⟩
  ·obtain⟨k,hk⟩:=List.getElem?_of_mem he
   have:=h3 k (List.getElem?_eq_some_iff.1 hk).1
   rw [zcx,hk] at this
   simp only [Bool.and_eq_true] at this
   exact this.1
  ·have:=h3 (k+1) (List.getElem?_eq_some_iff.1 hy).1
   unfold zcx at this
   rw [hy] at this
   simp only [Nat.add_sub_cancel,hx,Bool.and_eq_true,Bool.or_eq_true,decide_eq_true_eq] at this
   rcases this.2 with h|h
   ·omega
   ·exact h
 ·rintro ⟨h1,h2,h3,h4⟩
  refine⟨h1,h2,fun k hk=>?_⟩
  have hx:s.edges[k]?=some s.edges[k]:=List.getElem?_eq_getElem hk
  unfold zcx
  rw [hx]
  simp only [Bool.and_eq_true,Bool.or_eq_true,decide_eq_true_eq]
  refine⟨h3 _ (List.getElem_mem hk),?_⟩
  cases k with
  |zero=>exact Or.inl rfl
  |succ k =>
   have hy:s.edges[k]?=some s.edges[k]:=List.getElem?_eq_getElem (by omega)
   simp only [Nat.add_sub_cancel,hy]
   exact Or.inr (h4 k (k+1) _ _ hy hx (by omega))
def ALAt (w:World) (lo hi:Nat) (A:Option Addr) (n:Nat) (us:List Aut):Prop:=
 n=us.length∧∃ cells,Reads w lo hi 3 A n cells∧∀ (k:Nat) (a:Aut),us[k]?=some a→∃ (B:Option Addr) (m c:Nat) (B':Option Addr) (m' c':Nat),cells[k*3]?=some (.int .i64 a.al)∧cells[k*3+1]?=some (.slice B m c)∧cells[k*3+2]?=some (.slice B' m' c')∧zI w lo hi B m B' m' a
section
variable {w w':World} {lo hi n k:Nat} {A:Option Addr} {us:List Aut}
theorem ALAt.ext (h:ALAt w lo hi A n us)(hb:Ext w w'):ALAt w' lo hi A n us:=by
 obtain⟨e,cells,hr,hx⟩:=h
 refine⟨e,cells,hr.ext hb,fun k s hs=>?_⟩
 obtain⟨B,m,c,B',m',c',h0,h1,h2,h3⟩:=hx k s hs
 exact⟨B,m,c,B',m',c',h0,h1,h2,h3.ext hb⟩
theorem ALAt.len (h:ALAt w lo hi A n us):n≤9223372036854775807:=by
 obtain⟨_,cells,hr,_⟩:=h
 exact hr.len
theorem ALAt.aut (h:ALAt w lo hi A n us)(hk:k<n):∃ b o a B m c B' m' c',A=some ⟨b,o,none⟩∧Hid (us[k]?=some a)∧w.cell? ⟨b,o+k*3,none⟩=some (.int .i64 a.al)∧w.cell? ⟨b,o+k*3+1,none⟩=some (.slice B m c)∧w.cell? ⟨b,o+k*3+2,none⟩=some (.slice B' m' c')∧zI w lo hi B m B' m' a:=by
 obtain⟨e,cells,hr,hx⟩:=h
 have h0:us[0]?=some (us[0]'(by omega)):=List.getElem?_eq_getElem _
 obtain⟨_,_,_,_,_,_,z0,_⟩:=hx 0 _ h0
 rw [Nat.zero_mul] at z0
 obtain⟨b,o,rfl,hl,hb,hc⟩:=zfM hr (by omega) z0
 have hs:us[k]?=some (us[k]'(by omega)):=List.getElem?_eq_getElem _
 obtain⟨B,m,c,B',m',c',h0,h1,h2,h3⟩:=hx k _ hs
 exact⟨b,o,_,B,m,c,B',m',c',rfl,hs,hc _ _ h0,by rw [Nat.add_assoc];exact hc _ _ h1,by rw [Nat.add_assoc];exact hc _ _ h2,h3⟩
end
structure zdB (w:World) (PA:Option Addr) (pn:Nat) (AA:Option Addr) (an:Nat) (ss:List Sys) (us:List Aut):Prop where
 sys:∃ lo hi,SLAt w lo hi PA pn ss
 aut:∃ lo hi,ALAt w lo hi AA an us
theorem zdB.ext {w w':World} {PA AA:Option Addr} {pn an:Nat} {ss:List Sys} {us:List Aut}(h:zdB w PA pn AA an ss us)(hx:Ext w w'):zdB w' PA pn AA an ss us:=by
 obtain⟨⟨lo,hi,h1⟩,lo',hi',h2⟩:=h
 exact⟨⟨lo,hi,h1.ext hx⟩,lo',hi',h2.ext hx⟩
def zaM (ss:List Sys) (us:List Aut):List Mem:=ss.map sMem++us.map zet
def szs (ss:List Sys) (us:List Aut):List Nat:=ss.map (fun s=>s.st.toNat)++us.map fun a=>a.next.length
theorem zdI (ss:List Sys) (us:List Aut):(zaM ss us).map Prod.fst=szs ss us:=by
 simp [zaM,szs,sMem,zet,Function.comp_def]
structure zbZ (ss:List Sys) (us:List Aut):Prop where
 sys:∀ s∈ss,zv s=true
 aut:∀ a∈us,zk a=true
 few:ss.length≤3
 few':us.length≤2
theorem zcA {s:Sys}(h:zv s=true):Sml s:=by
 obtain⟨h1,h2,h3,h4⟩:=valid_iff.1 h
 obtain⟨p,hp,_,_,hf⟩:=zcH h
 refine⟨h2.1,h2.2,?_,h1.1,h1.2⟩
 rw [hp]
 exact hf
theorem zbZ.ok {ss:List Sys} {us:List Aut}(h:zbZ ss us):∀ m∈zaM ss us,MemOk m:=by
 intro m hm
 rcases List.mem_append.1 hm with h1|h1
 ·obtain⟨s,hs,rfl⟩:=List.mem_map.1 h1
  exact sMem_ok (zcA (h.sys s hs))
 ·obtain⟨a,ha,rfl⟩:=List.mem_map.1 h1
  exact aMem_ok (h.aut a ha)
theorem prodS_le {l:List Nat} {b:Nat}(h:∀ x∈l,x≤b):zan l≤b ^ l.length:=by
 induction l with
 |nil=>simp [zan]
 |cons x r ih =>
  rw [zan,List.length_cons,Nat.pow_succ,Nat.mul_comm]
  exact Nat.mul_le_mul (ih fun y hy=>h y (by simp [hy])) (h x (by simp))
theorem zbZ.le16 {ss:List Sys} {us:List Aut}(h:zbZ ss us):∀ x∈szs ss us,1≤x∧x≤16:=by
 intro x hx
 rcases List.mem_append.1 hx with h1|h1
 ·obtain⟨s,hs,rfl⟩:=List.mem_map.1 h1
  have hh:=zcA (h.sys s hs)
  have:=hh.1;have:=hh.2.1
  omega
 ·obtain⟨a,ha,rfl⟩:=List.mem_map.1 h1
  have:=(zx (h.aut a ha)).2.1
  omega
theorem zbZ.len {ss:List Sys} {us:List Aut}(h:zbZ ss us):(szs ss us).length≤5:=by
 have:=h.few;have:=h.few'
 simp [szs];omega
theorem zbZ.total {ss:List Sys} {us:List Aut}(h:zbZ ss us) (l:List Nat)(hl:l.Sublist (szs ss us)):1≤zan l∧zan l≤1048576:=by
 refine⟨prodS_pos fun x hx=>(h.le16 x (hl.subset hx)).1,?_⟩
 have h1:=prodS_le (l:=l) (b:=16) fun x hx=>(h.le16 x (hl.subset hx)).2
 have h2:=hl.length_le
 have h3:=h.len
 calc zan l≤16 ^ l.length:=h1
  _≤16 ^ 5:=Nat.pow_le_pow_right (by omega) (by omega)
  _=1048576:=by decide
theorem place_succ (a k:Nat):place a (k+1)=place a k+if a.testBit k then 1 else 0:=by
 unfold place
 rw [zbL,List.length_append]
 cases a.testBit k<;>simp
theorem spec_l1Place (a l:Nat)(ha:Sm a)(hl:l≤6) (w:World) :
  Calls Tryz.prog 136 #[.int .i64 a,.int .i64 l] w fun e w'=>e=.returned (.int .i64 (place a l:Nat))∧w=w':=by
 go_enter Tryz.func136,Tryz.ntmps136
 go_wp2
 go_loop [5,6] (fun v i=>∃ k y:Nat,k≤l∧i=.int .i64 k∧v=.int .i64 y∧y≤k∧Hid (y=place a k)) (fun _ i=>l - (intOf i).toNat)
 case atStart=>exact⟨0,0,Nat.zero_le _,rfl,rfl,Nat.le_refl _,rfl⟩
 case round =>
  obtain⟨k,y,hk,rfl,rfl,hy,hyo⟩:=hrel
  by_cases hlt:k<l
  ·cases hb:a.testBit k
   all_goals
    have Hb:=za hb
    have Hs:=za (place_succ a k)
    clear hb
    go_wp2_with (go_at_call 73;refine (zac a k ha _ (by omega)).mono ?_;rw [Hb.out];rintro e w' ⟨rfl,rfl⟩)
    go_round
    case rel=>first|exact⟨k+1,y,by omega,by go_num,rfl,by omega,by unfold Hid;rw [Hs.out,Hb.out,← hyo.out];rfl⟩|exact⟨k+1,y+1,by omega,by go_num,by go_num,by omega,by unfold Hid;rw [Hs.out,Hb.out,← hyo.out];rfl⟩
    case measure=>simp [intOf];omega
  ·obtain rfl:l=k:=by omega
   go_wp2
   go_ret
   exact⟨zam (by rw [hyo.out]),rfl⟩
theorem zbX {lo hi:Nat} {B:Option Addr} {m d:Nat} {B':Option Addr} {m' d':Nat} {a:Aut} {q l:Nat} {w:World}(h:zI w lo hi B m B' m' a)(hv:zk a=true)(hq:q<a.next.length)(hl:l<6) :
  Calls Tryz.prog 125 #[.agg #[.int .i64 a.al,.slice B m d,.slice B' m' d'],.int .i64 q,.int .i64 l] w fun e w'=>e=.returned (.int .i64 (aGo a q l:Nat))∧Ext w w':=by
 obtain⟨⟨al0,al1⟩,_,_,hrows⟩:=zx hv
 obtain⟨al,hal⟩:∃ al:Nat,Hid (a.al=al):=⟨a.al.toNat,by unfold Hid;omega⟩
 have hsm:Sm al:=by have:=hal.out;unfold Sm;omega
 have htn:a.al.toNat=al:=by have:=hal.out;omega
 have Hn:=za h.n1
 have HN:=za (fun W (hW:Ext w W)=>h.1.ext hW)
 have hqm:q<m:=by rw [h.n1];exact hq
 have hG:=za (show aGo a q l=if al.testBit l then ((a.next.getD q []).getD (place al l) 0).toNat else q by unfold aGo;rw [htn])
 have hrow:a.next[q]?=some a.next[q]:=List.getElem?_eq_getElem hq
 obtain⟨hr1,hr2⟩:=hrows q _ hrow
 rw [htn] at hr1
 have Hrow:=za hrow
 have Hr2:=za hr2
 have Hr1:=za hr1
 have hlm:=h.1.len
 clear hr1 hr2 hrow htn hrows h
 generalize a.next[q]=row at *
 cases hb:al.testBit l
 ·have Hb:=za hb
  clear hb
  rw [hal.out]
  clear al0 al1
  go_enter Tryz.func125,Tryz.ntmps125
  go_wp2_with (go_at_call 73;refine (zac al l hsm _ (by omega)).mono ?_;rw [Hb.out];rintro e w' ⟨rfl,rfl⟩)
  go_ret
  exact⟨zam (by rw [hG.out,Hb.out];rfl),(Ext.refl _).alloc _⟩
 ·have hp:=za (place_lt hl hb)
  have Hb:=za hb
  clear hb
  rw [hal.out]
  clear al0 al1
  have hpr:place al l<row.length:=by rw [Hr1.out];exact hp.out
  obtain⟨x,hx⟩:∃ x,Hid (row[place al l]?=some x):=⟨_,List.getElem?_eq_getElem hpr⟩
  obtain⟨x0,x1⟩:=Hr2.out x (List.mem_of_getElem? hx.out)
  obtain⟨y,rfl⟩:∃ y:Nat,x=y:=⟨x.toNat,by omega⟩
  have zgF:=za (show aGo a q l=y by rw [hG.out,Hb.out,if_pos rfl];simp only [List.getD_eq_getElem?_getD,Hrow.out,Option.getD_some,hx.out];rfl)
  go_enter Tryz.func125,Tryz.ntmps125
  go_wp2_with (go_at_call 73;refine (zac al l hsm _ (by omega)).mono ?_;rw [Hb.out];rintro e w' ⟨rfl,rfl⟩)
  have hw1:Ext w (w.alloc (.cells #[.int .i64 al,.slice B m d,.slice B' m' d'] 26)):=(Ext.refl w).alloc _
  have hb1:=Blk.new w 26 #[.int .i64 al,.slice B m d,.slice B' m' d']
  generalize w.alloc (.cells #[.int .i64 al,.slice B m d,.slice B' m' d'] 26)=w1 at *
  obtain⟨ad,Ak,ck,l',rfl,_,_,hl',hc,hrd⟩:=(HN.out w1 hw1).row hqm
  obtain rfl:row=l':=by have h1:=Hrow.out;have h2:=hl'.out;rw [h1] at h2;exact Option.some.inj h2
  have hpc:∀ W,Ext w1 W→∃ ad',Ak=some ad'∧W.cell? (ad'.add (place al l))=some (.int .i64 (y:Nat)):=fun W hW=>by
   obtain⟨ad',z,e,_,_,hz,hcz⟩:=(hrd.ext hW).int hpr
   have h1:=hx.out;have h2:=hz.out
   rw [h1] at h2
   obtain rfl:=Option.some.inj h2
   exact⟨ad',e,hcz⟩
  obtain⟨ad',rfl,_⟩:=hpc w1 (Ext.refl _)
  have c2:∀ W,Ext w1 W→W.cell? (ad'.add (place al l))=some (.int .i64 (y:Nat)):=fun W hW=>by
   obtain⟨ad2,e,h⟩:=hpc W hW
   injection e with e
   subst e
   exact h
  have c1:∀ W,Ext w1 W→W.cell? (ad.add q)=some (.slice (some ad') row.length ck):=fun W hW=>hW.cell_some hc
  have c0:=hb1.cells
  clear hpc hc hrd
  have hpi:(place al l:Int)<(row.length:Int):=by omega
  have hrr:=Ext.refl w1
  generalize hpp:place al l=pl at *
  have Hpp:=za hpp
  clear hpp
  go_wp2_with fail
  go_region_held3 (fun W=>Ext w1 W) (first|assumption|(refine Ext.drew ?_;assumption)|(refine Ext.trans ?_ (by assumption);assumption)|(refine Ext.trans ?_ (by assumption);refine Ext.drew ?_;assumption)) ((go_at_call 136;refine (spec_l1Place al l hsm (by omega) _).mono ?_;rw [Hpp.out];rintro e w' ⟨rfl,rfl⟩))
  go_wp2
  go_ret
  exact⟨zam (by rw [zgF.out]),hw1.trans (by assumption)⟩
abbrev Lay (α:Type):=World→Nat→Nat→Value→α→Prop
structure Lay.Ok {α:Type} (P:Lay α):Prop where
 frm:∀ {S:Nat→Prop} {W W':World} {lo hi:Nat} {r:Value} {x:α},P W lo hi r x→Frm S W W'→(∀ k,lo≤k→k<hi→¬ S k)→P W' lo hi r x
 more:∀ {W:World} {lo hi lo' hi':Nat} {r:Value} {x:α},P W lo hi r x→lo'≤lo→hi≤hi'→P W lo' hi' r x
def zbb:Lay Nat:=fun _ _ _ r n=>r=.int .i64 (n:Nat)
theorem zbb.ok:Lay.Ok zbb:=⟨fun h _ _=>h,fun h _ _=>h⟩
def Lst {α:Type} (P:Lay α) (W:World) (lo hi:Nat) (A:Option Addr) (xs:List α):Prop:=
 ∃ rows,Reads W lo hi 1 A xs.length rows∧∀ (i:Nat) (r:Value) (x:α),rows[i]?=some r→xs[i]?=some x→P W lo hi r x
def LstP {α:Type} (P:Lay α):Lay (List α):=fun W lo hi r xs=>∃ A c,r=.slice A xs.length c∧Lst P W lo hi A xs
section
variable {α:Type} {P:Lay α} {W W':World} {lo hi:Nat} {A:Option Addr} {xs:List α}
theorem Lst.frm (hP:Lay.Ok P) {S:Nat→Prop}(h:Lst P W lo hi A xs)(hx:Frm S W W')(hS:∀ k,lo≤k→k<hi→¬ S k):Lst P W' lo hi A xs:=by
 obtain⟨rows,h1,h2⟩:=h
 exact⟨rows,h1.frm hx hS,fun i r x hr hx'=>hP.frm (h2 i r x hr hx') hx hS⟩
theorem Lst.ext (hP:Lay.Ok P)(h:Lst P W lo hi A xs)(hx:Ext W W'):Lst P W' lo hi A xs:=h.frm hP hx (fun _ _ _ h=>h)
theorem Lst.more (hP:Lay.Ok P) {lo' hi':Nat}(h:Lst P W lo hi A xs)(h1:lo'≤lo)(h2:hi≤hi'):Lst P W lo' hi' A xs:=by
 obtain⟨rows,h3,h4⟩:=h
 exact⟨rows,h3.more h1 h2,fun i r x hr hx'=>hP.more (h4 i r x hr hx') h1 h2⟩
theorem LstP.ok (hP:Lay.Ok P):Lay.Ok (LstP P):=by
 refine⟨fun h hx hS=>?_,fun h h1 h2=>?_⟩
 ·obtain⟨A,c,e,h⟩:=h
  exact⟨A,c,e,h.frm hP hx hS⟩
 ·obtain⟨A,c,e,h⟩:=h
  exact⟨A,c,e,h.more hP h1 h2⟩
theorem Lst.len (h:Lst P W lo hi A xs):xs.length≤9223372036854775807:=by
 obtain⟨rows,h1,_⟩:=h
 exact h1.len
theorem Lst.get {k:Nat}(h:Lst P W lo hi A xs)(hk:k<xs.length):∃ b o r x,A=some ⟨b,o,none⟩∧lo≤b∧b<hi∧Hid (xs[k]?=some x)∧W.cell? ⟨b,o+k,none⟩=some r∧P W lo hi r x:=by
 obtain⟨rows,h1,h2⟩:=h
 have hl:=h1.length
 rw [Nat.mul_one] at hl
 obtain⟨ad,e,h3,h4,h5⟩:=h1.at_ hk
 have hr0:rows[0]?=some (rows[0]'(by omega)):=List.getElem?_eq_getElem _
 have hrk:rows[k]?=some (rows[k]'(by omega)):=List.getElem?_eq_getElem _
 have hs:=zcv (h5 0 _ hr0)
 have hc:=h5 k _ hrk
 rw [hs,zP] at hc
 exact⟨ad.block,ad.off,_,_,by rw [e,← hs],h3,h4,List.getElem?_eq_getElem hk,hc,h2 k _ _ hrk (List.getElem?_eq_getElem hk)⟩
theorem Lst.get2 {k b o:Nat} {x:α}(h:Lst P W lo hi (some ⟨b,o,none⟩) xs)(hx:xs[k]?=some x):∃ r,W.cell? ⟨b,o+k,none⟩=some r∧P W lo hi r x:=by
 obtain⟨b',o',r,y,e,_,_,hy,hc,hp⟩:=h.get (List.getElem?_eq_some_iff.1 hx).1
 injection e with e
 injection e with e1 e2
 subst e1;subst e2
 rw [hx] at hy
 have:=Option.some.inj hy.out
 subst this
 exact⟨r,hc,hp⟩
end
theorem Lst.of_nats {W:World} {lo hi:Nat} {A:Option Addr} {xs:List Nat}(h:Reads W lo hi 1 A xs.length (zaH xs)):Lst zbb W lo hi A xs:=⟨zaH xs,h,fun i r x hr hx=>by
 simp only [zaH,List.getElem?_map,hx,Option.map_some] at hr
 exact (Option.some.inj hr).symm⟩
theorem Lst.own_nats {W:World} {base c:Nat} {A:Option Addr} {xs:List Nat}(h:W.ownsRow base 3 1 (.slice A xs.length c) xs.length (zaH xs)):Lst zbb W base W.heap.size A xs:=Lst.of_nats (Reads.of_own h)
theorem Lst.num {W:World} {lo hi k:Nat} {A:Option Addr} {xs:List Nat}(h:Lst zbb W lo hi A xs)(hk:k<xs.length):∃ b o x,A=some ⟨b,o,none⟩∧lo≤b∧b<hi∧Hid (xs[k]?=some x)∧W.cell? ⟨b,o+k,none⟩=some (.int .i64 (x:Nat)):=by
 obtain⟨b,o,r,x,e,h1,h2,h3,h4,h5⟩:=h.get hk
 exact⟨b,o,x,e,h1,h2,h3,by rw [h4,h5]⟩
theorem Lst.num2 {W:World} {lo hi k b o x:Nat} {xs:List Nat}(h:Lst zbb W lo hi (some ⟨b,o,none⟩) xs)(hx:xs[k]?=some x):W.cell? ⟨b,o+k,none⟩=some (.int .i64 (x:Nat)):=by
 obtain⟨r,h1,h2⟩:=h.get2 hx
 rw [h1,h2]
def Grl {α:Type} (P:Lay α) (W:World) (base:Nat) (e:TypeId) (v:Value) (xs:List α):Prop:=
 ∃ rows:List Value,W.ownsRow base e 1 v xs.length rows∧∀ (i:Nat) (r:Value) (x:α),rows[i]?=some r→xs[i]?=some x→∃ lo hi,base≤lo∧hi≤W.heap.size∧P W lo hi r x∧∀ b,v.ownBlock=some b→b<lo∨hi≤b
section
variable {α:Type} {P:Lay α} {W W':World} {base:Nat} {e:TypeId} {v:Value} {xs:List α}
theorem Grl.form (h:Grl P W base e v xs):∃ A c,v=.slice A xs.length c:=by
 obtain⟨rows,h1,_⟩:=h
 exact ze h1
theorem Grl.lst (hP:Lay.Ok P) {A:Option Addr} {n c:Nat}(h:Grl P W base e (.slice A n c) xs):Lst P W base W.heap.size A xs:=by
 obtain⟨rows,h1,h2⟩:=h
 have hn:n=xs.length:=by
  obtain⟨A',c',hh⟩:=ze h1
  injection hh
 subst hn
 refine⟨rows,Reads.of_own h1,fun i r x hr hx=>?_⟩
 obtain⟨lo,hi,h3,h4,h5,_⟩:=h2 i r x hr hx
 exact hP.more h5 h3 h4
theorem Grl.push (hP:Lay.Ok P) {W1:World} {rows:List Value} {v' r:Value} {x:α} {lo hi:Nat}(h2:∀ (i:Nat) (r:Value) (x:α),rows[i]?=some r→xs[i]?=some x→∃ lo hi,base≤lo∧hi≤W.heap.size∧P W lo hi r x∧∀ b,v.ownBlock=some b→b<lo∨hi≤b)(h1:W.ownsRow base e 1 v xs.length rows)
  (hx:Ext W W1) (hr:P W1 lo hi r x) (hlo:W.heap.size≤lo) (hb:base≤lo) (hhi:hi≤W1.heap.size) (zgC:W'.ownsRow base e 1 v' (xs.length+1) (rows++[r])) (hg:W1.grownBy W' v.ownBlock) (hat:v'.ownBlock=v.ownBlock∨v'.ownBlock=some (W1.heap.size+1)):Grl P W' base e v' (xs++[x]):=by
 have hlen:rows.length=xs.length:=by have:=zeV h1;omega
 have hfr:Frm (fun k=>v.ownBlock=some k) W1 W':=Frm.of_grown hg
 refine⟨rows++[r],by rw [List.length_append,List.length_singleton];exact zgC,fun i s y hs hy=>?_⟩
 rcases Nat.lt_trichotomy i rows.length with hi' | hi' | hi'
 ·rw [List.getElem?_append_left hi'] at hs
  rw [List.getElem?_append_left (by omega)] at hy
  obtain⟨lo',hi'',h3,h4,h5,h6⟩:=h2 i s y hs hy
  refine⟨lo',hi'',h3,Nat.le_trans h4 (Nat.le_trans hx.size hfr.size),hP.frm (hP.frm h5 hx (fun _ _ _ h=>h)) hfr (fun k hk1 hk2 hk=>by have:=h6 k hk;omega),fun b hb'=>?_⟩
  rcases hat with h7|h7
  ·rw [h7] at hb';exact h6 b hb'
  ·rw [h7] at hb'
   have:=Option.some.inj hb'
   have:=hx.size
   omega
 ·rw [List.getElem?_append_right (by omega),hi',Nat.sub_self] at hs
  rw [List.getElem?_append_right (by omega),hi',hlen,Nat.sub_self] at hy
  simp at hs hy
  subst hs;subst hy
  refine⟨lo,hi,hb,Nat.le_trans hhi hfr.size,hP.frm hr hfr (fun k hk1 hk2 hk=>by have:=(h1.lt k hk).2;omega),fun b hb'=>?_⟩
  rcases hat with h7|h7
  ·rw [h7] at hb'
   have:=(h1.lt b hb').2
   omega
  ·rw [h7] at hb'
   have:=Option.some.inj hb'
   omega
 ·rw [List.getElem?_eq_none (by simp;omega)] at hs;cases hs
theorem Grl.push2 (hP:Lay.Ok P) {W1:World} {rows:List Value} {r:Value} {x:α} {lo hi g cap:Nat}(h2:∀ (i:Nat) (r:Value) (x:α),rows[i]?=some r→xs[i]?=some x→∃ lo hi,base≤lo∧hi≤W.heap.size∧P W lo hi r x∧∀ b,v.ownBlock=some b→b<lo∨hi≤b)(h1:W.ownsRow base e 1 v xs.length rows)
  (hx:Ext W W1) (hr:P W1 lo hi r x) (hlo:W.heap.size≤lo) (hb:base≤lo) (hhi:hi≤W1.heap.size) (zgC:W'.ownsRow base e 1 (.slice (some ⟨g,0,none⟩) (xs.length+1) cap) (xs.length+1) (rows++[r])) (hg:W1.grownBy W' v.ownBlock) (hat:v.ownBlock=some g∨g=W1.heap.size+1):Grl P W' base e (.slice (some ⟨g,0,none⟩) (xs.length+1) cap) (xs++[x]):=
 Grl.push hP h2 h1 hx hr hlo hb hhi zgC hg (by
  rcases hat with h|h
  ·exact Or.inl h.symm
  ·exact Or.inr (by rw [h];rfl))
end
theorem own_farP {w:World} {base:Nat} {e t:TypeId} {size n G:Nat} {v:Value} {xs:List Value} {cs:Array Value}(h:w.ownsRow base e size v n xs)(hB:Blk w G t cs)(hne:e≠t) {b:Nat}(hv:v.ownBlock=some b):b≠G:=by
 rintro rfl
 rcases h.2 with ⟨rfl,_⟩|⟨g,cap,cur,rfl,_,hh,_⟩
 ·simp [Value.ownBlock] at hv
 ·have hg:g=b:=by simpa [Value.ownBlock] using hv
  subst hg
  unfold Blk at hB
  rw [hh] at hB
  injection hB with hB
  injection hB with _ ht
  exact absurd ht hne
theorem zcz (l:List Nat) (x:Nat):zaH (l++[x])=zaH l++[.int .i64 (x:Nat)]:=by simp [zaH]
theorem spec_l4Sizes {PA AA:Option Addr} {pn pc an ac:Nat} {sv:Value} {L K G:Int} {ss:List Sys} {us:List Aut} {w:World}(h:zdB w PA pn AA an ss us)(hok:zbZ ss us) :
  Calls Tryz.prog 116 #[.agg #[.slice PA pn pc,.slice AA an ac,sv,.int .i64 L,.int .i64 K,.int .i64 G]] w (zbl w (szs ss us)):=by
 have HN:=za (fun W (hW:Ext w W)=>h.ext hW)
 have hpn:Hid (pn=ss.length):=by obtain⟨_,_,h1⟩:=h.sys;exact h1.1
 have han:Hid (an=us.length):=by obtain⟨_,_,h1⟩:=h.aut;exact h1.1
 have hp3:pn≤3:=by rw [hpn.out];exact hok.few
 have ha2:an≤2:=by rw [han.out];exact hok.few'
 have Hok:=za hok
 clear h hok
 go_enter Tryz.func116,Tryz.ntmps116
 have hw1:Ext w (w.alloc (.cells #[.slice PA pn pc,.slice AA an ac,sv,.int .i64 L,.int .i64 K,.int .i64 G] 142)):=(Ext.refl w).alloc _
 have hb1:=Blk.new w 142 #[.slice PA pn pc,.slice AA an ac,sv,.int .i64 L,.int .i64 K,.int .i64 G]
 go_wp2
 go_loopw [3,4] (fun v i wr=>∃ k:Nat,k≤pn∧i=.int .i64 k∧wr.ownsRow w.heap.size 3 1 v k (zaH ((ss.take k).map fun s=>s.st.toNat))∧Ext w wr∧Blk wr w.heap.size 142 #[.slice PA pn pc,.slice AA an ac,sv,.int .i64 L,.int .i64 K,.int .i64 G])
  (fun _ i _=>pn - (intOf i).toNat)
 case atStart=>exact⟨0,Nat.zero_le _,rfl,(by have h0:=World.ownsRow_lit (base:=w.heap.size) (e:=3) (size:=1) (w.alloc (.cells #[.slice PA pn pc,.slice AA an ac,sv,.int .i64 L,.int .i64 K,.int .i64 G] 142)) #[] 0 (by simp) (by unfold maxLen;omega) rfl;simpa [zaH] using h0),hw1.alloc _,hb1.ext ((Ext.refl _).alloc _)⟩
 case round =>
  obtain⟨k,hk,rfl,zgC,zgE,hbx⟩:=hrel
  have c0:=hbx.cell
  by_cases hlt:k<pn
  ·obtain⟨lo,hi,hsl⟩:=(HN.out wr zgE).sys
   obtain⟨b,o,s,B,q,d,rfl,hlo,hhi,hs,e0,e1,e2,hsy⟩:=hsl.sys hlt
   have hss:=zcA (Hok.out.sys s (List.mem_of_getElem? hs.out))
   obtain⟨p,hp⟩:∃ p:Nat,Hid (s.st=p):=⟨s.st.toNat,by have:=hss.1;unfold Hid;omega⟩
   rw [hp.out] at e1
   have Htk:=za (show (ss.take (k+1)).map (fun s=>s.st.toNat)=(ss.take k).map (fun s=>s.st.toNat)++[p] by rw [List.take_add_one,hs.out];simp [hp.out])
   clear hss hsl hsy
   go_wp2_with (at_builtin;refine zW w wr rfl _ _ _ rfl 3 _ 1 8 Tryz.underlying53 zag rfl (by decide) u3 _ _ _ _ rfl rfl zgE zgC rfl (zbp _) (by unfold maxLen;omega) (by omega) ?_;intro v' w1 hext1 zgL hg1 hat1)
   have hbx1:Blk w1 w.heap.size 142 #[.slice (some ⟨b,o,none⟩) pn pc,.slice AA an ac,sv,.int .i64 L,.int .i64 K,.int .i64 G]:=(hg1.block _ hbx.lt (fun e=>own_farP zgC hbx (by decide) e.symm rfl)).trans hbx
   go_roundw
   case rel=>exact⟨k+1,by omega,by go_num,by rw [Htk.out,zcz];exact zgL,hext1,hbx1⟩
   case measure=>simp [intOf];omega
  ·obtain rfl:pn=k:=by omega
   have hown0:wr.ownsRow w.heap.size 3 1 u3 pn (zaH (ss.map fun s=>s.st.toNat)):=by rw [List.take_of_length_le (by have:=hpn.out;omega)] at zgC;exact zgC
   clear zgC
   go_wp2
   go_loopw [3,5] (fun v i wr=>∃ k:Nat,k≤an∧i=.int .i64 k∧wr.ownsRow w.heap.size 3 1 v (pn+k) (zaH (ss.map (fun s=>s.st.toNat)++(us.take k).map fun a=>a.next.length))∧Ext w wr∧Blk wr w.heap.size 142 #[.slice PA pn pc,.slice AA an ac,sv,.int .i64 L,.int .i64 K,.int .i64 G])
    (fun _ i _=>an - (intOf i).toNat)
   case atStart=>exact⟨0,Nat.zero_le _,rfl,by simpa using hown0,zgE,hbx⟩
   case round =>
    clear hown0 zgE hbx c0
    obtain⟨k,hk,rfl,zgC,zgE,hbx⟩:=hrel
    have c0:=hbx.cell
    by_cases hlt:k<an
    ·obtain⟨lo,hi,hsl⟩:=(HN.out wr zgE).aut
     obtain⟨b,o,a,B,m,c,B',m',c',rfl,hs,e0,e1,e2,hat⟩:=hsl.aut hlt
     have hm:=za hat.n1
     have hm12:m≤12:=by have:=(zx (Hok.out.aut a (List.mem_of_getElem? hs.out))).2.1;rw [← hm.out] at this;omega
     have Htk:=za (show ss.map (fun s=>s.st.toNat)++(us.take (k+1)).map (fun a=>a.next.length)=(ss.map (fun s=>s.st.toNat)++(us.take k).map (fun a=>a.next.length))++[m] by rw [List.take_add_one,hs.out];simp [hm.out])
     clear hsl hat
     go_wp2_with (at_builtin;refine zW w wr rfl _ _ _ rfl 3 _ 1 8 Tryz.underlying53 zag rfl (by decide) u3 _ _ _ _ rfl rfl zgE zgC rfl (zbp _) (by unfold maxLen;omega) (by omega) ?_;intro v' w1 hext1 zgL hg1 hat1)
     have hbx1:Blk w1 w.heap.size 142 #[.slice PA pn pc,.slice (some ⟨b,o,none⟩) an ac,sv,.int .i64 L,.int .i64 K,.int .i64 G]:=(hg1.block _ hbx.lt (fun e=>own_farP zgC hbx (by decide) e.symm rfl)).trans hbx
     go_roundw
     case rel=>exact⟨k+1,by omega,by go_num,by rw [Htk.out,zcz];exact zgL,hext1,hbx1⟩
     case measure=>simp [intOf];omega
    ·obtain rfl:an=k:=by omega
     have hown0:wr.ownsRow w.heap.size 3 1 u3 (pn+an) (zaH (szs ss us)):=by rw [List.take_of_length_le (by have:=han.out;omega)] at zgC;exact zgC
     have hle:pn+an=(szs ss us).length:=by have:=zeV hown0;simp [zaH] at this;omega
     rw [hle] at hown0
     obtain⟨A5,c5,rfl⟩:=ze hown0
     clear zgC
     go_wp2
     go_ret
     exact⟨_,_,rfl,hown0,zgE⟩
theorem zgu {A B:Option Addr} {c d:Nat} {lo hi lo' hi':Nat} {sz st:List Nat} {w:World}(h:Lst zbb w lo hi A sz)(h':Lst zbb w lo' hi' B st)(hl:sz.length=st.length)(hb:∀ k,k≤sz.length→encF 0 (sz.take k) (st.take k)≤1048576)(hz:∀ x∈sz,x≤16)(hs:∀ x∈st,x≤16) :
  Calls Tryz.prog 121 #[.slice A sz.length c,.slice B st.length d] w fun e w'=>e=.returned (.int .i64 (encF 0 sz st:Nat))∧Ext w w':=by
 have HA:=za (fun W (hW:Ext w W)=>h.ext zbb.ok hW)
 have HB:=za (fun W (hW:Ext w W)=>h'.ext zbb.ok hW)
 have Hb:=za hb
 have Hz:=za hz
 have Hs:=za hs
 have hlen:=h.len
 have hn:∃ n:Nat,Hid (sz.length=n)∧Hid (st.length=n):=⟨sz.length,rfl,hl.symm⟩
 obtain⟨n,hn1,hn2⟩:=hn
 rw [hn1.out] at hlen
 rw [hn1.out,hn2.out]
 clear hb hz hs hl h h'
 go_enter Tryz.func121,Tryz.ntmps121
 go_wp2
 go_loopw [5,6] (fun v i wr=>∃ k y:Nat,k≤n∧i=.int .i64 k∧v=.int .i64 y∧Hid (y=encF 0 (sz.take k) (st.take k))∧y≤1048576∧Ext w wr) (fun _ i _=>n - (intOf i).toNat)
 case atStart=>exact⟨0,0,Nat.zero_le _,rfl,rfl,rfl,by omega,Ext.refl _⟩
 case round =>
  obtain⟨k,y,hk,rfl,rfl,hy,hym,hx⟩:=hrel
  by_cases hlt:k<n
  ·obtain⟨b,o,s,rfl,_,_,hs,hc⟩:=(HA.out wr hx).num (show k<sz.length by rw [hn1.out];exact hlt)
   obtain⟨b',o',t,rfl,_,_,ht,hc'⟩:=(HB.out wr hx).num (show k<st.length by rw [hn2.out];exact hlt)
   have hs16:=Hz.out s (List.mem_of_getElem? hs.out)
   have ht16:=Hs.out t (List.mem_of_getElem? ht.out)
   have c1:∀ W,Ext wr W→W.cell? ⟨b,o+k,none⟩=some (.int .i64 (s:Nat)):=fun W hW=>hW.cell_some hc
   have c2:∀ W,Ext wr W→W.cell? ⟨b',o'+k,none⟩=some (.int .i64 (t:Nat)):=fun W hW=>hW.cell_some hc'
   have hst:=za (show encF 0 (sz.take (k+1)) (st.take (k+1))=y*s+t by
    have key:∀ (k acc:Nat) (sz st:List Nat),sz[k]?=some s→st[k]?=some t→encF acc (sz.take (k+1)) (st.take (k+1))=encF acc (sz.take k) (st.take k)*s+t:=by
     intro k
     induction k with
     |zero =>
      intro acc sz st h1 h2
      cases sz<;>cases st<;>simp at h1 h2
      subst h1;subst h2
      simp [encF]
     |succ k ih =>
      intro acc sz st h1 h2
      cases sz<;>cases st<;>simp at h1 h2
      simpa [encF] using ih _ _ _ h1 h2
    rw [key k 0 sz st hs.out ht.out,hy.out])
   have hbd:=Hb.out (k+1) (by rw [hn1.out];omega)
   rw [hst.out] at hbd
   have hmul:y*s≤1048576:=by omega
   obtain⟨ys,hys⟩:∃ z:Nat,Hid (y*s=z):=⟨_,rfl⟩
   have hysi:(y:Int)*(s:Int)=(ys:Int):=by rw [← hys.out];exact (Int.natCast_mul y s).symm
   rw [hys.out] at hmul hbd hst
   have hrr:=Ext.refl wr
   clear hc hc'
   go_wp2_with fail
   go_quiet (fail)
   go_wp2_with fail
   go_roundw
   case rel=>exact⟨k+1,ys+t,by omega,by go_num,by go_num,by unfold Hid;rw [hst.out],hbd,hx.drewN _⟩
   case measure=>simp [intOf];omega
  ·obtain rfl:n=k:=by omega
   have zgF:=za (show y=encF 0 sz st by rw [hy.out,List.take_of_length_le (by rw [hn1.out];exact Nat.le_refl _),List.take_of_length_le (by rw [hn2.out];exact Nat.le_refl _)])
   go_wp2
   go_ret
   exact⟨zam (by rw [zgF.out]),hx⟩
def decV (sz:List Nat) (x k:Nat):List Nat:=List.replicate k 0++dec (sz.drop k) x
theorem decV_set {sz:List Nat} {x k s:Nat}(h:sz[k]?=some s):(zaH (decV sz x (k+1))).set k (.int .i64 ((x / zan (sz.drop (k+1)) % s:Nat):Int))=zaH (decV sz x k):=by
 have hd:sz.drop k=s :: sz.drop (k+1):=by
  obtain⟨hk,rfl⟩:=List.getElem?_eq_some_iff.1 h
  exact List.drop_eq_getElem_cons hk
 unfold decV zaH
 rw [hd,dec,List.replicate_succ',List.append_assoc,List.map_append,List.map_append,List.set_append_right _ _ (by simp)]
 simp
theorem zdO {A:Option Addr} {c n y0:Nat} {lo hi:Nat} {sz:List Nat} {w:World}(h:Lst zbb w lo hi A sz)(hn:sz.length=n)(hn5:n≤1000)(hz:∀ x∈sz,1≤x∧x≤16)(hy:y0≤4611686018427387904) :
  Calls Tryz.prog 119 #[.slice A n c,.int .i64 y0] w (zbl w (dec sz y0)):=by
 have HA:=za (fun W (hW:Ext w W)=>h.ext zbb.ok hW)
 have Hz:=za hz
 have Hn:=za hn
 clear hz h hn
 go_enter Tryz.func119,Tryz.ntmps119
 go_wp2_with (at_make;refine zco w w rfl _ _ 53 rfl 3 _ 1 8 Tryz.underlying53 zag _ _ n rfl rfl (Ext.refl _) (by omega) (by unfold maxLen;omega) ?_;intro w3 hw3 zgN hx23 hsz3)
 generalize hg:w.heap.size=g at *
 have Hg:=za hg
 clear hg hx23 hsz3
 go_loopw [1,6] (fun v i wr=>∃ k y:Nat,k≤n∧i=.int .i64 ((k:Int) - 1)∧v=.int .i64 y∧y≤4611686018427387904∧Hid (y=y0 / zan (sz.drop k))∧wr.ownsRow g 3 1 (.slice (some ⟨g,0,none⟩) n n) n (zaH (decV sz y0 k))∧Ext w wr) (fun _ i _=>(intOf i+1).toNat)
 case atStart=>exact⟨n,y0,Nat.le_refl _,by go_num,rfl,hy,by unfold Hid;rw [List.drop_of_length_le (by have:=Hn.out;omega)];simp [zan],by rw [decV,List.drop_of_length_le (by have:=Hn.out;omega)];simpa [zaH,dec,Value.cells,toList_madeCells_one] using zgN,hw3⟩
 case round =>
  clear zgN hw3
  obtain⟨k,y,hk,rfl,rfl,hym,hyo,zgC,hx⟩:=hrel
  by_cases hlt:0<k
  ·obtain⟨j,rfl⟩:∃ j,k=j+1:=⟨k - 1,by omega⟩
   obtain⟨b,o,s,rfl,_,_,hs,hc⟩:=(HA.out wr hx).num (show j<sz.length by have:=Hn.out;omega)
   obtain⟨s1,s16⟩:=Hz.out s (List.mem_of_getElem? hs.out)
   obtain⟨o0,g0⟩:=zbe zgC j (by omega)
   have f0:=zgC.frozenAt j
   have hmd:(y:Int) % (s:Int)=((y % s:Nat):Int):=(Int.natCast_emod y s).symm
   have hdv:(y:Int) / (s:Int)=((y / s:Nat):Int):=(Int.natCast_ediv y s).symm
   have hst:=zgC.stored j (.int .i64 ((y % s:Nat):Int))
   rw [hyo.out,decV_set hs.out,← hyo.out] at hst
   have hdr:=za (show y / s=y0 / zan (sz.drop j) by
    rw [hyo.out,Nat.div_div_eq_div_mul,List.drop_eq_getElem_cons (show j<sz.length by have:=Hn.out;omega),zan]
    have:sz[j]'(by have:=Hn.out;omega)=s:=by
     obtain⟨h1,h2⟩:=List.getElem?_eq_some_iff.1 hs.out
     exact h2
    rw [this,Nat.mul_comm])
   have hle:y / s≤4611686018427387904:=Nat.le_trans (Nat.div_le_self _ _) hym
   have hs0:¬ (s=0):=by omega
   have hgw:w.heap.size≤g:=by have:=Hg.out;omega
   have hj1:((j+1:Nat):Int) - 1=(j:Int):=by omega
   rw [hj1]
   have hc2:=(HA.out _ (hx.setCell (p:=⟨g,j,none⟩) hgw (.int .i64 ((y % s:Nat):Int)))).num2 hs.out
   generalize y % s=ym at *
   generalize y / s=yd at *
   go_wp2
   go_roundw
   case rel=>exact⟨j,yd,by omega,rfl,rfl,hle,hdr,hst.1,hx.setCell (p:=⟨g,j,none⟩) hgw _⟩
   case measure=>simp [intOf]
  ·obtain rfl:k=0:=by omega
   have hlen:=zbS sz y0
   have zgF:=za (show wr.ownsRow w.heap.size 3 1 (.slice (some ⟨g,0,none⟩) (dec sz y0).length n) (dec sz y0).length (zaH (dec sz y0)) by
    rw [hlen,Hn.out,Hg.out]
    simpa [decV] using zgC)
   have hln:(dec sz y0).length=n:=by have:=Hn.out;omega
   go_wp2
   go_ret
   exact⟨some ⟨g,0,none⟩,n,by rw [hln];rfl,zgF.out,hx⟩
theorem spec_l4In {A:Option Addr} {c n:Nat} {lo hi x:Nat} {xs:List Nat} {w:World}(h:Lst zbb w lo hi A xs)(hn:xs.length=n) :
  Calls Tryz.prog 134 #[.slice A n c,.int .i64 x] w fun e w'=>e=.returned (.bool (decide (x∈xs)))∧w=w':=by
 have Hn:=za hn
 have hlen:=h.len
 rw [hn] at hlen
 clear hn
 go_enter Tryz.func134,Tryz.ntmps134
 go_wp2
 go_loop [5] (fun i=>∃ k:Nat,k≤n∧i=.int .i64 k∧Hid (∀ (j z:Nat),j<k→xs[j]?=some z→z≠x)) (fun i=>n - (intOf i).toNat)
 case atStart=>exact⟨0,Nat.zero_le _,rfl,(show Hid _ from fun j z hj=>by omega)⟩
 case round =>
  obtain⟨k,hk,rfl,hno⟩:=hrel
  by_cases hlt:k<n
  ·obtain⟨b,o,z,rfl,_,_,hz,hc⟩:=h.num (show k<xs.length by rw [Hn.out];exact hlt)
   by_cases hzx:z=x
   ·subst hzx
    have hm:=za (List.mem_of_getElem? hz.out)
    go_wp2
    go_ret
    exact⟨zl (by rw [decide_eq_true hm.out]),rfl⟩
   ·have hne:((z:Int)==(x:Int))=false:=by simp;omega
    go_wp2
    go_round
    case rel=>exact⟨k+1,by omega,by go_num,(show Hid _ from fun j y hj hy=>by
     by_cases e:j=k
     ·subst e
      have:=hz.out
      rw [hy] at this
      injection this with this
      subst this
      exact hzx
     ·exact hno.out j y (by omega) hy)⟩
    case measure=>simp [intOf];omega
  ·obtain rfl:n=k:=by omega
   have hm:=za (show ¬ x∈xs from fun hx=>by
    obtain⟨j,hj⟩:=List.getElem?_of_mem hx
    exact hno.out j x (by have:=(List.getElem?_eq_some_iff.1 hj).1;rw [Hn.out] at this;exact this) hj rfl)
   go_wp2
   go_ret
   exact⟨zl (by rw [decide_eq_false hm.out]),rfl⟩
def zdT (a:Aut) (q:Nat):Bool:=a.acc.getD q false
theorem zfg {PA AA:Option Addr} {pn pc an ac:Nat} {sv:Value} {L K G:Int} {ss:List Sys} {us:List Aut} {w:World} {SA:Option Addr} {sn sc lo hi i q:Nat} {st:List Nat} {a:Aut}(h:zdB w PA pn AA an ss us)(h':Lst zbb w lo hi SA st)(hsn:st.length=sn)(hi:us[i]?=some a)(hq:st[pn+i]?=some q)(hqa:q<a.acc.length) :
  Calls Tryz.prog 132 #[.agg #[.slice PA pn pc,.slice AA an ac,sv,.int .i64 L,.int .i64 K,.int .i64 G],.slice SA sn sc,.int .i64 i] w fun e w'=>e=.returned (.bool (zdT a q))∧Ext w w':=by
 have hia:i<an:=by obtain⟨_,_,h1⟩:=h.aut;rw [h1.1];exact (List.getElem?_eq_some_iff.1 hi).1
 have hsq:pn+i<sn:=by rw [← hsn];exact (List.getElem?_eq_some_iff.1 hq).1
 obtain⟨lo',hi',hal⟩:=h.aut
 have hlen:=hal.len
 have hlen':pn≤9223372036854775807:=by obtain⟨_,_,h1⟩:=h.sys;exact h1.len
 have hlen2:=h'.len
 rw [hsn] at hlen2
 obtain⟨b,o,a',B,m,c,B',m',c',rfl,ha',e0,e1,e2,hat⟩:=hal.aut hia
 obtain rfl:a=a':=by have:=ha'.out;rw [hi] at this;exact Option.some.inj this
 obtain⟨bs,os,q',rfl,_,_,hq',hc⟩:=h'.num (show pn+i<st.length by rw [hsn];exact hsq)
 obtain rfl:q=q':=by have:=hq'.out;rw [hq] at this;exact Option.some.inj this
 have hm':q<m':=by rw [hat.n2];exact hqa
 obtain⟨ad,x,rfl,_,_,hx,hcx⟩:=hat.2.2.bool hm'
 have zgF:=za (show zdT a q=x by unfold zdT;rw [List.getD_eq_getElem?_getD,hx.out];rfl)
 have hml:=hat.2.2.len
 have hw1:Ext w (w.alloc (.cells #[.slice PA pn pc,.slice (some ⟨b,o,none⟩) an ac,sv,.int .i64 L,.int .i64 K,.int .i64 G] 142)):=(Ext.refl w).alloc _
 have hb1:=Blk.new w 142 #[.slice PA pn pc,.slice (some ⟨b,o,none⟩) an ac,sv,.int .i64 L,.int .i64 K,.int .i64 G]
 have c1:∀ W,Ext w W→W.cell? ⟨b,o+i*3+2,none⟩=some (.slice (some ad) m' c'):=fun W hW=>hW.cell_some e2
 have c2:∀ W,Ext w W→W.cell? ⟨bs,os+(pn+i),none⟩=some (.int .i64 (q:Nat)):=fun W hW=>hW.cell_some hc
 have c3:∀ W,Ext w W→W.cell? (ad.add q)=some (.bool x):=fun W hW=>hW.cell_some hcx
 clear hal hat h h' e0 e1 e2 hc hcx hx hq' ha' hi hq hqa
 go_enter Tryz.func132,Tryz.ntmps132
 go_wp2_with fail
 generalize w.alloc (.cells #[.slice PA pn pc,.slice (some ⟨b,o,none⟩) an ac,sv,.int .i64 L,.int .i64 K,.int .i64 G] 142)=w1 at *
 have c0:=hb1.cell
 have c1:=c1 w1 hw1
 have c2:=c2 w1 hw1
 have c3:=c3 w1 hw1
 have hpi:(pn:Int)+(i:Int)<(sn:Int):=by omega
 have hii:(i:Int)<(an:Int):=by omega
 have hqi:(q:Int)<(m':Int):=by omega
 go_quiet (fail)
 go_wp2_with fail
 go_ret
 exact⟨zl (by rw [zgF.out]),hw1.drewN _⟩
theorem info_u8:(Tryz.prog.info? 5).map (fun i=>(i.zero,i.size,i.bytes))=some (some (.int .u8 0),1,1):=by kernel_rfl
def lbs (o:List Nat):List Int:=o.map fun l=>((97+l:Nat):Int)
theorem u8_row:Tryz.prog.underlying 22=some (.slice 5):=by kernel_rfl
theorem u8_und:Tryz.prog.underlying 5=some (.int .u8):=by kernel_rfl
theorem str_und:Tryz.prog.underlying 9=some .string:=by kernel_rfl
def zeN (w:World) (d:Nat→Nat→List Nat) (start:List Nat) (goal:Nat→Bool) (L:List Nat) (e:Ending) (w':World):Prop:=
 Ext w w'∧((∃ v,e=.returned (.tuple #[.string (strOfNums (lbs v)),.bool true])∧Found d start goal L v)∨(e=.returned (.tuple #[.string ByteArray.empty,.bool false])∧Lost d start goal L))
theorem stepB_zero (es:List Edg) (l:Int):zbI es 0 l=0:=by
 apply Nat.eq_of_testBit_eq
 intro k
 rw [Nat.zero_testBit,Bool.eq_false_iff]
 intro h
 obtain⟨e,_,⟨_,h2⟩,_⟩:=(zfi es 0 l k).1 h
 simp at h2
theorem rising_pw {es:List Edg}:Rising es↔es.Pairwise (fun x y=>ltE x y=true):=by
 rw [List.pairwise_iff_getElem]
 constructor
 ·intro h i j hi hj hij
  exact h i j _ _ (List.getElem?_eq_getElem hi) (List.getElem?_eq_getElem hj) hij
 ·intro h a b x y hx hy hab
  obtain⟨ha,rfl⟩:=List.getElem?_eq_some_iff.1 hx
  obtain⟨hb,rfl⟩:=List.getElem?_eq_some_iff.1 hy
  exact h a b ha hb hab
theorem zfJ (a k:Nat):(letters a k).Pairwise (·<·):=List.Pairwise.filter _ List.pairwise_lt_range
theorem asc_ext:∀ {l m:List Nat},l.Pairwise (·<·)→m.Pairwise (·<·)→(∀ x,x∈l↔x∈m)→l=m:=by
 intro l
 induction l with
 |nil =>
  intro m _ _ h
  cases m with
  |nil=>rfl
  |cons y s=>exact absurd ((h y).2 (by simp)) (by simp)
 |cons x r ih =>
  intro m hl hm h
  cases m with
  |nil=>exact absurd ((h x).1 (by simp)) (by simp)
  |cons y s =>
   rw [List.pairwise_cons] at hl hm
   have e:x=y:=by
    have h1:=(h x).1 (by simp)
    have h2:=(h y).2 (by simp)
    rcases List.mem_cons.1 h1 with h1|h1
    ·exact h1
    ·rcases List.mem_cons.1 h2 with h2|h2
     ·exact h2.symm
     ·have:=hl.1 y h2
      have:=hm.1 x h1
      omega
   subst e
   rw [ih hl.2 hm.2 fun z=>?_]
   have hz:=h z
   simp only [List.mem_cons] at hz
   constructor
   ·intro h1
    have:=hl.1 z h1
    rcases hz.1 (Or.inr h1) with h2|h2
    ·omega
    ·exact h2
   ·intro h1
    have:=hm.1 z h1
    rcases hz.2 (Or.inr h1) with h2|h2
    ·omega
    ·exact h2
def chE (es:List Edg) (q l:Nat):List Nat:=(es.filter fun e=>e.fr==(q:Int)&&e.le==(l:Int)).map fun e=>e.ta.toNat
theorem chE_cho {p:Nat} {es:List Edg}(hf:Few p es)(hp:p≤16)(hr:Rising es) (q l:Nat):chE es q l=letters (succ es q l) 32:=by
 refine asc_ext ?_ (zfJ _ _) fun x=>?_
 ·have h1:=rising_pw.1 hr
  rw [chE,List.pairwise_map,List.pairwise_filter]
  refine h1.imp_of_mem fun {a b} ha hb hab h2 h3=>?_
  simp only [Bool.and_eq_true,beq_iff_eq] at h2 h3
  have:=ltE_iff.1 hab
  have:=hf a ha
  have:=hf b hb
  omega
 ·rw [zZ,zeK,chE,List.mem_map]
  simp only [List.mem_filter,Bool.and_eq_true,beq_iff_eq]
  constructor
  ·rintro ⟨e,⟨h1,h2⟩,rfl⟩
   have:=hf e h1
   exact⟨by omega,e,h1,h2,rfl⟩
  ·rintro ⟨_,e,h1,h2,rfl⟩
   exact⟨e,⟨h1,h2⟩,rfl⟩
theorem chE_take {es:List Edg} {k:Nat} {x:Edg}(h:es[k]?=some x) (q l:Nat):chE (es.take (k+1)) q l=chE (es.take k) q l++if x.fr=(q:Int)∧x.le=(l:Int) then [x.ta.toNat] else []:=by
 rw [List.take_add_one,h]
 unfold chE
 rw [Option.toList_some,List.filter_append,List.map_append]
 congr 1
 by_cases hc:x.fr=(q:Int)∧x.le=(l:Int)
 ·rw [if_pos hc];simp [hc]
 ·rw [if_neg hc]
  have:(x.fr==(q:Int)&&x.le==(l:Int))=false:=by
   rw [Bool.eq_false_iff]
   intro h
   simp only [Bool.and_eq_true,beq_iff_eq] at h
   exact hc h
  simp [this]
theorem chE_len {p:Nat} {es:List Edg}(hf:Few p es)(hp:p≤16)(hr:Rising es) (q l k:Nat):(chE (es.take k) q l).length≤16:=by
 have h1:(chE (es.take k) q l).Sublist (chE es q l):=((List.take_sublist k es).filter _).map _
 refine Nat.le_trans h1.length_le (Nat.le_trans (nodup_len (p:=p) ?_ ?_) hp)
 ·rw [chE_cho hf hp hr];exact zdH _ _
 ·intro x hx
  obtain⟨e,he,rfl⟩:=List.mem_map.1 hx
  have:=hf e (List.mem_filter.1 he).1
  omega
theorem ret_one {w W:World} {y g:Nat}(hx:Ext w W)(hb:Blk W g 3 #[.int .i64 (y:Nat)])(hg:w.heap.size≤g):zbl w [y] (.returned (.slice (some ⟨g,0,none⟩) 1 1)) W:=
 ⟨some ⟨g,0,none⟩,1,rfl,⟨rfl,.inr ⟨g,1,_,rfl,hg,hb,by simp [zaH,maxLen]⟩⟩,hx⟩
theorem zfz {PA AA:Option Addr} {pn pc an ac:Nat} {sv:Value} {L K G:Int} {ss:List Sys} {us:List Aut} {w:World} {i q l:Nat} {m:Mem}(h:zdB w PA pn AA an ss us)(hok:zbZ ss us)(hm:(zaM ss us)[i]?=some m)(hq:q<m.1)(hl:l<6) :
  Calls Tryz.prog 137 #[.agg #[.slice PA pn pc,.slice AA an ac,sv,.int .i64 L,.int .i64 K,.int .i64 G],.int .i64 i,.int .i64 q,.int .i64 l] w (zbl w (m.2 q l)):=by
 have hw1:Ext w (w.alloc (.cells #[.slice PA pn pc,.slice AA an ac,sv,.int .i64 L,.int .i64 K,.int .i64 G] 142)):=(Ext.refl w).alloc _
 have hb1:=Blk.new w 142 #[.slice PA pn pc,.slice AA an ac,sv,.int .i64 L,.int .i64 K,.int .i64 G]
 have HN:=za (fun W (hW:Ext w W)=>h.ext hW)
 have hpn:Hid (pn=ss.length):=by obtain⟨_,_,h1⟩:=h.sys;exact h1.1
 have han:Hid (an=us.length):=by obtain⟨_,_,h1⟩:=h.aut;exact h1.1
 have hp3:pn≤3:=by rw [hpn.out];exact hok.few
 have ha2:an≤2:=by rw [han.out];exact hok.few'
 by_cases hip:i<pn
 ·have hs:ss[i]?=some (ss[i]'(by rw [← hpn.out];exact hip)):=List.getElem?_eq_getElem _
  generalize ss[i]'(by rw [← hpn.out];exact hip)=s at hs
  obtain rfl:m=sMem s:=by
   rw [zaM,List.getElem?_append_left (by simp;have:=hpn.out;omega),List.getElem?_map,hs] at hm
   exact (Option.some.inj hm).symm
  have hv:=hok.sys s (List.mem_of_getElem? hs)
  obtain⟨hal,hst,_,hris⟩:=valid_iff.1 hv
  obtain⟨p,hp,hp1,hp2,hf⟩:=zcH hv
  obtain⟨al,ha⟩:∃ al:Nat,Hid (s.al=al):=⟨s.al.toNat,by unfold Hid;omega⟩
  have hsm:Sm al:=by have:=ha.out;unfold Sm;omega
  have hres:=za (show (sMem s).2 q l=if al.testBit l then chE s.edges q l else [q] by
   rw [chE_cho hf hp2 hris]
   simp only [sMem,cho]
   rw [ha.out,Int.toNat_natCast])
  have Hs:=za hs
  have H16:=za (chE_len hf hp2 hris q l)
  have Hf:=za hf
  clear hs hv hal hst hris hf hm hok h hq
  rw [hres.out]
  cases hb:al.testBit l
  ·have Hb:=za hb
   clear hb
   go_enter Tryz.func137,Tryz.ntmps137
   go_upto_region 1 with fail
   generalize w.alloc (.cells #[.slice PA pn pc,.slice AA an ac,sv,.int .i64 L,.int .i64 K,.int .i64 G] 142)=w1 at *
   have c0:=hb1.cell
   obtain⟨lo,hi,hsl⟩:=(HN.out w1 hw1).sys
   obtain⟨b,o,s',B,n,c',rfl,_,_,hs',e0,e1,e2,hsx⟩:=hsl.sys hip
   obtain rfl:s=s':=by have:=hs'.out;rw [Hs.out] at this;exact Option.some.inj this
   rw [ha.out] at e0
   clear e1 hsl hsx
   go_wp2_with (go_at_call 73;with_reducible refine (zac al l hsm _ (by omega)).mono ?_;rw [Hb.out];rintro e w' ⟨rfl,rfl⟩)
   go_ret
   exact ret_one (hw1.alloc _) (Blk.new _ _ _) hw1.size
  ·have Hb:=za hb
   clear hb
   simp only [if_true]
   go_enter Tryz.func137,Tryz.ntmps137
   go_upto_region 1 with fail
   generalize w.alloc (.cells #[.slice PA pn pc,.slice AA an ac,sv,.int .i64 L,.int .i64 K,.int .i64 G] 142)=w1 at *
   have c0:=hb1.cell
   obtain⟨lo,hi,hsl⟩:=(HN.out w1 hw1).sys
   obtain⟨b,o,s',B,n,c',rfl,_,_,hs',e0,e1,e2,hsx⟩:=hsl.sys hip
   obtain rfl:s=s':=by have:=hs'.out;rw [Hs.out] at this;exact Option.some.inj this
   rw [ha.out] at e0
   have Hnl:=za hsx.1
   have HR:=za (fun W (hW:Ext w1 W)=>hsx.2.ext hW)
   have hnm:=hsx.2.len
   clear e1 hsl hsx
   go_upto_region 6 with (go_at_call 73;with_reducible refine (zac al l hsm _ (by omega)).mono ?_;rw [Hb.out];rintro e w' ⟨rfl,rfl⟩)
   have hx2:=(Ext.refl w1).alloc (.cells #[] 3)
   have hsz2:w.heap.size≤w1.heap.size:=hw1.size
   have zgM:=World.ownsRow_lit (base:=w1.heap.size) (e:=3) (size:=1) w1 #[] 0 (Nat.le_refl _) (by unfold maxLen;omega) rfl
   have c0':=(hb1.ext hx2).cell
   have e2':=hx2.cell_some e2
   generalize w1.alloc (.cells #[] 3)=w2 at *
   clear c0 e0 e2
   go_wp2_with fail
   go_loopw [9,11] (fun v j wr=>∃ k:Nat,k≤n∧j=.int .i64 k∧wr.ownsRow w1.heap.size 3 1 v (chE (s.edges.take k) q l).length (zaH (chE (s.edges.take k) q l))∧Ext w1 wr) (fun _ j _=>n - (intOf j).toNat)
   case atStart=>exact⟨0,Nat.zero_le _,rfl,zgM,hx2⟩
   case round =>
    clear zgM c0' e2' hx2
    obtain⟨k,hk,rfl,zgC,hx⟩:=hrel
    by_cases hlt:k<n
    ·obtain⟨b',o',x,rfl,_,_,hxx,d0,d1,d2⟩:=(HR.out wr hx).edge hlt
     obtain⟨⟨f0,f1⟩,⟨l0,l1⟩,⟨t0,t1⟩⟩:=Hf.out x (List.mem_of_getElem? hxx.out)
     have Htk:=za (chE_take hxx.out q l)
     have hck':=H16.out k
     by_cases hfr:x.fr=(q:Int)
     ·by_cases hle:x.le=(l:Int)
      ·obtain⟨t,ht⟩:∃ t:Nat,x.ta=t:=⟨x.ta.toNat,by omega⟩
       rw [hfr] at d0
       rw [hle] at d1
       rw [ht] at d2
       have Htk2:=za (show chE (s.edges.take (k+1)) q l=chE (s.edges.take k) q l++[t] by rw [Htk.out,if_pos ⟨hfr,hle⟩,ht];rfl)
       clear hfr hle f0 f1 l0 l1 t0 t1 ht Htk
       generalize chE (s.edges.take k) q l=cs at *
       go_wp2_with (at_builtin;refine zW w1 wr rfl _ _ _ rfl 3 _ 1 8 Tryz.underlying53 zag rfl (by decide) u9 _ _ _ _ rfl rfl hx zgC rfl (zbp _) (by unfold maxLen;omega) (by omega) ?_;intro v' w5 hext5 zgO hg5 hat5)
       go_roundw
       case rel=>exact⟨k+1,by omega,by go_num,by rw [Htk2.out,List.length_append,zcz];exact zgO,hext5⟩
       case measure=>simp [intOf];omega
      ·have hne:(x.le==(l:Int))=false:=by simp;omega
       have Htk2:=za (show chE (s.edges.take (k+1)) q l=chE (s.edges.take k) q l by rw [Htk.out,if_neg (fun h=>hle h.2),List.append_nil])
       rw [hfr] at d0
       clear hfr hle f0 f1 l0 l1 t0 t1 Htk
       go_wp2_with fail
       go_roundw
       case rel=>exact⟨k+1,by omega,by go_num,by rw [Htk2.out];exact zgC,hx⟩
       case measure=>simp [intOf];omega
     ·have hne:(x.fr==(q:Int))=false:=by simp;omega
      have Htk2:=za (show chE (s.edges.take (k+1)) q l=chE (s.edges.take k) q l by rw [Htk.out,if_neg (fun h=>hfr h.1),List.append_nil])
      clear hfr f0 f1 l0 l1 t0 t1 Htk
      go_wp2_with fail
      go_roundw
      case rel=>exact⟨k+1,by omega,by go_num,by rw [Htk2.out];exact zgC,hx⟩
      case measure=>simp [intOf];omega
    ·obtain rfl:n=k:=by omega
     have zgF:=za (show wr.ownsRow w.heap.size 3 1 u9 (chE s.edges q l).length (zaH (chE s.edges q l)) by
      rw [List.take_of_length_le (by have:=Hnl.out;omega)] at zgC
      exact zi zgC hsz2)
     obtain⟨A5,c5,rfl⟩:=ze zgF.out
     have hxw:=hw1.trans hx
     clear zgC
     go_wp2
     go_ret
     exact⟨_,_,rfl,zgF.out,hxw⟩
 ·obtain⟨j,hj⟩:∃ j,i=pn+j:=⟨i - pn,by omega⟩
  subst hj
  have hmj:us[j]?.map zet=some m:=by
   rw [zaM,List.getElem?_append_right (by simp;have:=hpn.out;omega),List.getElem?_map] at hm
   rw [← hm]
   congr 2
   simp;have:=hpn.out;omega
  obtain⟨a,ha,rfl⟩:=Option.map_eq_some_iff.1 hmj
  have hja:j<an:=by rw [han.out];exact (List.getElem?_eq_some_iff.1 ha).1
  have hva:=za (hok.aut a (List.mem_of_getElem? ha))
  have Ha:=za ha
  have Hq:=za (show q<a.next.length from hq)
  clear hm hmj ha hok h hq
  change Calls _ _ _ _ (zbl w [aGo a q l])
  go_enter Tryz.func137,Tryz.ntmps137
  go_upto_region 1 with fail
  generalize w.alloc (.cells #[.slice PA pn pc,.slice AA an ac,sv,.int .i64 L,.int .i64 K,.int .i64 G] 142)=w1 at *
  have c0:=hb1.cell
  obtain⟨lo,hi,hal⟩:=(HN.out w1 hw1).aut
  obtain⟨b,o,a',B,m,c,B',m',c',rfl,ha',e0,e1,e2,hat⟩:=hal.aut hja
  obtain rfl:a=a':=by have:=ha'.out;rw [Ha.out] at this;exact Option.some.inj this
  have hge:¬ ((pn+j:Nat):Int)<(pn:Int):=by omega
  have hsb:((pn+j:Nat):Int) - (pn:Int)=(j:Int):=by omega
  have Hat:=za hat
  clear hal hat
  go_wp2_with (go_at_call 125;with_reducible refine (zbX Hat.out hva.out Hq.out hl).mono ?_;rintro e w5 ⟨rfl,hx5⟩)
  go_ret
  exact ret_one ((hw1.trans hx5).alloc _) (Blk.new _ _ _) ((hw1.trans hx5).size)
theorem wrapN (n:Nat)(h:n<9223372036854775808):IntKind.i64.wrap (n:Int)=(n:Int):=by rw [IntKind.wrap_i64];omega
theorem chs_fst (ms:List Mem) (x l:Nat):(chs ms x l).map Prod.fst=ms.map Prod.fst:=by
 induction ms with
 |nil=>rfl
 |cons m r ih=>simp [chs,ih]
theorem zbZ.choices {ss:List Sys} {us:List Aut}(h:zbZ ss us) {m:Mem}(hm:m∈zaM ss us) {q l:Nat}(hq:q<m.1)(hl:l<6):(∀ x∈m.2 q l,x<m.1)∧(m.2 q l).length≤m.1:=by
 refine⟨(h.ok m hm).2 q l hq hl,?_⟩
 rcases List.mem_append.1 hm with h1|h1
 ·obtain⟨s,hs,rfl⟩:=List.mem_map.1 h1
  exact cho_len (zcA (h.sys s hs)) hq
 ·obtain⟨a,ha,rfl⟩:=List.mem_map.1 h1
  have:=(zx (h.aut a ha)).2.1.1
  simp only [zet]
  simpa using this
theorem zbZ.fwd_ {ss:List Sys} {us:List Aut}(h:zbZ ss us) (x:Nat) {l:Nat}(hl:l<6) (k:Nat):(fwd ((chs (zaM ss us) x l).take k)).length≤1048576∧∀ y∈fwd ((chs (zaM ss us) x l).take k),y<1048576:=by
 have hc:∀ c∈(chs (zaM ss us) x l).take k,(∀ y∈c.2,y<c.1)∧c.2.length≤c.1:=by
  intro c hc
  obtain⟨i,hi⟩:=List.getElem?_of_mem (List.mem_of_mem_take hc)
  have hil:=(List.getElem?_eq_some_iff.1 hi).1
  rw [zdW] at hil
  have hm:(zaM ss us)[i]?=some (zaM ss us)[i]:=List.getElem?_eq_getElem hil
  rw [chs_get hm] at hi
  obtain rfl:=Option.some.inj hi
  have hmm:=List.getElem_mem hil
  exact h.choices hmm (Nat.mod_lt _ (h.ok _ hmm).1) hl
 have hp:=(h.total (((chs (zaM ss us) x l).take k).map Prod.fst) (by rw [← zdI,← chs_fst _ x l];exact (List.take_sublist _ _).map _)).2
 refine⟨Nat.le_trans (fwd_len fun c hc'=>(hc c hc').2) hp,fun y hy=>Nat.lt_of_lt_of_le (fwd_lt (fun c hc'=>(hc c hc').1) y hy) hp⟩
theorem spec_l4Nexts {PA AA SA TA:Option Addr} {pn pc an ac n sc tc lo hi lo' hi':Nat} {sv:Value} {L K G:Int} {ss:List Sys} {us:List Aut} {w:World} {x l:Nat}(h:zdB w PA pn AA an ss us)(hok:zbZ ss us)(hS:Lst zbb w lo hi SA (szs ss us))(hT:Lst zbb w lo' hi' TA (dec (szs ss us) x))(hn:(szs ss us).length=n)(hl:l<6) :
  Calls Tryz.prog 131 #[.agg #[.slice PA pn pc,.slice AA an ac,sv,.int .i64 L,.int .i64 K,.int .i64 G],.slice SA n sc,.slice TA n tc,.int .i64 l] w (zbl w (pnx (zaM ss us) x l)):=by
 have hw1:Ext w (w.alloc (.cells #[.slice PA pn pc,.slice AA an ac,sv,.int .i64 L,.int .i64 K,.int .i64 G] 142)):=(Ext.refl w).alloc _
 have hb1:=Blk.new w 142 #[.slice PA pn pc,.slice AA an ac,sv,.int .i64 L,.int .i64 K,.int .i64 G]
 have HN:=za (fun W (hW:Ext w W)=>h.ext hW)
 have HS:=za (fun W (hW:Ext w W)=>hS.ext zbb.ok hW)
 have HT:=za (fun W (hW:Ext w W)=>hT.ext zbb.ok hW)
 have Hok:=za hok
 have hn5:n≤5:=by rw [← hn];exact hok.len
 have hKl:(chs (zaM ss us) x l).length=n:=by rw [zdW,← hn,← zdI,List.length_map]
 have Hfw:=za (hok.fwd_ x hl)
 have Hget:=za (show ∀ k,k<n→∃ m,(zaM ss us)[k]?=some m∧(szs ss us)[k]?=some m.1∧(dec (szs ss us) x)[k]?=some (x / zal ((zaM ss us).drop (k+1)) % m.1)∧(chs (zaM ss us) x l)[k]?=some (m.1,m.2 (x / zal ((zaM ss us).drop (k+1)) % m.1) l)∧1≤m.1∧m.1≤16 from fun k hk=>by
  have hkl:k<(zaM ss us).length:=by rw [← zdW _ x l,hKl];exact hk
  have hm:(zaM ss us)[k]?=some (zaM ss us)[k]:=List.getElem?_eq_getElem hkl
  have hz:(szs ss us)[k]?=some ((zaM ss us)[k]).1:=by rw [← zdI,List.getElem?_map,hm];rfl
  refine⟨_,hm,hz,?_,chs_get hm,hok.le16 _ (List.mem_of_getElem? hz)⟩
  rw [zfY hz,← zdI,← List.map_drop]
  rfl)
 have Hfin:=za (fwd_pnx (zaM ss us) x l)
 have Hch:=za (fun (m:Mem) (hm:m∈zaM ss us) (q l:Nat) (hq:q<m.1) (hl:l<6)=>hok.choices hm hq hl)
 clear h hS hT hok
 generalize hK:chs (zaM ss us) x l=KK at *
 have Hlen:=za hKl
 have HSl:=za hn
 clear hK hKl hn
 go_enter Tryz.func131,Tryz.ntmps131
 go_upto_region 1 with fail
 generalize w.alloc (.cells #[.slice PA pn pc,.slice AA an ac,sv,.int .i64 L,.int .i64 K,.int .i64 G] 142)=w1 at *
 go_upto_region 2 with fail
 have hx2:=(Ext.refl w1).alloc (.cells #[.int .i64 0] 3)
 have hsz2:w.heap.size≤w1.heap.size:=hw1.size
 have zgM:=World.ownsRow_lit (base:=w1.heap.size) (e:=3) (size:=1) w1 #[.int .i64 0] 1 (Nat.le_refl _) (by unfold maxLen;omega) rfl
 generalize hg1:(some ⟨w1.heap.size,0,none⟩:Option Addr)=A1 at *
 clear hg1
 generalize w1.alloc (.cells #[.int .i64 0] 3)=w2 at *
 go_wp2_with fail
 go_loopw [9,10,11,12,13,14] (fun v i _ _ _ _ wr=>∃ (k:Nat) (out:List Nat),i=.int .i64 k∧k≤n∧Hid (out=fwd (KK.take k))∧wr.ownsRow w1.heap.size 3 1 v out.length (zaH out)∧Ext w1 wr) (fun _ i _ _ _ _ _=>n - (intOf i).toNat)
 case atStart=>exact⟨0,[0],rfl,Nat.zero_le _,rfl,by simpa [zaH] using zgM,hx2⟩
 case round =>
  clear zgM hx2
  obtain⟨k,out,rfl,hk,hout,zgC,hx⟩:=hrel
  obtain⟨A0,c0,rfl⟩:=ze zgC
  by_cases hlt:k<n
  ·obtain⟨m,hm,hz,hd,hc,hm1,hm16⟩:=Hget.out k hlt
   have Hm:=za hm
   have Hc:=za hc
   obtain⟨ho1,ho2⟩:=Hfw.out k
   rw [← hout.out] at ho1 ho2
   have Ho2:=za ho2
   obtain⟨q,hq⟩:∃ q:Nat,Hid (x / zal ((zaM ss us).drop (k+1)) % m.1=q):=⟨_,rfl⟩
   have hqm:q<m.1:=by rw [← hq.out];exact Nat.mod_lt _ hm1
   obtain⟨hcs1,hcs2⟩:=Hch.out m (List.mem_of_getElem? hm) q l hqm hl
   have Hcs1:=za hcs1
   rw [hq.out] at hd
   have Hc2:=za (show KK[k]?=some (m.1,m.2 q l) by rw [Hc.out,hq.out])
   obtain⟨sz,hsz⟩:∃ sz:Nat,Hid (m.1=sz):=⟨_,rfl⟩
   obtain⟨cs,hcs⟩:∃ cs:List Nat,Hid (m.2 q l=cs):=⟨_,rfl⟩
   have hkl:k<(dec (szs ss us) x).length:=(List.getElem?_eq_some_iff.1 hd).1
   have hww:=hw1.trans hx
   obtain⟨bt,ot,q',rfl,_,_,hq',hct⟩:=(HT.out wr hww).num hkl
   obtain rfl:q=q':=by have:=hq'.out;rw [hd] at this;exact Option.some.inj this
   obtain⟨bz,oz,z',rfl,_,_,hz',hcz⟩:=(HS.out wr hww).num (List.getElem?_eq_some_iff.1 hz).1
   obtain rfl:m.1=z':=by have:=hz'.out;rw [hz] at this;exact Option.some.inj this
   have Hqm:=za hqm
   rw [hsz.out] at hcz hm1 hm16 hcs2
   rw [hcs.out] at hcs2 Hcs1
   rw [hsz.out] at Hcs1 Hc2
   rw [hcs.out] at Hc2
   have hstep:=za (show fwd (KK.take (k+1))=out.flatMap fun o=>cs.map fun y=>o*sz+y by
    rw [List.take_add_one,Hc2.out,Option.toList_some,zgb,← hout.out])
   have CT:∀ W,Ext wr W→W.cell? ⟨bt,ot+k,none⟩=some (.int .i64 (q:Nat)):=fun W hW=>hW.cell_some hct
   have CB:∀ W,Ext wr W→∀ j,W.cell? ⟨w.heap.size,j,none⟩=#[Value.slice PA pn pc,.slice AA an ac,sv,.int .i64 L,.int .i64 K,.int .i64 G][j]?:=fun W hW=>((hb1.ext hx).ext hW).cell
   have CC:=za (show ∀ W,Ext wr W→Calls Tryz.prog 137 #[.agg #[.slice PA pn pc,.slice AA an ac,sv,.int .i64 L,.int .i64 K,.int .i64 G],.int .i64 k,.int .i64 q,.int .i64 l] W (zbl W cs) from fun W hW=>by
    have:=zfz (pc:=pc) (ac:=ac) (sv:=sv) (L:=L) (K:=K) (G:=G) (HN.out W (hww.trans hW)) Hok.out Hm.out Hqm.out hl
    rw [hcs.out] at this
    exact this)
   have hki:(k:Int)<(n:Int):=by omega
   have hrr:=Ext.refl wr
   clear hct hz' hq' hz hd hc hm hqm hcs1 ho2 Hqm
   go_upto_region 5 with fail
   refine uR (fun X=>Ext wr X) [7] (zG.of [0,1,2,3,4,5,6,7,8]) ?_
   refine uQ ?_
   refine zg fun K hK=>?_
   go_simp
   refine (CC.out _ hrr.drew).mono ?_
   rintro e w4 ⟨A4,c4,rfl,hown4,hx4⟩
   refine hK.out _ _ ?_
   refine pT ?_
   refine uQ ?_
   refine zh ?_
   have hw4:Ext wr w4:=hrr.drew.trans hx4
   have hL4:=Lst.own_nats hown4
   have hLo:=(Lst.own_nats zgC).ext zbb.ok hw4
   have hcz4:=hw4.cell_some hcz
   clear CT CB CC hrr hown4 hx4 hcz
   go_upto_region 7 with fail
   have hx5:=(Ext.refl w4).alloc (.cells #[] 3)
   have zgO:=World.ownsRow_lit (base:=w4.heap.size) (e:=3) (size:=1) w4 #[] 0 (Nat.le_refl _) (by unfold maxLen;omega) rfl
   generalize hg1:(some ⟨w4.heap.size,0,none⟩:Option Addr)=A5 at *
   clear hg1
   generalize w4.alloc (.cells #[] 3)=w5 at *
   have hLo':=za (fun W (hW:Ext w4 W)=>hLo.ext zbb.ok hW)
   have hL4':=za (fun W (hW:Ext w4 W)=>hL4.ext zbb.ok hW)
   have Hsz:=za (fun W (hW:Ext w4 W)=>hW.cell_some hcz4)
   clear hLo hL4 hcz4
   go_wp2_with fail
   go_loopw [12,13,14] (fun v i _ wr=>∃ (a:Nat) (nx:List Nat),i=.int .i64 a∧a≤out.length∧Hid (nx=(out.take a).flatMap fun o=>cs.map fun y=>o*sz+y)∧wr.ownsRow w4.heap.size 3 1 v nx.length (zaH nx)∧Ext w4 wr) (fun _ i _ _=>out.length - (intOf i).toNat)
   case atStart=>exact⟨0,[],rfl,Nat.zero_le _,by simp [Hid],by simpa [zaH] using zgO,hx5⟩
   case round =>
    clear zgO hx5
    obtain⟨a,nx,rfl,ha,hnx,zgO,hx5⟩:=hrel
    by_cases hla:a<out.length
    ·obtain⟨bo,oo,o,rfl,_,_,ho,hco⟩:=(hLo'.out _ hx5).num hla
     have holt:=Ho2.out o (List.mem_of_getElem? ho.out)
     have hnl:nx.length≤16777216:=by
      rw [hnx.out]
      refine Nat.le_trans (flat_len (k:=cs.length) fun z _=>by simp) ?_
      rw [List.length_take]
      have:=Nat.mul_le_mul (show min a out.length≤1048576 by omega) (show cs.length≤16 by omega)
      omega
     have hsn:=za (show ((out.take (a+1)).flatMap fun o=>cs.map fun y=>o*sz+y)=nx++cs.map fun y=>o*sz+y by
      rw [List.take_add_one,ho.out,hnx.out];simp)
     clear hco
     go_wp2_with fail
     go_loopw [12,14] (fun v i wr=>∃ (b:Nat) (nb:List Nat),i=.int .i64 b∧b≤cs.length∧Hid (nb=nx++(cs.take b).map fun y=>o*sz+y)∧wr.ownsRow w4.heap.size 3 1 v nb.length (zaH nb)∧Ext w4 wr) (fun _ i _=>cs.length - (intOf i).toNat)
     case atStart=>exact⟨0,nx,rfl,Nat.zero_le _,by simp [Hid],zgO,hx5⟩
     case round =>
      clear zgO hx5
      obtain⟨b,nb,rfl,hb,hnb,zgO,hx5⟩:=hrel
      by_cases hlb:b<cs.length
      ·obtain⟨bc,oc,y,rfl,_,_,hy,hcy⟩:=(hL4'.out _ hx5).num hlb
       have hylt:=Hcs1.out y (List.mem_of_getElem? hy.out)
       have hnbl:nb.length≤16777216+16:=by rw [hnb.out,List.length_append,List.length_map,List.length_take];omega
       have hmul:o*sz≤1048576*16:=Nat.mul_le_mul (by omega) hm16
       obtain⟨os,hos⟩:∃ z:Nat,Hid (o*sz=z):=⟨_,rfl⟩
       have hosi:(o:Int)*(sz:Int)=(os:Int):=by rw [← hos.out];exact (Int.natCast_mul o sz).symm
       rw [hos.out] at hmul
       have hsn3:=za (show (nx++(cs.take (b+1)).map fun y=>o*sz+y)=nb++[os+y] by
        rw [List.take_add_one,hy.out,hnb.out,← hos.out];simp)
       have C1:∀ W,Ext wr W→W.cell? ⟨bo,oo+a,none⟩=some (.int .i64 (o:Nat)):=fun W hW=>(hLo'.out W (hx5.trans hW)).num2 ho.out
       have C2:∀ W,Ext wr W→W.cell? ⟨bz,oz+k,none⟩=some (.int .i64 (sz:Nat)):=fun W hW=>Hsz.out W (hx5.trans hW)
       have C3:∀ W,Ext wr W→W.cell? ⟨bc,oc+b,none⟩=some (.int .i64 (y:Nat)):=fun W hW=>hW.cell_some hcy
       have hai:(a:Int)<(out.length:Int):=by omega
       have hbi:(b:Int)<(cs.length:Int):=by omega
       have hww5:=Ext.refl wr
       clear hcy
       go_upto_region 13 with fail
       refine uR (fun X=>Ext wr X) [15,16] (zG.of [0,1,2,3,4,5,6,7,8,9,10,11,12,13,14,15,16,17]) ?_
       refine uQ ?_
       refine zb fun K hK=>?_;go_simp
       refine hK.out _ _ (hww5.drew.alloc _) ?_
       refine pT ?_
       refine zg fun K hK=>?_
       refine zaw w4 wr.drew _ _ _ rfl 3 _ 1 8 Tryz.underlying53 zag rfl (by decide) u12 nb.length (zaH nb) _ _ rfl rfl (hx5.drew).size zgO rfl (zbp _) (by unfold maxLen;omega) (by omega) ?_
       intro g5 cap5 w6 hown6 hg6 hat6 hlt6
       have hwr:IntKind.i64.wrap (IntKind.i64.wrap (os:Int)+(y:Int))=((os+y:Nat):Int):=by rw [wrapN os (by omega),← Int.natCast_add,wrapN (os+y) (by omega)]
       rw [hwr] at hown6
       refine hK.out _ _ ?_
       refine pT ?_
       refine uQ ?_
       refine zh ?_
       have hx6:Ext w4 w6:=hx5.drew.grown hg6 (fun q' hq'=>(zgO.lt q' hq').1)
       go_wp2_with fail
       go_roundw
       case rel=>exact⟨b+1,nb++[os+y],by go_num,by omega,by unfold Hid;rw [hsn3.out],by rw [List.length_append,zcz];exact hown6,hx6⟩
       case measure=>simp [intOf];omega
      ·obtain rfl:b=cs.length:=by omega
       have hfin2:=za (show nb=nx++cs.map fun y=>o*sz+y by rw [hnb.out,List.take_length])
       go_wp2_with fail
       go_roundw
       case rel=>exact⟨a+1,nb,by go_num,by omega,by unfold Hid;rw [hsn.out,hfin2.out],zgO,hx5⟩
       case measure=>simp [intOf];omega
    ·obtain rfl:a=out.length:=by omega
     have hfin3:=za (show nx=fwd (KK.take (k+1)) by rw [hstep.out,hnx.out,List.take_length])
     have hx6:=hx.trans (hw4.trans hx5)
     have hown6:=zi zgO (show w1.heap.size≤w4.heap.size from (hx.trans hw4).size)
     go_wp2_with fail
     go_roundw
     case rel=>exact⟨k+1,nx,by go_num,by omega,hfin3,hown6,hx6⟩
     case measure=>simp [intOf];omega
  ·obtain rfl:n=k:=by omega
   have zgF:=za (show out=pnx (zaM ss us) x l by rw [hout.out,List.take_of_length_le (by have:=Hlen.out;omega)];exact Hfin.out)
   have hres:=za (show zbl w (pnx (zaM ss us) x l) (.returned (.slice A0 out.length c0)) wr from by
    rw [← zgF.out]
    exact⟨A0,c0,rfl,zi zgC hsz2,hw1.trans hx⟩)
   clear zgC
   go_wp2
   go_ret
   exact hres.out
theorem info_intss:(Tryz.prog.info? 23).map (fun i=>(i.zero,i.size,i.bytes))=some (some (.slice none 0 0),1,24):=by kernel_rfl
def mvs (d:Nat→Nat→List Nat) (L:List Nat) (N:Nat):List (List (List Nat)):=(List.range N).map fun x=>L.map fun l=>d x l
theorem zbU (d:Nat→Nat→List Nat) (L:List Nat) (N:Nat):(mvs d L N).length=N:=by simp [mvs]
abbrev P3:Lay (List (List Nat)):=LstP (LstP zbb)
theorem P3.ok:Lay.Ok P3:=LstP.ok (LstP.ok zbb.ok)
def RetMv (w:World) (mv:List (List (List Nat))) (e:Ending) (w':World):Prop:=∃ A c,e=.returned (.slice A mv.length c)∧Lst P3 w' w.heap.size w'.heap.size A mv∧Ext w w'
theorem spec_l4Moves {PA AA SA:Option Addr} {pn pc an ac n sc lo hi:Nat} {sv:Value} {K G:Int} {L N:Nat} {ss:List Sys} {us:List Aut} {w:World}(h:zdB w PA pn AA an ss us)(hok:zbZ ss us)(hS:Lst zbb w lo hi SA (szs ss us))(hn:(szs ss us).length=n)(hL:L<64)(hN:N≤1048576) :
  Calls Tryz.prog 117 #[.agg #[.slice PA pn pc,.slice AA an ac,sv,.int .i64 L,.int .i64 K,.int .i64 G],.slice SA n sc,.int .i64 N] w (RetMv w (mvs (pnx (zaM ss us)) (letters L 6) N)):=by
 have hw1:Ext w (w.alloc (.cells #[.slice PA pn pc,.slice AA an ac,sv,.int .i64 L,.int .i64 K,.int .i64 G] 142)):=(Ext.refl w).alloc _
 have hb1:=Blk.new w 142 #[.slice PA pn pc,.slice AA an ac,sv,.int .i64 L,.int .i64 K,.int .i64 G]
 have HN:=za (fun W (hW:Ext w W)=>h.ext hW)
 have HS:=za (fun W (hW:Ext w W)=>hS.ext zbb.ok hW)
 have Hok:=za hok
 have Hn:=za hn
 have hn5:n≤5:=by rw [← hn];exact hok.len
 have Hz:=za hok.le16
 have hLs:Sm L:=by unfold Sm;omega
 have hll:=zy L 6
 have Hl6:=za (show ∀ l∈letters L 6,l<6 from fun l hl=>(zZ.1 hl).1)
 clear h hok hS hn
 go_enter Tryz.func117,Tryz.ntmps117
 go_upto_region 1 with fail
 generalize w.alloc (.cells #[.slice PA pn pc,.slice AA an ac,sv,.int .i64 L,.int .i64 K,.int .i64 G] 142)=w1 at *
 go_upto_region 2 with fail
 have hx2:=(Ext.refl w1).alloc (.cells #[] 23)
 have hsz2:w.heap.size≤w1.heap.size:=hw1.size
 have zgM:=World.ownsRow_lit (base:=w1.heap.size) (e:=23) (size:=1) w1 #[] 0 (Nat.le_refl _) (by unfold maxLen;omega) rfl
 have hob2:∀ b,(Value.slice (some ⟨w1.heap.size,0,none⟩) 0 0).ownBlock=some b→b<(w1.alloc (.cells #[] 23)).heap.size:=fun b hb=>by
  simp [Value.ownBlock] at hb
  simp;omega
 generalize hg1:(some ⟨w1.heap.size,0,none⟩:Option Addr)=A1 at *
 clear hg1
 generalize w1.alloc (.cells #[] 23)=w2 at *
 have c2:=(hb1.ext hx2).cell
 go_upto_region 3 with (go_at_call 48;refine (zK L hLs _).mono ?_;rintro e w3 ⟨AL,cL,rfl,hownL,hx3⟩)
 have hx23:=hx2.trans hx3
 have hlst3:=Lst.own_nats hownL
 have hsz23:=hx3.size
 have zgN:=zf zgM hx3
 clear zgM hownL hx2 hx3 c2
 generalize hlq:letters L 6=LL at *
 have Hlq:=za hlq
 clear hlq
 go_wp2_with fail
 go_loopw [7,9,10,11,12] (fun v i _ _ _ wr=>∃ k:Nat,i=.int .i64 k∧k≤N∧Grl P3 wr w1.heap.size 23 v (mvs (pnx (zaM ss us)) LL k)∧Ext w1 wr∧Lst zbb wr w2.heap.size w3.heap.size AL LL∧(∀ b,v.ownBlock=some b→b<w2.heap.size∨w3.heap.size≤b)∧w3.heap.size≤wr.heap.size) (fun _ i _ _ _ _=>N - (intOf i).toNat)
 case atStart=>exact⟨0,rfl,Nat.zero_le _,⟨[],zgN,fun i r x hr=>by simp at hr⟩,hx23,hlst3,fun b hb=>Or.inl (hob2 b hb),Nat.le_refl _⟩
 case round =>
  clear zgN hlst3 hob2
  obtain⟨k,rfl,hk,hgr,hx,hlst3,hob,hs3⟩:=hrel
  have hkl:=zbU (pnx (zaM ss us)) LL k
  obtain⟨A0,c0,rfl⟩:=hgr.form
  rw [hkl]
  rw [hkl] at hob
  have Hob:=za hob
  clear hob
  by_cases hlt:k<N
  ·have hww:=hw1.trans hx
   have Hsn:=za (show mvs (pnx (zaM ss us)) LL (k+1)=mvs (pnx (zaM ss us)) LL k++[LL.map fun l=>pnx (zaM ss us) k l] by simp [mvs,List.range_succ])
   rw [hkl] at hgr
   go_upto_region 7 with (go_at_call 119;refine (zdO (HS.out _ hww) Hn.out (by omega) Hz.out (by omega)).mono ?_;rintro e w4 ⟨A4,c4,rfl,hown4,hx4⟩)
   have hln:(dec (szs ss us) k).length=n:=by rw [zbS];exact Hn.out
   rw [hln] at hown4
   rw [hln]
   have HT:=za (fun W (hW:Ext w4 W)=>(Lst.own_nats (xs:=dec (szs ss us) k) (c:=c4) (A:=A4) (by rw [hln];exact hown4)).ext zbb.ok hW)
   clear hown4
   go_upto_region 8 with fail
   have hx5:=(Ext.refl w4).alloc (.cells #[] 53)
   have zgO:=World.ownsRow_lit (base:=w4.heap.size) (e:=53) (size:=1) w4 #[] 0 (Nat.le_refl _) (by unfold maxLen;omega) rfl
   generalize hg1:(some ⟨w4.heap.size,0,none⟩:Option Addr)=A5 at *
   clear hg1
   generalize w4.alloc (.cells #[] 53)=w5 at *
   have hw4:=hww.trans hx4
   have CBx:=za (fun W (hW:Ext w4 W)=>((hb1.ext (hx.trans hx4)).ext hW).cell)
   have HL:=za (fun W (hW:Ext w4 W)=>hlst3.ext zbb.ok (hx4.trans hW))
   go_wp2_with fail
   go_loopw [11,12] (fun v i wr=>∃ j:Nat,i=.int .i64 j∧j≤LL.length∧Grl (LstP zbb) wr w4.heap.size 53 v ((LL.take j).map fun l=>pnx (zaM ss us) k l)∧Ext w4 wr) (fun _ i _=>LL.length - (intOf i).toNat)
   case atStart=>exact⟨0,rfl,Nat.zero_le _,⟨[],zgO,fun i r x hr=>by simp at hr⟩,hx5⟩
   case round =>
    clear zgO hx5
    obtain⟨j,rfl,hj,hrw,hx5⟩:=hrel
    obtain⟨A6,c6,rfl⟩:=hrw.form
    have hjl:((LL.take j).map fun l=>pnx (zaM ss us) k l).length=j:=by simp;omega
    rw [hjl]
    rw [hjl] at hrw
    by_cases hlj:j<LL.length
    ·obtain⟨bl,ol,l,rfl,_,_,hl,hcl⟩:=(HL.out _ hx5).num hlj
     have hl6:=Hl6.out l (List.mem_of_getElem? hl.out)
     have hsn:=za (show (LL.take (j+1)).map (fun l=>pnx (zaM ss us) k l)=(LL.take j).map (fun l=>pnx (zaM ss us) k l)++[pnx (zaM ss us) k l] by rw [List.take_add_one,hl.out];simp)
     have CL:∀ W,Ext wr W→W.cell? ⟨bl,ol+j,none⟩=some (.int .i64 (l:Nat)):=fun W hW=>hW.cell_some hcl
     have CB:∀ W,Ext wr W→∀ q,W.cell? ⟨w.heap.size,q,none⟩=#[Value.slice PA pn pc,.slice AA an ac,sv,.int .i64 L,.int .i64 K,.int .i64 G][q]?:=fun W hW=>CBx.out W (hx5.trans hW)
     have CC:=za (show ∀ W,Ext wr W→Calls Tryz.prog 131 #[.agg #[.slice PA pn pc,.slice AA an ac,sv,.int .i64 L,.int .i64 K,.int .i64 G],.slice SA n sc,.slice A4 n c4,.int .i64 l] W (zbl W (pnx (zaM ss us) k l)) from fun W hW=>spec_l4Nexts (HN.out W ((hw4.trans hx5).trans hW)) Hok.out (HS.out W ((hw4.trans hx5).trans hW)) (HT.out W (hx5.trans hW)) Hn.out hl6)
     have hji:(j:Int)<(LL.length:Int):=by omega
     have hww5:=Ext.refl wr
     obtain⟨rows,hro,hrp⟩:=hrw
     rw [hjl] at hro
     clear hcl
     go_upto_region 11 with fail
     refine uR (fun X=>Ext wr X) [8,9,10] (zG.of [0,1,2,3,4,5,6,7,8,9,10,11]) ?_
     refine uQ ?_
     refine zg fun K hK=>?_
     go_simp
     refine (CC.out _ hww5.drew).mono ?_
     rintro e w7 ⟨A7,c7,rfl,hown7,hx7⟩
     have hww7:=hww5.drew.trans hx7
     refine hK.out _ _ ?_
     refine pT ?_
     refine zg fun K hK=>?_
     go_simp
     refine hK.out _ _ ?_
     refine pT ?_
     refine zg fun K hK=>?_
     refine zaw w4 w7 _ _ _ rfl 53 _ 1 24 Tryz.underlying23 zbr rfl (by decide) (.slice A6 j c6) j rows _ _ rfl rfl (hx5.trans hww7).size (zf hro hww7) rfl (zaA _ _ _) (by unfold maxLen;omega) (by omega) ?_
     intro g8 cap8 w8 hown8 hg8 hat8 hlt8
     refine hK.out _ _ ?_
     refine pT ?_
     refine uQ ?_
     refine zh ?_
     have hgr8:Grl (LstP zbb) w8 w4.heap.size 53 (.slice (some ⟨g8,0,none⟩) (j+1) cap8) ((LL.take j).map (fun l=>pnx (zaM ss us) k l)++[pnx (zaM ss us) k l]):=by
      have:=Grl.push2 (LstP.ok zbb.ok) (v:=.slice A6 j c6) (xs:=(LL.take j).map fun l=>pnx (zaM ss us) k l) (g:=g8) (cap:=cap8) hrp (by rw [hjl];exact hro) hww7 ⟨A7,c7,rfl,Lst.own_nats hown7⟩ (Nat.le_refl wr.heap.size) hx5.size (Nat.le_refl _) (by rw [hjl];exact hown8) hg8 hat8
      rwa [hjl] at this
     have hx8:Ext w4 w8:=(hx5.trans hww7).grown hg8 (fun q' hq'=>(hro.lt q' hq').1)
     go_wp2_with fail
     go_roundw
     case rel=>exact⟨j+1,by go_num,by omega,by rw [hsn.out];exact hgr8,hx8⟩
     case measure=>simp [intOf];omega
    ·obtain rfl:j=LL.length:=by omega
     rw [List.take_length] at hrw
     have hw5:=hx4.trans hx5
     have hlst:=hrw.lst (LstP.ok zbb.ok)
     obtain⟨rows,hro,hrp⟩:=hgr
     rw [hkl] at hro
     go_wp2_with (at_builtin;refine zW w1 wr rfl _ _ _ rfl 23 _ 1 24 Tryz.underlying154 info_intss rfl (by decide) (.slice A0 k c0) k rows _ _ rfl rfl (hx.trans hw5) (zf hro hw5) rfl (zaA _ _ _) (by unfold maxLen;omega) (by omega) ?_;intro v8 w8 hext8 hown8 hg8 hat8)
     have hgr8:Grl P3 w8 w1.heap.size 23 v8 (mvs (pnx (zaM ss us)) LL k++[LL.map fun l=>pnx (zaM ss us) k l]):=
      Grl.push P3.ok (v:=.slice A0 k c0) hrp (by rw [hkl];exact hro) hw5 (⟨A6,c6,by simp,hlst⟩:P3 _ _ _ (.slice A6 LL.length c6) _) hx4.size (hx.trans hx4).size (Nat.le_refl _) (by rw [hkl];exact hown8) hg8 hat8
     have hlst8:Lst zbb w8 w2.heap.size w3.heap.size AL LL:=(hlst3.ext zbb.ok hw5).frm zbb.ok (Frm.of_grown hg8) (fun q h1 h2 hq=>by have:=Hob.out q hq;omega)
     have hob8:∀ b,v8.ownBlock=some b→b<w2.heap.size∨w3.heap.size≤b:=fun b hb=>by
      rcases hat8 with h1|h1
      ·rw [h1] at hb;exact Hob.out b hb
      ·rw [h1] at hb
       have:=Option.some.inj hb
       have:=hw5.size
       omega
     have hs8:w3.heap.size≤w8.heap.size:=by have:=hw5.size;have:=(Frm.of_grown hg8).size;omega
     go_roundw
     case rel=>exact⟨k+1,by go_num,by omega,by rw [Hsn.out];exact hgr8,hext8,hlst8,hob8,hs8⟩
     case measure=>simp [intOf];omega
  ·obtain rfl:N=k:=by omega
   have hres:=za (show RetMv w (mvs (pnx (zaM ss us)) LL N) (.returned (.slice A0 N c0)) wr from by
    refine⟨A0,c0,by rw [hkl],?_,hw1.trans hx⟩
    have:=hgr.lst P3.ok
    exact this.more P3.ok hsz2 (Nat.le_refl _))
   clear hgr
   go_wp2
   go_ret
   exact hres.out
end Go.Proofs.YtfcjhpodichpjaaGreat
