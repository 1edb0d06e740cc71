/- CertificateO -/
import Derived.Test.YtfcjhpodichpjaaGreatJ02
import Derived.Test.YtfcjhpodichpjaaGreatJ01
import Derived.Test.YtfcjhpodichpjaaGreatJ06
import Derived.Test.YtfcjhpodichpjaaGreatJ09
import Derived.Test.YtfcjhpodichpjaaGreatJ03
import Derived.Test.YtfcjhpodichpjaaGreatJ05
import Derived.Test.YtfcjhpodichpjaaGreatJ04
set_option maxHeartbeats 4000000
set_option maxRecDepth 100000
namespace Go.Proofs.YtfcjhpodichpjaaGreat
open Go Go.RowKit
theorem zD (W:World) (Z:Nat) (u0 u1 u2 u3 u4:Value):Frm (fun k=>k=Z) W (((((W.setCell ⟨Z,0,none⟩ u0).setCell ⟨Z,1,none⟩ u1).setCell ⟨Z,2,none⟩ u2).setCell ⟨Z,3,none⟩ u3).setCell ⟨Z,4,none⟩ u4):=
 ((((Frm.setCell W Z 0 u0).trans (Frm.setCell _ Z 1 u1)).trans (Frm.setCell _ Z 2 u2)).trans (Frm.setCell _ Z 3 u3)).trans (Frm.setCell _ Z 4 u4)
theorem zE {w:World} {Z:Nat} {cs:Array Value} {t:TypeId}(h:Blk w Z t cs)(hc:cs.size=5) (u0 u1 u2 u3 u4:Value):Blk (((((w.setCell ⟨Z,0,none⟩ u0).setCell ⟨Z,1,none⟩ u1).setCell ⟨Z,2,none⟩ u2).setCell ⟨Z,3,none⟩ u3).setCell ⟨Z,4,none⟩ u4) Z t #[u0,u1,u2,u3,u4]:=by
 obtain⟨l⟩:=cs
 match l,hc with
 |[a,b,c,d,e],_=>simpa using ((((h.set_ 0 u0).set_ 1 u1).set_ 2 u2).set_ 3 u3).set_ 4 u4
def zaD (w:World) (hd:Bool) (a:Aut) (s:ByteArray) (b:Bool) (e:Ending) (w':World):Prop:=
 ∃ A n c A' n' c',e=.returned (.tuple #[.agg #[.bool hd,.int .i64 a.al,.slice A n c,.slice A' n' c',.string s],.bool b])∧zO w' w.heap.size A n c A' n' c' a∧Ext w w'
def aut0:Aut:=⟨0,[],[]⟩
theorem zcg (w:World) (base:Nat):zO w base none 0 0 none 0 0 aut0:=⟨⟨[],World.ownsRow_nil _ _ _ _,zB.nil _ _⟩,rfl,World.ownsRow_nil _ _ _ _,rfl⟩
def okC (cd:Int) (a:Aut) (s:ByteArray):Bool:=(decide (cd=0) || decide (cd=1))&&zC (decide (cd=0)) a s
theorem okC0 (a:Aut) (s:ByteArray):okC 0 a s=zC true a s:=by simp [okC]
theorem okC1 (a:Aut) (s:ByteArray):okC 1 a s=zC false a s:=by simp [okC]
def zdR (w W:World) (G:Nat) (hd:Bool) (a:Aut) (s:ByteArray) (B:Option Addr) (m d:Nat) (B':Option Addr) (m' d':Nat):Prop:=
 Blk W G 28 #[.bool hd,.int .i64 a.al,.slice B m d,.slice B' m' d',.string s]∧zO W w.heap.size B m d B' m' d' a∧Ext w W∧w.heap.size≤G
theorem zO.own_far5 {w w':World} {base G:Nat} {A:Option Addr} {n c:Nat} {A':Option Addr} {n' c':Nat} {a:Aut} {cs:Array Value}(h:zO w base A n c A' n' c' a)(hB:Blk w G 28 cs)(hf:Frm (fun k=>k=G) w w'):zO w' base A n c A' n' c' a:=by
 obtain⟨⟨rows,h1,h2⟩,h3,h4,h5⟩:=h
 exact⟨⟨rows,zd h1 hf (fun b hb e=>zm h1 hB (by decide) hb e),h2.frm hf (fun i row b hr hb e=>by
  obtain⟨l,_,ho⟩:=h2.row hr
  exact zm ho hB (by decide) hb e)⟩,h3,zd h4 hf (fun b hb e=>zm h4 hB (by decide) hb e),h5⟩
theorem yJ10b2 {P:Prop}(h:P:=by
 rintro e w4 ⟨B,m,d,B',m',d',rfl,own4,hx4⟩
 replace own4:=own4.less hx0.size
 replace hx0:=hx0.trans hx4
 refine hK.out _ _ hx0 ?_
 refine pT ?_
 refine uQ ?_
 refine zb fun K hK=>?_;go_simp
 have hx1:=(Ext.refl w4).alloc (.cells #[.bool false,.int .i64 0,.slice none 0 0,.slice none 0 0,.string ⟨#[]⟩] 28)
 have hb:=Blk.new w4 28 #[.bool false,.int .i64 0,.slice none 0 0,.slice none 0 0,.string ⟨#[]⟩]
 have hG:=hx0.size
 replace own4:=own4.ext hx1
 replace hx0:=hx0.trans hx1
 refine hK.out _ _ hx0 ?_
 generalize w4.alloc (.cells #[.bool false,.int .i64 0,.slice none 0 0,.slice none 0 0,.string ⟨#[]⟩] 28)=wg at *
 generalize w4.heap.size=G at *
 refine pT ?_
 refine uQ ?_
 have cG:=hb.cell
 have fG:=hb.frozen
 refine zg fun K hK=>?_
 go_simp
 refine hK.out _ _ ?_
 refine zh ?_
 have hfl:=zD wg G (.bool true) (.int .i64 a.al) (.slice B m d) (.slice B' m' d') (.string s)
 have zgF:zdR w2 (((((wg.setCell ⟨G,0,none⟩ (.bool true)).setCell ⟨G,1,none⟩ (.int .i64 a.al)).setCell ⟨G,2,none⟩ (.slice B m d)).setCell ⟨G,3,none⟩ (.slice B' m' d')).setCell ⟨G,4,none⟩ (.string s)) G true a s B m d B' m' d':=⟨zE hb rfl _ _ _ _ _,own4.own_far5 hb hfl,hx0.frm hfl (fun k hk e=>by omega),hG⟩
 go_wp2_with fail
 go_meet
 exact⟨G,_,_,_,_,_,_,rfl,zgF⟩
 ):P:=h
theorem yJ10b4 {P:Prop}(h:P:=by
 rintro e w4 ⟨B,m,d,B',m',d',rfl,own4,hx4⟩
 replace own4:=own4.less hx0.size
 replace hb:=hb.ext hx4
 replace hx0:=hx0.trans hx4
 refine hK.out _ _ hx0 ?_
 refine pT ?_
 refine uQ ?_
 have cG:=hb.cell
 have fG:=hb.frozen
 refine zg fun K hK=>?_
 go_simp
 refine hK.out _ _ ?_
 refine zh ?_
 have hfl:=zD w4 G (.bool true) (.int .i64 a.al) (.slice B m d) (.slice B' m' d') (.string s)
 have zgF:zdR w2 (((((w4.setCell ⟨G,0,none⟩ (.bool true)).setCell ⟨G,1,none⟩ (.int .i64 a.al)).setCell ⟨G,2,none⟩ (.slice B m d)).setCell ⟨G,3,none⟩ (.slice B' m' d')).setCell ⟨G,4,none⟩ (.string s)) G true a s B m d B' m' d':=⟨zE hb rfl _ _ _ _ _,own4.own_far5 hb hfl,hx0.frm hfl (fun k hk e=>by omega),hG⟩
 go_wp2_with fail
 go_meet
 exact⟨G,_,_,_,_,_,_,rfl,zgF⟩
 ):P:=h
theorem yJ10a2 {P:Prop}(h:P:=by
 have c1:=fun W (hW:Ext w2 W)=>(b1.ext hW).cell
 have hww:=Ext.refl w2
 refine uR (fun X=>Ext w2 X) [10] (zG.app [0,1,2,3,4,6,7] (zG.two 5 (zG.of [8,9,10]) 9 (zG.of [5,8,10]))) ?_
 refine uQ ?_
 have hx0:Ext w2 w2.drew:=hww.drew
 generalize w2.drew=wd at *
 refine zA (fun K hK=>?_) (fun K hK=>?_)
 ·go_simp
  refine (zQ (HS.out _ (hw2.trans hx0)) hs).mono ?_
  exact yJ10b2
 ·go_simp
  have hx1:=(Ext.refl wd).alloc (.cells #[.bool false,.int .i64 0,.slice none 0 0,.slice none 0 0,.string ⟨#[]⟩] 28)
  have hb:=Blk.new wd 28 #[.bool false,.int .i64 0,.slice none 0 0,.slice none 0 0,.string ⟨#[]⟩]
  have hG:=hx0.size
  replace hx0:=hx0.trans hx1
  refine hK.out _ _ hx0 ?_
  generalize wd.alloc (.cells #[.bool false,.int .i64 0,.slice none 0 0,.slice none 0 0,.string ⟨#[]⟩] 28)=wg at *
  generalize wd.heap.size=G at *
  refine pT ?_
  refine uQ ?_
  refine zb fun K hK=>?_;go_simp
  refine (zQ (HS.out _ (hw2.trans hx0)) hs).mono ?_
  exact yJ10b4
 ):P:=h
theorem zcT {lo hi:Nat} {A:Option Addr} {n c:Nat} {A':Option Addr} {n' c':Nat} {ro:Int} {a:Aut} {s:ByteArray} {w:World}(h:zI w lo hi A n A' n' a)(hs:a.size≤1048576)(hs9:s.size≤9223372036854775807)(hv:zC true a s=true) :
  Calls Tryz.prog 9 #[.agg #[.int .i64 0,.int .i64 a.al,.slice A n c,.slice A' n' c',.string s,.int .i64 ro]] w (zaD w true a s true):=by
 have Hv:=za hv
 clear hv
 have HS:=za (fun W (hW:Ext w W)=>h.ext hW)
 have hss:=hs
 clear h
 go_enter Tryz.func9,Tryz.ntmps9
 obtain⟨b1,bz⟩:=zM (Ext.refl ((w.alloc (.cells #[.int .i64 0,.int .i64 a.al,.slice A n c,.slice A' n' c',.string s,.int .i64 ro] 33)).alloc (.cells #[.bool false,.int .i64 0,.slice none 0 0,.slice none 0 0,.string ⟨#[]⟩] 28)))
 have hw2:Ext w ((w.alloc (.cells #[.int .i64 0,.int .i64 a.al,.slice A n c,.slice A' n' c',.string s,.int .i64 ro] 33)).alloc (.cells #[.bool false,.int .i64 0,.slice none 0 0,.slice none 0 0,.string ⟨#[]⟩] 28)):=((Ext.refl w).alloc _).alloc _
 have hsz2:w.heap.size+2=((w.alloc (.cells #[.int .i64 0,.int .i64 a.al,.slice A n c,.slice A' n' c',.string s,.int .i64 ro] 33)).alloc (.cells #[.bool false,.int .i64 0,.slice none 0 0,.slice none 0 0,.string ⟨#[]⟩] 28)).heap.size:=by simp
 have k1:=b1.cell
 go_upto_region 3 with fail
 generalize (w.alloc (.cells #[.int .i64 0,.int .i64 a.al,.slice A n c,.slice A' n' c',.string s,.int .i64 ro] 33)).alloc (.cells #[.bool false,.int .i64 0,.slice none 0 0,.slice none 0 0,.string ⟨#[]⟩] 28)=w2 at *
 clear k1
 go_cut [4] (fun v wx=>∃ G B m d B' m' d',v=.pointer (some ⟨G,0,none⟩)∧zdR w2 wx G true a s B m d B' m' d')
 case first =>
  exact yJ10a2
 case rest =>
  obtain⟨G,B,m,d,B',m',d',rfl,hb,own4,hx2,hG⟩:=hcut
  have kG:=hb.cell
  have k1:=(b1.ext hx2).cell
  go_wp2_with fail
  refine (zap _ _ _ _ _ _ _ _ _ _ _ _ own4.reads hs9).mono ?_
  rw [Hv.out]
  rintro e w5 ⟨rfl,hx5⟩
  clear kG k1
  replace hb:=hb.ext hx5
  replace own4:=own4.ext hx5
  replace hx2:=hx2.trans hx5
  have kG:=hb.cell
  have k1:=(b1.ext hx2).cell
  have hbz:=bz.ext hx2
  have cZ:=hbz.cell
  have fZ:=hbz.frozen
  have hfl:=zD w5 (w.heap.size+1) (.bool true) (.int .i64 a.al) (.slice B m d) (.slice B' m' d') (.string s)
  have hbf:=zE hbz rfl (.bool true) (.int .i64 a.al) (.slice B m d) (.slice B' m' d') (.string s)
  have hxf:=(hw2.trans hx2).frm hfl (fun k hk e=>by omega)
  have zgF:=za (show zaD w true a s true (.returned (.tuple #[.agg #[.bool true,.int .i64 a.al,.slice B m d,.slice B' m' d',.string s],.bool true])) (((((w5.setCell ⟨w.heap.size+1,0,none⟩ (.bool true)).setCell ⟨w.heap.size+1,1,none⟩ (.int .i64 a.al)).setCell ⟨w.heap.size+1,2,none⟩ (.slice B m d)).setCell ⟨w.heap.size+1,3,none⟩ (.slice B' m' d')).setCell ⟨w.heap.size+1,4,none⟩ (.string s)) from ⟨B,m,d,B',m',d',rfl,(own4.keep hfl (fun b h1 e=>by omega)).less (by omega),hxf⟩)
  go_wp2_with fail
  generalize (((((w5.setCell ⟨w.heap.size+1,0,none⟩ (.bool true)).setCell ⟨w.heap.size+1,1,none⟩ (.int .i64 a.al)).setCell ⟨w.heap.size+1,2,none⟩ (.slice B m d)).setCell ⟨w.heap.size+1,3,none⟩ (.slice B' m' d')).setCell ⟨w.heap.size+1,4,none⟩ (.string s))=wf at *
  have cf:=hbf.cell
  exact bodyPost_ret (v:=.tuple #[.agg #[.bool true,.int .i64 a.al,.slice B m d,.slice B' m' d',.string s],.bool true]) (by simp [results,Tryz.results9,go_sem,cf]) rfl zgF.out
theorem yJ10b6 {P:Prop}(h:P:=by
 have cf:=hbf.cell
 exact bodyPost_ret (v:=.tuple #[.agg #[.bool false,.int .i64 0,.slice none 0 0,.slice none 0 0,.string ⟨#[]⟩],.bool false]) (by simp [results,Tryz.results9,go_sem,cf]) rfl zgF.out
 ):P:=h
theorem yJ10a6 {P:Prop}(h:P:=by
 obtain⟨G,B,m,d,B',m',d',rfl,hb,own4,hx2,hG⟩:=hcut
 have kG:=hb.cell
 have k1:=(b1.ext hx2).cell
 go_wp2_with fail
 refine (zap _ _ _ _ _ _ _ _ _ _ _ _ own4.reads hs9).mono ?_
 rw [Hv.out]
 rintro e w5 ⟨rfl,hx5⟩
 clear kG k1
 replace hb:=hb.ext hx5
 replace own4:=own4.ext hx5
 replace hx2:=hx2.trans hx5
 have kG:=hb.cell
 have k1:=(b1.ext hx2).cell
 have hbz:=bz.ext hx2
 have cZ:=hbz.cell
 have fZ:=hbz.frozen
 have hfl:=zD w5 (w.heap.size+1) (.bool false) (.int .i64 0) (.slice none 0 0) (.slice none 0 0) (.string ⟨#[]⟩)
 have hbf:=zE hbz rfl (.bool false) (.int .i64 0) (.slice none 0 0) (.slice none 0 0) (.string ⟨#[]⟩)
 have hxf:=(hw2.trans hx2).frm hfl (fun k hk e=>by omega)
 have zgF:=za (show zaD w false aut0 ⟨#[]⟩ false (.returned (.tuple #[.agg #[.bool false,.int .i64 0,.slice none 0 0,.slice none 0 0,.string ⟨#[]⟩],.bool false])) (((((w5.setCell ⟨w.heap.size+1,0,none⟩ (.bool false)).setCell ⟨w.heap.size+1,1,none⟩ (.int .i64 0)).setCell ⟨w.heap.size+1,2,none⟩ (.slice none 0 0)).setCell ⟨w.heap.size+1,3,none⟩ (.slice none 0 0)).setCell ⟨w.heap.size+1,4,none⟩ (.string ⟨#[]⟩)) from ⟨none,0,0,none,0,0,rfl,zcg _ _,hxf⟩)
 go_wp2_with fail
 generalize (((((w5.setCell ⟨w.heap.size+1,0,none⟩ (.bool false)).setCell ⟨w.heap.size+1,1,none⟩ (.int .i64 0)).setCell ⟨w.heap.size+1,2,none⟩ (.slice none 0 0)).setCell ⟨w.heap.size+1,3,none⟩ (.slice none 0 0)).setCell ⟨w.heap.size+1,4,none⟩ (.string ⟨#[]⟩))=wf at *
 exact yJ10b6
 ):P:=h
theorem zcS {lo hi:Nat} {A:Option Addr} {n c:Nat} {A':Option Addr} {n' c':Nat} {ro:Int} {a:Aut} {s:ByteArray} {w:World}(h:zI w lo hi A n A' n' a)(hs:a.size≤1048576)(hs9:s.size≤9223372036854775807)(hv:zC true a s=false) :
  Calls Tryz.prog 9 #[.agg #[.int .i64 0,.int .i64 a.al,.slice A n c,.slice A' n' c',.string s,.int .i64 ro]] w (zaD w false aut0 ⟨#[]⟩ false):=by
 have Hv:=za hv
 clear hv
 have HS:=za (fun W (hW:Ext w W)=>h.ext hW)
 have hss:=hs
 clear h
 go_enter Tryz.func9,Tryz.ntmps9
 obtain⟨b1,bz⟩:=zM (Ext.refl ((w.alloc (.cells #[.int .i64 0,.int .i64 a.al,.slice A n c,.slice A' n' c',.string s,.int .i64 ro] 33)).alloc (.cells #[.bool false,.int .i64 0,.slice none 0 0,.slice none 0 0,.string ⟨#[]⟩] 28)))
 have hw2:Ext w ((w.alloc (.cells #[.int .i64 0,.int .i64 a.al,.slice A n c,.slice A' n' c',.string s,.int .i64 ro] 33)).alloc (.cells #[.bool false,.int .i64 0,.slice none 0 0,.slice none 0 0,.string ⟨#[]⟩] 28)):=((Ext.refl w).alloc _).alloc _
 have hsz2:w.heap.size+2=((w.alloc (.cells #[.int .i64 0,.int .i64 a.al,.slice A n c,.slice A' n' c',.string s,.int .i64 ro] 33)).alloc (.cells #[.bool false,.int .i64 0,.slice none 0 0,.slice none 0 0,.string ⟨#[]⟩] 28)).heap.size:=by simp
 have k1:=b1.cell
 go_upto_region 3 with fail
 generalize (w.alloc (.cells #[.int .i64 0,.int .i64 a.al,.slice A n c,.slice A' n' c',.string s,.int .i64 ro] 33)).alloc (.cells #[.bool false,.int .i64 0,.slice none 0 0,.slice none 0 0,.string ⟨#[]⟩] 28)=w2 at *
 clear k1
 go_cut [4] (fun v wx=>∃ G B m d B' m' d',v=.pointer (some ⟨G,0,none⟩)∧zdR w2 wx G true a s B m d B' m' d')
 case first =>
  exact yJ10a2
 case rest =>
  exact yJ10a6
theorem yJ10a4 {P:Prop}(h:P:=by
 have c1:=fun W (hW:Ext w2 W)=>(b1.ext hW).cell
 have hww:=Ext.refl w2
 refine uR (fun X=>Ext w2 X) [10] (zG.app [0,1,2,3,4,6,7] (zG.two 5 (zG.of [8,9,10]) 9 (zG.of [5,8,10]))) ?_
 refine uQ ?_
 have hx0:Ext w2 w2.drew:=hww.drew
 generalize w2.drew=wd at *
 refine zA (fun K hK=>?_) (fun K hK=>?_)
 ·go_simp
  refine (zab (HS.out _ (hw2.trans hx0)) hs).mono ?_
  exact yJ10b2
 ·go_simp
  have hx1:=(Ext.refl wd).alloc (.cells #[.bool false,.int .i64 0,.slice none 0 0,.slice none 0 0,.string ⟨#[]⟩] 28)
  have hb:=Blk.new wd 28 #[.bool false,.int .i64 0,.slice none 0 0,.slice none 0 0,.string ⟨#[]⟩]
  have hG:=hx0.size
  replace hx0:=hx0.trans hx1
  refine hK.out _ _ hx0 ?_
  generalize wd.alloc (.cells #[.bool false,.int .i64 0,.slice none 0 0,.slice none 0 0,.string ⟨#[]⟩] 28)=wg at *
  generalize wd.heap.size=G at *
  refine pT ?_
  refine uQ ?_
  refine zb fun K hK=>?_;go_simp
  refine (zab (HS.out _ (hw2.trans hx0)) hs).mono ?_
  exact yJ10b4
 ):P:=h
theorem zcX {lo hi:Nat} {A:Option Addr} {n c:Nat} {A':Option Addr} {n' c':Nat} {ro:Int} {a:Aut} {s:ByteArray} {w:World}(h:zI w lo hi A n A' n' a)(hs:a.size≤1048576)(hs9:s.size≤9223372036854775807)(hv:zC true a s=true) :
  Calls Tryz.prog 10 #[.agg #[.int .i64 0,.int .i64 a.al,.slice A n c,.slice A' n' c',.string s,.int .i64 ro]] w (zaD w true a s true):=by
 have Hv:=za hv
 clear hv
 have HS:=za (fun W (hW:Ext w W)=>h.ext hW)
 have hss:=hs
 clear h
 go_enter Tryz.func10,Tryz.ntmps10
 obtain⟨b1,bz⟩:=zM (Ext.refl ((w.alloc (.cells #[.int .i64 0,.int .i64 a.al,.slice A n c,.slice A' n' c',.string s,.int .i64 ro] 33)).alloc (.cells #[.bool false,.int .i64 0,.slice none 0 0,.slice none 0 0,.string ⟨#[]⟩] 28)))
 have hw2:Ext w ((w.alloc (.cells #[.int .i64 0,.int .i64 a.al,.slice A n c,.slice A' n' c',.string s,.int .i64 ro] 33)).alloc (.cells #[.bool false,.int .i64 0,.slice none 0 0,.slice none 0 0,.string ⟨#[]⟩] 28)):=((Ext.refl w).alloc _).alloc _
 have hsz2:w.heap.size+2=((w.alloc (.cells #[.int .i64 0,.int .i64 a.al,.slice A n c,.slice A' n' c',.string s,.int .i64 ro] 33)).alloc (.cells #[.bool false,.int .i64 0,.slice none 0 0,.slice none 0 0,.string ⟨#[]⟩] 28)).heap.size:=by simp
 go_upto_region 1 with fail
 generalize (w.alloc (.cells #[.int .i64 0,.int .i64 a.al,.slice A n c,.slice A' n' c',.string s,.int .i64 ro] 33)).alloc (.cells #[.bool false,.int .i64 0,.slice none 0 0,.slice none 0 0,.string ⟨#[]⟩] 28)=w2 at *
 go_cut [4] (fun v wx=>∃ G B m d B' m' d',v=.pointer (some ⟨G,0,none⟩)∧zdR w2 wx G true a s B m d B' m' d')
 case first =>
  exact yJ10a4
 case rest =>
  obtain⟨G,B,m,d,B',m',d',rfl,hb,own4,hx2,hG⟩:=hcut
  have kG:=hb.cell
  have k1:=(b1.ext hx2).cell
  go_wp2_with fail
  refine (zaq _ _ _ _ _ _ _ _ _ _ _ _ own4.reads hs9).mono ?_
  rw [Hv.out]
  rintro e w5 ⟨rfl,hx5⟩
  clear kG k1
  replace hb:=hb.ext hx5
  replace own4:=own4.ext hx5
  replace hx2:=hx2.trans hx5
  have kG:=hb.cell
  have k1:=(b1.ext hx2).cell
  have hbz:=bz.ext hx2
  have cZ:=hbz.cell
  have fZ:=hbz.frozen
  have hfl:=zD w5 (w.heap.size+1) (.bool true) (.int .i64 a.al) (.slice B m d) (.slice B' m' d') (.string s)
  have hbf:=zE hbz rfl (.bool true) (.int .i64 a.al) (.slice B m d) (.slice B' m' d') (.string s)
  have hxf:=(hw2.trans hx2).frm hfl (fun k hk e=>by omega)
  have zgF:=za (show zaD w true a s true (.returned (.tuple #[.agg #[.bool true,.int .i64 a.al,.slice B m d,.slice B' m' d',.string s],.bool true])) (((((w5.setCell ⟨w.heap.size+1,0,none⟩ (.bool true)).setCell ⟨w.heap.size+1,1,none⟩ (.int .i64 a.al)).setCell ⟨w.heap.size+1,2,none⟩ (.slice B m d)).setCell ⟨w.heap.size+1,3,none⟩ (.slice B' m' d')).setCell ⟨w.heap.size+1,4,none⟩ (.string s)) from ⟨B,m,d,B',m',d',rfl,(own4.keep hfl (fun b h1 e=>by omega)).less (by omega),hxf⟩)
  go_wp2_with fail
  generalize (((((w5.setCell ⟨w.heap.size+1,0,none⟩ (.bool true)).setCell ⟨w.heap.size+1,1,none⟩ (.int .i64 a.al)).setCell ⟨w.heap.size+1,2,none⟩ (.slice B m d)).setCell ⟨w.heap.size+1,3,none⟩ (.slice B' m' d')).setCell ⟨w.heap.size+1,4,none⟩ (.string s))=wf at *
  have cf:=hbf.cell
  exact bodyPost_ret (v:=.tuple #[.agg #[.bool true,.int .i64 a.al,.slice B m d,.slice B' m' d',.string s],.bool true]) (by simp [results,Tryz.results10,go_sem,cf]) rfl zgF.out
theorem yJ10b5 {P:Prop}(h:P:=by
 have cf:=hbf.cell
 exact bodyPost_ret (v:=.tuple #[.agg #[.bool false,.int .i64 0,.slice none 0 0,.slice none 0 0,.string ⟨#[]⟩],.bool false]) (by simp [results,Tryz.results10,go_sem,cf]) rfl zgF.out
 ):P:=h
theorem yJ10a5 {P:Prop}(h:P:=by
 obtain⟨G,B,m,d,B',m',d',rfl,hb,own4,hx2,hG⟩:=hcut
 have kG:=hb.cell
 have k1:=(b1.ext hx2).cell
 go_wp2_with fail
 refine (zaq _ _ _ _ _ _ _ _ _ _ _ _ own4.reads hs9).mono ?_
 rw [Hv.out]
 rintro e w5 ⟨rfl,hx5⟩
 clear kG k1
 replace hb:=hb.ext hx5
 replace own4:=own4.ext hx5
 replace hx2:=hx2.trans hx5
 have kG:=hb.cell
 have k1:=(b1.ext hx2).cell
 have hbz:=bz.ext hx2
 have cZ:=hbz.cell
 have fZ:=hbz.frozen
 have hfl:=zD w5 (w.heap.size+1) (.bool false) (.int .i64 0) (.slice none 0 0) (.slice none 0 0) (.string ⟨#[]⟩)
 have hbf:=zE hbz rfl (.bool false) (.int .i64 0) (.slice none 0 0) (.slice none 0 0) (.string ⟨#[]⟩)
 have hxf:=(hw2.trans hx2).frm hfl (fun k hk e=>by omega)
 have zgF:=za (show zaD w false aut0 ⟨#[]⟩ false (.returned (.tuple #[.agg #[.bool false,.int .i64 0,.slice none 0 0,.slice none 0 0,.string ⟨#[]⟩],.bool false])) (((((w5.setCell ⟨w.heap.size+1,0,none⟩ (.bool false)).setCell ⟨w.heap.size+1,1,none⟩ (.int .i64 0)).setCell ⟨w.heap.size+1,2,none⟩ (.slice none 0 0)).setCell ⟨w.heap.size+1,3,none⟩ (.slice none 0 0)).setCell ⟨w.heap.size+1,4,none⟩ (.string ⟨#[]⟩)) from ⟨none,0,0,none,0,0,rfl,zcg _ _,hxf⟩)
 go_wp2_with fail
 generalize (((((w5.setCell ⟨w.heap.size+1,0,none⟩ (.bool false)).setCell ⟨w.heap.size+1,1,none⟩ (.int .i64 0)).setCell ⟨w.heap.size+1,2,none⟩ (.slice none 0 0)).setCell ⟨w.heap.size+1,3,none⟩ (.slice none 0 0)).setCell ⟨w.heap.size+1,4,none⟩ (.string ⟨#[]⟩))=wf at *
 exact yJ10b5
 ):P:=h
theorem zcW {lo hi:Nat} {A:Option Addr} {n c:Nat} {A':Option Addr} {n' c':Nat} {ro:Int} {a:Aut} {s:ByteArray} {w:World}(h:zI w lo hi A n A' n' a)(hs:a.size≤1048576)(hs9:s.size≤9223372036854775807)(hv:zC true a s=false) :
  Calls Tryz.prog 10 #[.agg #[.int .i64 0,.int .i64 a.al,.slice A n c,.slice A' n' c',.string s,.int .i64 ro]] w (zaD w false aut0 ⟨#[]⟩ false):=by
 have Hv:=za hv
 clear hv
 have HS:=za (fun W (hW:Ext w W)=>h.ext hW)
 have hss:=hs
 clear h
 go_enter Tryz.func10,Tryz.ntmps10
 obtain⟨b1,bz⟩:=zM (Ext.refl ((w.alloc (.cells #[.int .i64 0,.int .i64 a.al,.slice A n c,.slice A' n' c',.string s,.int .i64 ro] 33)).alloc (.cells #[.bool false,.int .i64 0,.slice none 0 0,.slice none 0 0,.string ⟨#[]⟩] 28)))
 have hw2:Ext w ((w.alloc (.cells #[.int .i64 0,.int .i64 a.al,.slice A n c,.slice A' n' c',.string s,.int .i64 ro] 33)).alloc (.cells #[.bool false,.int .i64 0,.slice none 0 0,.slice none 0 0,.string ⟨#[]⟩] 28)):=((Ext.refl w).alloc _).alloc _
 have hsz2:w.heap.size+2=((w.alloc (.cells #[.int .i64 0,.int .i64 a.al,.slice A n c,.slice A' n' c',.string s,.int .i64 ro] 33)).alloc (.cells #[.bool false,.int .i64 0,.slice none 0 0,.slice none 0 0,.string ⟨#[]⟩] 28)).heap.size:=by simp
 go_upto_region 1 with fail
 generalize (w.alloc (.cells #[.int .i64 0,.int .i64 a.al,.slice A n c,.slice A' n' c',.string s,.int .i64 ro] 33)).alloc (.cells #[.bool false,.int .i64 0,.slice none 0 0,.slice none 0 0,.string ⟨#[]⟩] 28)=w2 at *
 go_cut [4] (fun v wx=>∃ G B m d B' m' d',v=.pointer (some ⟨G,0,none⟩)∧zdR w2 wx G true a s B m d B' m' d')
 case first =>
  exact yJ10a4
 case rest =>
  exact yJ10a5
theorem yJ10b1 {P:Prop}(h:P:=by
 rintro e w4 ⟨B,m,d,B',m',d',rfl,own4,hx4⟩
 replace own4:=own4.less hx0.size
 replace hx0:=hx0.trans hx4
 refine hK.out _ _ hx0 ?_
 refine pT ?_
 refine uQ ?_
 refine zb fun K hK=>?_;go_simp
 have hx1:=(Ext.refl w4).alloc (.cells #[.bool false,.int .i64 0,.slice none 0 0,.slice none 0 0,.string ⟨#[]⟩] 28)
 have hb:=Blk.new w4 28 #[.bool false,.int .i64 0,.slice none 0 0,.slice none 0 0,.string ⟨#[]⟩]
 have hG:=hx0.size
 replace own4:=own4.ext hx1
 replace hx0:=hx0.trans hx1
 refine hK.out _ _ hx0 ?_
 generalize w4.alloc (.cells #[.bool false,.int .i64 0,.slice none 0 0,.slice none 0 0,.string ⟨#[]⟩] 28)=wg at *
 generalize w4.heap.size=G at *
 refine pT ?_
 refine uQ ?_
 have cG:=hb.cell
 have fG:=hb.frozen
 refine zg fun K hK=>?_
 go_simp
 refine hK.out _ _ ?_
 refine zh ?_
 have hfl:=zD wg G (.bool false) (.int .i64 a.al) (.slice B m d) (.slice B' m' d') (.string s)
 have zgF:zdR w2 (((((wg.setCell ⟨G,0,none⟩ (.bool false)).setCell ⟨G,1,none⟩ (.int .i64 a.al)).setCell ⟨G,2,none⟩ (.slice B m d)).setCell ⟨G,3,none⟩ (.slice B' m' d')).setCell ⟨G,4,none⟩ (.string s)) G false a s B m d B' m' d':=⟨zE hb rfl _ _ _ _ _,own4.own_far5 hb hfl,hx0.frm hfl (fun k hk e=>by omega),hG⟩
 go_wp2_with fail
 go_meet
 exact⟨G,_,_,_,_,_,_,rfl,zgF⟩
 ):P:=h
theorem yJ10b3 {P:Prop}(h:P:=by
 rintro e w4 ⟨B,m,d,B',m',d',rfl,own4,hx4⟩
 replace own4:=own4.less hx0.size
 replace hb:=hb.ext hx4
 replace hx0:=hx0.trans hx4
 refine hK.out _ _ hx0 ?_
 refine pT ?_
 refine uQ ?_
 have cG:=hb.cell
 have fG:=hb.frozen
 refine zg fun K hK=>?_
 go_simp
 refine hK.out _ _ ?_
 refine zh ?_
 have hfl:=zD w4 G (.bool false) (.int .i64 a.al) (.slice B m d) (.slice B' m' d') (.string s)
 have zgF:zdR w2 (((((w4.setCell ⟨G,0,none⟩ (.bool false)).setCell ⟨G,1,none⟩ (.int .i64 a.al)).setCell ⟨G,2,none⟩ (.slice B m d)).setCell ⟨G,3,none⟩ (.slice B' m' d')).setCell ⟨G,4,none⟩ (.string s)) G false a s B m d B' m' d':=⟨zE hb rfl _ _ _ _ _,own4.own_far5 hb hfl,hx0.frm hfl (fun k hk e=>by omega),hG⟩
 go_wp2_with fail
 go_meet
 exact⟨G,_,_,_,_,_,_,rfl,zgF⟩
 ):P:=h
theorem yJ10a1 {P:Prop}(h:P:=by
 have c1:=fun W (hW:Ext w2 W)=>(b1.ext hW).cell
 have hww:=Ext.refl w2
 refine uR (fun X=>Ext w2 X) [10] (zG.app [0,1,2,3,4,6,7] (zG.two 5 (zG.of [8,9,10]) 9 (zG.of [5,8,10]))) ?_
 refine uQ ?_
 have hx0:Ext w2 w2.drew:=hww.drew
 generalize w2.drew=wd at *
 refine zA (fun K hK=>?_) (fun K hK=>?_)
 ·go_simp
  refine (zQ (HS.out _ (hw2.trans hx0)) hs).mono ?_
  exact yJ10b1
 ·go_simp
  have hx1:=(Ext.refl wd).alloc (.cells #[.bool false,.int .i64 0,.slice none 0 0,.slice none 0 0,.string ⟨#[]⟩] 28)
  have hb:=Blk.new wd 28 #[.bool false,.int .i64 0,.slice none 0 0,.slice none 0 0,.string ⟨#[]⟩]
  have hG:=hx0.size
  replace hx0:=hx0.trans hx1
  refine hK.out _ _ hx0 ?_
  generalize wd.alloc (.cells #[.bool false,.int .i64 0,.slice none 0 0,.slice none 0 0,.string ⟨#[]⟩] 28)=wg at *
  generalize wd.heap.size=G at *
  refine pT ?_
  refine uQ ?_
  refine zb fun K hK=>?_;go_simp
  refine (zQ (HS.out _ (hw2.trans hx0)) hs).mono ?_
  exact yJ10b3
 ):P:=h
theorem zcV {lo hi:Nat} {A:Option Addr} {n c:Nat} {A':Option Addr} {n' c':Nat} {ro:Int} {a:Aut} {s:ByteArray} {w:World}(h:zI w lo hi A n A' n' a)(hs:a.size≤1048576)(hs9:s.size≤9223372036854775807)(hv:zC false a s=true) :
  Calls Tryz.prog 9 #[.agg #[.int .i64 1,.int .i64 a.al,.slice A n c,.slice A' n' c',.string s,.int .i64 ro]] w (zaD w false a s true):=by
 have Hv:=za hv
 clear hv
 have HS:=za (fun W (hW:Ext w W)=>h.ext hW)
 have hss:=hs
 clear h
 go_enter Tryz.func9,Tryz.ntmps9
 obtain⟨b1,bz⟩:=zM (Ext.refl ((w.alloc (.cells #[.int .i64 1,.int .i64 a.al,.slice A n c,.slice A' n' c',.string s,.int .i64 ro] 33)).alloc (.cells #[.bool false,.int .i64 0,.slice none 0 0,.slice none 0 0,.string ⟨#[]⟩] 28)))
 have hw2:Ext w ((w.alloc (.cells #[.int .i64 1,.int .i64 a.al,.slice A n c,.slice A' n' c',.string s,.int .i64 ro] 33)).alloc (.cells #[.bool false,.int .i64 0,.slice none 0 0,.slice none 0 0,.string ⟨#[]⟩] 28)):=((Ext.refl w).alloc _).alloc _
 have hsz2:w.heap.size+2=((w.alloc (.cells #[.int .i64 1,.int .i64 a.al,.slice A n c,.slice A' n' c',.string s,.int .i64 ro] 33)).alloc (.cells #[.bool false,.int .i64 0,.slice none 0 0,.slice none 0 0,.string ⟨#[]⟩] 28)).heap.size:=by simp
 have k1:=b1.cell
 go_upto_region 3 with fail
 generalize (w.alloc (.cells #[.int .i64 1,.int .i64 a.al,.slice A n c,.slice A' n' c',.string s,.int .i64 ro] 33)).alloc (.cells #[.bool false,.int .i64 0,.slice none 0 0,.slice none 0 0,.string ⟨#[]⟩] 28)=w2 at *
 clear k1
 go_cut [4] (fun v wx=>∃ G B m d B' m' d',v=.pointer (some ⟨G,0,none⟩)∧zdR w2 wx G false a s B m d B' m' d')
 case first =>
  exact yJ10a1
 case rest =>
  obtain⟨G,B,m,d,B',m',d',rfl,hb,own4,hx2,hG⟩:=hcut
  have kG:=hb.cell
  have k1:=(b1.ext hx2).cell
  go_wp2_with fail
  refine (zap _ _ _ _ _ _ _ _ _ _ _ _ own4.reads hs9).mono ?_
  rw [Hv.out]
  rintro e w5 ⟨rfl,hx5⟩
  clear kG k1
  replace hb:=hb.ext hx5
  replace own4:=own4.ext hx5
  replace hx2:=hx2.trans hx5
  have kG:=hb.cell
  have k1:=(b1.ext hx2).cell
  have hbz:=bz.ext hx2
  have cZ:=hbz.cell
  have fZ:=hbz.frozen
  have hfl:=zD w5 (w.heap.size+1) (.bool false) (.int .i64 a.al) (.slice B m d) (.slice B' m' d') (.string s)
  have hbf:=zE hbz rfl (.bool false) (.int .i64 a.al) (.slice B m d) (.slice B' m' d') (.string s)
  have hxf:=(hw2.trans hx2).frm hfl (fun k hk e=>by omega)
  have zgF:=za (show zaD w false a s true (.returned (.tuple #[.agg #[.bool false,.int .i64 a.al,.slice B m d,.slice B' m' d',.string s],.bool true])) (((((w5.setCell ⟨w.heap.size+1,0,none⟩ (.bool false)).setCell ⟨w.heap.size+1,1,none⟩ (.int .i64 a.al)).setCell ⟨w.heap.size+1,2,none⟩ (.slice B m d)).setCell ⟨w.heap.size+1,3,none⟩ (.slice B' m' d')).setCell ⟨w.heap.size+1,4,none⟩ (.string s)) from ⟨B,m,d,B',m',d',rfl,(own4.keep hfl (fun b h1 e=>by omega)).less (by omega),hxf⟩)
  go_wp2_with fail
  generalize (((((w5.setCell ⟨w.heap.size+1,0,none⟩ (.bool false)).setCell ⟨w.heap.size+1,1,none⟩ (.int .i64 a.al)).setCell ⟨w.heap.size+1,2,none⟩ (.slice B m d)).setCell ⟨w.heap.size+1,3,none⟩ (.slice B' m' d')).setCell ⟨w.heap.size+1,4,none⟩ (.string s))=wf at *
  have cf:=hbf.cell
  exact bodyPost_ret (v:=.tuple #[.agg #[.bool false,.int .i64 a.al,.slice B m d,.slice B' m' d',.string s],.bool true]) (by simp [results,Tryz.results9,go_sem,cf]) rfl zgF.out
theorem zcU {lo hi:Nat} {A:Option Addr} {n c:Nat} {A':Option Addr} {n' c':Nat} {ro:Int} {a:Aut} {s:ByteArray} {w:World}(h:zI w lo hi A n A' n' a)(hs:a.size≤1048576)(hs9:s.size≤9223372036854775807)(hv:zC false a s=false) :
  Calls Tryz.prog 9 #[.agg #[.int .i64 1,.int .i64 a.al,.slice A n c,.slice A' n' c',.string s,.int .i64 ro]] w (zaD w false aut0 ⟨#[]⟩ false):=by
 have Hv:=za hv
 clear hv
 have HS:=za (fun W (hW:Ext w W)=>h.ext hW)
 have hss:=hs
 clear h
 go_enter Tryz.func9,Tryz.ntmps9
 obtain⟨b1,bz⟩:=zM (Ext.refl ((w.alloc (.cells #[.int .i64 1,.int .i64 a.al,.slice A n c,.slice A' n' c',.string s,.int .i64 ro] 33)).alloc (.cells #[.bool false,.int .i64 0,.slice none 0 0,.slice none 0 0,.string ⟨#[]⟩] 28)))
 have hw2:Ext w ((w.alloc (.cells #[.int .i64 1,.int .i64 a.al,.slice A n c,.slice A' n' c',.string s,.int .i64 ro] 33)).alloc (.cells #[.bool false,.int .i64 0,.slice none 0 0,.slice none 0 0,.string ⟨#[]⟩] 28)):=((Ext.refl w).alloc _).alloc _
 have hsz2:w.heap.size+2=((w.alloc (.cells #[.int .i64 1,.int .i64 a.al,.slice A n c,.slice A' n' c',.string s,.int .i64 ro] 33)).alloc (.cells #[.bool false,.int .i64 0,.slice none 0 0,.slice none 0 0,.string ⟨#[]⟩] 28)).heap.size:=by simp
 have k1:=b1.cell
 go_upto_region 3 with fail
 generalize (w.alloc (.cells #[.int .i64 1,.int .i64 a.al,.slice A n c,.slice A' n' c',.string s,.int .i64 ro] 33)).alloc (.cells #[.bool false,.int .i64 0,.slice none 0 0,.slice none 0 0,.string ⟨#[]⟩] 28)=w2 at *
 clear k1
 go_cut [4] (fun v wx=>∃ G B m d B' m' d',v=.pointer (some ⟨G,0,none⟩)∧zdR w2 wx G false a s B m d B' m' d')
 case first =>
  exact yJ10a1
 case rest =>
  exact yJ10a6
theorem yJ10a3 {P:Prop}(h:P:=by
 have c1:=fun W (hW:Ext w2 W)=>(b1.ext hW).cell
 have hww:=Ext.refl w2
 refine uR (fun X=>Ext w2 X) [10] (zG.app [0,1,2,3,4,6,7] (zG.two 5 (zG.of [8,9,10]) 9 (zG.of [5,8,10]))) ?_
 refine uQ ?_
 have hx0:Ext w2 w2.drew:=hww.drew
 generalize w2.drew=wd at *
 refine zA (fun K hK=>?_) (fun K hK=>?_)
 ·go_simp
  refine (zab (HS.out _ (hw2.trans hx0)) hs).mono ?_
  exact yJ10b1
 ·go_simp
  have hx1:=(Ext.refl wd).alloc (.cells #[.bool false,.int .i64 0,.slice none 0 0,.slice none 0 0,.string ⟨#[]⟩] 28)
  have hb:=Blk.new wd 28 #[.bool false,.int .i64 0,.slice none 0 0,.slice none 0 0,.string ⟨#[]⟩]
  have hG:=hx0.size
  replace hx0:=hx0.trans hx1
  refine hK.out _ _ hx0 ?_
  generalize wd.alloc (.cells #[.bool false,.int .i64 0,.slice none 0 0,.slice none 0 0,.string ⟨#[]⟩] 28)=wg at *
  generalize wd.heap.size=G at *
  refine pT ?_
  refine uQ ?_
  refine zb fun K hK=>?_;go_simp
  refine (zab (HS.out _ (hw2.trans hx0)) hs).mono ?_
  exact yJ10b3
 ):P:=h
theorem zcZ {lo hi:Nat} {A:Option Addr} {n c:Nat} {A':Option Addr} {n' c':Nat} {ro:Int} {a:Aut} {s:ByteArray} {w:World}(h:zI w lo hi A n A' n' a)(hs:a.size≤1048576)(hs9:s.size≤9223372036854775807)(hv:zC false a s=true) :
  Calls Tryz.prog 10 #[.agg #[.int .i64 1,.int .i64 a.al,.slice A n c,.slice A' n' c',.string s,.int .i64 ro]] w (zaD w false a s true):=by
 have Hv:=za hv
 clear hv
 have HS:=za (fun W (hW:Ext w W)=>h.ext hW)
 have hss:=hs
 clear h
 go_enter Tryz.func10,Tryz.ntmps10
 obtain⟨b1,bz⟩:=zM (Ext.refl ((w.alloc (.cells #[.int .i64 1,.int .i64 a.al,.slice A n c,.slice A' n' c',.string s,.int .i64 ro] 33)).alloc (.cells #[.bool false,.int .i64 0,.slice none 0 0,.slice none 0 0,.string ⟨#[]⟩] 28)))
 have hw2:Ext w ((w.alloc (.cells #[.int .i64 1,.int .i64 a.al,.slice A n c,.slice A' n' c',.string s,.int .i64 ro] 33)).alloc (.cells #[.bool false,.int .i64 0,.slice none 0 0,.slice none 0 0,.string ⟨#[]⟩] 28)):=((Ext.refl w).alloc _).alloc _
 have hsz2:w.heap.size+2=((w.alloc (.cells #[.int .i64 1,.int .i64 a.al,.slice A n c,.slice A' n' c',.string s,.int .i64 ro] 33)).alloc (.cells #[.bool false,.int .i64 0,.slice none 0 0,.slice none 0 0,.string ⟨#[]⟩] 28)).heap.size:=by simp
 go_upto_region 1 with fail
 generalize (w.alloc (.cells #[.int .i64 1,.int .i64 a.al,.slice A n c,.slice A' n' c',.string s,.int .i64 ro] 33)).alloc (.cells #[.bool false,.int .i64 0,.slice none 0 0,.slice none 0 0,.string ⟨#[]⟩] 28)=w2 at *
 go_cut [4] (fun v wx=>∃ G B m d B' m' d',v=.pointer (some ⟨G,0,none⟩)∧zdR w2 wx G false a s B m d B' m' d')
 case first =>
  exact yJ10a3
 case rest =>
  obtain⟨G,B,m,d,B',m',d',rfl,hb,own4,hx2,hG⟩:=hcut
  have kG:=hb.cell
  have k1:=(b1.ext hx2).cell
  go_wp2_with fail
  refine (zaq _ _ _ _ _ _ _ _ _ _ _ _ own4.reads hs9).mono ?_
  rw [Hv.out]
  rintro e w5 ⟨rfl,hx5⟩
  clear kG k1
  replace hb:=hb.ext hx5
  replace own4:=own4.ext hx5
  replace hx2:=hx2.trans hx5
  have kG:=hb.cell
  have k1:=(b1.ext hx2).cell
  have hbz:=bz.ext hx2
  have cZ:=hbz.cell
  have fZ:=hbz.frozen
  have hfl:=zD w5 (w.heap.size+1) (.bool false) (.int .i64 a.al) (.slice B m d) (.slice B' m' d') (.string s)
  have hbf:=zE hbz rfl (.bool false) (.int .i64 a.al) (.slice B m d) (.slice B' m' d') (.string s)
  have hxf:=(hw2.trans hx2).frm hfl (fun k hk e=>by omega)
  have zgF:=za (show zaD w false a s true (.returned (.tuple #[.agg #[.bool false,.int .i64 a.al,.slice B m d,.slice B' m' d',.string s],.bool true])) (((((w5.setCell ⟨w.heap.size+1,0,none⟩ (.bool false)).setCell ⟨w.heap.size+1,1,none⟩ (.int .i64 a.al)).setCell ⟨w.heap.size+1,2,none⟩ (.slice B m d)).setCell ⟨w.heap.size+1,3,none⟩ (.slice B' m' d')).setCell ⟨w.heap.size+1,4,none⟩ (.string s)) from ⟨B,m,d,B',m',d',rfl,(own4.keep hfl (fun b h1 e=>by omega)).less (by omega),hxf⟩)
  go_wp2_with fail
  generalize (((((w5.setCell ⟨w.heap.size+1,0,none⟩ (.bool false)).setCell ⟨w.heap.size+1,1,none⟩ (.int .i64 a.al)).setCell ⟨w.heap.size+1,2,none⟩ (.slice B m d)).setCell ⟨w.heap.size+1,3,none⟩ (.slice B' m' d')).setCell ⟨w.heap.size+1,4,none⟩ (.string s))=wf at *
  have cf:=hbf.cell
  exact bodyPost_ret (v:=.tuple #[.agg #[.bool false,.int .i64 a.al,.slice B m d,.slice B' m' d',.string s],.bool true]) (by simp [results,Tryz.results10,go_sem,cf]) rfl zgF.out
theorem zcY {lo hi:Nat} {A:Option Addr} {n c:Nat} {A':Option Addr} {n' c':Nat} {ro:Int} {a:Aut} {s:ByteArray} {w:World}(h:zI w lo hi A n A' n' a)(hs:a.size≤1048576)(hs9:s.size≤9223372036854775807)(hv:zC false a s=false) :
  Calls Tryz.prog 10 #[.agg #[.int .i64 1,.int .i64 a.al,.slice A n c,.slice A' n' c',.string s,.int .i64 ro]] w (zaD w false aut0 ⟨#[]⟩ false):=by
 have Hv:=za hv
 clear hv
 have HS:=za (fun W (hW:Ext w W)=>h.ext hW)
 have hss:=hs
 clear h
 go_enter Tryz.func10,Tryz.ntmps10
 obtain⟨b1,bz⟩:=zM (Ext.refl ((w.alloc (.cells #[.int .i64 1,.int .i64 a.al,.slice A n c,.slice A' n' c',.string s,.int .i64 ro] 33)).alloc (.cells #[.bool false,.int .i64 0,.slice none 0 0,.slice none 0 0,.string ⟨#[]⟩] 28)))
 have hw2:Ext w ((w.alloc (.cells #[.int .i64 1,.int .i64 a.al,.slice A n c,.slice A' n' c',.string s,.int .i64 ro] 33)).alloc (.cells #[.bool false,.int .i64 0,.slice none 0 0,.slice none 0 0,.string ⟨#[]⟩] 28)):=((Ext.refl w).alloc _).alloc _
 have hsz2:w.heap.size+2=((w.alloc (.cells #[.int .i64 1,.int .i64 a.al,.slice A n c,.slice A' n' c',.string s,.int .i64 ro] 33)).alloc (.cells #[.bool false,.int .i64 0,.slice none 0 0,.slice none 0 0,.string ⟨#[]⟩] 28)).heap.size:=by simp
 go_upto_region 1 with fail
 generalize (w.alloc (.cells #[.int .i64 1,.int .i64 a.al,.slice A n c,.slice A' n' c',.string s,.int .i64 ro] 33)).alloc (.cells #[.bool false,.int .i64 0,.slice none 0 0,.slice none 0 0,.string ⟨#[]⟩] 28)=w2 at *
 go_cut [4] (fun v wx=>∃ G B m d B' m' d',v=.pointer (some ⟨G,0,none⟩)∧zdR w2 wx G false a s B m d B' m' d')
 case first =>
  exact yJ10a3
 case rest =>
  exact yJ10a5
theorem zdp {lo hi:Nat} {A:Option Addr} {n c:Nat} {A':Option Addr} {n' c':Nat} {cd ro:Int} {a:Aut} {s:ByteArray} {w:World}(h:zI w lo hi A n A' n' a)(hs:a.size≤1048576)(h0:cd≠0)(h1:cd≠1) :
  Calls Tryz.prog 9 #[.agg #[.int .i64 cd,.int .i64 a.al,.slice A n c,.slice A' n' c',.string s,.int .i64 ro]] w (zaD w false aut0 ⟨#[]⟩ false):=by
 have hc0:(cd==0)=false:=by simpa using h0
 have hn0:(cd != 0)=true:=by simpa using h0
 have hn1:(cd != 1)=true:=by simpa using h1
 clear h0 h1
 have HS:=za (fun W (hW:Ext w W)=>h.ext hW)
 have hss:=hs
 clear h
 go_enter Tryz.func9,Tryz.ntmps9
 obtain⟨b1,bz⟩:=zM (Ext.refl ((w.alloc (.cells #[.int .i64 cd,.int .i64 a.al,.slice A n c,.slice A' n' c',.string s,.int .i64 ro] 33)).alloc (.cells #[.bool false,.int .i64 0,.slice none 0 0,.slice none 0 0,.string ⟨#[]⟩] 28)))
 have hw2:Ext w ((w.alloc (.cells #[.int .i64 cd,.int .i64 a.al,.slice A n c,.slice A' n' c',.string s,.int .i64 ro] 33)).alloc (.cells #[.bool false,.int .i64 0,.slice none 0 0,.slice none 0 0,.string ⟨#[]⟩] 28)):=((Ext.refl w).alloc _).alloc _
 have hsz2:w.heap.size+2=((w.alloc (.cells #[.int .i64 cd,.int .i64 a.al,.slice A n c,.slice A' n' c',.string s,.int .i64 ro] 33)).alloc (.cells #[.bool false,.int .i64 0,.slice none 0 0,.slice none 0 0,.string ⟨#[]⟩] 28)).heap.size:=by simp
 go_upto_region 1 with fail
 generalize (w.alloc (.cells #[.int .i64 cd,.int .i64 a.al,.slice A n c,.slice A' n' c',.string s,.int .i64 ro] 33)).alloc (.cells #[.bool false,.int .i64 0,.slice none 0 0,.slice none 0 0,.string ⟨#[]⟩] 28)=w2 at *
 have k1:=b1.cell
 have hbz:=bz
 have cZ:=hbz.cell
 have fZ:=hbz.frozen
 have hfl:=zD w2 (w.heap.size+1) (.bool false) (.int .i64 0) (.slice none 0 0) (.slice none 0 0) (.string ⟨#[]⟩)
 have hbf:=zE hbz rfl (.bool false) (.int .i64 0) (.slice none 0 0) (.slice none 0 0) (.string ⟨#[]⟩)
 have hxf:=hw2.frm hfl (fun k hk e=>by omega)
 have zgF:=za (show zaD w false aut0 ⟨#[]⟩ false (.returned (.tuple #[.agg #[.bool false,.int .i64 0,.slice none 0 0,.slice none 0 0,.string ⟨#[]⟩],.bool false])) (((((w2.setCell ⟨w.heap.size+1,0,none⟩ (.bool false)).setCell ⟨w.heap.size+1,1,none⟩ (.int .i64 0)).setCell ⟨w.heap.size+1,2,none⟩ (.slice none 0 0)).setCell ⟨w.heap.size+1,3,none⟩ (.slice none 0 0)).setCell ⟨w.heap.size+1,4,none⟩ (.string ⟨#[]⟩)) from ⟨none,0,0,none,0,0,rfl,zcg _ _,hxf⟩)
 go_wp2_with fail
 generalize (((((w2.setCell ⟨w.heap.size+1,0,none⟩ (.bool false)).setCell ⟨w.heap.size+1,1,none⟩ (.int .i64 0)).setCell ⟨w.heap.size+1,2,none⟩ (.slice none 0 0)).setCell ⟨w.heap.size+1,3,none⟩ (.slice none 0 0)).setCell ⟨w.heap.size+1,4,none⟩ (.string ⟨#[]⟩))=wf at *
 exact yJ10b6
theorem zds {lo hi:Nat} {A:Option Addr} {n c:Nat} {A':Option Addr} {n' c':Nat} {cd ro:Int} {a:Aut} {s:ByteArray} {w:World}(h:zI w lo hi A n A' n' a)(hs:a.size≤1048576)(h0:cd≠0)(h1:cd≠1) :
  Calls Tryz.prog 10 #[.agg #[.int .i64 cd,.int .i64 a.al,.slice A n c,.slice A' n' c',.string s,.int .i64 ro]] w (zaD w false aut0 ⟨#[]⟩ false):=by
 have hc0:(cd==0)=false:=by simpa using h0
 have hn0:(cd != 0)=true:=by simpa using h0
 have hn1:(cd != 1)=true:=by simpa using h1
 clear h0 h1
 have HS:=za (fun W (hW:Ext w W)=>h.ext hW)
 have hss:=hs
 clear h
 go_enter Tryz.func10,Tryz.ntmps10
 obtain⟨b1,bz⟩:=zM (Ext.refl ((w.alloc (.cells #[.int .i64 cd,.int .i64 a.al,.slice A n c,.slice A' n' c',.string s,.int .i64 ro] 33)).alloc (.cells #[.bool false,.int .i64 0,.slice none 0 0,.slice none 0 0,.string ⟨#[]⟩] 28)))
 have hw2:Ext w ((w.alloc (.cells #[.int .i64 cd,.int .i64 a.al,.slice A n c,.slice A' n' c',.string s,.int .i64 ro] 33)).alloc (.cells #[.bool false,.int .i64 0,.slice none 0 0,.slice none 0 0,.string ⟨#[]⟩] 28)):=((Ext.refl w).alloc _).alloc _
 have hsz2:w.heap.size+2=((w.alloc (.cells #[.int .i64 cd,.int .i64 a.al,.slice A n c,.slice A' n' c',.string s,.int .i64 ro] 33)).alloc (.cells #[.bool false,.int .i64 0,.slice none 0 0,.slice none 0 0,.string ⟨#[]⟩] 28)).heap.size:=by simp
 go_upto_region 1 with fail
 generalize (w.alloc (.cells #[.int .i64 cd,.int .i64 a.al,.slice A n c,.slice A' n' c',.string s,.int .i64 ro] 33)).alloc (.cells #[.bool false,.int .i64 0,.slice none 0 0,.slice none 0 0,.string ⟨#[]⟩] 28)=w2 at *
 go_cut [4] (fun v wx=>∃ G B m d B' m' d',v=.pointer (some ⟨G,0,none⟩)∧zdR w2 wx G false a s B m d B' m' d')
 case first =>
  exact yJ10a3
 case rest =>
  obtain⟨G,B,m,d,B',m',d',rfl,hb,own4,hx2,hG⟩:=hcut
  have k1:=(b1.ext hx2).cell
  have hbz:=bz.ext hx2
  have cZ:=hbz.cell
  have fZ:=hbz.frozen
  have hfl:=zD wc (w.heap.size+1) (.bool false) (.int .i64 0) (.slice none 0 0) (.slice none 0 0) (.string ⟨#[]⟩)
  have hbf:=zE hbz rfl (.bool false) (.int .i64 0) (.slice none 0 0) (.slice none 0 0) (.string ⟨#[]⟩)
  have hxf:=(hw2.trans hx2).frm hfl (fun k hk e=>by omega)
  have zgF:=za (show zaD w false aut0 ⟨#[]⟩ false (.returned (.tuple #[.agg #[.bool false,.int .i64 0,.slice none 0 0,.slice none 0 0,.string ⟨#[]⟩],.bool false])) (((((wc.setCell ⟨w.heap.size+1,0,none⟩ (.bool false)).setCell ⟨w.heap.size+1,1,none⟩ (.int .i64 0)).setCell ⟨w.heap.size+1,2,none⟩ (.slice none 0 0)).setCell ⟨w.heap.size+1,3,none⟩ (.slice none 0 0)).setCell ⟨w.heap.size+1,4,none⟩ (.string ⟨#[]⟩)) from ⟨none,0,0,none,0,0,rfl,zcg _ _,hxf⟩)
  go_wp2_with fail
  generalize (((((wc.setCell ⟨w.heap.size+1,0,none⟩ (.bool false)).setCell ⟨w.heap.size+1,1,none⟩ (.int .i64 0)).setCell ⟨w.heap.size+1,2,none⟩ (.slice none 0 0)).setCell ⟨w.heap.size+1,3,none⟩ (.slice none 0 0)).setCell ⟨w.heap.size+1,4,none⟩ (.string ⟨#[]⟩))=wf at *
  exact yJ10b5
def hdX (cd:Int) (a:Aut) (s:ByteArray):Bool:=okC cd a s&&decide (cd=0)
def zed (cd:Int) (a:Aut) (s:ByteArray):Aut:=if okC cd a s then a else aut0
def zem (cd:Int) (a:Aut) (s:ByteArray):ByteArray:=if okC cd a s then s else ⟨#[]⟩
theorem impl_CertificateOf {lo hi:Nat} {A:Option Addr} {n c:Nat} {A':Option Addr} {n' c':Nat} {cd ro:Int} {a:Aut} {s:ByteArray} {w:World}(h:zI w lo hi A n A' n' a)(hs:a.size≤1048576)(hs9:s.size≤9223372036854775807) :
  Calls Tryz.prog 9 #[.agg #[.int .i64 cd,.int .i64 a.al,.slice A n c,.slice A' n' c',.string s,.int .i64 ro]] w (zaD w (hdX cd a s) (zed cd a s) (zem cd a s) (okC cd a s)):=by
 by_cases h0:cd=0
 ·subst h0
  cases hv:zC true a s
  ·have:=zcS h hs hs9 hv (c:=c) (c':=c') (ro:=ro)
   simpa [hdX,zed,zem,okC0,hv] using this
  ·have:=zcT h hs hs9 hv (c:=c) (c':=c') (ro:=ro)
   simpa [hdX,zed,zem,okC0,hv] using this
 ·by_cases h1:cd=1
  ·subst h1
   cases hv:zC false a s
   ·have:=zcU h hs hs9 hv (c:=c) (c':=c') (ro:=ro)
    simpa [hdX,zed,zem,okC1,hv] using this
   ·have:=zcV h hs hs9 hv (c:=c) (c':=c') (ro:=ro)
    simpa [hdX,zed,zem,okC1,hv] using this
  ·have:=zdp h hs h0 h1 (s:=s) (c:=c) (c':=c') (ro:=ro)
   simpa [hdX,zed,zem,okC,h0,h1] using this
theorem zdJ {lo hi:Nat} {A:Option Addr} {n c:Nat} {A':Option Addr} {n' c':Nat} {cd ro:Int} {a:Aut} {s:ByteArray} {w:World}(h:zI w lo hi A n A' n' a)(hs:a.size≤1048576)(hs9:s.size≤9223372036854775807) :
  Calls Tryz.prog 10 #[.agg #[.int .i64 cd,.int .i64 a.al,.slice A n c,.slice A' n' c',.string s,.int .i64 ro]] w (zaD w (hdX cd a s) (zed cd a s) (zem cd a s) (okC cd a s)):=by
 by_cases h0:cd=0
 ·subst h0
  cases hv:zC true a s
  ·have:=zcW h hs hs9 hv (c:=c) (c':=c') (ro:=ro)
   simpa [hdX,zed,zem,okC0,hv] using this
  ·have:=zcX h hs hs9 hv (c:=c) (c':=c') (ro:=ro)
   simpa [hdX,zed,zem,okC0,hv] using this
 ·by_cases h1:cd=1
  ·subst h1
   cases hv:zC false a s
   ·have:=zcY h hs hs9 hv (c:=c) (c':=c') (ro:=ro)
    simpa [hdX,zed,zem,okC1,hv] using this
   ·have:=zcZ h hs hs9 hv (c:=c) (c':=c') (ro:=ro)
    simpa [hdX,zed,zem,okC1,hv] using this
  ·have:=zds h hs h0 h1 (s:=s) (c:=c) (c':=c') (ro:=ro)
   simpa [hdX,zed,zem,okC,h0,h1] using this
section
variable {w:World} {lo hi n c lo1 hi1 m d m' d' lo2 hi2 k c2:Nat} {A B B' C:Option Addr} {s t:Sys} {p:Aut}
theorem zdt {v:Vd} (HR:Hid (∀ W,Ext w W→Calls Tryz.prog 23 #[.agg #[.int .i64 s.al,.int .i64 s.st,.slice A n c],.agg #[.int .i64 t.al,.int .i64 t.st,.slice C k c2],.agg #[.int .i64 p.al,.slice B m d,.slice B' m' d']] W (RetVd W v)))(hsz:Hid (v.asm.size≤1048576∧v.tr.size≤9223372036854775807)) :
  Calls Tryz.prog 38 #[.agg #[.int .i64 s.al,.int .i64 s.st,.slice A n c],.agg #[.int .i64 t.al,.int .i64 t.st,.slice C k c2],.agg #[.int .i64 p.al,.slice B m d,.slice B' m' d']] w
   (zaD w (hdX v.code v.asm v.tr) (zed v.code v.asm v.tr) (zem v.code v.asm v.tr) (okC v.code v.asm v.tr)):=by
 have hx0:Ext w ((((w.alloc (.cells #[.int .i64 s.al,.int .i64 s.st,.slice A n c] 43)).alloc (.cells #[.int .i64 t.al,.int .i64 t.st,.slice C k c2] 43)).alloc (.cells #[.int .i64 p.al,.slice B m d,.slice B' m' d'] 26)).alloc (.cells #[.bool false,.int .i64 0,.slice none 0 0,.slice none 0 0,.string ⟨#[]⟩] 28)):=((((Ext.refl _).alloc _).alloc _).alloc _).alloc _
 obtain⟨b1,b2,b3⟩:=zN ((Ext.refl _).alloc _:Ext (((w.alloc (.cells #[.int .i64 s.al,.int .i64 s.st,.slice A n c] 43)).alloc (.cells #[.int .i64 t.al,.int .i64 t.st,.slice C k c2] 43)).alloc (.cells #[.int .i64 p.al,.slice B m d,.slice B' m' d'] 26)) ((((w.alloc (.cells #[.int .i64 s.al,.int .i64 s.st,.slice A n c] 43)).alloc (.cells #[.int .i64 t.al,.int .i64 t.st,.slice C k c2] 43)).alloc (.cells #[.int .i64 p.al,.slice B m d,.slice B' m' d'] 26)).alloc (.cells #[.bool false,.int .i64 0,.slice none 0 0,.slice none 0 0,.string ⟨#[]⟩] 28)))
 have b6:=Blk.new (((w.alloc (.cells #[.int .i64 s.al,.int .i64 s.st,.slice A n c] 43)).alloc (.cells #[.int .i64 t.al,.int .i64 t.st,.slice C k c2] 43)).alloc (.cells #[.int .i64 p.al,.slice B m d,.slice B' m' d'] 26)) 28 #[.bool false,.int .i64 0,.slice none 0 0,.slice none 0 0,.string ⟨#[]⟩]
 simp only [World.size_alloc] at b6
 go_enter Tryz.func38,Tryz.ntmps38
 go_upto_region 1 with fail
 generalize ((((w.alloc (.cells #[.int .i64 s.al,.int .i64 s.st,.slice A n c] 43)).alloc (.cells #[.int .i64 t.al,.int .i64 t.st,.slice C k c2] 43)).alloc (.cells #[.int .i64 p.al,.slice B m d,.slice B' m' d'] 26)).alloc (.cells #[.bool false,.int .i64 0,.slice none 0 0,.slice none 0 0,.string ⟨#[]⟩] 28))=w0 at *
 have c1:=b1.cell
 have cc2:=b2.cell
 have c3:=b3.cell
 have k6:∀ W,Ext w0 W→∀ q,W.cell? ⟨w.heap.size+1+1+1,q,none⟩=(#[.bool false,.int .i64 0,.slice none 0 0,.slice none 0 0,.string ⟨#[]⟩]:Array Value)[q]?:=fun W hW=>(b6.ext hW).cell
 have f6:∀ W,Ext w0 W→_:=fun W hW=>(b6.ext hW).frozen
 go_wp2_with (first
  |(go_at_call 23;refine (HR.out w0 hx0).mono ?_;rintro e w1 ⟨A1,n1,k1,A1',n1',k1',rfl,ho,hx1⟩;clear c1 cc2 c3)
  |(go_at_call 10;refine (zdJ ho.reads hsz.out.1 hsz.out.2).mono ?_;rintro e w2 ⟨A2,n2,k2,A3,n3,k3,rfl,ho2,hx2⟩;have hx12:=hx1.trans hx2;have b62:=b6.ext hx12;have k62:=b62.cell;have f62:=b62.frozen;clear k6 f6))
 have hf:Frm (fun b=>b=w.heap.size+1+1+1) w2 (((((w2.setCell ⟨w.heap.size+1+1+1,0,none⟩ (.bool (hdX v.code v.asm v.tr))).setCell ⟨w.heap.size+1+1+1,1,none⟩ (.int .i64 (zed v.code v.asm v.tr).al)).setCell ⟨w.heap.size+1+1+1,2,none⟩ (.slice A2 n2 k2)).setCell ⟨w.heap.size+1+1+1,3,none⟩ (.slice A3 n3 k3)).setCell ⟨w.heap.size+1+1+1,4,none⟩ (.string (zem v.code v.asm v.tr))):=((((Frm.setCell w2 _ 0 _).trans (Frm.setCell _ _ 1 _)).trans (Frm.setCell _ _ 2 _)).trans (Frm.setCell _ _ 3 _)).trans (Frm.setCell _ _ 4 _)
 have b63:Blk (((((w2.setCell ⟨w.heap.size+1+1+1,0,none⟩ (.bool (hdX v.code v.asm v.tr))).setCell ⟨w.heap.size+1+1+1,1,none⟩ (.int .i64 (zed v.code v.asm v.tr).al)).setCell ⟨w.heap.size+1+1+1,2,none⟩ (.slice A2 n2 k2)).setCell ⟨w.heap.size+1+1+1,3,none⟩ (.slice A3 n3 k3)).setCell ⟨w.heap.size+1+1+1,4,none⟩ (.string (zem v.code v.asm v.tr))) (w.heap.size+1+1+1) 28 #[.bool (hdX v.code v.asm v.tr),.int .i64 (zed v.code v.asm v.tr).al,.slice A2 n2 k2,.slice A3 n3 k3,.string (zem v.code v.asm v.tr)]:=by
  simpa using ((((b62.set_ 0 (.bool (hdX v.code v.asm v.tr))).set_ 1 (.int .i64 (zed v.code v.asm v.tr).al)).set_ 2 (.slice A2 n2 k2)).set_ 3 (.slice A3 n3 k3)).set_ 4 (.string (zem v.code v.asm v.tr))
 have ho3:=(ho2.farT b62 hf (by decide)).less (show w.heap.size≤w1.heap.size by have:=hx0.size;have:=hx1.size;omega)
 have hx3:=(hx0.trans hx12).frm hf (fun k hk e=>by omega)
 have cf:=b63.cell
 exact bodyPost_ret (v:=.tuple #[.agg #[.bool (hdX v.code v.asm v.tr),.int .i64 (zed v.code v.asm v.tr).al,.slice A2 n2 k2,.slice A3 n3 k3,.string (zem v.code v.asm v.tr)],.bool (okC v.code v.asm v.tr)]) (by simp [results,Tryz.results38,go_sem,cf]) rfl ⟨A2,n2,k2,A3,n3,k3,rfl,ho3,hx3⟩
end
theorem zce (s t:Sys) (p:Aut):iface s p t = -1∨∃ L:Nat,iface s p t=(L:Int):=by
 unfold iface
 split
 ·exact .inr ⟨_,rfl⟩
 ·exact .inl rfl
section
variable {w:World} {lo hi n c lo1 hi1 m d m' d' lo2 hi2 k c2:Nat} {A B B' C:Option Addr} {s t:Sys} {p:Aut}
theorem spec_TaskOf0 (hs:zaj w lo hi A n s)(hp:zI w lo1 hi1 B m B' m' p)(ht:zaj w lo2 hi2 C k t)(hif:iface s p t = -1) :
  Calls Tryz.prog 75 #[.agg #[.int .i64 s.al,.int .i64 s.st,.slice A n c],.agg #[.int .i64 p.al,.slice B m d,.slice B' m' d'],.agg #[.int .i64 t.al,.int .i64 t.st,.slice C k c2]] w
   fun e w'=>e=.returned (.tuple #[.agg #[.int .i64 0,.int .i64 0,.slice none 0 0,.int .i64 0,.slice none 0 0,.slice none 0 0,.int .i64 0],.bool false])∧Ext w w':=by
 have HIf:=za (fun W (hW:Ext w W)=>zbw (c:=c) (d1:=d) (d1':=d') (c2:=c2) (hs.ext hW) (hp.ext hW) (ht.ext hW))
 rw [hif] at HIf
 clear hs hp ht hif
 have hx0:Ext w ((((w.alloc (.cells #[.int .i64 s.al,.int .i64 s.st,.slice A n c] 43)).alloc (.cells #[.int .i64 p.al,.slice B m d,.slice B' m' d'] 26)).alloc (.cells #[.int .i64 t.al,.int .i64 t.st,.slice C k c2] 43)).alloc (.cells #[.int .i64 0,.int .i64 0,.slice none 0 0,.int .i64 0,.slice none 0 0,.slice none 0 0,.int .i64 0] 107)):=((((Ext.refl _).alloc _).alloc _).alloc _).alloc _
 obtain⟨b1,b2,b3⟩:=zN ((Ext.refl _).alloc _:Ext (((w.alloc (.cells #[.int .i64 s.al,.int .i64 s.st,.slice A n c] 43)).alloc (.cells #[.int .i64 p.al,.slice B m d,.slice B' m' d'] 26)).alloc (.cells #[.int .i64 t.al,.int .i64 t.st,.slice C k c2] 43)) ((((w.alloc (.cells #[.int .i64 s.al,.int .i64 s.st,.slice A n c] 43)).alloc (.cells #[.int .i64 p.al,.slice B m d,.slice B' m' d'] 26)).alloc (.cells #[.int .i64 t.al,.int .i64 t.st,.slice C k c2] 43)).alloc (.cells #[.int .i64 0,.int .i64 0,.slice none 0 0,.int .i64 0,.slice none 0 0,.slice none 0 0,.int .i64 0] 107)))
 have b4:=Blk.new (((w.alloc (.cells #[.int .i64 s.al,.int .i64 s.st,.slice A n c] 43)).alloc (.cells #[.int .i64 p.al,.slice B m d,.slice B' m' d'] 26)).alloc (.cells #[.int .i64 t.al,.int .i64 t.st,.slice C k c2] 43)) 107 #[.int .i64 0,.int .i64 0,.slice none 0 0,.int .i64 0,.slice none 0 0,.slice none 0 0,.int .i64 0]
 simp only [World.size_alloc] at b4
 go_enter Tryz.func75,Tryz.ntmps75
 go_upto_region 1 with fail
 generalize (((w.alloc (.cells #[.int .i64 s.al,.int .i64 s.st,.slice A n c] 43)).alloc (.cells #[.int .i64 p.al,.slice B m d,.slice B' m' d'] 26)).alloc (.cells #[.int .i64 t.al,.int .i64 t.st,.slice C k c2] 43)).alloc (.cells #[.int .i64 0,.int .i64 0,.slice none 0 0,.int .i64 0,.slice none 0 0,.slice none 0 0,.int .i64 0] 107)=w0 at *
 have CS:=b1.cells
 have CP:=b2.cells
 have CT:=b3.cells
 have hww:=Ext.refl w0
 go_upto_region 3 with (first
  |(go_at_call 40;refine (HIf.out _ hx0).mono ?_;rintro e w1 ⟨rfl,hx01⟩))
 have bz:=b4.ext hx01
 have kz:=bz.cell
 have fz:=bz.frozen
 have hxw:=hx0.trans hx01
 have hf:Frm (fun k=>k=w.heap.size+1+1+1) w1 (((((((w1.setCell ⟨w.heap.size+1+1+1,0,none⟩ (.int .i64 0)).setCell ⟨w.heap.size+1+1+1,1,none⟩ (.int .i64 0)).setCell ⟨w.heap.size+1+1+1,2,none⟩ (.slice none 0 0)).setCell ⟨w.heap.size+1+1+1,3,none⟩ (.int .i64 0)).setCell ⟨w.heap.size+1+1+1,4,none⟩ (.slice none 0 0)).setCell ⟨w.heap.size+1+1+1,5,none⟩ (.slice none 0 0)).setCell ⟨w.heap.size+1+1+1,6,none⟩ (.int .i64 0)):=
  ((((((Frm.setCell w1 _ 0 _).trans (Frm.setCell _ _ 1 _)).trans (Frm.setCell _ _ 2 _)).trans (Frm.setCell _ _ 3 _)).trans (Frm.setCell _ _ 4 _)).trans (Frm.setCell _ _ 5 _)).trans (Frm.setCell _ _ 6 _)
 have bW:Blk (((((((w1.setCell ⟨w.heap.size+1+1+1,0,none⟩ (.int .i64 0)).setCell ⟨w.heap.size+1+1+1,1,none⟩ (.int .i64 0)).setCell ⟨w.heap.size+1+1+1,2,none⟩ (.slice none 0 0)).setCell ⟨w.heap.size+1+1+1,3,none⟩ (.int .i64 0)).setCell ⟨w.heap.size+1+1+1,4,none⟩ (.slice none 0 0)).setCell ⟨w.heap.size+1+1+1,5,none⟩ (.slice none 0 0)).setCell ⟨w.heap.size+1+1+1,6,none⟩ (.int .i64 0)) (w.heap.size+1+1+1) 107 #[.int .i64 0,.int .i64 0,.slice none 0 0,.int .i64 0,.slice none 0 0,.slice none 0 0,.int .i64 0]:=by
  simpa using ((((((bz.set_ 0 (.int .i64 0)).set_ 1 (.int .i64 0)).set_ 2 (.slice none 0 0)).set_ 3 (.int .i64 0)).set_ 4 (.slice none 0 0)).set_ 5 (.slice none 0 0)).set_ 6 (.int .i64 0)
 have hret:=za (hxw.frm hf (fun k hk e=>by omega))
 go_wp2_with fail
 generalize (((((((w1.setCell ⟨w.heap.size+1+1+1,0,none⟩ (.int .i64 0)).setCell ⟨w.heap.size+1+1+1,1,none⟩ (.int .i64 0)).setCell ⟨w.heap.size+1+1+1,2,none⟩ (.slice none 0 0)).setCell ⟨w.heap.size+1+1+1,3,none⟩ (.int .i64 0)).setCell ⟨w.heap.size+1+1+1,4,none⟩ (.slice none 0 0)).setCell ⟨w.heap.size+1+1+1,5,none⟩ (.slice none 0 0)).setCell ⟨w.heap.size+1+1+1,6,none⟩ (.int .i64 0))=W at *
 have cf:=bW.cell
 exact bodyPost_ret (v:=.tuple #[.agg #[.int .i64 0,.int .i64 0,.slice none 0 0,.int .i64 0,.slice none 0 0,.slice none 0 0,.int .i64 0],.bool false]) (by simp [results,Tryz.results75,go_sem,cf]) rfl ⟨rfl,hret.out⟩
theorem spec_l12Run0 {K:Nat}(hs:zaj w lo hi A n s)(hp:zI w lo1 hi1 B m B' m' p)(ht:zaj w lo2 hi2 C k t)(hif:iface s p t = -1) :
  Calls Tryz.prog 51 #[.agg #[.int .i64 s.al,.int .i64 s.st,.slice A n c],.agg #[.int .i64 t.al,.int .i64 t.st,.slice C k c2],.agg #[.int .i64 p.al,.slice B m d,.slice B' m' d'],.int .i64 K] w (zbR w ⟨3,noA,⟨#[]⟩,0⟩):=by
 have HT:=za (fun W (hW:Ext w W)=>spec_TaskOf0 (c:=c) (d:=d) (d':=d') (c2:=c2) (hs.ext hW) (hp.ext hW) (ht.ext hW) hif)
 clear hs hp ht hif
 have hx0:Ext w (((((w.alloc (.cells #[.int .i64 s.al,.int .i64 s.st,.slice A n c] 43)).alloc (.cells #[.int .i64 t.al,.int .i64 t.st,.slice C k c2] 43)).alloc (.cells #[.int .i64 p.al,.slice B m d,.slice B' m' d'] 26)).alloc (.cells #[.int .i64 0,.int .i64 0,.slice none 0 0,.slice none 0 0,.string ⟨#[]⟩,.int .i64 0] 33)).alloc (.cells #[.int .i64 0,.slice none 0 0,.slice none 0 0] 26)):=(((((Ext.refl _).alloc _).alloc _).alloc _).alloc _).alloc _
 obtain⟨b1,b2,b3⟩:=zN (((Ext.refl _).alloc _).alloc _:Ext (((w.alloc (.cells #[.int .i64 s.al,.int .i64 s.st,.slice A n c] 43)).alloc (.cells #[.int .i64 t.al,.int .i64 t.st,.slice C k c2] 43)).alloc (.cells #[.int .i64 p.al,.slice B m d,.slice B' m' d'] 26)) (((((w.alloc (.cells #[.int .i64 s.al,.int .i64 s.st,.slice A n c] 43)).alloc (.cells #[.int .i64 t.al,.int .i64 t.st,.slice C k c2] 43)).alloc (.cells #[.int .i64 p.al,.slice B m d,.slice B' m' d'] 26)).alloc (.cells #[.int .i64 0,.int .i64 0,.slice none 0 0,.slice none 0 0,.string ⟨#[]⟩,.int .i64 0] 33)).alloc (.cells #[.int .i64 0,.slice none 0 0,.slice none 0 0] 26)))
 have b4:=(Blk.new (((w.alloc (.cells #[.int .i64 s.al,.int .i64 s.st,.slice A n c] 43)).alloc (.cells #[.int .i64 t.al,.int .i64 t.st,.slice C k c2] 43)).alloc (.cells #[.int .i64 p.al,.slice B m d,.slice B' m' d'] 26)) 33 #[.int .i64 0,.int .i64 0,.slice none 0 0,.slice none 0 0,.string ⟨#[]⟩,.int .i64 0]).ext ((Ext.refl _).alloc (.cells #[.int .i64 0,.slice none 0 0,.slice none 0 0] 26))
 have b5:=Blk.new ((((w.alloc (.cells #[.int .i64 s.al,.int .i64 s.st,.slice A n c] 43)).alloc (.cells #[.int .i64 t.al,.int .i64 t.st,.slice C k c2] 43)).alloc (.cells #[.int .i64 p.al,.slice B m d,.slice B' m' d'] 26)).alloc (.cells #[.int .i64 0,.int .i64 0,.slice none 0 0,.slice none 0 0,.string ⟨#[]⟩,.int .i64 0] 33)) 26 #[.int .i64 0,.slice none 0 0,.slice none 0 0]
 simp only [World.size_alloc] at b4 b5
 go_enter Tryz.func51,Tryz.ntmps51
 go_upto_region 1 with fail
 generalize ((((w.alloc (.cells #[.int .i64 s.al,.int .i64 s.st,.slice A n c] 43)).alloc (.cells #[.int .i64 t.al,.int .i64 t.st,.slice C k c2] 43)).alloc (.cells #[.int .i64 p.al,.slice B m d,.slice B' m' d'] 26)).alloc (.cells #[.int .i64 0,.int .i64 0,.slice none 0 0,.slice none 0 0,.string ⟨#[]⟩,.int .i64 0] 33)).alloc (.cells #[.int .i64 0,.slice none 0 0,.slice none 0 0] 26)=w0 at *
 have CS:=b1.cells
 have CT:=b2.cells
 have CP:=b3.cells
 have hww:=Ext.refl w0
 go_upto_region 2 with (first
  |(go_at_call 75;refine (HT.out _ hx0).mono ?_;rintro e w1 ⟨rfl,hx01⟩))
 have hx2:Ext w0 (w1.alloc (.cells #[.int .i64 0,.int .i64 0,.slice none 0 0,.int .i64 0,.slice none 0 0,.slice none 0 0,.int .i64 0] 107)):=hx01.alloc _
 generalize w1.alloc (.cells #[.int .i64 0,.int .i64 0,.slice none 0 0,.int .i64 0,.slice none 0 0,.slice none 0 0,.int .i64 0] 107)=w2 at *
 have bz:=b4.ext hx2
 have kz:=bz.cell
 have fz:=bz.frozen
 have bu:=b5.ext hx2
 have ku:=bu.cell
 have fu:=bu.frozen
 obtain⟨f1,f2,f3⟩:=zeJ (v:=⟨3,noA,⟨#[]⟩,0⟩) (A:=none) (n:=0) (c:=0) (A':=none) (n':=0) (c':=0) (x:=0) (X:=none) (k1:=0) (d1:=0) (X':=none) (k1':=0) (d1':=0) (hx0.trans hx2) bz bu rfl rfl (by omega) (zcg _ _)
 dsimp only [noA] at f1 f2 f3
 have F2:=za f2
 have F3:=za f3
 clear f2 f3 bz bu b1 b2 b3 b4 b5
 go_wp2_with fail
 generalize (((((((((w2.setCell ⟨w.heap.size+1+1+1,0,none⟩ (.int .i64 3)).setCell ⟨w.heap.size+1+1+1,1,none⟩ (.int .i64 0)).setCell ⟨w.heap.size+1+1+1,2,none⟩ (.slice none 0 0)).setCell ⟨w.heap.size+1+1+1,3,none⟩ (.slice none 0 0)).setCell ⟨w.heap.size+1+1+1,4,none⟩ (.string ⟨#[]⟩)).setCell ⟨w.heap.size+1+1+1,5,none⟩ (.int .i64 0)).setCell ⟨w.heap.size+1+1+1+1,0,none⟩ (.int .i64 0)).setCell ⟨w.heap.size+1+1+1+1,1,none⟩ (.slice none 0 0)).setCell ⟨w.heap.size+1+1+1+1,2,none⟩ (.slice none 0 0))=W at *
 have cf2:=F2.out.cell
 have cf3:=F3.out.cell
 exact bodyPost_ret (v:=.tuple #[.agg #[.int .i64 3,.int .i64 0,.slice none 0 0,.slice none 0 0,.string ⟨#[]⟩,.int .i64 0],.agg #[.int .i64 0,.slice none 0 0,.slice none 0 0]]) (by simp [results,Tryz.results51,go_sem,cf2,cf3]) rfl f1.out
end
noncomputable def vpT (s t:Sys) (p:Aut):Vd:=
 if iface s p t<0 then ⟨3,noA,⟨#[]⟩,0⟩ else runT s t p (iface s p t).toNat 12 0 ((zaB (iface s p t).toNat (zw s p (iface s p t).toNat) [⟨#[]⟩] 11 [⟨#[]⟩]).map fun r=>(r,[⟨#[]⟩]))
theorem vpT_neg {s t:Sys} {p:Aut}(h:iface s p t = -1):vpT s t p=⟨3,noA,⟨#[]⟩,0⟩:=by unfold vpT;rw [if_pos (by omega)]
theorem vpT_pos {s t:Sys} {p:Aut} {L:Nat}(h:iface s p t=(L:Int)):vpT s t p=runT s t p L 12 0 ((zaB L (zw s p L) [⟨#[]⟩] 11 [⟨#[]⟩]).map fun r=>(r,[⟨#[]⟩])):=by
 have e:(iface s p t).toNat=L:=by omega
 unfold vpT
 rw [if_neg (by omega),e]
theorem zgc {s t:Sys} {p:Aut} {L:Nat}(h:iface s p t=(L:Int)):L<64:=by
 obtain⟨vs,vp,vt⟩:=zdE (show 0≤iface s p t by omega)
 rw [iface_nat vs vp vt] at h
 have h1:=zak vt
 have h2:((s.al.toNat|||p.al.toNat)&&&t.al.toNat)≤t.al.toNat:=Nat.and_le_right
 omega
theorem zeM (s t:Sys) (p:Aut):(vpT s t p).asm.size≤1048576∧(vpT s t p).tr.size≤4000:=by
 rcases zce s t p with h|⟨L,h⟩
 ·rw [vpT_neg h];exact⟨by show noA.size≤_;decide,Nat.zero_le _⟩
 ·rw [vpT_pos h]
  obtain⟨vs,vp,vt⟩:=zdE (show 0≤iface s p t by omega)
  exact runT_size (zgc h) (by simp [zX,vs,vt]) vp 12 0 _ (zdS.new L _)
theorem runT_asm {s t:Sys} {p:Aut} {L:Nat}(hL:L<64) (f:Nat):∀ (k:Nat) (o:Option (List ByteArray × List ByteArray)),zdS L (zw s p L) o→zk (runT s t p L f k o).asm=true∨(runT s t p L f k o).asm=noA:=by
 induction f with
 |zero=>exact fun k o _=>.inr rfl
 |succ f ih =>
  intro k o ho
  match o with
  |none=>exact .inr rfl
  |some (rs,cs) =>
   obtain⟨hI,hcl⟩:=ho rs cs rfl
   rw [runT]
   split
   ·exact .inl (zcJ hI hcl hL)
   ·split
    ·exact .inr rfl
    ·exact ih _ _ (zdS.learn hI _)
theorem vpT_asm (s t:Sys) (p:Aut):zk (vpT s t p).asm=true∨(vpT s t p).asm=noA:=by
 rcases zce s t p with h|⟨L,h⟩
 ·rw [vpT_neg h];exact .inr rfl
 ·rw [vpT_pos h]
  exact runT_asm (zgc h) 12 0 _ (zdS.new L _)
section
variable {w:World} {lo hi n c lo1 hi1 m d m' d' lo2 hi2 k c2:Nat} {A B B' C:Option Addr} {s t:Sys} {p:Aut}
theorem zcq (hs:zaj w lo hi A n s)(hp:zI w lo1 hi1 B m B' m' p)(ht:zaj w lo2 hi2 C k t)(hn:n≤1000000)(hhi:hi≤w.heap.size) :
  Calls Tryz.prog 23 #[.agg #[.int .i64 s.al,.int .i64 s.st,.slice A n c],.agg #[.int .i64 t.al,.int .i64 t.st,.slice C k c2],.agg #[.int .i64 p.al,.slice B m d,.slice B' m' d']] w
   (RetVd w (vpT s t p)):=by
 rcases zce s t p with h|⟨L,h⟩
 ·rw [vpT_neg h]
  exact zbP (za (fun W (hW:Ext w W)=>spec_l12Run0 (K:=12) (hs.ext hW) (hp.ext hW) (ht.ext hW) h))
 ·rw [vpT_pos h]
  exact zfc hs hp ht h hn hhi
theorem zdY (hs:zaj w lo hi A n s)(hp:zI w lo1 hi1 B m B' m' p)(ht:zaj w lo2 hi2 C k t)(hn:n≤1000000)(hhi:hi≤w.heap.size) :
  Calls Tryz.prog 38 #[.agg #[.int .i64 s.al,.int .i64 s.st,.slice A n c],.agg #[.int .i64 t.al,.int .i64 t.st,.slice C k c2],.agg #[.int .i64 p.al,.slice B m d,.slice B' m' d']] w
   (zaD w (hdX (vpT s t p).code (vpT s t p).asm (vpT s t p).tr) (zed (vpT s t p).code (vpT s t p).asm (vpT s t p).tr) (zem (vpT s t p).code (vpT s t p).asm (vpT s t p).tr) (okC (vpT s t p).code (vpT s t p).asm (vpT s t p).tr)):=
 zdt (za (fun W (hW:Ext w W)=>zcq (hs.ext hW) (hp.ext hW) (ht.ext hW) hn (Nat.le_trans hhi hW.size))) (za ⟨(zeM s t p).1,Nat.le_trans (zeM s t p).2 (by omega)⟩)
end
structure zcs (w0 W:World) (R M K J:Nat) (a:Aut) (B:Option Addr) (m d:Nat) (B':Option Addr) (m' d':Nat) (x:ByteArray):Prop where
 own:zO W (R+1) B m d B' m' d' a
 bd:Hid (BdA K a∧x.size≤J)
 rd:Rd W R M
 dr:Dr R w0 W
 hR:R<w0.heap.size
def RetCe (R M K J:Nat) (w:World) (e:Ending) (w':World):Prop:=
 ∃ (hd:Bool) (a:Aut) (B:Option Addr) (m d:Nat) (B':Option Addr) (m' d':Nat) (x:ByteArray),e=.returned (.agg #[.bool hd,.int .i64 a.al,.slice B m d,.slice B' m' d',.string x])∧zcs w w' R M K J a B m d B' m' d' x
section
variable {w0 W W':World} {R M K J N H I Z m d m' d':Nat} {a:Aut} {B B':Option Addr} {x:ByteArray} {hd:Bool}
theorem zcs.drawn (h:zcs w0 W R M K J a B m d B' m' d' x)(hd:Dr R W W')(hr:Rd W' R N):zcs w0 W' R N K J a B m d B' m' d' x:=
 ⟨h.own.keep hd (fun b h1 e=>by omega),h.bd,hr,h.dr.trans hd,h.hR⟩
theorem zcs.ext (h:zcs w0 W R M K J a B m d B' m' d' x)(hx:Ext W W'):zcs w0 W' R M K J a B m d B' m' d' x:=h.drawn hx.dr (h.rd.ext hx)
theorem zcs.more (h:zcs w0 W R M K J a B m d B' m' d' x)(hM:M≤N)(hK:K≤H)(hJ:J≤I):zcs w0 W R N H I a B m d B' m' d' x:=
 ⟨h.own,za ⟨BdL.more h.bd.out.1 hK,Nat.le_trans h.bd.out.2 hJ⟩,h.rd.more hM,h.dr,h.hR⟩
theorem zcs.far {ty:TypeId} {cs:Array Value}(h:zcs w0 W R M K J a B m d B' m' d' x)(hB:Blk W Z ty cs)(hf:Frm (fun k=>k=Z) W W')(hZ:w0.heap.size≤Z)(h2:ty≠3∧ty≠53∧ty≠4):zcs w0 W' R M K J a B m d B' m' d' x:=
 ⟨h.own.farT hB hf h2,h.bd,h.rd.frm hf (fun k hk e=>by have:=h.hR;omega),h.dr.far hf hZ,h.hR⟩
theorem zcs.less {w1:World}(h:zcs w0 W R M K J a B m d B' m' d' x)(hd:Dr R w1 w0)(hR:R<w1.heap.size):zcs w1 W R M K J a B m d B' m' d' x:=
 ⟨h.own,h.bd,h.rd,hd.trans h.dr,hR⟩
theorem zcs.fin {us:Array Value}(h:zcs w0 W R M K J a B m d B' m' d' x)(hz:Blk W Z 28 us)(h5:us.size=5)(hZ:w0.heap.size≤Z) :
  Hid (RetCe R M K J w0 (.returned (.agg #[.bool hd,.int .i64 a.al,.slice B m d,.slice B' m' d',.string x])) (((((W.setCell ⟨Z,0,none⟩ (.bool hd)).setCell ⟨Z,1,none⟩ (.int .i64 a.al)).setCell ⟨Z,2,none⟩ (.slice B m d)).setCell ⟨Z,3,none⟩ (.slice B' m' d')).setCell ⟨Z,4,none⟩ (.string x))) ∧
  Hid (Blk (((((W.setCell ⟨Z,0,none⟩ (.bool hd)).setCell ⟨Z,1,none⟩ (.int .i64 a.al)).setCell ⟨Z,2,none⟩ (.slice B m d)).setCell ⟨Z,3,none⟩ (.slice B' m' d')).setCell ⟨Z,4,none⟩ (.string x)) Z 28 #[.bool hd,.int .i64 a.al,.slice B m d,.slice B' m' d',.string x]):=by
 have hf:=zD W Z (.bool hd) (.int .i64 a.al) (.slice B m d) (.slice B' m' d') (.string x)
 exact⟨za ⟨hd,a,B,m,d,B',m',d',x,rfl,h.far hz hf hZ (by decide)⟩,za (zE hz h5 _ _ _ _ _)⟩
end
theorem zfU {a:Aut}(h:zk a=true∨a=noA):BdA 12 a:=by
 rcases h with h|rfl
 ·obtain⟨h0,⟨h1,h2⟩,h3,h4⟩:=zx h
  refine⟨h2,by omega,fun l hl=>?_⟩
  obtain⟨q,hq⟩:=List.getElem?_of_mem hl
  rw [(h4 q l hq).1]
  exact Nat.le_trans (zy _ _) (by omega)
 ·exact⟨Nat.zero_le _,Nat.zero_le _,fun l hl=>by simp [noA] at hl⟩
theorem bd_autX (s t:Sys) (p:Aut):BdA 12 (zed (vpT s t p).code (vpT s t p).asm (vpT s t p).tr)∧(zem (vpT s t p).code (vpT s t p).asm (vpT s t p).tr).size≤4000:=by
 refine⟨?_,?_⟩
 ·unfold zed
  split
  ·exact zfU (vpT_asm s t p)
  ·exact zfU (.inr rfl)
 ·unfold zem
  split
  ·exact (zeM s t p).2
  ·exact Nat.zero_le _
theorem iface_and (s t:Sys) (p:Aut):∃ a:Nat,a<64∧bits .and .i64 (iface s p t) 63=(a:Int):=by
 rcases zce s t p with h|⟨L,h⟩
 ·rw [h];exact⟨63,by omega,by decide⟩
 ·rw [h]
  exact⟨L&&&63,by have:=Nat.and_le_right (n:=L) (m:=63);omega,zcK (by have:=zgc h;unfold Sm;omega) (by unfold Sm;decide)⟩
theorem sl_pairR {w:World} {R g n c k c2:Nat} {A C:Option Addr} {s t:Sys}(hb:Blk w g 43 #[.int .i64 s.al,.int .i64 s.st,.slice A n c,.int .i64 t.al,.int .i64 t.st,.slice C k c2])(hg:R<g)(h:zaT w R A n s)(h':zaT w R C k t):SLAt w (R+1) w.heap.size (some ⟨g,0,none⟩) 2 [s,t]:=by
 refine⟨rfl,[.int .i64 s.al,.int .i64 s.st,.slice A n c,.int .i64 t.al,.int .i64 t.st,.slice C k c2],⟨rfl,by omega,fun _=>⟨_,rfl,hg,hb.lt,fun j u hu=>?_⟩⟩,fun j u hu=>?_⟩
 ·rw [zP,Nat.zero_add,hb.cell]
  simpa using hu
 ·match j with
  |0 =>
   simp at hu;subst hu
   exact⟨A,n,c,rfl,rfl,rfl,h.at_⟩
  |1 =>
   simp at hu;subst hu
   exact⟨C,k,c2,rfl,rfl,rfl,h'.at_⟩
  |j+2=>simp at hu
theorem yJ10a7 {P:Prop}(h:P:=by
 go_wp2_with fail
 have cf:=f2.out.cell
 exact bodyPost_ret (v:=.agg #[.bool false,.int .i64 0,.slice none 0 0,.slice none 0 0,.string x]) (by simp [results,Tryz.results16,go_sem,cf]) rfl f1.out
 ):P:=h
theorem spec_l13Draw {R M L K n c k c2 m d m' d':Nat} {s t:Sys} {p:Aut} {A B B' C:Option Addr} {w:World}(h:zaZ w w R M L K s A n c t C k c2 p B m d B' m' d')(hM:M≤600000000)(hL:L≤100000) :
  Calls Tryz.prog 16 #[.pointer (some ⟨R,0,none⟩),.agg #[.int .i64 s.al,.int .i64 s.st,.slice A n c],.agg #[.int .i64 t.al,.int .i64 t.st,.slice C k c2],.agg #[.int .i64 p.al,.slice B m d,.slice B' m' d']] w (RetCe R (M+1000) 16 4000 w):=by
 have hRl:=h.hR
 have hx0:Ext w ((((w.alloc (.cells #[.int .i64 s.al,.int .i64 s.st,.slice A n c] 43)).alloc (.cells #[.int .i64 t.al,.int .i64 t.st,.slice C k c2] 43)).alloc (.cells #[.int .i64 p.al,.slice B m d,.slice B' m' d'] 26)).alloc (.cells #[.bool false,.int .i64 0,.slice none 0 0,.slice none 0 0,.string ⟨#[]⟩] 28)):=((((Ext.refl _).alloc _).alloc _).alloc _).alloc _
 obtain⟨b1,b2,b3⟩:=zN ((Ext.refl _).alloc _:Ext (((w.alloc (.cells #[.int .i64 s.al,.int .i64 s.st,.slice A n c] 43)).alloc (.cells #[.int .i64 t.al,.int .i64 t.st,.slice C k c2] 43)).alloc (.cells #[.int .i64 p.al,.slice B m d,.slice B' m' d'] 26)) ((((w.alloc (.cells #[.int .i64 s.al,.int .i64 s.st,.slice A n c] 43)).alloc (.cells #[.int .i64 t.al,.int .i64 t.st,.slice C k c2] 43)).alloc (.cells #[.int .i64 p.al,.slice B m d,.slice B' m' d'] 26)).alloc (.cells #[.bool false,.int .i64 0,.slice none 0 0,.slice none 0 0,.string ⟨#[]⟩] 28)))
 have bz:=Blk.new (((w.alloc (.cells #[.int .i64 s.al,.int .i64 s.st,.slice A n c] 43)).alloc (.cells #[.int .i64 t.al,.int .i64 t.st,.slice C k c2] 43)).alloc (.cells #[.int .i64 p.al,.slice B m d,.slice B' m' d'] 26)) 28 #[.bool false,.int .i64 0,.slice none 0 0,.slice none 0 0,.string ⟨#[]⟩]
 simp only [World.size_alloc] at bz
 go_enter Tryz.func16,Tryz.ntmps16
 go_upto_region 1 with fail
 generalize (((w.alloc (.cells #[.int .i64 s.al,.int .i64 s.st,.slice A n c] 43)).alloc (.cells #[.int .i64 t.al,.int .i64 t.st,.slice C k c2] 43)).alloc (.cells #[.int .i64 p.al,.slice B m d,.slice B' m' d'] 26)).alloc (.cells #[.bool false,.int .i64 0,.slice none 0 0,.slice none 0 0,.string ⟨#[]⟩] 28)=w0 at *
 have ht0:=h.ext hx0
 have hz0:=bz.lt
 have cS:=b1.cell
 have cT:=b2.cell
 have cP:=b3.cell
 obtain⟨vhd,hvhd⟩:∃ v,hdX (vpT s t p).code (vpT s t p).asm (vpT s t p).tr=v:=⟨_,rfl⟩
 obtain⟨vau,hvau⟩:∃ v,zed (vpT s t p).code (vpT s t p).asm (vpT s t p).tr=v:=⟨_,rfl⟩
 obtain⟨vst,hvst⟩:∃ v,zem (vpT s t p).code (vpT s t p).asm (vpT s t p).tr=v:=⟨_,rfl⟩
 obtain⟨vok,hvok⟩:∃ v,okC (vpT s t p).code (vpT s t p).asm (vpT s t p).tr=v:=⟨_,rfl⟩
 have hC:=za (zdY (c:=c) (d:=d) (d':=d') (c2:=c2) ht0.is.at_ ht0.ip.reads ht0.it.at_ (by have:=ht0.ns;omega) (Nat.le_refl _))
 have hbv:=za (bd_autX s t p)
 rw [hvhd,hvau,hvst,hvok] at hC
 rw [hvau,hvst] at hbv
 clear hvhd hvau hvst hvok
 go_upto_region 2 with (first
  |(go_at_call 38;refine (hC.out).mono ?_;rintro e w1 ⟨D,q,f,D',q',f',rfl,ho,hx1⟩;clear cS cT cP))
 have hw1:=hx1.size
 have hx2:=(Ext.refl w1).alloc (.cells #[.bool vhd,.int .i64 vau.al,.slice D q f,.slice D' q' f',.string vst] 28)
 have bc:=Blk.new w1 28 #[.bool vhd,.int .i64 vau.al,.slice D q f,.slice D' q' f',.string vst]
 have hRw0:=ht0.rd.lt
 have hce:zcs w (w1.alloc (.cells #[.bool vhd,.int .i64 vau.al,.slice D q f,.slice D' q' f',.string vst] 28)) R M 12 4000 vau D q f D' q' f' vst:=⟨(ho.ext hx2).less (by omega),hbv,(ht0.rd.ext hx1).ext hx2,((ht0.dr.ext hx1).ext hx2),hRl⟩
 have ht2:=(ht0.ext hx1).ext hx2
 have hb12:=hx1.trans hx2
 replace b1:=b1.ext hb12
 replace b2:=b2.ext hb12
 replace b3:=b3.ext hb12
 replace bz:=bz.ext hb12
 clear ho hx2 hb12 ht0 hC
 generalize hG:w1.heap.size=G at *
 generalize w1.alloc (.cells #[.bool vhd,.int .i64 vau.al,.slice D q f,.slice D' q' f',.string vst] 28)=w2 at *
 go_wp2_with fail
 refine (zr ht2.rd (by omega)).mono ?_
 rintro e w3 ⟨y,rfl,-,-,hr3,hd3⟩
 have ht3:=ht2.drawn hd3 hr3
 replace hce:=hce.drawn hd3 hr3
 have hR3:=ht3.rd.lt
 replace b1:=b1.dr hd3 (by omega)
 replace b2:=b2.dr hd3 (by omega)
 replace b3:=b3.dr hd3 (by omega)
 replace bz:=bz.dr hd3 (by omega)
 replace bc:=bc.dr hd3 (by omega)
 have hHG:=za (show w.heap.size+4≤G by omega)
 clear ht2 hd3 hr3 hx1 hG hw1 hz0 hRw0
 by_cases hy0:y=0
 ·subst hy0
  have cS:=b1.cell
  have cT:=b2.cell
  have cP:=b3.cell
  obtain⟨al,ha,hal⟩:=iface_and s t p
  go_wp2_with fail
  refine (zbw (c:=c) (d1:=d) (d1':=d') (c2:=c2) ht3.is.at_ ht3.ip.reads ht3.it.at_).mono ?_
  rintro e w4 ⟨rfl,hx4⟩
  generalize iface s p t=ifc at *
  clear cS cT cP
  go_wp2_with fail
  refine (zfe (ht3.rd.ext hx4) (by omega) ha).mono ?_
  rintro e w5 ⟨b,E,n5,c5,E',n5',c5',rfl,ho5,hg5,hr5,hd5⟩
  have hw4:=hx4.size
  have bz5:=(bz.ext hx4).dr hd5 (by omega)
  have hce5:zcs w w5 R (M+1+500) 16 0 b E n5 c5 E' n5' c5' ⟨#[]⟩:=⟨ho5.less (by omega),za ⟨BdA.of hg5.out,Nat.le_refl _⟩,hr5,(ht3.dr.ext hx4).trans hd5,hRl⟩
  obtain⟨f1,f2⟩:=(hce5.more (N:=M+1000) (H:=16) (I:=4000) (by omega) (by omega) (by omega)).fin (hd:=true) bz5 rfl (by omega)
  have cZ:=bz5.cell
  have fZ:=bz5.frozen
  clear bz5 hce5 ho5
  go_wp2_with fail
  have cf:=f2.out.cell
  exact bodyPost_ret (v:=.agg #[.bool true,.int .i64 b.al,.slice E n5 c5,.slice E' n5' c5',.string ⟨#[]⟩]) (by simp [results,Tryz.results16,go_sem,cf]) rfl f1.out
 by_cases hy1:y=1
 ·subst hy1
  have cS:=b1.cell
  have cT:=b2.cell
  go_upto_region 6 with fail
  have hx4:=(Ext.refl w3).alloc (.cells #[.int .i64 s.al,.int .i64 s.st,.slice A n c,.int .i64 t.al,.int .i64 t.st,.slice C k c2] 43)
  have bl:=Blk.new w3 43 #[.int .i64 s.al,.int .i64 s.st,.slice A n c,.int .i64 t.al,.int .i64 t.st,.slice C k c2]
  have hsl:=sl_pairR (R:=R) bl hR3 (ht3.is.ext hx4) (ht3.it.ext hx4)
  have ht4:=ht3.ext hx4
  replace bz:=bz.ext hx4
  have HT:=za (spec_l7Trace (c:=2) (q:=5) ht4.rd (by omega) hsl (by omega) (by omega))
  clear hsl bl
  go_wp2_with fail
  refine HT.out.mono ?_
  rintro e w5 ⟨x,rfl,hx,hr5,hd5⟩
  have hce5:zcs w w5 R (M+1+2*5+2) 0 5 autZ none 0 0 none 0 0 x:=⟨zgg _ _,za ⟨bd_autZ _,hx⟩,hr5,ht4.dr.trans hd5,hRl⟩
  have bz5:=bz.dr hd5 (by omega)
  obtain⟨f1,f2⟩:=(hce5.more (N:=M+1000) (H:=16) (I:=4000) (by omega) (by omega) (by omega)).fin (hd:=false) bz5 rfl (by omega)
  dsimp only [autZ] at f1 f2
  have cZ:=bz5.cell
  have fZ:=bz5.frozen
  clear bz5 hce5 cS cT
  exact yJ10a7
 by_cases hy2:y=2
 ·subst hy2
  go_wp2_with fail
  refine (spec_l1Word (a:=7) (q:=4) ht3.rd (by omega) (by omega) (by omega)).mono ?_
  rintro e w5 ⟨x,rfl,hx,hr5,hd5⟩
  have hce5:zcs w w5 R (M+1+4+2) 0 5 autZ none 0 0 none 0 0 x:=⟨zgg _ _,za ⟨bd_autZ _,by omega⟩,hr5,ht3.dr.trans hd5,hRl⟩
  have bz5:=bz.dr hd5 (by omega)
  obtain⟨f1,f2⟩:=(hce5.more (N:=M+1000) (H:=16) (I:=4000) (by omega) (by omega) (by omega)).fin (hd:=false) bz5 rfl (by omega)
  dsimp only [autZ] at f1 f2
  have cZ:=bz5.cell
  have fZ:=bz5.frozen
  clear bz5 hce5
  exact yJ10a7
 have h0:((y:Int)==0)=false:=by simp;omega
 have h1:((y:Int)==1)=false:=by simp;omega
 have h2:((y:Int)==2)=false:=by simp;omega
 clear b1 b2 b3 hy0 hy1 hy2 ht3
 go_upto_block 0 with fail
 go_cut [] (fun wx=>∃ (hd:Bool) (a:Aut) (B:Option Addr) (m d:Nat) (B':Option Addr) (m' d':Nat) (x:ByteArray),Blk wx G 28 #[.bool hd,.int .i64 a.al,.slice B m d,.slice B' m' d',.string x]∧Blk wx (w.heap.size+1+1+1) 28 #[.bool false,.int .i64 0,.slice none 0 0,.slice none 0 0,.string ⟨#[]⟩]∧zcs w wx R (M+1000) 16 4000 a B m d B' m' d' x)
 case first =>
  have cG:=bc.cell
  have fG:=bc.frozen
  have hGZ:G≠w.heap.size+1+1+1:=by have:=hHG.out;omega
  have hHG':=hHG.out
  by_cases hy3:y=3
  ·subst hy3
   cases vok
   ·go_wp2_with fail
    go_meet
    exact⟨_,_,_,_,_,_,_,_,_,bc,bz,hce.more (by omega) (by omega) (by omega)⟩
   ·cases vhd
    ·go_wp2_with fail
     go_meet
     exact⟨_,_,_,_,_,_,_,_,_,bc,bz,hce.more (by omega) (by omega) (by omega)⟩
    ·go_wp2_with fail
     refine (zdN hce.rd (by omega) hce.own hce.bd.out.1 (by omega)).mono ?_
     rintro e w5 ⟨b,E,n5,c5,E',n5',c5',rfl,ho5,hb5,hr5,hd5⟩
     have hce5:=hce.drawn hd5 hr5
     have bc5:=bc.dr hd5 (by omega)
     have bz5:=bz.dr hd5 (by omega)
     clear cG fG
     have cG:=bc5.cell
     have fG:=bc5.frozen
     have hf:Frm (fun k=>k=G) w5 (((w5.setCell ⟨G,1,none⟩ (.int .i64 b.al)).setCell ⟨G,2,none⟩ (.slice E n5 c5)).setCell ⟨G,3,none⟩ (.slice E' n5' c5')):=((Frm.setCell w5 G 1 _).trans (Frm.setCell _ G 2 _)).trans (Frm.setCell _ G 3 _)
     have hB:Blk (((w5.setCell ⟨G,1,none⟩ (.int .i64 b.al)).setCell ⟨G,2,none⟩ (.slice E n5 c5)).setCell ⟨G,3,none⟩ (.slice E' n5' c5')) G 28 #[.bool true,.int .i64 b.al,.slice E n5 c5,.slice E' n5' c5',.string vst]:=by
      simpa using ((bc5.set_ 1 (.int .i64 b.al)).set_ 2 (.slice E n5 c5)).set_ 3 (.slice E' n5' c5')
     have zgF:=(({ hce5 with own:=ho5.less (by omega),bd:=za ⟨hb5.out,hce.bd.out.2⟩ }:zcs w w5 R _ 13 4000 b E n5 c5 E' n5' c5' vst).far bc5 hf (by omega) (by decide)).more (N:=M+1000) (H:=16) (I:=4000) (by omega) (by omega) (by omega)
     have bz6:=bz5.frm hf (fun e=>hGZ e.symm)
     clear bc5 bz5 hf
     go_wp2_with fail
     go_meet
     exact⟨_,_,_,_,_,_,_,_,_,hB,bz6,zgF⟩
  ·have h3:((y:Int)==3)=false:=by simp;omega
   by_cases hy4:y=4
   ·subst hy4
    have hf:=Frm.setCell w3 G 0 (.bool (!vhd))
    have hB:Blk (w3.setCell ⟨G,0,none⟩ (.bool (!vhd))) G 28 #[.bool (!vhd),.int .i64 vau.al,.slice D q f,.slice D' q' f',.string vst]:=by
     simpa using bc.set_ 0 (.bool (!vhd))
    have zgF:=(hce.far bc hf (by omega) (by decide)).more (N:=M+1000) (H:=16) (I:=4000) (by omega) (by omega) (by omega)
    have bz6:=bz.frm hf (fun e=>hGZ e.symm)
    go_wp2_with fail
    go_meet
    exact⟨_,_,_,_,_,_,_,_,_,hB,bz6,zgF⟩
   ·have h4:((y:Int)==4)=false:=by simp;omega
    go_wp2_with fail
    go_meet
    exact⟨_,_,_,_,_,_,_,_,_,bc,bz,hce.more (by omega) (by omega) (by omega)⟩
 case rest =>
  clear hce bc bz
  obtain⟨hd,a,B,m,d,B',m',d',x,bc,bz,hce⟩:=hcut
  obtain⟨f1,f2⟩:=hce.fin (hd:=hd) bz rfl (by omega)
  have cG:=bc.cell
  have cZ:=bz.cell
  have fZ:=bz.frozen
  go_wp2_with fail
  have cf:=f2.out.cell
  exact bodyPost_ret (v:=.agg #[.bool hd,.int .i64 a.al,.slice B m d,.slice B' m' d',.string x]) (by simp [results,Tryz.results16,go_sem,cf]) rfl f1.out
theorem zdL {R M K J m d m' d':Nat} {a:Aut} {B B':Option Addr} {x:ByteArray} {hd:Bool} {w:World}(h:zcs w w R M K J a B m d B' m' d' x)(hM:M≤600000000)(hK:K≤60)(hJ:J≤5000) :
  Calls Tryz.prog 15 #[.pointer (some ⟨R,0,none⟩),.agg #[.bool hd,.int .i64 a.al,.slice B m d,.slice B' m' d',.string x]] w (RetCe R (M+100) (K+39) (J+1) w):=by
 have hRl:=h.hR
 obtain⟨b1,bz⟩:=zM (Ext.refl ((w.alloc (.cells #[.bool hd,.int .i64 a.al,.slice B m d,.slice B' m' d',.string x] 28)).alloc (.cells #[.bool false,.int .i64 0,.slice none 0 0,.slice none 0 0,.string ⟨#[]⟩] 28)))
 have hx0:Ext w ((w.alloc (.cells #[.bool hd,.int .i64 a.al,.slice B m d,.slice B' m' d',.string x] 28)).alloc (.cells #[.bool false,.int .i64 0,.slice none 0 0,.slice none 0 0,.string ⟨#[]⟩] 28)):=((Ext.refl w).alloc _).alloc _
 go_enter Tryz.func15,Tryz.ntmps15
 go_upto_region 1 with fail
 generalize (w.alloc (.cells #[.bool hd,.int .i64 a.al,.slice B m d,.slice B' m' d',.string x] 28)).alloc (.cells #[.bool false,.int .i64 0,.slice none 0 0,.slice none 0 0,.string ⟨#[]⟩] 28)=w0 at *
 have hce0:=h.ext hx0
 go_wp2_with fail
 refine (zr hce0.rd (by omega)).mono ?_
 rintro e w2 ⟨y,rfl,-,-,hr2,hd2⟩
 have hce:=hce0.drawn hd2 hr2
 have hsz:=hx0.size
 have hsz2:=hce.dr.size
 replace b1:=b1.dr hd2 (by omega)
 replace bz:=bz.dr hd2 (by omega)
 clear hce0 hd2 hr2 hx0 h
 go_upto_block 0 with fail
 go_cut [] (fun wx=>∃ (a:Aut) (B:Option Addr) (m d:Nat) (B':Option Addr) (m' d':Nat) (x:ByteArray),Blk wx w.heap.size 28 #[.bool hd,.int .i64 a.al,.slice B m d,.slice B' m' d',.string x]∧Blk wx (w.heap.size+1) 28 #[.bool false,.int .i64 0,.slice none 0 0,.slice none 0 0,.string ⟨#[]⟩]∧zcs w wx R (M+100) (K+39) (J+1) a B m d B' m' d' x)
 case first =>
  have cG:=b1.cell
  have hcases:y=0∨y=1∨y=2∨3≤y:=by omega
  rcases hcases with hy|hy|hy|hy
  ·subst hy
   have hy0:True:=trivial
   go_wp2_with fail
   refine (zay hce.rd (by omega) hce.own hce.bd.out.1 (by omega)).mono ?_
   rintro e v1 ⟨a1,A1,n1,d1,B1,m1,e1,rfl,ho1,hb1,hr1,hd1⟩
   have hce1:=hce.drawn hd1 hr1
   have hq1:=hce.rd.lt
   have hq2:=hce1.rd.lt
   clear cG
   go_wp2_with fail
   refine (zay hr1 (by omega) (ho1.less (by omega)) hb1.out (by omega)).mono ?_
   rintro e v2 ⟨a2,A2,n2,d2,B2,m2,e2,rfl,ho2,hb2,hr2,hd2⟩
   have hce2:=hce1.drawn hd2 hr2
   have hq3:=hce2.rd.lt
   go_wp2_with fail
   refine (zay hr2 (by omega) (ho2.less (by omega)) hb2.out (by omega)).mono ?_
   rintro e v3 ⟨a3,A3,n3,d3,B3,m3,e3,rfl,ho3,hb3,hr3,hd3⟩
   have hce3:=hce2.drawn hd3 hr3
   have bc5:=((b1.dr hd1 (by omega)).dr hd2 (by omega)).dr hd3 (by omega)
   have bz5:=((bz.dr hd1 (by omega)).dr hd2 (by omega)).dr hd3 (by omega)
   have cG:=bc5.cell
   have fG:=bc5.frozen
   have hf:Frm (fun k=>k=w.heap.size) v3 (((v3.setCell ⟨w.heap.size,1,none⟩ (.int .i64 a3.al)).setCell ⟨w.heap.size,2,none⟩ (.slice A3 n3 d3)).setCell ⟨w.heap.size,3,none⟩ (.slice B3 m3 e3)):=((Frm.setCell v3 w.heap.size 1 _).trans (Frm.setCell _ w.heap.size 2 _)).trans (Frm.setCell _ w.heap.size 3 _)
   have hB:Blk (((v3.setCell ⟨w.heap.size,1,none⟩ (.int .i64 a3.al)).setCell ⟨w.heap.size,2,none⟩ (.slice A3 n3 d3)).setCell ⟨w.heap.size,3,none⟩ (.slice B3 m3 e3)) w.heap.size 28 #[.bool hd,.int .i64 a3.al,.slice A3 n3 d3,.slice B3 m3 e3,.string x]:=by
    simpa using ((bc5.set_ 1 (.int .i64 a3.al)).set_ 2 (.slice A3 n3 d3)).set_ 3 (.slice B3 m3 e3)
   have zgF:=(({ hce3 with own:=ho3.less (by omega),bd:=za ⟨hb3.out,hce.bd.out.2⟩ }:zcs w v3 R _ (K+13+13+13) J a3 A3 n3 d3 B3 m3 e3 x).far bc5 hf (by omega) (by decide)).more (N:=M+100) (H:=K+39) (I:=J+1) (by omega) (by omega) (by omega)
   have bz6:=bz5.frm hf (by omega)
   clear bc5 bz5 hf
   go_wp2_with fail
   go_meet
   exact⟨_,_,_,_,_,_,_,_,hB,bz6,zgF⟩
  ·subst hy
   have hy0:True:=trivial
   have hxs:=hce.bd.out.2
   have hKle:K≤K+39:=by omega
   generalize hK9:K+39=K9 at *
   have cG':∀ W,Dr R w2 W→∀ q,W.cell? ⟨w.heap.size,q,none⟩=#[Value.bool hd,.int .i64 a.al,.slice B m d,.slice B' m' d',.string x][q]?:=fun W hW=>(b1.dr hW (by omega)).cell
   clear cG
   go_wp2_with fail
   refine tR (fun X=>Dr R w2 X) [7] (Ord.of [0,1,2,3,4,5,6,7]) ?_
   refine tQ ?_
   refine zu fun K hK=>?_;go_simp
   refine hK.out _ _ ((Dr.refl R w2).drew.alloc _) ?_
   refine pT ?_
   refine zu fun K hK=>?_;go_simp
   have hxd:=(Ext.refl w2).drew
   have zgC:=zaC w2.drew (us:=#[.string ⟨#[103]⟩,.string ⟨#[97]⟩,.string ⟨#[45]⟩]) (n:=3) rfl rfl (by omega)
   have hq1:=hce.rd.lt
   refine (zge ((hce.rd.ext hxd).ext ((Ext.refl _).alloc _)) (by omega) (Reads.of_own zgC) (by show R<w2.drew.heap.size;exact hq1) (by omega)).mono ?_
   rintro e w4 ⟨u,hu,rfl,hr4,hd4⟩
   have hd24:Dr R w2 w4:=((Dr.refl R w2).drew.alloc _).trans hd4
   have hus:u.size≤1:=by
    simp [zfB] at hu
    rcases hu with rfl|rfl|rfl<;>decide
   have hxu:¬ (9223372036854775807<x.size+u.size):=by omega
   refine hK.out _ _ hd24 ?_
   refine pT ?_
   refine tQ ?_
   have hce4:=hce.drawn hd24 hr4
   have bc5:=b1.dr hd24 (by omega)
   have bz5:=bz.dr hd24 (by omega)
   have fG:=bc5.frozen
   have hf:=Frm.setCell w4 w.heap.size 4 (.string (x++u))
   have hB:Blk (w4.setCell ⟨w.heap.size,4,none⟩ (.string (x++u))) w.heap.size 28 #[.bool hd,.int .i64 a.al,.slice B m d,.slice B' m' d',.string (x++u)]:=by
    simpa using bc5.set_ 4 (.string (x++u))
   have zgF:=(({ hce4 with bd:=za ⟨hce.bd.out.1,by rw [ByteArray.size_append];omega⟩ }:zcs w w4 R _ _ (J+1) a B m d B' m' d' (x++u)).far bc5 hf (by omega) (by decide)).more (N:=M+100) (H:=K9) (I:=J+1) (by omega) hKle (by omega)
   have bz6:=bz5.frm hf (by omega)
   refine zF fun K hK=>?_
   go_simp
   refine hK.out _ _ ?_
   refine zR ?_
   clear bc5 bz5 hf
   go_wp2_with fail
   go_meet
   exact⟨_,_,_,_,_,_,_,_,hB,bz6,zgF⟩
  ·subst hy
   have hy0:True:=trivial
   have fG:=b1.frozen
   have hf:Frm (fun k=>k=w.heap.size) w2 (((w2.setCell ⟨w.heap.size,1,none⟩ (.int .i64 1)).setCell ⟨w.heap.size,2,none⟩ (.slice none 0 0)).setCell ⟨w.heap.size,3,none⟩ (.slice none 0 0)):=((Frm.setCell w2 w.heap.size 1 _).trans (Frm.setCell _ w.heap.size 2 _)).trans (Frm.setCell _ w.heap.size 3 _)
   have hB:Blk (((w2.setCell ⟨w.heap.size,1,none⟩ (.int .i64 1)).setCell ⟨w.heap.size,2,none⟩ (.slice none 0 0)).setCell ⟨w.heap.size,3,none⟩ (.slice none 0 0)) w.heap.size 28 #[.bool hd,.int .i64 (⟨1,[],[]⟩:Aut).al,.slice none 0 0,.slice none 0 0,.string x]:=by
    simpa using ((b1.set_ 1 (.int .i64 1)).set_ 2 (.slice none 0 0)).set_ 3 (.slice none 0 0)
   have zgF:=(({ hce with own:=⟨⟨[],World.ownsRow_nil _ _ _ _,zB.nil _ _⟩,rfl,World.ownsRow_nil _ _ _ _,rfl⟩,bd:=za ⟨⟨Nat.zero_le _,Nat.zero_le _,fun l hl=>by simp at hl⟩,hce.bd.out.2⟩ }:zcs w w2 R _ K J ⟨1,[],[]⟩ none 0 0 none 0 0 x).far b1 hf (by omega) (by decide)).more (N:=M+100) (H:=K+39) (I:=J+1) (by omega) (by omega) (by omega)
   have bz6:=bz.frm hf (by omega)
   go_wp2_with fail
   go_meet
   exact⟨_,_,_,_,_,_,_,_,hB,bz6,zgF⟩
  ·have h0:((y:Int)==0)=false:=by simp;omega
   have h1:((y:Int)==1)=false:=by simp;omega
   have h2:((y:Int)==2)=false:=by simp;omega
   go_wp2_with fail
   go_meet
   exact⟨_,_,_,_,_,_,_,_,b1,bz,hce.more (by omega) (by omega) (by omega)⟩
 case rest =>
  clear hce b1 bz hsz2
  obtain⟨a,B,m,d,B',m',d',x,bc,bz,hce⟩:=hcut
  obtain⟨f1,f2⟩:=hce.fin (hd:=hd) bz rfl (by omega)
  have cG:=bc.cell
  have cZ:=bz.cell
  have fZ:=bz.frozen
  go_wp2_with fail
  have cf:=f2.out.cell
  exact bodyPost_ret (v:=.agg #[.bool hd,.int .i64 a.al,.slice B m d,.slice B' m' d',.string x]) (by simp [results,Tryz.results15,go_sem,cf]) rfl f1.out
theorem zO.at_new {w:World} {base lo:Nat} {A:Option Addr} {n c:Nat} {A':Option Addr} {n' c':Nat} {a:Aut}(h:zO w base A n c A' n' c' a)(hl:lo≤base):zI w lo w.heap.size A n A' n' a:=(h.less hl).reads
def RetDV (w:World) (e:Ending) (w':World):Prop:=
 ∃ (hd:Bool) (a:Aut) (D:Option Addr) (q f:Nat) (D':Option Addr) (q' f':Nat) (x:ByteArray),e=.returned (.agg #[.bool hd,.int .i64 a.al,.slice D q f,.slice D' q' f',.string x])∧zI w' w.heap.size w'.heap.size D q D' q' a∧Hid (BdA 100 a∧x.size≤5000)∧Ext w w'
theorem draw_dv {R N H J q f q' f':Nat} {a:Aut} {D D':Option Addr} {x:ByteArray} {w w1 W W':World} {S:Nat→Prop}(hx:Ext w w1)(hR:w.heap.size≤R)(hC:zcs w1 W R N H J a D q f D' q' f' x)
  (hF:Frm S W W') (hS:∀ k,S k→w.heap.size≤k∧k<R) (hH:H≤100) (hJ:J≤5000):zI W' w.heap.size W'.heap.size D q D' q' a∧Hid (BdA 100 a∧x.size≤5000)∧Ext w W':=by
 have hxW:Ext w W:=Dr.new hx hR hC.dr
 have i4:=hC.own.keep hF (fun k h1 hk=>by have:=hS k hk;omega)
 exact⟨i4.at_new (by omega),za ⟨BdL.more hC.bd.out.1 hH,Nat.le_trans hC.bd.out.2 hJ⟩,hxW.frm hF (fun k hk hk2=>by have:=hS k hk2;omega)⟩
theorem zfv {A0:Option Addr} {n0 c0:Nat} {w:World}(h:Bytes w A0 n0)(hn:n0≤9223372036854775807)(hc:n0≤c0)(hc2:c0≤9223372036854775807) :
  Calls Tryz.prog 5 #[.slice A0 n0 c0] w (RetDV w):=by
 have hx0:Ext w (w.alloc (.cells #[.bool false,.int .i64 0,.slice none 0 0,.slice none 0 0,.string ⟨#[]⟩] 28)):=(Ext.refl _).alloc _
 have z4:=Blk.new w 28 #[.bool false,.int .i64 0,.slice none 0 0,.slice none 0 0,.string ⟨#[]⟩]
 have hsz:(w.alloc (.cells #[.bool false,.int .i64 0,.slice none 0 0,.slice none 0 0,.string ⟨#[]⟩] 28)).heap.size=w.heap.size+1:=by simp
 have hh:=za (h.ext hx0)
 clear h
 go_enter Tryz.func5,Tryz.ntmps5
 go_upto_region 1 with fail
 generalize w.alloc (.cells #[.bool false,.int .i64 0,.slice none 0 0,.slice none 0 0,.string ⟨#[]⟩] 28)=w0 at *
 go_wp2_with fail
 refine (zej hh.out hn hc hc2).mono ?_
 rintro e w1 ⟨R,rfl,hR,hr1,hx1⟩
 have hx01:=hx0.trans hx1
 have hRl:=hr1.lt
 replace z4:=z4.ext hx1
 go_upto_region 3 with (first
  |(go_at_call 14;refine (zei hr1 (by omega)).mono ?_;rintro e w2 ⟨s,A,n,c,t,C,k,c2,p,B,m,d,B',m',d',rfl,ht⟩))
 have hx2:Ext w2 (((w2.alloc (.cells #[.int .i64 s.al,.int .i64 s.st,.slice A n c] 43)).alloc (.cells #[.int .i64 t.al,.int .i64 t.st,.slice C k c2] 43)).alloc (.cells #[.int .i64 p.al,.slice B m d,.slice B' m' d'] 26)):=(((Ext.refl _).alloc _).alloc _).alloc _
 obtain⟨b1,b2,b3⟩:=zN (Ext.refl (((w2.alloc (.cells #[.int .i64 s.al,.int .i64 s.st,.slice A n c] 43)).alloc (.cells #[.int .i64 t.al,.int .i64 t.st,.slice C k c2] 43)).alloc (.cells #[.int .i64 p.al,.slice B m d,.slice B' m' d'] 26)))
 have hw2:=ht.dr.size
 replace z4:=(z4.dr ht.dr (by omega)).ext hx2
 have ht2:=ht.ext hx2
 clear ht hx2
 generalize w2.heap.size=G at *
 generalize ((w2.alloc (.cells #[.int .i64 s.al,.int .i64 s.st,.slice A n c] 43)).alloc (.cells #[.int .i64 t.al,.int .i64 t.st,.slice C k c2] 43)).alloc (.cells #[.int .i64 p.al,.slice B m d,.slice B' m' d'] 26)=w3 at *
 have cS:=b1.cell
 have cT:=b2.cell
 have cP:=b3.cell
 have HD:=za (spec_l13Draw ht2.own (by omega) (by omega))
 go_upto_region 99 with fail
 refine HD.out.mono ?_
 rintro e w4 ⟨hd4,a4,D4,q4,f4,D4',q4',f4',x4,rfl,hc4⟩
 clear cS cT cP
 go_upto_region 99 with fail
 refine (zdL (hd:=hd4) ({ hc4 with dr:=Dr.refl _ _,hR:=hc4.rd.lt }:zcs w4 w4 R _ 16 4000 a4 D4 q4 f4 D4' q4' f4' x4) (by omega) (by omega) (by omega)).mono ?_
 rintro e w5 ⟨hd5,a5,D5,q5,f5,D5',q5',f5',x5,rfl,hc5⟩
 go_upto_region 99 with fail
 refine (zdL (hd:=hd5) ({ hc5 with dr:=Dr.refl _ _,hR:=hc5.rd.lt }:zcs w5 w5 R _ 55 4001 a5 D5 q5 f5 D5' q5' f5' x5) (by omega) (by omega) (by omega)).mono ?_
 rintro e w6 ⟨hd,a,D,q,f,D',q',f',x,rfl,hc6⟩
 have hce:=((hc6.less hc5.dr hc5.hR).less hc4.dr hc4.hR).less ht2.dr hRl
 replace z4:=((z4.dr hc4.dr (by omega)).dr hc5.dr (by omega)).dr hc6.dr (by omega)
 clear hc4 hc5 hc6 HD b1 b2 b3 ht2
 have k1:=z4.cell
 have g1:=z4.frozen
 have r4:=zE z4 rfl (.bool hd) (.int .i64 a.al) (.slice D q f) (.slice D' q' f') (.string x)
 have e1:=zD w6 w.heap.size (.bool hd) (.int .i64 a.al) (.slice D q f) (.slice D' q' f') (.string x)
 have zgF:=za (draw_dv hx01 (by omega) hce e1 (fun k hk=>by have hk':k=w.heap.size:=hk;omega) (by omega) (by omega))
 clear z4 e1 hce
 go_wp2_with fail
 have c4:=r4.cell
 exact bodyPost_ret (v:=.agg #[.bool hd,.int .i64 a.al,.slice D q f,.slice D' q' f',.string x]) (by simp [results,Tryz.results5,go_sem,c4]) rfl ⟨hd,a,D,q,f,D',q',f',x,rfl,zgF.out⟩
theorem cert_forms {hd:Bool} {a:Aut} {x:ByteArray}(h:zC hd a x=true):zC (!hd) a x=false∧hd=decide (0<a.next.length):=by
 have h1:zk a=true→0<a.next.length:=by
  intro h
  simp only [zk,Bool.and_eq_true,decide_eq_true_eq] at h
  omega
 have h2:zbQ a=true→a.next.length=0:=by
  intro h
  simp only [zbQ,Bool.and_eq_true,decide_eq_true_eq] at h
  exact h.2.1
 cases hd
 ·simp only [zC,Bool.false_eq_true,if_false,Bool.and_eq_true] at h
  have h3:=h2 h.1
  refine⟨?_,by simp [h3]⟩
  simp only [zC,Bool.not_false,if_true]
  cases hv:zk a
  ·rfl
  ·have:=h1 hv;omega
 ·simp only [zC,if_true,Bool.and_eq_true] at h
  have h3:=h1 h.1
  refine⟨?_,by simp [h3]⟩
  simp only [zC,Bool.not_true,Bool.false_eq_true,if_false]
  cases hv:zbQ a
  ·rfl
  ·have:=h2 hv;omega
theorem cert_of {cd:Int} {a:Aut} {x:ByteArray}(h:okC cd a x=true):zC (hdX cd a x) (zed cd a x) (zem cd a x)=true∧hdX cd a x=(cd==0)∧zem cd a x=x∧zed cd a x=a∧(hdX cd a x=true∨cd=1):=by
 have hx:hdX cd a x=decide (cd=0):=by unfold hdX;rw [h,Bool.true_and]
 have ha:zed cd a x=a:=by unfold zed;rw [if_pos h]
 have hs:zem cd a x=x:=by unfold zem;rw [if_pos h]
 have h':=h
 simp only [okC,Bool.and_eq_true,Bool.or_eq_true,decide_eq_true_eq] at h'
 refine⟨by rw [hx,ha,hs];exact h'.2,by rw [hx];rfl,hs,ha,?_⟩
 rcases h'.1 with h1|h1
 ·exact .inl (by rw [hx];simpa using h1)
 ·exact .inr h1
end Go.Proofs.YtfcjhpodichpjaaGreat
namespace Go.Proofs.YtfcjhpodichpjaaGreat
open Go Go.ChangeShapes Go.WideShapes Go.ChangeAt Go.RowKit Go.Deep
def BytesAt (w:World) (A:Option Addr) (n c:Nat):Prop:=Bytes w A n∧n≤9223372036854775807∧n≤c∧c≤9223372036854775807
theorem arg_bytes {H:Type} {enc:TypeId × Value→H} {w:World} {spare:Nat→Bool} {held:Bool} {r:Reach} {b0:Nat} {v:Value} {d:DataW H} {p:List MemPlace}(hv:Value.okWide Tryz.prog w r b0 22 v)(h:DataW.Trod enc Tryz.prog w 0 spare held 22 v d p) :
  ∃ (A:Option Addr) (n c:Nat),v=.slice A n c∧BytesAt w A n c:=by
 obtain⟨a,l,k,rfl⟩:=okWide_slice Tryz.underlying22 hv
 obtain⟨fuel,hf⟩:=h
 rcases open_slice1 Tryz.underlying22 (by kernel_rfl) hf with ⟨h0,_⟩|⟨ad,len,cap,m,n,V,D,Pl,h0,hb,hl,hm,hmm,_,hx⟩
 ·simp [Value.cells] at h0
  obtain⟨rfl,rfl,rfl⟩:=h0
  exact⟨_,_,_,rfl,fun h=>absurd h (by omega),by omega,Nat.le_refl _,by omega⟩
 ·simp [Value.cells] at h0
  obtain⟨rfl,rfl,rfl⟩:=h0
  unfold maxLen at hm
  have hlm:l≤m:=by rw [hmm];split<;>omega
  refine⟨_,_,_,rfl,fun hn=>?_,by omega,hl,by omega⟩
  have h1:=(hx 0 (by omega)).1
  have hs:=zcv h1
  have hlt:=World.block_lt_of_cell? w _ h1
  rw [zfE] at hlt
  refine⟨ad.block,ad.off,by rw [← hs],hlt,fun j hj=>?_⟩
  obtain⟨h2,h3⟩:=hx j (by omega)
  obtain⟨b,hb1,_,hb3⟩:=DataW.trod_int Tryz.underlying5 h3
  have hV:V j=.int .u8 b:=by simpa using hb1
  rw [hV,hs,zP] at h2
  have hw:0≤b∧b<256:=by
   simp only [Lit.wf,Bool.and_eq_true,decide_eq_true_eq] at hb3
   have h4:IntKind.u8.min=0:=rfl
   have h5:IntKind.u8.max=255:=rfl
   omega
  refine⟨b.toNat,by omega,?_⟩
  rw [h2]
  have:((b.toNat:Nat):Int)=b:=by omega
  rw [this]
end Go.Proofs.YtfcjhpodichpjaaGreat
namespace Go.Proofs.YtfcjhpodichpjaaGreat
open Go Go.RowKit
theorem spec_l12Any {R M:Nat} {w:World}(h:Rd w R M)(hM:M≤400000000) :
  Calls Tryz.prog 22 #[.pointer (some ⟨R,0,none⟩)] w (RetSTP R (M+200100) 30003 89 w):=by
 have hRl:=h.lt
 have hx0:Ext w (((w.alloc (.cells #[.int .i64 0,.int .i64 0,.slice none 0 0] 43)).alloc (.cells #[.int .i64 0,.int .i64 0,.slice none 0 0] 43)).alloc (.cells #[.int .i64 0,.slice none 0 0,.slice none 0 0] 26)):=(((Ext.refl _).alloc _).alloc _).alloc _
 obtain⟨z1,z2,z3⟩:=zN (Ext.refl (((w.alloc (.cells #[.int .i64 0,.int .i64 0,.slice none 0 0] 43)).alloc (.cells #[.int .i64 0,.int .i64 0,.slice none 0 0] 43)).alloc (.cells #[.int .i64 0,.slice none 0 0,.slice none 0 0] 26)))
 have hsz:(((w.alloc (.cells #[.int .i64 0,.int .i64 0,.slice none 0 0] 43)).alloc (.cells #[.int .i64 0,.int .i64 0,.slice none 0 0] 43)).alloc (.cells #[.int .i64 0,.slice none 0 0,.slice none 0 0] 26)).heap.size=w.heap.size+3:=by simp
 go_enter Tryz.func22,Tryz.ntmps22
 go_upto_region 1 with fail
 generalize ((w.alloc (.cells #[.int .i64 0,.int .i64 0,.slice none 0 0] 43)).alloc (.cells #[.int .i64 0,.int .i64 0,.slice none 0 0] 43)).alloc (.cells #[.int .i64 0,.slice none 0 0,.slice none 0 0] 26)=w0 at *
 go_upto_region 2 with (first
  |(go_at_call 14;refine (zei (h.ext hx0) (by omega)).mono ?_;rintro e w1 ⟨s,A,n,c,t,C,k,c2,p,B,m,d,B',m',d',rfl,ht⟩))
 have hx1:Ext w1 (((w1.alloc (.cells #[.int .i64 s.al,.int .i64 s.st,.slice A n c] 43)).alloc (.cells #[.int .i64 t.al,.int .i64 t.st,.slice C k c2] 43)).alloc (.cells #[.int .i64 p.al,.slice B m d,.slice B' m' d'] 26)):=(((Ext.refl _).alloc _).alloc _).alloc _
 obtain⟨b1,b2,b3⟩:=zN (Ext.refl (((w1.alloc (.cells #[.int .i64 s.al,.int .i64 s.st,.slice A n c] 43)).alloc (.cells #[.int .i64 t.al,.int .i64 t.st,.slice C k c2] 43)).alloc (.cells #[.int .i64 p.al,.slice B m d,.slice B' m' d'] 26)))
 have hw1:=ht.dr.size
 have zz:=za (And.intro ((z1.dr ht.dr (by omega)).ext hx1) (And.intro ((z2.dr ht.dr (by omega)).ext hx1) ((z3.dr ht.dr (by omega)).ext hx1)))
 have ht2:=(ht.less hx0.dr hRl).ext hx1
 have hsz2:(((w1.alloc (.cells #[.int .i64 s.al,.int .i64 s.st,.slice A n c] 43)).alloc (.cells #[.int .i64 t.al,.int .i64 t.st,.slice C k c2] 43)).alloc (.cells #[.int .i64 p.al,.slice B m d,.slice B' m' d'] 26)).heap.size=w1.heap.size+3:=by simp
 have hGw:w.heap.size+3≤w1.heap.size:=by omega
 clear ht hx1 z1 z2 z3 hx0
 generalize hG:w1.heap.size=G at *
 generalize ((w1.alloc (.cells #[.int .i64 s.al,.int .i64 s.st,.slice A n c] 43)).alloc (.cells #[.int .i64 t.al,.int .i64 t.st,.slice C k c2] 43)).alloc (.cells #[.int .i64 p.al,.slice B m d,.slice B' m' d'] 26)=w2 at *
 clear hG
 have cS:=b1.cell
 have cT:=b2.cell
 have cP:=b3.cell
 have HS:=za (spec_l9Spoil ht2.own (by omega) (by omega) (by omega))
 go_wp2_with fail
 refine HS.out.mono ?_
 rintro e w7 ⟨s7,A7,n7,c7,t7,C7,k7,d7,p7,B7,m7,e7,B7',m7',e7',rfl,ht7⟩
 have hR6:=ht2.rd.lt
 have hdw:=ht7.dr
 have ht8:=ht7.less ht2.dr hRl
 replace b1:=b1.dr hdw (by omega)
 replace b2:=b2.dr hdw (by omega)
 replace b3:=b3.dr hdw (by omega)
 obtain⟨z1,z2,z3⟩:=zz.out
 replace zz:=za (And.intro (z1.dr hdw (by omega)) (And.intro (z2.dr hdw (by omega)) (z3.dr hdw (by omega))))
 clear ht2 ht7 hdw z1 z2 z3 HS cS cT cP
 have cS:=b1.cell
 have fS:=b1.frozen
 have cT:=b2.cell
 have fT:=b2.frozen
 have cP:=b3.cell
 have fP:=b3.frozen
 go_upto_region 3 with fail
 have e1:=zT w7 G (.int .i64 s7.al) (.int .i64 s7.st) (.slice A7 n7 c7)
 have q1:=zah b1 rfl (.int .i64 s7.al) (.int .i64 s7.st) (.slice A7 n7 c7)
 replace ht8:=ht8.far b1 e1 (by omega) (by decide) (by decide)
 replace b2:=b2.frm e1 (by omega)
 replace b3:=b3.frm e1 (by omega)
 obtain⟨z1,z2,z3⟩:=zz.out
 replace z1:=z1.frm e1 (by omega)
 replace z2:=z2.frm e1 (by omega)
 replace z3:=z3.frm e1 (by omega)
 clear zz e1 b1 cS fS cT fT cP fP
 generalize ((w7.setCell ⟨G,0,none⟩ (.int .i64 s7.al)).setCell ⟨G,1,none⟩ (.int .i64 s7.st)).setCell ⟨G,2,none⟩ (.slice A7 n7 c7)=w8 at *
 have e1:=zT w8 (G+1+1) (.int .i64 p7.al) (.slice B7 m7 e7) (.slice B7' m7' e7')
 have q3:=zah b3 rfl (.int .i64 p7.al) (.slice B7 m7 e7) (.slice B7' m7' e7')
 replace ht8:=ht8.far b3 e1 (by omega) (by decide) (by decide)
 replace b2:=b2.frm e1 (by omega)
 replace q1:=q1.frm e1 (by omega)
 replace z1:=z1.frm e1 (by omega)
 replace z2:=z2.frm e1 (by omega)
 replace z3:=z3.frm e1 (by omega)
 clear e1 b3
 generalize ((w8.setCell ⟨G+1+1,0,none⟩ (.int .i64 p7.al)).setCell ⟨G+1+1,1,none⟩ (.slice B7 m7 e7)).setCell ⟨G+1+1,2,none⟩ (.slice B7' m7' e7')=w9 at *
 have e1:=zT w9 (G+1) (.int .i64 t7.al) (.int .i64 t7.st) (.slice C7 k7 d7)
 have q2:=zah b2 rfl (.int .i64 t7.al) (.int .i64 t7.st) (.slice C7 k7 d7)
 replace ht8:=ht8.far b2 e1 (by omega) (by decide) (by decide)
 replace q1:=q1.frm e1 (by omega)
 replace q3:=q3.frm e1 (by omega)
 replace z1:=z1.frm e1 (by omega)
 replace z2:=z2.frm e1 (by omega)
 replace z3:=z3.frm e1 (by omega)
 clear e1 b2
 generalize ((w9.setCell ⟨G+1,0,none⟩ (.int .i64 t7.al)).setCell ⟨G+1,1,none⟩ (.int .i64 t7.st)).setCell ⟨G+1,2,none⟩ (.slice C7 k7 d7)=wE at *
 have hord:Hid (w.heap.size+3≤G):=za hGw
 have cS:∀ W,Frm (fun k=>k=w.heap.size∨k=w.heap.size+1) wE W→∀ q,W.cell? ⟨G,q,none⟩=#[Value.int .i64 s7.al,.int .i64 s7.st,.slice A7 n7 c7][q]?:=fun W hW=>(q1.frm hW (by have:=hord.out;omega)).cell
 have cT:∀ W,Frm (fun k=>k=w.heap.size∨k=w.heap.size+1) wE W→∀ q,W.cell? ⟨G+1,q,none⟩=#[Value.int .i64 t7.al,.int .i64 t7.st,.slice C7 k7 d7][q]?:=fun W hW=>(q2.frm hW (by have:=hord.out;omega)).cell
 have cP:∀ W,Frm (fun k=>k=w.heap.size∨k=w.heap.size+1) wE W→∀ q,W.cell? ⟨G+1+1,q,none⟩=#[Value.int .i64 p7.al,.slice B7 m7 e7,.slice B7' m7' e7'][q]?:=fun W hW=>(q3.frm hW (by have:=hord.out;omega)).cell
 have hS0:Frm (fun k=>k=w.heap.size∨k=w.heap.size+1) wE wE.drew:=(Ext.refl wE).drew.toFrm
 have ha:=ht8.ext (Ext.refl wE).drew
 have zs:=z1.ext (Ext.refl wE).drew
 have zt:=z2.ext (Ext.refl wE).drew
 have zp:=z3.ext (Ext.refl wE).drew
 clear q1 q2 q3 z1 z2 z3 ht8
 go_wp2_with fail
 refine tR (fun X=>Frm (fun k=>k=w.heap.size∨k=w.heap.size+1) wE X) [5] (Ord.of [0,1,2,3,4,5]) ?_
 refine tQ ?_
 generalize hwD:wE.drew=wD at *
 clear hwD
 have cs:=zs.cell
 have fs:=zs.frozen
 refine zu fun K hK=>?_;go_simp
 have q1:=zah zs rfl (.int .i64 s7.al) (.int .i64 s7.st) (.slice A7 n7 c7)
 have e1:=zT wD w.heap.size (.int .i64 s7.al) (.int .i64 s7.st) (.slice A7 n7 c7)
 replace ha:=ha.far zs e1 (by omega) (by decide) (by decide)
 replace zt:=zt.frm e1 (by omega)
 replace zp:=zp.frm e1 (by omega)
 have hS8:=hS0.trans (e1.mono (T:=fun k=>k=w.heap.size∨k=w.heap.size+1) (fun k _ hk=>.inl hk))
 refine hK.out _ _ hS8 ?_
 refine pT ?_
 clear cs fs zs e1
 generalize ((wD.setCell ⟨w.heap.size,0,none⟩ (.int .i64 s7.al)).setCell ⟨w.heap.size,1,none⟩ (.int .i64 s7.st)).setCell ⟨w.heap.size,2,none⟩ (.slice A7 n7 c7)=wA at *
 have ct:=zt.cell
 have ft:=zt.frozen
 refine zu fun K hK=>?_;go_simp
 have q2:=zah zt rfl (.int .i64 t7.al) (.int .i64 t7.st) (.slice C7 k7 d7)
 have e2:=zT wA (w.heap.size+1) (.int .i64 t7.al) (.int .i64 t7.st) (.slice C7 k7 d7)
 replace ha:=ha.far zt e2 (by omega) (by decide) (by decide)
 replace zp:=zp.frm e2 (by omega)
 replace q1:=q1.frm e2 (by omega)
 have hS9:=hS8.trans (e2.mono (T:=fun k=>k=w.heap.size∨k=w.heap.size+1) (fun k _ hk=>.inr hk))
 refine hK.out _ _ hS9 ?_
 refine pT ?_
 clear ct ft zt e2 hS8
 generalize ((wA.setCell ⟨w.heap.size+1,0,none⟩ (.int .i64 t7.al)).setCell ⟨w.heap.size+1,1,none⟩ (.int .i64 t7.st)).setCell ⟨w.heap.size+1,2,none⟩ (.slice C7 k7 d7)=wB at *
 have cp:=zp.cell
 have fp:=zp.frozen
 refine zF fun K hK=>?_
 go_simp
 have q3:=zah zp rfl (.int .i64 p7.al) (.slice B7 m7 e7) (.slice B7' m7' e7')
 have e3:=zT wB (w.heap.size+1+1) (.int .i64 p7.al) (.slice B7 m7 e7) (.slice B7' m7' e7')
 replace ha:=ha.far zp e3 (by omega) (by decide) (by decide)
 replace q1:=q1.frm e3 (by omega)
 replace q2:=q2.frm e3 (by omega)
 refine hK.out _ _ ?_
 refine zR ?_
 clear cp fp zp e3 hS9 hS0 cS cT cP
 generalize ((wB.setCell ⟨w.heap.size+1+1,0,none⟩ (.int .i64 p7.al)).setCell ⟨w.heap.size+1+1,1,none⟩ (.slice B7 m7 e7)).setCell ⟨w.heap.size+1+1,2,none⟩ (.slice B7' m7' e7')=wC at *
 have ha':=za ha
 clear ha
 go_wp2_with fail
 have c1:=q1.cell
 have cc2:=q2.cell
 have c3:=q3.cell
 exact bodyPost_ret (v:=.tuple #[.agg #[.int .i64 s7.al,.int .i64 s7.st,.slice A7 n7 c7],.agg #[.int .i64 t7.al,.int .i64 t7.st,.slice C7 k7 d7],.agg #[.int .i64 p7.al,.slice B7 m7 e7,.slice B7' m7' e7']]) (by simp [results,Tryz.results22,go_sem,c1,cc2,c3]) rfl ⟨s7,A7,n7,c7,t7,C7,k7,d7,p7,B7,m7,e7,B7',m7',e7',rfl,ha'.out⟩
end Go.Proofs.YtfcjhpodichpjaaGreat
