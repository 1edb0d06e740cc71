/- The referenc -/
import Derived.Test.YtcfchopfijalpaaGreatDoorC11
import Derived.Test.YtcfchopfijalpaaGreatDoorC07
import Derived.Test.YtcfchopfijalpaaGreatDoorC02
import Derived.Test.YtcfchopfijalpaaGreatDoorC01
import Derived.Test.YtcfchopfijalpaaGreatDoorC08
import Derived.Test.YtcfchopfijalpaaGreatDoorC10
import Derived.Test.YtcfchopfijalpaaGreatDoorC04
set_option maxHeartbeats 4000000
set_option maxRecDepth 100000
namespace Go.Proofs.YtcfchopfijalpaaGreatDoor
open Go Go.RowKit
noncomputable def zaU (s:Sys) (p:Aut) (t:Sys) (L:Nat) (a:Aut):ByteArray × Int:=
 if zci s a p=true then (zby (zbl s a p) L,-1)
 else if zbD [t] a=true then (zby (zaf [t] a) L,if zt s p L (zby (zaf [t] a) L)=true then -1 else 1)
 else (⟨#[]⟩,0)
section
variable {w:World} {lo hi n c lo1 hi1 m d m' d' lo2 hi2 k c2 k1 d1 k1' d1' L:Nat} {A B B' C X X':Option Addr} {s t:Sys} {p a:Aut}
theorem zez (ht:zM w lo hi C k t)(ha:zC w lo1 hi1 X k1 X' k1' a) :
  Calls Tryz.prog 242 #[.agg #[.int .i64 t.al,.int .i64 t.st,.slice C k c2],.agg #[.int .i64 a.al,.slice X k1 d1,.slice X' k1' d1']] w fun e w'=>e=.returned (.tuple #[.string (zaf [t] a),.bool (zbD [t] a)])∧Ext w w':=by
 have HT:=za (fun W (hW:Ext w W)=>ht.ext hW)
 have HA:=za (fun W (hW:Ext w W)=>ha.ext hW)
 have hx0:Ext w ((w.alloc (.cells #[.int .i64 t.al,.int .i64 t.st,.slice C k c2] 38)).alloc (.cells #[.int .i64 a.al,.slice X k1 d1,.slice X' k1' d1'] 31)):=((Ext.refl _).alloc _).alloc _
 obtain⟨b1,b2⟩:=zE (Ext.refl ((w.alloc (.cells #[.int .i64 t.al,.int .i64 t.st,.slice C k c2] 38)).alloc (.cells #[.int .i64 a.al,.slice X k1 d1,.slice X' k1' d1'] 31)))
 clear ht ha
 go_enter Tryz.func242,Tryz.ntmps242
 go_upto_region 1 with fail
 generalize (w.alloc (.cells #[.int .i64 t.al,.int .i64 t.st,.slice C k c2] 38)).alloc (.cells #[.int .i64 a.al,.slice X k1 d1,.slice X' k1' d1'] 31)=w0 at *
 have c1:=b1.cell
 have hx1:=(Ext.refl w0).alloc (.cells #[.int .i64 t.al,.int .i64 t.st,.slice C k c2] 38)
 have bs:=Blk.new w0 38 #[.int .i64 t.al,.int .i64 t.st,.slice C k c2]
 obtain⟨lo3,hi3,hsl⟩:=sl_one bs (HT.out _ (hx0.trans hx1))
 have c2':=(b2.ext hx1).cell
 have HP:=za (zcz (c:=1) (d2:=d1) (d2':=d1') hsl (HA.out _ (hx0.trans hx1)))
 clear hsl bs
 go_wp2_with fail
 refine HP.out.mono ?_
 rintro e w2 ⟨rfl,hx2⟩
 go_wp2_with fail
 go_ret2
 exact⟨rfl,(hx0.trans hx1).trans hx2⟩
theorem ziz (h:Tch w A n B m B' m' s p L)(ht:zM w lo hi C k t)(ha:zC w lo1 hi1 X k1 X' k1' a) (vt:zn t=true) (va:zk a=true) :
  Calls Tryz.prog 175 #[.agg #[.int .i64 t.al,.int .i64 t.st,.slice C k c2],.agg #[.int .i64 s.al,.int .i64 s.st,.slice A n c,.int .i64 p.al,.slice B m d,.slice B' m' d',.int .i64 L],.agg #[.int .i64 a.al,.slice X k1 d1,.slice X' k1' d1']] w fun e w'=>e=.returned (.tuple #[.string (zaU s p t L a).1,.int .i64 (zaU s p t L a).2])∧Ext w w':=by
 have hL:=h.lt
 have HU:=za (fun W (hW:Ext w W)=>by
  obtain⟨lo,hi,h1,h2,_⟩:=h.at_
  exact zeA (c:=c) (d1:=d1) (d1':=d1') (d2:=d) (d2':=d') (h1.ext hW) (ha.ext hW) (h2.ext hW))
 have HS:=za (fun W (hW:Ext w W) (y:ByteArray) hy=>by
  obtain⟨lo,hi,h1,h2,h3⟩:=h.at_
  exact zff (c:=c) (d:=d) (d':=d') (L:=L) (t:=y) (h1.ext hW) (h2.ext hW) h.sv h.pv h.lt (Nat.le_trans h3 hW.size) hy)
 have HF:=za (fun W (hW:Ext w W)=>zez (c2:=c2) (d1:=d1) (d1':=d1') (ht.ext hW) (ha.ext hW))
 have hu:=za (zeC h.sv va h.pv)
 have hb:=za (zcr (ss:=[t]) (p:=a) (by unfold zA;simp [vt]) va)
 have Hj:=za (show zaU s p t L a=if zci s a p=true then (zby (zbl s a p) L,-1)
  else if zbD [t] a=true then (zby (zaf [t] a) L,if zt s p L (zby (zaf [t] a) L)=true then -1 else 1)
  else (⟨#[]⟩,0) from rfl)
 generalize zaU s p t L a=J at *
 obtain⟨uw,huw⟩:∃ uw,Hid (zbl s a p=uw):=⟨_,rfl⟩
 obtain⟨bw,hbw⟩:∃ bw,Hid (zaf [t] a=bw):=⟨_,rfl⟩
 rw [huw.out] at HU hu Hj
 rw [hbw.out] at HF hb Hj
 have hx0:Ext w (((w.alloc (.cells #[.int .i64 t.al,.int .i64 t.st,.slice C k c2] 38)).alloc (.cells #[.int .i64 s.al,.int .i64 s.st,.slice A n c,.int .i64 p.al,.slice B m d,.slice B' m' d',.int .i64 L] 96)).alloc (.cells #[.int .i64 a.al,.slice X k1 d1,.slice X' k1' d1'] 31)):=(((Ext.refl _).alloc _).alloc _).alloc _
 obtain⟨b1,b2,b3⟩:=zK (Ext.refl (((w.alloc (.cells #[.int .i64 t.al,.int .i64 t.st,.slice C k c2] 38)).alloc (.cells #[.int .i64 s.al,.int .i64 s.st,.slice A n c,.int .i64 p.al,.slice B m d,.slice B' m' d',.int .i64 L] 96)).alloc (.cells #[.int .i64 a.al,.slice X k1 d1,.slice X' k1' d1'] 31)))
 clear h ht ha vt va
 cases hub:zci s a p
 ·cases hbb:zbD [t] a
  ·have ziM:=za (show J=(⟨#[]⟩,0) by rw [Hj.out,hub,hbb];rfl)
   rw [hub] at HU
   rw [hbb] at HF
   rw [ziM.out]
   clear Hj ziM hub hbb
   go_enter Tryz.func175,Tryz.ntmps175
   go_upto_region 1 with fail
   generalize ((w.alloc (.cells #[.int .i64 t.al,.int .i64 t.st,.slice C k c2] 38)).alloc (.cells #[.int .i64 s.al,.int .i64 s.st,.slice A n c,.int .i64 p.al,.slice B m d,.slice B' m' d',.int .i64 L] 96)).alloc (.cells #[.int .i64 a.al,.slice X k1 d1,.slice X' k1' d1'] 31)=w0 at *
   have CT:=b1.cells
   have CK:=b2.cells
   have CA:=b3.cells
   have hww:=Ext.refl w0
   go_wp2_with (first
    |(go_at_call 72;refine (HU.out _ hx0).mono ?_;rintro e w1 ⟨rfl,hx1⟩)
    |(go_at_call 242;refine (HF.out _ (hx0.trans hx1)).mono ?_;rintro e w2 ⟨rfl,hx2⟩;have hx12:=hx1.trans hx2))
   go_ret2
   exact⟨rfl,hx0.trans hx12⟩
  ·obtain⟨rw_,hrw⟩:∃ rw_,Hid (zby bw L=rw_):=⟨_,rfl⟩
   have HR:=za (fun W=>zdf (w:=W) (s:=bw) (a:=L) hb.out.1 (by omega))
   have hrs:=za (show rw_.size≤9223372036854775807 by
    rw [← hrw.out]
    have h1:=zbn (zaP (zds hb.out.1 L))
    omega)
   rw [hrw.out] at HR Hj
   have HSr:=za (fun W (hW:Ext w W)=>HS.out W hW rw_ hrs.out)
   obtain⟨sf,hsf⟩:∃ sf,Hid (zt s p L rw_=sf):=⟨_,rfl⟩
   rw [hsf.out] at HSr Hj
   rw [hub] at HU
   rw [hbb] at HF
   have ziM:=za (show J=(rw_,if sf=true then -1 else 1) by rw [Hj.out,hub,hbb];rfl)
   rw [ziM.out]
   clear Hj ziM hub hbb
   cases sf
   all_goals
    go_enter Tryz.func175,Tryz.ntmps175
    go_upto_region 1 with fail
    generalize ((w.alloc (.cells #[.int .i64 t.al,.int .i64 t.st,.slice C k c2] 38)).alloc (.cells #[.int .i64 s.al,.int .i64 s.st,.slice A n c,.int .i64 p.al,.slice B m d,.slice B' m' d',.int .i64 L] 96)).alloc (.cells #[.int .i64 a.al,.slice X k1 d1,.slice X' k1' d1'] 31)=w0 at *
    have CT:=b1.cells
    have CK:=b2.cells
    have CA:=b3.cells
    have hww:=Ext.refl w0
    go_wp2_with (first
     |(go_at_call 72;refine (HU.out _ hx0).mono ?_;rintro e w1 ⟨rfl,hx1⟩)
     |(go_at_call 242;refine (HF.out _ (hx0.trans hx1)).mono ?_;rintro e w2 ⟨rfl,hx2⟩;have hx12:=hx1.trans hx2)
     |(go_at_call 73;refine (HR.out _).mono ?_;rintro e w3 ⟨rfl,hx3⟩;have hx13:=hx12.trans hx3)
     |(go_at_call 75;refine (HSr.out _ (hx0.trans hx13)).mono ?_;rintro e w4 ⟨rfl,hx4⟩;have hx14:=hx13.trans hx4))
    go_ret2
    exact⟨rfl,hx0.trans hx14⟩
 ·have HR:=za (fun W=>zdf (w:=W) (s:=uw) (a:=L) hu.out.1 (by omega))
  rw [hub] at HU
  have ziM:=za (show J=(zby uw L,-1) by rw [Hj.out,hub];rfl)
  rw [ziM.out]
  clear Hj ziM hub
  go_enter Tryz.func175,Tryz.ntmps175
  go_upto_region 1 with fail
  generalize ((w.alloc (.cells #[.int .i64 t.al,.int .i64 t.st,.slice C k c2] 38)).alloc (.cells #[.int .i64 s.al,.int .i64 s.st,.slice A n c,.int .i64 p.al,.slice B m d,.slice B' m' d',.int .i64 L] 96)).alloc (.cells #[.int .i64 a.al,.slice X k1 d1,.slice X' k1' d1'] 31)=w0 at *
  have CT:=b1.cells
  have CK:=b2.cells
  have CA:=b3.cells
  have hww:=Ext.refl w0
  go_wp2_with (first
   |(go_at_call 72;refine (HU.out _ hx0).mono ?_;rintro e w1 ⟨rfl,hx1⟩)
   |(go_at_call 73;refine (HR.out _).mono ?_;rintro e w3 ⟨rfl,hx3⟩;have hx13:=hx1.trans hx3))
  go_ret2
  exact⟨rfl,hx0.trans hx13⟩
end
structure Vd where
 code:Int
 asm:Aut
 tr:ByteArray
 ro:Nat
def noA:Aut:=⟨0,[],[]⟩
noncomputable def runT (s t:Sys) (p:Aut) (L:Nat):Nat→Nat→Option (List ByteArray × List ByteArray)→Vd
 |0,k,_=>⟨2,noA,⟨#[]⟩,k⟩
 |_+1,k,none=>⟨2,noA,⟨#[]⟩,k⟩
 |f+1,k,some tab =>
  if (zaU s p t L (zdn L (zt s p L) tab.1 tab.2)).2=0 then ⟨0,zdn L (zt s p L) tab.1 tab.2,⟨#[]⟩,k+1⟩
  else if (zaU s p t L (zdn L (zt s p L) tab.1 tab.2)).2=1 then ⟨1,noA,zaf [s,t] p,k+1⟩
  else runT s t p L f (k+1) (zaV L (zt s p L) tab.1 tab.2 (zaU s p t L (zdn L (zt s p L) tab.1 tab.2)).1)
def zcU (w:World) (v:Vd) (e:Ending) (w':World):Prop:=
 ∃ (A:Option Addr) (n c:Nat) (A':Option Addr) (n' c':Nat) (x:Int) (X:Option Addr) (k1 d1:Nat) (X':Option Addr) (k1' d1':Nat),
  e=.returned (.tuple #[.agg #[.int .i64 v.code,.int .i64 v.asm.al,.slice A n c,.slice A' n' c',.string v.tr,.int .i64 v.ro],.agg #[.int .i64 x,.slice X k1 d1,.slice X' k1' d1']])∧zac w' w.heap.size A n c A' n' c' v.asm∧Ext w w'
def zeJ (L:Nat) (f:ByteArray→Bool) (o:Option (List ByteArray × List ByteArray)):Prop:=∀ rs cs,o=some (rs,cs)→zbz L f rs cs∧zav L f rs cs=none
theorem zeJ.new (L:Nat) (f:ByteArray→Bool):zeJ L f ((zZ L f [⟨#[]⟩] 11 [⟨#[]⟩]).map fun r=>(r,[⟨#[]⟩])):=by
 intro rs cs h
 obtain⟨r,hr,e⟩:=Option.map_eq_some_iff.1 h
 obtain⟨rfl,rfl⟩:=Prod.mk.inj e
 obtain⟨h1,h2,-⟩:=zgj 11 _ _ (zbz.first L f) (by decide) hr
 exact⟨h1,h2⟩
theorem zeJ.learn {L:Nat} {f:ByteArray→Bool} {rows cols:List ByteArray}(h:zbz L f rows cols) (x:ByteArray):zeJ L f (zaV L f rows cols x):=by
 intro rs cs hl
 unfold zaV at hl
 split at hl
 ·cases hl
 ·rename_i col hc
  split at hl
  ·rename_i ha
   obtain⟨r,hr,e⟩:=Option.map_eq_some_iff.1 hl
   obtain⟨rfl,rfl⟩:=Prod.mk.inj e
   have hI:=h.addC ha
   obtain⟨h1,h2,-⟩:=zgj _ _ _ hI (by have:=h.r12;omega) hr
   exact⟨h1,h2⟩
  ·cases hl
theorem judgeT_size {s:Sys} {p:Aut} {t:Sys} {L:Nat} {a:Aut}(hs:zn s=true)(hp:zk p=true)(ht:zn t=true)(ha:zk a=true):(zaU s p t L a).1.size≤50000:=by
 have h1:=zeC hs ha hp
 have h2:=zcr (ss:=[t]) (p:=a) (by unfold zA;simp [ht]) ha
 unfold zaU
 split
 ·exact zbn (zaP (zds h1.1 L))
 ·split
  ·exact zbn (zaP (zds h2.1 L))
  ·exact Nat.zero_le _
def TabM (w0 W:World) (g:Nat) (o:Option (List ByteArray × List ByteArray)):Prop:=
 ∃ (nr nc:Nat) (R:Option Addr) (cr:Nat) (C:Option Addr) (cc:Nat),Blk W g 101 #[.slice R nr cr,.slice C nc cc]∧nr≤cr∧nc≤cc ∧
  ∀ rs cs,o=some (rs,cs)→W.ownsRow w0.heap.size 9 1 (.slice R nr cr) nr (zL rs)∧W.ownsRow w0.heap.size 9 1 (.slice C nc cc) nc (zL cs)
theorem TabM.far {w0 W W':World} {g G:Nat} {o:Option (List ByteArray × List ByteArray)} {cs:Array Value} {t:TypeId}(h:TabM w0 W g o)(hB:Blk W G t cs)(hf:Frm (fun k=>k=G) W W')(hg:g≠G)(ht:9≠t):TabM w0 W' g o:=by
 obtain⟨nr,nc,R,cr,C,cc,hb,h1,h2,h3⟩:=h
 exact⟨nr,nc,R,cr,C,cc,hb.frm hf hg,h1,h2,fun rs cs e=>⟨zg (h3 rs cs e).1 hf (fun b hv e'=>zw (h3 rs cs e).1 hB ht hv e'),zg (h3 rs cs e).2 hf (fun b hv e'=>zw (h3 rs cs e).2 hB ht hv e')⟩⟩
theorem zch.fill {w w0 W:World} {o:Option (List ByteArray × List ByteArray)} {e:Ending}(h:zch w o e W)(hw:w0.heap.size≤w.heap.size) :
  Ext w W∧∃ (nr nc:Nat) (R:Option Addr) (cr:Nat) (C:Option Addr) (cc:Nat),e=.returned (.tuple #[.agg #[.slice R nr cr,.slice C nc cc],.bool o.isSome])∧nr≤cr∧nc≤cc ∧
   ∀ rs cs,o=some (rs,cs)→W.ownsRow w0.heap.size 9 1 (.slice R nr cr) nr (zL rs)∧W.ownsRow w0.heap.size 9 1 (.slice C nc cc) nc (zL cs):=by
 obtain⟨hx,⟨rfl,rfl⟩|⟨rs,cs,nr,nc,R,cr,C,cc,rfl,rfl,h1,h2⟩⟩:=h
 ·exact⟨hx,0,0,none,0,none,0,rfl,Nat.le_refl _,Nat.le_refl _,fun _ _ e=>by cases e⟩
 ·refine⟨hx,nr,nc,R,cr,C,cc,rfl,zgb h1,zgb h2,fun rs' cs' e=>?_⟩
  obtain⟨rfl,rfl⟩:=Prod.mk.inj (Option.some.inj e)
  exact⟨zq h1 hw,zq h2 hw⟩
theorem sl_pair {w:World} {g lo hi n c lo2 hi2 k c2:Nat} {A C:Option Addr} {s t:Sys}(hb:Blk w g 38 #[.int .i64 s.al,.int .i64 s.st,.slice A n c,.int .i64 t.al,.int .i64 t.st,.slice C k c2])(h:zM w lo hi A n s)(h':zM w lo2 hi2 C k t):∃ lo hi,zha w lo hi (some ⟨g,0,none⟩) 2 [s,t]:=by
 refine⟨0,hi+hi2+g+1,rfl,[.int .i64 s.al,.int .i64 s.st,.slice A n c,.int .i64 t.al,.int .i64 t.st,.slice C k c2],⟨rfl,by omega,fun _=>⟨_,rfl,Nat.zero_le _,by dsimp only;omega,fun j u hu=>?_⟩⟩,fun j u hu=>?_⟩
 ·rw [zaE,Nat.zero_add,hb.cell]
  simpa using hu
 ·match j with
  |0 =>
   simp at hu;subst hu
   exact⟨A,n,c,rfl,rfl,rfl,h.1,h.2.more (Nat.zero_le _) (by omega)⟩
  |1 =>
   simp at hu;subst hu
   exact⟨C,k,c2,rfl,rfl,rfl,h'.1,h'.2.more (Nat.zero_le _) (by omega)⟩
  |j+2=>simp at hu
theorem zcU.drew {w W:World} {v:Vd} {e:Ending}(h:zcU w v e W):zcU w v e W.drew:=by
 obtain⟨A,n,c,A',n',c',x,X,k1,d1,X',k1',d1',he,ho,hx⟩:=h
 have hd:Ext W W.drew:=(Ext.refl W).drew
 exact⟨A,n,c,A',n',c',x,X,k1,d1,X',k1',d1',he,ho.ext hd,hx.trans hd⟩
theorem zcU.cast {w W:World} {v u:Vd} {e:Ending}(hu:u=v)(h:zcU w v e W):zcU w u e W:=hu ▸ h
def roAt (W:World) (g:Nat):Nat:=match W.cell? ⟨g,5,none⟩ with|some (.int _ z)=>z.toNat|_=>0
theorem roAt_blk {W:World} {g j:Nat} {t:TypeId} {u0 u1 u2 u3 u4:Value}(h:Blk W g t #[u0,u1,u2,u3,u4,.int .i64 j]):roAt W g=j:=by
 unfold roAt
 rw [h.cell 5]
 exact Int.toNat_natCast j
theorem runT_end {s t:Sys} {p:Aut} {L K j:Nat} {o:Option (List ByteArray × List ByteArray)}(h:¬ (o.isSome=true∧j<K)):runT s t p L (K - j) j o=⟨2,noA,⟨#[]⟩,j⟩:=by
 cases hk:K - j with
 |zero=>rfl
 |succ f =>
  cases o with
  |none=>rfl
  |some tab=>exact absurd ⟨rfl,by omega⟩ h
theorem zgG (W:World) (Z:Nat) (u0 u1 u2 u3 u4 u5:Value):Frm (fun k=>k=Z) W ((((((W.setCell ⟨Z,0,none⟩ u0).setCell ⟨Z,1,none⟩ u1).setCell ⟨Z,2,none⟩ u2).setCell ⟨Z,3,none⟩ u3).setCell ⟨Z,4,none⟩ u4).setCell ⟨Z,5,none⟩ u5):=
 (((((Frm.setCell W _ 0 _).trans (Frm.setCell _ _ 1 _)).trans (Frm.setCell _ _ 2 _)).trans (Frm.setCell _ _ 3 _)).trans (Frm.setCell _ _ 4 _)).trans (Frm.setCell _ _ 5 _)
theorem Frm.drew {S:Nat→Prop} {a w:World}(h:Frm S a w):Frm S a w.drew:=⟨h.os,h.tape,h.output,h.size,h.block⟩
theorem zgc {w W:World} {Z n c n' c' k1 d1 k1' d1':Nat} {A A' X X':Option Addr} {v:Vd} {x:Int} {vs us:Array Value}(hx:Ext w W)(hv:Blk W Z 67 vs)(hu:Blk W (Z+1) 31 us)(h6:vs.size=6)(h3:us.size=3)(hZ:w.heap.size≤Z)(ho:zac W w.heap.size A n c A' n' c' v.asm) :
  Hid (zcU w v (.returned (.tuple #[.agg #[.int .i64 v.code,.int .i64 v.asm.al,.slice A n c,.slice A' n' c',.string v.tr,.int .i64 v.ro],.agg #[.int .i64 x,.slice X k1 d1,.slice X' k1' d1']]))
   (((((((((W.setCell ⟨Z,0,none⟩ (.int .i64 v.code)).setCell ⟨Z,1,none⟩ (.int .i64 v.asm.al)).setCell ⟨Z,2,none⟩ (.slice A n c)).setCell ⟨Z,3,none⟩ (.slice A' n' c')).setCell ⟨Z,4,none⟩ (.string v.tr)).setCell ⟨Z,5,none⟩ (.int .i64 v.ro)).setCell ⟨Z+1,0,none⟩ (.int .i64 x)).setCell ⟨Z+1,1,none⟩ (.slice X k1 d1)).setCell ⟨Z+1,2,none⟩ (.slice X' k1' d1'))) ∧
  Blk (((((((((W.setCell ⟨Z,0,none⟩ (.int .i64 v.code)).setCell ⟨Z,1,none⟩ (.int .i64 v.asm.al)).setCell ⟨Z,2,none⟩ (.slice A n c)).setCell ⟨Z,3,none⟩ (.slice A' n' c')).setCell ⟨Z,4,none⟩ (.string v.tr)).setCell ⟨Z,5,none⟩ (.int .i64 v.ro)).setCell ⟨Z+1,0,none⟩ (.int .i64 x)).setCell ⟨Z+1,1,none⟩ (.slice X k1 d1)).setCell ⟨Z+1,2,none⟩ (.slice X' k1' d1')) Z 67 #[.int .i64 v.code,.int .i64 v.asm.al,.slice A n c,.slice A' n' c',.string v.tr,.int .i64 v.ro] ∧
  Blk (((((((((W.setCell ⟨Z,0,none⟩ (.int .i64 v.code)).setCell ⟨Z,1,none⟩ (.int .i64 v.asm.al)).setCell ⟨Z,2,none⟩ (.slice A n c)).setCell ⟨Z,3,none⟩ (.slice A' n' c')).setCell ⟨Z,4,none⟩ (.string v.tr)).setCell ⟨Z,5,none⟩ (.int .i64 v.ro)).setCell ⟨Z+1,0,none⟩ (.int .i64 x)).setCell ⟨Z+1,1,none⟩ (.slice X k1 d1)).setCell ⟨Z+1,2,none⟩ (.slice X' k1' d1')) (Z+1) 31 #[.int .i64 x,.slice X k1 d1,.slice X' k1' d1']:=by
 obtain⟨lv⟩:=vs
 match lv,h6 with
 |[a0,a1,a2,a3,a4,a5],_ =>
 have hf1:Frm (fun k=>k=Z) W ((((((W.setCell ⟨Z,0,none⟩ (.int .i64 v.code)).setCell ⟨Z,1,none⟩ (.int .i64 v.asm.al)).setCell ⟨Z,2,none⟩ (.slice A n c)).setCell ⟨Z,3,none⟩ (.slice A' n' c')).setCell ⟨Z,4,none⟩ (.string v.tr)).setCell ⟨Z,5,none⟩ (.int .i64 v.ro)):=
  (((((Frm.setCell W _ 0 _).trans (Frm.setCell _ _ 1 _)).trans (Frm.setCell _ _ 2 _)).trans (Frm.setCell _ _ 3 _)).trans (Frm.setCell _ _ 4 _)).trans (Frm.setCell _ _ 5 _)
 have hv1:Blk ((((((W.setCell ⟨Z,0,none⟩ (.int .i64 v.code)).setCell ⟨Z,1,none⟩ (.int .i64 v.asm.al)).setCell ⟨Z,2,none⟩ (.slice A n c)).setCell ⟨Z,3,none⟩ (.slice A' n' c')).setCell ⟨Z,4,none⟩ (.string v.tr)).setCell ⟨Z,5,none⟩ (.int .i64 v.ro)) Z 67 #[.int .i64 v.code,.int .i64 v.asm.al,.slice A n c,.slice A' n' c',.string v.tr,.int .i64 v.ro]:=by
  simpa using (((((hv.set_ 0 (.int .i64 v.code)).set_ 1 (.int .i64 v.asm.al)).set_ 2 (.slice A n c)).set_ 3 (.slice A' n' c')).set_ 4 (.string v.tr)).set_ 5 (.int .i64 v.ro)
 have ho1:=ho.farT hv hf1 (by decide)
 have hu1:=hu.frm hf1 (by omega)
 have hx1:Ext w ((((((W.setCell ⟨Z,0,none⟩ (.int .i64 v.code)).setCell ⟨Z,1,none⟩ (.int .i64 v.asm.al)).setCell ⟨Z,2,none⟩ (.slice A n c)).setCell ⟨Z,3,none⟩ (.slice A' n' c')).setCell ⟨Z,4,none⟩ (.string v.tr)).setCell ⟨Z,5,none⟩ (.int .i64 v.ro)):=hx.frm hf1 (fun k hk e=>by omega)
 generalize (((((W.setCell ⟨Z,0,none⟩ (.int .i64 v.code)).setCell ⟨Z,1,none⟩ (.int .i64 v.asm.al)).setCell ⟨Z,2,none⟩ (.slice A n c)).setCell ⟨Z,3,none⟩ (.slice A' n' c')).setCell ⟨Z,4,none⟩ (.string v.tr)).setCell ⟨Z,5,none⟩ (.int .i64 v.ro)=W1 at *
 have hf2:=zap W1 (Z+1) (.int .i64 x) (.slice X k1 d1) (.slice X' k1' d1')
 exact⟨za ⟨A,n,c,A',n',c',x,X,k1,d1,X',k1',d1',rfl,ho1.farT hu1 hf2 (by decide),hx1.frm hf2 (fun k hk e=>by omega)⟩,hv1.frm hf2 (by omega),zaT hu1 h3 _ _ _⟩
section
variable {w:World} {lo hi n c lo1 hi1 m d m' d' lo2 hi2 k c2:Nat} {A B B' C:Option Addr} {s t:Sys} {p:Aut}
theorem yC12a3 {P:Prop}(h:P:=by
 clear hflag hgo ho hon hne1 hne2 hd hb8 hb9' hxw
 go_wp2_with fail
 refine zba (fun Y=>Frm (fun b=>b=Z) wr Y) [3] (zu.of [0,1,2,3]) (by kernel_rfl) (by kernel_rfl) (by kernel_rfl) (by kernel_rfl) (by kernel_rfl) (fun _ _ _ _ _ h=>h) hS0 ?_
 refine zbm (v:=?_) rfl rfl rfl rfl (fun X hX=>?_) ?_
 rotate_left
 focus (go_simp<;>with_reducible rfl)
 refine pT ?_
 refine zbm (v:=?_) rfl rfl rfl rfl (fun X hX=>?_) ?_
 rotate_left
 focus (go_simp<;>with_reducible rfl)
 refine pT ?_
 refine ze fun K hK=>?_;go_simp
 refine hK.out _ _ hf8.out.drew ?_
 refine pT ?_
 refine zb fun K hK=>?_
 go_simp
 refine hK.out _ _ ?_
 refine zf ?_
 go_wp2_with fail
 have cf2:=F2.out.cell
 have cf3:=F3.out.cell
 exact bodyPost_ret (v:=.tuple #[.agg #[.int .i64 2,.int .i64 0,.slice none 0 0,.slice none 0 0,.string ⟨#[]⟩,.int .i64 j],.agg #[.int .i64 x,.slice X k1 d1,.slice X' k1' d1']]) (by simp [results,Tryz.results97,go_sem,cf2,cf3]) rfl F1.out
 ):P:=h
theorem spec_l12Run {L K:Nat}(hs:zM w lo hi A n s)(hp:zC w lo1 hi1 B m B' m' p)(ht:zM w lo2 hi2 C k t)(hif:iface s p t=(L:Int))(hn:n≤1000000)(hhi:hi≤w.heap.size)(hK:K≤1000) :
  Calls Tryz.prog 97 #[.agg #[.int .i64 s.al,.int .i64 s.st,.slice A n c],.agg #[.int .i64 t.al,.int .i64 t.st,.slice C k c2],.agg #[.int .i64 p.al,.slice B m d,.slice B' m' d'],.int .i64 K] w
   (zcU w (runT s t p L K 0 ((zZ L (zt s p L) [⟨#[]⟩] 11 [⟨#[]⟩]).map fun r=>(r,[⟨#[]⟩])))):=by
 obtain⟨vs,vp,vt⟩:=zbi (show 0≤iface s p t by omega)
 have Hv:=za (And.intro vs (And.intro vp vt))
 have HTask:=za (fun W (hW:Ext w W)=>spec_TaskOf (c:=c) (d:=d) (d':=d') (c2:=c2) (hs.ext hW) (hp.ext hW) (ht.ext hW) hif hn (Nat.le_trans hhi hW.size))
 have HPv2:=za (fun W (hW:Ext w W)=>show Calls Tryz.prog 147 #[.slice (some ⟨W.heap.size,0,none⟩) 2 2,.agg #[.int .i64 p.al,.slice B m d,.slice B' m' d']] (W.alloc (.cells #[.int .i64 s.al,.int .i64 s.st,.slice A n c,.int .i64 t.al,.int .i64 t.st,.slice C k c2] 38)) (fun e w'=>e=.returned (.tuple #[.string (zaf [s,t] p),.bool (zbD [s,t] p)])∧Ext W w') by
  have f6:=(Ext.refl W).alloc (.cells #[.int .i64 s.al,.int .i64 s.st,.slice A n c,.int .i64 t.al,.int .i64 t.st,.slice C k c2] 38)
  obtain⟨l1,l2,hsl⟩:=sl_pair (Blk.new W 38 #[.int .i64 s.al,.int .i64 s.st,.slice A n c,.int .i64 t.al,.int .i64 t.st,.slice C k c2]) (hs.ext (hW.trans f6)) (ht.ext (hW.trans f6))
  exact (zcz hsl (hp.ext (hW.trans f6))).mono (fun e w' h=>⟨h.1,f6.trans h.2⟩))
 have HSs:=za (fun W (hW:Ext w W)=>hs.ext hW)
 have HSt:=za (fun W (hW:Ext w W)=>ht.ext hW)
 obtain⟨fin,ziM⟩:∃ fin,Hid (runT s t p L K 0 ((zZ L (zt s p L) [⟨#[]⟩] 11 [⟨#[]⟩]).map fun r=>(r,[⟨#[]⟩]))=fin):=⟨_,rfl⟩
 have htok:=za (zeJ.new L (zt s p L))
 rw [ziM.out]
 obtain⟨tab0,htab⟩:∃ tab0,Hid ((zZ L (zt s p L) [⟨#[]⟩] 11 [⟨#[]⟩]).map (fun r=>(r,[(⟨#[]⟩:ByteArray)]))=tab0):=⟨_,rfl⟩
 rw [htab.out] at ziM htok
 clear hs hp ht hif vs vp vt
 have hx0:Ext w (((((w.alloc (.cells #[.int .i64 s.al,.int .i64 s.st,.slice A n c] 38)).alloc (.cells #[.int .i64 t.al,.int .i64 t.st,.slice C k c2] 38)).alloc (.cells #[.int .i64 p.al,.slice B m d,.slice B' m' d'] 31)).alloc (.cells #[.int .i64 0,.int .i64 0,.slice none 0 0,.slice none 0 0,.string ⟨#[]⟩,.int .i64 0] 67)).alloc (.cells #[.int .i64 0,.slice none 0 0,.slice none 0 0] 31)):=(((((Ext.refl _).alloc _).alloc _).alloc _).alloc _).alloc _
 obtain⟨b1,b2,b3⟩:=zK (((Ext.refl _).alloc _).alloc _:Ext (((w.alloc (.cells #[.int .i64 s.al,.int .i64 s.st,.slice A n c] 38)).alloc (.cells #[.int .i64 t.al,.int .i64 t.st,.slice C k c2] 38)).alloc (.cells #[.int .i64 p.al,.slice B m d,.slice B' m' d'] 31)) (((((w.alloc (.cells #[.int .i64 s.al,.int .i64 s.st,.slice A n c] 38)).alloc (.cells #[.int .i64 t.al,.int .i64 t.st,.slice C k c2] 38)).alloc (.cells #[.int .i64 p.al,.slice B m d,.slice B' m' d'] 31)).alloc (.cells #[.int .i64 0,.int .i64 0,.slice none 0 0,.slice none 0 0,.string ⟨#[]⟩,.int .i64 0] 67)).alloc (.cells #[.int .i64 0,.slice none 0 0,.slice none 0 0] 31)))
 obtain⟨b8,b9⟩:=zE (Ext.refl (((((w.alloc (.cells #[.int .i64 s.al,.int .i64 s.st,.slice A n c] 38)).alloc (.cells #[.int .i64 t.al,.int .i64 t.st,.slice C k c2] 38)).alloc (.cells #[.int .i64 p.al,.slice B m d,.slice B' m' d'] 31)).alloc (.cells #[.int .i64 0,.int .i64 0,.slice none 0 0,.slice none 0 0,.string ⟨#[]⟩,.int .i64 0] 67)).alloc (.cells #[.int .i64 0,.slice none 0 0,.slice none 0 0] 31)))
 simp only [World.size_alloc] at b8 b9
 go_enter Tryz.func97,Tryz.ntmps97
 go_upto_region 1 with fail
 generalize ((((w.alloc (.cells #[.int .i64 s.al,.int .i64 s.st,.slice A n c] 38)).alloc (.cells #[.int .i64 t.al,.int .i64 t.st,.slice C k c2] 38)).alloc (.cells #[.int .i64 p.al,.slice B m d,.slice B' m' d'] 31)).alloc (.cells #[.int .i64 0,.int .i64 0,.slice none 0 0,.slice none 0 0,.string ⟨#[]⟩,.int .i64 0] 67)).alloc (.cells #[.int .i64 0,.slice none 0 0,.slice none 0 0] 31)=w0 at *
 have CS:=b1.cells
 have CT:=b2.cells
 have CP:=b3.cells
 have hb9:=b9.lt
 have hZw:w.heap.size≤w.heap.size+1+1+1:=by omega
 generalize w.heap.size+1+1+1=Z at *
 have hww:=Ext.refl w0
 go_upto_region 2 with (first
  |(go_at_call 174;refine (HTask.out _ hx0).mono ?_;rintro e w1 ⟨A,n,c,B,m,d,B',m',d',rfl,htch,hx01⟩))
 have hx12:Ext w1 ((w1.alloc (.cells #[.int .i64 s.al,.int .i64 s.st,.slice A n c,.int .i64 p.al,.slice B m d,.slice B' m' d',.int .i64 L] 96)).alloc (.cells #[.bool false,.int .i64 0,.slice none 0 0,.slice none 0 0,.int .i64 s.al,.int .i64 s.st,.slice A n c,.int .i64 p.al,.slice B m d,.slice B' m' d',.int .i64 L] 98)):=((Ext.refl _).alloc _).alloc _
 obtain⟨bK,bT⟩:=zE (Ext.refl ((w1.alloc (.cells #[.int .i64 s.al,.int .i64 s.st,.slice A n c,.int .i64 p.al,.slice B m d,.slice B' m' d',.int .i64 L] 96)).alloc (.cells #[.bool false,.int .i64 0,.slice none 0 0,.slice none 0 0,.int .i64 s.al,.int .i64 s.st,.slice A n c,.int .i64 p.al,.slice B m d,.slice B' m' d',.int .i64 L] 98)))
 have cK:=(Blk.new w1 96 #[.int .i64 s.al,.int .i64 s.st,.slice A n c,.int .i64 p.al,.slice B m d,.slice B' m' d',.int .i64 L]).cell
 go_upto_region 5 with fail
 obtain⟨G10,hG10⟩:∃ G10,Hid (w1.heap.size=G10):=⟨_,rfl⟩
 generalize (w1.alloc (.cells #[.int .i64 s.al,.int .i64 s.st,.slice A n c,.int .i64 p.al,.slice B m d,.slice B' m' d',.int .i64 L] 96)).alloc (.cells #[.bool false,.int .i64 0,.slice none 0 0,.slice none 0 0,.int .i64 s.al,.int .i64 s.st,.slice A n c,.int .i64 p.al,.slice B m d,.slice B' m' d',.int .i64 L] 98)=w2 at *
 rw [hG10.out] at bK bT ⊢
 clear cK
 have htch2:=htch.ext hx12
 have hx02:=hx01.trans hx12
 have hbT:=bT.lt
 have HNT:=za (fun W (hW:Ext w2 W)=>ziw (c:=c) (d:=d) (d':=d') (htch2.ext hW))
 rw [htab.out] at HNT
 have HTA:=za (fun (R:Option Addr) (nr cr:Nat) (C:Option Addr) (nc cc:Nat) (rows cols:List ByteArray) W (hW:Ext w2 W) hT hI hcr hcc hcl=>zcA (c:=c) (d:=d) (d':=d') (nr:=nr) (nc:=nc) (R:=R) (C:=C) (cr:=cr) (cc:=cc) (rows:=rows) (cols:=cols) (htch2.ext hW) hT hI hcr hcc hcl)
 have HLS:=za (fun (R:Option Addr) (nr cr:Nat) (C:Option Addr) (nc cc:Nat) (rows cols:List ByteArray) (x:ByteArray) W (hW:Ext w2 W) hT hI hcr hcc hcl hx=>zhk (c:=c) (d:=d) (d':=d') (nr:=nr) (nc:=nc) (R:=R) (C:=C) (cr:=cr) (cc:=cc) (rows:=rows) (cols:=cols) (x:=x) (htch2.ext hW) hT hI hcr hcc hcl hx)
 have CTc:=bT.cells
 have CTk:=bK.cells
 have CS2:∀ W,Ext w2 W→∀ q,W.cell? ⟨w.heap.size,q,none⟩=_:=fun W hW=>CS W (hx02.trans hW)
 have CT2:∀ W,Ext w2 W→∀ q,W.cell? ⟨w.heap.size+1,q,none⟩=#[Value.int .i64 t.al,.int .i64 t.st,.slice _ k c2][q]?:=fun W hW=>CT W (hx02.trans hW)
 have CP2:∀ W,Ext w2 W→∀ q,W.cell? ⟨w.heap.size+1+1,q,none⟩=_:=fun W hW=>CP W (hx02.trans hW)
 have hww2:=Ext.refl w2
 clear hww CS CT CP
 go_upto_region 6 with (first
  |(go_at_call 70;refine (HNT.out _ hww2).mono ?_;intro e w3 hret;obtain⟨hx3,nr,nc,R,cr,C,cc,rfl,hcr,hcc,hT3⟩:=hret.fill (w0:=w2) (Nat.le_refl _);clear hret))
 have hx36:Ext w3 (((w3.alloc (.cells #[.slice R nr cr,.slice C nc cc] 101)).alloc (.cells #[.int .i64 2,.int .i64 0,.slice none 0 0,.slice none 0 0,.string ⟨#[]⟩,.int .i64 0] 67)).alloc (.cells #[.int .i64 0,.slice none 0 0,.slice none 0 0] 31)):=(((Ext.refl _).alloc _).alloc _).alloc _
 obtain⟨c13,c15,c16⟩:=zK (Ext.refl (((w3.alloc (.cells #[.slice R nr cr,.slice C nc cc] 101)).alloc (.cells #[.int .i64 2,.int .i64 0,.slice none 0 0,.slice none 0 0,.string ⟨#[]⟩,.int .i64 0] 67)).alloc (.cells #[.int .i64 0,.slice none 0 0,.slice none 0 0] 31)))
 go_wp2_with fail
 obtain⟨G,hG⟩:∃ G,Hid (w3.heap.size=G):=⟨_,rfl⟩
 have hGw:w2.heap.size≤G:=by rw [← hG.out];exact hx3.size
 generalize ((w3.alloc (.cells #[.slice R nr cr,.slice C nc cc] 101)).alloc (.cells #[.int .i64 2,.int .i64 0,.slice none 0 0,.slice none 0 0,.string ⟨#[]⟩,.int .i64 0] 67)).alloc (.cells #[.int .i64 0,.slice none 0 0,.slice none 0 0] 31)=w6 at *
 rw [hG.out] at c13 c15 c16 ⊢
 have hx26:=hx3.trans hx36
 have hTM:TabM w2 w6 G tab0:=⟨nr,nc,R,cr,C,cc,c13,hcr,hcc,fun rs cs e=>⟨zh (hT3 rs cs e).1 hx36,zh (hT3 rs cs e).2 hx36⟩⟩
 clear hT3 c13 hx3 hx36
 go_loopw [14] (fun fv wr=>∃ (o:Option (List ByteArray × List ByteArray)) (j:Nat) (x:Int) (X:Option Addr) (k1 d1:Nat) (X':Option Addr) (k1' d1':Nat),fv=.bool o.isSome∧j≤K∧Hid (zeJ L (zt s p L) o)∧Hid (runT s t p L (K - j) j o=fin)∧TabM w2 wr G o∧Blk wr (G+1) 67 #[.int .i64 2,.int .i64 0,.slice none 0 0,.slice none 0 0,.string ⟨#[]⟩,.int .i64 j]∧Blk wr (G+1+1) 31 #[.int .i64 x,.slice X k1 d1,.slice X' k1' d1']∧Ext w2 wr) (fun _ wr=>K - roAt wr (G+1))
 case atStart=>exact⟨tab0,0,0,none,0,0,none,0,0,rfl,Nat.zero_le _,htok,ziM,hTM,c15,c16,hx26⟩
 case round =>
  clear hTM c15 c16 hx26
  obtain⟨o,j,x,X,k1,d1,X',k1',d1',rfl,hj,hok,hrun,hTM,c15,c16,hxr⟩:=hrel
  have k15:=c15.cell
  have k16:=c16.cell
  by_cases hgo:o.isSome=true∧j<K
  ·obtain⟨⟨⟨rs,cs⟩,rfl⟩,hlt⟩:(∃ q,o=some q)∧j<K:=⟨Option.isSome_iff_exists.1 hgo.1,hgo.2⟩
   clear hgo
   obtain⟨hI,hcl⟩:=hok.out rs cs rfl
   have hlt':(j:Int)<(K:Int):=by omega
   have f15:=c15.frozen
   have c15a:Blk (wr.setCell ⟨G+1,5,none⟩ (.int .i64 ((j:Int)+1))) (G+1) 67 #[.int .i64 2,.int .i64 0,.slice none 0 0,.slice none 0 0,.string ⟨#[]⟩,.int .i64 ((j:Int)+1)]:=by
    simpa using c15.set_ 5 (.int .i64 ((j:Int)+1))
   have hfA:Frm (fun b=>b=G+1) wr (wr.setCell ⟨G+1,5,none⟩ (.int .i64 ((j:Int)+1))):=Frm.setCell wr _ 5 _
   have c16a:=c16.frm hfA (by omega)
   have hTMa:=hTM.far c15 hfA (by omega) (by decide)
   have hxa:=hxr.setCell (p:=⟨G+1,5,none⟩) (by dsimp only;omega) (.int .i64 ((j:Int)+1))
   go_upto_region 10 with fail
   have hmes:=za (roAt_blk c15)
   clear k15 k16 f15 hTM c15 c16 hxr hfA
   generalize wr.setCell ⟨G+1,5,none⟩ (.int .i64 ((j:Int)+1))=wA at *
   obtain⟨nr,nc,R,cr,C,cc,c13,hcr,hcc,hTT⟩:=hTMa
   obtain⟨oR,oC⟩:=hTT rs cs rfl
   have HTat:=za (show TabAt wA R nr C nc rs cs from ⟨_,_,_,_,Reads.of_own oR,Reads.of_own oC⟩)
   have k13:=c13.cell
   have cTc:=CTc wA hxa
   have hI':=za hI
   have hcl':=za hcl
   have hva:=za (zcq hI hcl htch.lt)
   clear hI hcl hTT
   go_upto_region 11 with (first
    |(go_at_call 71;refine (HTA.out _ _ _ _ _ _ rs cs _ hxa HTat.out hI'.out hcr hcc hcl'.out).mono ?_;rintro e wB ⟨Y,q1,e1,Y',q1',e1',rfl,hownA,hxB⟩))
   obtain⟨aut,haut⟩:∃ aut,Hid (zdn L (zt s p L) rs cs=aut):=⟨_,rfl⟩
   rw [haut.out] at hownA hva ⊢
   have hxC:=(Ext.refl wB).alloc (.cells #[.int .i64 aut.al,.slice Y q1 e1,.slice Y' q1' e1'] 31)
   have b17:=Blk.new wB 31 #[.int .i64 aut.al,.slice Y q1 e1,.slice Y' q1' e1']
   have hownC:=hownA.ext hxC
   generalize wB.alloc (.cells #[.int .i64 aut.al,.slice Y q1 e1,.slice Y' q1' e1'] 31)=wC at *
   have hxBC:=hxB.trans hxC
   have c16C:=c16a.ext hxBC
   have c15C:=c15a.ext hxBC
   have c13C:=c13.ext hxBC
   have oRC:=zh oR hxBC
   have oCC:=zh oC hxBC
   have k16:=c16C.cell
   have f16:=c16C.frozen
   have k17:=b17.cell
   have hfD:=zap wC (G+1+1) (.int .i64 aut.al) (.slice Y q1 e1) (.slice Y' q1' e1')
   have c16D:=zaT c16C rfl (.int .i64 aut.al) (.slice Y q1 e1) (.slice Y' q1' e1')
   have c15D:=c15C.frm hfD (by omega)
   have c13D:=c13C.frm hfD (by omega)
   have oRD:=zg oRC hfD (fun b hv e=>zw oRC c16C (by decide) hv e)
   have oCD:=zg oCC hfD (fun b hv e=>zw oCC c16C (by decide) hv e)
   have hownD:=hownC.farT c16C hfD (by decide)
   have hxD:=((hxa.trans hxBC).frm hfD (fun k hk e=>by omega))
   have hsB:=za (hxa.trans hxB).size
   have hsA:=za hxa.size
   clear c16C c15C c13C oRC oCC hfD hownC hownA b17 c16a c15a c13 oR oC k13 cTc HTat
   go_upto_region 12 with fail
   generalize ((wC.setCell ⟨G+1+1,0,none⟩ (.int .i64 aut.al)).setCell ⟨G+1+1,1,none⟩ (.slice Y q1 e1)).setCell ⟨G+1+1,2,none⟩ (.slice Y' q1' e1')=wD at *
   clear k16 f16 k17
   have HJ:=za (ziz (c:=c) (d:=d) (d':=d') (c2:=c2) (d1:=e1) (d1':=e1') (htch2.ext hxD) (HSt.out wD (hx0.trans (hx02.trans hxD))) hownD.reads Hv.out.2.2 hva.out)
   have hJs:=za (judgeT_size (L:=L) Hv.out.1 Hv.out.2.1 Hv.out.2.2 hva.out)
   obtain⟨J,hJ⟩:∃ J,Hid (zaU s p t L aut=J):=⟨_,rfl⟩
   rw [hJ.out] at HJ hJs
   have k16:=c16D.cell
   have cTk:=CTk wD hxD
   have cTt:=CT2 wD hxD
   go_upto_region 13 with (first
    |(go_at_call 175;refine HJ.out.mono ?_;rintro e wE ⟨rfl,hxE⟩))
   have hxDE:=hxD.trans hxE
   have c16E:=c16D.ext hxE
   have c15E:=c15D.ext hxE
   have c13E:=c13D.ext hxE
   have oRE:=zh oRD hxE
   have oCE:=zh oCD hxE
   have hownE:=hownD.ext hxE
   clear k16 cTk cTt c16D c15D c13D oRD oCD hownD HJ
   have hrunJ:=za (show (if J.2=0 then (⟨0,aut,⟨#[]⟩,j+1⟩:Vd) else if J.2=1 then ⟨1,noA,zaf [s,t] p,j+1⟩ else runT s t p L (K - (j+1)) (j+1) (zaV L (zt s p L) rs cs J.1))=fin by
    rw [← hrun.out,show K - j=(K - (j+1))+1 by omega]
    show _=runT s t p L ((K - (j+1))+1) j (some (rs,cs))
    rw [runT,haut.out,hJ.out])
   by_cases hJ0:J.2=0
   ·have hfn:=za (show fin=⟨0,aut,⟨#[]⟩,j+1⟩ by rw [← hrunJ.out,if_pos hJ0])
    have k15:=c15E.cell
    have f15:=c15E.frozen
    have c15F:Blk (wE.setCell ⟨G+1,0,none⟩ (.int .i64 0)) (G+1) 67 #[.int .i64 0,.int .i64 0,.slice none 0 0,.slice none 0 0,.string ⟨#[]⟩,.int .i64 ((j:Int)+1)]:=by
     simpa using c15E.set_ 0 (.int .i64 0)
    have hfF:Frm (fun b=>b=G+1) wE (wE.setCell ⟨G+1,0,none⟩ (.int .i64 0)):=Frm.setCell wE _ 0 _
    have c16F:=c16E.frm hfF (by omega)
    have hownF:=hownE.farT c15E hfF (by decide)
    have hxF:=hxDE.setCell (p:=⟨G+1,0,none⟩) (by dsimp only;omega) (.int .i64 0)
    clear hrunJ c13E c16E oRE oCE hfF hownE c15E
    go_upto_region 16 with fail
    generalize wE.setCell ⟨G+1,0,none⟩ (.int .i64 0)=wF at *
    clear k15 f15 hJ0
    have HCp:=za (zaY (c:=e1) (c':=e1') hownF.reads (zck hva.out))
    have k16:=c16F.cell
    go_upto_region 17 with (first
     |(go_at_call 119;refine HCp.out.mono ?_;rintro e wG ⟨Z1,z1,y1,Z2,z2,y2,rfl,hownG,hxG⟩;have k15:=(c15F.ext hxG).cell;have f15:=(c15F.ext hxG).frozen))
    have c15G:=c15F.ext hxG
    have c16G:=c16F.ext hxG
    have hfH:Frm (fun b=>b=G+1) wG (((wG.setCell ⟨G+1,1,none⟩ (.int .i64 aut.al)).setCell ⟨G+1,2,none⟩ (.slice Z1 z1 y1)).setCell ⟨G+1,3,none⟩ (.slice Z2 z2 y2)):=((Frm.setCell wG _ 1 _).trans (Frm.setCell _ _ 2 _)).trans (Frm.setCell _ _ 3 _)
    have c15H:Blk (((wG.setCell ⟨G+1,1,none⟩ (.int .i64 aut.al)).setCell ⟨G+1,2,none⟩ (.slice Z1 z1 y1)).setCell ⟨G+1,3,none⟩ (.slice Z2 z2 y2)) (G+1) 67 #[.int .i64 0,.int .i64 aut.al,.slice Z1 z1 y1,.slice Z2 z2 y2,.string ⟨#[]⟩,.int .i64 ((j:Int)+1)]:=by
     simpa using ((c15G.set_ 1 (.int .i64 aut.al)).set_ 2 (.slice Z1 z1 y1)).set_ 3 (.slice Z2 z2 y2)
    have c16H:=c16G.frm hfH (by omega)
    have hownH:=(hownG.farT c15G hfH (by decide)).less (show w.heap.size≤wF.heap.size by have:=hxF.size;have:=hx02.size;have:=hx0.size;omega)
    have hxH:=(hxF.trans hxG).frm hfH (fun k hk e=>by omega)
    clear k15 f15 k16 c15F c16F c15G c16G hfH hownF hownG HCp
    generalize ((wG.setCell ⟨G+1,1,none⟩ (.int .i64 aut.al)).setCell ⟨G+1,2,none⟩ (.slice Z1 z1 y1)).setCell ⟨G+1,3,none⟩ (.slice Z2 z2 y2)=wH at *
    have hxw:Ext w wH:=hx0.trans (hx02.trans hxH)
    have hb8:=b8.ext (hx02.trans hxH)
    have hb9':=b9.ext (hx02.trans hxH)
    obtain⟨f1,f2,f3⟩:=zgc (v:=⟨0,aut,⟨#[]⟩,j+1⟩) (x:=aut.al) (X:=Y) (k1:=q1) (d1:=e1) (X':=Y') (k1':=q1') (d1':=e1') hxw hb8 hb9' rfl rfl (by omega) hownH
    have F1:=za (zcU.cast hfn.out f1.out.drew)
    clear f1
    simp only [Int.natCast_add,Int.cast_ofNat_Int] at F1 f2 f3
    have F2:=za f2
    have F3:=za f3
    clear f2 f3
    have k8:=hb8.cell
    have z8:=hb8.frozen
    have k9:=hb9'.cell
    have z9:=hb9'.frozen
    have hne1:G+1≠Z:=by have:=hx02.size;omega
    have hne2:G+1+1≠Z:=by have:=hx02.size;omega
    have C15:∀ W,Frm (fun b=>b=Z) wH W→∀ q,W.cell? ⟨G+1,q,none⟩=#[Value.int .i64 0,.int .i64 aut.al,.slice Z1 z1 y1,.slice Z2 z2 y2,.string ⟨#[]⟩,.int .i64 ((j:Int)+1)][q]?:=fun W hW=>(c15H.frm hW hne1).cell
    have C16:∀ W,Frm (fun b=>b=Z) wH W→∀ q,W.cell? ⟨G+1+1,q,none⟩=#[Value.int .i64 aut.al,.slice Y q1 e1,.slice Y' q1' e1'][q]?:=fun W hW=>(c16H.frm hW hne2).cell
    have hS0:Frm (fun b=>b=Z) wH wH.drew:=⟨rfl,rfl,rfl,Nat.le_refl _,fun _ _ _=>rfl⟩
    have hf8:=za (zgG wH Z (.int .i64 0) (.int .i64 aut.al) (.slice Z1 z1 y1) (.slice Z2 z2 y2) (.string ⟨#[]⟩) (.int .i64 ((j:Int)+1)))
    clear c15H c16H hownH hb8 hb9' hxw hne1 hne2
    go_wp2_with fail
    refine zba (fun Y=>Frm (fun b=>b=Z) wH Y) [3] (zu.of [0,1,2,3]) (by kernel_rfl) (by kernel_rfl) (by kernel_rfl) (by kernel_rfl) (by kernel_rfl) (fun _ _ _ _ _ h=>h) hS0 ?_
    refine zbm (v:=?_) rfl rfl rfl rfl (fun X hX=>?_) ?_
    rotate_left
    focus (go_simp<;>with_reducible rfl)
    refine pT ?_
    refine zbm (v:=?_) rfl rfl rfl rfl (fun X hX=>?_) ?_
    rotate_left
    focus (go_simp<;>with_reducible rfl)
    refine pT ?_
    refine ze fun K hK=>?_;go_simp
    refine hK.out _ _ hf8.out.drew ?_
    refine pT ?_
    refine zb fun K hK=>?_
    go_simp
    refine hK.out _ _ ?_
    refine zf ?_
    go_wp2_with fail
    have cf2:=F2.out.cell
    have cf3:=F3.out.cell
    exact bodyPost_ret (v:=.tuple #[.agg #[.int .i64 0,.int .i64 aut.al,.slice Z1 z1 y1,.slice Z2 z2 y2,.string ⟨#[]⟩,.int .i64 ((j:Int)+1)],.agg #[.int .i64 aut.al,.slice Y q1 e1,.slice Y' q1' e1']]) (by simp [results,Tryz.results97,go_sem,cf2,cf3]) rfl F1.out
   ·by_cases hJ1:J.2=1
    ·have hfn:=za (show fin=⟨1,noA,zaf [s,t] p,j+1⟩ by rw [← hrunJ.out,if_neg hJ0,if_pos hJ1])
     have HP:=za (HPv2.out wE (hx0.trans (hx02.trans hxDE)))
     have cS:=CS2 wE hxDE
     have cT:=CT2 wE hxDE
     have cP:∀ (v:Array Value) (q:Nat),(wE.alloc (.cells v 38)).cell? ⟨w.heap.size+1+1,q,none⟩=_:=fun v q=>CP2 _ (hxDE.trans ((Ext.refl wE).alloc _)) q
     clear hJ0 hrunJ c13E oRE oCE hownE
     go_upto_region 20 with (first
      |(go_at_call 147;refine HP.out.mono ?_;rintro e wF ⟨rfl,hxF⟩;clear cS cT cP))
     have c15F:=c15E.ext hxF
     have c16F:=c16E.ext hxF
     have hxDF:=hxDE.trans hxF
     have k15:=c15F.cell
     have f15:=c15F.frozen
     clear HP c15E c16E
     go_upto_region 22 with fail
     have hfH:Frm (fun b=>b=G+1) wF ((wF.setCell ⟨G+1,0,none⟩ (.int .i64 1)).setCell ⟨G+1,4,none⟩ (.string (zaf [s,t] p))):=(Frm.setCell wF _ 0 _).trans (Frm.setCell _ _ 4 _)
     have c15H:Blk ((wF.setCell ⟨G+1,0,none⟩ (.int .i64 1)).setCell ⟨G+1,4,none⟩ (.string (zaf [s,t] p))) (G+1) 67 #[.int .i64 1,.int .i64 0,.slice none 0 0,.slice none 0 0,.string (zaf [s,t] p),.int .i64 ((j:Int)+1)]:=by
      simpa using (c15F.set_ 0 (.int .i64 1)).set_ 4 (.string (zaf [s,t] p))
     have c16H:=c16F.frm hfH (by omega)
     have hxH:=hxDF.frm hfH (fun k hk e=>by omega)
     clear k15 f15 c15F c16F hfH hJ1
     generalize (wF.setCell ⟨G+1,0,none⟩ (.int .i64 1)).setCell ⟨G+1,4,none⟩ (.string (zaf [s,t] p))=wH at *
     have hxw:Ext w wH:=hx0.trans (hx02.trans hxH)
     have hb8:=b8.ext (hx02.trans hxH)
     have hb9':=b9.ext (hx02.trans hxH)
     obtain⟨f1,f2,f3⟩:=zgc (v:=⟨1,noA,zaf [s,t] p,j+1⟩) (A:=none) (n:=0) (c:=0) (A':=none) (n':=0) (c':=0) (x:=aut.al) (X:=Y) (k1:=q1) (d1:=e1) (X':=Y') (k1':=q1') (d1':=e1') hxw hb8 hb9' rfl rfl (by omega) (⟨⟨[],World.ownsRow_nil _ _ _ _,zx.nil _ _⟩,rfl,World.ownsRow_nil _ _ _ _,rfl⟩:zac wH w.heap.size none 0 0 none 0 0 noA)
     have F1:=za (zcU.cast hfn.out f1.out.drew)
     clear f1
     simp only [noA,Int.natCast_add,Int.cast_ofNat_Int] at F1 f2 f3
     have F2:=za f2
     have F3:=za f3
     clear f2 f3
     have k8:=hb8.cell
     have z8:=hb8.frozen
     have k9:=hb9'.cell
     have z9:=hb9'.frozen
     have hne1:G+1≠Z:=by have:=hx02.size;omega
     have hne2:G+1+1≠Z:=by have:=hx02.size;omega
     have C15:∀ W,Frm (fun b=>b=Z) wH W→∀ q,W.cell? ⟨G+1,q,none⟩=#[Value.int .i64 1,.int .i64 0,.slice none 0 0,.slice none 0 0,.string (zaf [s,t] p),.int .i64 ((j:Int)+1)][q]?:=fun W hW=>(c15H.frm hW hne1).cell
     have C16:∀ W,Frm (fun b=>b=Z) wH W→∀ q,W.cell? ⟨G+1+1,q,none⟩=#[Value.int .i64 aut.al,.slice Y q1 e1,.slice Y' q1' e1'][q]?:=fun W hW=>(c16H.frm hW hne2).cell
     have hS0:Frm (fun b=>b=Z) wH wH.drew:=⟨rfl,rfl,rfl,Nat.le_refl _,fun _ _ _=>rfl⟩
     have hf8:=za (zgG wH Z (.int .i64 1) (.int .i64 0) (.slice none 0 0) (.slice none 0 0) (.string (zaf [s,t] p)) (.int .i64 ((j:Int)+1)))
     clear c15H c16H hb8 hb9' hxw hne1 hne2
     go_wp2_with fail
     refine zba (fun Y=>Frm (fun b=>b=Z) wH Y) [3] (zu.of [0,1,2,3]) (by kernel_rfl) (by kernel_rfl) (by kernel_rfl) (by kernel_rfl) (by kernel_rfl) (fun _ _ _ _ _ h=>h) hS0 ?_
     refine zbm (v:=?_) rfl rfl rfl rfl (fun X hX=>?_) ?_
     rotate_left
     focus (go_simp<;>with_reducible rfl)
     refine pT ?_
     refine zbm (v:=?_) rfl rfl rfl rfl (fun X hX=>?_) ?_
     rotate_left
     focus (go_simp<;>with_reducible rfl)
     refine pT ?_
     refine ze fun K hK=>?_;go_simp
     refine hK.out _ _ hf8.out.drew ?_
     refine pT ?_
     refine zb fun K hK=>?_
     go_simp
     refine hK.out _ _ ?_
     refine zf ?_
     go_wp2_with fail
     have cf2:=F2.out.cell
     have cf3:=F3.out.cell
     exact bodyPost_ret (v:=.tuple #[.agg #[.int .i64 1,.int .i64 0,.slice none 0 0,.slice none 0 0,.string (zaf [s,t] p),.int .i64 ((j:Int)+1)],.agg #[.int .i64 aut.al,.slice Y q1 e1,.slice Y' q1' e1']]) (by simp [results,Tryz.results97,go_sem,cf2,cf3]) rfl F1.out
    ·have e0:(J.2==0)=false:=by simpa using hJ0
     have e2:(J.2==1)=false:=by simpa using hJ1
     have hrunL:=za (show runT s t p L (K - (j+1)) (j+1) (zaV L (zt s p L) rs cs J.1)=fin by
      have:=hrunJ.out
      rw [if_neg hJ0,if_neg hJ1] at this
      exact this)
     clear hJ0 hJ1 hrunJ
     have cTc:=CTc wE hxDE
     have k13:=c13E.cell
     have HTatE:=za (show TabAt wE R nr C nc rs cs from ⟨_,_,_,_,Reads.of_own oRE,Reads.of_own oCE⟩)
     go_upto_region 24 with (first
      |(go_at_call 77;refine (HLS.out _ _ _ _ _ _ rs cs J.1 _ hxDE HTatE.out hI'.out hcr hcc hcl'.out (by have:=hJs.out;omega)).mono ?_;intro e wF hret;obtain⟨hxF,nr2,nc2,R2,cr2,C2,cc2,rfl,hcr2,hcc2,hT2⟩:=hret.fill (w0:=w2) hxDE.size;clear hret))
     have hokL:=za (zeJ.learn hI'.out J.1)
     generalize zaV L (zt s p L) rs cs J.1=oL at *
     have hxG:=(Ext.refl wF).alloc (.cells #[.slice R2 nr2 cr2,.slice C2 nc2 cc2] 101)
     have b23:=Blk.new wF 101 #[.slice R2 nr2 cr2,.slice C2 nc2 cc2]
     generalize wF.alloc (.cells #[.slice R2 nr2 cr2,.slice C2 nc2 cc2] 101)=wG at *
     have hxEG:=hxF.trans hxG
     have c13G:=c13E.ext hxEG
     have c15G:=c15E.ext hxEG
     have c16G:=c16E.ext hxEG
     have hxDG:=hxDE.trans hxEG
     have k23:=b23.cell
     have k13G:=c13G.cell
     have f13G:=c13G.frozen
     have hfH:Frm (fun b=>b=G) wG ((wG.setCell ⟨G,0,none⟩ (.slice R2 nr2 cr2)).setCell ⟨G,1,none⟩ (.slice C2 nc2 cc2)):=(Frm.setCell wG _ 0 _).trans (Frm.setCell _ _ 1 _)
     have hTMH:TabM w2 ((wG.setCell ⟨G,0,none⟩ (.slice R2 nr2 cr2)).setCell ⟨G,1,none⟩ (.slice C2 nc2 cc2)) G oL:=
      ⟨nr2,nc2,R2,cr2,C2,cc2,by simpa using (c13G.set_ 0 (.slice R2 nr2 cr2)).set_ 1 (.slice C2 nc2 cc2),hcr2,hcc2,fun rs' cs' e=>by
       have h1:=zh (hT2 rs' cs' e).1 hxG
       have h2:=zh (hT2 rs' cs' e).2 hxG
       exact⟨zg h1 hfH (fun b hv e'=>zw h1 c13G (by decide) hv e'),zg h2 hfH (fun b hv e'=>zw h2 c13G (by decide) hv e')⟩⟩
     have c15H:=c15G.frm hfH (by omega)
     have c16H:=c16G.frm hfH (by omega)
     have hxH:=hxDG.frm hfH (fun k hk e=>by omega)
     clear cTc k13 c13E c15E c16E oRE oCE hownE c13G c15G c16G hfH b23 hT2
     go_upto_region 25 with fail
     generalize (wG.setCell ⟨G,0,none⟩ (.slice R2 nr2 cr2)).setCell ⟨G,1,none⟩ (.slice C2 nc2 cc2)=wH at *
     clear k23 k13G f13G
     have hjj:((j:Int)+1)=((j+1:Nat):Int):=by omega
     rw [hjj] at c15H
     have hmes2:=za (roAt_blk c15H)
     clear hjj
     go_wp2_with fail
     go_roundw
     case rel=>exact⟨oL,j+1,aut.al,Y,q1,e1,Y',q1',e1',rfl,by omega,hokL,hrunL,hTMH,c15H,c16H,hxH⟩
     case measure=>have h1:=hmes.out;have h2:=hmes2.out;omega
  ·have hfn:=za (show fin=⟨2,noA,⟨#[]⟩,j⟩ by
    rw [← hrun.out]
    exact runT_end hgo)
   have hb8:=(b8.ext (hx02.trans hxr))
   have hb9':=(b9.ext (hx02.trans hxr))
   have hon:zac wr w.heap.size none 0 0 none 0 0 noA:=⟨⟨[],World.ownsRow_nil _ _ _ _,zx.nil _ _⟩,rfl,World.ownsRow_nil _ _ _ _,rfl⟩
   have hflag:(o.isSome&&decide ((j:Int)<(K:Int)))=false:=by
    rw [Bool.eq_false_iff]
    intro h
    simp only [Bool.and_eq_true,decide_eq_true_eq] at h
    exact hgo ⟨h.1,by omega⟩
   have hxw:Ext w wr:=hx0.trans (hx02.trans hxr)
   have hd:Ext wr wr.drew:=(Ext.refl wr).drew
   obtain⟨f1,f2,f3⟩:=zgc (v:=⟨2,noA,⟨#[]⟩,j⟩) (x:=x) (X:=X) (k1:=k1) (d1:=d1) (X':=X') (k1':=k1') (d1':=d1') hxw hb8 hb9' rfl rfl (by omega) hon
   have F1:=za (zcU.cast hfn.out f1.out.drew)
   clear f1
   simp only [noA] at F1 f2 f3
   have F2:=za f2
   have F3:=za f3
   clear f2 f3
   have k8:=hb8.cell
   have z8:=hb8.frozen
   have k9:=hb9'.cell
   have z9:=hb9'.frozen
   have hsw:=hx0.size
   have hne1:G+1≠Z:=by have:=hx02.size;omega
   have hne2:G+1+1≠Z:=by have:=hx02.size;omega
   have C15:∀ W,Frm (fun b=>b=Z) wr W→∀ q,W.cell? ⟨G+1,q,none⟩=#[Value.int .i64 2,.int .i64 0,.slice none 0 0,.slice none 0 0,.string ⟨#[]⟩,.int .i64 j][q]?:=fun W hW=>(c15.frm hW hne1).cell
   have C16:∀ W,Frm (fun b=>b=Z) wr W→∀ q,W.cell? ⟨G+1+1,q,none⟩=#[Value.int .i64 x,.slice X k1 d1,.slice X' k1' d1'][q]?:=fun W hW=>(c16.frm hW hne2).cell
   have hS0:Frm (fun b=>b=Z) wr wr.drew:=⟨rfl,rfl,rfl,Nat.le_refl _,fun _ _ _=>rfl⟩
   have hf8:=za (zgG wr (Z) (.int .i64 2) (.int .i64 0) (.slice none 0 0) (.slice none 0 0) (.string ⟨#[]⟩) (.int .i64 j))
   cases ho:o.isSome
   ·have Ho:=za ho
    rw [ho] at hflag
    exact yC12a3
   ·have hnlt:¬ ((j:Int)<(K:Int)):=fun h=>hgo ⟨ho,by omega⟩
    have Ho:=za ho
    exact yC12a3
end
def zgh (w:World) (v:Vd) (e:Ending) (w':World):Prop:=
 ∃ (A:Option Addr) (n c:Nat) (A':Option Addr) (n' c':Nat),
  e=.returned (.agg #[.int .i64 v.code,.int .i64 v.asm.al,.slice A n c,.slice A' n' c',.string v.tr,.int .i64 v.ro])∧zac w' w.heap.size A n c A' n' c' v.asm∧Ext w w'
section
variable {w:World} {lo hi n c lo1 hi1 m d m' d' lo2 hi2 k c2:Nat} {A B B' C:Option Addr} {s t:Sys} {p:Aut}
theorem zcQ {v:Vd} (HR:Hid (∀ W,Ext w W→Calls Tryz.prog 97 #[.agg #[.int .i64 s.al,.int .i64 s.st,.slice A n c],.agg #[.int .i64 t.al,.int .i64 t.st,.slice C k c2],.agg #[.int .i64 p.al,.slice B m d,.slice B' m' d'],.int .i64 12] W (zcU W v))) :
  Calls Tryz.prog 44 #[.agg #[.int .i64 s.al,.int .i64 s.st,.slice A n c],.agg #[.int .i64 t.al,.int .i64 t.st,.slice C k c2],.agg #[.int .i64 p.al,.slice B m d,.slice B' m' d']] w
   (zgh w v):=by
 have hx0:Ext w ((((w.alloc (.cells #[.int .i64 s.al,.int .i64 s.st,.slice A n c] 38)).alloc (.cells #[.int .i64 t.al,.int .i64 t.st,.slice C k c2] 38)).alloc (.cells #[.int .i64 p.al,.slice B m d,.slice B' m' d'] 31)).alloc (.cells #[.int .i64 0,.int .i64 0,.slice none 0 0,.slice none 0 0,.string ⟨#[]⟩,.int .i64 0] 67)):=((((Ext.refl _).alloc _).alloc _).alloc _).alloc _
 obtain⟨b1,b2,b3⟩:=zK ((Ext.refl _).alloc _:Ext (((w.alloc (.cells #[.int .i64 s.al,.int .i64 s.st,.slice A n c] 38)).alloc (.cells #[.int .i64 t.al,.int .i64 t.st,.slice C k c2] 38)).alloc (.cells #[.int .i64 p.al,.slice B m d,.slice B' m' d'] 31)) ((((w.alloc (.cells #[.int .i64 s.al,.int .i64 s.st,.slice A n c] 38)).alloc (.cells #[.int .i64 t.al,.int .i64 t.st,.slice C k c2] 38)).alloc (.cells #[.int .i64 p.al,.slice B m d,.slice B' m' d'] 31)).alloc (.cells #[.int .i64 0,.int .i64 0,.slice none 0 0,.slice none 0 0,.string ⟨#[]⟩,.int .i64 0] 67)))
 have b6:=Blk.new (((w.alloc (.cells #[.int .i64 s.al,.int .i64 s.st,.slice A n c] 38)).alloc (.cells #[.int .i64 t.al,.int .i64 t.st,.slice C k c2] 38)).alloc (.cells #[.int .i64 p.al,.slice B m d,.slice B' m' d'] 31)) 67 #[.int .i64 0,.int .i64 0,.slice none 0 0,.slice none 0 0,.string ⟨#[]⟩,.int .i64 0]
 simp only [World.size_alloc] at b6
 go_enter Tryz.func44,Tryz.ntmps44
 go_upto_region 1 with fail
 generalize (((w.alloc (.cells #[.int .i64 s.al,.int .i64 s.st,.slice A n c] 38)).alloc (.cells #[.int .i64 t.al,.int .i64 t.st,.slice C k c2] 38)).alloc (.cells #[.int .i64 p.al,.slice B m d,.slice B' m' d'] 31)).alloc (.cells #[.int .i64 0,.int .i64 0,.slice none 0 0,.slice none 0 0,.string ⟨#[]⟩,.int .i64 0] 67)=w0 at *
 have c1:=b1.cell
 have cc2:=b2.cell
 have c3:=b3.cell
 go_upto_region 2 with (first
  |(go_at_call 97;refine (HR.out w0 hx0).mono ?_;rintro e w1 ⟨A1,n1,k1,A2,n2,k2,x,X,q1,d1,X',q1',d1',rfl,ho,hx1⟩;clear c1 cc2 c3))
 have hx2:=((Ext.refl w1).alloc (.cells #[.int .i64 v.code,.int .i64 v.asm.al,.slice A1 n1 k1,.slice A2 n2 k2,.string v.tr,.int .i64 v.ro] 67)).alloc (.cells #[.int .i64 x,.slice X q1 d1,.slice X' q1' d1'] 31)
 have b7:=(Blk.new w1 67 #[.int .i64 v.code,.int .i64 v.asm.al,.slice A1 n1 k1,.slice A2 n2 k2,.string v.tr,.int .i64 v.ro]).ext ((Ext.refl _).alloc (.cells #[.int .i64 x,.slice X q1 d1,.slice X' q1' d1'] 31))
 generalize (w1.alloc (.cells #[.int .i64 v.code,.int .i64 v.asm.al,.slice A1 n1 k1,.slice A2 n2 k2,.string v.tr,.int .i64 v.ro] 67)).alloc (.cells #[.int .i64 x,.slice X q1 d1,.slice X' q1' d1'] 31)=w2 at *
 have b62:=b6.ext (hx1.trans hx2)
 have k7:=b7.cell
 have k6:=b62.cell
 have f6:=b62.frozen
 have ho2:=ho.ext hx2
 have hf:=zgG w2 (w.heap.size+1+1+1) (.int .i64 v.code) (.int .i64 v.asm.al) (.slice A1 n1 k1) (.slice A2 n2 k2) (.string v.tr) (.int .i64 v.ro)
 have b63:Blk ((((((w2.setCell ⟨w.heap.size+1+1+1,0,none⟩ (.int .i64 v.code)).setCell ⟨w.heap.size+1+1+1,1,none⟩ (.int .i64 v.asm.al)).setCell ⟨w.heap.size+1+1+1,2,none⟩ (.slice A1 n1 k1)).setCell ⟨w.heap.size+1+1+1,3,none⟩ (.slice A2 n2 k2)).setCell ⟨w.heap.size+1+1+1,4,none⟩ (.string v.tr)).setCell ⟨w.heap.size+1+1+1,5,none⟩ (.int .i64 v.ro)) (w.heap.size+1+1+1) 67 #[.int .i64 v.code,.int .i64 v.asm.al,.slice A1 n1 k1,.slice A2 n2 k2,.string v.tr,.int .i64 v.ro]:=by
  simpa using (((((b62.set_ 0 (.int .i64 v.code)).set_ 1 (.int .i64 v.asm.al)).set_ 2 (.slice A1 n1 k1)).set_ 3 (.slice A2 n2 k2)).set_ 4 (.string v.tr)).set_ 5 (.int .i64 v.ro)
 have ho3:=(ho2.farT b62 hf (by decide)).less hx0.size
 have hx3:=(hx0.trans (hx1.trans hx2)).frm hf (fun k hk e=>by omega)
 have hret:=za (show zgh w v (.returned (.agg #[.int .i64 v.code,.int .i64 v.asm.al,.slice A1 n1 k1,.slice A2 n2 k2,.string v.tr,.int .i64 v.ro])) _ from ⟨A1,n1,k1,A2,n2,k2,rfl,ho3,hx3⟩)
 have cf:=za b63
 clear b62 ho2 ho ho3 hx3 hf b63
 go_wp2_with fail
 have cf:=cf.out.cell
 exact bodyPost_ret (v:=.agg #[.int .i64 v.code,.int .i64 v.asm.al,.slice A1 n1 k1,.slice A2 n2 k2,.string v.tr,.int .i64 v.ro]) (by simp [results,Tryz.results44,go_sem,cf]) rfl hret.out
theorem zgK {L:Nat}(hs:zM w lo hi A n s)(hp:zC w lo1 hi1 B m B' m' p)(ht:zM w lo2 hi2 C k t)(hif:iface s p t=(L:Int))(hn:n≤1000000)(hhi:hi≤w.heap.size) :
  Calls Tryz.prog 44 #[.agg #[.int .i64 s.al,.int .i64 s.st,.slice A n c],.agg #[.int .i64 t.al,.int .i64 t.st,.slice C k c2],.agg #[.int .i64 p.al,.slice B m d,.slice B' m' d']] w
   (zgh w (runT s t p L 12 0 ((zZ L (zt s p L) [⟨#[]⟩] 11 [⟨#[]⟩]).map fun r=>(r,[⟨#[]⟩])))):=
 zcQ (za (fun W (hW:Ext w W)=>spec_l12Run (K:=12) (hs.ext hW) (hp.ext hW) (ht.ext hW) hif hn (Nat.le_trans hhi hW.size) (by omega)))
end
theorem runT_size {s t:Sys} {p:Aut} {L:Nat}(hL:L<64)(hst:zA [s,t]=true)(hp:zk p=true) (f:Nat):∀ (k:Nat) (o:Option (List ByteArray × List ByteArray)),zeJ L (zt s p L) o→(runT s t p L f k o).asm.size≤1048576∧(runT s t p L f k o).tr.size≤4000:=by
 induction f with
 |zero=>exact fun k o _=>⟨by show noA.size≤_;decide,Nat.zero_le _⟩
 |succ f ih =>
  intro k o ho
  match o with
  |none=>exact⟨by show noA.size≤_;decide,Nat.zero_le _⟩
  |some (rs,cs) =>
   obtain⟨hI,hcl⟩:=ho rs cs rfl
   rw [runT]
   split
   ·exact⟨zck (zcq hI hcl hL),Nat.zero_le _⟩
   ·split
    ·refine⟨by show noA.size≤_;decide,?_⟩
     have h:=(zcr hst hp).2
     have h2:16 ^ [s,t].length*12=3072:=by simp
     show (zaf [s,t] p).size≤4000
     omega
    ·exact ih _ _ (zeJ.learn hI _)
def mk1 (k n:Nat):List Int:=(marks k n).map fun n:Nat=>(n:Int)
def mkL (k:Nat):List (List Int)→List (List Int)
 |[]=>[]
 |l :: r=>mk1 k l.length :: mkL (k+l.length) r
def mkBs (k n:Nat):List Bool:=(List.range n).map fun j=>(k+j) % 3==0
def mkA (k:Nat) (a:Aut):Aut:=⟨a.al,mkL k a.next,mkBs (k+tot a.next) a.acc.length⟩
theorem tot_cons (l:List Int) (r:List (List Int)):tot (l :: r)=l.length+tot r:=by simp [tot]
theorem zhC (k n:Nat):(mk1 k n).length=n:=by simp [mk1,zfH]
theorem mk1_nats (k n:Nat):zS (marks k n)=ints (mk1 k n):=by simp [mk1,zS,ints]
theorem zdV (k:Nat) (ls:List (List Int)):(mkL k ls).length=ls.length:=by
 induction ls generalizing k with
 |nil=>rfl
 |cons l r ih=>simp [mkL,ih]
theorem mkL_get {k j:Nat} {ls:List (List Int)} {l:List Int}(h:ls[j]?=some l):(mkL k ls)[j]?=some (mk1 (k+tot (ls.take j)) l.length):=by
 induction ls generalizing k j with
 |nil=>simp at h
 |cons a r ih =>
  cases j with
  |zero=>simp at h;subst h;simp [mkL,tot]
  |succ j =>
   have:=ih (k:=k+a.length) (j:=j) (by simpa using h)
   rw [mkL,List.getElem?_cons_succ,this,List.take_succ_cons,tot_cons,Nat.add_assoc]
theorem zet (k n:Nat):(mkBs k n).length=n:=by simp [mkBs]
theorem mkBs_get {k n j:Nat}(h:j<n):(mkBs k n)[j]?=some ((k+j) % 3==0):=by simp [mkBs,h]
theorem zx.set_ {w w':World} {base j:Nat} {rows:List Value} {ls:List (List Int)} {A:Option Addr} {c:Nat} {l:List Int}(h:zx w base rows ls)(hr:rows[j]?=some (.slice A l.length c))
  (hf:Frm (blk A) w w') (ziJ:w'.ownsRow base 3 1 (.slice A l.length c) l.length (ints l)):zx w' base rows (ls.set j l):=by
 have hj:j<rows.length:=(List.getElem?_eq_some_iff.1 hr).1
 refine⟨by simp [h.1],fun i row m hi hm=>?_,h.2.2⟩
 by_cases hij:i=j
 ·subst hij
  rw [hr] at hi
  obtain rfl:=Option.some.inj hi
  rw [List.getElem?_set_self (by rw [← h.1];exact hj)] at hm
  obtain rfl:=Option.some.inj hm
  exact ziJ
 ·rw [List.getElem?_set_ne (fun e=>hij e.symm)] at hm
  refine zg (h.2.1 i row m hi hm) hf (fun b hb hS=>?_)
  obtain⟨ad,rfl,rfl⟩:=hS
  exact h.2.2 i j row _ ad.block hi hr hij hb rfl
def OwnLLh (w:World) (base hi:Nat) (v:Value) (ls:List (List Int)):Prop:=
 ∃ rows,w.ownsRow base 128 1 v ls.length rows∧zx w base rows ls∧∀ (i:Nat) (row:Value) (b:Nat),rows[i]?=some row→row.ownBlock=some b→b<hi
def AutH (w:World) (base hi:Nat) (A:Option Addr) (n c:Nat) (A':Option Addr) (n' c':Nat) (a:Aut):Prop:=
 OwnLLh w base hi (.slice A n c) a.next∧(∀ b,(Value.slice A n c).ownBlock=some b→b<hi)∧n=a.next.length∧w.ownsRow base 4 1 (.slice A' n' c') n' (zP a.acc)∧(∀ b,(Value.slice A' n' c').ownBlock=some b→b<hi)∧n'=a.acc.length
section
variable {w w':World} {base hi n c n' c':Nat} {A A':Option Addr} {a:Aut}
theorem zac.high (h:zac w base A n c A' n' c' a):AutH w base w.heap.size A n c A' n' c' a:=by
 obtain⟨⟨rows,h1,h2⟩,h3,h4,h5⟩:=h
 exact⟨⟨rows,h1,h2,fun i row b hr hb=>by
  obtain⟨l,_,ho⟩:=h2.row hr
  exact (ho.lt b hb).2⟩,fun b hb=>(h1.lt b hb).2,h3,h4,fun b hb=>(h4.lt b hb).2,h5⟩
theorem AutH.own (h:AutH w base hi A n c A' n' c' a):zac w base A n c A' n' c' a:=by
 obtain⟨⟨rows,h1,h2,_⟩,_,h3,h4,_,h5⟩:=h
 exact⟨⟨rows,h1,h2⟩,h3,h4,h5⟩
theorem AutH.frm {S:Nat→Prop}(h:AutH w base hi A n c A' n' c' a)(hb:Frm S w w')(hS:∀ b,base≤b→b<hi→¬ S b):AutH w' base hi A n c A' n' c' a:=by
 obtain⟨⟨rows,h1,h2,h6⟩,h7,h3,h4,h8,h5⟩:=h
 exact⟨⟨rows,zg h1 hb (fun b hb=>hS b (h1.lt b hb).1 (h7 b hb)),h2.frm hb (fun i row b hr hb=>by
  obtain⟨l,_,ho⟩:=h2.row hr
  exact hS b (ho.lt b hb).1 (h6 i row b hr hb)),h6⟩,h7,h3,zg h4 hb (fun b hb=>hS b (h4.lt b hb).1 (h8 b hb)),h8,h5⟩
theorem AutH.ext (h:AutH w base hi A n c A' n' c' a)(hb:Ext w w'):AutH w' base hi A n c A' n' c' a:=h.frm hb (fun _ _ _ h=>h)
end
def rblk (rows:List Value) (b:Nat):Prop:=∃ (i:Nat) (row:Value),rows[i]?=some row∧row.ownBlock=some b
theorem set_mid {α:Type} {l:List α} {j:Nat} {x:α}(hl:j<l.length):(∀ i,i<j→(l.set j x)[i]?=l[i]?)∧(l.set j x)[j]?=some x∧∀ i,j<i→(l.set j x)[i]?=l[i]?:=
 ⟨fun i hi=>List.getElem?_set_ne (by omega),List.getElem?_set_self hl,fun i hi=>List.getElem?_set_ne (by omega)⟩
theorem zin {base:Nat} {A:Option Addr} {n c:Nat} {ls:List (List Int)} {rows:List Value} {k:Nat} {w:World}(hv:w.ownsRow base 128 1 (.slice A n c) n rows)(hrows:zx w base rows ls)(hk:k+tot ls≤4611686018427387904) :
  Calls Tryz.prog 66 #[.slice A n c,.int .i64 k] w fun e w'=>e=.returned (.int .i64 (k+tot ls:Nat))∧w'.ownsRow base 128 1 (.slice A n c) n rows∧zx w' base rows (mkL k ls)∧Frm (rblk rows) w w':=by
 have hn9:=(Reads.of_own hv).len
 have hnr:=za (show rows.length=n by have:=hv.1;omega)
 have hln:=za (show ls.length=n by have:=hrows.1;have:=hnr.out;omega)
 have htake:=za (fun j=>zbY ls j)
 go_enter Tryz.func66,Tryz.ntmps66
 go_wp2
 go_loopw [1,5] (fun v i wr=>∃ (j t:Nat) (cur:List (List Int)),j≤n∧i=.int .i64 j∧v=.int .i64 (k+t:Nat)∧Hid (t=tot (ls.take j))∧k+t≤4611686018427387904∧wr.ownsRow base 128 1 (.slice A n c) n rows∧zx wr base rows cur∧Hid ((∀ i,i<j→cur[i]?=(mkL k ls)[i]?)∧∀ i,j≤i→cur[i]?=ls[i]?)∧Frm (rblk rows) w wr) (fun _ i _=>n - (intOf i).toNat)
 case atStart=>exact⟨0,0,ls,Nat.zero_le _,rfl,rfl,za (by simp [tot]),by omega,hv,hrows,za ⟨fun i hi=>absurd hi (by omega),fun i _=>rfl⟩,Frm.refl _ _⟩
 case round =>
  obtain⟨j,t,cur,hj,rfl,rfl,ht,hkt,hvr,hrr,hcur,hf⟩:=hrel
  clear hv hrows
  by_cases hlt:j<n
  ·obtain⟨ad,u,rfl,_,_,hu,hc⟩:=(Reads.of_own hvr).one hlt
   obtain⟨l,hl,hrow⟩:=hrr.row hu.out
   obtain⟨Ak,ck,rfl⟩:=zi hrow
   have hlj:=za (show ls[j]?=some l by rw [← hcur.out.2 j (Nat.le_refl _)];exact hl)
   have htj:=za (show tot (ls.take (j+1))=t+l.length by rw [zbe hlj.out,ht.out])
   have hle:k+t+l.length≤4611686018427387904:=by have:=htake.out (j+1);have:=htj.out;omega
   have hcl:=za (show cur.length=n by have:=hrr.1;have:=hnr.out;omega)
   go_wp2_with (go_at_call 124;refine (markIntS_any (k:=k+t) hrow hle).mono ?_;rintro e w2 ⟨rfl,ziT,hf2⟩)
   rw [mk1_nats] at ziT
   have hlen2:(mk1 (k+t) l.length).length=l.length:=zhC _ _
   have hset:=hrr.set_ (l:=mk1 (k+t) l.length) (by rw [hlen2];exact hu.out) hf2 (by rw [hlen2];exact ziT)
   have hfw:Frm (rblk rows) wr w2:=hf2.mono (fun b _ hb=>by
    obtain⟨a,rfl,rfl⟩:=hb
    exact⟨j,_,hu.out,rfl⟩)
   have hvr2:=zg hvr hf2 (fun b hb hS=>by
    obtain⟨a,rfl,rfl⟩:=hS
    exact zaX hrow hvr (by decide) rfl hb)
   go_roundw
   case rel =>
    refine⟨j+1,t+l.length,_,by omega,by go_num,by go_num,za (by rw [htj.out]),by omega,hvr2,hset,za ?_,hf.trans hfw⟩
    obtain⟨s1,s2,s3⟩:=set_mid (x:=mk1 (k+t) l.length) (show j<cur.length by rw [hcl.out];exact hlt)
    refine⟨fun i hi=>?_,fun i hi=>?_⟩
    ·rcases Nat.lt_or_ge i j with h1|h1
     ·rw [s1 i h1,hcur.out.1 i h1]
     ·obtain rfl:i=j:=by omega
      rw [s2,mkL_get hlj.out,← ht.out]
    ·rw [s3 i (by omega),hcur.out.2 i (by omega)]
   case measure=>simp [intOf];omega
  ·obtain rfl:n=j:=by omega
   have hcl:=za (show cur.length=n by have:=hrr.1;have:=hnr.out;omega)
   have ziM:cur=mkL k ls:=by
    apply List.ext_getElem?
    intro i
    rcases Nat.lt_or_ge i n with h1|h1
    ·exact hcur.out.1 i h1
    ·rw [List.getElem?_eq_none (by rw [hcl.out];exact h1),List.getElem?_eq_none (by rw [zdV,hln.out];exact h1)]
   have htt:=za (show t=tot ls by rw [ht.out,List.take_of_length_le (by rw [hln.out];exact Nat.le_refl _)])
   rw [ziM] at hrr
   go_wp2
   go_ret
   exact⟨zG (by have:=htt.out;omega),hvr,hrr,hf⟩
theorem mod3 (k j:Nat):(((k:Int)+(j:Int)) % 3==0)=((k+j) % 3==0):=by
 by_cases h:(k+j) % 3=0
 ·have h2:((k:Int)+(j:Int)) % 3=0:=by omega
  rw [beq_iff_eq.2 h,beq_iff_eq.2 h2]
 ·have h2:¬ ((k:Int)+(j:Int)) % 3=0:=by omega
  rw [beq_eq_false_iff_ne.2 h,beq_eq_false_iff_ne.2 h2]
theorem zil {base:Nat} {A:Option Addr} {n c:Nat} {xs:List Value} {k:Nat} {w:World}(h:w.ownsRow base 4 1 (.slice A n c) n xs)(hk:k+n≤4611686018427387904) :
  Calls Tryz.prog 67 #[.slice A n c,.int .i64 k] w fun e w'=>e=.returned (.int .i64 (k+n:Nat))∧w'.ownsRow base 4 1 (.slice A n c) n (zP (mkBs k n))∧Frm (blk A) w w':=by
 have hlen:=za h.1
 go_enter Tryz.func67,Tryz.ntmps67
 go_wp2
 go_loopw [1,5] (fun v i wr=>∃ j:Nat,j≤n∧i=.int .i64 j∧v=.int .i64 (k+j:Nat)∧∃ rest:List Value,Hid (rest.length=n - j)∧wr.ownsRow base 4 1 (.slice A n c) n (zP (mkBs k j)++rest)∧Frm (blk A) w wr) (fun _ i _=>n - (intOf i).toNat)
 case atStart=>exact⟨0,Nat.zero_le _,rfl,rfl,xs,by unfold Hid;rw [hlen.out];omega,by simpa [zP,mkBs] using h,Frm.refl _ _⟩
 case round =>
  obtain⟨j,hj,rfl,rfl,rest,hrest,ziJ,hf⟩:=hrel
  by_cases hlt:j<n
  ·obtain⟨g,rfl,hg,_⟩:=zaq ziJ (by omega)
   obtain⟨o0,g0⟩:=zau ziJ j (by omega)
   have f0:=ziJ.frozenAt j
   have hst:=ziJ.stored j (.bool ((k+j) % 3==0))
   have hset:(zP (mkBs k j)++rest).set j (.bool ((k+j) % 3==0))=zP (mkBs k (j+1))++rest.drop 1:=by
    have hl:(zP (mkBs k j)).length=j:=by rw [zaH,zet]
    match rest,hrest.out with
    |[],hr=>simp at hr;omega
    |x :: r,_ =>
     rw [List.set_append_right _ _ (by omega),hl,Nat.sub_self,mkBs,mkBs,List.range_succ,List.map_append]
     simp [zP]
   rw [hset] at hst
   have hst1:=za hst
   have hm3:=mod3 k j
   have h1:(k:Int)+(j:Int)≤4611686018427387904:=by omega
   have h0:0≤(k:Int)+(j:Int):=by omega
   clear hset hst
   rw [← hm3] at hst1
   clear hm3
   go_wp2
   go_roundw
   case rel=>exact⟨j+1,by omega,by go_num,by go_num,rest.drop 1,by have:=hrest.out;unfold Hid;rw [List.length_drop];omega,hst1.out.1,hf.cell (p:=⟨g,j,none⟩) ⟨⟨g,0,none⟩,rfl,rfl⟩ _⟩
   case measure=>simp [intOf];omega
  ·obtain rfl:n=j:=by omega
   obtain rfl:rest=[]:=List.eq_nil_of_length_eq_zero (by have:=hrest.out;omega)
   go_wp2
   go_ret
   exact⟨rfl,by simpa using ziJ,hf⟩
theorem zie {lo hi:Nat} {A:Option Addr} {n c:Nat} {k:Nat} {w:World}(h:Reads w lo hi 1 A n (zP (mkBs k n)))(hk:k+n≤4611686018427387904) :
  Calls Tryz.prog 126 #[.slice A n c,.int .i64 k] w fun e w'=>e=.returned (.int .i64 (k+n:Nat))∧w=w':=by
 have hn:=h.len
 go_enter Tryz.func126,Tryz.ntmps126
 go_wp2
 go_loop [1,5] (fun v i=>∃ j:Nat,j≤n∧i=.int .i64 j∧v=.int .i64 (k+j:Nat)) (fun _ i=>n - (intOf i).toNat)
 case atStart=>exact⟨0,Nat.zero_le _,rfl,rfl⟩
 case round =>
  obtain⟨j,hj,rfl,rfl⟩:=hrel
  by_cases hlt:j<n
  ·obtain⟨ad,x,rfl,_,_,hx,hc⟩:=h.bool hlt
   obtain rfl:x=((k+j) % 3==0):=by
    have:=hx.out
    rw [mkBs_get hlt] at this
    exact (Option.some.inj this).symm
   rw [← mod3 k j] at hc
   have h1:(k:Int)+(j:Int)≤4611686018427387904:=by omega
   have h0:0≤(k:Int)+(j:Int):=by omega
   have hne:((((k:Int)+(j:Int)) % 3==0) != (((k:Int)+(j:Int)) % 3==0))=false:=by simp
   go_wp2
   go_round
   case rel=>exact⟨j+1,by omega,by go_num,by go_num⟩
   case measure=>simp [intOf];omega
  ·obtain rfl:n=j:=by omega
   go_wp2
   go_ret
   exact⟨rfl,rfl⟩
theorem zif {lo hi:Nat} {A:Option Addr} {n c:Nat} {ls:List (List Int)} {k:Nat} {w:World}(h:zaw w lo hi A n (mkL k ls))(hk:k+tot ls≤4611686018427387904) :
  Calls Tryz.prog 125 #[.slice A n c,.int .i64 k] w fun e w'=>e=.returned (.int .i64 (k+tot ls:Nat))∧w=w':=by
 have hn9:=h.len
 have hln:=za (show ls.length=n by rw [h.1,zdV])
 have htake:=za (fun j=>zbY ls j)
 go_enter Tryz.func125,Tryz.ntmps125
 go_wp2
 go_loop [1,5] (fun v i=>∃ j t:Nat,j≤n∧i=.int .i64 j∧v=.int .i64 (k+t:Nat)∧Hid (t=tot (ls.take j))∧k+t≤4611686018427387904) (fun _ i=>n - (intOf i).toNat)
 case atStart=>exact⟨0,0,Nat.zero_le _,rfl,rfl,za (by simp [tot]),by omega⟩
 case round =>
  obtain⟨j,t,hj,rfl,rfl,ht,hkt⟩:=hrel
  by_cases hlt:j<n
  ·obtain⟨l,hl⟩:∃ l,Hid (ls[j]?=some l):=⟨_,za (List.getElem?_eq_getElem (by rw [hln.out];exact hlt))⟩
   obtain⟨ad,Ak,ck,m,rfl,_,_,hm,hc0,hrk⟩:=h.row hlt
   obtain rfl:m=mk1 (k+t) l.length:=by
    have:=hm.out
    rw [mkL_get hl.out,← ht.out] at this
    exact (Option.some.inj this).symm
   rw [zhC] at hc0 hrk
   rw [← mk1_nats] at hrk
   have htj:=za (show tot (ls.take (j+1))=t+l.length by rw [zbe hl.out,ht.out])
   have hle:k+t+l.length≤4611686018427387904:=by have:=htake.out (j+1);have:=htj.out;omega
   have hlt0:¬ (((k+t+l.length:Nat):Int)<0):=by omega
   go_wp2_with (go_at_call 206;refine (heldIntS_any (k:=k+t) hrk hle).mono ?_;rintro e w2 ⟨rfl,rfl⟩)
   go_round
   case rel=>exact⟨j+1,t+l.length,by omega,by go_num,by go_num,za (by rw [htj.out]),by omega⟩
   case measure=>simp [intOf];omega
  ·obtain rfl:n=j:=by omega
   have htt:=za (show t=tot ls by rw [ht.out,List.take_of_length_le (by rw [hln.out];exact Nat.le_refl _)])
   go_wp2
   go_ret
   exact⟨zG (by have:=htt.out;omega),rfl⟩
def cntA (a:Aut):Nat:=tot a.next+a.acc.length
theorem zfv {base hi:Nat} {A:Option Addr} {n c:Nat} {A':Option Addr} {n' c':Nat} {a:Aut} {al:Int} {k:Nat} {w:World}(h:AutH w base hi A n c A' n' c' a)(hk:k+cntA a≤4611686018427387904) :
  Calls Tryz.prog 25 #[.agg #[.int .i64 al,.slice A n c,.slice A' n' c'],.int .i64 k] w fun e w'=>e=.returned (.int .i64 (k+cntA a:Nat))∧AutH w' base hi A n c A' n' c' (mkA k a)∧Frm (fun b=>base≤b∧b<hi) w w':=by
 unfold cntA at hk
 obtain⟨⟨rows,h1,h2,h6⟩,h7,h3,h4,h8,h5⟩:=h
 rw [← h3] at h1
 have hx:=(Ext.refl w).alloc (.cells #[.int .i64 al,.slice A n c,.slice A' n' c'] 31)
 have h1':=zh h1 hx
 have h2':=h2.ext hx
 have h4':=zh h4 hx
 have H6:=za h6
 have H7:=za h7
 have H8:=za h8
 have H3:=za h3
 have H5:=za h5
 have H2:=za h2'
 have hcn:=za (show cntA a=tot a.next+a.acc.length from rfl)
 have hn'l:=(Reads.of_own h4).len
 clear h1 h2 h4 h6 h7 h8 h3 h5
 go_enter Tryz.func25,Tryz.ntmps25
 go_wp2_with fail
 refine (zin (k:=k) h1' H2.out (by omega)).mono ?_
 rintro e w2 ⟨rfl,hv2,hr2,hf2⟩
 have h4'':=zg h4' hf2 (fun b hb hS=>by
  obtain⟨i,row,hi,hrb⟩:=hS
  obtain⟨l,_,ho⟩:=H2.out.row hi
  exact zaX ho h4' (by decide) hrb hb)
 have hbx:=(Blk.new w 31 #[.int .i64 al,.slice A n c,.slice A' n' c']).frm hf2 (fun hS=>by
  obtain⟨i,row,hi,hrb⟩:=hS
  obtain⟨l,_,ho⟩:=H2.out.row hi
  exact zw ho (Blk.new w 31 #[.int .i64 al,.slice A n c,.slice A' n' c']) (by decide) hrb rfl)
 have cb:=hbx.cell
 have HR2:=za hr2
 have Hf2:=za hf2
 clear hr2 hf2
 have hk2:k+tot a.next+n'≤4611686018427387904:=by have:=H5.out;omega
 go_wp2_with fail
 refine (zil (k:=k+tot a.next) h4'' hk2).mono ?_
 rintro e w3 ⟨rfl,hb3,hf3⟩
 go_wp2_with fail
 go_ret
 have hfA:Frm (blk A') w2 w3:=hf3
 refine⟨zG (by have:=hcn.out;have:=H5.out;omega),⟨⟨rows,?_,?_,H6.out⟩,H7.out,?_,?_,H8.out,?_⟩,?_⟩
 ·rw [show (mkA k a).next.length=n by rw [H3.out];exact zdV _ _]
  exact zg hv2 hf3 (fun b hb hS=>by
   obtain⟨ad,rfl,rfl⟩:=hS
   exact zaX h4'' hv2 (by decide) rfl hb)
 ·exact HR2.out.frm hf3 (fun i row b hr hb hS=>by
   obtain⟨ad,rfl,rfl⟩:=hS
   obtain⟨l,_,ho⟩:=HR2.out.row hr
   exact zaX ho h4'' (by decide) hb rfl)
 ·rw [H3.out];exact (zdV _ _).symm
 ·have:(mkA k a).acc=mkBs (k+tot a.next) n':=by rw [H5.out];rfl
  rw [this]
  exact hb3
 ·rw [H5.out];exact (zet _ _).symm
 ·refine ((hx.toFrm).trans (Hf2.out.mono fun b _ hS=>?_)).trans (hf3.mono fun b _ hS=>?_)
  ·obtain⟨i,row,hi,hrb⟩:=hS
   obtain⟨l,_,ho⟩:=H2.out.row hi
   exact⟨(ho.lt b hrb).1,H6.out i row b hi hrb⟩
  ·obtain⟨ad,rfl,rfl⟩:=hS
   exact⟨(h4''.lt ad.block rfl).1,H8.out ad.block rfl⟩
theorem zfs {lo hi:Nat} {A:Option Addr} {n c:Nat} {A':Option Addr} {n' c':Nat} {a:Aut} {al:Int} {k:Nat} {w:World}(h:zC w lo hi A n A' n' (mkA k a))(hk:k+cntA a≤4611686018427387904) :
  Calls Tryz.prog 68 #[.agg #[.int .i64 al,.slice A n c,.slice A' n' c'],.int .i64 k] w fun e w'=>e=.returned (.int .i64 (k+cntA a:Nat))∧Ext w w':=by
 have hcn:=za (show cntA a=tot a.next+a.acc.length from rfl)
 unfold cntA at hk
 have hx:=(Ext.refl w).alloc (.cells #[.int .i64 al,.slice A n c,.slice A' n' c'] 31)
 have h1:zaw (w.alloc (.cells #[.int .i64 al,.slice A n c,.slice A' n' c'] 31)) lo hi A n (mkL k a.next):=h.1.ext hx
 have hn':=za (show n'=a.acc.length by rw [h.2.1];exact zet _ _)
 have h2:Reads (w.alloc (.cells #[.int .i64 al,.slice A n c,.slice A' n' c'] 31)) lo hi 1 A' n' (zP (mkBs (k+tot a.next) n')):=by
  have:=h.2.2.ext hx
  rw [hn'.out]
  rw [hn'.out] at this
  exact this
 have hk2:k+tot a.next+n'≤4611686018427387904:=by have:=hn'.out;omega
 have hk0:¬ (((k+tot a.next:Nat):Int)<0):=by omega
 have hk1:¬ (((k+tot a.next+n':Nat):Int)<0):=by omega
 clear h
 go_enter Tryz.func68,Tryz.ntmps68
 go_wp2_with fail
 refine (zif (k:=k) h1 (by omega)).mono ?_
 rintro e w2 ⟨rfl,rfl⟩
 go_wp2_with fail
 refine (zie (k:=k+tot a.next) h2 hk2).mono ?_
 rintro e w2 ⟨rfl,rfl⟩
 go_wp2_with fail
 go_ret
 exact⟨zG (by have:=hcn.out;have:=hn'.out;omega),hx⟩
def certEq (hd:Bool) (a:Aut) (s:ByteArray) (hd':Bool) (b:Aut) (s':ByteArray):Bool:=(hd==hd')&&(autEq a b&&s.toList==s'.toList)
theorem zfr (lo hi lo' hi':Nat) (A:Option Addr) (n c:Nat) (A':Option Addr) (n' c':Nat)(hd:Bool) (s:ByteArray) (B:Option Addr) (m d:Nat) (B':Option Addr) (m' d':Nat)(hd':Bool) (s':ByteArray) (a b:Aut) (w:World)
  (h:zC w lo hi A n A' n' a) (h':zC w lo' hi' B m B' m' b) :
  Calls Tryz.prog 21 #[.agg #[.bool hd,.int .i64 a.al,.slice A n c,.slice A' n' c',.string s],.agg #[.bool hd',.int .i64 b.al,.slice B m d,.slice B' m' d',.string s']] w fun e w'=>e=.returned (.bool (certEq hd a s hd' b s'))∧Ext w w':=by
 have hR:=fun W (hW:Ext w W)=>h.ext hW
 have HR:=za hR
 have hR':=fun W (hW:Ext w W)=>h'.ext hW
 have HR':=za hR'
 clear hR hR'
 cases h0:hd==hd'
 ·go_enter Tryz.func21,Tryz.ntmps21
  go_wp2
  go_ret
  exact⟨zj (by rw [certEq,h0];simp),((Ext.refl _).alloc _).alloc _⟩
 ·cases h1:autEq a b
  all_goals
   have H1:=za h1
   clear h1
   go_enter Tryz.func21,Tryz.ntmps21
   go_wp2_with (go_at_call 23;refine (zgk _ _ _ _ _ _ _ _ _ _ _ _ _ _ _ _ _ _ _ (HR.out _ ?_) (HR'.out _ ?_)).mono ?_;exact ((Ext.refl _).alloc _).alloc _;exact ((Ext.refl _).alloc _).alloc _;rw [H1.out];rintro e w2 ⟨rfl,hext2⟩;obtain⟨b1,b2⟩:=zE hext2;have c1:=b1.cell;have c2:=b2.cell)
   all_goals go_ret
   all_goals exact⟨zj (by rw [certEq,H1.out,h0];simp_all),(((Ext.refl _).alloc _).alloc _).trans hext2⟩
theorem eqCertificate_same {lo hi lo' hi':Nat} {A:Option Addr} {n c:Nat} {A':Option Addr} {n' c':Nat} {B:Option Addr} {m d:Nat} {B':Option Addr} {m' d':Nat} {hd:Bool} {s:ByteArray} {a:Aut} {w:World}
  (h:zC w lo hi A n A' n' a) (h':zC w lo' hi' B m B' m' a) :
  Calls Tryz.prog 21 #[.agg #[.bool hd,.int .i64 a.al,.slice A n c,.slice A' n' c',.string s],.agg #[.bool hd,.int .i64 a.al,.slice B m d,.slice B' m' d',.string s]] w fun e w'=>e=.returned (.bool true)∧Ext w w':=by
 refine (zfr _ _ _ _ _ _ _ _ _ _ _ _ _ _ _ _ _ _ _ _ _ _ _ h h').mono ?_
 rintro e w' ⟨rfl,hx⟩
 exact⟨by simp [certEq,autEq_self],hx⟩
theorem markCertificate_any {base hi:Nat} {A:Option Addr} {n c:Nat} {A':Option Addr} {n' c':Nat} {a:Aut} {hd:Bool} {al:Int} {s:ByteArray} {k:Nat} {w:World}(h:AutH w base hi A n c A' n' c' a)(hk:k+cntA a≤4611686018427387904) :
  Calls Tryz.prog 26 #[.agg #[.bool hd,.int .i64 al,.slice A n c,.slice A' n' c',.string s],.int .i64 k] w fun e w'=>e=.returned (.int .i64 (k+cntA a:Nat))∧AutH w' base hi A n c A' n' c' (mkA k a)∧Frm (fun b=>base≤b∧b<hi) w w':=by
 have hx:=(Ext.refl w).alloc (.cells #[.bool hd,.int .i64 al,.slice A n c,.slice A' n' c',.string s] 33)
 have h':=h.ext hx
 clear h
 go_enter Tryz.func26,Tryz.ntmps26
 go_wp2_with fail
 refine (zfv h' hk).mono ?_
 rintro e w2 ⟨rfl,h2,hf⟩
 go_wp2_with fail
 go_ret
 exact⟨rfl,h2,hx.toFrm.trans hf⟩
theorem heldCertificate_any {lo hi:Nat} {A:Option Addr} {n c:Nat} {A':Option Addr} {n' c':Nat} {a:Aut} {hd:Bool} {al:Int} {s:ByteArray} {k:Nat} {w:World}(h:zC w lo hi A n A' n' (mkA k a))(hk:k+cntA a≤4611686018427387904) :
  Calls Tryz.prog 27 #[.agg #[.bool hd,.int .i64 al,.slice A n c,.slice A' n' c',.string s],.int .i64 k] w fun e w'=>e=.returned (.int .i64 (k+cntA a:Nat))∧Ext w w':=by
 have hx:=(Ext.refl w).alloc (.cells #[.bool hd,.int .i64 al,.slice A n c,.slice A' n' c',.string s] 33)
 have h':=h.ext hx
 have hk0:¬ (((k+cntA a:Nat):Int)<0):=by omega
 clear h
 go_enter Tryz.func27,Tryz.ntmps27
 go_wp2_with fail
 refine (zfs h' hk).mono ?_
 rintro e w2 ⟨rfl,hx2⟩
 go_wp2_with fail
 go_ret
 exact⟨rfl,hx.trans hx2⟩
theorem zao (W:World) (Z:Nat) (u0 u1 u2 u3 u4:Value):Frm (fun k=>k=Z) W (((((W.setCell ⟨Z,0,none⟩ u0).setCell ⟨Z,1,none⟩ u1).setCell ⟨Z,2,none⟩ u2).setCell ⟨Z,3,none⟩ u3).setCell ⟨Z,4,none⟩ u4):=
 ((((Frm.setCell W Z 0 u0).trans (Frm.setCell _ Z 1 u1)).trans (Frm.setCell _ Z 2 u2)).trans (Frm.setCell _ Z 3 u3)).trans (Frm.setCell _ Z 4 u4)
theorem zan {w:World} {Z:Nat} {cs:Array Value} {t:TypeId}(h:Blk w Z t cs)(hc:cs.size=5) (u0 u1 u2 u3 u4:Value):Blk (((((w.setCell ⟨Z,0,none⟩ u0).setCell ⟨Z,1,none⟩ u1).setCell ⟨Z,2,none⟩ u2).setCell ⟨Z,3,none⟩ u3).setCell ⟨Z,4,none⟩ u4) Z t #[u0,u1,u2,u3,u4]:=by
 obtain⟨l⟩:=cs
 match l,hc with
 |[a,b,c,d,e],_=>simpa using ((((h.set_ 0 u0).set_ 1 u1).set_ 2 u2).set_ 3 u3).set_ 4 u4
def zbP (w:World) (hd:Bool) (a:Aut) (s:ByteArray) (b:Bool) (e:Ending) (w':World):Prop:=
 ∃ A n c A' n' c',e=.returned (.tuple #[.agg #[.bool hd,.int .i64 a.al,.slice A n c,.slice A' n' c',.string s],.bool b])∧zac w' w.heap.size A n c A' n' c' a∧Ext w w'
def aut0:Aut:=⟨0,[],[]⟩
theorem zit (w:World) (base:Nat):zac w base none 0 0 none 0 0 aut0:=⟨⟨[],World.ownsRow_nil _ _ _ _,zx.nil _ _⟩,rfl,World.ownsRow_nil _ _ _ _,rfl⟩
def okC (cd:Int) (a:Aut) (s:ByteArray):Bool:=(decide (cd=0) || decide (cd=1))&&zH (decide (cd=0)) a s
theorem okC0 (a:Aut) (s:ByteArray):okC 0 a s=zH true a s:=by simp [okC]
theorem okC1 (a:Aut) (s:ByteArray):okC 1 a s=zH false a s:=by simp [okC]
def NewC (w W:World) (G:Nat) (hd:Bool) (a:Aut) (s:ByteArray) (B:Option Addr) (m d:Nat) (B':Option Addr) (m' d':Nat):Prop:=
 Blk W G 33 #[.bool hd,.int .i64 a.al,.slice B m d,.slice B' m' d',.string s]∧zac W w.heap.size B m d B' m' d' a∧Ext w W∧w.heap.size≤G
theorem zac.own_far5 {w w':World} {base G:Nat} {A:Option Addr} {n c:Nat} {A':Option Addr} {n' c':Nat} {a:Aut} {cs:Array Value}(h:zac w base A n c A' n' c' a)(hB:Blk w G 33 cs)(hf:Frm (fun k=>k=G) w w'):zac w' base A n c A' n' c' a:=by
 obtain⟨⟨rows,h1,h2⟩,h3,h4,h5⟩:=h
 exact⟨⟨rows,zg h1 hf (fun b hb e=>zw h1 hB (by decide) hb e),h2.frm hf (fun i row b hr hb e=>by
  obtain⟨l,_,ho⟩:=h2.row hr
  exact zw ho hB (by decide) hb e)⟩,h3,zg h4 hf (fun b hb e=>zw h4 hB (by decide) hb e),h5⟩
theorem yC12a2 {P:Prop}(h:P:=by
 rintro e w4 ⟨B,m,d,B',m',d',rfl,own4,hx4⟩
 replace own4:=own4.less hx0.size
 replace hx0:=hx0.trans hx4
 refine hK.out _ _ hx0 ?_
 refine pT ?_
 refine uQ ?_
 refine ze fun K hK=>?_;go_simp
 have hx1:=(Ext.refl w4).alloc (.cells #[.bool false,.int .i64 0,.slice none 0 0,.slice none 0 0,.string ⟨#[]⟩] 33)
 have hb:=Blk.new w4 33 #[.bool false,.int .i64 0,.slice none 0 0,.slice none 0 0,.string ⟨#[]⟩]
 have hG:=hx0.size
 replace own4:=own4.ext hx1
 replace hx0:=hx0.trans hx1
 refine hK.out _ _ hx0 ?_
 generalize w4.alloc (.cells #[.bool false,.int .i64 0,.slice none 0 0,.slice none 0 0,.string ⟨#[]⟩] 33)=wg at *
 generalize w4.heap.size=G at *
 refine pT ?_
 refine uQ ?_
 have cG:=hb.cell
 have fG:=hb.frozen
 refine zb fun K hK=>?_
 go_simp
 refine hK.out _ _ ?_
 refine zf ?_
 have hfl:=zao wg G (.bool true) (.int .i64 a.al) (.slice B m d) (.slice B' m' d') (.string s)
 have ziM:NewC w2 (((((wg.setCell ⟨G,0,none⟩ (.bool true)).setCell ⟨G,1,none⟩ (.int .i64 a.al)).setCell ⟨G,2,none⟩ (.slice B m d)).setCell ⟨G,3,none⟩ (.slice B' m' d')).setCell ⟨G,4,none⟩ (.string s)) G true a s B m d B' m' d':=⟨zan hb rfl _ _ _ _ _,own4.own_far5 hb hfl,hx0.frm hfl (fun k hk e=>by omega),hG⟩
 go_wp2_with fail
 go_meet
 exact⟨G,_,_,_,_,_,_,rfl,ziM⟩
 ):P:=h
theorem yC12a4 {P:Prop}(h:P:=by
 rintro e w4 ⟨B,m,d,B',m',d',rfl,own4,hx4⟩
 replace own4:=own4.less hx0.size
 replace hb:=hb.ext hx4
 replace hx0:=hx0.trans hx4
 refine hK.out _ _ hx0 ?_
 refine pT ?_
 refine uQ ?_
 have cG:=hb.cell
 have fG:=hb.frozen
 refine zb fun K hK=>?_
 go_simp
 refine hK.out _ _ ?_
 refine zf ?_
 have hfl:=zao w4 G (.bool true) (.int .i64 a.al) (.slice B m d) (.slice B' m' d') (.string s)
 have ziM:NewC w2 (((((w4.setCell ⟨G,0,none⟩ (.bool true)).setCell ⟨G,1,none⟩ (.int .i64 a.al)).setCell ⟨G,2,none⟩ (.slice B m d)).setCell ⟨G,3,none⟩ (.slice B' m' d')).setCell ⟨G,4,none⟩ (.string s)) G true a s B m d B' m' d':=⟨zan hb rfl _ _ _ _ _,own4.own_far5 hb hfl,hx0.frm hfl (fun k hk e=>by omega),hG⟩
 go_wp2_with fail
 go_meet
 exact⟨G,_,_,_,_,_,_,rfl,ziM⟩
 ):P:=h
theorem zdY {lo hi:Nat} {A:Option Addr} {n c:Nat} {A':Option Addr} {n' c':Nat} {ro:Int} {a:Aut} {s:ByteArray} {w:World}(h:zC w lo hi A n A' n' a)(hs:a.size≤1048576)(hs9:s.size≤9223372036854775807)(hv:zH true a s=true) :
  Calls Tryz.prog 47 #[.agg #[.int .i64 0,.int .i64 a.al,.slice A n c,.slice A' n' c',.string s,.int .i64 ro]] w (zbP w true a s true):=by
 have Hv:=za hv
 clear hv
 have HS:=za (fun W (hW:Ext w W)=>h.ext hW)
 have hss:=hs
 clear h
 go_enter Tryz.func47,Tryz.ntmps47
 obtain⟨b1,bz⟩:=zE (Ext.refl ((w.alloc (.cells #[.int .i64 0,.int .i64 a.al,.slice A n c,.slice A' n' c',.string s,.int .i64 ro] 67)).alloc (.cells #[.bool false,.int .i64 0,.slice none 0 0,.slice none 0 0,.string ⟨#[]⟩] 33)))
 have hw2:Ext w ((w.alloc (.cells #[.int .i64 0,.int .i64 a.al,.slice A n c,.slice A' n' c',.string s,.int .i64 ro] 67)).alloc (.cells #[.bool false,.int .i64 0,.slice none 0 0,.slice none 0 0,.string ⟨#[]⟩] 33)):=((Ext.refl w).alloc _).alloc _
 have hsz2:w.heap.size+2=((w.alloc (.cells #[.int .i64 0,.int .i64 a.al,.slice A n c,.slice A' n' c',.string s,.int .i64 ro] 67)).alloc (.cells #[.bool false,.int .i64 0,.slice none 0 0,.slice none 0 0,.string ⟨#[]⟩] 33)).heap.size:=by simp
 have k1:=b1.cell
 go_upto_region 3 with fail
 generalize (w.alloc (.cells #[.int .i64 0,.int .i64 a.al,.slice A n c,.slice A' n' c',.string s,.int .i64 ro] 67)).alloc (.cells #[.bool false,.int .i64 0,.slice none 0 0,.slice none 0 0,.string ⟨#[]⟩] 33)=w2 at *
 clear k1
 go_cut [4] (fun v wx=>∃ G B m d B' m' d',v=.pointer (some ⟨G,0,none⟩)∧NewC w2 wx G true a s B m d B' m' d')
 case first =>
  have c1:=fun W (hW:Ext w2 W)=>(b1.ext hW).cell
  have hww:=Ext.refl w2
  refine uR (fun X=>Ext w2 X) [10] (zu.app [0,1,2,3,4,6,7] (zu.two 5 (zu.of [8,9,10]) 9 (zu.of [5,8,10]))) ?_
  refine uQ ?_
  have hx0:Ext w2 w2.drew:=hww.drew
  generalize w2.drew=wd at *
  refine zm (fun K hK=>?_) (fun K hK=>?_)
  ·go_simp
   refine (zaz (HS.out _ (hw2.trans hx0)) hs).mono ?_
   exact yC12a2
  ·go_simp
   have hx1:=(Ext.refl wd).alloc (.cells #[.bool false,.int .i64 0,.slice none 0 0,.slice none 0 0,.string ⟨#[]⟩] 33)
   have hb:=Blk.new wd 33 #[.bool false,.int .i64 0,.slice none 0 0,.slice none 0 0,.string ⟨#[]⟩]
   have hG:=hx0.size
   replace hx0:=hx0.trans hx1
   refine hK.out _ _ hx0 ?_
   generalize wd.alloc (.cells #[.bool false,.int .i64 0,.slice none 0 0,.slice none 0 0,.string ⟨#[]⟩] 33)=wg at *
   generalize wd.heap.size=G at *
   refine pT ?_
   refine uQ ?_
   refine ze fun K hK=>?_;go_simp
   refine (zaz (HS.out _ (hw2.trans hx0)) hs).mono ?_
   exact yC12a4
 case rest =>
  obtain⟨G,B,m,d,B',m',d',rfl,hb,own4,hx2,hG⟩:=hcut
  have kG:=hb.cell
  have k1:=(b1.ext hx2).cell
  go_wp2_with fail
  refine (zcb _ _ _ _ _ _ _ _ _ _ _ _ own4.reads hs9).mono ?_
  rw [Hv.out]
  rintro e w5 ⟨rfl,hx5⟩
  clear kG k1
  replace hb:=hb.ext hx5
  replace own4:=own4.ext hx5
  replace hx2:=hx2.trans hx5
  have kG:=hb.cell
  have k1:=(b1.ext hx2).cell
  have hbz:=bz.ext hx2
  have cZ:=hbz.cell
  have fZ:=hbz.frozen
  have hfl:=zao w5 (w.heap.size+1) (.bool true) (.int .i64 a.al) (.slice B m d) (.slice B' m' d') (.string s)
  have hbf:=zan hbz rfl (.bool true) (.int .i64 a.al) (.slice B m d) (.slice B' m' d') (.string s)
  have hxf:=(hw2.trans hx2).frm hfl (fun k hk e=>by omega)
  have ziM:=za (show zbP w true a s true (.returned (.tuple #[.agg #[.bool true,.int .i64 a.al,.slice B m d,.slice B' m' d',.string s],.bool true])) (((((w5.setCell ⟨w.heap.size+1,0,none⟩ (.bool true)).setCell ⟨w.heap.size+1,1,none⟩ (.int .i64 a.al)).setCell ⟨w.heap.size+1,2,none⟩ (.slice B m d)).setCell ⟨w.heap.size+1,3,none⟩ (.slice B' m' d')).setCell ⟨w.heap.size+1,4,none⟩ (.string s)) from ⟨B,m,d,B',m',d',rfl,(own4.keep hfl (fun b h1 e=>by omega)).less (by omega),hxf⟩)
  go_wp2_with fail
  generalize (((((w5.setCell ⟨w.heap.size+1,0,none⟩ (.bool true)).setCell ⟨w.heap.size+1,1,none⟩ (.int .i64 a.al)).setCell ⟨w.heap.size+1,2,none⟩ (.slice B m d)).setCell ⟨w.heap.size+1,3,none⟩ (.slice B' m' d')).setCell ⟨w.heap.size+1,4,none⟩ (.string s))=wf at *
  have cf:=hbf.cell
  exact bodyPost_ret (v:=.tuple #[.agg #[.bool true,.int .i64 a.al,.slice B m d,.slice B' m' d',.string s],.bool true]) (by simp [results,Tryz.results47,go_sem,cf]) rfl ziM.out
theorem zed {lo hi:Nat} {A:Option Addr} {n c:Nat} {A':Option Addr} {n' c':Nat} {ro:Int} {a:Aut} {s:ByteArray} {w:World}(h:zC w lo hi A n A' n' a)(hs:a.size≤1048576)(hs9:s.size≤9223372036854775807)(hv:zH true a s=true) :
  Calls Tryz.prog 58 #[.agg #[.int .i64 0,.int .i64 a.al,.slice A n c,.slice A' n' c',.string s,.int .i64 ro]] w (zbP w true a s true):=by
 have Hv:=za hv
 clear hv
 have HS:=za (fun W (hW:Ext w W)=>h.ext hW)
 have hss:=hs
 clear h
 go_enter Tryz.func58,Tryz.ntmps58
 obtain⟨b1,bz⟩:=zE (Ext.refl ((w.alloc (.cells #[.int .i64 0,.int .i64 a.al,.slice A n c,.slice A' n' c',.string s,.int .i64 ro] 67)).alloc (.cells #[.bool false,.int .i64 0,.slice none 0 0,.slice none 0 0,.string ⟨#[]⟩] 33)))
 have hw2:Ext w ((w.alloc (.cells #[.int .i64 0,.int .i64 a.al,.slice A n c,.slice A' n' c',.string s,.int .i64 ro] 67)).alloc (.cells #[.bool false,.int .i64 0,.slice none 0 0,.slice none 0 0,.string ⟨#[]⟩] 33)):=((Ext.refl w).alloc _).alloc _
 have hsz2:w.heap.size+2=((w.alloc (.cells #[.int .i64 0,.int .i64 a.al,.slice A n c,.slice A' n' c',.string s,.int .i64 ro] 67)).alloc (.cells #[.bool false,.int .i64 0,.slice none 0 0,.slice none 0 0,.string ⟨#[]⟩] 33)).heap.size:=by simp
 go_upto_region 1 with fail
 generalize (w.alloc (.cells #[.int .i64 0,.int .i64 a.al,.slice A n c,.slice A' n' c',.string s,.int .i64 ro] 67)).alloc (.cells #[.bool false,.int .i64 0,.slice none 0 0,.slice none 0 0,.string ⟨#[]⟩] 33)=w2 at *
 go_cut [4] (fun v wx=>∃ G B m d B' m' d',v=.pointer (some ⟨G,0,none⟩)∧NewC w2 wx G true a s B m d B' m' d')
 case first =>
  have c1:=fun W (hW:Ext w2 W)=>(b1.ext hW).cell
  have hww:=Ext.refl w2
  refine uR (fun X=>Ext w2 X) [10] (zu.app [0,1,2,3,4,6,7] (zu.two 5 (zu.of [8,9,10]) 9 (zu.of [5,8,10]))) ?_
  refine uQ ?_
  have hx0:Ext w2 w2.drew:=hww.drew
  generalize w2.drew=wd at *
  refine zm (fun K hK=>?_) (fun K hK=>?_)
  ·go_simp
   refine (zaY (HS.out _ (hw2.trans hx0)) hs).mono ?_
   exact yC12a2
  ·go_simp
   have hx1:=(Ext.refl wd).alloc (.cells #[.bool false,.int .i64 0,.slice none 0 0,.slice none 0 0,.string ⟨#[]⟩] 33)
   have hb:=Blk.new wd 33 #[.bool false,.int .i64 0,.slice none 0 0,.slice none 0 0,.string ⟨#[]⟩]
   have hG:=hx0.size
   replace hx0:=hx0.trans hx1
   refine hK.out _ _ hx0 ?_
   generalize wd.alloc (.cells #[.bool false,.int .i64 0,.slice none 0 0,.slice none 0 0,.string ⟨#[]⟩] 33)=wg at *
   generalize wd.heap.size=G at *
   refine pT ?_
   refine uQ ?_
   refine ze fun K hK=>?_;go_simp
   refine (zaY (HS.out _ (hw2.trans hx0)) hs).mono ?_
   exact yC12a4
 case rest =>
  obtain⟨G,B,m,d,B',m',d',rfl,hb,own4,hx2,hG⟩:=hcut
  have kG:=hb.cell
  have k1:=(b1.ext hx2).cell
  go_wp2_with fail
  refine (zce _ _ _ _ _ _ _ _ _ _ _ _ own4.reads hs9).mono ?_
  rw [Hv.out]
  rintro e w5 ⟨rfl,hx5⟩
  clear kG k1
  replace hb:=hb.ext hx5
  replace own4:=own4.ext hx5
  replace hx2:=hx2.trans hx5
  have kG:=hb.cell
  have k1:=(b1.ext hx2).cell
  have hbz:=bz.ext hx2
  have cZ:=hbz.cell
  have fZ:=hbz.frozen
  have hfl:=zao w5 (w.heap.size+1) (.bool true) (.int .i64 a.al) (.slice B m d) (.slice B' m' d') (.string s)
  have hbf:=zan hbz rfl (.bool true) (.int .i64 a.al) (.slice B m d) (.slice B' m' d') (.string s)
  have hxf:=(hw2.trans hx2).frm hfl (fun k hk e=>by omega)
  have ziM:=za (show zbP w true a s true (.returned (.tuple #[.agg #[.bool true,.int .i64 a.al,.slice B m d,.slice B' m' d',.string s],.bool true])) (((((w5.setCell ⟨w.heap.size+1,0,none⟩ (.bool true)).setCell ⟨w.heap.size+1,1,none⟩ (.int .i64 a.al)).setCell ⟨w.heap.size+1,2,none⟩ (.slice B m d)).setCell ⟨w.heap.size+1,3,none⟩ (.slice B' m' d')).setCell ⟨w.heap.size+1,4,none⟩ (.string s)) from ⟨B,m,d,B',m',d',rfl,(own4.keep hfl (fun b h1 e=>by omega)).less (by omega),hxf⟩)
  go_wp2_with fail
  generalize (((((w5.setCell ⟨w.heap.size+1,0,none⟩ (.bool true)).setCell ⟨w.heap.size+1,1,none⟩ (.int .i64 a.al)).setCell ⟨w.heap.size+1,2,none⟩ (.slice B m d)).setCell ⟨w.heap.size+1,3,none⟩ (.slice B' m' d')).setCell ⟨w.heap.size+1,4,none⟩ (.string s))=wf at *
  have cf:=hbf.cell
  exact bodyPost_ret (v:=.tuple #[.agg #[.bool true,.int .i64 a.al,.slice B m d,.slice B' m' d',.string s],.bool true]) (by simp [results,Tryz.results58,go_sem,cf]) rfl ziM.out
theorem yC12b1 {P:Prop}(h:P:=by
 rintro e w4 ⟨B,m,d,B',m',d',rfl,own4,hx4⟩
 replace own4:=own4.less hx0.size
 replace hx0:=hx0.trans hx4
 refine hK.out _ _ hx0 ?_
 refine pT ?_
 refine uQ ?_
 refine ze fun K hK=>?_;go_simp
 have hx1:=(Ext.refl w4).alloc (.cells #[.bool false,.int .i64 0,.slice none 0 0,.slice none 0 0,.string ⟨#[]⟩] 33)
 have hb:=Blk.new w4 33 #[.bool false,.int .i64 0,.slice none 0 0,.slice none 0 0,.string ⟨#[]⟩]
 have hG:=hx0.size
 replace own4:=own4.ext hx1
 replace hx0:=hx0.trans hx1
 refine hK.out _ _ hx0 ?_
 generalize w4.alloc (.cells #[.bool false,.int .i64 0,.slice none 0 0,.slice none 0 0,.string ⟨#[]⟩] 33)=wg at *
 generalize w4.heap.size=G at *
 refine pT ?_
 refine uQ ?_
 have cG:=hb.cell
 have fG:=hb.frozen
 refine zb fun K hK=>?_
 go_simp
 refine hK.out _ _ ?_
 refine zf ?_
 have hfl:=zao wg G (.bool false) (.int .i64 a.al) (.slice B m d) (.slice B' m' d') (.string s)
 have ziM:NewC w2 (((((wg.setCell ⟨G,0,none⟩ (.bool false)).setCell ⟨G,1,none⟩ (.int .i64 a.al)).setCell ⟨G,2,none⟩ (.slice B m d)).setCell ⟨G,3,none⟩ (.slice B' m' d')).setCell ⟨G,4,none⟩ (.string s)) G false a s B m d B' m' d':=⟨zan hb rfl _ _ _ _ _,own4.own_far5 hb hfl,hx0.frm hfl (fun k hk e=>by omega),hG⟩
 go_wp2_with fail
 go_meet
 exact⟨G,_,_,_,_,_,_,rfl,ziM⟩
 ):P:=h
theorem yC12b2 {P:Prop}(h:P:=by
 rintro e w4 ⟨B,m,d,B',m',d',rfl,own4,hx4⟩
 replace own4:=own4.less hx0.size
 replace hb:=hb.ext hx4
 replace hx0:=hx0.trans hx4
 refine hK.out _ _ hx0 ?_
 refine pT ?_
 refine uQ ?_
 have cG:=hb.cell
 have fG:=hb.frozen
 refine zb fun K hK=>?_
 go_simp
 refine hK.out _ _ ?_
 refine zf ?_
 have hfl:=zao w4 G (.bool false) (.int .i64 a.al) (.slice B m d) (.slice B' m' d') (.string s)
 have ziM:NewC w2 (((((w4.setCell ⟨G,0,none⟩ (.bool false)).setCell ⟨G,1,none⟩ (.int .i64 a.al)).setCell ⟨G,2,none⟩ (.slice B m d)).setCell ⟨G,3,none⟩ (.slice B' m' d')).setCell ⟨G,4,none⟩ (.string s)) G false a s B m d B' m' d':=⟨zan hb rfl _ _ _ _ _,own4.own_far5 hb hfl,hx0.frm hfl (fun k hk e=>by omega),hG⟩
 go_wp2_with fail
 go_meet
 exact⟨G,_,_,_,_,_,_,rfl,ziM⟩
 ):P:=h
theorem zdZ {lo hi:Nat} {A:Option Addr} {n c:Nat} {A':Option Addr} {n' c':Nat} {ro:Int} {a:Aut} {s:ByteArray} {w:World}(h:zC w lo hi A n A' n' a)(hs:a.size≤1048576)(hs9:s.size≤9223372036854775807)(hv:zH false a s=true) :
  Calls Tryz.prog 47 #[.agg #[.int .i64 1,.int .i64 a.al,.slice A n c,.slice A' n' c',.string s,.int .i64 ro]] w (zbP w false a s true):=by
 have Hv:=za hv
 clear hv
 have HS:=za (fun W (hW:Ext w W)=>h.ext hW)
 have hss:=hs
 clear h
 go_enter Tryz.func47,Tryz.ntmps47
 obtain⟨b1,bz⟩:=zE (Ext.refl ((w.alloc (.cells #[.int .i64 1,.int .i64 a.al,.slice A n c,.slice A' n' c',.string s,.int .i64 ro] 67)).alloc (.cells #[.bool false,.int .i64 0,.slice none 0 0,.slice none 0 0,.string ⟨#[]⟩] 33)))
 have hw2:Ext w ((w.alloc (.cells #[.int .i64 1,.int .i64 a.al,.slice A n c,.slice A' n' c',.string s,.int .i64 ro] 67)).alloc (.cells #[.bool false,.int .i64 0,.slice none 0 0,.slice none 0 0,.string ⟨#[]⟩] 33)):=((Ext.refl w).alloc _).alloc _
 have hsz2:w.heap.size+2=((w.alloc (.cells #[.int .i64 1,.int .i64 a.al,.slice A n c,.slice A' n' c',.string s,.int .i64 ro] 67)).alloc (.cells #[.bool false,.int .i64 0,.slice none 0 0,.slice none 0 0,.string ⟨#[]⟩] 33)).heap.size:=by simp
 have k1:=b1.cell
 go_upto_region 3 with fail
 generalize (w.alloc (.cells #[.int .i64 1,.int .i64 a.al,.slice A n c,.slice A' n' c',.string s,.int .i64 ro] 67)).alloc (.cells #[.bool false,.int .i64 0,.slice none 0 0,.slice none 0 0,.string ⟨#[]⟩] 33)=w2 at *
 clear k1
 go_cut [4] (fun v wx=>∃ G B m d B' m' d',v=.pointer (some ⟨G,0,none⟩)∧NewC w2 wx G false a s B m d B' m' d')
 case first =>
  have c1:=fun W (hW:Ext w2 W)=>(b1.ext hW).cell
  have hww:=Ext.refl w2
  refine uR (fun X=>Ext w2 X) [10] (zu.app [0,1,2,3,4,6,7] (zu.two 5 (zu.of [8,9,10]) 9 (zu.of [5,8,10]))) ?_
  refine uQ ?_
  have hx0:Ext w2 w2.drew:=hww.drew
  generalize w2.drew=wd at *
  refine zm (fun K hK=>?_) (fun K hK=>?_)
  ·go_simp
   refine (zaz (HS.out _ (hw2.trans hx0)) hs).mono ?_
   exact yC12b1
  ·go_simp
   have hx1:=(Ext.refl wd).alloc (.cells #[.bool false,.int .i64 0,.slice none 0 0,.slice none 0 0,.string ⟨#[]⟩] 33)
   have hb:=Blk.new wd 33 #[.bool false,.int .i64 0,.slice none 0 0,.slice none 0 0,.string ⟨#[]⟩]
   have hG:=hx0.size
   replace hx0:=hx0.trans hx1
   refine hK.out _ _ hx0 ?_
   generalize wd.alloc (.cells #[.bool false,.int .i64 0,.slice none 0 0,.slice none 0 0,.string ⟨#[]⟩] 33)=wg at *
   generalize wd.heap.size=G at *
   refine pT ?_
   refine uQ ?_
   refine ze fun K hK=>?_;go_simp
   refine (zaz (HS.out _ (hw2.trans hx0)) hs).mono ?_
   exact yC12b2
 case rest =>
  obtain⟨G,B,m,d,B',m',d',rfl,hb,own4,hx2,hG⟩:=hcut
  have kG:=hb.cell
  have k1:=(b1.ext hx2).cell
  go_wp2_with fail
  refine (zcb _ _ _ _ _ _ _ _ _ _ _ _ own4.reads hs9).mono ?_
  rw [Hv.out]
  rintro e w5 ⟨rfl,hx5⟩
  clear kG k1
  replace hb:=hb.ext hx5
  replace own4:=own4.ext hx5
  replace hx2:=hx2.trans hx5
  have kG:=hb.cell
  have k1:=(b1.ext hx2).cell
  have hbz:=bz.ext hx2
  have cZ:=hbz.cell
  have fZ:=hbz.frozen
  have hfl:=zao w5 (w.heap.size+1) (.bool false) (.int .i64 a.al) (.slice B m d) (.slice B' m' d') (.string s)
  have hbf:=zan hbz rfl (.bool false) (.int .i64 a.al) (.slice B m d) (.slice B' m' d') (.string s)
  have hxf:=(hw2.trans hx2).frm hfl (fun k hk e=>by omega)
  have ziM:=za (show zbP w false a s true (.returned (.tuple #[.agg #[.bool false,.int .i64 a.al,.slice B m d,.slice B' m' d',.string s],.bool true])) (((((w5.setCell ⟨w.heap.size+1,0,none⟩ (.bool false)).setCell ⟨w.heap.size+1,1,none⟩ (.int .i64 a.al)).setCell ⟨w.heap.size+1,2,none⟩ (.slice B m d)).setCell ⟨w.heap.size+1,3,none⟩ (.slice B' m' d')).setCell ⟨w.heap.size+1,4,none⟩ (.string s)) from ⟨B,m,d,B',m',d',rfl,(own4.keep hfl (fun b h1 e=>by omega)).less (by omega),hxf⟩)
  go_wp2_with fail
  generalize (((((w5.setCell ⟨w.heap.size+1,0,none⟩ (.bool false)).setCell ⟨w.heap.size+1,1,none⟩ (.int .i64 a.al)).setCell ⟨w.heap.size+1,2,none⟩ (.slice B m d)).setCell ⟨w.heap.size+1,3,none⟩ (.slice B' m' d')).setCell ⟨w.heap.size+1,4,none⟩ (.string s))=wf at *
  have cf:=hbf.cell
  exact bodyPost_ret (v:=.tuple #[.agg #[.bool false,.int .i64 a.al,.slice B m d,.slice B' m' d',.string s],.bool true]) (by simp [results,Tryz.results47,go_sem,cf]) rfl ziM.out
theorem yC12a1 {P:Prop}(h:P:=by
 have c1:=fun W (hW:Ext w2 W)=>(b1.ext hW).cell
 have hww:=Ext.refl w2
 refine uR (fun X=>Ext w2 X) [10] (zu.app [0,1,2,3,4,6,7] (zu.two 5 (zu.of [8,9,10]) 9 (zu.of [5,8,10]))) ?_
 refine uQ ?_
 have hx0:Ext w2 w2.drew:=hww.drew
 generalize w2.drew=wd at *
 refine zm (fun K hK=>?_) (fun K hK=>?_)
 ·go_simp
  refine (zaY (HS.out _ (hw2.trans hx0)) hs).mono ?_
  exact yC12b1
 ·go_simp
  have hx1:=(Ext.refl wd).alloc (.cells #[.bool false,.int .i64 0,.slice none 0 0,.slice none 0 0,.string ⟨#[]⟩] 33)
  have hb:=Blk.new wd 33 #[.bool false,.int .i64 0,.slice none 0 0,.slice none 0 0,.string ⟨#[]⟩]
  have hG:=hx0.size
  replace hx0:=hx0.trans hx1
  refine hK.out _ _ hx0 ?_
  generalize wd.alloc (.cells #[.bool false,.int .i64 0,.slice none 0 0,.slice none 0 0,.string ⟨#[]⟩] 33)=wg at *
  generalize wd.heap.size=G at *
  refine pT ?_
  refine uQ ?_
  refine ze fun K hK=>?_;go_simp
  refine (zaY (HS.out _ (hw2.trans hx0)) hs).mono ?_
  exact yC12b2
 ):P:=h
theorem zee {lo hi:Nat} {A:Option Addr} {n c:Nat} {A':Option Addr} {n' c':Nat} {ro:Int} {a:Aut} {s:ByteArray} {w:World}(h:zC w lo hi A n A' n' a)(hs:a.size≤1048576)(hs9:s.size≤9223372036854775807)(hv:zH false a s=true) :
  Calls Tryz.prog 58 #[.agg #[.int .i64 1,.int .i64 a.al,.slice A n c,.slice A' n' c',.string s,.int .i64 ro]] w (zbP w false a s true):=by
 have Hv:=za hv
 clear hv
 have HS:=za (fun W (hW:Ext w W)=>h.ext hW)
 have hss:=hs
 clear h
 go_enter Tryz.func58,Tryz.ntmps58
 obtain⟨b1,bz⟩:=zE (Ext.refl ((w.alloc (.cells #[.int .i64 1,.int .i64 a.al,.slice A n c,.slice A' n' c',.string s,.int .i64 ro] 67)).alloc (.cells #[.bool false,.int .i64 0,.slice none 0 0,.slice none 0 0,.string ⟨#[]⟩] 33)))
 have hw2:Ext w ((w.alloc (.cells #[.int .i64 1,.int .i64 a.al,.slice A n c,.slice A' n' c',.string s,.int .i64 ro] 67)).alloc (.cells #[.bool false,.int .i64 0,.slice none 0 0,.slice none 0 0,.string ⟨#[]⟩] 33)):=((Ext.refl w).alloc _).alloc _
 have hsz2:w.heap.size+2=((w.alloc (.cells #[.int .i64 1,.int .i64 a.al,.slice A n c,.slice A' n' c',.string s,.int .i64 ro] 67)).alloc (.cells #[.bool false,.int .i64 0,.slice none 0 0,.slice none 0 0,.string ⟨#[]⟩] 33)).heap.size:=by simp
 go_upto_region 1 with fail
 generalize (w.alloc (.cells #[.int .i64 1,.int .i64 a.al,.slice A n c,.slice A' n' c',.string s,.int .i64 ro] 67)).alloc (.cells #[.bool false,.int .i64 0,.slice none 0 0,.slice none 0 0,.string ⟨#[]⟩] 33)=w2 at *
 go_cut [4] (fun v wx=>∃ G B m d B' m' d',v=.pointer (some ⟨G,0,none⟩)∧NewC w2 wx G false a s B m d B' m' d')
 case first =>
  exact yC12a1
 case rest =>
  obtain⟨G,B,m,d,B',m',d',rfl,hb,own4,hx2,hG⟩:=hcut
  have kG:=hb.cell
  have k1:=(b1.ext hx2).cell
  go_wp2_with fail
  refine (zce _ _ _ _ _ _ _ _ _ _ _ _ own4.reads hs9).mono ?_
  rw [Hv.out]
  rintro e w5 ⟨rfl,hx5⟩
  clear kG k1
  replace hb:=hb.ext hx5
  replace own4:=own4.ext hx5
  replace hx2:=hx2.trans hx5
  have kG:=hb.cell
  have k1:=(b1.ext hx2).cell
  have hbz:=bz.ext hx2
  have cZ:=hbz.cell
  have fZ:=hbz.frozen
  have hfl:=zao w5 (w.heap.size+1) (.bool false) (.int .i64 a.al) (.slice B m d) (.slice B' m' d') (.string s)
  have hbf:=zan hbz rfl (.bool false) (.int .i64 a.al) (.slice B m d) (.slice B' m' d') (.string s)
  have hxf:=(hw2.trans hx2).frm hfl (fun k hk e=>by omega)
  have ziM:=za (show zbP w false a s true (.returned (.tuple #[.agg #[.bool false,.int .i64 a.al,.slice B m d,.slice B' m' d',.string s],.bool true])) (((((w5.setCell ⟨w.heap.size+1,0,none⟩ (.bool false)).setCell ⟨w.heap.size+1,1,none⟩ (.int .i64 a.al)).setCell ⟨w.heap.size+1,2,none⟩ (.slice B m d)).setCell ⟨w.heap.size+1,3,none⟩ (.slice B' m' d')).setCell ⟨w.heap.size+1,4,none⟩ (.string s)) from ⟨B,m,d,B',m',d',rfl,(own4.keep hfl (fun b h1 e=>by omega)).less (by omega),hxf⟩)
  go_wp2_with fail
  generalize (((((w5.setCell ⟨w.heap.size+1,0,none⟩ (.bool false)).setCell ⟨w.heap.size+1,1,none⟩ (.int .i64 a.al)).setCell ⟨w.heap.size+1,2,none⟩ (.slice B m d)).setCell ⟨w.heap.size+1,3,none⟩ (.slice B' m' d')).setCell ⟨w.heap.size+1,4,none⟩ (.string s))=wf at *
  have cf:=hbf.cell
  exact bodyPost_ret (v:=.tuple #[.agg #[.bool false,.int .i64 a.al,.slice B m d,.slice B' m' d',.string s],.bool true]) (by simp [results,Tryz.results58,go_sem,cf]) rfl ziM.out
theorem zep {lo hi:Nat} {A:Option Addr} {n c:Nat} {A':Option Addr} {n' c':Nat} {cd ro:Int} {a:Aut} {s:ByteArray} {w:World}(h:zC w lo hi A n A' n' a)(hs:a.size≤1048576)(h0:cd≠0)(h1:cd≠1) :
  Calls Tryz.prog 47 #[.agg #[.int .i64 cd,.int .i64 a.al,.slice A n c,.slice A' n' c',.string s,.int .i64 ro]] w (zbP w false aut0 ⟨#[]⟩ false):=by
 have hc0:(cd==0)=false:=by simpa using h0
 have hn0:(cd != 0)=true:=by simpa using h0
 have hn1:(cd != 1)=true:=by simpa using h1
 clear h0 h1
 have HS:=za (fun W (hW:Ext w W)=>h.ext hW)
 have hss:=hs
 clear h
 go_enter Tryz.func47,Tryz.ntmps47
 obtain⟨b1,bz⟩:=zE (Ext.refl ((w.alloc (.cells #[.int .i64 cd,.int .i64 a.al,.slice A n c,.slice A' n' c',.string s,.int .i64 ro] 67)).alloc (.cells #[.bool false,.int .i64 0,.slice none 0 0,.slice none 0 0,.string ⟨#[]⟩] 33)))
 have hw2:Ext w ((w.alloc (.cells #[.int .i64 cd,.int .i64 a.al,.slice A n c,.slice A' n' c',.string s,.int .i64 ro] 67)).alloc (.cells #[.bool false,.int .i64 0,.slice none 0 0,.slice none 0 0,.string ⟨#[]⟩] 33)):=((Ext.refl w).alloc _).alloc _
 have hsz2:w.heap.size+2=((w.alloc (.cells #[.int .i64 cd,.int .i64 a.al,.slice A n c,.slice A' n' c',.string s,.int .i64 ro] 67)).alloc (.cells #[.bool false,.int .i64 0,.slice none 0 0,.slice none 0 0,.string ⟨#[]⟩] 33)).heap.size:=by simp
 go_upto_region 1 with fail
 generalize (w.alloc (.cells #[.int .i64 cd,.int .i64 a.al,.slice A n c,.slice A' n' c',.string s,.int .i64 ro] 67)).alloc (.cells #[.bool false,.int .i64 0,.slice none 0 0,.slice none 0 0,.string ⟨#[]⟩] 33)=w2 at *
 have k1:=b1.cell
 have hbz:=bz
 have cZ:=hbz.cell
 have fZ:=hbz.frozen
 have hfl:=zao w2 (w.heap.size+1) (.bool false) (.int .i64 0) (.slice none 0 0) (.slice none 0 0) (.string ⟨#[]⟩)
 have hbf:=zan hbz rfl (.bool false) (.int .i64 0) (.slice none 0 0) (.slice none 0 0) (.string ⟨#[]⟩)
 have hxf:=hw2.frm hfl (fun k hk e=>by omega)
 have ziM:=za (show zbP w false aut0 ⟨#[]⟩ false (.returned (.tuple #[.agg #[.bool false,.int .i64 0,.slice none 0 0,.slice none 0 0,.string ⟨#[]⟩],.bool false])) (((((w2.setCell ⟨w.heap.size+1,0,none⟩ (.bool false)).setCell ⟨w.heap.size+1,1,none⟩ (.int .i64 0)).setCell ⟨w.heap.size+1,2,none⟩ (.slice none 0 0)).setCell ⟨w.heap.size+1,3,none⟩ (.slice none 0 0)).setCell ⟨w.heap.size+1,4,none⟩ (.string ⟨#[]⟩)) from ⟨none,0,0,none,0,0,rfl,zit _ _,hxf⟩)
 go_wp2_with fail
 generalize (((((w2.setCell ⟨w.heap.size+1,0,none⟩ (.bool false)).setCell ⟨w.heap.size+1,1,none⟩ (.int .i64 0)).setCell ⟨w.heap.size+1,2,none⟩ (.slice none 0 0)).setCell ⟨w.heap.size+1,3,none⟩ (.slice none 0 0)).setCell ⟨w.heap.size+1,4,none⟩ (.string ⟨#[]⟩))=wf at *
 have cf:=hbf.cell
 exact bodyPost_ret (v:=.tuple #[.agg #[.bool false,.int .i64 0,.slice none 0 0,.slice none 0 0,.string ⟨#[]⟩],.bool false]) (by simp [results,Tryz.results47,go_sem,cf]) rfl ziM.out
theorem zey {lo hi:Nat} {A:Option Addr} {n c:Nat} {A':Option Addr} {n' c':Nat} {cd ro:Int} {a:Aut} {s:ByteArray} {w:World}(h:zC w lo hi A n A' n' a)(hs:a.size≤1048576)(h0:cd≠0)(h1:cd≠1) :
  Calls Tryz.prog 58 #[.agg #[.int .i64 cd,.int .i64 a.al,.slice A n c,.slice A' n' c',.string s,.int .i64 ro]] w (zbP w false aut0 ⟨#[]⟩ false):=by
 have hc0:(cd==0)=false:=by simpa using h0
 have hn0:(cd != 0)=true:=by simpa using h0
 have hn1:(cd != 1)=true:=by simpa using h1
 clear h0 h1
 have HS:=za (fun W (hW:Ext w W)=>h.ext hW)
 have hss:=hs
 clear h
 go_enter Tryz.func58,Tryz.ntmps58
 obtain⟨b1,bz⟩:=zE (Ext.refl ((w.alloc (.cells #[.int .i64 cd,.int .i64 a.al,.slice A n c,.slice A' n' c',.string s,.int .i64 ro] 67)).alloc (.cells #[.bool false,.int .i64 0,.slice none 0 0,.slice none 0 0,.string ⟨#[]⟩] 33)))
 have hw2:Ext w ((w.alloc (.cells #[.int .i64 cd,.int .i64 a.al,.slice A n c,.slice A' n' c',.string s,.int .i64 ro] 67)).alloc (.cells #[.bool false,.int .i64 0,.slice none 0 0,.slice none 0 0,.string ⟨#[]⟩] 33)):=((Ext.refl w).alloc _).alloc _
 have hsz2:w.heap.size+2=((w.alloc (.cells #[.int .i64 cd,.int .i64 a.al,.slice A n c,.slice A' n' c',.string s,.int .i64 ro] 67)).alloc (.cells #[.bool false,.int .i64 0,.slice none 0 0,.slice none 0 0,.string ⟨#[]⟩] 33)).heap.size:=by simp
 go_upto_region 1 with fail
 generalize (w.alloc (.cells #[.int .i64 cd,.int .i64 a.al,.slice A n c,.slice A' n' c',.string s,.int .i64 ro] 67)).alloc (.cells #[.bool false,.int .i64 0,.slice none 0 0,.slice none 0 0,.string ⟨#[]⟩] 33)=w2 at *
 go_cut [4] (fun v wx=>∃ G B m d B' m' d',v=.pointer (some ⟨G,0,none⟩)∧NewC w2 wx G false a s B m d B' m' d')
 case first =>
  exact yC12a1
 case rest =>
  obtain⟨G,B,m,d,B',m',d',rfl,hb,own4,hx2,hG⟩:=hcut
  have k1:=(b1.ext hx2).cell
  have hbz:=bz.ext hx2
  have cZ:=hbz.cell
  have fZ:=hbz.frozen
  have hfl:=zao wc (w.heap.size+1) (.bool false) (.int .i64 0) (.slice none 0 0) (.slice none 0 0) (.string ⟨#[]⟩)
  have hbf:=zan hbz rfl (.bool false) (.int .i64 0) (.slice none 0 0) (.slice none 0 0) (.string ⟨#[]⟩)
  have hxf:=(hw2.trans hx2).frm hfl (fun k hk e=>by omega)
  have ziM:=za (show zbP w false aut0 ⟨#[]⟩ false (.returned (.tuple #[.agg #[.bool false,.int .i64 0,.slice none 0 0,.slice none 0 0,.string ⟨#[]⟩],.bool false])) (((((wc.setCell ⟨w.heap.size+1,0,none⟩ (.bool false)).setCell ⟨w.heap.size+1,1,none⟩ (.int .i64 0)).setCell ⟨w.heap.size+1,2,none⟩ (.slice none 0 0)).setCell ⟨w.heap.size+1,3,none⟩ (.slice none 0 0)).setCell ⟨w.heap.size+1,4,none⟩ (.string ⟨#[]⟩)) from ⟨none,0,0,none,0,0,rfl,zit _ _,hxf⟩)
  go_wp2_with fail
  generalize (((((wc.setCell ⟨w.heap.size+1,0,none⟩ (.bool false)).setCell ⟨w.heap.size+1,1,none⟩ (.int .i64 0)).setCell ⟨w.heap.size+1,2,none⟩ (.slice none 0 0)).setCell ⟨w.heap.size+1,3,none⟩ (.slice none 0 0)).setCell ⟨w.heap.size+1,4,none⟩ (.string ⟨#[]⟩))=wf at *
  have cf:=hbf.cell
  exact bodyPost_ret (v:=.tuple #[.agg #[.bool false,.int .i64 0,.slice none 0 0,.slice none 0 0,.string ⟨#[]⟩],.bool false]) (by simp [results,Tryz.results58,go_sem,cf]) rfl ziM.out
def hdX (cd:Int) (a:Aut) (s:ByteArray):Bool:=okC cd a s&&decide (cd=0)
def zgY (cd:Int) (a:Aut) (s:ByteArray):Aut:=if okC cd a s then a else aut0
def zgZ (cd:Int) (a:Aut) (s:ByteArray):ByteArray:=if okC cd a s then s else ⟨#[]⟩
theorem zeo {lo hi:Nat} {A:Option Addr} {n c:Nat} {A':Option Addr} {n' c':Nat} {cd ro:Int} {a:Aut} {s:ByteArray} {w:World}(h:zC w lo hi A n A' n' a)(hs:a.size≤1048576)(hs9:s.size≤9223372036854775807)(h0:cd=0→zH true a s=true)(h1:cd=1→zH false a s=true) :
  Calls Tryz.prog 47 #[.agg #[.int .i64 cd,.int .i64 a.al,.slice A n c,.slice A' n' c',.string s,.int .i64 ro]] w (zbP w (hdX cd a s) (zgY cd a s) (zgZ cd a s) (okC cd a s)):=by
 by_cases e0:cd=0
 ·subst e0
  have:=zdY h hs hs9 (h0 rfl) (c:=c) (c':=c') (ro:=ro)
  simpa [hdX,zgY,zgZ,okC0,h0 rfl] using this
 ·by_cases e1:cd=1
  ·subst e1
   have:=zdZ h hs hs9 (h1 rfl) (c:=c) (c':=c') (ro:=ro)
   simpa [hdX,zgY,zgZ,okC1,h1 rfl] using this
  ·have:=zep h hs e0 e1 (s:=s) (c:=c) (c':=c') (ro:=ro)
   simpa [hdX,zgY,zgZ,okC,e0,e1] using this
theorem zex {lo hi:Nat} {A:Option Addr} {n c:Nat} {A':Option Addr} {n' c':Nat} {cd ro:Int} {a:Aut} {s:ByteArray} {w:World}(h:zC w lo hi A n A' n' a)(hs:a.size≤1048576)(hs9:s.size≤9223372036854775807)(h0:cd=0→zH true a s=true)(h1:cd=1→zH false a s=true) :
  Calls Tryz.prog 58 #[.agg #[.int .i64 cd,.int .i64 a.al,.slice A n c,.slice A' n' c',.string s,.int .i64 ro]] w (zbP w (hdX cd a s) (zgY cd a s) (zgZ cd a s) (okC cd a s)):=by
 by_cases e0:cd=0
 ·subst e0
  have:=zed h hs hs9 (h0 rfl) (c:=c) (c':=c') (ro:=ro)
  simpa [hdX,zgY,zgZ,okC0,h0 rfl] using this
 ·by_cases e1:cd=1
  ·subst e1
   have:=zee h hs hs9 (h1 rfl) (c:=c) (c':=c') (ro:=ro)
   simpa [hdX,zgY,zgZ,okC1,h1 rfl] using this
  ·have:=zey h hs e0 e1 (s:=s) (c:=c) (c':=c') (ro:=ro)
   simpa [hdX,zgY,zgZ,okC,e0,e1] using this
theorem zcu (s t:Sys) (p:Aut):iface s p t = -1∨∃ L:Nat,iface s p t=(L:Int):=by
 unfold iface
 split
 ·exact .inr ⟨_,rfl⟩
 ·exact .inl rfl
section
variable {w:World} {lo hi n c lo1 hi1 m d m' d' lo2 hi2 k c2:Nat} {A B B' C:Option Addr} {s t:Sys} {p:Aut}
theorem spec_TaskOf0 (hs:zM w lo hi A n s)(hp:zC w lo1 hi1 B m B' m' p)(ht:zM w lo2 hi2 C k t)(hif:iface s p t = -1) :
  Calls Tryz.prog 174 #[.agg #[.int .i64 s.al,.int .i64 s.st,.slice A n c],.agg #[.int .i64 p.al,.slice B m d,.slice B' m' d'],.agg #[.int .i64 t.al,.int .i64 t.st,.slice C k c2]] w
   fun e w'=>e=.returned (.tuple #[.agg #[.int .i64 0,.int .i64 0,.slice none 0 0,.int .i64 0,.slice none 0 0,.slice none 0 0,.int .i64 0],.bool false])∧Ext w w':=by
 have HIf:=za (fun W (hW:Ext w W)=>zdy (c:=c) (d1:=d) (d1':=d') (c2:=c2) (hs.ext hW) (hp.ext hW) (ht.ext hW))
 rw [hif] at HIf
 clear hs hp ht hif
 have hx0:Ext w ((((w.alloc (.cells #[.int .i64 s.al,.int .i64 s.st,.slice A n c] 38)).alloc (.cells #[.int .i64 p.al,.slice B m d,.slice B' m' d'] 31)).alloc (.cells #[.int .i64 t.al,.int .i64 t.st,.slice C k c2] 38)).alloc (.cells #[.int .i64 0,.int .i64 0,.slice none 0 0,.int .i64 0,.slice none 0 0,.slice none 0 0,.int .i64 0] 96)):=((((Ext.refl _).alloc _).alloc _).alloc _).alloc _
 obtain⟨b1,b2,b3⟩:=zK ((Ext.refl _).alloc _:Ext (((w.alloc (.cells #[.int .i64 s.al,.int .i64 s.st,.slice A n c] 38)).alloc (.cells #[.int .i64 p.al,.slice B m d,.slice B' m' d'] 31)).alloc (.cells #[.int .i64 t.al,.int .i64 t.st,.slice C k c2] 38)) ((((w.alloc (.cells #[.int .i64 s.al,.int .i64 s.st,.slice A n c] 38)).alloc (.cells #[.int .i64 p.al,.slice B m d,.slice B' m' d'] 31)).alloc (.cells #[.int .i64 t.al,.int .i64 t.st,.slice C k c2] 38)).alloc (.cells #[.int .i64 0,.int .i64 0,.slice none 0 0,.int .i64 0,.slice none 0 0,.slice none 0 0,.int .i64 0] 96)))
 have b4:=Blk.new (((w.alloc (.cells #[.int .i64 s.al,.int .i64 s.st,.slice A n c] 38)).alloc (.cells #[.int .i64 p.al,.slice B m d,.slice B' m' d'] 31)).alloc (.cells #[.int .i64 t.al,.int .i64 t.st,.slice C k c2] 38)) 96 #[.int .i64 0,.int .i64 0,.slice none 0 0,.int .i64 0,.slice none 0 0,.slice none 0 0,.int .i64 0]
 simp only [World.size_alloc] at b4
 go_enter Tryz.func174,Tryz.ntmps174
 go_upto_region 1 with fail
 generalize (((w.alloc (.cells #[.int .i64 s.al,.int .i64 s.st,.slice A n c] 38)).alloc (.cells #[.int .i64 p.al,.slice B m d,.slice B' m' d'] 31)).alloc (.cells #[.int .i64 t.al,.int .i64 t.st,.slice C k c2] 38)).alloc (.cells #[.int .i64 0,.int .i64 0,.slice none 0 0,.int .i64 0,.slice none 0 0,.slice none 0 0,.int .i64 0] 96)=w0 at *
 have CS:=b1.cells
 have CP:=b2.cells
 have CT:=b3.cells
 have hww:=Ext.refl w0
 go_upto_region 3 with (first
  |(go_at_call 114;refine (HIf.out _ hx0).mono ?_;rintro e w1 ⟨rfl,hx01⟩))
 have bz:=b4.ext hx01
 have kz:=bz.cell
 have fz:=bz.frozen
 have hxw:=hx0.trans hx01
 have hf:Frm (fun k=>k=w.heap.size+1+1+1) w1 (((((((w1.setCell ⟨w.heap.size+1+1+1,0,none⟩ (.int .i64 0)).setCell ⟨w.heap.size+1+1+1,1,none⟩ (.int .i64 0)).setCell ⟨w.heap.size+1+1+1,2,none⟩ (.slice none 0 0)).setCell ⟨w.heap.size+1+1+1,3,none⟩ (.int .i64 0)).setCell ⟨w.heap.size+1+1+1,4,none⟩ (.slice none 0 0)).setCell ⟨w.heap.size+1+1+1,5,none⟩ (.slice none 0 0)).setCell ⟨w.heap.size+1+1+1,6,none⟩ (.int .i64 0)):=
  ((((((Frm.setCell w1 _ 0 _).trans (Frm.setCell _ _ 1 _)).trans (Frm.setCell _ _ 2 _)).trans (Frm.setCell _ _ 3 _)).trans (Frm.setCell _ _ 4 _)).trans (Frm.setCell _ _ 5 _)).trans (Frm.setCell _ _ 6 _)
 have bW:Blk (((((((w1.setCell ⟨w.heap.size+1+1+1,0,none⟩ (.int .i64 0)).setCell ⟨w.heap.size+1+1+1,1,none⟩ (.int .i64 0)).setCell ⟨w.heap.size+1+1+1,2,none⟩ (.slice none 0 0)).setCell ⟨w.heap.size+1+1+1,3,none⟩ (.int .i64 0)).setCell ⟨w.heap.size+1+1+1,4,none⟩ (.slice none 0 0)).setCell ⟨w.heap.size+1+1+1,5,none⟩ (.slice none 0 0)).setCell ⟨w.heap.size+1+1+1,6,none⟩ (.int .i64 0)) (w.heap.size+1+1+1) 96 #[.int .i64 0,.int .i64 0,.slice none 0 0,.int .i64 0,.slice none 0 0,.slice none 0 0,.int .i64 0]:=by
  simpa using ((((((bz.set_ 0 (.int .i64 0)).set_ 1 (.int .i64 0)).set_ 2 (.slice none 0 0)).set_ 3 (.int .i64 0)).set_ 4 (.slice none 0 0)).set_ 5 (.slice none 0 0)).set_ 6 (.int .i64 0)
 have hret:=za (hxw.frm hf (fun k hk e=>by omega))
 go_wp2_with fail
 generalize (((((((w1.setCell ⟨w.heap.size+1+1+1,0,none⟩ (.int .i64 0)).setCell ⟨w.heap.size+1+1+1,1,none⟩ (.int .i64 0)).setCell ⟨w.heap.size+1+1+1,2,none⟩ (.slice none 0 0)).setCell ⟨w.heap.size+1+1+1,3,none⟩ (.int .i64 0)).setCell ⟨w.heap.size+1+1+1,4,none⟩ (.slice none 0 0)).setCell ⟨w.heap.size+1+1+1,5,none⟩ (.slice none 0 0)).setCell ⟨w.heap.size+1+1+1,6,none⟩ (.int .i64 0))=W at *
 have cf:=bW.cell
 exact bodyPost_ret (v:=.tuple #[.agg #[.int .i64 0,.int .i64 0,.slice none 0 0,.int .i64 0,.slice none 0 0,.slice none 0 0,.int .i64 0],.bool false]) (by simp [results,Tryz.results174,go_sem,cf]) rfl ⟨rfl,hret.out⟩
theorem spec_l12Run0 {K:Nat}(hs:zM w lo hi A n s)(hp:zC w lo1 hi1 B m B' m' p)(ht:zM w lo2 hi2 C k t)(hif:iface s p t = -1) :
  Calls Tryz.prog 97 #[.agg #[.int .i64 s.al,.int .i64 s.st,.slice A n c],.agg #[.int .i64 t.al,.int .i64 t.st,.slice C k c2],.agg #[.int .i64 p.al,.slice B m d,.slice B' m' d'],.int .i64 K] w (zcU w ⟨3,noA,⟨#[]⟩,0⟩):=by
 have HT:=za (fun W (hW:Ext w W)=>spec_TaskOf0 (c:=c) (d:=d) (d':=d') (c2:=c2) (hs.ext hW) (hp.ext hW) (ht.ext hW) hif)
 clear hs hp ht hif
 have hx0:Ext w (((((w.alloc (.cells #[.int .i64 s.al,.int .i64 s.st,.slice A n c] 38)).alloc (.cells #[.int .i64 t.al,.int .i64 t.st,.slice C k c2] 38)).alloc (.cells #[.int .i64 p.al,.slice B m d,.slice B' m' d'] 31)).alloc (.cells #[.int .i64 0,.int .i64 0,.slice none 0 0,.slice none 0 0,.string ⟨#[]⟩,.int .i64 0] 67)).alloc (.cells #[.int .i64 0,.slice none 0 0,.slice none 0 0] 31)):=(((((Ext.refl _).alloc _).alloc _).alloc _).alloc _).alloc _
 obtain⟨b1,b2,b3⟩:=zK (((Ext.refl _).alloc _).alloc _:Ext (((w.alloc (.cells #[.int .i64 s.al,.int .i64 s.st,.slice A n c] 38)).alloc (.cells #[.int .i64 t.al,.int .i64 t.st,.slice C k c2] 38)).alloc (.cells #[.int .i64 p.al,.slice B m d,.slice B' m' d'] 31)) (((((w.alloc (.cells #[.int .i64 s.al,.int .i64 s.st,.slice A n c] 38)).alloc (.cells #[.int .i64 t.al,.int .i64 t.st,.slice C k c2] 38)).alloc (.cells #[.int .i64 p.al,.slice B m d,.slice B' m' d'] 31)).alloc (.cells #[.int .i64 0,.int .i64 0,.slice none 0 0,.slice none 0 0,.string ⟨#[]⟩,.int .i64 0] 67)).alloc (.cells #[.int .i64 0,.slice none 0 0,.slice none 0 0] 31)))
 have b4:=(Blk.new (((w.alloc (.cells #[.int .i64 s.al,.int .i64 s.st,.slice A n c] 38)).alloc (.cells #[.int .i64 t.al,.int .i64 t.st,.slice C k c2] 38)).alloc (.cells #[.int .i64 p.al,.slice B m d,.slice B' m' d'] 31)) 67 #[.int .i64 0,.int .i64 0,.slice none 0 0,.slice none 0 0,.string ⟨#[]⟩,.int .i64 0]).ext ((Ext.refl _).alloc (.cells #[.int .i64 0,.slice none 0 0,.slice none 0 0] 31))
 have b5:=Blk.new ((((w.alloc (.cells #[.int .i64 s.al,.int .i64 s.st,.slice A n c] 38)).alloc (.cells #[.int .i64 t.al,.int .i64 t.st,.slice C k c2] 38)).alloc (.cells #[.int .i64 p.al,.slice B m d,.slice B' m' d'] 31)).alloc (.cells #[.int .i64 0,.int .i64 0,.slice none 0 0,.slice none 0 0,.string ⟨#[]⟩,.int .i64 0] 67)) 31 #[.int .i64 0,.slice none 0 0,.slice none 0 0]
 simp only [World.size_alloc] at b4 b5
 go_enter Tryz.func97,Tryz.ntmps97
 go_upto_region 1 with fail
 generalize ((((w.alloc (.cells #[.int .i64 s.al,.int .i64 s.st,.slice A n c] 38)).alloc (.cells #[.int .i64 t.al,.int .i64 t.st,.slice C k c2] 38)).alloc (.cells #[.int .i64 p.al,.slice B m d,.slice B' m' d'] 31)).alloc (.cells #[.int .i64 0,.int .i64 0,.slice none 0 0,.slice none 0 0,.string ⟨#[]⟩,.int .i64 0] 67)).alloc (.cells #[.int .i64 0,.slice none 0 0,.slice none 0 0] 31)=w0 at *
 have CS:=b1.cells
 have CT:=b2.cells
 have CP:=b3.cells
 have hww:=Ext.refl w0
 go_upto_region 2 with (first
  |(go_at_call 174;refine (HT.out _ hx0).mono ?_;rintro e w1 ⟨rfl,hx01⟩))
 have hx2:Ext w0 (w1.alloc (.cells #[.int .i64 0,.int .i64 0,.slice none 0 0,.int .i64 0,.slice none 0 0,.slice none 0 0,.int .i64 0] 96)):=hx01.alloc _
 generalize w1.alloc (.cells #[.int .i64 0,.int .i64 0,.slice none 0 0,.int .i64 0,.slice none 0 0,.slice none 0 0,.int .i64 0] 96)=w2 at *
 have bz:=b4.ext hx2
 have kz:=bz.cell
 have fz:=bz.frozen
 have bu:=b5.ext hx2
 have ku:=bu.cell
 have fu:=bu.frozen
 obtain⟨f1,f2,f3⟩:=zgc (v:=⟨3,noA,⟨#[]⟩,0⟩) (A:=none) (n:=0) (c:=0) (A':=none) (n':=0) (c':=0) (x:=0) (X:=none) (k1:=0) (d1:=0) (X':=none) (k1':=0) (d1':=0) (hx0.trans hx2) bz bu rfl rfl (by omega) (zit _ _)
 dsimp only [noA] at f1 f2 f3
 have F2:=za f2
 have F3:=za f3
 clear f2 f3 bz bu b1 b2 b3 b4 b5
 go_wp2_with fail
 generalize (((((((((w2.setCell ⟨w.heap.size+1+1+1,0,none⟩ (.int .i64 3)).setCell ⟨w.heap.size+1+1+1,1,none⟩ (.int .i64 0)).setCell ⟨w.heap.size+1+1+1,2,none⟩ (.slice none 0 0)).setCell ⟨w.heap.size+1+1+1,3,none⟩ (.slice none 0 0)).setCell ⟨w.heap.size+1+1+1,4,none⟩ (.string ⟨#[]⟩)).setCell ⟨w.heap.size+1+1+1,5,none⟩ (.int .i64 0)).setCell ⟨w.heap.size+1+1+1+1,0,none⟩ (.int .i64 0)).setCell ⟨w.heap.size+1+1+1+1,1,none⟩ (.slice none 0 0)).setCell ⟨w.heap.size+1+1+1+1,2,none⟩ (.slice none 0 0))=W at *
 have cf2:=F2.out.cell
 have cf3:=F3.out.cell
 exact bodyPost_ret (v:=.tuple #[.agg #[.int .i64 3,.int .i64 0,.slice none 0 0,.slice none 0 0,.string ⟨#[]⟩,.int .i64 0],.agg #[.int .i64 0,.slice none 0 0,.slice none 0 0]]) (by simp [results,Tryz.results97,go_sem,cf2,cf3]) rfl f1.out
end
noncomputable def vpT (s t:Sys) (p:Aut):Vd:=
 if iface s p t<0 then ⟨3,noA,⟨#[]⟩,0⟩ else runT s t p (iface s p t).toNat 12 0 ((zZ (iface s p t).toNat (zt s p (iface s p t).toNat) [⟨#[]⟩] 11 [⟨#[]⟩]).map fun r=>(r,[⟨#[]⟩]))
theorem zgT {s t:Sys} {p:Aut}(h:iface s p t = -1):vpT s t p=⟨3,noA,⟨#[]⟩,0⟩:=by unfold vpT;rw [if_pos (by omega)]
theorem zgU {s t:Sys} {p:Aut} {L:Nat}(h:iface s p t=(L:Int)):vpT s t p=runT s t p L 12 0 ((zZ L (zt s p L) [⟨#[]⟩] 11 [⟨#[]⟩]).map fun r=>(r,[⟨#[]⟩])):=by
 have e:(iface s p t).toNat=L:=by omega
 unfold vpT
 rw [if_neg (by omega),e]
theorem iface_lt {s t:Sys} {p:Aut} {L:Nat}(h:iface s p t=(L:Int)):L<64:=by
 obtain⟨vs,vp,vt⟩:=zbi (show 0≤iface s p t by omega)
 rw [zeT vs vp vt] at h
 have h1:=zN vt
 have h2:((s.al.toNat|||p.al.toNat)&&&t.al.toNat)≤t.al.toNat:=Nat.and_le_right
 omega
theorem zgf (s t:Sys) (p:Aut):(vpT s t p).asm.size≤1048576∧(vpT s t p).tr.size≤4000:=by
 rcases zcu s t p with h|⟨L,h⟩
 ·rw [zgT h];exact⟨by show noA.size≤_;decide,Nat.zero_le _⟩
 ·rw [zgU h]
  obtain⟨vs,vp,vt⟩:=zbi (show 0≤iface s p t by omega)
  exact runT_size (iface_lt h) (by simp [zA,vs,vt]) vp 12 0 _ (zeJ.new L _)
theorem valid_len {s:Sys}(h:zn s=true):s.edges.length≤1536:=by
 unfold zn at h
 simp only [Bool.and_eq_true,decide_eq_true_eq,List.all_eq_true] at h
 obtain⟨-,⟨h1,h2⟩,h3⟩:=h
 have key:∀ (k:Nat) (e:Edg),s.edges[k]?=some e→(k:Int)≤(e.fr*6+e.le)*16+e.ta∧(e.fr*6+e.le)*16+e.ta<1536:=by
  intro k
  induction k with
  |zero =>
   intro e he
   have:=h3 0 (List.mem_range.2 (List.getElem?_eq_some_iff.1 he).1)
   unfold zaS at this
   rw [he] at this
   simp only [edgB,Bool.and_eq_true,decide_eq_true_eq] at this
   obtain⟨⟨⟨h4,h5⟩,⟨h6,h7⟩,h8,h9⟩,-⟩:=this
   unfold hasB at h9
   simp only [Bool.and_eq_true,decide_eq_true_eq] at h9
   omega
  |succ k ih =>
   intro e he
   have hk:=(List.getElem?_eq_some_iff.1 he).1
   have:=h3 (k+1) (List.mem_range.2 hk)
   unfold zaS at this
   rw [he] at this
   obtain⟨q,hq⟩:∃ q,s.edges[k]?=some q:=⟨_,List.getElem?_eq_getElem (by omega)⟩
   have hq2:=ih q hq
   rw [show k+1 - 1=k by omega,hq] at this
   simp only [edgB,Bool.and_eq_true,Bool.or_eq_true,decide_eq_true_eq] at this
   obtain⟨⟨⟨h4,h5⟩,⟨h6,h7⟩,h8,h9⟩,h10⟩:=this
   unfold hasB at h9
   simp only [Bool.and_eq_true,decide_eq_true_eq] at h9
   have hlt:=h10.resolve_left (by omega)
   have hqB:=h3 k (List.mem_range.2 (by omega))
   unfold zaS at hqB
   rw [hq] at hqB
   simp only [edgB,Bool.and_eq_true,Bool.or_eq_true,decide_eq_true_eq] at hqB
   obtain⟨⟨⟨g4,g5⟩,⟨g6,g7⟩,g8,g9⟩,-⟩:=hqB
   unfold hasB at g9
   simp only [Bool.and_eq_true,decide_eq_true_eq] at g9
   unfold ltE at hlt
   split at hlt
   ·split at hlt
    ·rw [decide_eq_true_eq] at hlt;omega
    ·rw [decide_eq_true_eq] at hlt;omega
   ·rw [decide_eq_true_eq] at hlt;omega
 rcases Nat.lt_or_ge 1536 s.edges.length with hlt|hge
 ·have:=key 1536 _ (List.getElem?_eq_getElem hlt)
  omega
 ·exact hge
theorem runT_tr (s t:Sys) (p:Aut) (L f:Nat):∀ (k:Nat) (o:Option (List ByteArray × List ByteArray)),(runT s t p L f k o).tr=⟨#[]⟩∨(runT s t p L f k o).tr=zaf [s,t] p:=by
 induction f with
 |zero=>intro k o;exact .inl rfl
 |succ f ih =>
  intro k o
  cases o with
  |none=>exact .inl rfl
  |some tab =>
   rw [runT]
   split
   ·exact .inl rfl
   ·split
    ·exact .inr rfl
    ·exact ih _ _
theorem vpT_word {s t:Sys} {p:Aut}(hs:zn s=true)(ht:zn t=true)(hp:zk p=true):zaM (vpT s t p).tr=true:=by
 have h0:zaM (⟨#[]⟩:ByteArray)=true:=by unfold zaM;rfl
 rcases zcu s t p with h|⟨L,h⟩
 ·rw [zgT h];exact h0
 ·rw [zgU h]
  rcases runT_tr s t p L 12 0 ((zZ L (zt s p L) [⟨#[]⟩] 11 [⟨#[]⟩]).map fun r=>(r,[⟨#[]⟩])) with e|e
  ·rw [e];exact h0
  ·rw [e];exact (zcr (ss:=[s,t]) (p:=p) (ziu (by simp) (by simp) (by simp [hs,ht])) hp).1
end Go.Proofs.YtcfchopfijalpaaGreatDoor
