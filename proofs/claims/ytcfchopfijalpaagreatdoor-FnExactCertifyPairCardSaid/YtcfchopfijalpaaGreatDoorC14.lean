/- impl.TaskOf -/
import Derived.Test.YtcfchopfijalpaaGreatDoorC13
import Derived.Test.YtcfchopfijalpaaGreatDoorC11
import Derived.Test.YtcfchopfijalpaaGreatDoorC06
import Derived.Test.YtcfchopfijalpaaGreatDoorC12
import Derived.Test.YtcfchopfijalpaaGreatDoorC07
import Derived.Test.YtcfchopfijalpaaGreatDoorC09
import Derived.Test.YtcfchopfijalpaaGreatDoorC02
import Derived.Test.YtcfchopfijalpaaGreatDoorC01
set_option maxHeartbeats 4000000
set_option maxRecDepth 100000
namespace Go.Proofs.YtcfchopfijalpaaGreatDoor
open Go Go.RowKit
section
variable {w:World} {lo hi n c lo1 hi1 m d m' d' lo2 hi2 k c2:Nat} {A B B' C:Option Addr} {s t:Sys} {p:Aut}
theorem impl_TaskOf {L:Nat}(hs:zM w lo hi A n s)(hp:zC w lo1 hi1 B m B' m' p)(ht:zM w lo2 hi2 C k t)(hif:iface s p t=(L:Int))(hn:n≤1000000) :
  Calls Tryz.prog 169 #[.agg #[.int .i64 s.al,.int .i64 s.st,.slice A n c],.agg #[.int .i64 p.al,.slice B m d,.slice B' m' d'],.agg #[.int .i64 t.al,.int .i64 t.st,.slice C k c2]] w (zhO w s p L):=by
 obtain⟨vs,vp,vt⟩:=zbi (show 0≤iface s p t by omega)
 have hL:L<64:=by
  rw [zeT vs vp vt] at hif
  have h1:=zN vt
  have h2:((s.al.toNat|||p.al.toNat)&&&t.al.toNat)≤t.al.toNat:=Nat.and_le_right
  omega
 have HIf:=za (fun W (hW:Ext w W)=>zdx (c:=c) (d1:=d) (d1':=d') (c2:=c2) (hs.ext hW) (hp.ext hW) (ht.ext hW))
 rw [hif] at HIf
 have HK:=za (fun W (hW:Ext w W)=>clone_edge (c:=c) (hs.2.ext hW) (by omega))
 have HC:=za (fun W (hW:Ext w W)=>zaz (c:=d) (c':=d') (hp.ext hW) (zck vp))
 have hV:=za (And.intro vs (And.intro vp hL))
 have hne:=za hs.1
 clear hs hp ht hif vs vp vt
 have hx0:Ext w ((((w.alloc (.cells #[.int .i64 s.al,.int .i64 s.st,.slice A n c] 38)).alloc (.cells #[.int .i64 p.al,.slice B m d,.slice B' m' d'] 31)).alloc (.cells #[.int .i64 t.al,.int .i64 t.st,.slice C k c2] 38)).alloc (.cells #[.int .i64 0,.int .i64 0,.slice none 0 0,.int .i64 0,.slice none 0 0,.slice none 0 0,.int .i64 0] 96)):=((((Ext.refl _).alloc _).alloc _).alloc _).alloc _
 obtain⟨b1,b2,b3⟩:=zK ((Ext.refl _).alloc (.cells #[.int .i64 0,.int .i64 0,.slice none 0 0,.int .i64 0,.slice none 0 0,.slice none 0 0,.int .i64 0] 96):Ext (((w.alloc (.cells #[.int .i64 s.al,.int .i64 s.st,.slice A n c] 38)).alloc (.cells #[.int .i64 p.al,.slice B m d,.slice B' m' d'] 31)).alloc (.cells #[.int .i64 t.al,.int .i64 t.st,.slice C k c2] 38)) ((((w.alloc (.cells #[.int .i64 s.al,.int .i64 s.st,.slice A n c] 38)).alloc (.cells #[.int .i64 p.al,.slice B m d,.slice B' m' d'] 31)).alloc (.cells #[.int .i64 t.al,.int .i64 t.st,.slice C k c2] 38)).alloc (.cells #[.int .i64 0,.int .i64 0,.slice none 0 0,.int .i64 0,.slice none 0 0,.slice none 0 0,.int .i64 0] 96)))
 have b4:=Blk.new (((w.alloc (.cells #[.int .i64 s.al,.int .i64 s.st,.slice A n c] 38)).alloc (.cells #[.int .i64 p.al,.slice B m d,.slice B' m' d'] 31)).alloc (.cells #[.int .i64 t.al,.int .i64 t.st,.slice C k c2] 38)) 96 #[.int .i64 0,.int .i64 0,.slice none 0 0,.int .i64 0,.slice none 0 0,.slice none 0 0,.int .i64 0]
 simp only [World.size_alloc] at b4
 have hL0:¬ ((L:Int)<0):=by omega
 go_enter Tryz.func169,Tryz.ntmps169
 go_upto_region 1 with fail
 generalize (((w.alloc (.cells #[.int .i64 s.al,.int .i64 s.st,.slice A n c] 38)).alloc (.cells #[.int .i64 p.al,.slice B m d,.slice B' m' d'] 31)).alloc (.cells #[.int .i64 t.al,.int .i64 t.st,.slice C k c2] 38)).alloc (.cells #[.int .i64 0,.int .i64 0,.slice none 0 0,.int .i64 0,.slice none 0 0,.slice none 0 0,.int .i64 0] 96)=w0 at *
 have k1:=b1.cell
 have k2:=b2.cell
 have k3:=b3.cell
 go_upto_region 4 with (go_at_call 188;refine (HIf.out _ hx0).mono ?_;rintro e w1 ⟨rfl,hx01⟩)
 have hx1:=hx0.trans hx01
 have b11:=b1.ext hx01
 have k1:=b11.cell
 go_upto_region 99 with fail
 refine (HK.out _ hx1).mono ?_
 rintro e w2 ⟨v',rfl,ho,hx2⟩
 obtain⟨A1,c1,rfl⟩:=zi ho
 have b12:=b11.ext hx2
 have k1:=b12.cell
 have f1:=b12.frozen
 have b42:=b4.ext (hx01.trans hx2)
 have b22:=b2.ext (hx01.trans hx2)
 go_upto_region 5 with fail
 have hf1:=Frm.setCell w2 w.heap.size 2 (.slice A1 n c1)
 have hxw3:Ext w (w2.setCell ⟨w.heap.size,2,none⟩ (.slice A1 n c1)):=(hx1.trans hx2).frm hf1 (fun q hq e=>by have e':q=w.heap.size:=e;omega)
 have b13:Blk (w2.setCell ⟨w.heap.size,2,none⟩ (.slice A1 n c1)) w.heap.size 38 #[.int .i64 s.al,.int .i64 s.st,.slice A1 n c1]:=by simpa using b12.set_ 2 (.slice A1 n c1)
 have b43:=b42.far (p:=⟨w.heap.size,2,none⟩) (by show w.heap.size+1+1+1≠w.heap.size;omega) (.slice A1 n c1)
 have b23:=b22.far (p:=⟨w.heap.size,2,none⟩) (by show w.heap.size+1≠w.heap.size;omega) (.slice A1 n c1)
 have hw1w:=hx1.size
 have hw0w:=hx0.size
 have hb4l:=b4.lt
 have hw01:=hx01.size
 have ho3:=zg ho hf1 (fun b hb e=>zF ho b12 (by decide) hb e)
 clear k1 f1 k2 k3 b11 b12 b42 b22 hf1 ho
 generalize w2.setCell ⟨w.heap.size,2,none⟩ (.slice A1 n c1)=w3 at *
 have C1:∀ X,Ext w3 X→∀ q,X.cell? ⟨w.heap.size,q,none⟩=#[Value.int .i64 s.al,.int .i64 s.st,.slice A1 n c1][q]?:=fun X hX=>(b13.ext hX).cell
 have C2:∀ X,Ext w3 X→∀ q,X.cell? ⟨w.heap.size+1,q,none⟩=#[Value.int .i64 p.al,.slice B m d,.slice B' m' d'][q]?:=fun X hX=>(b23.ext hX).cell
 have hww:=Ext.refl w3
 refine uR (fun X=>Ext w3 X) [5] (zu.of [0,1,3,2,4,5,6]) ?_
 refine uQ ?_
 refine ze fun K hK=>?_;go_simp
 refine (HC.out _ (hxw3.trans hww.drew)).mono ?_
 rintro e w4 ⟨B1,m1,d1,B1',m1',d1',rfl,ho2,hx4⟩
 have hx34:=hww.drew.trans hx4
 refine hK.out _ _ hx34 ?_
 refine pT ?_
 refine uQ ?_
 have bz:=b43.ext hx34
 have kz:=bz.cell
 have fz:=bz.frozen
 have hs4:=zh ho3 hx34
 have hb4z:=bz.lt
 have h34s:=hx34.size
 have h3s:=hxw3.size
 have hsys:zM w4 (w.heap.size+1+1+1+1) w4.heap.size A1 n s:=⟨hne.out,(Reads.of_own hs4).more (by omega) (Nat.le_refl _)⟩
 have hb43l:=b43.lt
 have hdr:w3.drew.heap.size=w3.heap.size:=rfl
 have haut:zC w4 (w.heap.size+1+1+1+1) w4.heap.size B1 m1 B1' m1' p:=(ho2.reads).more (by omega) (Nat.le_refl _)
 have hf:Frm (fun k=>k=w.heap.size+1+1+1) w4 (((((((w4.setCell ⟨w.heap.size+1+1+1,0,none⟩ (.int .i64 s.al)).setCell ⟨w.heap.size+1+1+1,1,none⟩ (.int .i64 s.st)).setCell ⟨w.heap.size+1+1+1,2,none⟩ (.slice A1 n c1)).setCell ⟨w.heap.size+1+1+1,3,none⟩ (.int .i64 p.al)).setCell ⟨w.heap.size+1+1+1,4,none⟩ (.slice B1 m1 d1)).setCell ⟨w.heap.size+1+1+1,5,none⟩ (.slice B1' m1' d1')).setCell ⟨w.heap.size+1+1+1,6,none⟩ (.int .i64 L)):=
  ((((((Frm.setCell w4 _ 0 _).trans (Frm.setCell _ _ 1 _)).trans (Frm.setCell _ _ 2 _)).trans (Frm.setCell _ _ 3 _)).trans (Frm.setCell _ _ 4 _)).trans (Frm.setCell _ _ 5 _)).trans (Frm.setCell _ _ 6 _)
 have bW:Blk (((((((w4.setCell ⟨w.heap.size+1+1+1,0,none⟩ (.int .i64 s.al)).setCell ⟨w.heap.size+1+1+1,1,none⟩ (.int .i64 s.st)).setCell ⟨w.heap.size+1+1+1,2,none⟩ (.slice A1 n c1)).setCell ⟨w.heap.size+1+1+1,3,none⟩ (.int .i64 p.al)).setCell ⟨w.heap.size+1+1+1,4,none⟩ (.slice B1 m1 d1)).setCell ⟨w.heap.size+1+1+1,5,none⟩ (.slice B1' m1' d1')).setCell ⟨w.heap.size+1+1+1,6,none⟩ (.int .i64 L)) (w.heap.size+1+1+1) 96 #[.int .i64 s.al,.int .i64 s.st,.slice A1 n c1,.int .i64 p.al,.slice B1 m1 d1,.slice B1' m1' d1',.int .i64 L]:=by
  simpa using ((((((bz.set_ 0 (.int .i64 s.al)).set_ 1 (.int .i64 s.st)).set_ 2 (.slice A1 n c1)).set_ 3 (.int .i64 p.al)).set_ 4 (.slice B1 m1 d1)).set_ 5 (.slice B1' m1' d1')).set_ 6 (.int .i64 L)
 refine zb fun K hK=>?_
 go_simp
 generalize (((((((w4.setCell ⟨w.heap.size+1+1+1,0,none⟩ (.int .i64 s.al)).setCell ⟨w.heap.size+1+1+1,1,none⟩ (.int .i64 s.st)).setCell ⟨w.heap.size+1+1+1,2,none⟩ (.slice A1 n c1)).setCell ⟨w.heap.size+1+1+1,3,none⟩ (.int .i64 p.al)).setCell ⟨w.heap.size+1+1+1,4,none⟩ (.slice B1 m1 d1)).setCell ⟨w.heap.size+1+1+1,5,none⟩ (.slice B1' m1' d1')).setCell ⟨w.heap.size+1+1+1,6,none⟩ (.int .i64 L))=X at *
 have hret:=za (show zhO w s p L (.returned (.tuple #[.agg #[.int .i64 s.al,.int .i64 s.st,.slice A1 n c1,.int .i64 p.al,.slice B1 m1 d1,.slice B1' m1' d1',.int .i64 L],.bool true])) X from
  ⟨A1,n,c1,B1,m1,d1,B1',m1',d1',rfl,⟨⟨w.heap.size+1+1+1+1,w4.heap.size,hsys.frm hf (fun k h1 h2 e=>by omega),haut.frm hf (fun k h1 h2 e=>by omega),hf.size⟩,hV.out.1,hV.out.2.1,hV.out.2.2⟩,(hxw3.trans hx34).frm hf (fun k hk e=>by omega)⟩)
 have cf:=bW.cell
 clear hf bW hsys haut kz fz bz hs4 ho2 ho3
 refine hK.out _ _ ?_
 clear hK
 refine pT ?_
 refine uQ ?_
 refine zf ?_
 go_wp2_with fail
 exact bodyPost_ret (v:=.tuple #[.agg #[.int .i64 s.al,.int .i64 s.st,.slice A1 n c1,.int .i64 p.al,.slice B1 m1 d1,.slice B1' m1' d1',.int .i64 L],.bool true]) (by simp [results,Tryz.results169,go_sem,cf]) rfl hret.out
end
theorem noA_own (W:World) (base:Nat):zac W base none 0 0 none 0 0 noA:=⟨⟨[],World.ownsRow_nil _ _ _ _,zx.nil _ _⟩,rfl,World.ownsRow_nil _ _ _ _,rfl⟩
section
variable {w:World} {lo1 hi1 lo2 hi2 k c2 k1 d1 k1' d1':Nat} {C X X':Option Addr} {t:Sys} {a:Aut}
theorem zeq (ht:zM w lo2 hi2 C k t)(ha:zC w lo1 hi1 X k1 X' k1' a)(hT:Tab w) :
  Calls Tryz.prog 170 #[.agg #[.int .i64 t.al,.int .i64 t.st,.slice C k c2],.agg #[.int .i64 a.al,.slice X k1 d1,.slice X' k1' d1']] w fun e w'=>e=.returned (.tuple #[.string (zaf [t] a),.bool (zbD [t] a)])∧Ext w w':=by
 have HT:=za (fun W (hW:Ext w W)=>ht.ext hW)
 have HA:=za (fun W (hW:Ext w W)=>ha.ext hW)
 have HB:=za (fun W (hW:Ext w W)=>hT.ext hW)
 have hx0:Ext w ((w.alloc (.cells #[.int .i64 t.al,.int .i64 t.st,.slice C k c2] 38)).alloc (.cells #[.int .i64 a.al,.slice X k1 d1,.slice X' k1' d1'] 31)):=((Ext.refl _).alloc _).alloc _
 obtain⟨b1,b2⟩:=zE (Ext.refl ((w.alloc (.cells #[.int .i64 t.al,.int .i64 t.st,.slice C k c2] 38)).alloc (.cells #[.int .i64 a.al,.slice X k1 d1,.slice X' k1' d1'] 31)))
 clear ht ha hT
 go_enter Tryz.func170,Tryz.ntmps170
 go_upto_region 1 with fail
 generalize (w.alloc (.cells #[.int .i64 t.al,.int .i64 t.st,.slice C k c2] 38)).alloc (.cells #[.int .i64 a.al,.slice X k1 d1,.slice X' k1' d1'] 31)=w0 at *
 have c1:=b1.cell
 have hx1:=(Ext.refl w0).alloc (.cells #[.int .i64 t.al,.int .i64 t.st,.slice C k c2] 38)
 have bs:=Blk.new w0 38 #[.int .i64 t.al,.int .i64 t.st,.slice C k c2]
 obtain⟨lo3,hi3,hsl⟩:=sl_one bs (HT.out _ (hx0.trans hx1))
 have c2':=(b2.ext hx1).cell
 have HP:=za (zcv (c:=1) (d2:=d1) (d2':=d1') hsl (HA.out _ (hx0.trans hx1)) (HB.out _ (hx0.trans hx1)))
 clear hsl bs
 go_wp2_with fail
 refine HP.out.mono ?_
 rintro e w2 ⟨rfl,hx2⟩
 go_wp2_with fail
 go_ret2
 exact⟨rfl,(hx0.trans hx1).trans hx2⟩
end
section
variable {w:World} {lo hi n c lo1 hi1 m d m' d' lo2 hi2 k c2:Nat} {A B B' C:Option Addr} {s t:Sys} {p:Aut}
theorem zgm {P:Program} (w:World) (d:Nat) (t:TypeId) {ps rs:Array TypeId} {v:Bool}(h:P.underlying t=some (.func ps rs v)):(Op.equalIn (d+1) t .nilFunc .nilFunc).run P w=.ok true w:=by
 simp [Op.equalIn,run_underlying h]
@[go_sem] theorem neq_nilFunc {P:Program} (w:World) (t:TypeId) {ps rs:Array TypeId} {v:Bool} (h:P.underlying t=some (.func ps rs v)):(binOp .neq t .nilFunc .nilFunc).run P w=.ok (.bool false) w:=by
 simp only [binOp]
 simp [show (Op.equal t .nilFunc .nilFunc).run P w=.ok true w from zgm w 9999 t h]
@[go_sem] theorem neq_nilFuncP (w:World):(binOp .neq 195 .nilFunc .nilFunc).run Tryz.prog w=.ok (.bool false) w:=neq_nilFunc w _ rfl
theorem store_func (kn:Nat) (rc:Value) (X:World) (g:Nat)(h1:(X.cell? ⟨g,1,none⟩).isSome=true)(h2:X.frozen? ⟨g,1,none⟩=false):(store ⟨g,1,none⟩ (.func (.func kn) #[rc] #[])).run Tryz.prog X=.ok () (X.setCell ⟨g,1,none⟩ (.func (.func kn) #[rc] #[])):=by
 rw [run_store _ _ _ _ _ rfl]
 obtain⟨u,hu⟩:=Option.isSome_iff_exists.1 h1
 rw [hu,h2]
 rfl
theorem vd_fin {w W:World} {Z:Nat} {a0 a1 a2 a3 a4 a5:Value}(hx:Ext w W)(hb:Blk W Z 67 #[a0,a1,a2,a3,a4,a5])(hZ:w.heap.size≤Z) (u0 u1 u2 u3 u4 u5:Value) :
  Blk ((((((W.setCell ⟨Z,0,none⟩ u0).setCell ⟨Z,1,none⟩ u1).setCell ⟨Z,2,none⟩ u2).setCell ⟨Z,3,none⟩ u3).setCell ⟨Z,4,none⟩ u4).setCell ⟨Z,5,none⟩ u5) Z 67 #[u0,u1,u2,u3,u4,u5] ∧
  Frm (fun k=>k=Z) W ((((((W.setCell ⟨Z,0,none⟩ u0).setCell ⟨Z,1,none⟩ u1).setCell ⟨Z,2,none⟩ u2).setCell ⟨Z,3,none⟩ u3).setCell ⟨Z,4,none⟩ u4).setCell ⟨Z,5,none⟩ u5) ∧
  Ext w ((((((W.setCell ⟨Z,0,none⟩ u0).setCell ⟨Z,1,none⟩ u1).setCell ⟨Z,2,none⟩ u2).setCell ⟨Z,3,none⟩ u3).setCell ⟨Z,4,none⟩ u4).setCell ⟨Z,5,none⟩ u5):=by
 have hf:=zgG W Z u0 u1 u2 u3 u4 u5
 exact⟨by simpa using (((((hb.set_ 0 u0).set_ 1 u1).set_ 2 u2).set_ 3 u3).set_ 4 u4).set_ 5 u5,hf,hx.frm hf (fun q hq e=>by have e':q=Z:=e;omega)⟩
def TabV3 (W:World) (S:Nat→Prop) (base g:Nat) (o:Option (List ByteArray × List ByteArray)):Prop:=
 ¬ S g∧((o=none∧∃ u v,Blk W g 101 #[u,v])∨∃ (rs cs:List ByteArray) (R C:Option Addr) (cr cc:Nat),o=some (rs,cs)∧Blk W g 101 #[.slice R rs.length cr,.slice C cs.length cc]∧zfW W S base R rs.length cr C cs.length cc rs cs)
theorem zhL {W:World} {S:Nat→Prop} {base base' g cr2 cc2:Nat} {R2 C2:Option Addr} {u v:Value} {rs2 cs2:List ByteArray}(hb:Blk W g 101 #[u,v])(hg:¬ S g)(ht:zfW W S base' R2 rs2.length cr2 C2 cs2.length cc2 rs2 cs2)(h1:base≤base')(h2:g<base') :
  TabV3 ((W.setCell ⟨g,0,none⟩ (.slice R2 rs2.length cr2)).setCell ⟨g,1,none⟩ (.slice C2 cs2.length cc2)) S base g (some (rs2,cs2)):=by
 have hr:=(ht.r.frm (Frm.setCell W g 0 (.slice R2 rs2.length cr2)) (fun b hb e=>by have:=(ht.r.own.lt b hb).1;have e':b=g:=e;omega))
 have hc:=(ht.c.frm (Frm.setCell W g 0 (.slice R2 rs2.length cr2)) (fun b hb e=>by have:=(ht.c.own.lt b hb).1;have e':b=g:=e;omega))
 have hr2:=(hr.frm (Frm.setCell _ g 1 (.slice C2 cs2.length cc2)) (fun b hb e=>by have:=(hr.own.lt b hb).1;have e':b=g:=e;omega))
 have hc2:=(hc.frm (Frm.setCell _ g 1 (.slice C2 cs2.length cc2)) (fun b hb e=>by have:=(hc.own.lt b hb).1;have e':b=g:=e;omega))
 exact⟨hg,.inr ⟨rs2,cs2,R2,C2,cr2,cc2,rfl,by simpa using (hb.set_ 0 (.slice R2 rs2.length cr2)).set_ 1 (.slice C2 cs2.length cc2),⟨⟨zq hr2.own h1,hr2.far⟩,⟨zq hc2.own h1,hc2.far⟩⟩⟩⟩
theorem zgq {L:Nat}(hs:zM w lo hi A n s)(hp:zC w lo1 hi1 B m B' m' p)(ht:zM w lo2 hi2 C k t)(hif:iface s p t=(L:Int))(hn:n≤1000000)(hT:Tab w) :
  Calls Tryz.prog 91 #[.agg #[.int .i64 s.al,.int .i64 s.st,.slice A n c],.agg #[.int .i64 t.al,.int .i64 t.st,.slice C k c2],.agg #[.int .i64 p.al,.slice B m d,.slice B' m' d'],.nilFunc] w (zgh w (vpT s t p)):=by
 obtain⟨vs,vp,vt⟩:=zbi (show 0≤iface s p t by omega)
 have HTk:=za (fun W (hW:Ext w W)=>impl_TaskOf (c:=c) (d:=d) (d':=d') (c2:=c2) (hs.ext hW) (hp.ext hW) (ht.ext hW) hif hn)
 have HS:=za (fun W (hW:Ext w W)=>hs.ext hW)
 have HP:=za (fun W (hW:Ext w W)=>hp.ext hW)
 have HTt:=za (fun W (hW:Ext w W)=>ht.ext hW)
 have HPv:=za (fun W (hW:Ext w W)=>show Calls Tryz.prog 49 #[.slice (some ⟨W.heap.size,0,none⟩) 2 2,.agg #[.int .i64 p.al,.slice B m d,.slice B' m' d']] (W.alloc (.cells #[.int .i64 s.al,.int .i64 s.st,.slice A n c,.int .i64 t.al,.int .i64 t.st,.slice C k c2] 38)) (fun e w'=>e=.returned (.tuple #[.string (zaf [s,t] p),.bool (zbD [s,t] p)])∧Ext W w') from by
  have f6:=(Ext.refl W).alloc (.cells #[.int .i64 s.al,.int .i64 s.st,.slice A n c,.int .i64 t.al,.int .i64 t.st,.slice C k c2] 38)
  obtain⟨l1,l2,hsl⟩:=sl_pair (Blk.new W 38 #[.int .i64 s.al,.int .i64 s.st,.slice A n c,.int .i64 t.al,.int .i64 t.st,.slice C k c2]) (hs.ext (hW.trans f6)) (ht.ext (hW.trans f6))
  exact (zcv hsl (hp.ext (hW.trans f6)) (hT.ext (hW.trans f6))).mono (fun e w' h=>⟨h.1,f6.trans h.2⟩))
 have hvp:=za (zgU hif)
 have Htab:=za hT
 clear hs hp ht hT
 go_enter Tryz.func91,Tryz.ntmps91
 go_upto_region 1 with fail
 obtain⟨b4,b5,b6⟩:=zK ((Ext.refl _).alloc (.cells #[.int .i64 0,.int .i64 0,.slice none 0 0,.slice none 0 0,.string ⟨#[]⟩,.int .i64 0] 67):Ext (((w.alloc (.cells #[.int .i64 s.al,.int .i64 s.st,.slice A n c] 38)).alloc (.cells #[.int .i64 t.al,.int .i64 t.st,.slice C k c2] 38)).alloc (.cells #[.int .i64 p.al,.slice B m d,.slice B' m' d'] 31)) ((((w.alloc (.cells #[.int .i64 s.al,.int .i64 s.st,.slice A n c] 38)).alloc (.cells #[.int .i64 t.al,.int .i64 t.st,.slice C k c2] 38)).alloc (.cells #[.int .i64 p.al,.slice B m d,.slice B' m' d'] 31)).alloc (.cells #[.int .i64 0,.int .i64 0,.slice none 0 0,.slice none 0 0,.string ⟨#[]⟩,.int .i64 0] 67)))
 have b8:=Blk.new (((w.alloc (.cells #[.int .i64 s.al,.int .i64 s.st,.slice A n c] 38)).alloc (.cells #[.int .i64 t.al,.int .i64 t.st,.slice C k c2] 38)).alloc (.cells #[.int .i64 p.al,.slice B m d,.slice B' m' d'] 31)) 67 #[.int .i64 0,.int .i64 0,.slice none 0 0,.slice none 0 0,.string ⟨#[]⟩,.int .i64 0]
 simp only [World.size_alloc] at b8
 have hx0:Ext w ((((w.alloc (.cells #[.int .i64 s.al,.int .i64 s.st,.slice A n c] 38)).alloc (.cells #[.int .i64 t.al,.int .i64 t.st,.slice C k c2] 38)).alloc (.cells #[.int .i64 p.al,.slice B m d,.slice B' m' d'] 31)).alloc (.cells #[.int .i64 0,.int .i64 0,.slice none 0 0,.slice none 0 0,.string ⟨#[]⟩,.int .i64 0] 67)):=((((Ext.refl _).alloc _).alloc _).alloc _).alloc _
 generalize (((w.alloc (.cells #[.int .i64 s.al,.int .i64 s.st,.slice A n c] 38)).alloc (.cells #[.int .i64 t.al,.int .i64 t.st,.slice C k c2] 38)).alloc (.cells #[.int .i64 p.al,.slice B m d,.slice B' m' d'] 31)).alloc (.cells #[.int .i64 0,.int .i64 0,.slice none 0 0,.slice none 0 0,.string ⟨#[]⟩,.int .i64 0] 67)=w1 at *
 have k4:=b4.cell
 have k5:=b5.cell
 have k6:=b6.cell
 go_upto_region 4 with (go_at_call 169;refine (HTk.out _ hx0).mono ?_;rintro e w2 ⟨A1,n1,c1,B1,m1,d1,B1',m1',d1',rfl,hTc,hx12⟩)
 have hTc3:=hTc.ext ((Ext.refl w2).alloc (.cells #[.int .i64 s.al,.int .i64 s.st,.slice A1 n1 c1,.int .i64 p.al,.slice B1 m1 d1,.slice B1' m1' d1',.int .i64 L] 96))
 have b9:=Blk.new w2 96 #[.int .i64 s.al,.int .i64 s.st,.slice A1 n1 c1,.int .i64 p.al,.slice B1 m1 d1,.slice B1' m1' d1',.int .i64 L]
 have hx13:=hx12.trans ((Ext.refl w2).alloc (.cells #[.int .i64 s.al,.int .i64 s.st,.slice A1 n1 c1,.int .i64 p.al,.slice B1 m1 d1,.slice B1' m1' d1',.int .i64 L] 96))
 generalize w2.alloc (.cells #[.int .i64 s.al,.int .i64 s.st,.slice A1 n1 c1,.int .i64 p.al,.slice B1 m1 d1,.slice B1' m1' d1',.int .i64 L] 96)=w3 at *
 have k9:=b9.cell
 obtain⟨loT,hiT,hsT,hpT,hhT⟩:=hTc3.at_
 have hL:=hTc3.lt
 have hor:=za (zhf (c:=c1) (d:=d1) (d':=d1') (Ext.refl w3) hsT hpT vs vp hL hhT (Htab.out.ext (hx0.trans hx13)))
 have hstf:=store_func (155)
 go_upto_region 5 with (go_at_call 79;refine hor.out.mono ?_;rintro e w4 ⟨F,S0,rfl,hok,hFs,hFp,hFL,hFlo,hFb,hJ,hx34⟩)
 have b11:=Blk.new w4 115 #[.int .i64 (L:Int),.func (.func 155) #[.pointer (some ⟨F.G,0,none⟩)] #[]]
 have hx45:Ext w4 (w4.alloc (.cells #[.int .i64 (L:Int),.func (.func 155) #[.pointer (some ⟨F.G,0,none⟩)] #[]] 115)):=(Ext.refl _).alloc _
 have hO:=za (show zgg w3.heap.size L (zt s p L) (SafJ F) 155 (.pointer (some ⟨F.G,0,none⟩)) by
  have:=sf_orc hok
  rwa [hFs,hFp,hFL,hFlo] at this)
 have hS0f:=za (fun (q:Nat) (hq:w4.heap.size≤q)=>zbv.fresh hO.out.ok hJ hq)
 have hj5:=hO.out.ok.keep hJ hx45 (fun _ _ h=>h.elim)
 have hx35:=hx34.trans hx45
 generalize w4.alloc (.cells #[.int .i64 (L:Int),.func (.func 155) #[.pointer (some ⟨F.G,0,none⟩)] #[]] 115)=w5 at *
 have k11:=b11.cell
 have hnt:=za (or_newTable hO.out hj5 (by omega) hx35.size hL)
 have hw34:=hx34.size
 go_upto_region 99 with fail
 refine hnt.out.mono ?_
 rintro e w6 ⟨S6,hk6,hcase⟩
 rcases hcase with ⟨hnn,rfl⟩|⟨rs0,cs0,R0,C0,cr0,cc0,ho0,rfl,hT0⟩
 ·obtain⟨r,hr⟩:=newT_some L (zt s p L)
  rw [hr] at hnn
  cases hnn
 have hb13:=Blk.new w6 101 #[.slice R0 rs0.length cr0,.slice C0 cs0.length cc0]
 have hx67:Ext w6 (w6.alloc (.cells #[.slice R0 rs0.length cr0,.slice C0 cs0.length cc0] 101)):=(Ext.refl _).alloc _
 obtain⟨g13,hg13⟩:∃ g,Hid (g=w6.heap.size):=⟨_,za rfl⟩
 have hS6f:=za (fun (q:Nat) (hq:w6.heap.size≤q)=>zbv.fresh hO.out.ok hk6.j hq)
 go_upto_region 6 with fail
 rw [← hg13.out] at hb13 ⊢
 generalize w6.alloc (.cells #[.slice R0 rs0.length cr0,.slice C0 cs0.length cc0] 101)=w7 at *
 have hlowS:=za (show ∀ q:Nat,S0 q→w3.heap.size≤q from fun q h=>by have:=hO.out.ok.low hj5 q h;omega)
 have hk7:=za ((hk6.ext hO.out.ok hx67).more hO.out.ok (show 0+21840≤21840+30000*0 by omega))
 obtain⟨o0,hoe⟩:∃ o0:Option (List ByteArray × List ByteArray),Hid ((zZ L (zt s p L) [⟨#[]⟩] 11 [⟨#[]⟩]).map (fun r=>(r,[(⟨#[]⟩:ByteArray)]))=o0):=⟨_,za rfl⟩
 have ho0':o0=some (rs0,cs0):=hoe.out.symm.trans ho0
 have hln0:=za (show LnOk L (zt s p L) 0 o0 by rw [← hoe.out];exact LnOk.start L (zt s p L))
 have hrt0:=za (show runT s t p L (12 - 0) 0 o0=vpT s t p by rw [hvp.out,← hoe.out])
 have hso0:o0.isSome=true:=by rw [ho0'];rfl
 have htv0:=za (show TabV3 w7 S6 w5.heap.size g13 o0 from ⟨hS6f.out g13 (by have:=hg13.out;omega),.inr ⟨rs0,cs0,R0,C0,cr0,cc0,ho0',hb13,hT0.ext hx67⟩⟩)
 have hw12:=hx12.size
 have hw13:=hx13.size
 have hw45:=hx45.size
 have hw56:=hk6.size
 have hb4l:=b4.lt
 have hb8l:=b8.lt
 have hb9l:=b9.lt
 have B4:=za ((b4.ext hx13).ext hx35)
 have B5:=za ((b5.ext hx13).ext hx35)
 have B6:=za ((b6.ext hx13).ext hx35)
 have B8:=za ((b8.ext hx13).ext hx35)
 have B9:=za (b9.ext hx35)
 have B11:=za b11
 have hGe:w.heap.size≤w5.heap.size:=(hx0.trans (hx13.trans hx35)).size
 have hxw5:=za (hx0.trans (hx13.trans hx35))
 clear k4 k5 k6 k9 k11 b4 b5 b6 b8 b9 b11 hT0 hb13 hk6 hnt hor hstf ho0
 go_wp2_with fail
 go_loopw [10,14,15,16,17,18,19,20] (fun v10 v14 _ _ _ _ _ _ wr=>∃ (r:Nat) (o:Option (List ByteArray × List ByteArray)) (S1:Nat→Prop),v10=.bool o.isSome∧v14=.int .i64 ((r:Int)+1)∧r≤12∧Hid (Kp (SafJ F) (21840+30000*r) S0 w5 wr S1)∧Hid (TabV3 wr S1 w5.heap.size g13 o)∧Hid (LnOk L (zt s p L) r o)∧Hid (runT s t p L (12 - r) r o=vpT s t p)) (fun _ v14 _ _ _ _ _ _ _=>14 - (intOf v14).toNat)
 case atStart=>exact⟨0,o0,S6,by rw [hso0],rfl,Nat.zero_le _,hk7,htv0,hln0,hrt0⟩
 case round =>
  clear hk7 htv0 hln0 hrt0 hso0 ho0' hoe
  obtain⟨r,o,S1,rfl,rfl,hr,hkp,htv,hln,hrt⟩:=hrel
  have hb8r:=hkp.out.blk B8.out (fun h=>by have:=hlowS.out _ h;omega)
  cases o with
  |none =>
   have hv:=za (show vpT s t p=⟨2,noA,⟨#[]⟩,r⟩ by
    rw [← hrt.out]
    cases h12:12 - r with
    |zero=>rfl
    |succ f=>rfl)
   have k8:=hb8r.1.cell
   have f8:=hb8r.1.frozen
   go_wp2_with fail
   have hxr:Ext w wr:=hxw5.out.frm hkp.out.frm (fun q hq hs=>by have:=hlowS.out q hs;omega)
   have ziM:=vd_fin hxr hb8r.1 (by omega) (.int .i64 2) (.int .i64 0) (.slice none 0 0) (.slice none 0 0) (.string ⟨#[]⟩) (.int .i64 r)
   have cf:=ziM.1.cell
   have Hx:=za ziM.2.2
   clear ziM k8 f8 hb8r
   generalize ((((((wr.setCell ⟨w.heap.size+1+1+1,0,none⟩ (.int .i64 2)).setCell ⟨w.heap.size+1+1+1,1,none⟩ (.int .i64 0)).setCell ⟨w.heap.size+1+1+1,2,none⟩ (.slice none 0 0)).setCell ⟨w.heap.size+1+1+1,3,none⟩ (.slice none 0 0)).setCell ⟨w.heap.size+1+1+1,4,none⟩ (.string ⟨#[]⟩)).setCell ⟨w.heap.size+1+1+1,5,none⟩ (.int .i64 r))=X at *
   exact bodyPost_ret (v:=.agg #[.int .i64 2,.int .i64 0,.slice none 0 0,.slice none 0 0,.string ⟨#[]⟩,.int .i64 r]) (by simp [results,Tryz.results91,go_sem,cf]) rfl (by
    rw [hv.out]
    exact⟨none,0,0,none,0,0,rfl,noA_own _ _,Hx.out⟩)
  |some tab =>
   obtain⟨rs,cs⟩:=tab
   obtain⟨hg1,hT1⟩:=htv.out
   rcases hT1 with ⟨h0,_⟩|⟨rs',cs',R,C1,cr,cc,h0,hbt,hts⟩
   ·cases h0
   obtain⟨rfl,rfl⟩:=Prod.mk.inj (Option.some.inj h0)
   obtain⟨hI,hcl⟩:=hln.out.tab rs cs rfl
   have hgew:w5.heap.size≤wr.heap.size:=hkp.out.size
   have hau:=za (zfI hO.out hkp.out.j (by omega) hts hI hcl (by omega) hL)
   have hva:=za (zcq hI hcl hL)
   obtain⟨a,haT⟩:∃ a,Hid (zdn L (zt s p L) rs cs=a):=⟨_,za rfl⟩
   rw [haT.out] at hau hva
   have k8:=hb8r.1.cell
   have f8:=hb8r.1.frozen
   have hb11r:=hkp.out.blk B11.out (hS0f.out _ (Nat.le_refl _))
   have k11:=hb11r.1.cell
   have k13:=hbt.cell
   have Hts:=za hts
   have Hbt:=za hbt
   clear htv hts hbt h0
   go_upto_region 11 with (go_at_call 81;refine hau.out.mono ?_;rintro e w8 ⟨S2,AA,AA',an,ac,an',ac',rfl,hAS,hk2⟩)
   have hk8:=hkp.out.trans hk2
   have hb15:=Blk.new w8 31 #[.int .i64 a.al,.slice AA an ac,.slice AA' an' ac']
   have hx89:Ext w8 (w8.alloc (.cells #[.int .i64 a.al,.slice AA an ac,.slice AA' an' ac'] 31)):=(Ext.refl _).alloc _
   have hk9:=za (hk8.ext hO.out.ok hx89)
   have hAS9:=za (hAS.ext hx89)
   have Hbt9:=za ((hk2.blk Hbt.out hg1).1.ext hx89)
   have hg9:=za (hk2.out Hbt.out.lt hg1)
   have Hts9:=za ((Hts.out.kp hk2).ext hx89)
   have hS8f:=za (fun (q:Nat) (hq:w8.heap.size≤q)=>zbv.fresh hO.out.ok hk8.j hq)
   have hgw8:=hk2.size
   generalize w8.alloc (.cells #[.int .i64 a.al,.slice AA an ac,.slice AA' an' ac'] 31)=w9 at *
   have hxw9:=za (show Ext w w9 from hk9.out.toExt hxw5.out (fun q hs=>by have:=hlowS.out q hs;omega))
   have HVU:=za (zer (c:=c) (d1:=ac) (d1':=ac') (d2:=d) (d2':=d') (HS.out _ hxw9.out) hAS9.out.own_.reads (HP.out _ hxw9.out) (Htab.out.ext hxw9.out))
   have HFV:=za (fun W (hW:Ext w9 W)=>zeq (c2:=c2) (k1:=an) (d1:=ac) (k1':=an') (d1':=ac') (HTt.out _ (hxw9.out.trans hW)) (hAS9.out.own_.reads.ext hW) (Htab.out.ext (hxw9.out.trans hW)))
   have k4:=(hk9.out.blk B4.out (fun h=>by have:=hlowS.out _ h;omega)).1.cell
   have k6:=(hk9.out.blk B6.out (fun h=>by have:=hlowS.out _ h;omega)).1.cell
   have k15:=hb15.cell
   have B9':=za (hk9.out.blk B9.out (fun h=>by have:=hlowS.out _ h;omega)).1
   clear hau hAS hk2 hk8 Hts Hbt k8 f8 hb8r k11 k13 hb11r
   go_upto_region 14 with (go_at_call 82;refine HVU.out.mono ?_;rintro e w10 ⟨rfl,hx10⟩)
   have hr11:r<12:=by have:=hln.out.more rs cs rfl;have:=hI.r12;omega
   have hrt2:=za (show (if (zaU s p t L a).2=0 then (⟨0,a,⟨#[]⟩,r+1⟩:Vd) else if (zaU s p t L a).2=1 then ⟨1,noA,zaf [s,t] p,r+1⟩ else runT s t p L (11 - r) (r+1) (zaV L (zt s p L) rs cs (zaU s p t L a).1))=vpT s t p by
    rw [← hrt.out,show 12 - r=(11 - r)+1 by omega,runT,haT.out])
   clear hrt
   have hwu:=za (zeC vs hva.out vp)
   have hwb:=za (zcr (ss:=[t]) (p:=a) (by unfold zA;simp [vt]) hva.out)
   have hb8w:=hk9.out.blk B8.out (fun h=>by have:=hlowS.out _ h;omega)
   have Hw10:=za (hxw9.out.trans hx10)
   cases hub:zci s a p with
   |false =>
    have k5:=((hk9.out.blk B5.out (fun h=>by have:=hlowS.out _ h;omega)).1.ext hx10).cell
    have c15:=(hb15.ext hx10).cell
    go_upto_region 17 with (go_at_call 170;refine (HFV.out _ hx10).mono ?_;rintro e w11 ⟨rfl,hx11⟩)
    have hx911:=hx10.trans hx11
    have d15:=(hb15.ext hx911).cell
    cases hbb:zbD [t] a with
    |false =>
     have hv:=za (show vpT s t p=⟨0,a,⟨#[]⟩,r+1⟩ by
      rw [← hrt2.out]
      have hj:zaU s p t L a=(⟨#[]⟩,0):=by unfold zaU;rw [if_neg (by simp [hub]),if_neg (by simp [hbb])]
      rw [hj,if_pos rfl])
     have hb8v:=hb8w.1.ext hx911
     have k8:=hb8v.cell
     have f8:=hb8v.frozen
     clear c15
     go_wp2_with fail
     have ziM:=vd_fin (hxw9.out.trans hx911) hb8v (by omega) (.int .i64 0) (.int .i64 a.al) (.slice AA an ac) (.slice AA' an' ac') (.string ⟨#[]⟩) (.int .i64 ((r:Int)+1))
     have cf:=ziM.1.cell
     have Hx:=za ziM.2.2
     have Ho:=za (((hAS9.out.own_.ext hx911).keep ziM.2.1 (fun b hb e=>by have e':b=w.heap.size+1+1+1:=e;omega)).less (show w.heap.size≤wr.heap.size by omega))
     clear ziM k8 f8 hb8v
     generalize ((((((w11.setCell ⟨w.heap.size+1+1+1,0,none⟩ (.int .i64 0)).setCell ⟨w.heap.size+1+1+1,1,none⟩ (.int .i64 a.al)).setCell ⟨w.heap.size+1+1+1,2,none⟩ (.slice AA an ac)).setCell ⟨w.heap.size+1+1+1,3,none⟩ (.slice AA' an' ac')).setCell ⟨w.heap.size+1+1+1,4,none⟩ (.string ⟨#[]⟩)).setCell ⟨w.heap.size+1+1+1,5,none⟩ (.int .i64 ((r:Int)+1)))=X at *
     exact bodyPost_ret (v:=.agg #[.int .i64 0,.int .i64 a.al,.slice AA an ac,.slice AA' an' ac',.string ⟨#[]⟩,.int .i64 ((r:Int)+1)]) (by simp [results,Tryz.results91,go_sem,cf]) rfl (by
      rw [hv.out]
      exact⟨AA,an,ac,AA',an',ac',by simp,Ho.out,Hx.out⟩)
    |true =>
     have hjt:=za (show zaU s p t L a=(zby (zaf [t] a) L,if zt s p L (zby (zaf [t] a) L)=true then -1 else 1) by unfold zaU;rw [if_neg (by simp [hub]),if_pos hbb])
     have hzi:=zds hwb.out.1 L
     have hzs:(zby (zaf [t] a) L).size≤4000:=by have:=zfA (zaf [t] a) L;have:=hwb.out.2;simp only [List.length_cons,List.length_nil] at this;omega
     have hre:=za (zeV (s:=zaf [t] a) (a:=L) (w:=w11) hwb.out.1 (by omega))
     have k9:=(B9'.out.ext hx911).cell
     obtain⟨z,hz⟩:∃ z,Hid (zby (zaf [t] a) L=z):=⟨_,za rfl⟩
     rw [hz.out] at hzi hzs hjt hre
     have Hzi:=za hzi
     clear c15
     go_upto_region 20 with (go_at_call 83;refine hre.out.mono ?_;rintro e w12 ⟨rfl,hx12r⟩)
     have hx912:=hx911.trans hx12r
     have hk12:=za (hk9.out.ext hO.out.ok hx912)
     have hask:=za (hO.out.ask _ w12 S2 z hk12.out.j (by omega) Hzi.out (by omega))
     have k11:=(hk12.out.blk B11.out (hS0f.out _ (Nat.le_refl _))).1.cell
     clear k9
     go_upto_region 99 with fail
     refine hask.out.mono ?_
     rintro e w14 ⟨S4,rfl,hk4⟩
     have hk14:=za (hk12.out.trans hk4)
     have hxw14:=za (show Ext w w14 from hk14.out.toExt hxw5.out (fun q hs=>by have:=hlowS.out q hs;omega))
     have hb13:=hk4.blk (Hbt9.out.ext hx912) hg9.out
     have Ht4:=za ((Hts9.out.ext hx912).kp hk4)
     have hsz14:=hk4.size
     cases hsf:zt s p L z with
     |false =>
      have hv:=za (show vpT s t p=⟨1,noA,zaf [s,t] p,r+1⟩ by
       rw [← hrt2.out,hjt.out,if_neg (show ¬ zt s p L z=true by rw [hsf];decide),if_neg (show ¬ ((1:Int)=0) by decide),if_pos (show (1:Int)=1 from rfl)])
      have HP:=za (HPv.out w14 hxw14.out)
      have k4:=(hk14.out.blk B4.out (fun h=>by have:=hlowS.out _ h;omega)).1.cell
      have k5:=(hk14.out.blk B5.out (fun h=>by have:=hlowS.out _ h;omega)).1.cell
      have bk6:=(hk14.out.blk B6.out (fun h=>by have:=hlowS.out _ h;omega)).1
      have k6:∀ (v:Array Value) (q:Nat),(w14.alloc (.cells v 38)).cell? ⟨w.heap.size+1+1,q,none⟩=_:=fun v q=>(bk6.ext ((Ext.refl w14).alloc (.cells v 38))).cell q
      have b8w:=(hk14.out.blk B8.out (fun h=>by have:=hlowS.out _ h;omega)).1
      clear k11
      go_upto_region 99 with fail
      refine HP.out.mono ?_
      rintro e wF ⟨rfl,hxF⟩
      have hb8v:=b8w.ext hxF
      have k8:=hb8v.cell
      have f8:=hb8v.frozen
      clear k4 k5 k6 bk6
      go_wp2_with fail
      have ziM:=vd_fin (hxw14.out.trans hxF) hb8v (by omega) (.int .i64 1) (.int .i64 0) (.slice none 0 0) (.slice none 0 0) (.string (zaf [s,t] p)) (.int .i64 ((r:Int)+1))
      have cf:=ziM.1.cell
      have Hx:=za ziM.2.2
      clear ziM k8 f8 hb8v
      generalize (((((wF.setCell ⟨w.heap.size+1+1+1,0,none⟩ (.int .i64 1)).setCell ⟨w.heap.size+1+1+1,1,none⟩ (.int .i64 0)).setCell ⟨w.heap.size+1+1+1,2,none⟩ (.slice none 0 0)).setCell ⟨w.heap.size+1+1+1,3,none⟩ (.slice none 0 0)).setCell ⟨w.heap.size+1+1+1,4,none⟩ (.string (zaf [s,t] p))).setCell ⟨w.heap.size+1+1+1,5,none⟩ (.int .i64 ((r:Int)+1))=X at *
      exact bodyPost_ret (v:=.agg #[.int .i64 1,.int .i64 0,.slice none 0 0,.slice none 0 0,.string (zaf [s,t] p),.int .i64 ((r:Int)+1)]) (by simp [results,Tryz.results91,go_sem,cf]) rfl (by
       rw [hv.out]
       exact⟨none,0,0,none,0,0,by simp [noA],noA_own _ _,Hx.out⟩)
     |true =>
      have m11:=(hk14.out.blk B11.out (hS0f.out _ (Nat.le_refl _))).1.cell
      have k13:=hb13.1.cell
      have hls:=za (zfJ (x:=z) hO.out hk14.out.j (by omega) Ht4.out hI hcl (by have:=hx912.size;have:=hx89.size;omega) hL Hzi.out hzs)
      clear k11
      go_upto_region 99 with fail
      refine hls.out.mono ?_
      rintro e w13 ⟨S3,hk3,hcase⟩
      have hk13:=za ((hk14.out.trans hk3).more hO.out.ok (show 21840+30000*r+1692+1+27840≤21840+30000*(r+1) by omega))
      have hr2:=za (show runT s t p L (12 - (r+1)) (r+1) (zaV L (zt s p L) rs cs z)=vpT s t p by
       rw [← hrt2.out,hjt.out,if_pos hsf,if_neg (show ¬ ((-1:Int)=0) by decide),if_neg (show ¬ ((-1:Int)=1) by decide),show 12 - (r+1)=11 - r by omega])
      have hln2:=za (hln.out.learn z)
      have hb13':=hk3.blk hb13.1 hb13.2
      have m13:=hb13'.1.cell
      have f13:=hb13'.1.frozen
      have hl13:=hb13.1.lt
      clear k13 m11
      rcases hcase with ⟨hn,rfl⟩|⟨rs2,cs2,R2,C2,cr2,cc2,hn,rfl,ht2⟩
      ·rw [hn] at hln2 hr2
       go_wp2_with fail
       go_roundw
       case rel=>exact⟨r+1,none,S3,rfl,by go_num,by omega,za ((hk13.out.cell hO.out.ok (by have:=hg13.out;omega) (by have:=hg13.out;omega) hb13'.2 0 _).cell hO.out.ok (by have:=hg13.out;omega) (by have:=hg13.out;omega) hb13'.2 1 _),za ⟨hb13'.2,.inl ⟨rfl,_,_,(hb13'.1.set_ 0 _).set_ 1 _⟩⟩,hln2,hr2⟩
       case measure=>simp [intOf];omega
      ·rw [hn] at hln2 hr2
       have htf:=za (zhL (base:=w5.heap.size) hb13'.1 hb13'.2 ht2 (by have:=hx912.size;have:=hx89.size;omega) hl13)
       go_wp2_with fail
       go_roundw
       case rel=>exact⟨r+1,some (rs2,cs2),S3,rfl,by go_num,by omega,za ((hk13.out.cell hO.out.ok (by have:=hg13.out;omega) (by have:=hg13.out;omega) hb13'.2 0 _).cell hO.out.ok (by have:=hg13.out;omega) (by have:=hg13.out;omega) hb13'.2 1 _),htf,hln2,hr2⟩
       case measure=>simp [intOf];omega
   |true =>
    have hjt:=za (show zaU s p t L a=(zby (zbl s a p) L,-1) by unfold zaU;rw [if_pos hub])
    have hzi:=zds hwu.out.1 L
    have hzs:(zby (zbl s a p) L).size≤4000:=by have:=zfA (zbl s a p) L;have:=hwu.out.2;omega
    have hre:=za (zeV (s:=zbl s a p) (a:=L) (w:=w10) hwu.out.1 (by omega))
    have k9:=(B9'.out.ext hx10).cell
    obtain⟨z,hz⟩:∃ z,Hid (zby (zbl s a p) L=z):=⟨_,za rfl⟩
    rw [hz.out] at hzi hzs hjt hre
    have Hzi:=za hzi
    go_upto_region 20 with (go_at_call 83;refine hre.out.mono ?_;rintro e w12 ⟨rfl,hx12r⟩)
    have hx912:=hx10.trans hx12r
    have hk12:=za (hk9.out.ext hO.out.ok hx912)
    have hls:=za (zfJ (x:=z) hO.out hk12.out.j (by omega) (Hts9.out.ext hx912) hI hcl (by have:=hx912.size;have:=hx89.size;omega) hL Hzi.out hzs)
    have k11:=(hk12.out.blk B11.out (hS0f.out _ (Nat.le_refl _))).1.cell
    have Hb13:=za (Hbt9.out.ext hx912)
    have k13:=Hb13.out.cell
    go_upto_region 99 with fail
    refine hls.out.mono ?_
    rintro e w13 ⟨S3,hk3,hcase⟩
    have hk13:=za ((hk12.out.trans hk3).more hO.out.ok (show 21840+30000*r+1692+27840≤21840+30000*(r+1) by omega))
    have hr2:=za (show runT s t p L (12 - (r+1)) (r+1) (zaV L (zt s p L) rs cs z)=vpT s t p by
     rw [← hrt2.out,hjt.out,if_neg (show ¬ ((-1:Int)=0) by decide),if_neg (show ¬ ((-1:Int)=1) by decide),show 12 - (r+1)=11 - r by omega])
    have hln2:=za (hln.out.learn z)
    have hb13:=hk3.blk Hb13.out hg9.out
    have m13:=hb13.1.cell
    have f13:=hb13.1.frozen
    clear k13 k11 k9
    rcases hcase with ⟨hn,rfl⟩|⟨rs2,cs2,R2,C2,cr2,cc2,hn,rfl,ht2⟩
    ·rw [hn] at hln2 hr2
     go_wp2_with fail
     go_roundw
     case rel=>exact⟨r+1,none,S3,rfl,by go_num,by omega,za ((hk13.out.cell hO.out.ok (by have:=hg13.out;omega) (by have:=hg13.out;omega) hb13.2 0 _).cell hO.out.ok (by have:=hg13.out;omega) (by have:=hg13.out;omega) hb13.2 1 _),za ⟨hb13.2,.inl ⟨rfl,_,_,(hb13.1.set_ 0 _).set_ 1 _⟩⟩,hln2,hr2⟩
     case measure=>simp [intOf];omega
    ·rw [hn] at hln2 hr2
     have htf:=za (zhL (base:=w5.heap.size) hb13.1 hb13.2 ht2 (by have:=hx912.size;have:=hx89.size;omega) (by have:=Hb13.out.lt;omega))
     go_wp2_with fail
     go_roundw
     case rel=>exact⟨r+1,some (rs2,cs2),S3,rfl,by go_num,by omega,za ((hk13.out.cell hO.out.ok (by have:=hg13.out;omega) (by have:=hg13.out;omega) hb13.2 0 _).cell hO.out.ok (by have:=hg13.out;omega) (by have:=hg13.out;omega) hb13.2 1 _),htf,hln2,hr2⟩
     case measure=>simp [intOf];omega
end
theorem vpT_cert (s t:Sys) (p:Aut):((vpT s t p).code=0→zH true (vpT s t p).asm (vpT s t p).tr=true)∧((vpT s t p).code=1→zH false (vpT s t p).asm (vpT s t p).tr=true):=by
 rcases zcu s t p with h|⟨L,h⟩
 ·rw [zgT h]
  exact⟨(fun h=>by cases h),(fun h=>by cases h)⟩
 ·have ok:=vpT_ok h
  obtain⟨v1,v2,v3⟩:=zbi (s:=s) (p:=p) (t:=t) (by omega)
  refine⟨fun h0=>?_,fun h1=>?_⟩
  ·rw [ok.quiet (by omega)]
   unfold zH
   rw [if_pos rfl,(ok.holds h0).1]
   rw [ByteArray.toList,ByteArray.toList.loop,if_neg (by decide)]
   rfl
  ·rw [ok.none_ (by omega)]
   unfold zH
   rw [if_neg (by decide),vpT_word v1 v3 v2]
   rfl
section
variable {w:World} {lo hi n c lo1 hi1 m d m' d' lo2 hi2 k c2:Nat} {A B B' C:Option Addr} {s t:Sys} {p:Aut}
theorem impl_TaskOf0 (hs:zM w lo hi A n s)(hp:zC w lo1 hi1 B m B' m' p)(ht:zM w lo2 hi2 C k t)(hif:iface s p t = -1) :
  Calls Tryz.prog 169 #[.agg #[.int .i64 s.al,.int .i64 s.st,.slice A n c],.agg #[.int .i64 p.al,.slice B m d,.slice B' m' d'],.agg #[.int .i64 t.al,.int .i64 t.st,.slice C k c2]] w
   fun e w'=>e=.returned (.tuple #[.agg #[.int .i64 0,.int .i64 0,.slice none 0 0,.int .i64 0,.slice none 0 0,.slice none 0 0,.int .i64 0],.bool false])∧Ext w w':=by
 have HIf:=za (fun W (hW:Ext w W)=>zdx (c:=c) (d1:=d) (d1':=d') (c2:=c2) (hs.ext hW) (hp.ext hW) (ht.ext hW))
 rw [hif] at HIf
 clear hs hp ht hif
 have hx0:Ext w ((((w.alloc (.cells #[.int .i64 s.al,.int .i64 s.st,.slice A n c] 38)).alloc (.cells #[.int .i64 p.al,.slice B m d,.slice B' m' d'] 31)).alloc (.cells #[.int .i64 t.al,.int .i64 t.st,.slice C k c2] 38)).alloc (.cells #[.int .i64 0,.int .i64 0,.slice none 0 0,.int .i64 0,.slice none 0 0,.slice none 0 0,.int .i64 0] 96)):=((((Ext.refl _).alloc _).alloc _).alloc _).alloc _
 obtain⟨b1,b2,b3⟩:=zK ((Ext.refl _).alloc _:Ext (((w.alloc (.cells #[.int .i64 s.al,.int .i64 s.st,.slice A n c] 38)).alloc (.cells #[.int .i64 p.al,.slice B m d,.slice B' m' d'] 31)).alloc (.cells #[.int .i64 t.al,.int .i64 t.st,.slice C k c2] 38)) ((((w.alloc (.cells #[.int .i64 s.al,.int .i64 s.st,.slice A n c] 38)).alloc (.cells #[.int .i64 p.al,.slice B m d,.slice B' m' d'] 31)).alloc (.cells #[.int .i64 t.al,.int .i64 t.st,.slice C k c2] 38)).alloc (.cells #[.int .i64 0,.int .i64 0,.slice none 0 0,.int .i64 0,.slice none 0 0,.slice none 0 0,.int .i64 0] 96)))
 have b4:=Blk.new (((w.alloc (.cells #[.int .i64 s.al,.int .i64 s.st,.slice A n c] 38)).alloc (.cells #[.int .i64 p.al,.slice B m d,.slice B' m' d'] 31)).alloc (.cells #[.int .i64 t.al,.int .i64 t.st,.slice C k c2] 38)) 96 #[.int .i64 0,.int .i64 0,.slice none 0 0,.int .i64 0,.slice none 0 0,.slice none 0 0,.int .i64 0]
 simp only [World.size_alloc] at b4
 go_enter Tryz.func169,Tryz.ntmps169
 go_upto_region 1 with fail
 generalize (((w.alloc (.cells #[.int .i64 s.al,.int .i64 s.st,.slice A n c] 38)).alloc (.cells #[.int .i64 p.al,.slice B m d,.slice B' m' d'] 31)).alloc (.cells #[.int .i64 t.al,.int .i64 t.st,.slice C k c2] 38)).alloc (.cells #[.int .i64 0,.int .i64 0,.slice none 0 0,.int .i64 0,.slice none 0 0,.slice none 0 0,.int .i64 0] 96)=w0 at *
 have CS:=b1.cells
 have CP:=b2.cells
 have CT:=b3.cells
 have hww:=Ext.refl w0
 go_upto_region 99 with fail
 refine (HIf.out _ hx0).mono ?_
 rintro e w1 ⟨rfl,hx01⟩
 have bz:=b4.ext hx01
 have kz:=bz.cell
 have fz:=bz.frozen
 have hxw:=hx0.trans hx01
 have hf:Frm (fun k=>k=w.heap.size+1+1+1) w1 (((((((w1.setCell ⟨w.heap.size+1+1+1,0,none⟩ (.int .i64 0)).setCell ⟨w.heap.size+1+1+1,1,none⟩ (.int .i64 0)).setCell ⟨w.heap.size+1+1+1,2,none⟩ (.slice none 0 0)).setCell ⟨w.heap.size+1+1+1,3,none⟩ (.int .i64 0)).setCell ⟨w.heap.size+1+1+1,4,none⟩ (.slice none 0 0)).setCell ⟨w.heap.size+1+1+1,5,none⟩ (.slice none 0 0)).setCell ⟨w.heap.size+1+1+1,6,none⟩ (.int .i64 0)):=
  ((((((Frm.setCell w1 _ 0 _).trans (Frm.setCell _ _ 1 _)).trans (Frm.setCell _ _ 2 _)).trans (Frm.setCell _ _ 3 _)).trans (Frm.setCell _ _ 4 _)).trans (Frm.setCell _ _ 5 _)).trans (Frm.setCell _ _ 6 _)
 have bW:Blk (((((((w1.setCell ⟨w.heap.size+1+1+1,0,none⟩ (.int .i64 0)).setCell ⟨w.heap.size+1+1+1,1,none⟩ (.int .i64 0)).setCell ⟨w.heap.size+1+1+1,2,none⟩ (.slice none 0 0)).setCell ⟨w.heap.size+1+1+1,3,none⟩ (.int .i64 0)).setCell ⟨w.heap.size+1+1+1,4,none⟩ (.slice none 0 0)).setCell ⟨w.heap.size+1+1+1,5,none⟩ (.slice none 0 0)).setCell ⟨w.heap.size+1+1+1,6,none⟩ (.int .i64 0)) (w.heap.size+1+1+1) 96 #[.int .i64 0,.int .i64 0,.slice none 0 0,.int .i64 0,.slice none 0 0,.slice none 0 0,.int .i64 0]:=by
  simpa using ((((((bz.set_ 0 (.int .i64 0)).set_ 1 (.int .i64 0)).set_ 2 (.slice none 0 0)).set_ 3 (.int .i64 0)).set_ 4 (.slice none 0 0)).set_ 5 (.slice none 0 0)).set_ 6 (.int .i64 0)
 have hret:=za (hxw.frm hf (fun k hk e=>by omega))
 go_wp2_with fail
 generalize (((((((w1.setCell ⟨w.heap.size+1+1+1,0,none⟩ (.int .i64 0)).setCell ⟨w.heap.size+1+1+1,1,none⟩ (.int .i64 0)).setCell ⟨w.heap.size+1+1+1,2,none⟩ (.slice none 0 0)).setCell ⟨w.heap.size+1+1+1,3,none⟩ (.int .i64 0)).setCell ⟨w.heap.size+1+1+1,4,none⟩ (.slice none 0 0)).setCell ⟨w.heap.size+1+1+1,5,none⟩ (.slice none 0 0)).setCell ⟨w.heap.size+1+1+1,6,none⟩ (.int .i64 0))=W at *
 have cf:=bW.cell
 exact bodyPost_ret (v:=.tuple #[.agg #[.int .i64 0,.int .i64 0,.slice none 0 0,.int .i64 0,.slice none 0 0,.slice none 0 0,.int .i64 0],.bool false]) (by simp [results,Tryz.results169,go_sem,cf]) rfl ⟨rfl,hret.out⟩
theorem zfP (hs:zM w lo hi A n s)(hp:zC w lo1 hi1 B m B' m' p)(ht:zM w lo2 hi2 C k t)(hif:iface s p t = -1) :
  Calls Tryz.prog 91 #[.agg #[.int .i64 s.al,.int .i64 s.st,.slice A n c],.agg #[.int .i64 t.al,.int .i64 t.st,.slice C k c2],.agg #[.int .i64 p.al,.slice B m d,.slice B' m' d'],.nilFunc] w (zgh w ⟨3,noA,⟨#[]⟩,0⟩):=by
 have HT:=za (fun W (hW:Ext w W)=>impl_TaskOf0 (c:=c) (d:=d) (d':=d') (c2:=c2) (hs.ext hW) (hp.ext hW) (ht.ext hW) hif)
 clear hs hp ht hif
 have hx0:Ext w ((((w.alloc (.cells #[.int .i64 s.al,.int .i64 s.st,.slice A n c] 38)).alloc (.cells #[.int .i64 t.al,.int .i64 t.st,.slice C k c2] 38)).alloc (.cells #[.int .i64 p.al,.slice B m d,.slice B' m' d'] 31)).alloc (.cells #[.int .i64 0,.int .i64 0,.slice none 0 0,.slice none 0 0,.string ⟨#[]⟩,.int .i64 0] 67)):=((((Ext.refl _).alloc _).alloc _).alloc _).alloc _
 obtain⟨b1,b2,b3⟩:=zK ((Ext.refl _).alloc _:Ext (((w.alloc (.cells #[.int .i64 s.al,.int .i64 s.st,.slice A n c] 38)).alloc (.cells #[.int .i64 t.al,.int .i64 t.st,.slice C k c2] 38)).alloc (.cells #[.int .i64 p.al,.slice B m d,.slice B' m' d'] 31)) ((((w.alloc (.cells #[.int .i64 s.al,.int .i64 s.st,.slice A n c] 38)).alloc (.cells #[.int .i64 t.al,.int .i64 t.st,.slice C k c2] 38)).alloc (.cells #[.int .i64 p.al,.slice B m d,.slice B' m' d'] 31)).alloc (.cells #[.int .i64 0,.int .i64 0,.slice none 0 0,.slice none 0 0,.string ⟨#[]⟩,.int .i64 0] 67)))
 have b8:=Blk.new (((w.alloc (.cells #[.int .i64 s.al,.int .i64 s.st,.slice A n c] 38)).alloc (.cells #[.int .i64 t.al,.int .i64 t.st,.slice C k c2] 38)).alloc (.cells #[.int .i64 p.al,.slice B m d,.slice B' m' d'] 31)) 67 #[.int .i64 0,.int .i64 0,.slice none 0 0,.slice none 0 0,.string ⟨#[]⟩,.int .i64 0]
 simp only [World.size_alloc] at b8
 go_enter Tryz.func91,Tryz.ntmps91
 go_upto_region 1 with fail
 generalize (((w.alloc (.cells #[.int .i64 s.al,.int .i64 s.st,.slice A n c] 38)).alloc (.cells #[.int .i64 t.al,.int .i64 t.st,.slice C k c2] 38)).alloc (.cells #[.int .i64 p.al,.slice B m d,.slice B' m' d'] 31)).alloc (.cells #[.int .i64 0,.int .i64 0,.slice none 0 0,.slice none 0 0,.string ⟨#[]⟩,.int .i64 0] 67)=w0 at *
 have k1:=b1.cell
 have k2:=b2.cell
 have k3:=b3.cell
 go_upto_region 99 with fail
 refine (HT.out _ hx0).mono ?_
 rintro e w1 ⟨rfl,hx1⟩
 have hx2:=hx1.alloc (.cells #[.int .i64 0,.int .i64 0,.slice none 0 0,.int .i64 0,.slice none 0 0,.slice none 0 0,.int .i64 0] 96)
 have b82:=b8.ext hx2
 have k8:=b82.cell
 have f8:=b82.frozen
 clear k1 k2 k3
 have ziM:=vd_fin (hx0.trans hx2) b82 (by omega) (.int .i64 3) (.int .i64 0) (.slice none 0 0) (.slice none 0 0) (.string ⟨#[]⟩) (.int .i64 0)
 have cf:=ziM.1.cell
 have Hx:=za ziM.2.2
 clear ziM b82
 go_wp2_with fail
 generalize ((((((w1.alloc (.cells #[.int .i64 0,.int .i64 0,.slice none 0 0,.int .i64 0,.slice none 0 0,.slice none 0 0,.int .i64 0] 96)).setCell ⟨w.heap.size+1+1+1,0,none⟩ (.int .i64 3)).setCell ⟨w.heap.size+1+1+1,1,none⟩ (.int .i64 0)).setCell ⟨w.heap.size+1+1+1,2,none⟩ (.slice none 0 0)).setCell ⟨w.heap.size+1+1+1,3,none⟩ (.slice none 0 0)).setCell ⟨w.heap.size+1+1+1,4,none⟩ (.string ⟨#[]⟩)).setCell ⟨w.heap.size+1+1+1,5,none⟩ (.int .i64 0)=X at *
 exact bodyPost_ret (v:=.agg #[.int .i64 3,.int .i64 0,.slice none 0 0,.slice none 0 0,.string ⟨#[]⟩,.int .i64 0]) (by simp [results,Tryz.results91,go_sem,cf]) rfl ⟨none,0,0,none,0,0,rfl,noA_own _ _,Hx.out⟩
theorem zcI {v:Vd} (HR:Hid (∀ W,Ext w W→Calls Tryz.prog 91 #[.agg #[.int .i64 s.al,.int .i64 s.st,.slice A n c],.agg #[.int .i64 t.al,.int .i64 t.st,.slice C k c2],.agg #[.int .i64 p.al,.slice B m d,.slice B' m' d'],.nilFunc] W (zgh W v))) :
  Calls Tryz.prog 39 #[.agg #[.int .i64 s.al,.int .i64 s.st,.slice A n c],.agg #[.int .i64 t.al,.int .i64 t.st,.slice C k c2],.agg #[.int .i64 p.al,.slice B m d,.slice B' m' d']] w (zgh w v):=by
 have hx0:Ext w ((((w.alloc (.cells #[.int .i64 s.al,.int .i64 s.st,.slice A n c] 38)).alloc (.cells #[.int .i64 t.al,.int .i64 t.st,.slice C k c2] 38)).alloc (.cells #[.int .i64 p.al,.slice B m d,.slice B' m' d'] 31)).alloc (.cells #[.int .i64 0,.int .i64 0,.slice none 0 0,.slice none 0 0,.string ⟨#[]⟩,.int .i64 0] 67)):=((((Ext.refl _).alloc _).alloc _).alloc _).alloc _
 obtain⟨b1,b2,b3⟩:=zK ((Ext.refl _).alloc _:Ext (((w.alloc (.cells #[.int .i64 s.al,.int .i64 s.st,.slice A n c] 38)).alloc (.cells #[.int .i64 t.al,.int .i64 t.st,.slice C k c2] 38)).alloc (.cells #[.int .i64 p.al,.slice B m d,.slice B' m' d'] 31)) ((((w.alloc (.cells #[.int .i64 s.al,.int .i64 s.st,.slice A n c] 38)).alloc (.cells #[.int .i64 t.al,.int .i64 t.st,.slice C k c2] 38)).alloc (.cells #[.int .i64 p.al,.slice B m d,.slice B' m' d'] 31)).alloc (.cells #[.int .i64 0,.int .i64 0,.slice none 0 0,.slice none 0 0,.string ⟨#[]⟩,.int .i64 0] 67)))
 have b8:=Blk.new (((w.alloc (.cells #[.int .i64 s.al,.int .i64 s.st,.slice A n c] 38)).alloc (.cells #[.int .i64 t.al,.int .i64 t.st,.slice C k c2] 38)).alloc (.cells #[.int .i64 p.al,.slice B m d,.slice B' m' d'] 31)) 67 #[.int .i64 0,.int .i64 0,.slice none 0 0,.slice none 0 0,.string ⟨#[]⟩,.int .i64 0]
 simp only [World.size_alloc] at b8
 go_enter Tryz.func39,Tryz.ntmps39
 go_wp2_with fail
 generalize (((w.alloc (.cells #[.int .i64 s.al,.int .i64 s.st,.slice A n c] 38)).alloc (.cells #[.int .i64 t.al,.int .i64 t.st,.slice C k c2] 38)).alloc (.cells #[.int .i64 p.al,.slice B m d,.slice B' m' d'] 31)).alloc (.cells #[.int .i64 0,.int .i64 0,.slice none 0 0,.slice none 0 0,.string ⟨#[]⟩,.int .i64 0] 67)=w0 at *
 refine (HR.out w0 hx0).mono ?_
 rintro e w1 ⟨A1,n1,k1,A2,n2,k2,rfl,ho,hx1⟩
 have b82:=b8.ext hx1
 have k8:=b82.cell
 have f8:=b82.frozen
 have ziM:=vd_fin (hx0.trans hx1) b82 (by omega) (.int .i64 v.code) (.int .i64 v.asm.al) (.slice A1 n1 k1) (.slice A2 n2 k2) (.string v.tr) (.int .i64 v.ro)
 have ho3:=za ((ho.farT b82 ziM.2.1 (by decide)).less hx0.size)
 have cf:=ziM.1.cell
 have Hx:=za ziM.2.2
 clear ziM b82 ho
 go_wp2_with fail
 exact bodyPost_ret (v:=.agg #[.int .i64 v.code,.int .i64 v.asm.al,.slice A1 n1 k1,.slice A2 n2 k2,.string v.tr,.int .i64 v.ro]) (by simp [results,Tryz.results39,go_sem,cf]) rfl ⟨A1,n1,k1,A2,n2,k2,rfl,ho3.out,Hx.out⟩
theorem zgo (hs:zM w lo hi A n s)(hp:zC w lo1 hi1 B m B' m' p)(ht:zM w lo2 hi2 C k t)(hT:Tab w) :
  Calls Tryz.prog 39 #[.agg #[.int .i64 s.al,.int .i64 s.st,.slice A n c],.agg #[.int .i64 t.al,.int .i64 t.st,.slice C k c2],.agg #[.int .i64 p.al,.slice B m d,.slice B' m' d']] w (zgh w (vpT s t p)):=by
 rcases zcu s t p with h|⟨L,h⟩
 ·rw [zgT h]
  exact zcI (za (fun W hW=>zfP (hs.ext hW) (hp.ext hW) (ht.ext hW) h))
 ·have vs:=(zbi (show 0≤iface s p t by omega)).1
  exact zcI (za (fun W hW=>zgq (hs.ext hW) (hp.ext hW) (ht.ext hW) h (by have:=hs.1;have:=valid_len vs;omega) (hT.ext hW)))
theorem yC14a1 {P:Prop}(h:P:=by
 simpa using ((((b62.set_ 0 (.bool (hdX v.code v.asm v.tr))).set_ 1 (.int .i64 (zgY v.code v.asm v.tr).al)).set_ 2 (.slice A2 n2 k2)).set_ 3 (.slice A3 n3 k3)).set_ 4 (.string (zgZ v.code v.asm v.tr))
 ):P:=h
theorem zef {v:Vd} (HR:Hid (∀ W,Ext w W→Calls Tryz.prog 44 #[.agg #[.int .i64 s.al,.int .i64 s.st,.slice A n c],.agg #[.int .i64 t.al,.int .i64 t.st,.slice C k c2],.agg #[.int .i64 p.al,.slice B m d,.slice B' m' d']] W (zgh W v)))(hsz:Hid (v.asm.size≤1048576∧v.tr.size≤9223372036854775807))(hcv:Hid ((v.code=0→zH true v.asm v.tr=true)∧(v.code=1→zH false v.asm v.tr=true))) :
  Calls Tryz.prog 17 #[.agg #[.int .i64 s.al,.int .i64 s.st,.slice A n c],.agg #[.int .i64 t.al,.int .i64 t.st,.slice C k c2],.agg #[.int .i64 p.al,.slice B m d,.slice B' m' d']] w
   (zbP w (hdX v.code v.asm v.tr) (zgY v.code v.asm v.tr) (zgZ v.code v.asm v.tr) (okC v.code v.asm v.tr)):=by
 have hx0:Ext w ((((w.alloc (.cells #[.int .i64 s.al,.int .i64 s.st,.slice A n c] 38)).alloc (.cells #[.int .i64 t.al,.int .i64 t.st,.slice C k c2] 38)).alloc (.cells #[.int .i64 p.al,.slice B m d,.slice B' m' d'] 31)).alloc (.cells #[.bool false,.int .i64 0,.slice none 0 0,.slice none 0 0,.string ⟨#[]⟩] 33)):=((((Ext.refl _).alloc _).alloc _).alloc _).alloc _
 obtain⟨b1,b2,b3⟩:=zK ((Ext.refl _).alloc _:Ext (((w.alloc (.cells #[.int .i64 s.al,.int .i64 s.st,.slice A n c] 38)).alloc (.cells #[.int .i64 t.al,.int .i64 t.st,.slice C k c2] 38)).alloc (.cells #[.int .i64 p.al,.slice B m d,.slice B' m' d'] 31)) ((((w.alloc (.cells #[.int .i64 s.al,.int .i64 s.st,.slice A n c] 38)).alloc (.cells #[.int .i64 t.al,.int .i64 t.st,.slice C k c2] 38)).alloc (.cells #[.int .i64 p.al,.slice B m d,.slice B' m' d'] 31)).alloc (.cells #[.bool false,.int .i64 0,.slice none 0 0,.slice none 0 0,.string ⟨#[]⟩] 33)))
 have b6:=Blk.new (((w.alloc (.cells #[.int .i64 s.al,.int .i64 s.st,.slice A n c] 38)).alloc (.cells #[.int .i64 t.al,.int .i64 t.st,.slice C k c2] 38)).alloc (.cells #[.int .i64 p.al,.slice B m d,.slice B' m' d'] 31)) 33 #[.bool false,.int .i64 0,.slice none 0 0,.slice none 0 0,.string ⟨#[]⟩]
 simp only [World.size_alloc] at b6
 go_enter Tryz.func17,Tryz.ntmps17
 go_upto_region 1 with fail
 generalize ((((w.alloc (.cells #[.int .i64 s.al,.int .i64 s.st,.slice A n c] 38)).alloc (.cells #[.int .i64 t.al,.int .i64 t.st,.slice C k c2] 38)).alloc (.cells #[.int .i64 p.al,.slice B m d,.slice B' m' d'] 31)).alloc (.cells #[.bool false,.int .i64 0,.slice none 0 0,.slice none 0 0,.string ⟨#[]⟩] 33))=w0 at *
 have c1:=b1.cell
 have cc2:=b2.cell
 have c3:=b3.cell
 have k6:∀ W,Ext w0 W→∀ q,W.cell? ⟨w.heap.size+1+1+1,q,none⟩=(#[.bool false,.int .i64 0,.slice none 0 0,.slice none 0 0,.string ⟨#[]⟩]:Array Value)[q]?:=fun W hW=>(b6.ext hW).cell
 have f6:∀ W,Ext w0 W→_:=fun W hW=>(b6.ext hW).frozen
 go_wp2_with (first
  |(go_at_call 44;refine (HR.out w0 hx0).mono ?_;rintro e w1 ⟨A1,n1,k1,A1',n1',k1',rfl,ho,hx1⟩;clear c1 cc2 c3)
  |(go_at_call 58;refine (zex ho.reads hsz.out.1 hsz.out.2 hcv.out.1 hcv.out.2).mono ?_;rintro e w2 ⟨A2,n2,k2,A3,n3,k3,rfl,ho2,hx2⟩;have hx12:=hx1.trans hx2;have b62:=b6.ext hx12;have k62:=b62.cell;have f62:=b62.frozen;clear k6 f6))
 have hf:Frm (fun b=>b=w.heap.size+1+1+1) w2 (((((w2.setCell ⟨w.heap.size+1+1+1,0,none⟩ (.bool (hdX v.code v.asm v.tr))).setCell ⟨w.heap.size+1+1+1,1,none⟩ (.int .i64 (zgY v.code v.asm v.tr).al)).setCell ⟨w.heap.size+1+1+1,2,none⟩ (.slice A2 n2 k2)).setCell ⟨w.heap.size+1+1+1,3,none⟩ (.slice A3 n3 k3)).setCell ⟨w.heap.size+1+1+1,4,none⟩ (.string (zgZ v.code v.asm v.tr))):=((((Frm.setCell w2 _ 0 _).trans (Frm.setCell _ _ 1 _)).trans (Frm.setCell _ _ 2 _)).trans (Frm.setCell _ _ 3 _)).trans (Frm.setCell _ _ 4 _)
 have b63:Blk (((((w2.setCell ⟨w.heap.size+1+1+1,0,none⟩ (.bool (hdX v.code v.asm v.tr))).setCell ⟨w.heap.size+1+1+1,1,none⟩ (.int .i64 (zgY v.code v.asm v.tr).al)).setCell ⟨w.heap.size+1+1+1,2,none⟩ (.slice A2 n2 k2)).setCell ⟨w.heap.size+1+1+1,3,none⟩ (.slice A3 n3 k3)).setCell ⟨w.heap.size+1+1+1,4,none⟩ (.string (zgZ v.code v.asm v.tr))) (w.heap.size+1+1+1) 33 #[.bool (hdX v.code v.asm v.tr),.int .i64 (zgY v.code v.asm v.tr).al,.slice A2 n2 k2,.slice A3 n3 k3,.string (zgZ v.code v.asm v.tr)]:=by
  exact yC14a1
 have ho3:=(ho2.farT b62 hf (by decide)).less (show w.heap.size≤w1.heap.size by have:=hx0.size;have:=hx1.size;omega)
 have hx3:=(hx0.trans hx12).frm hf (fun k hk e=>by omega)
 have cf:=b63.cell
 exact bodyPost_ret (v:=.tuple #[.agg #[.bool (hdX v.code v.asm v.tr),.int .i64 (zgY v.code v.asm v.tr).al,.slice A2 n2 k2,.slice A3 n3 k3,.string (zgZ v.code v.asm v.tr)],.bool (okC v.code v.asm v.tr)]) (by simp [results,Tryz.results17,go_sem,cf]) rfl ⟨A2,n2,k2,A3,n3,k3,rfl,ho3,hx3⟩
theorem zea {v:Vd} (HR:Hid (∀ W,Ext w W→Calls Tryz.prog 39 #[.agg #[.int .i64 s.al,.int .i64 s.st,.slice A n c],.agg #[.int .i64 t.al,.int .i64 t.st,.slice C k c2],.agg #[.int .i64 p.al,.slice B m d,.slice B' m' d']] W (zgh W v)))(hsz:Hid (v.asm.size≤1048576∧v.tr.size≤9223372036854775807))(hcv:Hid ((v.code=0→zH true v.asm v.tr=true)∧(v.code=1→zH false v.asm v.tr=true))) :
  Calls Tryz.prog 20 #[.agg #[.int .i64 s.al,.int .i64 s.st,.slice A n c],.agg #[.int .i64 t.al,.int .i64 t.st,.slice C k c2],.agg #[.int .i64 p.al,.slice B m d,.slice B' m' d']] w
   (zbP w (hdX v.code v.asm v.tr) (zgY v.code v.asm v.tr) (zgZ v.code v.asm v.tr) (okC v.code v.asm v.tr)):=by
 have hx0:Ext w ((((w.alloc (.cells #[.int .i64 s.al,.int .i64 s.st,.slice A n c] 38)).alloc (.cells #[.int .i64 t.al,.int .i64 t.st,.slice C k c2] 38)).alloc (.cells #[.int .i64 p.al,.slice B m d,.slice B' m' d'] 31)).alloc (.cells #[.bool false,.int .i64 0,.slice none 0 0,.slice none 0 0,.string ⟨#[]⟩] 33)):=((((Ext.refl _).alloc _).alloc _).alloc _).alloc _
 obtain⟨b1,b2,b3⟩:=zK ((Ext.refl _).alloc _:Ext (((w.alloc (.cells #[.int .i64 s.al,.int .i64 s.st,.slice A n c] 38)).alloc (.cells #[.int .i64 t.al,.int .i64 t.st,.slice C k c2] 38)).alloc (.cells #[.int .i64 p.al,.slice B m d,.slice B' m' d'] 31)) ((((w.alloc (.cells #[.int .i64 s.al,.int .i64 s.st,.slice A n c] 38)).alloc (.cells #[.int .i64 t.al,.int .i64 t.st,.slice C k c2] 38)).alloc (.cells #[.int .i64 p.al,.slice B m d,.slice B' m' d'] 31)).alloc (.cells #[.bool false,.int .i64 0,.slice none 0 0,.slice none 0 0,.string ⟨#[]⟩] 33)))
 have b6:=Blk.new (((w.alloc (.cells #[.int .i64 s.al,.int .i64 s.st,.slice A n c] 38)).alloc (.cells #[.int .i64 t.al,.int .i64 t.st,.slice C k c2] 38)).alloc (.cells #[.int .i64 p.al,.slice B m d,.slice B' m' d'] 31)) 33 #[.bool false,.int .i64 0,.slice none 0 0,.slice none 0 0,.string ⟨#[]⟩]
 simp only [World.size_alloc] at b6
 go_enter Tryz.func20,Tryz.ntmps20
 go_upto_region 1 with fail
 generalize ((((w.alloc (.cells #[.int .i64 s.al,.int .i64 s.st,.slice A n c] 38)).alloc (.cells #[.int .i64 t.al,.int .i64 t.st,.slice C k c2] 38)).alloc (.cells #[.int .i64 p.al,.slice B m d,.slice B' m' d'] 31)).alloc (.cells #[.bool false,.int .i64 0,.slice none 0 0,.slice none 0 0,.string ⟨#[]⟩] 33))=w0 at *
 have c1:=b1.cell
 have cc2:=b2.cell
 have c3:=b3.cell
 have k6:∀ W,Ext w0 W→∀ q,W.cell? ⟨w.heap.size+1+1+1,q,none⟩=(#[.bool false,.int .i64 0,.slice none 0 0,.slice none 0 0,.string ⟨#[]⟩]:Array Value)[q]?:=fun W hW=>(b6.ext hW).cell
 have f6:∀ W,Ext w0 W→_:=fun W hW=>(b6.ext hW).frozen
 go_wp2_with (first
  |(go_at_call 39;refine (HR.out w0 hx0).mono ?_;rintro e w1 ⟨A1,n1,k1,A1',n1',k1',rfl,ho,hx1⟩;clear c1 cc2 c3)
  |(go_at_call 47;refine (zeo ho.reads hsz.out.1 hsz.out.2 hcv.out.1 hcv.out.2).mono ?_;rintro e w2 ⟨A2,n2,k2,A3,n3,k3,rfl,ho2,hx2⟩;have hx12:=hx1.trans hx2;have b62:=b6.ext hx12;have k62:=b62.cell;have f62:=b62.frozen;clear k6 f6))
 have hf:Frm (fun b=>b=w.heap.size+1+1+1) w2 (((((w2.setCell ⟨w.heap.size+1+1+1,0,none⟩ (.bool (hdX v.code v.asm v.tr))).setCell ⟨w.heap.size+1+1+1,1,none⟩ (.int .i64 (zgY v.code v.asm v.tr).al)).setCell ⟨w.heap.size+1+1+1,2,none⟩ (.slice A2 n2 k2)).setCell ⟨w.heap.size+1+1+1,3,none⟩ (.slice A3 n3 k3)).setCell ⟨w.heap.size+1+1+1,4,none⟩ (.string (zgZ v.code v.asm v.tr))):=((((Frm.setCell w2 _ 0 _).trans (Frm.setCell _ _ 1 _)).trans (Frm.setCell _ _ 2 _)).trans (Frm.setCell _ _ 3 _)).trans (Frm.setCell _ _ 4 _)
 have b63:Blk (((((w2.setCell ⟨w.heap.size+1+1+1,0,none⟩ (.bool (hdX v.code v.asm v.tr))).setCell ⟨w.heap.size+1+1+1,1,none⟩ (.int .i64 (zgY v.code v.asm v.tr).al)).setCell ⟨w.heap.size+1+1+1,2,none⟩ (.slice A2 n2 k2)).setCell ⟨w.heap.size+1+1+1,3,none⟩ (.slice A3 n3 k3)).setCell ⟨w.heap.size+1+1+1,4,none⟩ (.string (zgZ v.code v.asm v.tr))) (w.heap.size+1+1+1) 33 #[.bool (hdX v.code v.asm v.tr),.int .i64 (zgY v.code v.asm v.tr).al,.slice A2 n2 k2,.slice A3 n3 k3,.string (zgZ v.code v.asm v.tr)]:=by
  exact yC14a1
 have ho3:=(ho2.farT b62 hf (by decide)).less (show w.heap.size≤w1.heap.size by have:=hx0.size;have:=hx1.size;omega)
 have hx3:=(hx0.trans hx12).frm hf (fun k hk e=>by omega)
 have cf:=b63.cell
 exact bodyPost_ret (v:=.tuple #[.agg #[.bool (hdX v.code v.asm v.tr),.int .i64 (zgY v.code v.asm v.tr).al,.slice A2 n2 k2,.slice A3 n3 k3,.string (zgZ v.code v.asm v.tr)],.bool (okC v.code v.asm v.tr)]) (by simp [results,Tryz.results20,go_sem,cf]) rfl ⟨A2,n2,k2,A3,n3,k3,rfl,ho3,hx3⟩
theorem impl_CertifyPair (hs:zM w lo hi A n s)(hp:zC w lo1 hi1 B m B' m' p)(ht:zM w lo2 hi2 C k t)(hT:Tab w) :
  Calls Tryz.prog 20 #[.agg #[.int .i64 s.al,.int .i64 s.st,.slice A n c],.agg #[.int .i64 t.al,.int .i64 t.st,.slice C k c2],.agg #[.int .i64 p.al,.slice B m d,.slice B' m' d']] w (zbP w (hdX (vpT s t p).code (vpT s t p).asm (vpT s t p).tr) (zgY (vpT s t p).code (vpT s t p).asm (vpT s t p).tr) (zgZ (vpT s t p).code (vpT s t p).asm (vpT s t p).tr) (okC (vpT s t p).code (vpT s t p).asm (vpT s t p).tr)):=
 zea (za (fun W (hW:Ext w W)=>zgo (hs.ext hW) (hp.ext hW) (ht.ext hW) (hT.ext hW))) (za ⟨(zgf s t p).1,Nat.le_trans (zgf s t p).2 (by omega)⟩) (za (vpT_cert s t p))
theorem zfT (hs:zM w lo hi A n s)(hp:zC w lo1 hi1 B m B' m' p)(ht:zM w lo2 hi2 C k t)(hhi:hi≤w.heap.size) :
  Calls Tryz.prog 44 #[.agg #[.int .i64 s.al,.int .i64 s.st,.slice A n c],.agg #[.int .i64 t.al,.int .i64 t.st,.slice C k c2],.agg #[.int .i64 p.al,.slice B m d,.slice B' m' d']] w (zgh w (vpT s t p)):=by
 rcases zcu s t p with h|⟨L,h⟩
 ·rw [zgT h]
  exact zcQ (za (fun W (hW:Ext w W)=>spec_l12Run0 (K:=12) (hs.ext hW) (hp.ext hW) (ht.ext hW) h))
 ·rw [zgU h]
  have vs:=(zbi (show 0≤iface s p t by omega)).1
  exact zgK hs hp ht h (by have:=hs.1;have:=valid_len vs;omega) hhi
theorem spec_CertifyPairB (hs:zM w lo hi A n s)(hp:zC w lo1 hi1 B m B' m' p)(ht:zM w lo2 hi2 C k t)(hhi:hi≤w.heap.size) :
  Calls Tryz.prog 17 #[.agg #[.int .i64 s.al,.int .i64 s.st,.slice A n c],.agg #[.int .i64 t.al,.int .i64 t.st,.slice C k c2],.agg #[.int .i64 p.al,.slice B m d,.slice B' m' d']] w (zbP w (hdX (vpT s t p).code (vpT s t p).asm (vpT s t p).tr) (zgY (vpT s t p).code (vpT s t p).asm (vpT s t p).tr) (zgZ (vpT s t p).code (vpT s t p).asm (vpT s t p).tr) (okC (vpT s t p).code (vpT s t p).asm (vpT s t p).tr)):=
 zef (za (fun W (hW:Ext w W)=>zfT (hs.ext hW) (hp.ext hW) (ht.ext hW) (Nat.le_trans hhi hW.size))) (za ⟨(zgf s t p).1,Nat.le_trans (zgf s t p).2 (by omega)⟩) (za (vpT_cert s t p))
end
theorem zim {base:Nat} {A:Option Addr} {n c:Nat} {xs:List Value} {k:Nat} {w:World}(h:w.ownsRow base 152 3 (.slice A n c) n xs)(hk:k+n*3≤4611686018427387904) :
  Calls Tryz.prog 65 #[.slice A n c,.int .i64 k] w fun e w'=>e=.returned (.int .i64 (k+n*3:Nat))∧Frm (blk A) w w':=by
 go_enter Tryz.func65,Tryz.ntmps65
 go_wp2
 go_loopw [1,5] (fun v i wr=>∃ j:Nat,j≤n∧i=.int .i64 j∧v=.int .i64 (k+j*3:Nat)∧∃ xs:List Value,wr.ownsRow base 152 3 (.slice A n c) n xs∧Frm (blk A) w wr) (fun _ i _=>n - (intOf i).toNat)
 case atStart=>exact⟨0,Nat.zero_le _,rfl,rfl,xs,h,Frm.refl _ _⟩
 case round =>
  obtain⟨j,hj,rfl,rfl,ys,ziJ,hf⟩:=hrel
  by_cases hlt:j<n
  ·obtain⟨g,rfl,hg,_⟩:=zaq ziJ (by omega)
   obtain⟨o0,g0⟩:=zau ziJ (j*3) (by omega)
   obtain⟨o1,g1⟩:=zau ziJ (j*3+1) (by omega)
   obtain⟨o2,g2⟩:=zau ziJ (j*3+2) (by omega)
   have f0:=ziJ.frozenAt (j*3)
   have f1:=ziJ.frozenAt (j*3+1)
   have f2:=ziJ.frozenAt (j*3+2)
   have hst:=zhD ziJ (j*3) (.int .i64 ((k:Int)+j*3)) (.int .i64 ((k:Int)+j*3+1)) (.int .i64 ((k:Int)+j*3+1+1))
   have h1:(k:Int)+(j:Int)*3+3≤4611686018427387904:=by omega
   have h0:(0:Int)≤(k:Int)+(j:Int)*3:=by omega
   go_wp2
   go_roundw
   case rel=>exact⟨j+1,by omega,by go_num,by go_num,_,hst,((hf.cell (p:=⟨g,j*3,none⟩) ⟨⟨g,0,none⟩,rfl,rfl⟩ _).cell (p:=⟨g,j*3+1,none⟩) ⟨⟨g,0,none⟩,rfl,rfl⟩ _).cell (p:=⟨g,j*3+2,none⟩) ⟨⟨g,0,none⟩,rfl,rfl⟩ _⟩
   case measure=>simp [intOf];omega
  ·obtain rfl:n=j:=by omega
   go_wp2
   go_ret
   exact⟨rfl,hf⟩
theorem markSystem_any {base:Nat} {A:Option Addr} {n c:Nat} {al st:Int} {xs:List Value} {k:Nat} {w:World}(h:w.ownsRow base 152 3 (.slice A n c) n xs)(hk:k+n*3≤4611686018427387904) :
  Calls Tryz.prog 24 #[.agg #[.int .i64 al,.int .i64 st,.slice A n c],.int .i64 k] w fun e w'=>e=.returned (.int .i64 (k+n*3:Nat))∧Frm (blk A) w w':=by
 have h':=zh h ((Ext.refl w).alloc (.cells #[.int .i64 al,.int .i64 st,.slice A n c] 38))
 go_enter Tryz.func24,Tryz.ntmps24
 go_wp2_with (go_at_call 65;refine (zim h' hk).mono ?_;rintro e w1 ⟨rfl,hf⟩)
 go_ret
 exact⟨rfl,(((Ext.refl w).alloc _).toFrm).trans hf⟩
theorem leftOf_room {l:Int} {n:Nat}(h:¬ leftOf l n<0)(hl:l≤1048576):n≤1048576:=by
 unfold leftOf at h
 split at h<;>omega
end Go.Proofs.YtcfchopfijalpaaGreatDoor
