/- The referenc -/
import Derived.Test.YtfcjhpodichpjaaGreatJ08
import Derived.Test.YtfcjhpodichpjaaGreatJ06
import Derived.Test.YtfcjhpodichpjaaGreatJ05
import Derived.Test.YtfcjhpodichpjaaGreatJ02
set_option maxHeartbeats 4000000
set_option maxRecDepth 100000
namespace Go.Proofs.YtfcjhpodichpjaaGreat
open Go Go.RowKit
theorem zeG {w:World} {base:Nat} {e:TypeId} {size n c:Nat} {A:Option Addr} {xs:List Value}(h:w.ownsRow base e size (.slice A n c) n xs):n≤c:=by
 rcases h.2 with ⟨h1,h2⟩|⟨g,cap,cur,h1,_,_,h4,_⟩
 ·omega
 ·injection h1 with _ _ h3;omega
theorem splitT_size {L:Nat} {f:ByteArray→Bool} {rows cols:List ByteArray} {x y:ByteArray}(h:zdi L f rows cols x=some y):y.size≤4000:=by
 unfold zdi at h
 split at h
 ·rename_i hc
  have h1:=hc.1
  simp only [Bool.and_eq_true,decide_eq_true_eq] at h1
  obtain⟨k,-,rfl⟩:=Option.map_eq_some_iff.1 h
  rw [ByteArray.size_extract]
  omega
 ·cases h
theorem zgz {w W:World} {Z:Nat} {u v:Value}(hx:Ext w W)(hb:Blk W Z 113 #[u,v])(hZ:w.heap.size≤Z) :
  Hid (zby w none (.returned (.tuple #[.agg #[.slice none 0 0,.slice none 0 0],.bool false])) ((W.setCell ⟨Z,0,none⟩ (.slice none 0 0)).setCell ⟨Z,1,none⟩ (.slice none 0 0))) ∧
  Blk ((W.setCell ⟨Z,0,none⟩ (.slice none 0 0)).setCell ⟨Z,1,none⟩ (.slice none 0 0)) Z 113 #[.slice none 0 0,.slice none 0 0]:=
 ⟨za ⟨(hx.setCell (p:=⟨Z,0,none⟩) hZ _).setCell (p:=⟨Z,1,none⟩) hZ _,.inl ⟨rfl,rfl⟩⟩,by simpa using (hb.set_ 0 (.slice none 0 0)).set_ 1 (.slice none 0 0)⟩
theorem tab_some {w w1 W:World} {Z nr nc cr cc:Nat} {R C:Option Addr} {rs cs:List ByteArray} {o:Option (List ByteArray × List ByteArray)} {u v:Value}(hx:Ext w W)(hb:Blk W Z 113 #[u,v])(hZ:w.heap.size≤Z)(ho:o=some (rs,cs))(hw:w.heap.size≤w1.heap.size)
  (hR:W.ownsRow w1.heap.size 9 1 (.slice R nr cr) nr (zL rs)) (hC:W.ownsRow w1.heap.size 9 1 (.slice C nc cc) nc (zL cs)) :
  Hid (zby w o (.returned (.tuple #[.agg #[.slice R nr cr,.slice C nc cc],.bool true])) ((W.setCell ⟨Z,0,none⟩ (.slice R nr cr)).setCell ⟨Z,1,none⟩ (.slice C nc cc))) ∧
  Blk ((W.setCell ⟨Z,0,none⟩ (.slice R nr cr)).setCell ⟨Z,1,none⟩ (.slice C nc cc)) Z 113 #[.slice R nr cr,.slice C nc cc]:=by
 have hf:Frm (fun k=>k=Z) W ((W.setCell ⟨Z,0,none⟩ (.slice R nr cr)).setCell ⟨Z,1,none⟩ (.slice C nc cc)):=(Frm.setCell W _ 0 _).trans (Frm.setCell _ _ 1 _)
 exact⟨za ⟨(hx.setCell (p:=⟨Z,0,none⟩) hZ _).setCell (p:=⟨Z,1,none⟩) hZ _,.inr ⟨rs,cs,nr,nc,R,cr,C,cc,ho,rfl,zi (zd hR hf (fun b hv e=>zm hR hb (by decide) hv e)) hw,zi (zd hC hf (fun b hv e=>zm hC hb (by decide) hv e)) hw⟩⟩,by simpa using (hb.set_ 0 (.slice R nr cr)).set_ 1 (.slice C nc cc)⟩
section
variable {w W:World} {n c m d m' d' L:Nat} {A B B':Option Addr} {s:Sys} {p:Aut} {nr nc cr cc:Nat} {R C:Option Addr} {rows cols:List ByteArray}
theorem yJ09a2 {P:Prop}(h:P:=by
 go_wp2_with fail
 exact bodyPost_ret (v:=.tuple #[.agg #[.slice none 0 0,.slice none 0 0],.bool false]) (by simp [results,Tryz.results80,go_sem,cf]) rfl hret.out
 ):P:=h
theorem zfx {x:ByteArray}(h:Tch w A n B m B' m' s p L)(hT:TabAt w R nr C nc rows cols)(hI:zct L (zw s p L) rows cols)(hcr:nr≤cr)(hcc:nc≤cc)(hcl:zbd L (zw s p L) rows cols=none)(hx:x.size≤9223372036854775807) :
  Calls Tryz.prog 80 #[.agg #[.bool false,.int .i64 0,.slice none 0 0,.slice none 0 0,.int .i64 s.al,.int .i64 s.st,.slice A n c,.int .i64 p.al,.slice B m d,.slice B' m' d',.int .i64 L],.agg #[.slice R nr cr,.slice C nc cc],.string x] w (zby w (zdG L (zw s p L) rows cols x)):=by
 have HSp:=za (fun W (hW:Ext w W)=>zfy (c:=c) (d:=d) (d':=d') (cr:=cr) (cc:=cc) (x:=x) (h.ext hW) (hT.ext hW) hI hcr hcc hcl hx)
 have HAd:=za (fun (y:ByteArray) W (hW:Ext w W) hy=>zfu (c:=c) (d:=d) (d':=d') (cr:=cr) (cc:=cc) (x:=y) (h.ext hW) (hT.ext hW) hI hcr hcc hy)
 have HCl:=za (fun (R:Option Addr) (nr cr:Nat) (C:Option Addr) (nc cc:Nat) (rows cols:List ByteArray) W (hW:Ext w W) hT hI (hcr:nr≤cr) (hcc:nc≤cc)=>zcD (c:=c) (d:=d) (d':=d') (nr:=nr) (nc:=nc) (R:=R) (C:=C) (cr:=cr) (cc:=cc) (rows:=rows) (cols:=cols) (h.ext hW) hT hI hcr hcc)
 have HI:=za (fun col (ha:zfp L cols col=true)=>hI.addC ha)
 have Hle:=za (show zdG L (zw s p L) rows cols x=match zdi L (zw s p L) rows cols x with
  |none=>none
  |some col=>if zfp L cols col=true then (zaB L (zw s p L) (cols++[col]) (12 - rows.length) rows).map fun r=>(r,cols++[col]) else none from rfl)
 have Hsz:=za (fun y (hy:zdi L (zw s p L) rows cols x=some y)=>splitT_size hy)
 generalize zdG L (zw s p L) rows cols x=fin at *
 have hx0:Ext w (((w.alloc (.cells #[.bool false,.int .i64 0,.slice none 0 0,.slice none 0 0,.int .i64 s.al,.int .i64 s.st,.slice A n c,.int .i64 p.al,.slice B m d,.slice B' m' d',.int .i64 L] 111)).alloc (.cells #[.slice R nr cr,.slice C nc cc] 113)).alloc (.cells #[.slice none 0 0,.slice none 0 0] 113)):=(((Ext.refl _).alloc _).alloc _).alloc _
 obtain⟨b1,b2,b3⟩:=zN (Ext.refl (((w.alloc (.cells #[.bool false,.int .i64 0,.slice none 0 0,.slice none 0 0,.int .i64 s.al,.int .i64 s.st,.slice A n c,.int .i64 p.al,.slice B m d,.slice B' m' d',.int .i64 L] 111)).alloc (.cells #[.slice R nr cr,.slice C nc cc] 113)).alloc (.cells #[.slice none 0 0,.slice none 0 0] 113)))
 clear h hT hI hcl
 cases hop:zdi L (zw s p L) rows cols x with
 |none =>
  rw [hop] at HSp Hle
  have hfn:=za (show fin=none from Hle.out)
  rw [hfn.out]
  clear Hle hfn hop
  go_enter Tryz.func80,Tryz.ntmps80
  go_upto_region 1 with fail
  generalize ((w.alloc (.cells #[.bool false,.int .i64 0,.slice none 0 0,.slice none 0 0,.int .i64 s.al,.int .i64 s.st,.slice A n c,.int .i64 p.al,.slice B m d,.slice B' m' d',.int .i64 L] 111)).alloc (.cells #[.slice R nr cr,.slice C nc cc] 113)).alloc (.cells #[.slice none 0 0,.slice none 0 0] 113)=w0 at *
  have CB:=b1.cells
  have CT:=b2.cells
  have hww:=Ext.refl w0
  go_upto_region 2 with (first
   |(go_at_call 102;refine (HSp.out _ hx0).mono ?_;rintro e w1 ⟨rfl,hx1⟩))
  have bz:=b3.ext hx1
  have kz:=bz.cell
  have fz:=bz.frozen
  obtain⟨hret,hb⟩:=zgz (hx0.trans hx1) bz (by omega)
  have cf:=hb.cell
  go_wp2_with fail
  exact bodyPost_ret (v:=.tuple #[.agg #[.slice none 0 0,.slice none 0 0],.bool false]) (by simp [results,Tryz.results80,go_sem,cf]) rfl hret.out
 |some col =>
  have hsz:=Hsz.out col hop
  rw [hop] at HSp Hle
  cases hok:zfp L cols col
  ·have hfn:=za (show fin=none by rw [Hle.out];simp [hok])
   have HAc:=za (fun W (hW:Ext w W)=>HAd.out col W hW (by omega))
   rw [hok,if_neg (by decide)] at HAc
   rw [hfn.out]
   clear Hle hfn hop hok
   go_enter Tryz.func80,Tryz.ntmps80
   go_upto_region 1 with fail
   generalize ((w.alloc (.cells #[.bool false,.int .i64 0,.slice none 0 0,.slice none 0 0,.int .i64 s.al,.int .i64 s.st,.slice A n c,.int .i64 p.al,.slice B m d,.slice B' m' d',.int .i64 L] 111)).alloc (.cells #[.slice R nr cr,.slice C nc cc] 113)).alloc (.cells #[.slice none 0 0,.slice none 0 0] 113)=w0 at *
   have CB:=b1.cells
   have CT:=b2.cells
   have hww:=Ext.refl w0
   go_upto_region 5 with (first
    |(go_at_call 102;refine (HSp.out _ hx0).mono ?_;rintro e w1 ⟨rfl,hx1⟩)
    |(go_at_call 103;refine (HAc.out _ (hx0.trans hx1)).mono ?_;rintro e w2 ⟨hx2,⟨-,rfl⟩|⟨_,_,_,_,_,_,_,_,h0,_⟩⟩;rotate_left;exact absurd h0 (by simp);have hx12:=hx1.trans hx2))
   have hx3:=(Ext.refl w2).alloc (.cells #[.slice none 0 0,.slice none 0 0] 113)
   generalize w2.alloc (.cells #[.slice none 0 0,.slice none 0 0] 113)=w3 at *
   have bz:=b3.ext (hx12.trans hx3)
   have kz:=bz.cell
   have fz:=bz.frozen
   obtain⟨hret,hb⟩:=zgz ((hx0.trans hx12).trans hx3) bz (by omega)
   have cf:=hb.cell
   exact yJ09a2
  ·have hfn:=za (show fin=(zaB L (zw s p L) (cols++[col]) (12 - rows.length) rows).map fun r=>(r,cols++[col]) by rw [Hle.out];simp [hok])
   have HAc:=za (fun W (hW:Ext w W)=>HAd.out col W hW (by omega))
   rw [hok,if_pos rfl] at HAc
   have HIc:=za (HI.out col hok)
   clear Hle hop hok
   go_enter Tryz.func80,Tryz.ntmps80
   go_upto_region 1 with fail
   generalize ((w.alloc (.cells #[.bool false,.int .i64 0,.slice none 0 0,.slice none 0 0,.int .i64 s.al,.int .i64 s.st,.slice A n c,.int .i64 p.al,.slice B m d,.slice B' m' d',.int .i64 L] 111)).alloc (.cells #[.slice R nr cr,.slice C nc cc] 113)).alloc (.cells #[.slice none 0 0,.slice none 0 0] 113)=w0 at *
   have CB:=b1.cells
   have CT:=b2.cells
   have hww:=Ext.refl w0
   go_upto_region 5 with (first
    |(go_at_call 102;refine (HSp.out _ hx0).mono ?_;rintro e w1 ⟨rfl,hx1⟩)
    |(go_at_call 103;refine (HAc.out _ (hx0.trans hx1)).mono ?_;rintro e w2 ⟨hx2,⟨h0,_⟩|⟨rs,cs,nr2,nc2,R2,cr2,C2,cc2,h0,rfl,oR,oC⟩⟩;exact absurd h0 (by simp);have hx12:=hx1.trans hx2;obtain⟨rfl,rfl⟩:=Prod.mk.inj (Option.some.inj h0)))
   have bt:=Blk.new w2 113 #[.slice R2 nr2 cr2,.slice C2 nc2 cc2]
   have hx3:=(Ext.refl w2).alloc (.cells #[.slice R2 nr2 cr2,.slice C2 nc2 cc2] 113)
   have oR3:=zf oR hx3
   have oC3:=zf oC hx3
   have hcr2:=zeG oR
   have hcc2:=zeG oC
   generalize w2.alloc (.cells #[.slice R2 nr2 cr2,.slice C2 nc2 cc2] 113)=w3 at *
   have hx13:=hx12.trans hx3
   have HT3:=za (show TabAt w3 R2 nr2 C2 nc2 rows (cols++[col]) from ⟨_,_,_,_,Reads.of_own oR3,Reads.of_own oC3⟩)
   have CB3:∀ W,Ext w3 W→∀ q,W.cell? ⟨w.heap.size,q,none⟩=#[Value.bool false,.int .i64 0,.slice none 0 0,.slice none 0 0,.int .i64 s.al,.int .i64 s.st,.slice A n c,.int .i64 p.al,.slice B m d,.slice B' m' d',.int .i64 L][q]?:=fun W hW=>CB W (hx13.trans hW)
   have k2:=bt.cell
   have hww3:=Ext.refl w3
   clear oR oC oR3 oC3
   go_wp2_with fail
   refine (HCl.out _ _ _ _ _ _ rows (cols++[col]) _ (hx0.trans hx13) HT3.out HIc.out hcr2 hcc2).mono ?_
   rintro e w4 ⟨hx4,⟨h0,rfl⟩|⟨rs,cs,nr3,nc3,R3,cr3,C3,cc3,h0,rfl,oR,oC⟩⟩
   ·have bz:=b3.ext (hx13.trans hx4)
    have kz:=bz.cell
    have fz:=bz.frozen
    obtain⟨hret,hb⟩:=zgz ((hx0.trans hx13).trans hx4) bz (by omega)
    have hfn2:=za (hfn.out.trans h0)
    rw [← hfn2.out] at hret
    have cf:=hb.cell
    clear k2 h0
    exact yJ09a2
   ·have bz:=b3.ext (hx13.trans hx4)
    have kz:=bz.cell
    have fz:=bz.frozen
    obtain⟨hret,hb⟩:=tab_some ((hx0.trans hx13).trans hx4) bz (by omega) (hfn.out.trans h0) (hx0.trans hx13).size oR oC
    have cf:=hb.cell
    clear k2 h0
    go_wp2_with fail
    exact bodyPost_ret (v:=.tuple #[.agg #[.slice R3 nr3 cr3,.slice C3 nc3 cc3],.bool true]) (by simp [results,Tryz.results80,go_sem,cf]) rfl hret.out
end
theorem tot_le6:∀ ls:List (List Int),(∀ l∈ls,l.length≤6)→tot ls≤ls.length*6
 |[],_=>by simp [tot]
 |l :: r,h=>by
  have:=tot_le6 r (fun x hx=>h x (by simp [hx]))
  have:=h l (by simp)
  rw [show tot (l :: r)=l.length+tot r by simp [tot],List.length_cons,Nat.add_mul]
  omega
theorem zca {a:Aut}(h:zk a=true):a.size≤1048576:=by
 obtain⟨_,⟨_,h1⟩,h2,h3⟩:=zx h
 have h4:=tot_le6 a.next (fun l hl=>by
  obtain⟨q,hq⟩:=List.getElem?_of_mem hl
  obtain⟨h5,_⟩:=h3 q l hq
  rw [h5];exact zy _ _)
 unfold Aut.size
 omega
def RetTask (w:World) (s:Sys) (p:Aut) (L:Nat) (e:Ending) (w':World):Prop:=
 ∃ (A:Option Addr) (n c:Nat) (B:Option Addr) (m d:Nat) (B':Option Addr) (m' d':Nat),e=.returned (.tuple #[.agg #[.int .i64 s.al,.int .i64 s.st,.slice A n c,.int .i64 p.al,.slice B m d,.slice B' m' d',.int .i64 L],.bool true])∧Tch w' A n B m B' m' s p L∧Ext w w'
section
variable {w:World} {lo hi n c lo1 hi1 m d m' d' lo2 hi2 k c2:Nat} {A B B' C:Option Addr} {s t:Sys} {p:Aut}
theorem spec_TaskOf {L:Nat}(hs:zaj w lo hi A n s)(hp:zI w lo1 hi1 B m B' m' p)(ht:zaj w lo2 hi2 C k t)(hif:iface s p t=(L:Int))(hn:n≤1000000)(hhi:hi≤w.heap.size) :
  Calls Tryz.prog 75 #[.agg #[.int .i64 s.al,.int .i64 s.st,.slice A n c],.agg #[.int .i64 p.al,.slice B m d,.slice B' m' d'],.agg #[.int .i64 t.al,.int .i64 t.st,.slice C k c2]] w (RetTask w s p L):=by
 obtain⟨vs,vp,vt⟩:=zdE (show 0≤iface s p t by omega)
 have hL:L<64:=by
  rw [iface_nat vs vp vt] at hif
  have h1:=zak vt
  have h2:((s.al.toNat|||p.al.toNat)&&&t.al.toNat)≤t.al.toNat:=Nat.and_le_right
  omega
 have HIf:=za (fun W (hW:Ext w W)=>zbw (c:=c) (d1:=d) (d1':=d') (c2:=c2) (hs.ext hW) (hp.ext hW) (ht.ext hW))
 rw [hif] at HIf
 obtain⟨P,hP⟩:∃ P:Nat,s.st=(P:Int):=⟨s.st.toNat,by have:=(zcA vs).1;omega⟩
 have hP16:P≤16:=by have:=(zcA vs).2.1;omega
 have HK:=za (fun W (hW:Ext w W)=>spec_l2Keep (c:=c) (hs.ext hW) vs hP hn (Nat.le_trans hhi hW.size))
 have HC:=za (fun W (hW:Ext w W)=>zab (c:=d) (c':=d') (hp.ext hW) (zca vp))
 have hF:1≤2 ^ P∧2 ^ P≤65536:=⟨Nat.one_le_two_pow,by have:=Nat.pow_le_pow_right (show 1≤2 by omega) hP16;have h2:(2:Nat) ^ 16=65536:=rfl;omega⟩
 have HBit:=za (fun W=>zeb P (by omega) W)
 have HPe:=za hP
 have hV:=za (And.intro vs (And.intro vp hL))
 rw [hP] at HIf HK ⊢
 generalize hFe:2 ^ P=F at *
 have hsub:IntKind.i64.wrap ((F:Int) - 1)=((F - 1:Nat):Int):=by rw [IntWalk.i64_in _ (by omega)];omega
 clear hFe hs hp ht hif vs vp vt hP
 have hx0:Ext w ((((w.alloc (.cells #[.int .i64 s.al,.int .i64 (P:Nat),.slice A n c] 43)).alloc (.cells #[.int .i64 p.al,.slice B m d,.slice B' m' d'] 26)).alloc (.cells #[.int .i64 t.al,.int .i64 t.st,.slice C k c2] 43)).alloc (.cells #[.int .i64 0,.int .i64 0,.slice none 0 0,.int .i64 0,.slice none 0 0,.slice none 0 0,.int .i64 0] 107)):=((((Ext.refl _).alloc _).alloc _).alloc _).alloc _
 obtain⟨b1,b2,b3⟩:=zN ((Ext.refl _).alloc _:Ext (((w.alloc (.cells #[.int .i64 s.al,.int .i64 (P:Nat),.slice A n c] 43)).alloc (.cells #[.int .i64 p.al,.slice B m d,.slice B' m' d'] 26)).alloc (.cells #[.int .i64 t.al,.int .i64 t.st,.slice C k c2] 43)) ((((w.alloc (.cells #[.int .i64 s.al,.int .i64 (P:Nat),.slice A n c] 43)).alloc (.cells #[.int .i64 p.al,.slice B m d,.slice B' m' d'] 26)).alloc (.cells #[.int .i64 t.al,.int .i64 t.st,.slice C k c2] 43)).alloc (.cells #[.int .i64 0,.int .i64 0,.slice none 0 0,.int .i64 0,.slice none 0 0,.slice none 0 0,.int .i64 0] 107)))
 have b4:=Blk.new (((w.alloc (.cells #[.int .i64 s.al,.int .i64 (P:Nat),.slice A n c] 43)).alloc (.cells #[.int .i64 p.al,.slice B m d,.slice B' m' d'] 26)).alloc (.cells #[.int .i64 t.al,.int .i64 t.st,.slice C k c2] 43)) 107 #[.int .i64 0,.int .i64 0,.slice none 0 0,.int .i64 0,.slice none 0 0,.slice none 0 0,.int .i64 0]
 simp only [World.size_alloc] at b4
 go_enter Tryz.func75,Tryz.ntmps75
 go_upto_region 1 with fail
 generalize (((w.alloc (.cells #[.int .i64 s.al,.int .i64 (P:Nat),.slice A n c] 43)).alloc (.cells #[.int .i64 p.al,.slice B m d,.slice B' m' d'] 26)).alloc (.cells #[.int .i64 t.al,.int .i64 t.st,.slice C k c2] 43)).alloc (.cells #[.int .i64 0,.int .i64 0,.slice none 0 0,.int .i64 0,.slice none 0 0,.slice none 0 0,.int .i64 0] 107)=w0 at *
 have CS:=b1.cells
 have CP:=b2.cells
 have CT:=b3.cells
 have hww:=Ext.refl w0
 go_upto_region 4 with (first
  |(go_at_call 40;refine (HIf.out _ hx0).mono ?_;rintro e w1 ⟨rfl,hx01⟩))
 have hx1:=hx0.trans hx01
 have CS1:∀ W,Ext w1 W→∀ q,W.cell? ⟨w.heap.size,q,none⟩=#[Value.int .i64 s.al,.int .i64 (P:Nat),.slice A n c][q]?:=fun W hW=>CS W (hx01.trans hW)
 have CP1:∀ W,Ext w1 W→∀ q,W.cell? ⟨w.heap.size+1,q,none⟩=#[Value.int .i64 p.al,.slice B m d,.slice B' m' d'][q]?:=fun W hW=>CP W (hx01.trans hW)
 have hw1:=Ext.refl w1
 clear CS CP CT hww
 refine uR (fun X=>Ext w1 X) [10] (zG.of [0,1,2,6,8,3,4,5,7,9,10,11]) ?_
 refine uQ ?_
 have hxd:=hw1.drew
 refine zb fun K hK=>?_;go_simp
 refine (HBit.out _).mono ?_
 rintro e w' ⟨rfl,rfl⟩
 refine hK.out _ _ hxd ?_
 refine pT ?_
 refine uQ ?_
 refine zb fun K hK=>?_;go_simp
 refine (HK.out _ (hx1.trans hxd)).mono ?_
 rintro e w2 ⟨A1,n1,c1,rfl,ho1,hx2⟩
 rw [HPe.out]
 have hx12:Ext w1 w2:=hxd.trans hx2
 refine hK.out _ _ hx12 ?_
 refine pT ?_
 refine uQ ?_
 refine zb fun K hK=>?_;go_simp
 refine (HC.out _ (hx1.trans hx12)).mono ?_
 rintro e w3 ⟨B1,m1,d1,B1',m1',d1',rfl,ho2,hx3⟩
 have hx13:=hx12.trans hx3
 refine hK.out _ _ hx13 ?_
 refine pT ?_
 refine uQ ?_
 have hxw:=hx1.trans hx13
 have bz:=b4.ext (hx01.trans hx13)
 have kz:=bz.cell
 have fz:=bz.frozen
 have hs1:=ho1.ext hx3
 have hb4:=b4.lt
 have hsys:zaj w3 w0.heap.size w3.heap.size A1 n1 s:=(show zaj w3 _ w3.heap.size A1 n1 s from ⟨hs1.1,Reads.of_own hs1.2⟩).more (hx01.trans hxd).size (Nat.le_refl _)
 have haut:zI w3 w0.heap.size w3.heap.size B1 m1 B1' m1' p:=ho2.reads.more (hx01.trans hx12).size (Nat.le_refl _)
 have hsz0:=hx0.size
 have hf:Frm (fun k=>k=w.heap.size+1+1+1) w3 (((((((w3.setCell ⟨w.heap.size+1+1+1,0,none⟩ (.int .i64 s.al)).setCell ⟨w.heap.size+1+1+1,1,none⟩ (.int .i64 (P:Nat))).setCell ⟨w.heap.size+1+1+1,2,none⟩ (.slice A1 n1 c1)).setCell ⟨w.heap.size+1+1+1,3,none⟩ (.int .i64 p.al)).setCell ⟨w.heap.size+1+1+1,4,none⟩ (.slice B1 m1 d1)).setCell ⟨w.heap.size+1+1+1,5,none⟩ (.slice B1' m1' d1')).setCell ⟨w.heap.size+1+1+1,6,none⟩ (.int .i64 (L:Nat))):=
  ((((((Frm.setCell w3 _ 0 _).trans (Frm.setCell _ _ 1 _)).trans (Frm.setCell _ _ 2 _)).trans (Frm.setCell _ _ 3 _)).trans (Frm.setCell _ _ 4 _)).trans (Frm.setCell _ _ 5 _)).trans (Frm.setCell _ _ 6 _)
 have bW:Blk (((((((w3.setCell ⟨w.heap.size+1+1+1,0,none⟩ (.int .i64 s.al)).setCell ⟨w.heap.size+1+1+1,1,none⟩ (.int .i64 (P:Nat))).setCell ⟨w.heap.size+1+1+1,2,none⟩ (.slice A1 n1 c1)).setCell ⟨w.heap.size+1+1+1,3,none⟩ (.int .i64 p.al)).setCell ⟨w.heap.size+1+1+1,4,none⟩ (.slice B1 m1 d1)).setCell ⟨w.heap.size+1+1+1,5,none⟩ (.slice B1' m1' d1')).setCell ⟨w.heap.size+1+1+1,6,none⟩ (.int .i64 (L:Nat))) (w.heap.size+1+1+1) 107 #[.int .i64 s.al,.int .i64 (P:Nat),.slice A1 n1 c1,.int .i64 p.al,.slice B1 m1 d1,.slice B1' m1' d1',.int .i64 (L:Nat)]:=by
  simpa using ((((((bz.set_ 0 (.int .i64 s.al)).set_ 1 (.int .i64 (P:Nat))).set_ 2 (.slice A1 n1 c1)).set_ 3 (.int .i64 p.al)).set_ 4 (.slice B1 m1 d1)).set_ 5 (.slice B1' m1' d1')).set_ 6 (.int .i64 (L:Nat))
 refine zg fun K hK=>?_
 go_simp
 generalize (((((((w3.setCell ⟨w.heap.size+1+1+1,0,none⟩ (.int .i64 s.al)).setCell ⟨w.heap.size+1+1+1,1,none⟩ (.int .i64 (P:Nat))).setCell ⟨w.heap.size+1+1+1,2,none⟩ (.slice A1 n1 c1)).setCell ⟨w.heap.size+1+1+1,3,none⟩ (.int .i64 p.al)).setCell ⟨w.heap.size+1+1+1,4,none⟩ (.slice B1 m1 d1)).setCell ⟨w.heap.size+1+1+1,5,none⟩ (.slice B1' m1' d1')).setCell ⟨w.heap.size+1+1+1,6,none⟩ (.int .i64 (L:Nat)))=W at *
 have hret:=za (show RetTask w s p L (.returned (.tuple #[.agg #[.int .i64 s.al,.int .i64 (P:Nat),.slice A1 n1 c1,.int .i64 p.al,.slice B1 m1 d1,.slice B1' m1' d1',.int .i64 (L:Nat)],.bool true])) W from
  ⟨A1,n1,c1,B1,m1,d1,B1',m1',d1',by rw [HPe.out],⟨⟨w0.heap.size,w3.heap.size,hsys.frm hf (fun k h1 h2 e=>by omega),haut.frm hf (fun k h1 h2 e=>by omega),hf.size⟩,hV.out.1,hV.out.2.1,hV.out.2.2⟩,hxw.frm hf (fun k hk e=>by omega)⟩)
 have cf:=bW.cell
 clear hf bW hsys haut kz fz bz hs1 ho1 ho2 hxw
 refine hK.out _ _ ?_
 clear hK
 refine pT ?_
 refine uQ ?_
 refine zh ?_
 go_wp2_with fail
 exact bodyPost_ret (v:=.tuple #[.agg #[.int .i64 s.al,.int .i64 (P:Nat),.slice A1 n1 c1,.int .i64 p.al,.slice B1 m1 d1,.slice B1' m1' d1',.int .i64 (L:Nat)],.bool true]) (by simp [results,Tryz.results75,go_sem,cf]) rfl hret.out
end
section
variable {d:Nat→Nat→List Nat} {start L:List Nat} {goal:Nat→Bool} {N:Nat}
theorem zft (h:¬ Lost d start goal L):∃ v,Found d start goal L v:=by
 have h1:∃ v,(∀ l∈v,l∈L)∧∃ x,zcI d start v x∧goal x=true:=by
  apply Classical.byContradiction
  intro hn
  apply h
  intro v hv x hx
  cases hg:goal x with
  |false=>rfl
  |true=>exact absurd ⟨v,hv,x,hx,hg⟩ hn
 have key:∀ n v,zdj v=n→(∀ l∈v,l∈L)→(∃ x,zcI d start v x∧goal x=true)→∃ v,Found d start goal L v:=by
  intro n
  induction n using Nat.strongRecOn with
  |ind n ih =>
   intro v hn hv hx
   by_cases hm:∃ u,(∀ l∈u,l∈L)∧zdj u<zdj v∧∃ x,zcI d start u x∧goal x=true
   ·obtain⟨u,hu,hlt,hux⟩:=hm
    exact ih (zdj u) (by omega) u rfl hu hux
   ·refine⟨v,hv,hx,fun u hu hlt x hgx=>?_⟩
    cases hg:goal x with
    |false=>rfl
    |true=>exact absurd ⟨u,hu,hlt,x,hgx,hg⟩ hm
 obtain⟨v,hv,hx⟩:=h1
 exact key _ v rfl hv hx
theorem found_len {v:List Nat}(h:Found d [0] goal L v)(h6:∀ l∈L,l<6)(hN:0<N)(hd:∀ x l,x<N→l∈L→∀ y∈d x l,y<N):v.length<N:=by
 obtain⟨hv,⟨x,hx,hg⟩,hmin⟩:=h
 obtain⟨x0,h0,hdn⟩:=zcI.dn (L:=L) (v:=[]) (u:=v) (goal:=goal) (by simpa using hx) hg hv
 have hx0:x0=0:=by have:=h0.inv_nil;simpa using this
 subst hx0
 have hex:∃ n,Mn d L goal n 0∧n≤v.length:=by
  have key:∀ n,Dn d L goal n 0→∃ m,Mn d L goal m 0∧m≤n:=by
   intro n
   induction n using Nat.strongRecOn with
   |ind n ih =>
    intro hn
    by_cases hm:∃ m,m<n∧Dn d L goal m 0
    ·obtain⟨m,hmn,hm⟩:=hm
     obtain⟨k,h1,h2⟩:=ih m hmn hm
     exact⟨k,h1,by omega⟩
    ·exact⟨n,⟨hn,fun m hmn hm'=>hm ⟨m,hmn,hm'⟩⟩,Nat.le_refl _⟩
  exact key _ hdn
 obtain⟨n,hn,-⟩:=hex
 have hnN:=hn.lt hN hd
 obtain⟨u,hul,huL,y,hy,hgy⟩:=Dn.word (v:=[]) (start:=[0]) hn.1 (.nil (by simp))
 rcases Nat.lt_or_ge n v.length with hlt|hge
 ·have:=hmin u huL (zfo (fun l hl=>h6 l (hv l hl)) (fun l hl=>h6 l (huL l hl)) (by omega)) y (by simpa using hy)
  rw [hgy] at this;cases this
 ·omega
theorem firstW_ok (h6:∀ l∈L,l<6)(hN:0<N)(hd:∀ x l,x<N→l∈L→∀ y∈d x l,y<N):(∀ l∈zef d [0] goal L,l<6)∧(zef d [0] goal L).length<N:=by
 by_cases h:Lost d [0] goal L
 ·rw [(zfK h).1]
  exact⟨by simp,by simpa using hN⟩
 ·obtain⟨v,hv⟩:=zft h
  rw [(zeR h6 hv).1]
  exact⟨fun l hl=>h6 l (hv.1 l hl),found_len hv h6 hN hd⟩
end
theorem wstr_word {v:List Nat}(h6:∀ l∈v,l<6)(hl:v.length≤50000):zbk (wstr v)=true:=by
 unfold zbk
 simp only [Bool.and_eq_true,decide_eq_true_eq]
 refine⟨by rw [zfn];exact hl,?_⟩
 rw [List.all_eq_true]
 intro b hb
 unfold wstr lbs at hb
 rw [strOfNums_data,List.map_map] at hb
 obtain⟨l,hl,rfl⟩:=List.mem_map.1 hb
 have hl6:=h6 l hl
 have key:∀ l,l<6→zbC (UInt8.ofNat (97+l))=true:=by decide
 have e:((fun n:Int=>UInt8.ofNat n.toNat) ∘ fun l:Nat=>((97+l:Nat):Int)) l=UInt8.ofNat (97+l):=by
  show UInt8.ofNat (((97+l:Nat):Int)).toNat=_
  rw [Int.toNat_natCast]
 first
  |(rw [e];exact key l hl6)
  |(have:=key l hl6;simpa using this)
theorem vioW_word {ss:List Sys} {a p:Aut}(hss:∀ s∈ss,zv s=true)(ha:zk a=true)(hp:zk p=true)(hN:zal (zaM ss [a,p])≤50000):zbk (vioW ss a p)=true∧(vioW ss a p).size<zal (zaM ss [a,p]):=by
 have hm:∀ m∈zaM ss [a,p],MemOk m:=by
  intro m hm
  unfold zaM at hm
  rcases List.mem_append.1 hm with h|h
  ·obtain⟨s,hs,rfl⟩:=List.mem_map.1 h
   exact sMem_ok (zcA (hss s hs))
  ·simp at h
   rcases h with rfl|rfl
   ·exact aMem_ok ha
   ·exact aMem_ok hp
 obtain⟨h1,h2⟩:=firstW_ok (d:=brkD ss a p) (goal:=brkG a p) (L:=letters (zav ss|||a.al.toNat) 6) (N:=zal (zaM ss [a,p])) (fun l hl=>(zZ.1 hl).1) (prodN_pos hm) (fun x l _ hl y hy=>by
  rw [zfW] at hy
  exact pnx_lt hm (zZ.1 hl).1 y hy)
 unfold vioW
 exact⟨wstr_word h1 (by omega),by rw [zfn];exact h2⟩
theorem prod_le {ss:List Sys} {a p:Aut}(hss:∀ s∈ss,zv s=true):zal (zaM ss [a,p])≤16 ^ ss.length*(a.next.length*p.next.length):=by
 induction ss with
 |nil=>simp [zaM,zal,zan,zet]
 |cons s r ih =>
  have h1:=ih (fun s hs=>hss s (List.mem_cons_of_mem _ hs))
  have h2:s.st.toNat≤16:=by have:=(zcA (hss s List.mem_cons_self)).2.1;omega
  show zal (sMem s :: zaM r [a,p])≤_
  rw [zcO,List.length_cons,Nat.pow_succ]
  calc s.st.toNat*zal (zaM r [a,p])≤16*(16 ^ r.length*(a.next.length*p.next.length)):=Nat.mul_le_mul h2 h1
   _=16 ^ r.length*16*(a.next.length*p.next.length):=by rw [← Nat.mul_assoc,Nat.mul_comm 16]
theorem zfl {s:Sys} {a p:Aut}(hs:zv s=true)(ha:zk a=true)(hp:zk p=true):zbk (zcG s a p)=true∧(zcG s a p).size≤2304:=by
 have h1:=(zx ha).2.1.2
 have h2:=(zx hp).2.1.2
 have h3:=prod_le (ss:=[s]) (a:=a) (p:=p) (by simpa using hs)
 have h4:a.next.length*p.next.length≤12*12:=Nat.mul_le_mul h1 h2
 simp only [List.length_singleton,Nat.pow_one] at h3
 obtain⟨h5,h6⟩:=vioW_word (ss:=[s]) (by simpa using hs) ha hp (by omega)
 unfold zcG
 rw [if_pos (by unfold zfj;rw [hs,ha,hp];rfl)]
 exact⟨h5,by omega⟩
theorem zdV {ss:List Sys} {p:Aut}(hss:zX ss=true)(hp:zk p=true):zbk (zba ss p)=true∧(zba ss p).size<16 ^ ss.length*12:=by
 obtain⟨⟨h0,h03⟩,hv⟩:=zbE hss
 have h2:=(zx hp).2.1.2
 have h3:=prod_le (a:=free) (p:=p) hv
 have h4:free.next.length*p.next.length≤1*12:=Nat.mul_le_mul (Nat.le_refl _) h2
 have h5:zal (zaM ss [free,p])≤16 ^ ss.length*12:=Nat.le_trans h3 (Nat.mul_le_mul_left _ (by omega))
 have h6:16 ^ ss.length≤16 ^ 3:=Nat.pow_le_pow_right (by omega) h03
 have h7:16 ^ ss.length*12≤4096*12:=Nat.mul_le_mul_right _ h6
 obtain⟨h8,h9⟩:=vioW_word hv free_valid hp (by omega)
 unfold zba
 rw [if_pos (by unfold zfL;rw [hss,hp];rfl)]
 exact⟨h8,by omega⟩
noncomputable def zdd (s:Sys) (p:Aut) (t:Sys) (L:Nat) (a:Aut):ByteArray × Int:=
 if zen s a p=true then (zbF (zcG s a p) L,-1)
 else if zeu [t] a=true then (zbF (zba [t] a) L,if zw s p L (zbF (zba [t] a) L)=true then -1 else 1)
 else (⟨#[]⟩,0)
section
variable {w:World} {lo hi n c lo1 hi1 m d m' d' lo2 hi2 k c2 k1 d1 k1' d1' L:Nat} {A B B' C X X':Option Addr} {s t:Sys} {p a:Aut}
theorem zdu (ht:zaj w lo hi C k t)(ha:zI w lo1 hi1 X k1 X' k1' a) :
  Calls Tryz.prog 99 #[.agg #[.int .i64 t.al,.int .i64 t.st,.slice C k c2],.agg #[.int .i64 a.al,.slice X k1 d1,.slice X' k1' d1']] w fun e w'=>e=.returned (.tuple #[.string (zba [t] a),.bool (zeu [t] a)])∧Ext w w':=by
 have HT:=za (fun W (hW:Ext w W)=>ht.ext hW)
 have HA:=za (fun W (hW:Ext w W)=>ha.ext hW)
 have hx0:Ext w ((w.alloc (.cells #[.int .i64 t.al,.int .i64 t.st,.slice C k c2] 43)).alloc (.cells #[.int .i64 a.al,.slice X k1 d1,.slice X' k1' d1'] 26)):=((Ext.refl _).alloc _).alloc _
 obtain⟨b1,b2⟩:=zM (Ext.refl ((w.alloc (.cells #[.int .i64 t.al,.int .i64 t.st,.slice C k c2] 43)).alloc (.cells #[.int .i64 a.al,.slice X k1 d1,.slice X' k1' d1'] 26)))
 clear ht ha
 go_enter Tryz.func99,Tryz.ntmps99
 go_upto_region 1 with fail
 generalize (w.alloc (.cells #[.int .i64 t.al,.int .i64 t.st,.slice C k c2] 43)).alloc (.cells #[.int .i64 a.al,.slice X k1 d1,.slice X' k1' d1'] 26)=w0 at *
 have c1:=b1.cell
 have hx1:=(Ext.refl w0).alloc (.cells #[.int .i64 t.al,.int .i64 t.st,.slice C k c2] 43)
 have bs:=Blk.new w0 43 #[.int .i64 t.al,.int .i64 t.st,.slice C k c2]
 obtain⟨lo3,hi3,hsl⟩:=sl_one bs (HT.out _ (hx0.trans hx1))
 have c2':=(b2.ext hx1).cell
 have HP:=za (zbG (c:=1) (d2:=d1) (d2':=d1') hsl (HA.out _ (hx0.trans hx1)))
 clear hsl bs
 go_wp2_with fail
 refine HP.out.mono ?_
 rintro e w2 ⟨rfl,hx2⟩
 go_wp2_with fail
 go_ret2
 exact⟨rfl,(hx0.trans hx1).trans hx2⟩
theorem zgr (h:Tch w A n B m B' m' s p L)(ht:zaj w lo hi C k t)(ha:zI w lo1 hi1 X k1 X' k1' a) (vt:zv t=true) (va:zk a=true) :
  Calls Tryz.prog 78 #[.agg #[.int .i64 t.al,.int .i64 t.st,.slice C k c2],.agg #[.int .i64 s.al,.int .i64 s.st,.slice A n c,.int .i64 p.al,.slice B m d,.slice B' m' d',.int .i64 L],.agg #[.int .i64 a.al,.slice X k1 d1,.slice X' k1' d1']] w fun e w'=>e=.returned (.tuple #[.string (zdd s p t L a).1,.int .i64 (zdd s p t L a).2])∧Ext w w':=by
 have hL:=h.lt
 have HU:=za (fun W (hW:Ext w W)=>by
  obtain⟨lo,hi,h1,h2,_⟩:=h.at_
  exact zdw (c:=c) (d1:=d1) (d1':=d1') (d2:=d) (d2':=d') (h1.ext hW) (ha.ext hW) (h2.ext hW))
 have HS:=za (fun W (hW:Ext w W) (y:ByteArray) hy=>by
  obtain⟨lo,hi,h1,h2,h3⟩:=h.at_
  exact zdK (c:=c) (d:=d) (d':=d') (L:=L) (t:=y) (h1.ext hW) (h2.ext hW) h.sv h.pv h.lt (Nat.le_trans h3 hW.size) hy)
 have HF:=za (fun W (hW:Ext w W)=>zdu (c2:=c2) (d1:=d1) (d1':=d1') (ht.ext hW) (ha.ext hW))
 have hu:=za (zfl h.sv va h.pv)
 have hb:=za (zdV (ss:=[t]) (p:=a) (by unfold zX;simp [vt]) va)
 have Hj:=za (show zdd s p t L a=if zen s a p=true then (zbF (zcG s a p) L,-1)
  else if zeu [t] a=true then (zbF (zba [t] a) L,if zw s p L (zbF (zba [t] a) L)=true then -1 else 1)
  else (⟨#[]⟩,0) from rfl)
 generalize zdd s p t L a=J at *
 obtain⟨uw,huw⟩:∃ uw,Hid (zcG s a p=uw):=⟨_,rfl⟩
 obtain⟨bw,hbw⟩:∃ bw,Hid (zba [t] a=bw):=⟨_,rfl⟩
 rw [huw.out] at HU hu Hj
 rw [hbw.out] at HF hb Hj
 have hx0:Ext w (((w.alloc (.cells #[.int .i64 t.al,.int .i64 t.st,.slice C k c2] 43)).alloc (.cells #[.int .i64 s.al,.int .i64 s.st,.slice A n c,.int .i64 p.al,.slice B m d,.slice B' m' d',.int .i64 L] 107)).alloc (.cells #[.int .i64 a.al,.slice X k1 d1,.slice X' k1' d1'] 26)):=(((Ext.refl _).alloc _).alloc _).alloc _
 obtain⟨b1,b2,b3⟩:=zN (Ext.refl (((w.alloc (.cells #[.int .i64 t.al,.int .i64 t.st,.slice C k c2] 43)).alloc (.cells #[.int .i64 s.al,.int .i64 s.st,.slice A n c,.int .i64 p.al,.slice B m d,.slice B' m' d',.int .i64 L] 107)).alloc (.cells #[.int .i64 a.al,.slice X k1 d1,.slice X' k1' d1'] 26)))
 clear h ht ha vt va
 cases hub:zen s a p
 ·cases hbb:zeu [t] a
  ·have zgF:=za (show J=(⟨#[]⟩,0) by rw [Hj.out,hub,hbb];rfl)
   rw [hub] at HU
   rw [hbb] at HF
   rw [zgF.out]
   clear Hj zgF hub hbb
   go_enter Tryz.func78,Tryz.ntmps78
   go_upto_region 1 with fail
   generalize ((w.alloc (.cells #[.int .i64 t.al,.int .i64 t.st,.slice C k c2] 43)).alloc (.cells #[.int .i64 s.al,.int .i64 s.st,.slice A n c,.int .i64 p.al,.slice B m d,.slice B' m' d',.int .i64 L] 107)).alloc (.cells #[.int .i64 a.al,.slice X k1 d1,.slice X' k1' d1'] 26)=w0 at *
   have CT:=b1.cells
   have CK:=b2.cells
   have CA:=b3.cells
   have hww:=Ext.refl w0
   go_wp2_with (first
    |(go_at_call 98;refine (HU.out _ hx0).mono ?_;rintro e w1 ⟨rfl,hx1⟩)
    |(go_at_call 99;refine (HF.out _ (hx0.trans hx1)).mono ?_;rintro e w2 ⟨rfl,hx2⟩;have hx12:=hx1.trans hx2))
   go_ret2
   exact⟨rfl,hx0.trans hx12⟩
  ·obtain⟨rw_,hrw⟩:∃ rw_,Hid (zbF bw L=rw_):=⟨_,rfl⟩
   have HR:=za (fun W=>zbn (w:=W) (s:=bw) (a:=L) hb.out.1 (by omega))
   have hrs:=za (show rw_.size≤9223372036854775807 by
    rw [← hrw.out]
    have h1:=zaN (zbc (zgi hb.out.1 L))
    omega)
   rw [hrw.out] at HR Hj
   have HSr:=za (fun W (hW:Ext w W)=>HS.out W hW rw_ hrs.out)
   obtain⟨sf,hsf⟩:∃ sf,Hid (zw s p L rw_=sf):=⟨_,rfl⟩
   rw [hsf.out] at HSr Hj
   rw [hub] at HU
   rw [hbb] at HF
   have zgF:=za (show J=(rw_,if sf=true then -1 else 1) by rw [Hj.out,hub,hbb];rfl)
   rw [zgF.out]
   clear Hj zgF hub hbb
   cases sf
   all_goals
    go_enter Tryz.func78,Tryz.ntmps78
    go_upto_region 1 with fail
    generalize ((w.alloc (.cells #[.int .i64 t.al,.int .i64 t.st,.slice C k c2] 43)).alloc (.cells #[.int .i64 s.al,.int .i64 s.st,.slice A n c,.int .i64 p.al,.slice B m d,.slice B' m' d',.int .i64 L] 107)).alloc (.cells #[.int .i64 a.al,.slice X k1 d1,.slice X' k1' d1'] 26)=w0 at *
    have CT:=b1.cells
    have CK:=b2.cells
    have CA:=b3.cells
    have hww:=Ext.refl w0
    go_wp2_with (first
     |(go_at_call 98;refine (HU.out _ hx0).mono ?_;rintro e w1 ⟨rfl,hx1⟩)
     |(go_at_call 99;refine (HF.out _ (hx0.trans hx1)).mono ?_;rintro e w2 ⟨rfl,hx2⟩;have hx12:=hx1.trans hx2)
     |(go_at_call 89;refine (HR.out _).mono ?_;rintro e w3 ⟨rfl,hx3⟩;have hx13:=hx12.trans hx3)
     |(go_at_call 100;refine (HSr.out _ (hx0.trans hx13)).mono ?_;rintro e w4 ⟨rfl,hx4⟩;have hx14:=hx13.trans hx4))
    go_ret2
    exact⟨rfl,hx0.trans hx14⟩
 ·have HR:=za (fun W=>zbn (w:=W) (s:=uw) (a:=L) hu.out.1 (by omega))
  rw [hub] at HU
  have zgF:=za (show J=(zbF uw L,-1) by rw [Hj.out,hub];rfl)
  rw [zgF.out]
  clear Hj zgF hub
  go_enter Tryz.func78,Tryz.ntmps78
  go_upto_region 1 with fail
  generalize ((w.alloc (.cells #[.int .i64 t.al,.int .i64 t.st,.slice C k c2] 43)).alloc (.cells #[.int .i64 s.al,.int .i64 s.st,.slice A n c,.int .i64 p.al,.slice B m d,.slice B' m' d',.int .i64 L] 107)).alloc (.cells #[.int .i64 a.al,.slice X k1 d1,.slice X' k1' d1'] 26)=w0 at *
  have CT:=b1.cells
  have CK:=b2.cells
  have CA:=b3.cells
  have hww:=Ext.refl w0
  go_wp2_with (first
   |(go_at_call 98;refine (HU.out _ hx0).mono ?_;rintro e w1 ⟨rfl,hx1⟩)
   |(go_at_call 89;refine (HR.out _).mono ?_;rintro e w3 ⟨rfl,hx3⟩;have hx13:=hx1.trans hx3))
  go_ret2
  exact⟨rfl,hx0.trans hx13⟩
end
structure Vd where
 code:Int
 asm:Aut
 tr:ByteArray
 ro:Nat
def noA:Aut:=⟨0,[],[]⟩
noncomputable def runT (s t:Sys) (p:Aut) (L:Nat):Nat→Nat→Option (List ByteArray × List ByteArray)→Vd
 |0,k,_=>⟨2,noA,⟨#[]⟩,k⟩
 |_+1,k,none=>⟨2,noA,⟨#[]⟩,k⟩
 |f+1,k,some tab =>
  if (zdd s p t L (zfF L (zw s p L) tab.1 tab.2)).2=0 then ⟨0,zfF L (zw s p L) tab.1 tab.2,⟨#[]⟩,k+1⟩
  else if (zdd s p t L (zfF L (zw s p L) tab.1 tab.2)).2=1 then ⟨1,noA,zba [s,t] p,k+1⟩
  else runT s t p L f (k+1) (zdG L (zw s p L) tab.1 tab.2 (zdd s p t L (zfF L (zw s p L) tab.1 tab.2)).1)
def zbR (w:World) (v:Vd) (e:Ending) (w':World):Prop:=
 ∃ (A:Option Addr) (n c:Nat) (A':Option Addr) (n' c':Nat) (x:Int) (X:Option Addr) (k1 d1:Nat) (X':Option Addr) (k1' d1':Nat),
  e=.returned (.tuple #[.agg #[.int .i64 v.code,.int .i64 v.asm.al,.slice A n c,.slice A' n' c',.string v.tr,.int .i64 v.ro],.agg #[.int .i64 x,.slice X k1 d1,.slice X' k1' d1']])∧zO w' w.heap.size A n c A' n' c' v.asm∧Ext w w'
def zdS (L:Nat) (f:ByteArray→Bool) (o:Option (List ByteArray × List ByteArray)):Prop:=∀ rs cs,o=some (rs,cs)→zct L f rs cs∧zbd L f rs cs=none
theorem zdS.new (L:Nat) (f:ByteArray→Bool):zdS L f ((zaB L f [⟨#[]⟩] 11 [⟨#[]⟩]).map fun r=>(r,[⟨#[]⟩])):=by
 intro rs cs h
 obtain⟨r,hr,e⟩:=Option.map_eq_some_iff.1 h
 obtain⟨rfl,rfl⟩:=Prod.mk.inj e
 obtain⟨h1,h2,-⟩:=closeT_ok 11 _ _ (zct.first L f) (by decide) hr
 exact⟨h1,h2⟩
theorem zdS.learn {L:Nat} {f:ByteArray→Bool} {rows cols:List ByteArray}(h:zct L f rows cols) (x:ByteArray):zdS L f (zdG L f rows cols x):=by
 intro rs cs hl
 unfold zdG at hl
 split at hl
 ·cases hl
 ·rename_i col hc
  split at hl
  ·rename_i ha
   obtain⟨r,hr,e⟩:=Option.map_eq_some_iff.1 hl
   obtain⟨rfl,rfl⟩:=Prod.mk.inj e
   have hI:=h.addC ha
   obtain⟨h1,h2,-⟩:=closeT_ok _ _ _ hI (by have:=h.r12;omega) hr
   exact⟨h1,h2⟩
  ·cases hl
theorem judgeT_size {s:Sys} {p:Aut} {t:Sys} {L:Nat} {a:Aut}(hs:zv s=true)(hp:zk p=true)(ht:zv t=true)(ha:zk a=true):(zdd s p t L a).1.size≤50000:=by
 have h1:=zfl hs ha hp
 have h2:=zdV (ss:=[t]) (p:=a) (by unfold zX;simp [ht]) ha
 unfold zdd
 split
 ·exact zaN (zbc (zgi h1.1 L))
 ·split
  ·exact zaN (zbc (zgi h2.1 L))
  ·exact Nat.zero_le _
def TabM (w0 W:World) (g:Nat) (o:Option (List ByteArray × List ByteArray)):Prop:=
 ∃ (nr nc:Nat) (R:Option Addr) (cr:Nat) (C:Option Addr) (cc:Nat),Blk W g 113 #[.slice R nr cr,.slice C nc cc]∧nr≤cr∧nc≤cc ∧
  ∀ rs cs,o=some (rs,cs)→W.ownsRow w0.heap.size 9 1 (.slice R nr cr) nr (zL rs)∧W.ownsRow w0.heap.size 9 1 (.slice C nc cc) nc (zL cs)
theorem TabM.far {w0 W W':World} {g G:Nat} {o:Option (List ByteArray × List ByteArray)} {cs:Array Value} {t:TypeId}(h:TabM w0 W g o)(hB:Blk W G t cs)(hf:Frm (fun k=>k=G) W W')(hg:g≠G)(ht:9≠t):TabM w0 W' g o:=by
 obtain⟨nr,nc,R,cr,C,cc,hb,h1,h2,h3⟩:=h
 exact⟨nr,nc,R,cr,C,cc,hb.frm hf hg,h1,h2,fun rs cs e=>⟨zd (h3 rs cs e).1 hf (fun b hv e'=>zm (h3 rs cs e).1 hB ht hv e'),zd (h3 rs cs e).2 hf (fun b hv e'=>zm (h3 rs cs e).2 hB ht hv e')⟩⟩
theorem zby.fill {w w0 W:World} {o:Option (List ByteArray × List ByteArray)} {e:Ending}(h:zby w o e W)(hw:w0.heap.size≤w.heap.size) :
  Ext w W∧∃ (nr nc:Nat) (R:Option Addr) (cr:Nat) (C:Option Addr) (cc:Nat),e=.returned (.tuple #[.agg #[.slice R nr cr,.slice C nc cc],.bool o.isSome])∧nr≤cr∧nc≤cc ∧
   ∀ rs cs,o=some (rs,cs)→W.ownsRow w0.heap.size 9 1 (.slice R nr cr) nr (zL rs)∧W.ownsRow w0.heap.size 9 1 (.slice C nc cc) nc (zL cs):=by
 obtain⟨hx,⟨rfl,rfl⟩|⟨rs,cs,nr,nc,R,cr,C,cc,rfl,rfl,h1,h2⟩⟩:=h
 ·exact⟨hx,0,0,none,0,none,0,rfl,Nat.le_refl _,Nat.le_refl _,fun _ _ e=>by cases e⟩
 ·refine⟨hx,nr,nc,R,cr,C,cc,rfl,zeG h1,zeG h2,fun rs' cs' e=>?_⟩
  obtain⟨rfl,rfl⟩:=Prod.mk.inj (Option.some.inj e)
  exact⟨zi h1 hw,zi h2 hw⟩
theorem sl_pair {w:World} {g lo hi n c lo2 hi2 k c2:Nat} {A C:Option Addr} {s t:Sys}(hb:Blk w g 43 #[.int .i64 s.al,.int .i64 s.st,.slice A n c,.int .i64 t.al,.int .i64 t.st,.slice C k c2])(h:zaj w lo hi A n s)(h':zaj w lo2 hi2 C k t):∃ lo hi,SLAt w lo hi (some ⟨g,0,none⟩) 2 [s,t]:=by
 refine⟨0,hi+hi2+g+1,rfl,[.int .i64 s.al,.int .i64 s.st,.slice A n c,.int .i64 t.al,.int .i64 t.st,.slice C k c2],⟨rfl,by omega,fun _=>⟨_,rfl,Nat.zero_le _,by dsimp only;omega,fun j u hu=>?_⟩⟩,fun j u hu=>?_⟩
 ·rw [zP,Nat.zero_add,hb.cell]
  simpa using hu
 ·match j with
  |0 =>
   simp at hu;subst hu
   exact⟨A,n,c,rfl,rfl,rfl,h.1,h.2.more (Nat.zero_le _) (by omega)⟩
  |1 =>
   simp at hu;subst hu
   exact⟨C,k,c2,rfl,rfl,rfl,h'.1,h'.2.more (Nat.zero_le _) (by omega)⟩
  |j+2=>simp at hu
theorem zbR.drew {w W:World} {v:Vd} {e:Ending}(h:zbR w v e W):zbR w v e W.drew:=by
 obtain⟨A,n,c,A',n',c',x,X,k1,d1,X',k1',d1',he,ho,hx⟩:=h
 have hd:Ext W W.drew:=(Ext.refl W).drew
 exact⟨A,n,c,A',n',c',x,X,k1,d1,X',k1',d1',he,ho.ext hd,hx.trans hd⟩
theorem zbR.cast {w W:World} {v u:Vd} {e:Ending}(hu:u=v)(h:zbR w v e W):zbR w u e W:=hu ▸ h
def roAt (W:World) (g:Nat):Nat:=match W.cell? ⟨g,5,none⟩ with|some (.int _ z)=>z.toNat|_=>0
theorem roAt_blk {W:World} {g j:Nat} {t:TypeId} {u0 u1 u2 u3 u4:Value}(h:Blk W g t #[u0,u1,u2,u3,u4,.int .i64 j]):roAt W g=j:=by
 unfold roAt
 rw [h.cell 5]
 exact Int.toNat_natCast j
theorem runT_end {s t:Sys} {p:Aut} {L K j:Nat} {o:Option (List ByteArray × List ByteArray)}(h:¬ (o.isSome=true∧j<K)):runT s t p L (K - j) j o=⟨2,noA,⟨#[]⟩,j⟩:=by
 cases hk:K - j with
 |zero=>rfl
 |succ f =>
  cases o with
  |none=>rfl
  |some tab=>exact absurd ⟨rfl,by omega⟩ h
theorem zgl (W:World) (Z:Nat) (u0 u1 u2 u3 u4 u5:Value):Frm (fun k=>k=Z) W ((((((W.setCell ⟨Z,0,none⟩ u0).setCell ⟨Z,1,none⟩ u1).setCell ⟨Z,2,none⟩ u2).setCell ⟨Z,3,none⟩ u3).setCell ⟨Z,4,none⟩ u4).setCell ⟨Z,5,none⟩ u5):=
 (((((Frm.setCell W _ 0 _).trans (Frm.setCell _ _ 1 _)).trans (Frm.setCell _ _ 2 _)).trans (Frm.setCell _ _ 3 _)).trans (Frm.setCell _ _ 4 _)).trans (Frm.setCell _ _ 5 _)
theorem Frm.drew {S:Nat→Prop} {a w:World}(h:Frm S a w):Frm S a w.drew:=⟨h.os,h.tape,h.output,h.size,h.block⟩
theorem zeJ {w W:World} {Z n c n' c' k1 d1 k1' d1':Nat} {A A' X X':Option Addr} {v:Vd} {x:Int} {vs us:Array Value}(hx:Ext w W)(hv:Blk W Z 33 vs)(hu:Blk W (Z+1) 26 us)(h6:vs.size=6)(h3:us.size=3)(hZ:w.heap.size≤Z)(ho:zO W w.heap.size A n c A' n' c' v.asm) :
  Hid (zbR w v (.returned (.tuple #[.agg #[.int .i64 v.code,.int .i64 v.asm.al,.slice A n c,.slice A' n' c',.string v.tr,.int .i64 v.ro],.agg #[.int .i64 x,.slice X k1 d1,.slice X' k1' d1']]))
   (((((((((W.setCell ⟨Z,0,none⟩ (.int .i64 v.code)).setCell ⟨Z,1,none⟩ (.int .i64 v.asm.al)).setCell ⟨Z,2,none⟩ (.slice A n c)).setCell ⟨Z,3,none⟩ (.slice A' n' c')).setCell ⟨Z,4,none⟩ (.string v.tr)).setCell ⟨Z,5,none⟩ (.int .i64 v.ro)).setCell ⟨Z+1,0,none⟩ (.int .i64 x)).setCell ⟨Z+1,1,none⟩ (.slice X k1 d1)).setCell ⟨Z+1,2,none⟩ (.slice X' k1' d1'))) ∧
  Blk (((((((((W.setCell ⟨Z,0,none⟩ (.int .i64 v.code)).setCell ⟨Z,1,none⟩ (.int .i64 v.asm.al)).setCell ⟨Z,2,none⟩ (.slice A n c)).setCell ⟨Z,3,none⟩ (.slice A' n' c')).setCell ⟨Z,4,none⟩ (.string v.tr)).setCell ⟨Z,5,none⟩ (.int .i64 v.ro)).setCell ⟨Z+1,0,none⟩ (.int .i64 x)).setCell ⟨Z+1,1,none⟩ (.slice X k1 d1)).setCell ⟨Z+1,2,none⟩ (.slice X' k1' d1')) Z 33 #[.int .i64 v.code,.int .i64 v.asm.al,.slice A n c,.slice A' n' c',.string v.tr,.int .i64 v.ro] ∧
  Blk (((((((((W.setCell ⟨Z,0,none⟩ (.int .i64 v.code)).setCell ⟨Z,1,none⟩ (.int .i64 v.asm.al)).setCell ⟨Z,2,none⟩ (.slice A n c)).setCell ⟨Z,3,none⟩ (.slice A' n' c')).setCell ⟨Z,4,none⟩ (.string v.tr)).setCell ⟨Z,5,none⟩ (.int .i64 v.ro)).setCell ⟨Z+1,0,none⟩ (.int .i64 x)).setCell ⟨Z+1,1,none⟩ (.slice X k1 d1)).setCell ⟨Z+1,2,none⟩ (.slice X' k1' d1')) (Z+1) 26 #[.int .i64 x,.slice X k1 d1,.slice X' k1' d1']:=by
 obtain⟨lv⟩:=vs
 match lv,h6 with
 |[a0,a1,a2,a3,a4,a5],_ =>
 have hf1:Frm (fun k=>k=Z) W ((((((W.setCell ⟨Z,0,none⟩ (.int .i64 v.code)).setCell ⟨Z,1,none⟩ (.int .i64 v.asm.al)).setCell ⟨Z,2,none⟩ (.slice A n c)).setCell ⟨Z,3,none⟩ (.slice A' n' c')).setCell ⟨Z,4,none⟩ (.string v.tr)).setCell ⟨Z,5,none⟩ (.int .i64 v.ro)):=
  (((((Frm.setCell W _ 0 _).trans (Frm.setCell _ _ 1 _)).trans (Frm.setCell _ _ 2 _)).trans (Frm.setCell _ _ 3 _)).trans (Frm.setCell _ _ 4 _)).trans (Frm.setCell _ _ 5 _)
 have hv1:Blk ((((((W.setCell ⟨Z,0,none⟩ (.int .i64 v.code)).setCell ⟨Z,1,none⟩ (.int .i64 v.asm.al)).setCell ⟨Z,2,none⟩ (.slice A n c)).setCell ⟨Z,3,none⟩ (.slice A' n' c')).setCell ⟨Z,4,none⟩ (.string v.tr)).setCell ⟨Z,5,none⟩ (.int .i64 v.ro)) Z 33 #[.int .i64 v.code,.int .i64 v.asm.al,.slice A n c,.slice A' n' c',.string v.tr,.int .i64 v.ro]:=by
  simpa using (((((hv.set_ 0 (.int .i64 v.code)).set_ 1 (.int .i64 v.asm.al)).set_ 2 (.slice A n c)).set_ 3 (.slice A' n' c')).set_ 4 (.string v.tr)).set_ 5 (.int .i64 v.ro)
 have ho1:=ho.farT hv hf1 (by decide)
 have hu1:=hu.frm hf1 (by omega)
 have hx1:Ext w ((((((W.setCell ⟨Z,0,none⟩ (.int .i64 v.code)).setCell ⟨Z,1,none⟩ (.int .i64 v.asm.al)).setCell ⟨Z,2,none⟩ (.slice A n c)).setCell ⟨Z,3,none⟩ (.slice A' n' c')).setCell ⟨Z,4,none⟩ (.string v.tr)).setCell ⟨Z,5,none⟩ (.int .i64 v.ro)):=hx.frm hf1 (fun k hk e=>by omega)
 generalize (((((W.setCell ⟨Z,0,none⟩ (.int .i64 v.code)).setCell ⟨Z,1,none⟩ (.int .i64 v.asm.al)).setCell ⟨Z,2,none⟩ (.slice A n c)).setCell ⟨Z,3,none⟩ (.slice A' n' c')).setCell ⟨Z,4,none⟩ (.string v.tr)).setCell ⟨Z,5,none⟩ (.int .i64 v.ro)=W1 at *
 have hf2:=zY W1 (Z+1) (.int .i64 x) (.slice X k1 d1) (.slice X' k1' d1')
 exact⟨za ⟨A,n,c,A',n',c',x,X,k1,d1,X',k1',d1',rfl,ho1.farT hu1 hf2 (by decide),hx1.frm hf2 (fun k hk e=>by omega)⟩,hv1.frm hf2 (by omega),zai hu1 h3 _ _ _⟩
section
variable {w:World} {lo hi n c lo1 hi1 m d m' d' lo2 hi2 k c2:Nat} {A B B' C:Option Addr} {s t:Sys} {p:Aut}
theorem yJ09a1 {P:Prop}(h:P:=by
 clear hflag hgo ho hon hne1 hne2 hd hb8 hb9' hxw
 go_wp2_with fail
 refine zaG (fun Y=>Frm (fun b=>b=Z) wr Y) [3] (zG.of [0,1,2,3]) (by kernel_rfl) (by kernel_rfl) (by kernel_rfl) (by kernel_rfl) (by kernel_rfl) (fun _ _ _ _ _ h=>h) hS0 ?_
 refine zbh (v:=?_) rfl rfl rfl rfl (fun X hX=>?_) ?_
 rotate_left
 focus (go_simp<;>with_reducible rfl)
 refine pT ?_
 refine zbh (v:=?_) rfl rfl rfl rfl (fun X hX=>?_) ?_
 rotate_left
 focus (go_simp<;>with_reducible rfl)
 refine pT ?_
 refine zb fun K hK=>?_;go_simp
 refine hK.out _ _ hf8.out.drew ?_
 refine pT ?_
 refine zg fun K hK=>?_
 go_simp
 refine hK.out _ _ ?_
 refine zh ?_
 go_wp2_with fail
 have cf2:=F2.out.cell
 have cf3:=F3.out.cell
 exact bodyPost_ret (v:=.tuple #[.agg #[.int .i64 2,.int .i64 0,.slice none 0 0,.slice none 0 0,.string ⟨#[]⟩,.int .i64 j],.agg #[.int .i64 x,.slice X k1 d1,.slice X' k1' d1']]) (by simp [results,Tryz.results51,go_sem,cf2,cf3]) rfl F1.out
 ):P:=h
theorem spec_l12Run {L K:Nat}(hs:zaj w lo hi A n s)(hp:zI w lo1 hi1 B m B' m' p)(ht:zaj w lo2 hi2 C k t)(hif:iface s p t=(L:Int))(hn:n≤1000000)(hhi:hi≤w.heap.size)(hK:K≤1000) :
  Calls Tryz.prog 51 #[.agg #[.int .i64 s.al,.int .i64 s.st,.slice A n c],.agg #[.int .i64 t.al,.int .i64 t.st,.slice C k c2],.agg #[.int .i64 p.al,.slice B m d,.slice B' m' d'],.int .i64 K] w
   (zbR w (runT s t p L K 0 ((zaB L (zw s p L) [⟨#[]⟩] 11 [⟨#[]⟩]).map fun r=>(r,[⟨#[]⟩])))):=by
 obtain⟨vs,vp,vt⟩:=zdE (show 0≤iface s p t by omega)
 have Hv:=za (And.intro vs (And.intro vp vt))
 have HTask:=za (fun W (hW:Ext w W)=>spec_TaskOf (c:=c) (d:=d) (d':=d') (c2:=c2) (hs.ext hW) (hp.ext hW) (ht.ext hW) hif hn (Nat.le_trans hhi hW.size))
 have HPv2:=za (fun W (hW:Ext w W)=>show Calls Tryz.prog 79 #[.slice (some ⟨W.heap.size,0,none⟩) 2 2,.agg #[.int .i64 p.al,.slice B m d,.slice B' m' d']] (W.alloc (.cells #[.int .i64 s.al,.int .i64 s.st,.slice A n c,.int .i64 t.al,.int .i64 t.st,.slice C k c2] 43)) (fun e w'=>e=.returned (.tuple #[.string (zba [s,t] p),.bool (zeu [s,t] p)])∧Ext W w') by
  have f6:=(Ext.refl W).alloc (.cells #[.int .i64 s.al,.int .i64 s.st,.slice A n c,.int .i64 t.al,.int .i64 t.st,.slice C k c2] 43)
  obtain⟨l1,l2,hsl⟩:=sl_pair (Blk.new W 43 #[.int .i64 s.al,.int .i64 s.st,.slice A n c,.int .i64 t.al,.int .i64 t.st,.slice C k c2]) (hs.ext (hW.trans f6)) (ht.ext (hW.trans f6))
  exact (zbG hsl (hp.ext (hW.trans f6))).mono (fun e w' h=>⟨h.1,f6.trans h.2⟩))
 have HSs:=za (fun W (hW:Ext w W)=>hs.ext hW)
 have HSt:=za (fun W (hW:Ext w W)=>ht.ext hW)
 obtain⟨fin,zgF⟩:∃ fin,Hid (runT s t p L K 0 ((zaB L (zw s p L) [⟨#[]⟩] 11 [⟨#[]⟩]).map fun r=>(r,[⟨#[]⟩]))=fin):=⟨_,rfl⟩
 have htok:=za (zdS.new L (zw s p L))
 rw [zgF.out]
 obtain⟨tab0,htab⟩:∃ tab0,Hid ((zaB L (zw s p L) [⟨#[]⟩] 11 [⟨#[]⟩]).map (fun r=>(r,[(⟨#[]⟩:ByteArray)]))=tab0):=⟨_,rfl⟩
 rw [htab.out] at zgF htok
 clear hs hp ht hif vs vp vt
 have hx0:Ext w (((((w.alloc (.cells #[.int .i64 s.al,.int .i64 s.st,.slice A n c] 43)).alloc (.cells #[.int .i64 t.al,.int .i64 t.st,.slice C k c2] 43)).alloc (.cells #[.int .i64 p.al,.slice B m d,.slice B' m' d'] 26)).alloc (.cells #[.int .i64 0,.int .i64 0,.slice none 0 0,.slice none 0 0,.string ⟨#[]⟩,.int .i64 0] 33)).alloc (.cells #[.int .i64 0,.slice none 0 0,.slice none 0 0] 26)):=(((((Ext.refl _).alloc _).alloc _).alloc _).alloc _).alloc _
 obtain⟨b1,b2,b3⟩:=zN (((Ext.refl _).alloc _).alloc _:Ext (((w.alloc (.cells #[.int .i64 s.al,.int .i64 s.st,.slice A n c] 43)).alloc (.cells #[.int .i64 t.al,.int .i64 t.st,.slice C k c2] 43)).alloc (.cells #[.int .i64 p.al,.slice B m d,.slice B' m' d'] 26)) (((((w.alloc (.cells #[.int .i64 s.al,.int .i64 s.st,.slice A n c] 43)).alloc (.cells #[.int .i64 t.al,.int .i64 t.st,.slice C k c2] 43)).alloc (.cells #[.int .i64 p.al,.slice B m d,.slice B' m' d'] 26)).alloc (.cells #[.int .i64 0,.int .i64 0,.slice none 0 0,.slice none 0 0,.string ⟨#[]⟩,.int .i64 0] 33)).alloc (.cells #[.int .i64 0,.slice none 0 0,.slice none 0 0] 26)))
 obtain⟨b8,b9⟩:=zM (Ext.refl (((((w.alloc (.cells #[.int .i64 s.al,.int .i64 s.st,.slice A n c] 43)).alloc (.cells #[.int .i64 t.al,.int .i64 t.st,.slice C k c2] 43)).alloc (.cells #[.int .i64 p.al,.slice B m d,.slice B' m' d'] 26)).alloc (.cells #[.int .i64 0,.int .i64 0,.slice none 0 0,.slice none 0 0,.string ⟨#[]⟩,.int .i64 0] 33)).alloc (.cells #[.int .i64 0,.slice none 0 0,.slice none 0 0] 26)))
 simp only [World.size_alloc] at b8 b9
 go_enter Tryz.func51,Tryz.ntmps51
 go_upto_region 1 with fail
 generalize ((((w.alloc (.cells #[.int .i64 s.al,.int .i64 s.st,.slice A n c] 43)).alloc (.cells #[.int .i64 t.al,.int .i64 t.st,.slice C k c2] 43)).alloc (.cells #[.int .i64 p.al,.slice B m d,.slice B' m' d'] 26)).alloc (.cells #[.int .i64 0,.int .i64 0,.slice none 0 0,.slice none 0 0,.string ⟨#[]⟩,.int .i64 0] 33)).alloc (.cells #[.int .i64 0,.slice none 0 0,.slice none 0 0] 26)=w0 at *
 have CS:=b1.cells
 have CT:=b2.cells
 have CP:=b3.cells
 have hb9:=b9.lt
 have hZw:w.heap.size≤w.heap.size+1+1+1:=by omega
 generalize w.heap.size+1+1+1=Z at *
 have hww:=Ext.refl w0
 go_upto_region 2 with (first
  |(go_at_call 75;refine (HTask.out _ hx0).mono ?_;rintro e w1 ⟨A,n,c,B,m,d,B',m',d',rfl,htch,hx01⟩))
 have hx12:Ext w1 ((w1.alloc (.cells #[.int .i64 s.al,.int .i64 s.st,.slice A n c,.int .i64 p.al,.slice B m d,.slice B' m' d',.int .i64 L] 107)).alloc (.cells #[.bool false,.int .i64 0,.slice none 0 0,.slice none 0 0,.int .i64 s.al,.int .i64 s.st,.slice A n c,.int .i64 p.al,.slice B m d,.slice B' m' d',.int .i64 L] 111)):=((Ext.refl _).alloc _).alloc _
 obtain⟨bK,bT⟩:=zM (Ext.refl ((w1.alloc (.cells #[.int .i64 s.al,.int .i64 s.st,.slice A n c,.int .i64 p.al,.slice B m d,.slice B' m' d',.int .i64 L] 107)).alloc (.cells #[.bool false,.int .i64 0,.slice none 0 0,.slice none 0 0,.int .i64 s.al,.int .i64 s.st,.slice A n c,.int .i64 p.al,.slice B m d,.slice B' m' d',.int .i64 L] 111)))
 have cK:=(Blk.new w1 107 #[.int .i64 s.al,.int .i64 s.st,.slice A n c,.int .i64 p.al,.slice B m d,.slice B' m' d',.int .i64 L]).cell
 go_upto_region 5 with fail
 obtain⟨G10,hG10⟩:∃ G10,Hid (w1.heap.size=G10):=⟨_,rfl⟩
 generalize (w1.alloc (.cells #[.int .i64 s.al,.int .i64 s.st,.slice A n c,.int .i64 p.al,.slice B m d,.slice B' m' d',.int .i64 L] 107)).alloc (.cells #[.bool false,.int .i64 0,.slice none 0 0,.slice none 0 0,.int .i64 s.al,.int .i64 s.st,.slice A n c,.int .i64 p.al,.slice B m d,.slice B' m' d',.int .i64 L] 111)=w2 at *
 rw [hG10.out] at bK bT ⊢
 clear cK
 have htch2:=htch.ext hx12
 have hx02:=hx01.trans hx12
 have hbT:=bT.lt
 have HNT:=za (fun W (hW:Ext w2 W)=>zgo (c:=c) (d:=d) (d':=d') (htch2.ext hW))
 rw [htab.out] at HNT
 have HTA:=za (fun (R:Option Addr) (nr cr:Nat) (C:Option Addr) (nc cc:Nat) (rows cols:List ByteArray) W (hW:Ext w2 W) hT hI hcr hcc hcl=>zbH (c:=c) (d:=d) (d':=d') (nr:=nr) (nc:=nc) (R:=R) (C:=C) (cr:=cr) (cc:=cc) (rows:=rows) (cols:=cols) (htch2.ext hW) hT hI hcr hcc hcl)
 have HLS:=za (fun (R:Option Addr) (nr cr:Nat) (C:Option Addr) (nc cc:Nat) (rows cols:List ByteArray) (x:ByteArray) W (hW:Ext w2 W) hT hI hcr hcc hcl hx=>zfx (c:=c) (d:=d) (d':=d') (nr:=nr) (nc:=nc) (R:=R) (C:=C) (cr:=cr) (cc:=cc) (rows:=rows) (cols:=cols) (x:=x) (htch2.ext hW) hT hI hcr hcc hcl hx)
 have CTc:=bT.cells
 have CTk:=bK.cells
 have CS2:∀ W,Ext w2 W→∀ q,W.cell? ⟨w.heap.size,q,none⟩=_:=fun W hW=>CS W (hx02.trans hW)
 have CT2:∀ W,Ext w2 W→∀ q,W.cell? ⟨w.heap.size+1,q,none⟩=#[Value.int .i64 t.al,.int .i64 t.st,.slice _ k c2][q]?:=fun W hW=>CT W (hx02.trans hW)
 have CP2:∀ W,Ext w2 W→∀ q,W.cell? ⟨w.heap.size+1+1,q,none⟩=_:=fun W hW=>CP W (hx02.trans hW)
 have hww2:=Ext.refl w2
 clear hww CS CT CP
 go_upto_region 6 with (first
  |(go_at_call 76;refine (HNT.out _ hww2).mono ?_;intro e w3 hret;obtain⟨hx3,nr,nc,R,cr,C,cc,rfl,hcr,hcc,hT3⟩:=hret.fill (w0:=w2) (Nat.le_refl _);clear hret))
 have hx36:Ext w3 (((w3.alloc (.cells #[.slice R nr cr,.slice C nc cc] 113)).alloc (.cells #[.int .i64 2,.int .i64 0,.slice none 0 0,.slice none 0 0,.string ⟨#[]⟩,.int .i64 0] 33)).alloc (.cells #[.int .i64 0,.slice none 0 0,.slice none 0 0] 26)):=(((Ext.refl _).alloc _).alloc _).alloc _
 obtain⟨c13,c15,c16⟩:=zN (Ext.refl (((w3.alloc (.cells #[.slice R nr cr,.slice C nc cc] 113)).alloc (.cells #[.int .i64 2,.int .i64 0,.slice none 0 0,.slice none 0 0,.string ⟨#[]⟩,.int .i64 0] 33)).alloc (.cells #[.int .i64 0,.slice none 0 0,.slice none 0 0] 26)))
 go_wp2_with fail
 obtain⟨G,hG⟩:∃ G,Hid (w3.heap.size=G):=⟨_,rfl⟩
 have hGw:w2.heap.size≤G:=by rw [← hG.out];exact hx3.size
 generalize ((w3.alloc (.cells #[.slice R nr cr,.slice C nc cc] 113)).alloc (.cells #[.int .i64 2,.int .i64 0,.slice none 0 0,.slice none 0 0,.string ⟨#[]⟩,.int .i64 0] 33)).alloc (.cells #[.int .i64 0,.slice none 0 0,.slice none 0 0] 26)=w6 at *
 rw [hG.out] at c13 c15 c16 ⊢
 have hx26:=hx3.trans hx36
 have hTM:TabM w2 w6 G tab0:=⟨nr,nc,R,cr,C,cc,c13,hcr,hcc,fun rs cs e=>⟨zf (hT3 rs cs e).1 hx36,zf (hT3 rs cs e).2 hx36⟩⟩
 clear hT3 c13 hx3 hx36
 go_loopw [14] (fun fv wr=>∃ (o:Option (List ByteArray × List ByteArray)) (j:Nat) (x:Int) (X:Option Addr) (k1 d1:Nat) (X':Option Addr) (k1' d1':Nat),fv=.bool o.isSome∧j≤K∧Hid (zdS L (zw s p L) o)∧Hid (runT s t p L (K - j) j o=fin)∧TabM w2 wr G o∧Blk wr (G+1) 33 #[.int .i64 2,.int .i64 0,.slice none 0 0,.slice none 0 0,.string ⟨#[]⟩,.int .i64 j]∧Blk wr (G+1+1) 26 #[.int .i64 x,.slice X k1 d1,.slice X' k1' d1']∧Ext w2 wr) (fun _ wr=>K - roAt wr (G+1))
 case atStart=>exact⟨tab0,0,0,none,0,0,none,0,0,rfl,Nat.zero_le _,htok,zgF,hTM,c15,c16,hx26⟩
 case round =>
  clear hTM c15 c16 hx26
  obtain⟨o,j,x,X,k1,d1,X',k1',d1',rfl,hj,hok,hrun,hTM,c15,c16,hxr⟩:=hrel
  have k15:=c15.cell
  have k16:=c16.cell
  by_cases hgo:o.isSome=true∧j<K
  ·obtain⟨⟨⟨rs,cs⟩,rfl⟩,hlt⟩:(∃ q,o=some q)∧j<K:=⟨Option.isSome_iff_exists.1 hgo.1,hgo.2⟩
   clear hgo
   obtain⟨hI,hcl⟩:=hok.out rs cs rfl
   have hlt':(j:Int)<(K:Int):=by omega
   have f15:=c15.frozen
   have c15a:Blk (wr.setCell ⟨G+1,5,none⟩ (.int .i64 ((j:Int)+1))) (G+1) 33 #[.int .i64 2,.int .i64 0,.slice none 0 0,.slice none 0 0,.string ⟨#[]⟩,.int .i64 ((j:Int)+1)]:=by
    simpa using c15.set_ 5 (.int .i64 ((j:Int)+1))
   have hfA:Frm (fun b=>b=G+1) wr (wr.setCell ⟨G+1,5,none⟩ (.int .i64 ((j:Int)+1))):=Frm.setCell wr _ 5 _
   have c16a:=c16.frm hfA (by omega)
   have hTMa:=hTM.far c15 hfA (by omega) (by decide)
   have hxa:=hxr.setCell (p:=⟨G+1,5,none⟩) (by dsimp only;omega) (.int .i64 ((j:Int)+1))
   go_upto_region 10 with fail
   have hmes:=za (roAt_blk c15)
   clear k15 k16 f15 hTM c15 c16 hxr hfA
   generalize wr.setCell ⟨G+1,5,none⟩ (.int .i64 ((j:Int)+1))=wA at *
   obtain⟨nr,nc,R,cr,C,cc,c13,hcr,hcc,hTT⟩:=hTMa
   obtain⟨oR,oC⟩:=hTT rs cs rfl
   have HTat:=za (show TabAt wA R nr C nc rs cs from ⟨_,_,_,_,Reads.of_own oR,Reads.of_own oC⟩)
   have k13:=c13.cell
   have cTc:=CTc wA hxa
   have hI':=za hI
   have hcl':=za hcl
   have hva:=za (zcJ hI hcl htch.lt)
   clear hI hcl hTT
   go_upto_region 11 with (first
    |(go_at_call 77;refine (HTA.out _ _ _ _ _ _ rs cs _ hxa HTat.out hI'.out hcr hcc hcl'.out).mono ?_;rintro e wB ⟨Y,q1,e1,Y',q1',e1',rfl,hownA,hxB⟩))
   obtain⟨aut,haut⟩:∃ aut,Hid (zfF L (zw s p L) rs cs=aut):=⟨_,rfl⟩
   rw [haut.out] at hownA hva ⊢
   have hxC:=(Ext.refl wB).alloc (.cells #[.int .i64 aut.al,.slice Y q1 e1,.slice Y' q1' e1'] 26)
   have b17:=Blk.new wB 26 #[.int .i64 aut.al,.slice Y q1 e1,.slice Y' q1' e1']
   have hownC:=hownA.ext hxC
   generalize wB.alloc (.cells #[.int .i64 aut.al,.slice Y q1 e1,.slice Y' q1' e1'] 26)=wC at *
   have hxBC:=hxB.trans hxC
   have c16C:=c16a.ext hxBC
   have c15C:=c15a.ext hxBC
   have c13C:=c13.ext hxBC
   have oRC:=zf oR hxBC
   have oCC:=zf oC hxBC
   have k16:=c16C.cell
   have f16:=c16C.frozen
   have k17:=b17.cell
   have hfD:=zY wC (G+1+1) (.int .i64 aut.al) (.slice Y q1 e1) (.slice Y' q1' e1')
   have c16D:=zai c16C rfl (.int .i64 aut.al) (.slice Y q1 e1) (.slice Y' q1' e1')
   have c15D:=c15C.frm hfD (by omega)
   have c13D:=c13C.frm hfD (by omega)
   have oRD:=zd oRC hfD (fun b hv e=>zm oRC c16C (by decide) hv e)
   have oCD:=zd oCC hfD (fun b hv e=>zm oCC c16C (by decide) hv e)
   have hownD:=hownC.farT c16C hfD (by decide)
   have hxD:=((hxa.trans hxBC).frm hfD (fun k hk e=>by omega))
   have hsB:=za (hxa.trans hxB).size
   have hsA:=za hxa.size
   clear c16C c15C c13C oRC oCC hfD hownC hownA b17 c16a c15a c13 oR oC k13 cTc HTat
   go_upto_region 12 with fail
   generalize ((wC.setCell ⟨G+1+1,0,none⟩ (.int .i64 aut.al)).setCell ⟨G+1+1,1,none⟩ (.slice Y q1 e1)).setCell ⟨G+1+1,2,none⟩ (.slice Y' q1' e1')=wD at *
   clear k16 f16 k17
   have HJ:=za (zgr (c:=c) (d:=d) (d':=d') (c2:=c2) (d1:=e1) (d1':=e1') (htch2.ext hxD) (HSt.out wD (hx0.trans (hx02.trans hxD))) hownD.reads Hv.out.2.2 hva.out)
   have hJs:=za (judgeT_size (L:=L) Hv.out.1 Hv.out.2.1 Hv.out.2.2 hva.out)
   obtain⟨J,hJ⟩:∃ J,Hid (zdd s p t L aut=J):=⟨_,rfl⟩
   rw [hJ.out] at HJ hJs
   have k16:=c16D.cell
   have cTk:=CTk wD hxD
   have cTt:=CT2 wD hxD
   go_upto_region 13 with (first
    |(go_at_call 78;refine HJ.out.mono ?_;rintro e wE ⟨rfl,hxE⟩))
   have hxDE:=hxD.trans hxE
   have c16E:=c16D.ext hxE
   have c15E:=c15D.ext hxE
   have c13E:=c13D.ext hxE
   have oRE:=zf oRD hxE
   have oCE:=zf oCD hxE
   have hownE:=hownD.ext hxE
   clear k16 cTk cTt c16D c15D c13D oRD oCD hownD HJ
   have hrunJ:=za (show (if J.2=0 then (⟨0,aut,⟨#[]⟩,j+1⟩:Vd) else if J.2=1 then ⟨1,noA,zba [s,t] p,j+1⟩ else runT s t p L (K - (j+1)) (j+1) (zdG L (zw s p L) rs cs J.1))=fin by
    rw [← hrun.out,show K - j=(K - (j+1))+1 by omega]
    show _=runT s t p L ((K - (j+1))+1) j (some (rs,cs))
    rw [runT,haut.out,hJ.out])
   by_cases hJ0:J.2=0
   ·have hfn:=za (show fin=⟨0,aut,⟨#[]⟩,j+1⟩ by rw [← hrunJ.out,if_pos hJ0])
    have k15:=c15E.cell
    have f15:=c15E.frozen
    have c15F:Blk (wE.setCell ⟨G+1,0,none⟩ (.int .i64 0)) (G+1) 33 #[.int .i64 0,.int .i64 0,.slice none 0 0,.slice none 0 0,.string ⟨#[]⟩,.int .i64 ((j:Int)+1)]:=by
     simpa using c15E.set_ 0 (.int .i64 0)
    have hfF:Frm (fun b=>b=G+1) wE (wE.setCell ⟨G+1,0,none⟩ (.int .i64 0)):=Frm.setCell wE _ 0 _
    have c16F:=c16E.frm hfF (by omega)
    have hownF:=hownE.farT c15E hfF (by decide)
    have hxF:=hxDE.setCell (p:=⟨G+1,0,none⟩) (by dsimp only;omega) (.int .i64 0)
    clear hrunJ c13E c16E oRE oCE hfF hownE c15E
    go_upto_region 16 with fail
    generalize wE.setCell ⟨G+1,0,none⟩ (.int .i64 0)=wF at *
    clear k15 f15 hJ0
    have HCp:=za (zab (c:=e1) (c':=e1') hownF.reads (zca hva.out))
    have k16:=c16F.cell
    go_upto_region 17 with (first
     |(go_at_call 29;refine HCp.out.mono ?_;rintro e wG ⟨Z1,z1,y1,Z2,z2,y2,rfl,hownG,hxG⟩;have k15:=(c15F.ext hxG).cell;have f15:=(c15F.ext hxG).frozen))
    have c15G:=c15F.ext hxG
    have c16G:=c16F.ext hxG
    have hfH:Frm (fun b=>b=G+1) wG (((wG.setCell ⟨G+1,1,none⟩ (.int .i64 aut.al)).setCell ⟨G+1,2,none⟩ (.slice Z1 z1 y1)).setCell ⟨G+1,3,none⟩ (.slice Z2 z2 y2)):=((Frm.setCell wG _ 1 _).trans (Frm.setCell _ _ 2 _)).trans (Frm.setCell _ _ 3 _)
    have c15H:Blk (((wG.setCell ⟨G+1,1,none⟩ (.int .i64 aut.al)).setCell ⟨G+1,2,none⟩ (.slice Z1 z1 y1)).setCell ⟨G+1,3,none⟩ (.slice Z2 z2 y2)) (G+1) 33 #[.int .i64 0,.int .i64 aut.al,.slice Z1 z1 y1,.slice Z2 z2 y2,.string ⟨#[]⟩,.int .i64 ((j:Int)+1)]:=by
     simpa using ((c15G.set_ 1 (.int .i64 aut.al)).set_ 2 (.slice Z1 z1 y1)).set_ 3 (.slice Z2 z2 y2)
    have c16H:=c16G.frm hfH (by omega)
    have hownH:=(hownG.farT c15G hfH (by decide)).less (show w.heap.size≤wF.heap.size by have:=hxF.size;have:=hx02.size;have:=hx0.size;omega)
    have hxH:=(hxF.trans hxG).frm hfH (fun k hk e=>by omega)
    clear k15 f15 k16 c15F c16F c15G c16G hfH hownF hownG HCp
    generalize ((wG.setCell ⟨G+1,1,none⟩ (.int .i64 aut.al)).setCell ⟨G+1,2,none⟩ (.slice Z1 z1 y1)).setCell ⟨G+1,3,none⟩ (.slice Z2 z2 y2)=wH at *
    have hxw:Ext w wH:=hx0.trans (hx02.trans hxH)
    have hb8:=b8.ext (hx02.trans hxH)
    have hb9':=b9.ext (hx02.trans hxH)
    obtain⟨f1,f2,f3⟩:=zeJ (v:=⟨0,aut,⟨#[]⟩,j+1⟩) (x:=aut.al) (X:=Y) (k1:=q1) (d1:=e1) (X':=Y') (k1':=q1') (d1':=e1') hxw hb8 hb9' rfl rfl (by omega) hownH
    have F1:=za (zbR.cast hfn.out f1.out.drew)
    clear f1
    simp only [Int.natCast_add,Int.cast_ofNat_Int] at F1 f2 f3
    have F2:=za f2
    have F3:=za f3
    clear f2 f3
    have k8:=hb8.cell
    have z8:=hb8.frozen
    have k9:=hb9'.cell
    have z9:=hb9'.frozen
    have hne1:G+1≠Z:=by have:=hx02.size;omega
    have hne2:G+1+1≠Z:=by have:=hx02.size;omega
    have C15:∀ W,Frm (fun b=>b=Z) wH W→∀ q,W.cell? ⟨G+1,q,none⟩=#[Value.int .i64 0,.int .i64 aut.al,.slice Z1 z1 y1,.slice Z2 z2 y2,.string ⟨#[]⟩,.int .i64 ((j:Int)+1)][q]?:=fun W hW=>(c15H.frm hW hne1).cell
    have C16:∀ W,Frm (fun b=>b=Z) wH W→∀ q,W.cell? ⟨G+1+1,q,none⟩=#[Value.int .i64 aut.al,.slice Y q1 e1,.slice Y' q1' e1'][q]?:=fun W hW=>(c16H.frm hW hne2).cell
    have hS0:Frm (fun b=>b=Z) wH wH.drew:=⟨rfl,rfl,rfl,Nat.le_refl _,fun _ _ _=>rfl⟩
    have hf8:=za (zgl wH Z (.int .i64 0) (.int .i64 aut.al) (.slice Z1 z1 y1) (.slice Z2 z2 y2) (.string ⟨#[]⟩) (.int .i64 ((j:Int)+1)))
    clear c15H c16H hownH hb8 hb9' hxw hne1 hne2
    go_wp2_with fail
    refine zaG (fun Y=>Frm (fun b=>b=Z) wH Y) [3] (zG.of [0,1,2,3]) (by kernel_rfl) (by kernel_rfl) (by kernel_rfl) (by kernel_rfl) (by kernel_rfl) (fun _ _ _ _ _ h=>h) hS0 ?_
    refine zbh (v:=?_) rfl rfl rfl rfl (fun X hX=>?_) ?_
    rotate_left
    focus (go_simp<;>with_reducible rfl)
    refine pT ?_
    refine zbh (v:=?_) rfl rfl rfl rfl (fun X hX=>?_) ?_
    rotate_left
    focus (go_simp<;>with_reducible rfl)
    refine pT ?_
    refine zb fun K hK=>?_;go_simp
    refine hK.out _ _ hf8.out.drew ?_
    refine pT ?_
    refine zg fun K hK=>?_
    go_simp
    refine hK.out _ _ ?_
    refine zh ?_
    go_wp2_with fail
    have cf2:=F2.out.cell
    have cf3:=F3.out.cell
    exact bodyPost_ret (v:=.tuple #[.agg #[.int .i64 0,.int .i64 aut.al,.slice Z1 z1 y1,.slice Z2 z2 y2,.string ⟨#[]⟩,.int .i64 ((j:Int)+1)],.agg #[.int .i64 aut.al,.slice Y q1 e1,.slice Y' q1' e1']]) (by simp [results,Tryz.results51,go_sem,cf2,cf3]) rfl F1.out
   ·by_cases hJ1:J.2=1
    ·have hfn:=za (show fin=⟨1,noA,zba [s,t] p,j+1⟩ by rw [← hrunJ.out,if_neg hJ0,if_pos hJ1])
     have HP:=za (HPv2.out wE (hx0.trans (hx02.trans hxDE)))
     have cS:=CS2 wE hxDE
     have cT:=CT2 wE hxDE
     have cP:∀ (v:Array Value) (q:Nat),(wE.alloc (.cells v 43)).cell? ⟨w.heap.size+1+1,q,none⟩=_:=fun v q=>CP2 _ (hxDE.trans ((Ext.refl wE).alloc _)) q
     clear hJ0 hrunJ c13E oRE oCE hownE
     go_upto_region 20 with (first
      |(go_at_call 79;refine HP.out.mono ?_;rintro e wF ⟨rfl,hxF⟩;clear cS cT cP))
     have c15F:=c15E.ext hxF
     have c16F:=c16E.ext hxF
     have hxDF:=hxDE.trans hxF
     have k15:=c15F.cell
     have f15:=c15F.frozen
     clear HP c15E c16E
     go_upto_region 22 with fail
     have hfH:Frm (fun b=>b=G+1) wF ((wF.setCell ⟨G+1,0,none⟩ (.int .i64 1)).setCell ⟨G+1,4,none⟩ (.string (zba [s,t] p))):=(Frm.setCell wF _ 0 _).trans (Frm.setCell _ _ 4 _)
     have c15H:Blk ((wF.setCell ⟨G+1,0,none⟩ (.int .i64 1)).setCell ⟨G+1,4,none⟩ (.string (zba [s,t] p))) (G+1) 33 #[.int .i64 1,.int .i64 0,.slice none 0 0,.slice none 0 0,.string (zba [s,t] p),.int .i64 ((j:Int)+1)]:=by
      simpa using (c15F.set_ 0 (.int .i64 1)).set_ 4 (.string (zba [s,t] p))
     have c16H:=c16F.frm hfH (by omega)
     have hxH:=hxDF.frm hfH (fun k hk e=>by omega)
     clear k15 f15 c15F c16F hfH hJ1
     generalize (wF.setCell ⟨G+1,0,none⟩ (.int .i64 1)).setCell ⟨G+1,4,none⟩ (.string (zba [s,t] p))=wH at *
     have hxw:Ext w wH:=hx0.trans (hx02.trans hxH)
     have hb8:=b8.ext (hx02.trans hxH)
     have hb9':=b9.ext (hx02.trans hxH)
     obtain⟨f1,f2,f3⟩:=zeJ (v:=⟨1,noA,zba [s,t] p,j+1⟩) (A:=none) (n:=0) (c:=0) (A':=none) (n':=0) (c':=0) (x:=aut.al) (X:=Y) (k1:=q1) (d1:=e1) (X':=Y') (k1':=q1') (d1':=e1') hxw hb8 hb9' rfl rfl (by omega) (⟨⟨[],World.ownsRow_nil _ _ _ _,zB.nil _ _⟩,rfl,World.ownsRow_nil _ _ _ _,rfl⟩:zO wH w.heap.size none 0 0 none 0 0 noA)
     have F1:=za (zbR.cast hfn.out f1.out.drew)
     clear f1
     simp only [noA,Int.natCast_add,Int.cast_ofNat_Int] at F1 f2 f3
     have F2:=za f2
     have F3:=za f3
     clear f2 f3
     have k8:=hb8.cell
     have z8:=hb8.frozen
     have k9:=hb9'.cell
     have z9:=hb9'.frozen
     have hne1:G+1≠Z:=by have:=hx02.size;omega
     have hne2:G+1+1≠Z:=by have:=hx02.size;omega
     have C15:∀ W,Frm (fun b=>b=Z) wH W→∀ q,W.cell? ⟨G+1,q,none⟩=#[Value.int .i64 1,.int .i64 0,.slice none 0 0,.slice none 0 0,.string (zba [s,t] p),.int .i64 ((j:Int)+1)][q]?:=fun W hW=>(c15H.frm hW hne1).cell
     have C16:∀ W,Frm (fun b=>b=Z) wH W→∀ q,W.cell? ⟨G+1+1,q,none⟩=#[Value.int .i64 aut.al,.slice Y q1 e1,.slice Y' q1' e1'][q]?:=fun W hW=>(c16H.frm hW hne2).cell
     have hS0:Frm (fun b=>b=Z) wH wH.drew:=⟨rfl,rfl,rfl,Nat.le_refl _,fun _ _ _=>rfl⟩
     have hf8:=za (zgl wH Z (.int .i64 1) (.int .i64 0) (.slice none 0 0) (.slice none 0 0) (.string (zba [s,t] p)) (.int .i64 ((j:Int)+1)))
     clear c15H c16H hb8 hb9' hxw hne1 hne2
     go_wp2_with fail
     refine zaG (fun Y=>Frm (fun b=>b=Z) wH Y) [3] (zG.of [0,1,2,3]) (by kernel_rfl) (by kernel_rfl) (by kernel_rfl) (by kernel_rfl) (by kernel_rfl) (fun _ _ _ _ _ h=>h) hS0 ?_
     refine zbh (v:=?_) rfl rfl rfl rfl (fun X hX=>?_) ?_
     rotate_left
     focus (go_simp<;>with_reducible rfl)
     refine pT ?_
     refine zbh (v:=?_) rfl rfl rfl rfl (fun X hX=>?_) ?_
     rotate_left
     focus (go_simp<;>with_reducible rfl)
     refine pT ?_
     refine zb fun K hK=>?_;go_simp
     refine hK.out _ _ hf8.out.drew ?_
     refine pT ?_
     refine zg fun K hK=>?_
     go_simp
     refine hK.out _ _ ?_
     refine zh ?_
     go_wp2_with fail
     have cf2:=F2.out.cell
     have cf3:=F3.out.cell
     exact bodyPost_ret (v:=.tuple #[.agg #[.int .i64 1,.int .i64 0,.slice none 0 0,.slice none 0 0,.string (zba [s,t] p),.int .i64 ((j:Int)+1)],.agg #[.int .i64 aut.al,.slice Y q1 e1,.slice Y' q1' e1']]) (by simp [results,Tryz.results51,go_sem,cf2,cf3]) rfl F1.out
    ·have e0:(J.2==0)=false:=by simpa using hJ0
     have e2:(J.2==1)=false:=by simpa using hJ1
     have hrunL:=za (show runT s t p L (K - (j+1)) (j+1) (zdG L (zw s p L) rs cs J.1)=fin by
      have:=hrunJ.out
      rw [if_neg hJ0,if_neg hJ1] at this
      exact this)
     clear hJ0 hJ1 hrunJ
     have cTc:=CTc wE hxDE
     have k13:=c13E.cell
     have HTatE:=za (show TabAt wE R nr C nc rs cs from ⟨_,_,_,_,Reads.of_own oRE,Reads.of_own oCE⟩)
     go_upto_region 24 with (first
      |(go_at_call 80;refine (HLS.out _ _ _ _ _ _ rs cs J.1 _ hxDE HTatE.out hI'.out hcr hcc hcl'.out (by have:=hJs.out;omega)).mono ?_;intro e wF hret;obtain⟨hxF,nr2,nc2,R2,cr2,C2,cc2,rfl,hcr2,hcc2,hT2⟩:=hret.fill (w0:=w2) hxDE.size;clear hret))
     have hokL:=za (zdS.learn hI'.out J.1)
     generalize zdG L (zw s p L) rs cs J.1=oL at *
     have hxG:=(Ext.refl wF).alloc (.cells #[.slice R2 nr2 cr2,.slice C2 nc2 cc2] 113)
     have b23:=Blk.new wF 113 #[.slice R2 nr2 cr2,.slice C2 nc2 cc2]
     generalize wF.alloc (.cells #[.slice R2 nr2 cr2,.slice C2 nc2 cc2] 113)=wG at *
     have hxEG:=hxF.trans hxG
     have c13G:=c13E.ext hxEG
     have c15G:=c15E.ext hxEG
     have c16G:=c16E.ext hxEG
     have hxDG:=hxDE.trans hxEG
     have k23:=b23.cell
     have k13G:=c13G.cell
     have f13G:=c13G.frozen
     have hfH:Frm (fun b=>b=G) wG ((wG.setCell ⟨G,0,none⟩ (.slice R2 nr2 cr2)).setCell ⟨G,1,none⟩ (.slice C2 nc2 cc2)):=(Frm.setCell wG _ 0 _).trans (Frm.setCell _ _ 1 _)
     have hTMH:TabM w2 ((wG.setCell ⟨G,0,none⟩ (.slice R2 nr2 cr2)).setCell ⟨G,1,none⟩ (.slice C2 nc2 cc2)) G oL:=
      ⟨nr2,nc2,R2,cr2,C2,cc2,by simpa using (c13G.set_ 0 (.slice R2 nr2 cr2)).set_ 1 (.slice C2 nc2 cc2),hcr2,hcc2,fun rs' cs' e=>by
       have h1:=zf (hT2 rs' cs' e).1 hxG
       have h2:=zf (hT2 rs' cs' e).2 hxG
       exact⟨zd h1 hfH (fun b hv e'=>zm h1 c13G (by decide) hv e'),zd h2 hfH (fun b hv e'=>zm h2 c13G (by decide) hv e')⟩⟩
     have c15H:=c15G.frm hfH (by omega)
     have c16H:=c16G.frm hfH (by omega)
     have hxH:=hxDG.frm hfH (fun k hk e=>by omega)
     clear cTc k13 c13E c15E c16E oRE oCE hownE c13G c15G c16G hfH b23 hT2
     go_upto_region 25 with fail
     generalize (wG.setCell ⟨G,0,none⟩ (.slice R2 nr2 cr2)).setCell ⟨G,1,none⟩ (.slice C2 nc2 cc2)=wH at *
     clear k23 k13G f13G
     have hjj:((j:Int)+1)=((j+1:Nat):Int):=by omega
     rw [hjj] at c15H
     have hmes2:=za (roAt_blk c15H)
     clear hjj
     go_wp2_with fail
     go_roundw
     case rel=>exact⟨oL,j+1,aut.al,Y,q1,e1,Y',q1',e1',rfl,by omega,hokL,hrunL,hTMH,c15H,c16H,hxH⟩
     case measure=>have h1:=hmes.out;have h2:=hmes2.out;omega
  ·have hfn:=za (show fin=⟨2,noA,⟨#[]⟩,j⟩ by
    rw [← hrun.out]
    exact runT_end hgo)
   have hb8:=(b8.ext (hx02.trans hxr))
   have hb9':=(b9.ext (hx02.trans hxr))
   have hon:zO wr w.heap.size none 0 0 none 0 0 noA:=⟨⟨[],World.ownsRow_nil _ _ _ _,zB.nil _ _⟩,rfl,World.ownsRow_nil _ _ _ _,rfl⟩
   have hflag:(o.isSome&&decide ((j:Int)<(K:Int)))=false:=by
    rw [Bool.eq_false_iff]
    intro h
    simp only [Bool.and_eq_true,decide_eq_true_eq] at h
    exact hgo ⟨h.1,by omega⟩
   have hxw:Ext w wr:=hx0.trans (hx02.trans hxr)
   have hd:Ext wr wr.drew:=(Ext.refl wr).drew
   obtain⟨f1,f2,f3⟩:=zeJ (v:=⟨2,noA,⟨#[]⟩,j⟩) (x:=x) (X:=X) (k1:=k1) (d1:=d1) (X':=X') (k1':=k1') (d1':=d1') hxw hb8 hb9' rfl rfl (by omega) hon
   have F1:=za (zbR.cast hfn.out f1.out.drew)
   clear f1
   simp only [noA] at F1 f2 f3
   have F2:=za f2
   have F3:=za f3
   clear f2 f3
   have k8:=hb8.cell
   have z8:=hb8.frozen
   have k9:=hb9'.cell
   have z9:=hb9'.frozen
   have hsw:=hx0.size
   have hne1:G+1≠Z:=by have:=hx02.size;omega
   have hne2:G+1+1≠Z:=by have:=hx02.size;omega
   have C15:∀ W,Frm (fun b=>b=Z) wr W→∀ q,W.cell? ⟨G+1,q,none⟩=#[Value.int .i64 2,.int .i64 0,.slice none 0 0,.slice none 0 0,.string ⟨#[]⟩,.int .i64 j][q]?:=fun W hW=>(c15.frm hW hne1).cell
   have C16:∀ W,Frm (fun b=>b=Z) wr W→∀ q,W.cell? ⟨G+1+1,q,none⟩=#[Value.int .i64 x,.slice X k1 d1,.slice X' k1' d1'][q]?:=fun W hW=>(c16.frm hW hne2).cell
   have hS0:Frm (fun b=>b=Z) wr wr.drew:=⟨rfl,rfl,rfl,Nat.le_refl _,fun _ _ _=>rfl⟩
   have hf8:=za (zgl wr (Z) (.int .i64 2) (.int .i64 0) (.slice none 0 0) (.slice none 0 0) (.string ⟨#[]⟩) (.int .i64 j))
   cases ho:o.isSome
   ·have Ho:=za ho
    rw [ho] at hflag
    exact yJ09a1
   ·have hnlt:¬ ((j:Int)<(K:Int)):=fun h=>hgo ⟨ho,by omega⟩
    have Ho:=za ho
    exact yJ09a1
end
def RetVd (w:World) (v:Vd) (e:Ending) (w':World):Prop:=
 ∃ (A:Option Addr) (n c:Nat) (A':Option Addr) (n' c':Nat),
  e=.returned (.agg #[.int .i64 v.code,.int .i64 v.asm.al,.slice A n c,.slice A' n' c',.string v.tr,.int .i64 v.ro])∧zO w' w.heap.size A n c A' n' c' v.asm∧Ext w w'
section
variable {w:World} {lo hi n c lo1 hi1 m d m' d' lo2 hi2 k c2:Nat} {A B B' C:Option Addr} {s t:Sys} {p:Aut}
theorem zbP {v:Vd} (HR:Hid (∀ W,Ext w W→Calls Tryz.prog 51 #[.agg #[.int .i64 s.al,.int .i64 s.st,.slice A n c],.agg #[.int .i64 t.al,.int .i64 t.st,.slice C k c2],.agg #[.int .i64 p.al,.slice B m d,.slice B' m' d'],.int .i64 12] W (zbR W v))) :
  Calls Tryz.prog 23 #[.agg #[.int .i64 s.al,.int .i64 s.st,.slice A n c],.agg #[.int .i64 t.al,.int .i64 t.st,.slice C k c2],.agg #[.int .i64 p.al,.slice B m d,.slice B' m' d']] w
   (RetVd w v):=by
 have hx0:Ext w ((((w.alloc (.cells #[.int .i64 s.al,.int .i64 s.st,.slice A n c] 43)).alloc (.cells #[.int .i64 t.al,.int .i64 t.st,.slice C k c2] 43)).alloc (.cells #[.int .i64 p.al,.slice B m d,.slice B' m' d'] 26)).alloc (.cells #[.int .i64 0,.int .i64 0,.slice none 0 0,.slice none 0 0,.string ⟨#[]⟩,.int .i64 0] 33)):=((((Ext.refl _).alloc _).alloc _).alloc _).alloc _
 obtain⟨b1,b2,b3⟩:=zN ((Ext.refl _).alloc _:Ext (((w.alloc (.cells #[.int .i64 s.al,.int .i64 s.st,.slice A n c] 43)).alloc (.cells #[.int .i64 t.al,.int .i64 t.st,.slice C k c2] 43)).alloc (.cells #[.int .i64 p.al,.slice B m d,.slice B' m' d'] 26)) ((((w.alloc (.cells #[.int .i64 s.al,.int .i64 s.st,.slice A n c] 43)).alloc (.cells #[.int .i64 t.al,.int .i64 t.st,.slice C k c2] 43)).alloc (.cells #[.int .i64 p.al,.slice B m d,.slice B' m' d'] 26)).alloc (.cells #[.int .i64 0,.int .i64 0,.slice none 0 0,.slice none 0 0,.string ⟨#[]⟩,.int .i64 0] 33)))
 have b6:=Blk.new (((w.alloc (.cells #[.int .i64 s.al,.int .i64 s.st,.slice A n c] 43)).alloc (.cells #[.int .i64 t.al,.int .i64 t.st,.slice C k c2] 43)).alloc (.cells #[.int .i64 p.al,.slice B m d,.slice B' m' d'] 26)) 33 #[.int .i64 0,.int .i64 0,.slice none 0 0,.slice none 0 0,.string ⟨#[]⟩,.int .i64 0]
 simp only [World.size_alloc] at b6
 go_enter Tryz.func23,Tryz.ntmps23
 go_upto_region 1 with fail
 generalize (((w.alloc (.cells #[.int .i64 s.al,.int .i64 s.st,.slice A n c] 43)).alloc (.cells #[.int .i64 t.al,.int .i64 t.st,.slice C k c2] 43)).alloc (.cells #[.int .i64 p.al,.slice B m d,.slice B' m' d'] 26)).alloc (.cells #[.int .i64 0,.int .i64 0,.slice none 0 0,.slice none 0 0,.string ⟨#[]⟩,.int .i64 0] 33)=w0 at *
 have c1:=b1.cell
 have cc2:=b2.cell
 have c3:=b3.cell
 go_upto_region 2 with (first
  |(go_at_call 51;refine (HR.out w0 hx0).mono ?_;rintro e w1 ⟨A1,n1,k1,A2,n2,k2,x,X,q1,d1,X',q1',d1',rfl,ho,hx1⟩;clear c1 cc2 c3))
 have hx2:=((Ext.refl w1).alloc (.cells #[.int .i64 v.code,.int .i64 v.asm.al,.slice A1 n1 k1,.slice A2 n2 k2,.string v.tr,.int .i64 v.ro] 33)).alloc (.cells #[.int .i64 x,.slice X q1 d1,.slice X' q1' d1'] 26)
 have b7:=(Blk.new w1 33 #[.int .i64 v.code,.int .i64 v.asm.al,.slice A1 n1 k1,.slice A2 n2 k2,.string v.tr,.int .i64 v.ro]).ext ((Ext.refl _).alloc (.cells #[.int .i64 x,.slice X q1 d1,.slice X' q1' d1'] 26))
 generalize (w1.alloc (.cells #[.int .i64 v.code,.int .i64 v.asm.al,.slice A1 n1 k1,.slice A2 n2 k2,.string v.tr,.int .i64 v.ro] 33)).alloc (.cells #[.int .i64 x,.slice X q1 d1,.slice X' q1' d1'] 26)=w2 at *
 have b62:=b6.ext (hx1.trans hx2)
 have k7:=b7.cell
 have k6:=b62.cell
 have f6:=b62.frozen
 have ho2:=ho.ext hx2
 have hf:=zgl w2 (w.heap.size+1+1+1) (.int .i64 v.code) (.int .i64 v.asm.al) (.slice A1 n1 k1) (.slice A2 n2 k2) (.string v.tr) (.int .i64 v.ro)
 have b63:Blk ((((((w2.setCell ⟨w.heap.size+1+1+1,0,none⟩ (.int .i64 v.code)).setCell ⟨w.heap.size+1+1+1,1,none⟩ (.int .i64 v.asm.al)).setCell ⟨w.heap.size+1+1+1,2,none⟩ (.slice A1 n1 k1)).setCell ⟨w.heap.size+1+1+1,3,none⟩ (.slice A2 n2 k2)).setCell ⟨w.heap.size+1+1+1,4,none⟩ (.string v.tr)).setCell ⟨w.heap.size+1+1+1,5,none⟩ (.int .i64 v.ro)) (w.heap.size+1+1+1) 33 #[.int .i64 v.code,.int .i64 v.asm.al,.slice A1 n1 k1,.slice A2 n2 k2,.string v.tr,.int .i64 v.ro]:=by
  simpa using (((((b62.set_ 0 (.int .i64 v.code)).set_ 1 (.int .i64 v.asm.al)).set_ 2 (.slice A1 n1 k1)).set_ 3 (.slice A2 n2 k2)).set_ 4 (.string v.tr)).set_ 5 (.int .i64 v.ro)
 have ho3:=(ho2.farT b62 hf (by decide)).less hx0.size
 have hx3:=(hx0.trans (hx1.trans hx2)).frm hf (fun k hk e=>by omega)
 have hret:=za (show RetVd w v (.returned (.agg #[.int .i64 v.code,.int .i64 v.asm.al,.slice A1 n1 k1,.slice A2 n2 k2,.string v.tr,.int .i64 v.ro])) _ from ⟨A1,n1,k1,A2,n2,k2,rfl,ho3,hx3⟩)
 have cf:=za b63
 clear b62 ho2 ho ho3 hx3 hf b63
 go_wp2_with fail
 have cf:=cf.out.cell
 exact bodyPost_ret (v:=.agg #[.int .i64 v.code,.int .i64 v.asm.al,.slice A1 n1 k1,.slice A2 n2 k2,.string v.tr,.int .i64 v.ro]) (by simp [results,Tryz.results23,go_sem,cf]) rfl hret.out
theorem zfc {L:Nat}(hs:zaj w lo hi A n s)(hp:zI w lo1 hi1 B m B' m' p)(ht:zaj w lo2 hi2 C k t)(hif:iface s p t=(L:Int))(hn:n≤1000000)(hhi:hi≤w.heap.size) :
  Calls Tryz.prog 23 #[.agg #[.int .i64 s.al,.int .i64 s.st,.slice A n c],.agg #[.int .i64 t.al,.int .i64 t.st,.slice C k c2],.agg #[.int .i64 p.al,.slice B m d,.slice B' m' d']] w
   (RetVd w (runT s t p L 12 0 ((zaB L (zw s p L) [⟨#[]⟩] 11 [⟨#[]⟩]).map fun r=>(r,[⟨#[]⟩])))):=
 zbP (za (fun W (hW:Ext w W)=>spec_l12Run (K:=12) (hs.ext hW) (hp.ext hW) (ht.ext hW) hif hn (Nat.le_trans hhi hW.size) (by omega)))
end
theorem runT_size {s t:Sys} {p:Aut} {L:Nat}(hL:L<64)(hst:zX [s,t]=true)(hp:zk p=true) (f:Nat):∀ (k:Nat) (o:Option (List ByteArray × List ByteArray)),zdS L (zw s p L) o→(runT s t p L f k o).asm.size≤1048576∧(runT s t p L f k o).tr.size≤4000:=by
 induction f with
 |zero=>exact fun k o _=>⟨by show noA.size≤_;decide,Nat.zero_le _⟩
 |succ f ih =>
  intro k o ho
  match o with
  |none=>exact⟨by show noA.size≤_;decide,Nat.zero_le _⟩
  |some (rs,cs) =>
   obtain⟨hI,hcl⟩:=ho rs cs rfl
   rw [runT]
   split
   ·exact⟨zca (zcJ hI hcl hL),Nat.zero_le _⟩
   ·split
    ·refine⟨by show noA.size≤_;decide,?_⟩
     have h:=(zdV hst hp).2
     have h2:16 ^ [s,t].length*12=3072:=by simp
     show (zba [s,t] p).size≤4000
     omega
    ·exact ih _ _ (zdS.learn hI _)
end Go.Proofs.YtfcjhpodichpjaaGreat
