/- The referenc -/
import Derived.Test.YtmjaepibdpfblaaGreatDoorK13
import Derived.Test.YtmjaepibdpfblaaGreatDoorK10
import Derived.Test.YtmjaepibdpfblaaGreatDoorK11
import Derived.Test.YtmjaepibdpfblaaGreatDoorK06
import Derived.Test.YtmjaepibdpfblaaGreatDoorK03
import Derived.Test.YtmjaepibdpfblaaGreatDoorK02
import Derived.Test.YtmjaepibdpfblaaGreatDoorK01
namespace Go.Proofs.YtmjaepibdpfblaaGreatDoor
open Go Go.RowKit
set_option maxHeartbeats 4000000
set_option maxRecDepth 100000
theorem zgd {w:World} {base:Nat} {e:TypeId} {size n c:Nat} {A:Option Addr} {xs:List Value}(h:w.ownsRow base e size (.slice A n c) n xs):n≤c:=by
 rcases h.2 with ⟨h1,h2⟩|⟨g,cap,cur,h1,_,_,h4,_⟩
 ·omega
 ·injection h1 with _ _ h3;omega
theorem splitT_size {L:Nat} {f:ByteArray→Bool} {rows cols:List ByteArray} {x y:ByteArray}(h:zet L f rows cols x=some y):y.size≤4000:=by
 unfold zet at h
 split at h
 ·rename_i hc
  have h1:=hc.1
  simp only [Bool.and_eq_true,decide_eq_true_eq] at h1
  obtain⟨k,-,rfl⟩:=Option.map_eq_some_iff.1 h
  rw [ByteArray.size_extract]
  omega
 ·cases h
theorem zih {w W:World} {Z:Nat} {u v:Value}(hx:Ext w W)(hb:Blk W Z 102 #[u,v])(hZ:w.heap.size≤Z) :
  Hid (zcj w none (.returned (.tuple #[.agg #[.slice none 0 0,.slice none 0 0],.bool false])) ((W.setCell ⟨Z,0,none⟩ (.slice none 0 0)).setCell ⟨Z,1,none⟩ (.slice none 0 0))) ∧
  Blk ((W.setCell ⟨Z,0,none⟩ (.slice none 0 0)).setCell ⟨Z,1,none⟩ (.slice none 0 0)) Z 102 #[.slice none 0 0,.slice none 0 0]:=
 ⟨za ⟨(hx.setCell (p:=⟨Z,0,none⟩) hZ _).setCell (p:=⟨Z,1,none⟩) hZ _,.inl ⟨rfl,rfl⟩⟩,by simpa using (hb.set_ 0 (.slice none 0 0)).set_ 1 (.slice none 0 0)⟩
theorem tab_some {w w1 W:World} {Z nr nc cr cc:Nat} {R C:Option Addr} {rs cs:List ByteArray} {o:Option (List ByteArray × List ByteArray)} {u v:Value}(hx:Ext w W)(hb:Blk W Z 102 #[u,v])(hZ:w.heap.size≤Z)(ho:o=some (rs,cs))(hw:w.heap.size≤w1.heap.size)
  (hR:W.ownsRow w1.heap.size 9 1 (.slice R nr cr) nr (zW rs)) (hC:W.ownsRow w1.heap.size 9 1 (.slice C nc cc) nc (zW cs)) :
  Hid (zcj w o (.returned (.tuple #[.agg #[.slice R nr cr,.slice C nc cc],.bool true])) ((W.setCell ⟨Z,0,none⟩ (.slice R nr cr)).setCell ⟨Z,1,none⟩ (.slice C nc cc))) ∧
  Blk ((W.setCell ⟨Z,0,none⟩ (.slice R nr cr)).setCell ⟨Z,1,none⟩ (.slice C nc cc)) Z 102 #[.slice R nr cr,.slice C nc cc]:=by
 have hf:Frm (fun k=>k=Z) W ((W.setCell ⟨Z,0,none⟩ (.slice R nr cr)).setCell ⟨Z,1,none⟩ (.slice C nc cc)):=(Frm.setCell W _ 0 _).trans (Frm.setCell _ _ 1 _)
 exact⟨za ⟨(hx.setCell (p:=⟨Z,0,none⟩) hZ _).setCell (p:=⟨Z,1,none⟩) hZ _,.inr ⟨rs,cs,nr,nc,R,cr,C,cc,ho,rfl,zn (zf hR hf (fun b hv e=>zq hR hb (by decide) hv e)) hw,zn (zf hC hf (fun b hv e=>zq hC hb (by decide) hv e)) hw⟩⟩,by simpa using (hb.set_ 0 (.slice R nr cr)).set_ 1 (.slice C nc cc)⟩
section
variable {w W:World} {n c m d m' d' L:Nat} {A B B':Option Addr} {s:Sys} {p:Aut} {nr nc cr cc:Nat} {R C:Option Addr} {rows cols:List ByteArray}
theorem yK14a5 {P:Prop}(h:P:=by
 go_wp2_with fail
 exact bodyPost_ret (v:=.tuple #[.agg #[.slice none 0 0,.slice none 0 0],.bool false]) (by simp [results,Tryz.results79,go_sem,cf]) rfl hret.out
 ):P:=h
theorem zgV {x:ByteArray}(h:Tch w A n B m B' m' s p L)(hT:TabAt w R nr C nc rows cols)(hI:zdz L (zy s p L) rows cols)(hcr:nr≤cr)(hcc:nc≤cc)(hcl:zbK L (zy s p L) rows cols=none)(hx:x.size≤9223372036854775807) :
  Calls Tryz.prog 79 #[.agg #[.bool false,.int .i64 0,.slice none 0 0,.slice none 0 0,.int .i64 s.al,.int .i64 s.st,.slice A n c,.int .i64 p.al,.slice B m d,.slice B' m' d',.int .i64 L],.agg #[.slice R nr cr,.slice C nc cc],.string x] w (zcj w (zfa L (zy s p L) rows cols x)):=by
 have HSp:=za (fun W (hW:Ext w W)=>zgX (c:=c) (d:=d) (d':=d') (cr:=cr) (cc:=cc) (x:=x) (h.ext hW) (hT.ext hW) hI hcr hcc hcl hx)
 have HAd:=za (fun (y:ByteArray) W (hW:Ext w W) hy=>zgS (c:=c) (d:=d) (d':=d') (cr:=cr) (cc:=cc) (x:=y) (h.ext hW) (hT.ext hW) hI hcr hcc hy)
 have HCl:=za (fun (R:Option Addr) (nr cr:Nat) (C:Option Addr) (nc cc:Nat) (rows cols:List ByteArray) W (hW:Ext w W) hT hI (hcr:nr≤cr) (hcc:nc≤cc)=>zdO (c:=c) (d:=d) (d':=d') (nr:=nr) (nc:=nc) (R:=R) (C:=C) (cr:=cr) (cc:=cc) (rows:=rows) (cols:=cols) (h.ext hW) hT hI hcr hcc)
 have HI:=za (fun col (ha:zgO L cols col=true)=>hI.addC ha)
 have Hle:=za (show zfa L (zy s p L) rows cols x=match zet L (zy s p L) rows cols x with
  |none=>none
  |some col=>if zgO L cols col=true then (zaW L (zy s p L) (cols++[col]) (12 - rows.length) rows).map fun r=>(r,cols++[col]) else none from rfl)
 have Hsz:=za (fun y (hy:zet L (zy s p L) rows cols x=some y)=>splitT_size hy)
 generalize zfa L (zy s p L) rows cols x=fin at *
 have hx0:Ext w (((w.alloc (.cells #[.bool false,.int .i64 0,.slice none 0 0,.slice none 0 0,.int .i64 s.al,.int .i64 s.st,.slice A n c,.int .i64 p.al,.slice B m d,.slice B' m' d',.int .i64 L] 99)).alloc (.cells #[.slice R nr cr,.slice C nc cc] 102)).alloc (.cells #[.slice none 0 0,.slice none 0 0] 102)):=(((Ext.refl _).alloc _).alloc _).alloc _
 obtain⟨b1,b2,b3⟩:=zO (Ext.refl (((w.alloc (.cells #[.bool false,.int .i64 0,.slice none 0 0,.slice none 0 0,.int .i64 s.al,.int .i64 s.st,.slice A n c,.int .i64 p.al,.slice B m d,.slice B' m' d',.int .i64 L] 99)).alloc (.cells #[.slice R nr cr,.slice C nc cc] 102)).alloc (.cells #[.slice none 0 0,.slice none 0 0] 102)))
 clear h hT hI hcl
 cases hop:zet L (zy s p L) rows cols x with
 |none =>
  rw [hop] at HSp Hle
  have hfn:=za (show fin=none from Hle.out)
  rw [hfn.out]
  clear Hle hfn hop
  go_enter Tryz.func79,Tryz.ntmps79
  go_upto_region 1 with fail
  generalize ((w.alloc (.cells #[.bool false,.int .i64 0,.slice none 0 0,.slice none 0 0,.int .i64 s.al,.int .i64 s.st,.slice A n c,.int .i64 p.al,.slice B m d,.slice B' m' d',.int .i64 L] 99)).alloc (.cells #[.slice R nr cr,.slice C nc cc] 102)).alloc (.cells #[.slice none 0 0,.slice none 0 0] 102)=w0 at *
  have CB:=b1.cells
  have CT:=b2.cells
  have hww:=Ext.refl w0
  go_upto_region 2 with (first
   |(go_at_call 152;refine (HSp.out _ hx0).mono ?_;rintro e w1 ⟨rfl,hx1⟩))
  have bz:=b3.ext hx1
  have kz:=bz.cell
  have fz:=bz.frozen
  obtain⟨hret,hb⟩:=zih (hx0.trans hx1) bz (by omega)
  have cf:=hb.cell
  go_wp2_with fail
  exact bodyPost_ret (v:=.tuple #[.agg #[.slice none 0 0,.slice none 0 0],.bool false]) (by simp [results,Tryz.results79,go_sem,cf]) rfl hret.out
 |some col =>
  have hsz:=Hsz.out col hop
  rw [hop] at HSp Hle
  cases hok:zgO L cols col
  ·have hfn:=za (show fin=none by rw [Hle.out];simp [hok])
   have HAc:=za (fun W (hW:Ext w W)=>HAd.out col W hW (by omega))
   rw [hok,if_neg (by decide)] at HAc
   rw [hfn.out]
   clear Hle hfn hop hok
   go_enter Tryz.func79,Tryz.ntmps79
   go_upto_region 1 with fail
   generalize ((w.alloc (.cells #[.bool false,.int .i64 0,.slice none 0 0,.slice none 0 0,.int .i64 s.al,.int .i64 s.st,.slice A n c,.int .i64 p.al,.slice B m d,.slice B' m' d',.int .i64 L] 99)).alloc (.cells #[.slice R nr cr,.slice C nc cc] 102)).alloc (.cells #[.slice none 0 0,.slice none 0 0] 102)=w0 at *
   have CB:=b1.cells
   have CT:=b2.cells
   have hww:=Ext.refl w0
   go_upto_region 5 with (first
    |(go_at_call 152;refine (HSp.out _ hx0).mono ?_;rintro e w1 ⟨rfl,hx1⟩)
    |(go_at_call 153;refine (HAc.out _ (hx0.trans hx1)).mono ?_;rintro e w2 ⟨hx2,⟨-,rfl⟩|⟨_,_,_,_,_,_,_,_,h0,_⟩⟩;rotate_left;exact absurd h0 (by simp);have hx12:=hx1.trans hx2))
   have hx3:=(Ext.refl w2).alloc (.cells #[.slice none 0 0,.slice none 0 0] 102)
   generalize w2.alloc (.cells #[.slice none 0 0,.slice none 0 0] 102)=w3 at *
   have bz:=b3.ext (hx12.trans hx3)
   have kz:=bz.cell
   have fz:=bz.frozen
   obtain⟨hret,hb⟩:=zih ((hx0.trans hx12).trans hx3) bz (by omega)
   have cf:=hb.cell
   exact yK14a5
  ·have hfn:=za (show fin=(zaW L (zy s p L) (cols++[col]) (12 - rows.length) rows).map fun r=>(r,cols++[col]) by rw [Hle.out];simp [hok])
   have HAc:=za (fun W (hW:Ext w W)=>HAd.out col W hW (by omega))
   rw [hok,if_pos rfl] at HAc
   have HIc:=za (HI.out col hok)
   clear Hle hop hok
   go_enter Tryz.func79,Tryz.ntmps79
   go_upto_region 1 with fail
   generalize ((w.alloc (.cells #[.bool false,.int .i64 0,.slice none 0 0,.slice none 0 0,.int .i64 s.al,.int .i64 s.st,.slice A n c,.int .i64 p.al,.slice B m d,.slice B' m' d',.int .i64 L] 99)).alloc (.cells #[.slice R nr cr,.slice C nc cc] 102)).alloc (.cells #[.slice none 0 0,.slice none 0 0] 102)=w0 at *
   have CB:=b1.cells
   have CT:=b2.cells
   have hww:=Ext.refl w0
   go_upto_region 5 with (first
    |(go_at_call 152;refine (HSp.out _ hx0).mono ?_;rintro e w1 ⟨rfl,hx1⟩)
    |(go_at_call 153;refine (HAc.out _ (hx0.trans hx1)).mono ?_;rintro e w2 ⟨hx2,⟨h0,_⟩|⟨rs,cs,nr2,nc2,R2,cr2,C2,cc2,h0,rfl,oR,oC⟩⟩;exact absurd h0 (by simp);have hx12:=hx1.trans hx2;obtain⟨rfl,rfl⟩:=Prod.mk.inj (Option.some.inj h0)))
   have bt:=Blk.new w2 102 #[.slice R2 nr2 cr2,.slice C2 nc2 cc2]
   have hx3:=(Ext.refl w2).alloc (.cells #[.slice R2 nr2 cr2,.slice C2 nc2 cc2] 102)
   have oR3:=zh oR hx3
   have oC3:=zh oC hx3
   have hcr2:=zgd oR
   have hcc2:=zgd oC
   generalize w2.alloc (.cells #[.slice R2 nr2 cr2,.slice C2 nc2 cc2] 102)=w3 at *
   have hx13:=hx12.trans hx3
   have HT3:=za (show TabAt w3 R2 nr2 C2 nc2 rows (cols++[col]) from ⟨_,_,_,_,Reads.of_own oR3,Reads.of_own oC3⟩)
   have CB3:∀ W,Ext w3 W→∀ q,W.cell? ⟨w.heap.size,q,none⟩=#[Value.bool false,.int .i64 0,.slice none 0 0,.slice none 0 0,.int .i64 s.al,.int .i64 s.st,.slice A n c,.int .i64 p.al,.slice B m d,.slice B' m' d',.int .i64 L][q]?:=fun W hW=>CB W (hx13.trans hW)
   have k2:=bt.cell
   have hww3:=Ext.refl w3
   clear oR oC oR3 oC3
   go_wp2_with fail
   refine (HCl.out _ _ _ _ _ _ rows (cols++[col]) _ (hx0.trans hx13) HT3.out HIc.out hcr2 hcc2).mono ?_
   rintro e w4 ⟨hx4,⟨h0,rfl⟩|⟨rs,cs,nr3,nc3,R3,cr3,C3,cc3,h0,rfl,oR,oC⟩⟩
   ·have bz:=b3.ext (hx13.trans hx4)
    have kz:=bz.cell
    have fz:=bz.frozen
    obtain⟨hret,hb⟩:=zih ((hx0.trans hx13).trans hx4) bz (by omega)
    have hfn2:=za (hfn.out.trans h0)
    rw [← hfn2.out] at hret
    have cf:=hb.cell
    clear k2 h0
    exact yK14a5
   ·have bz:=b3.ext (hx13.trans hx4)
    have kz:=bz.cell
    have fz:=bz.frozen
    obtain⟨hret,hb⟩:=tab_some ((hx0.trans hx13).trans hx4) bz (by omega) (hfn.out.trans h0) (hx0.trans hx13).size oR oC
    have cf:=hb.cell
    clear k2 h0
    go_wp2_with fail
    exact bodyPost_ret (v:=.tuple #[.agg #[.slice R3 nr3 cr3,.slice C3 nc3 cc3],.bool true]) (by simp [results,Tryz.results79,go_sem,cf]) rfl hret.out
end
theorem tot_le6:∀ ls:List (List Int),(∀ l∈ls,l.length≤6)→tot ls≤ls.length*6
 |[],_=>by simp [tot]
 |l :: r,h=>by
  have:=tot_le6 r (fun x hx=>h x (by simp [hx]))
  have:=h l (by simp)
  rw [show tot (l :: r)=l.length+tot r by simp [tot],List.length_cons,Nat.add_mul]
  omega
theorem zdf {a:Aut}(h:zi a=true):a.size≤1048576:=by
 obtain⟨_,⟨_,h1⟩,h2,h3⟩:=zj h
 have h4:=tot_le6 a.next (fun l hl=>by
  obtain⟨q,hq⟩:=List.getElem?_of_mem hl
  obtain⟨h5,_⟩:=h3 q l hq
  rw [h5];exact zC _ _)
 unfold Aut.size
 omega
def RetTask (w:World) (s:Sys) (p:Aut) (L:Nat) (e:Ending) (w':World):Prop:=
 ∃ (A:Option Addr) (n c:Nat) (B:Option Addr) (m d:Nat) (B':Option Addr) (m' d':Nat),e=.returned (.tuple #[.agg #[.int .i64 s.al,.int .i64 s.st,.slice A n c,.int .i64 p.al,.slice B m d,.slice B' m' d',.int .i64 L],.bool true])∧Tch w' A n B m B' m' s p L∧Ext w w'
section
variable {w:World} {lo hi n c lo1 hi1 m d m' d' lo2 hi2 k c2:Nat} {A B B' C:Option Addr} {s t:Sys} {p:Aut}
theorem spec_TaskOf {L:Nat}(hs:zN w lo hi A n s)(hp:zG w lo1 hi1 B m B' m' p)(ht:zN w lo2 hi2 C k t)(hif:iface s p t=(L:Int))(hn:n≤1000000)(hhi:hi≤w.heap.size) :
  Calls Tryz.prog 204 #[.agg #[.int .i64 s.al,.int .i64 s.st,.slice A n c],.agg #[.int .i64 p.al,.slice B m d,.slice B' m' d'],.agg #[.int .i64 t.al,.int .i64 t.st,.slice C k c2]] w (RetTask w s p L):=by
 obtain⟨vs,vp,vt⟩:=zeV (show 0≤iface s p t by omega)
 have hL:L<64:=by
  rw [iface_nat vs vp vt] at hif
  have h1:=zP vt
  have h2:((s.al.toNat|||p.al.toNat)&&&t.al.toNat)≤t.al.toNat:=Nat.and_le_right
  omega
 have HIf:=za (fun W (hW:Ext w W)=>zaY (c:=c) (d1:=d) (d1':=d') (c2:=c2) (hs.ext hW) (hp.ext hW) (ht.ext hW))
 rw [hif] at HIf
 obtain⟨P,hP⟩:∃ P:Nat,s.st=(P:Int):=⟨s.st.toNat,by have:=(zcX vs).1;omega⟩
 have hP16:P≤16:=by have:=(zcX vs).2.1;omega
 have HK:=za (fun W (hW:Ext w W)=>spec_l2Keep (c:=c) (hs.ext hW) vs hP hn (Nat.le_trans hhi hW.size))
 have HC:=za (fun W (hW:Ext w W)=>zas (c:=d) (c':=d') (hp.ext hW) (zdf vp))
 have hF:1≤2 ^ P∧2 ^ P≤65536:=⟨Nat.one_le_two_pow,by have:=Nat.pow_le_pow_right (show 1≤2 by omega) hP16;have h2:(2:Nat) ^ 16=65536:=rfl;omega⟩
 have HBit:=za (fun W=>zfy P (by omega) W)
 have HPe:=za hP
 have hV:=za (And.intro vs (And.intro vp hL))
 rw [hP] at HIf HK ⊢
 generalize hFe:2 ^ P=F at *
 have hsub:IntKind.i64.wrap ((F:Int) - 1)=((F - 1:Nat):Int):=by rw [IntWalk.i64_in _ (by omega)];omega
 clear hFe hs hp ht hif vs vp vt hP
 have hx0:Ext w ((((w.alloc (.cells #[.int .i64 s.al,.int .i64 (P:Nat),.slice A n c] 38)).alloc (.cells #[.int .i64 p.al,.slice B m d,.slice B' m' d'] 31)).alloc (.cells #[.int .i64 t.al,.int .i64 t.st,.slice C k c2] 38)).alloc (.cells #[.int .i64 0,.int .i64 0,.slice none 0 0,.int .i64 0,.slice none 0 0,.slice none 0 0,.int .i64 0] 97)):=((((Ext.refl _).alloc _).alloc _).alloc _).alloc _
 obtain⟨b1,b2,b3⟩:=zO ((Ext.refl _).alloc _:Ext (((w.alloc (.cells #[.int .i64 s.al,.int .i64 (P:Nat),.slice A n c] 38)).alloc (.cells #[.int .i64 p.al,.slice B m d,.slice B' m' d'] 31)).alloc (.cells #[.int .i64 t.al,.int .i64 t.st,.slice C k c2] 38)) ((((w.alloc (.cells #[.int .i64 s.al,.int .i64 (P:Nat),.slice A n c] 38)).alloc (.cells #[.int .i64 p.al,.slice B m d,.slice B' m' d'] 31)).alloc (.cells #[.int .i64 t.al,.int .i64 t.st,.slice C k c2] 38)).alloc (.cells #[.int .i64 0,.int .i64 0,.slice none 0 0,.int .i64 0,.slice none 0 0,.slice none 0 0,.int .i64 0] 97)))
 have b4:=Blk.new (((w.alloc (.cells #[.int .i64 s.al,.int .i64 (P:Nat),.slice A n c] 38)).alloc (.cells #[.int .i64 p.al,.slice B m d,.slice B' m' d'] 31)).alloc (.cells #[.int .i64 t.al,.int .i64 t.st,.slice C k c2] 38)) 97 #[.int .i64 0,.int .i64 0,.slice none 0 0,.int .i64 0,.slice none 0 0,.slice none 0 0,.int .i64 0]
 simp only [World.size_alloc] at b4
 go_enter Tryz.func204,Tryz.ntmps204
 go_upto_region 1 with fail
 generalize (((w.alloc (.cells #[.int .i64 s.al,.int .i64 (P:Nat),.slice A n c] 38)).alloc (.cells #[.int .i64 p.al,.slice B m d,.slice B' m' d'] 31)).alloc (.cells #[.int .i64 t.al,.int .i64 t.st,.slice C k c2] 38)).alloc (.cells #[.int .i64 0,.int .i64 0,.slice none 0 0,.int .i64 0,.slice none 0 0,.slice none 0 0,.int .i64 0] 97)=w0 at *
 have CS:=b1.cells
 have CP:=b2.cells
 have CT:=b3.cells
 have hww:=Ext.refl w0
 go_upto_region 4 with (first
  |(go_at_call 99;refine (HIf.out _ hx0).mono ?_;rintro e w1 ⟨rfl,hx01⟩))
 have hx1:=hx0.trans hx01
 have CS1:∀ W,Ext w1 W→∀ q,W.cell? ⟨w.heap.size,q,none⟩=#[Value.int .i64 s.al,.int .i64 (P:Nat),.slice A n c][q]?:=fun W hW=>CS W (hx01.trans hW)
 have CP1:∀ W,Ext w1 W→∀ q,W.cell? ⟨w.heap.size+1,q,none⟩=#[Value.int .i64 p.al,.slice B m d,.slice B' m' d'][q]?:=fun W hW=>CP W (hx01.trans hW)
 have hw1:=Ext.refl w1
 clear CS CP CT hww
 refine uR (fun X=>Ext w1 X) [10] (zw.of [0,1,2,6,8,3,4,5,7,9,10,11]) ?_
 refine uQ ?_
 have hxd:=hw1.drew
 (refine zd rfl rfl rfl (fun K hK=>?_);go_simp)
 refine (HBit.out _).mono ?_
 rintro e w' ⟨rfl,rfl⟩
 refine hK.out _ _ hxd ?_
 refine pT ?_
 refine uQ ?_
 (refine zd rfl rfl rfl (fun K hK=>?_);go_simp)
 refine (HK.out _ (hx1.trans hxd)).mono ?_
 rintro e w2 ⟨A1,n1,c1,rfl,ho1,hx2⟩
 rw [HPe.out]
 have hx12:Ext w1 w2:=hxd.trans hx2
 refine hK.out _ _ hx12 ?_
 refine pT ?_
 refine uQ ?_
 (refine zd rfl rfl rfl (fun K hK=>?_);go_simp)
 refine (HC.out _ (hx1.trans hx12)).mono ?_
 rintro e w3 ⟨B1,m1,d1,B1',m1',d1',rfl,ho2,hx3⟩
 have hx13:=hx12.trans hx3
 refine hK.out _ _ hx13 ?_
 refine pT ?_
 refine uQ ?_
 have hxw:=hx1.trans hx13
 have bz:=b4.ext (hx01.trans hx13)
 have kz:=bz.cell
 have fz:=bz.frozen
 have hs1:=ho1.ext hx3
 have hb4:=b4.lt
 have hsys:zN w3 w0.heap.size w3.heap.size A1 n1 s:=(show zN w3 _ w3.heap.size A1 n1 s from ⟨hs1.1,Reads.of_own hs1.2⟩).more (hx01.trans hxd).size (Nat.le_refl _)
 have haut:zG w3 w0.heap.size w3.heap.size B1 m1 B1' m1' p:=ho2.reads.more (hx01.trans hx12).size (Nat.le_refl _)
 have hsz0:=hx0.size
 have hf:Frm (fun k=>k=w.heap.size+1+1+1) w3 (((((((w3.setCell ⟨w.heap.size+1+1+1,0,none⟩ (.int .i64 s.al)).setCell ⟨w.heap.size+1+1+1,1,none⟩ (.int .i64 (P:Nat))).setCell ⟨w.heap.size+1+1+1,2,none⟩ (.slice A1 n1 c1)).setCell ⟨w.heap.size+1+1+1,3,none⟩ (.int .i64 p.al)).setCell ⟨w.heap.size+1+1+1,4,none⟩ (.slice B1 m1 d1)).setCell ⟨w.heap.size+1+1+1,5,none⟩ (.slice B1' m1' d1')).setCell ⟨w.heap.size+1+1+1,6,none⟩ (.int .i64 (L:Nat))):=
  ((((((Frm.setCell w3 _ 0 _).trans (Frm.setCell _ _ 1 _)).trans (Frm.setCell _ _ 2 _)).trans (Frm.setCell _ _ 3 _)).trans (Frm.setCell _ _ 4 _)).trans (Frm.setCell _ _ 5 _)).trans (Frm.setCell _ _ 6 _)
 have bW:Blk (((((((w3.setCell ⟨w.heap.size+1+1+1,0,none⟩ (.int .i64 s.al)).setCell ⟨w.heap.size+1+1+1,1,none⟩ (.int .i64 (P:Nat))).setCell ⟨w.heap.size+1+1+1,2,none⟩ (.slice A1 n1 c1)).setCell ⟨w.heap.size+1+1+1,3,none⟩ (.int .i64 p.al)).setCell ⟨w.heap.size+1+1+1,4,none⟩ (.slice B1 m1 d1)).setCell ⟨w.heap.size+1+1+1,5,none⟩ (.slice B1' m1' d1')).setCell ⟨w.heap.size+1+1+1,6,none⟩ (.int .i64 (L:Nat))) (w.heap.size+1+1+1) 97 #[.int .i64 s.al,.int .i64 (P:Nat),.slice A1 n1 c1,.int .i64 p.al,.slice B1 m1 d1,.slice B1' m1' d1',.int .i64 (L:Nat)]:=by
  simpa using ((((((bz.set_ 0 (.int .i64 s.al)).set_ 1 (.int .i64 (P:Nat))).set_ 2 (.slice A1 n1 c1)).set_ 3 (.int .i64 p.al)).set_ 4 (.slice B1 m1 d1)).set_ 5 (.slice B1' m1' d1')).set_ 6 (.int .i64 (L:Nat))
 (refine zb rfl rfl rfl rfl (fun K hK=>?_))
 go_simp
 generalize (((((((w3.setCell ⟨w.heap.size+1+1+1,0,none⟩ (.int .i64 s.al)).setCell ⟨w.heap.size+1+1+1,1,none⟩ (.int .i64 (P:Nat))).setCell ⟨w.heap.size+1+1+1,2,none⟩ (.slice A1 n1 c1)).setCell ⟨w.heap.size+1+1+1,3,none⟩ (.int .i64 p.al)).setCell ⟨w.heap.size+1+1+1,4,none⟩ (.slice B1 m1 d1)).setCell ⟨w.heap.size+1+1+1,5,none⟩ (.slice B1' m1' d1')).setCell ⟨w.heap.size+1+1+1,6,none⟩ (.int .i64 (L:Nat)))=W at *
 have hret:=za (show RetTask w s p L (.returned (.tuple #[.agg #[.int .i64 s.al,.int .i64 (P:Nat),.slice A1 n1 c1,.int .i64 p.al,.slice B1 m1 d1,.slice B1' m1' d1',.int .i64 (L:Nat)],.bool true])) W from
  ⟨A1,n1,c1,B1,m1,d1,B1',m1',d1',by rw [HPe.out],⟨⟨w0.heap.size,w3.heap.size,hsys.frm hf (fun k h1 h2 e=>by omega),haut.frm hf (fun k h1 h2 e=>by omega),hf.size⟩,hV.out.1,hV.out.2.1,hV.out.2.2⟩,hxw.frm hf (fun k hk e=>by omega)⟩)
 have cf:=bW.cell
 clear hf bW hsys haut kz fz bz hs1 ho1 ho2 hxw
 refine hK.out _ _ ?_
 clear hK
 refine pT ?_
 refine uQ ?_
 refine ze ?_
 go_wp2_with fail
 exact bodyPost_ret (v:=.tuple #[.agg #[.int .i64 s.al,.int .i64 (P:Nat),.slice A1 n1 c1,.int .i64 p.al,.slice B1 m1 d1,.slice B1' m1' d1',.int .i64 (L:Nat)],.bool true]) (by simp [results,Tryz.results204,go_sem,cf]) rfl hret.out
end
section
variable {d:Nat→Nat→List Nat} {start L:List Nat} {goal:Nat→Bool} {N:Nat}
theorem zgR (h:¬ Lost d start goal L):∃ v,Found d start goal L v:=by
 have h1:∃ v,(∀ l∈v,l∈L)∧∃ x,zcA d start v x∧goal x=true:=by
  apply Classical.byContradiction
  intro hn
  apply h
  intro v hv x hx
  cases hg:goal x with
  |false=>rfl
  |true=>exact absurd ⟨v,hv,x,hx,hg⟩ hn
 have key:∀ n v,zco v=n→(∀ l∈v,l∈L)→(∃ x,zcA d start v x∧goal x=true)→∃ v,Found d start goal L v:=by
  intro n
  induction n using Nat.strongRecOn with
  |ind n ih =>
   intro v hn hv hx
   by_cases hm:∃ u,(∀ l∈u,l∈L)∧zco u<zco v∧∃ x,zcA d start u x∧goal x=true
   ·obtain⟨u,hu,hlt,hux⟩:=hm
    exact ih (zco u) (by omega) u rfl hu hux
   ·refine⟨v,hv,hx,fun u hu hlt x hgx=>?_⟩
    cases hg:goal x with
    |false=>rfl
    |true=>exact absurd ⟨u,hu,hlt,x,hgx,hg⟩ hm
 obtain⟨v,hv,hx⟩:=h1
 exact key _ v rfl hv hx
theorem found_len {v:List Nat}(h:Found d [0] goal L v)(h6:∀ l∈L,l<6)(hN:0<N)(hd:∀ x l,x<N→l∈L→∀ y∈d x l,y<N):v.length<N:=by
 obtain⟨hv,⟨x,hx,hg⟩,hmin⟩:=h
 obtain⟨x0,h0,hdn⟩:=zcA.dn (L:=L) (v:=[]) (u:=v) (goal:=goal) (by simpa using hx) hg hv
 have hx0:x0=0:=by have:=h0.inv_nil;simpa using this
 subst hx0
 have hex:∃ n,Mn d L goal n 0∧n≤v.length:=by
  have key:∀ n,Dn d L goal n 0→∃ m,Mn d L goal m 0∧m≤n:=by
   intro n
   induction n using Nat.strongRecOn with
   |ind n ih =>
    intro hn
    by_cases hm:∃ m,m<n∧Dn d L goal m 0
    ·obtain⟨m,hmn,hm⟩:=hm
     obtain⟨k,h1,h2⟩:=ih m hmn hm
     exact⟨k,h1,by omega⟩
    ·exact⟨n,⟨hn,fun m hmn hm'=>hm ⟨m,hmn,hm'⟩⟩,Nat.le_refl _⟩
  exact key _ hdn
 obtain⟨n,hn,-⟩:=hex
 have hnN:=hn.lt hN hd
 obtain⟨u,hul,huL,y,hy,hgy⟩:=Dn.word (v:=[]) (start:=[0]) hn.1 (.nil (by simp))
 rcases Nat.lt_or_ge n v.length with hlt|hge
 ·have:=hmin u huL (zgN (fun l hl=>h6 l (hv l hl)) (fun l hl=>h6 l (huL l hl)) (by omega)) y (by simpa using hy)
  rw [hgy] at this;cases this
 ·omega
theorem firstW_ok (h6:∀ l∈L,l<6)(hN:0<N)(hd:∀ x l,x<N→l∈L→∀ y∈d x l,y<N):(∀ l∈zfA d [0] goal L,l<6)∧(zfA d [0] goal L).length<N:=by
 by_cases h:Lost d [0] goal L
 ·rw [(zhm h).1]
  exact⟨by simp,by simpa using hN⟩
 ·obtain⟨v,hv⟩:=zgR h
  rw [(zgm h6 hv).1]
  exact⟨fun l hl=>h6 l (hv.1 l hl),found_len hv h6 hN hd⟩
end
theorem wstr_word {v:List Nat}(h6:∀ l∈v,l<6)(hl:v.length≤50000):zaV (wstr v)=true:=by
 unfold zaV
 simp only [Bool.and_eq_true,decide_eq_true_eq]
 refine⟨by rw [zgM];exact hl,?_⟩
 rw [List.all_eq_true]
 intro b hb
 unfold wstr lbs at hb
 rw [strOfNums_data,List.map_map] at hb
 obtain⟨l,hl,rfl⟩:=List.mem_map.1 hb
 have hl6:=h6 l hl
 have key:∀ l,l<6→zct (UInt8.ofNat (97+l))=true:=by decide
 have e:((fun n:Int=>UInt8.ofNat n.toNat) ∘ fun l:Nat=>((97+l:Nat):Int)) l=UInt8.ofNat (97+l):=by
  show UInt8.ofNat (((97+l:Nat):Int)).toNat=_
  rw [Int.toNat_natCast]
 first
  |(rw [e];exact key l hl6)
  |(have:=key l hl6;simpa using this)
theorem vioW_word {ss:List Sys} {a p:Aut}(hss:∀ s∈ss,zl s=true)(ha:zi a=true)(hp:zi p=true)(hN:zab (zbc ss [a,p])≤50000):zaV (vioW ss a p)=true∧(vioW ss a p).size<zab (zbc ss [a,p]):=by
 have hm:∀ m∈zbc ss [a,p],MemOk m:=by
  intro m hm
  unfold zbc at hm
  rcases List.mem_append.1 hm with h|h
  ·obtain⟨s,hs,rfl⟩:=List.mem_map.1 h
   exact zfv (zcX (hss s hs))
  ·simp at h
   rcases h with rfl|rfl
   ·exact zde ha
   ·exact zde hp
 obtain⟨h1,h2⟩:=firstW_ok (d:=zbQ ss a p) (goal:=zcJ a p) (L:=letters (zS ss|||a.al.toNat) 6) (N:=zab (zbc ss [a,p])) (fun l hl=>(zF.1 hl).1) (prodN_pos hm) (fun x l _ hl y hy=>by
  rw [zdS] at hy
  exact pnx_lt hm (zF.1 hl).1 y hy)
 unfold vioW
 exact⟨wstr_word h1 (by omega),by rw [zgM];exact h2⟩
theorem prod_le {ss:List Sys} {a p:Aut}(hss:∀ s∈ss,zl s=true):zab (zbc ss [a,p])≤16 ^ ss.length*(a.next.length*p.next.length):=by
 induction ss with
 |nil=>simp [zbc,zab,zaz,zdB]
 |cons s r ih =>
  have h1:=ih (fun s hs=>hss s (List.mem_cons_of_mem _ hs))
  have h2:s.st.toNat≤16:=by have:=(zcX (hss s List.mem_cons_self)).2.1;omega
  show zab (zeI s :: zbc r [a,p])≤_
  rw [zdY,List.length_cons,Nat.pow_succ]
  calc s.st.toNat*zab (zbc r [a,p])≤16*(16 ^ r.length*(a.next.length*p.next.length)):=Nat.mul_le_mul h2 h1
   _=16 ^ r.length*16*(a.next.length*p.next.length):=by rw [← Nat.mul_assoc,Nat.mul_comm 16]
theorem zgK {s:Sys} {a p:Aut}(hs:zl s=true)(ha:zi a=true)(hp:zi p=true):zaV (zbS s a p)=true∧(zbS s a p).size≤2304:=by
 have h1:=(zj ha).2.1.2
 have h2:=(zj hp).2.1.2
 have h3:=prod_le (ss:=[s]) (a:=a) (p:=p) (by simpa using hs)
 have h4:a.next.length*p.next.length≤12*12:=Nat.mul_le_mul h1 h2
 simp only [List.length_singleton,Nat.pow_one] at h3
 obtain⟨h5,h6⟩:=vioW_word (ss:=[s]) (by simpa using hs) ha hp (by omega)
 unfold zbS
 rw [if_pos (by unfold zcI;rw [hs,ha,hp];rfl)]
 exact⟨h5,by omega⟩
theorem zfr {ss:List Sys} {p:Aut}(hss:zE ss=true)(hp:zi p=true):zaV (zaU ss p)=true∧(zaU ss p).size<16 ^ ss.length*12:=by
 obtain⟨⟨h0,h03⟩,hv⟩:=zbi hss
 have h2:=(zj hp).2.1.2
 have h3:=prod_le (a:=free) (p:=p) hv
 have h4:free.next.length*p.next.length≤1*12:=Nat.mul_le_mul (Nat.le_refl _) h2
 have h5:zab (zbc ss [free,p])≤16 ^ ss.length*12:=Nat.le_trans h3 (Nat.mul_le_mul_left _ (by omega))
 have h6:16 ^ ss.length≤16 ^ 3:=Nat.pow_le_pow_right (by omega) h03
 have h7:16 ^ ss.length*12≤4096*12:=Nat.mul_le_mul_right _ h6
 obtain⟨h8,h9⟩:=vioW_word hv zhi hp (by omega)
 unfold zaU
 rw [if_pos (by unfold zdx;rw [hss,hp];rfl)]
 exact⟨h8,by omega⟩
noncomputable def zem (s:Sys) (p:Aut) (t:Sys) (L:Nat) (a:Aut):ByteArray × Int:=
 if zbR s a p=true then (zbd (zbS s a p) L,-1)
 else if zce [t] a=true then (zbd (zaU [t] a) L,if zy s p L (zbd (zaU [t] a) L)=true then -1 else 1)
 else (⟨#[]⟩,0)
section
variable {w:World} {lo hi n c lo1 hi1 m d m' d' lo2 hi2 k c2 k1 d1 k1' d1' L:Nat} {A B B' C X X':Option Addr} {s t:Sys} {p a:Aut}
theorem zeM (ht:zN w lo hi C k t)(ha:zG w lo1 hi1 X k1 X' k1' a) :
  Calls Tryz.prog 271 #[.agg #[.int .i64 t.al,.int .i64 t.st,.slice C k c2],.agg #[.int .i64 a.al,.slice X k1 d1,.slice X' k1' d1']] w fun e w'=>e=.returned (.tuple #[.string (zaU [t] a),.bool (zce [t] a)])∧Ext w w':=by
 have HT:=za (fun W (hW:Ext w W)=>ht.ext hW)
 have HA:=za (fun W (hW:Ext w W)=>ha.ext hW)
 have hx0:Ext w ((w.alloc (.cells #[.int .i64 t.al,.int .i64 t.st,.slice C k c2] 38)).alloc (.cells #[.int .i64 a.al,.slice X k1 d1,.slice X' k1' d1'] 31)):=((Ext.refl _).alloc _).alloc _
 obtain⟨b1,b2⟩:=zU (Ext.refl ((w.alloc (.cells #[.int .i64 t.al,.int .i64 t.st,.slice C k c2] 38)).alloc (.cells #[.int .i64 a.al,.slice X k1 d1,.slice X' k1' d1'] 31)))
 clear ht ha
 go_enter Tryz.func271,Tryz.ntmps271
 go_upto_region 1 with fail
 generalize (w.alloc (.cells #[.int .i64 t.al,.int .i64 t.st,.slice C k c2] 38)).alloc (.cells #[.int .i64 a.al,.slice X k1 d1,.slice X' k1' d1'] 31)=w0 at *
 have c1:=b1.cell
 have hx1:=(Ext.refl w0).alloc (.cells #[.int .i64 t.al,.int .i64 t.st,.slice C k c2] 38)
 have bs:=Blk.new w0 38 #[.int .i64 t.al,.int .i64 t.st,.slice C k c2]
 obtain⟨lo3,hi3,hsl⟩:=sl_one bs (HT.out _ (hx0.trans hx1))
 have c2':=(b2.ext hx1).cell
 have HP:=za (zby (c:=1) (d2:=d1) (d2':=d1') hsl (HA.out _ (hx0.trans hx1)))
 clear hsl bs
 go_wp2_with fail
 refine HP.out.mono ?_
 rintro e w2 ⟨rfl,hx2⟩
 go_wp2_with fail
 go_ret2
 exact⟨rfl,(hx0.trans hx1).trans hx2⟩
theorem zhV (h:Tch w A n B m B' m' s p L)(ht:zN w lo hi C k t)(ha:zG w lo1 hi1 X k1 X' k1' a) (vt:zl t=true) (va:zi a=true) :
  Calls Tryz.prog 205 #[.agg #[.int .i64 t.al,.int .i64 t.st,.slice C k c2],.agg #[.int .i64 s.al,.int .i64 s.st,.slice A n c,.int .i64 p.al,.slice B m d,.slice B' m' d',.int .i64 L],.agg #[.int .i64 a.al,.slice X k1 d1,.slice X' k1' d1']] w fun e w'=>e=.returned (.tuple #[.string (zem s p t L a).1,.int .i64 (zem s p t L a).2])∧Ext w w':=by
 have hL:=h.lt
 have HU:=za (fun W (hW:Ext w W)=>by
  obtain⟨lo,hi,h1,h2,_⟩:=h.at_
  exact zcy (c:=c) (d1:=d1) (d1':=d1') (d2:=d) (d2':=d') (h1.ext hW) (ha.ext hW) (h2.ext hW))
 have HS:=za (fun W (hW:Ext w W) (y:ByteArray) hy=>by
  obtain⟨lo,hi,h1,h2,h3⟩:=h.at_
  exact zfh (c:=c) (d:=d) (d':=d') (L:=L) (t:=y) (h1.ext hW) (h2.ext hW) h.sv h.pv h.lt (Nat.le_trans h3 hW.size) hy)
 have HF:=za (fun W (hW:Ext w W)=>zeM (c2:=c2) (d1:=d1) (d1':=d1') (ht.ext hW) (ha.ext hW))
 have hu:=za (zgK h.sv va h.pv)
 have hb:=za (zfr (ss:=[t]) (p:=a) (by unfold zE;simp [vt]) va)
 have Hj:=za (show zem s p t L a=if zbR s a p=true then (zbd (zbS s a p) L,-1)
  else if zce [t] a=true then (zbd (zaU [t] a) L,if zy s p L (zbd (zaU [t] a) L)=true then -1 else 1)
  else (⟨#[]⟩,0) from rfl)
 generalize zem s p t L a=J at *
 obtain⟨uw,huw⟩:∃ uw,Hid (zbS s a p=uw):=⟨_,rfl⟩
 obtain⟨bw,hbw⟩:∃ bw,Hid (zaU [t] a=bw):=⟨_,rfl⟩
 rw [huw.out] at HU hu Hj
 rw [hbw.out] at HF hb Hj
 have hx0:Ext w (((w.alloc (.cells #[.int .i64 t.al,.int .i64 t.st,.slice C k c2] 38)).alloc (.cells #[.int .i64 s.al,.int .i64 s.st,.slice A n c,.int .i64 p.al,.slice B m d,.slice B' m' d',.int .i64 L] 97)).alloc (.cells #[.int .i64 a.al,.slice X k1 d1,.slice X' k1' d1'] 31)):=(((Ext.refl _).alloc _).alloc _).alloc _
 obtain⟨b1,b2,b3⟩:=zO (Ext.refl (((w.alloc (.cells #[.int .i64 t.al,.int .i64 t.st,.slice C k c2] 38)).alloc (.cells #[.int .i64 s.al,.int .i64 s.st,.slice A n c,.int .i64 p.al,.slice B m d,.slice B' m' d',.int .i64 L] 97)).alloc (.cells #[.int .i64 a.al,.slice X k1 d1,.slice X' k1' d1'] 31)))
 clear h ht ha vt va
 cases hub:zbR s a p
 ·cases hbb:zce [t] a
  ·have zio:=za (show J=(⟨#[]⟩,0) by rw [Hj.out,hub,hbb];rfl)
   rw [hub] at HU
   rw [hbb] at HF
   rw [zio.out]
   clear Hj zio hub hbb
   go_enter Tryz.func205,Tryz.ntmps205
   go_upto_region 1 with fail
   generalize ((w.alloc (.cells #[.int .i64 t.al,.int .i64 t.st,.slice C k c2] 38)).alloc (.cells #[.int .i64 s.al,.int .i64 s.st,.slice A n c,.int .i64 p.al,.slice B m d,.slice B' m' d',.int .i64 L] 97)).alloc (.cells #[.int .i64 a.al,.slice X k1 d1,.slice X' k1' d1'] 31)=w0 at *
   have CT:=b1.cells
   have CK:=b2.cells
   have CA:=b3.cells
   have hww:=Ext.refl w0
   go_wp2_with (first
    |(go_at_call 74;refine (HU.out _ hx0).mono ?_;rintro e w1 ⟨rfl,hx1⟩)
    |(go_at_call 271;refine (HF.out _ (hx0.trans hx1)).mono ?_;rintro e w2 ⟨rfl,hx2⟩;have hx12:=hx1.trans hx2))
   go_ret2
   exact⟨rfl,hx0.trans hx12⟩
  ·obtain⟨rw_,hrw⟩:∃ rw_,Hid (zbd bw L=rw_):=⟨_,rfl⟩
   have HR:=za (fun W=>zbV (w:=W) (s:=bw) (a:=L) hb.out.1 (by omega))
   have hrs:=za (show rw_.size≤9223372036854775807 by
    rw [← hrw.out]
    have h1:=zaR (zaN (zfd hb.out.1 L))
    omega)
   rw [hrw.out] at HR Hj
   have HSr:=za (fun W (hW:Ext w W)=>HS.out W hW rw_ hrs.out)
   obtain⟨sf,hsf⟩:∃ sf,Hid (zy s p L rw_=sf):=⟨_,rfl⟩
   rw [hsf.out] at HSr Hj
   rw [hub] at HU
   rw [hbb] at HF
   have zio:=za (show J=(rw_,if sf=true then -1 else 1) by rw [Hj.out,hub,hbb];rfl)
   rw [zio.out]
   clear Hj zio hub hbb
   cases sf
   all_goals
    go_enter Tryz.func205,Tryz.ntmps205
    go_upto_region 1 with fail
    generalize ((w.alloc (.cells #[.int .i64 t.al,.int .i64 t.st,.slice C k c2] 38)).alloc (.cells #[.int .i64 s.al,.int .i64 s.st,.slice A n c,.int .i64 p.al,.slice B m d,.slice B' m' d',.int .i64 L] 97)).alloc (.cells #[.int .i64 a.al,.slice X k1 d1,.slice X' k1' d1'] 31)=w0 at *
    have CT:=b1.cells
    have CK:=b2.cells
    have CA:=b3.cells
    have hww:=Ext.refl w0
    go_wp2_with (first
     |(go_at_call 74;refine (HU.out _ hx0).mono ?_;rintro e w1 ⟨rfl,hx1⟩)
     |(go_at_call 271;refine (HF.out _ (hx0.trans hx1)).mono ?_;rintro e w2 ⟨rfl,hx2⟩;have hx12:=hx1.trans hx2)
     |(go_at_call 75;refine (HR.out _).mono ?_;rintro e w3 ⟨rfl,hx3⟩;have hx13:=hx12.trans hx3)
     |(go_at_call 77;refine (HSr.out _ (hx0.trans hx13)).mono ?_;rintro e w4 ⟨rfl,hx4⟩;have hx14:=hx13.trans hx4))
    go_ret2
    exact⟨rfl,hx0.trans hx14⟩
 ·have HR:=za (fun W=>zbV (w:=W) (s:=uw) (a:=L) hu.out.1 (by omega))
  rw [hub] at HU
  have zio:=za (show J=(zbd uw L,-1) by rw [Hj.out,hub];rfl)
  rw [zio.out]
  clear Hj zio hub
  go_enter Tryz.func205,Tryz.ntmps205
  go_upto_region 1 with fail
  generalize ((w.alloc (.cells #[.int .i64 t.al,.int .i64 t.st,.slice C k c2] 38)).alloc (.cells #[.int .i64 s.al,.int .i64 s.st,.slice A n c,.int .i64 p.al,.slice B m d,.slice B' m' d',.int .i64 L] 97)).alloc (.cells #[.int .i64 a.al,.slice X k1 d1,.slice X' k1' d1'] 31)=w0 at *
  have CT:=b1.cells
  have CK:=b2.cells
  have CA:=b3.cells
  have hww:=Ext.refl w0
  go_wp2_with (first
   |(go_at_call 74;refine (HU.out _ hx0).mono ?_;rintro e w1 ⟨rfl,hx1⟩)
   |(go_at_call 75;refine (HR.out _).mono ?_;rintro e w3 ⟨rfl,hx3⟩;have hx13:=hx1.trans hx3))
  go_ret2
  exact⟨rfl,hx0.trans hx13⟩
end
structure Vd where
 code:Int
 asm:Aut
 tr:ByteArray
 ro:Nat
def noA:Aut:=⟨0,[],[]⟩
noncomputable def runT (s t:Sys) (p:Aut) (L:Nat):Nat→Nat→Option (List ByteArray × List ByteArray)→Vd
 |0,k,_=>⟨2,noA,⟨#[]⟩,k⟩
 |_+1,k,none=>⟨2,noA,⟨#[]⟩,k⟩
 |f+1,k,some tab =>
  if (zem s p t L (zhe L (zy s p L) tab.1 tab.2)).2=0 then ⟨0,zhe L (zy s p L) tab.1 tab.2,⟨#[]⟩,k+1⟩
  else if (zem s p t L (zhe L (zy s p L) tab.1 tab.2)).2=1 then ⟨1,noA,zaU [s,t] p,k+1⟩
  else runT s t p L f (k+1) (zfa L (zy s p L) tab.1 tab.2 (zem s p t L (zhe L (zy s p L) tab.1 tab.2)).1)
def zcM (w:World) (v:Vd) (e:Ending) (w':World):Prop:=
 ∃ (A:Option Addr) (n c:Nat) (A':Option Addr) (n' c':Nat) (x:Int) (X:Option Addr) (k1 d1:Nat) (X':Option Addr) (k1' d1':Nat),
  e=.returned (.tuple #[.agg #[.int .i64 v.code,.int .i64 v.asm.al,.slice A n c,.slice A' n' c',.string v.tr,.int .i64 v.ro],.agg #[.int .i64 x,.slice X k1 d1,.slice X' k1' d1']])∧zZ w' w.heap.size A n c A' n' c' v.asm∧Ext w w'
def zfp (L:Nat) (f:ByteArray→Bool) (o:Option (List ByteArray × List ByteArray)):Prop:=∀ rs cs,o=some (rs,cs)→zdz L f rs cs∧zbK L f rs cs=none
theorem zfp.new (L:Nat) (f:ByteArray→Bool):zfp L f ((zaW L f [⟨#[]⟩] 11 [⟨#[]⟩]).map fun r=>(r,[⟨#[]⟩])):=by
 intro rs cs h
 obtain⟨r,hr,e⟩:=Option.map_eq_some_iff.1 h
 obtain⟨rfl,rfl⟩:=Prod.mk.inj e
 obtain⟨h1,h2,-⟩:=closeT_ok 11 _ _ (zdz.first L f) (by decide) hr
 exact⟨h1,h2⟩
theorem zfp.learn {L:Nat} {f:ByteArray→Bool} {rows cols:List ByteArray}(h:zdz L f rows cols) (x:ByteArray):zfp L f (zfa L f rows cols x):=by
 intro rs cs hl
 unfold zfa at hl
 split at hl
 ·cases hl
 ·rename_i col hc
  split at hl
  ·rename_i ha
   obtain⟨r,hr,e⟩:=Option.map_eq_some_iff.1 hl
   obtain⟨rfl,rfl⟩:=Prod.mk.inj e
   have hI:=h.addC ha
   obtain⟨h1,h2,-⟩:=closeT_ok _ _ _ hI (by have:=h.r12;omega) hr
   exact⟨h1,h2⟩
  ·cases hl
theorem judgeT_size {s:Sys} {p:Aut} {t:Sys} {L:Nat} {a:Aut}(hs:zl s=true)(hp:zi p=true)(ht:zl t=true)(ha:zi a=true):(zem s p t L a).1.size≤50000:=by
 have h1:=zgK hs ha hp
 have h2:=zfr (ss:=[t]) (p:=a) (by unfold zE;simp [ht]) ha
 unfold zem
 split
 ·exact zaR (zaN (zfd h1.1 L))
 ·split
  ·exact zaR (zaN (zfd h2.1 L))
  ·exact Nat.zero_le _
def TabM (w0 W:World) (g:Nat) (o:Option (List ByteArray × List ByteArray)):Prop:=
 ∃ (nr nc:Nat) (R:Option Addr) (cr:Nat) (C:Option Addr) (cc:Nat),Blk W g 102 #[.slice R nr cr,.slice C nc cc]∧nr≤cr∧nc≤cc ∧
  ∀ rs cs,o=some (rs,cs)→W.ownsRow w0.heap.size 9 1 (.slice R nr cr) nr (zW rs)∧W.ownsRow w0.heap.size 9 1 (.slice C nc cc) nc (zW cs)
theorem TabM.far {w0 W W':World} {g G:Nat} {o:Option (List ByteArray × List ByteArray)} {cs:Array Value} {t:TypeId}(h:TabM w0 W g o)(hB:Blk W G t cs)(hf:Frm (fun k=>k=G) W W')(hg:g≠G)(ht:9≠t):TabM w0 W' g o:=by
 obtain⟨nr,nc,R,cr,C,cc,hb,h1,h2,h3⟩:=h
 exact⟨nr,nc,R,cr,C,cc,hb.frm hf hg,h1,h2,fun rs cs e=>⟨zf (h3 rs cs e).1 hf (fun b hv e'=>zq (h3 rs cs e).1 hB ht hv e'),zf (h3 rs cs e).2 hf (fun b hv e'=>zq (h3 rs cs e).2 hB ht hv e')⟩⟩
theorem zcj.fill {w w0 W:World} {o:Option (List ByteArray × List ByteArray)} {e:Ending}(h:zcj w o e W)(hw:w0.heap.size≤w.heap.size) :
  Ext w W∧∃ (nr nc:Nat) (R:Option Addr) (cr:Nat) (C:Option Addr) (cc:Nat),e=.returned (.tuple #[.agg #[.slice R nr cr,.slice C nc cc],.bool o.isSome])∧nr≤cr∧nc≤cc ∧
   ∀ rs cs,o=some (rs,cs)→W.ownsRow w0.heap.size 9 1 (.slice R nr cr) nr (zW rs)∧W.ownsRow w0.heap.size 9 1 (.slice C nc cc) nc (zW cs):=by
 obtain⟨hx,⟨rfl,rfl⟩|⟨rs,cs,nr,nc,R,cr,C,cc,rfl,rfl,h1,h2⟩⟩:=h
 ·exact⟨hx,0,0,none,0,none,0,rfl,Nat.le_refl _,Nat.le_refl _,fun _ _ e=>by cases e⟩
 ·refine⟨hx,nr,nc,R,cr,C,cc,rfl,zgd h1,zgd h2,fun rs' cs' e=>?_⟩
  obtain⟨rfl,rfl⟩:=Prod.mk.inj (Option.some.inj e)
  exact⟨zn h1 hw,zn h2 hw⟩
theorem sl_pair {w:World} {g lo hi n c lo2 hi2 k c2:Nat} {A C:Option Addr} {s t:Sys}(hb:Blk w g 38 #[.int .i64 s.al,.int .i64 s.st,.slice A n c,.int .i64 t.al,.int .i64 t.st,.slice C k c2])(h:zN w lo hi A n s)(h':zN w lo2 hi2 C k t):∃ lo hi,zey w lo hi (some ⟨g,0,none⟩) 2 [s,t]:=by
 refine⟨0,hi+hi2+g+1,rfl,[.int .i64 s.al,.int .i64 s.st,.slice A n c,.int .i64 t.al,.int .i64 t.st,.slice C k c2],⟨rfl,by omega,fun _=>⟨_,rfl,Nat.zero_le _,by dsimp only;omega,fun j u hu=>?_⟩⟩,fun j u hu=>?_⟩
 ·rw [zT,Nat.zero_add,hb.cell]
  simpa using hu
 ·match j with
  |0 =>
   simp at hu;subst hu
   exact⟨A,n,c,rfl,rfl,rfl,h.1,h.2.more (Nat.zero_le _) (by omega)⟩
  |1 =>
   simp at hu;subst hu
   exact⟨C,k,c2,rfl,rfl,rfl,h'.1,h'.2.more (Nat.zero_le _) (by omega)⟩
  |j+2=>simp at hu
theorem zcM.drew {w W:World} {v:Vd} {e:Ending}(h:zcM w v e W):zcM w v e W.drew:=by
 obtain⟨A,n,c,A',n',c',x,X,k1,d1,X',k1',d1',he,ho,hx⟩:=h
 have hd:Ext W W.drew:=(Ext.refl W).drew
 exact⟨A,n,c,A',n',c',x,X,k1,d1,X',k1',d1',he,ho.ext hd,hx.trans hd⟩
theorem zcM.cast {w W:World} {v u:Vd} {e:Ending}(hu:u=v)(h:zcM w v e W):zcM w u e W:=hu ▸ h
def roAt (W:World) (g:Nat):Nat:=match W.cell? ⟨g,5,none⟩ with|some (.int _ z)=>z.toNat|_=>0
theorem roAt_blk {W:World} {g j:Nat} {t:TypeId} {u0 u1 u2 u3 u4:Value}(h:Blk W g t #[u0,u1,u2,u3,u4,.int .i64 j]):roAt W g=j:=by
 unfold roAt
 rw [h.cell 5]
 exact Int.toNat_natCast j
theorem runT_end {s t:Sys} {p:Aut} {L K j:Nat} {o:Option (List ByteArray × List ByteArray)}(h:¬ (o.isSome=true∧j<K)):runT s t p L (K - j) j o=⟨2,noA,⟨#[]⟩,j⟩:=by
 cases hk:K - j with
 |zero=>rfl
 |succ f =>
  cases o with
  |none=>rfl
  |some tab=>exact absurd ⟨rfl,by omega⟩ h
theorem zhP (W:World) (Z:Nat) (u0 u1 u2 u3 u4 u5:Value):Frm (fun k=>k=Z) W ((((((W.setCell ⟨Z,0,none⟩ u0).setCell ⟨Z,1,none⟩ u1).setCell ⟨Z,2,none⟩ u2).setCell ⟨Z,3,none⟩ u3).setCell ⟨Z,4,none⟩ u4).setCell ⟨Z,5,none⟩ u5):=
 (((((Frm.setCell W _ 0 _).trans (Frm.setCell _ _ 1 _)).trans (Frm.setCell _ _ 2 _)).trans (Frm.setCell _ _ 3 _)).trans (Frm.setCell _ _ 4 _)).trans (Frm.setCell _ _ 5 _)
theorem Frm.drew {S:Nat→Prop} {a w:World}(h:Frm S a w):Frm S a w.drew:=⟨h.os,h.tape,h.output,h.size,h.block⟩
theorem zgg {w W:World} {Z n c n' c' k1 d1 k1' d1':Nat} {A A' X X':Option Addr} {v:Vd} {x:Int} {vs us:Array Value}(hx:Ext w W)(hv:Blk W Z 73 vs)(hu:Blk W (Z+1) 31 us)(h6:vs.size=6)(h3:us.size=3)(hZ:w.heap.size≤Z)(ho:zZ W w.heap.size A n c A' n' c' v.asm) :
  Hid (zcM w v (.returned (.tuple #[.agg #[.int .i64 v.code,.int .i64 v.asm.al,.slice A n c,.slice A' n' c',.string v.tr,.int .i64 v.ro],.agg #[.int .i64 x,.slice X k1 d1,.slice X' k1' d1']]))
   (((((((((W.setCell ⟨Z,0,none⟩ (.int .i64 v.code)).setCell ⟨Z,1,none⟩ (.int .i64 v.asm.al)).setCell ⟨Z,2,none⟩ (.slice A n c)).setCell ⟨Z,3,none⟩ (.slice A' n' c')).setCell ⟨Z,4,none⟩ (.string v.tr)).setCell ⟨Z,5,none⟩ (.int .i64 v.ro)).setCell ⟨Z+1,0,none⟩ (.int .i64 x)).setCell ⟨Z+1,1,none⟩ (.slice X k1 d1)).setCell ⟨Z+1,2,none⟩ (.slice X' k1' d1'))) ∧
  Blk (((((((((W.setCell ⟨Z,0,none⟩ (.int .i64 v.code)).setCell ⟨Z,1,none⟩ (.int .i64 v.asm.al)).setCell ⟨Z,2,none⟩ (.slice A n c)).setCell ⟨Z,3,none⟩ (.slice A' n' c')).setCell ⟨Z,4,none⟩ (.string v.tr)).setCell ⟨Z,5,none⟩ (.int .i64 v.ro)).setCell ⟨Z+1,0,none⟩ (.int .i64 x)).setCell ⟨Z+1,1,none⟩ (.slice X k1 d1)).setCell ⟨Z+1,2,none⟩ (.slice X' k1' d1')) Z 73 #[.int .i64 v.code,.int .i64 v.asm.al,.slice A n c,.slice A' n' c',.string v.tr,.int .i64 v.ro] ∧
  Blk (((((((((W.setCell ⟨Z,0,none⟩ (.int .i64 v.code)).setCell ⟨Z,1,none⟩ (.int .i64 v.asm.al)).setCell ⟨Z,2,none⟩ (.slice A n c)).setCell ⟨Z,3,none⟩ (.slice A' n' c')).setCell ⟨Z,4,none⟩ (.string v.tr)).setCell ⟨Z,5,none⟩ (.int .i64 v.ro)).setCell ⟨Z+1,0,none⟩ (.int .i64 x)).setCell ⟨Z+1,1,none⟩ (.slice X k1 d1)).setCell ⟨Z+1,2,none⟩ (.slice X' k1' d1')) (Z+1) 31 #[.int .i64 x,.slice X k1 d1,.slice X' k1' d1']:=by
 obtain⟨lv⟩:=vs
 match lv,h6 with
 |[a0,a1,a2,a3,a4,a5],_ =>
 have hf1:Frm (fun k=>k=Z) W ((((((W.setCell ⟨Z,0,none⟩ (.int .i64 v.code)).setCell ⟨Z,1,none⟩ (.int .i64 v.asm.al)).setCell ⟨Z,2,none⟩ (.slice A n c)).setCell ⟨Z,3,none⟩ (.slice A' n' c')).setCell ⟨Z,4,none⟩ (.string v.tr)).setCell ⟨Z,5,none⟩ (.int .i64 v.ro)):=
  (((((Frm.setCell W _ 0 _).trans (Frm.setCell _ _ 1 _)).trans (Frm.setCell _ _ 2 _)).trans (Frm.setCell _ _ 3 _)).trans (Frm.setCell _ _ 4 _)).trans (Frm.setCell _ _ 5 _)
 have hv1:Blk ((((((W.setCell ⟨Z,0,none⟩ (.int .i64 v.code)).setCell ⟨Z,1,none⟩ (.int .i64 v.asm.al)).setCell ⟨Z,2,none⟩ (.slice A n c)).setCell ⟨Z,3,none⟩ (.slice A' n' c')).setCell ⟨Z,4,none⟩ (.string v.tr)).setCell ⟨Z,5,none⟩ (.int .i64 v.ro)) Z 73 #[.int .i64 v.code,.int .i64 v.asm.al,.slice A n c,.slice A' n' c',.string v.tr,.int .i64 v.ro]:=by
  simpa using (((((hv.set_ 0 (.int .i64 v.code)).set_ 1 (.int .i64 v.asm.al)).set_ 2 (.slice A n c)).set_ 3 (.slice A' n' c')).set_ 4 (.string v.tr)).set_ 5 (.int .i64 v.ro)
 have ho1:=ho.farT hv hf1 (by decide)
 have hu1:=hu.frm hf1 (by omega)
 have hx1:Ext w ((((((W.setCell ⟨Z,0,none⟩ (.int .i64 v.code)).setCell ⟨Z,1,none⟩ (.int .i64 v.asm.al)).setCell ⟨Z,2,none⟩ (.slice A n c)).setCell ⟨Z,3,none⟩ (.slice A' n' c')).setCell ⟨Z,4,none⟩ (.string v.tr)).setCell ⟨Z,5,none⟩ (.int .i64 v.ro)):=hx.frm hf1 (fun k hk e=>by omega)
 generalize (((((W.setCell ⟨Z,0,none⟩ (.int .i64 v.code)).setCell ⟨Z,1,none⟩ (.int .i64 v.asm.al)).setCell ⟨Z,2,none⟩ (.slice A n c)).setCell ⟨Z,3,none⟩ (.slice A' n' c')).setCell ⟨Z,4,none⟩ (.string v.tr)).setCell ⟨Z,5,none⟩ (.int .i64 v.ro)=W1 at *
 have hf2:=zad W1 (Z+1) (.int .i64 x) (.slice X k1 d1) (.slice X' k1' d1')
 exact⟨za ⟨A,n,c,A',n',c',x,X,k1,d1,X',k1',d1',rfl,ho1.farT hu1 hf2 (by decide),hx1.frm hf2 (fun k hk e=>by omega)⟩,hv1.frm hf2 (by omega),zau hu1 h3 _ _ _⟩
section
variable {w:World} {lo hi n c lo1 hi1 m d m' d' lo2 hi2 k c2:Nat} {A B B' C:Option Addr} {s t:Sys} {p:Aut}
theorem yK14a4 {P:Prop}(h:P:=by
 clear hflag hgo ho hon hne1 hne2 hd hb8 hb9' hxw
 go_wp2_with fail
 refine zbl (fun Y=>Frm (fun b=>b=Z) wr Y) [3] (zw.of [0,1,2,3]) (by kernel_rfl) (by kernel_rfl) (by kernel_rfl) (by kernel_rfl) (by kernel_rfl) (fun _ _ _ _ _ h=>h) hS0 ?_
 refine zbO (v:=?_) rfl rfl rfl rfl (fun X hX=>?_) ?_
 rotate_left
 focus (go_simp<;>with_reducible rfl)
 refine pT ?_
 refine zbO (v:=?_) rfl rfl rfl rfl (fun X hX=>?_) ?_
 rotate_left
 focus (go_simp<;>with_reducible rfl)
 refine pT ?_
 (refine zd rfl rfl rfl (fun K hK=>?_);go_simp)
 refine hK.out _ _ hf8.out.drew ?_
 refine pT ?_
 (refine zb rfl rfl rfl rfl (fun K hK=>?_))
 go_simp
 refine hK.out _ _ ?_
 refine ze ?_
 go_wp2_with fail
 have cf2:=F2.out.cell
 have cf3:=F3.out.cell
 exact bodyPost_ret (v:=.tuple #[.agg #[.int .i64 2,.int .i64 0,.slice none 0 0,.slice none 0 0,.string ⟨#[]⟩,.int .i64 j],.agg #[.int .i64 x,.slice X k1 d1,.slice X' k1' d1']]) (by simp [results,Tryz.results115,go_sem,cf2,cf3]) rfl F1.out
 ):P:=h
theorem spec_l12Run {L K:Nat}(hs:zN w lo hi A n s)(hp:zG w lo1 hi1 B m B' m' p)(ht:zN w lo2 hi2 C k t)(hif:iface s p t=(L:Int))(hn:n≤1000000)(hhi:hi≤w.heap.size)(hK:K≤1000) :
  Calls Tryz.prog 115 #[.agg #[.int .i64 s.al,.int .i64 s.st,.slice A n c],.agg #[.int .i64 t.al,.int .i64 t.st,.slice C k c2],.agg #[.int .i64 p.al,.slice B m d,.slice B' m' d'],.int .i64 K] w
   (zcM w (runT s t p L K 0 ((zaW L (zy s p L) [⟨#[]⟩] 11 [⟨#[]⟩]).map fun r=>(r,[⟨#[]⟩])))):=by
 obtain⟨vs,vp,vt⟩:=zeV (show 0≤iface s p t by omega)
 have Hv:=za (And.intro vs (And.intro vp vt))
 have HTask:=za (fun W (hW:Ext w W)=>spec_TaskOf (c:=c) (d:=d) (d':=d') (c2:=c2) (hs.ext hW) (hp.ext hW) (ht.ext hW) hif hn (Nat.le_trans hhi hW.size))
 have HPv2:=za (fun W (hW:Ext w W)=>show Calls Tryz.prog 151 #[.slice (some ⟨W.heap.size,0,none⟩) 2 2,.agg #[.int .i64 p.al,.slice B m d,.slice B' m' d']] (W.alloc (.cells #[.int .i64 s.al,.int .i64 s.st,.slice A n c,.int .i64 t.al,.int .i64 t.st,.slice C k c2] 38)) (fun e w'=>e=.returned (.tuple #[.string (zaU [s,t] p),.bool (zce [s,t] p)])∧Ext W w') by
  have f6:=(Ext.refl W).alloc (.cells #[.int .i64 s.al,.int .i64 s.st,.slice A n c,.int .i64 t.al,.int .i64 t.st,.slice C k c2] 38)
  obtain⟨l1,l2,hsl⟩:=sl_pair (Blk.new W 38 #[.int .i64 s.al,.int .i64 s.st,.slice A n c,.int .i64 t.al,.int .i64 t.st,.slice C k c2]) (hs.ext (hW.trans f6)) (ht.ext (hW.trans f6))
  exact (zby hsl (hp.ext (hW.trans f6))).mono (fun e w' h=>⟨h.1,f6.trans h.2⟩))
 have HSs:=za (fun W (hW:Ext w W)=>hs.ext hW)
 have HSt:=za (fun W (hW:Ext w W)=>ht.ext hW)
 obtain⟨fin,zio⟩:∃ fin,Hid (runT s t p L K 0 ((zaW L (zy s p L) [⟨#[]⟩] 11 [⟨#[]⟩]).map fun r=>(r,[⟨#[]⟩]))=fin):=⟨_,rfl⟩
 have htok:=za (zfp.new L (zy s p L))
 rw [zio.out]
 obtain⟨tab0,htab⟩:∃ tab0,Hid ((zaW L (zy s p L) [⟨#[]⟩] 11 [⟨#[]⟩]).map (fun r=>(r,[(⟨#[]⟩:ByteArray)]))=tab0):=⟨_,rfl⟩
 rw [htab.out] at zio htok
 clear hs hp ht hif vs vp vt
 have hx0:Ext w (((((w.alloc (.cells #[.int .i64 s.al,.int .i64 s.st,.slice A n c] 38)).alloc (.cells #[.int .i64 t.al,.int .i64 t.st,.slice C k c2] 38)).alloc (.cells #[.int .i64 p.al,.slice B m d,.slice B' m' d'] 31)).alloc (.cells #[.int .i64 0,.int .i64 0,.slice none 0 0,.slice none 0 0,.string ⟨#[]⟩,.int .i64 0] 73)).alloc (.cells #[.int .i64 0,.slice none 0 0,.slice none 0 0] 31)):=(((((Ext.refl _).alloc _).alloc _).alloc _).alloc _).alloc _
 obtain⟨b1,b2,b3⟩:=zO (((Ext.refl _).alloc _).alloc _:Ext (((w.alloc (.cells #[.int .i64 s.al,.int .i64 s.st,.slice A n c] 38)).alloc (.cells #[.int .i64 t.al,.int .i64 t.st,.slice C k c2] 38)).alloc (.cells #[.int .i64 p.al,.slice B m d,.slice B' m' d'] 31)) (((((w.alloc (.cells #[.int .i64 s.al,.int .i64 s.st,.slice A n c] 38)).alloc (.cells #[.int .i64 t.al,.int .i64 t.st,.slice C k c2] 38)).alloc (.cells #[.int .i64 p.al,.slice B m d,.slice B' m' d'] 31)).alloc (.cells #[.int .i64 0,.int .i64 0,.slice none 0 0,.slice none 0 0,.string ⟨#[]⟩,.int .i64 0] 73)).alloc (.cells #[.int .i64 0,.slice none 0 0,.slice none 0 0] 31)))
 obtain⟨b8,b9⟩:=zU (Ext.refl (((((w.alloc (.cells #[.int .i64 s.al,.int .i64 s.st,.slice A n c] 38)).alloc (.cells #[.int .i64 t.al,.int .i64 t.st,.slice C k c2] 38)).alloc (.cells #[.int .i64 p.al,.slice B m d,.slice B' m' d'] 31)).alloc (.cells #[.int .i64 0,.int .i64 0,.slice none 0 0,.slice none 0 0,.string ⟨#[]⟩,.int .i64 0] 73)).alloc (.cells #[.int .i64 0,.slice none 0 0,.slice none 0 0] 31)))
 simp only [World.size_alloc] at b8 b9
 go_enter Tryz.func115,Tryz.ntmps115
 go_upto_region 1 with fail
 generalize ((((w.alloc (.cells #[.int .i64 s.al,.int .i64 s.st,.slice A n c] 38)).alloc (.cells #[.int .i64 t.al,.int .i64 t.st,.slice C k c2] 38)).alloc (.cells #[.int .i64 p.al,.slice B m d,.slice B' m' d'] 31)).alloc (.cells #[.int .i64 0,.int .i64 0,.slice none 0 0,.slice none 0 0,.string ⟨#[]⟩,.int .i64 0] 73)).alloc (.cells #[.int .i64 0,.slice none 0 0,.slice none 0 0] 31)=w0 at *
 have CS:=b1.cells
 have CT:=b2.cells
 have CP:=b3.cells
 have hb9:=b9.lt
 have hZw:w.heap.size≤w.heap.size+1+1+1:=by omega
 generalize w.heap.size+1+1+1=Z at *
 have hww:=Ext.refl w0
 go_upto_region 2 with (first
  |(go_at_call 204;refine (HTask.out _ hx0).mono ?_;rintro e w1 ⟨A,n,c,B,m,d,B',m',d',rfl,htch,hx01⟩))
 have hx12:Ext w1 ((w1.alloc (.cells #[.int .i64 s.al,.int .i64 s.st,.slice A n c,.int .i64 p.al,.slice B m d,.slice B' m' d',.int .i64 L] 97)).alloc (.cells #[.bool false,.int .i64 0,.slice none 0 0,.slice none 0 0,.int .i64 s.al,.int .i64 s.st,.slice A n c,.int .i64 p.al,.slice B m d,.slice B' m' d',.int .i64 L] 99)):=((Ext.refl _).alloc _).alloc _
 obtain⟨bK,bT⟩:=zU (Ext.refl ((w1.alloc (.cells #[.int .i64 s.al,.int .i64 s.st,.slice A n c,.int .i64 p.al,.slice B m d,.slice B' m' d',.int .i64 L] 97)).alloc (.cells #[.bool false,.int .i64 0,.slice none 0 0,.slice none 0 0,.int .i64 s.al,.int .i64 s.st,.slice A n c,.int .i64 p.al,.slice B m d,.slice B' m' d',.int .i64 L] 99)))
 have cK:=(Blk.new w1 97 #[.int .i64 s.al,.int .i64 s.st,.slice A n c,.int .i64 p.al,.slice B m d,.slice B' m' d',.int .i64 L]).cell
 go_upto_region 5 with fail
 obtain⟨G10,hG10⟩:∃ G10,Hid (w1.heap.size=G10):=⟨_,rfl⟩
 generalize (w1.alloc (.cells #[.int .i64 s.al,.int .i64 s.st,.slice A n c,.int .i64 p.al,.slice B m d,.slice B' m' d',.int .i64 L] 97)).alloc (.cells #[.bool false,.int .i64 0,.slice none 0 0,.slice none 0 0,.int .i64 s.al,.int .i64 s.st,.slice A n c,.int .i64 p.al,.slice B m d,.slice B' m' d',.int .i64 L] 99)=w2 at *
 rw [hG10.out] at bK bT ⊢
 clear cK
 have htch2:=htch.ext hx12
 have hx02:=hx01.trans hx12
 have hbT:=bT.lt
 have HNT:=za (fun W (hW:Ext w2 W)=>zhS (c:=c) (d:=d) (d':=d') (htch2.ext hW))
 rw [htab.out] at HNT
 have HTA:=za (fun (R:Option Addr) (nr cr:Nat) (C:Option Addr) (nc cc:Nat) (rows cols:List ByteArray) W (hW:Ext w2 W) hT hI hcr hcc hcl=>zcx (c:=c) (d:=d) (d':=d') (nr:=nr) (nc:=nc) (R:=R) (C:=C) (cr:=cr) (cc:=cc) (rows:=rows) (cols:=cols) (htch2.ext hW) hT hI hcr hcc hcl)
 have HLS:=za (fun (R:Option Addr) (nr cr:Nat) (C:Option Addr) (nc cc:Nat) (rows cols:List ByteArray) (x:ByteArray) W (hW:Ext w2 W) hT hI hcr hcc hcl hx=>zgV (c:=c) (d:=d) (d':=d') (nr:=nr) (nc:=nc) (R:=R) (C:=C) (cr:=cr) (cc:=cc) (rows:=rows) (cols:=cols) (x:=x) (htch2.ext hW) hT hI hcr hcc hcl hx)
 have CTc:=bT.cells
 have CTk:=bK.cells
 have CS2:∀ W,Ext w2 W→∀ q,W.cell? ⟨w.heap.size,q,none⟩=_:=fun W hW=>CS W (hx02.trans hW)
 have CT2:∀ W,Ext w2 W→∀ q,W.cell? ⟨w.heap.size+1,q,none⟩=#[Value.int .i64 t.al,.int .i64 t.st,.slice _ k c2][q]?:=fun W hW=>CT W (hx02.trans hW)
 have CP2:∀ W,Ext w2 W→∀ q,W.cell? ⟨w.heap.size+1+1,q,none⟩=_:=fun W hW=>CP W (hx02.trans hW)
 have hww2:=Ext.refl w2
 clear hww CS CT CP
 go_upto_region 6 with (first
  |(go_at_call 72;refine (HNT.out _ hww2).mono ?_;intro e w3 hret;obtain⟨hx3,nr,nc,R,cr,C,cc,rfl,hcr,hcc,hT3⟩:=hret.fill (w0:=w2) (Nat.le_refl _);clear hret))
 have hx36:Ext w3 (((w3.alloc (.cells #[.slice R nr cr,.slice C nc cc] 102)).alloc (.cells #[.int .i64 2,.int .i64 0,.slice none 0 0,.slice none 0 0,.string ⟨#[]⟩,.int .i64 0] 73)).alloc (.cells #[.int .i64 0,.slice none 0 0,.slice none 0 0] 31)):=(((Ext.refl _).alloc _).alloc _).alloc _
 obtain⟨c13,c15,c16⟩:=zO (Ext.refl (((w3.alloc (.cells #[.slice R nr cr,.slice C nc cc] 102)).alloc (.cells #[.int .i64 2,.int .i64 0,.slice none 0 0,.slice none 0 0,.string ⟨#[]⟩,.int .i64 0] 73)).alloc (.cells #[.int .i64 0,.slice none 0 0,.slice none 0 0] 31)))
 go_wp2_with fail
 obtain⟨G,hG⟩:∃ G,Hid (w3.heap.size=G):=⟨_,rfl⟩
 have hGw:w2.heap.size≤G:=by rw [← hG.out];exact hx3.size
 generalize ((w3.alloc (.cells #[.slice R nr cr,.slice C nc cc] 102)).alloc (.cells #[.int .i64 2,.int .i64 0,.slice none 0 0,.slice none 0 0,.string ⟨#[]⟩,.int .i64 0] 73)).alloc (.cells #[.int .i64 0,.slice none 0 0,.slice none 0 0] 31)=w6 at *
 rw [hG.out] at c13 c15 c16 ⊢
 have hx26:=hx3.trans hx36
 have hTM:TabM w2 w6 G tab0:=⟨nr,nc,R,cr,C,cc,c13,hcr,hcc,fun rs cs e=>⟨zh (hT3 rs cs e).1 hx36,zh (hT3 rs cs e).2 hx36⟩⟩
 clear hT3 c13 hx3 hx36
 go_loopw [14] (fun fv wr=>∃ (o:Option (List ByteArray × List ByteArray)) (j:Nat) (x:Int) (X:Option Addr) (k1 d1:Nat) (X':Option Addr) (k1' d1':Nat),fv=.bool o.isSome∧j≤K∧Hid (zfp L (zy s p L) o)∧Hid (runT s t p L (K - j) j o=fin)∧TabM w2 wr G o∧Blk wr (G+1) 73 #[.int .i64 2,.int .i64 0,.slice none 0 0,.slice none 0 0,.string ⟨#[]⟩,.int .i64 j]∧Blk wr (G+1+1) 31 #[.int .i64 x,.slice X k1 d1,.slice X' k1' d1']∧Ext w2 wr) (fun _ wr=>K - roAt wr (G+1))
 case atStart=>exact⟨tab0,0,0,none,0,0,none,0,0,rfl,Nat.zero_le _,htok,zio,hTM,c15,c16,hx26⟩
 case round =>
  clear hTM c15 c16 hx26
  obtain⟨o,j,x,X,k1,d1,X',k1',d1',rfl,hj,hok,hrun,hTM,c15,c16,hxr⟩:=hrel
  have k15:=c15.cell
  have k16:=c16.cell
  by_cases hgo:o.isSome=true∧j<K
  ·obtain⟨⟨⟨rs,cs⟩,rfl⟩,hlt⟩:(∃ q,o=some q)∧j<K:=⟨Option.isSome_iff_exists.1 hgo.1,hgo.2⟩
   clear hgo
   obtain⟨hI,hcl⟩:=hok.out rs cs rfl
   have hlt':(j:Int)<(K:Int):=by omega
   have f15:=c15.frozen
   have c15a:Blk (wr.setCell ⟨G+1,5,none⟩ (.int .i64 ((j:Int)+1))) (G+1) 73 #[.int .i64 2,.int .i64 0,.slice none 0 0,.slice none 0 0,.string ⟨#[]⟩,.int .i64 ((j:Int)+1)]:=by
    simpa using c15.set_ 5 (.int .i64 ((j:Int)+1))
   have hfA:Frm (fun b=>b=G+1) wr (wr.setCell ⟨G+1,5,none⟩ (.int .i64 ((j:Int)+1))):=Frm.setCell wr _ 5 _
   have c16a:=c16.frm hfA (by omega)
   have hTMa:=hTM.far c15 hfA (by omega) (by decide)
   have hxa:=hxr.setCell (p:=⟨G+1,5,none⟩) (by dsimp only;omega) (.int .i64 ((j:Int)+1))
   go_upto_region 10 with fail
   have hmes:=za (roAt_blk c15)
   clear k15 k16 f15 hTM c15 c16 hxr hfA
   generalize wr.setCell ⟨G+1,5,none⟩ (.int .i64 ((j:Int)+1))=wA at *
   obtain⟨nr,nc,R,cr,C,cc,c13,hcr,hcc,hTT⟩:=hTMa
   obtain⟨oR,oC⟩:=hTT rs cs rfl
   have HTat:=za (show TabAt wA R nr C nc rs cs from ⟨_,_,_,_,Reads.of_own oR,Reads.of_own oC⟩)
   have k13:=c13.cell
   have cTc:=CTc wA hxa
   have hI':=za hI
   have hcl':=za hcl
   have hva:=za (zdR hI hcl htch.lt)
   clear hI hcl hTT
   go_upto_region 11 with (first
    |(go_at_call 73;refine (HTA.out _ _ _ _ _ _ rs cs _ hxa HTat.out hI'.out hcr hcc hcl'.out).mono ?_;rintro e wB ⟨Y,q1,e1,Y',q1',e1',rfl,hownA,hxB⟩))
   obtain⟨aut,haut⟩:∃ aut,Hid (zhe L (zy s p L) rs cs=aut):=⟨_,rfl⟩
   rw [haut.out] at hownA hva ⊢
   have hxC:=(Ext.refl wB).alloc (.cells #[.int .i64 aut.al,.slice Y q1 e1,.slice Y' q1' e1'] 31)
   have b17:=Blk.new wB 31 #[.int .i64 aut.al,.slice Y q1 e1,.slice Y' q1' e1']
   have hownC:=hownA.ext hxC
   generalize wB.alloc (.cells #[.int .i64 aut.al,.slice Y q1 e1,.slice Y' q1' e1'] 31)=wC at *
   have hxBC:=hxB.trans hxC
   have c16C:=c16a.ext hxBC
   have c15C:=c15a.ext hxBC
   have c13C:=c13.ext hxBC
   have oRC:=zh oR hxBC
   have oCC:=zh oC hxBC
   have k16:=c16C.cell
   have f16:=c16C.frozen
   have k17:=b17.cell
   have hfD:=zad wC (G+1+1) (.int .i64 aut.al) (.slice Y q1 e1) (.slice Y' q1' e1')
   have c16D:=zau c16C rfl (.int .i64 aut.al) (.slice Y q1 e1) (.slice Y' q1' e1')
   have c15D:=c15C.frm hfD (by omega)
   have c13D:=c13C.frm hfD (by omega)
   have oRD:=zf oRC hfD (fun b hv e=>zq oRC c16C (by decide) hv e)
   have oCD:=zf oCC hfD (fun b hv e=>zq oCC c16C (by decide) hv e)
   have hownD:=hownC.farT c16C hfD (by decide)
   have hxD:=((hxa.trans hxBC).frm hfD (fun k hk e=>by omega))
   have hsB:=za (hxa.trans hxB).size
   have hsA:=za hxa.size
   clear c16C c15C c13C oRC oCC hfD hownC hownA b17 c16a c15a c13 oR oC k13 cTc HTat
   go_upto_region 12 with fail
   generalize ((wC.setCell ⟨G+1+1,0,none⟩ (.int .i64 aut.al)).setCell ⟨G+1+1,1,none⟩ (.slice Y q1 e1)).setCell ⟨G+1+1,2,none⟩ (.slice Y' q1' e1')=wD at *
   clear k16 f16 k17
   have HJ:=za (zhV (c:=c) (d:=d) (d':=d') (c2:=c2) (d1:=e1) (d1':=e1') (htch2.ext hxD) (HSt.out wD (hx0.trans (hx02.trans hxD))) hownD.reads Hv.out.2.2 hva.out)
   have hJs:=za (judgeT_size (L:=L) Hv.out.1 Hv.out.2.1 Hv.out.2.2 hva.out)
   obtain⟨J,hJ⟩:∃ J,Hid (zem s p t L aut=J):=⟨_,rfl⟩
   rw [hJ.out] at HJ hJs
   have k16:=c16D.cell
   have cTk:=CTk wD hxD
   have cTt:=CT2 wD hxD
   go_upto_region 13 with (first
    |(go_at_call 205;refine HJ.out.mono ?_;rintro e wE ⟨rfl,hxE⟩))
   have hxDE:=hxD.trans hxE
   have c16E:=c16D.ext hxE
   have c15E:=c15D.ext hxE
   have c13E:=c13D.ext hxE
   have oRE:=zh oRD hxE
   have oCE:=zh oCD hxE
   have hownE:=hownD.ext hxE
   clear k16 cTk cTt c16D c15D c13D oRD oCD hownD HJ
   have hrunJ:=za (show (if J.2=0 then (⟨0,aut,⟨#[]⟩,j+1⟩:Vd) else if J.2=1 then ⟨1,noA,zaU [s,t] p,j+1⟩ else runT s t p L (K - (j+1)) (j+1) (zfa L (zy s p L) rs cs J.1))=fin by
    rw [← hrun.out,show K - j=(K - (j+1))+1 by omega]
    show _=runT s t p L ((K - (j+1))+1) j (some (rs,cs))
    rw [runT,haut.out,hJ.out])
   by_cases hJ0:J.2=0
   ·have hfn:=za (show fin=⟨0,aut,⟨#[]⟩,j+1⟩ by rw [← hrunJ.out,if_pos hJ0])
    have k15:=c15E.cell
    have f15:=c15E.frozen
    have c15F:Blk (wE.setCell ⟨G+1,0,none⟩ (.int .i64 0)) (G+1) 73 #[.int .i64 0,.int .i64 0,.slice none 0 0,.slice none 0 0,.string ⟨#[]⟩,.int .i64 ((j:Int)+1)]:=by
     simpa using c15E.set_ 0 (.int .i64 0)
    have hfF:Frm (fun b=>b=G+1) wE (wE.setCell ⟨G+1,0,none⟩ (.int .i64 0)):=Frm.setCell wE _ 0 _
    have c16F:=c16E.frm hfF (by omega)
    have hownF:=hownE.farT c15E hfF (by decide)
    have hxF:=hxDE.setCell (p:=⟨G+1,0,none⟩) (by dsimp only;omega) (.int .i64 0)
    clear hrunJ c13E c16E oRE oCE hfF hownE c15E
    go_upto_region 16 with fail
    generalize wE.setCell ⟨G+1,0,none⟩ (.int .i64 0)=wF at *
    clear k15 f15 hJ0
    have HCp:=za (zas (c:=e1) (c':=e1') hownF.reads (zdf hva.out))
    have k16:=c16F.cell
    go_upto_region 17 with (first
     |(go_at_call 123;refine HCp.out.mono ?_;rintro e wG ⟨Z1,z1,y1,Z2,z2,y2,rfl,hownG,hxG⟩;have k15:=(c15F.ext hxG).cell;have f15:=(c15F.ext hxG).frozen))
    have c15G:=c15F.ext hxG
    have c16G:=c16F.ext hxG
    have hfH:Frm (fun b=>b=G+1) wG (((wG.setCell ⟨G+1,1,none⟩ (.int .i64 aut.al)).setCell ⟨G+1,2,none⟩ (.slice Z1 z1 y1)).setCell ⟨G+1,3,none⟩ (.slice Z2 z2 y2)):=((Frm.setCell wG _ 1 _).trans (Frm.setCell _ _ 2 _)).trans (Frm.setCell _ _ 3 _)
    have c15H:Blk (((wG.setCell ⟨G+1,1,none⟩ (.int .i64 aut.al)).setCell ⟨G+1,2,none⟩ (.slice Z1 z1 y1)).setCell ⟨G+1,3,none⟩ (.slice Z2 z2 y2)) (G+1) 73 #[.int .i64 0,.int .i64 aut.al,.slice Z1 z1 y1,.slice Z2 z2 y2,.string ⟨#[]⟩,.int .i64 ((j:Int)+1)]:=by
     simpa using ((c15G.set_ 1 (.int .i64 aut.al)).set_ 2 (.slice Z1 z1 y1)).set_ 3 (.slice Z2 z2 y2)
    have c16H:=c16G.frm hfH (by omega)
    have hownH:=(hownG.farT c15G hfH (by decide)).less (show w.heap.size≤wF.heap.size by have:=hxF.size;have:=hx02.size;have:=hx0.size;omega)
    have hxH:=(hxF.trans hxG).frm hfH (fun k hk e=>by omega)
    clear k15 f15 k16 c15F c16F c15G c16G hfH hownF hownG HCp
    generalize ((wG.setCell ⟨G+1,1,none⟩ (.int .i64 aut.al)).setCell ⟨G+1,2,none⟩ (.slice Z1 z1 y1)).setCell ⟨G+1,3,none⟩ (.slice Z2 z2 y2)=wH at *
    have hxw:Ext w wH:=hx0.trans (hx02.trans hxH)
    have hb8:=b8.ext (hx02.trans hxH)
    have hb9':=b9.ext (hx02.trans hxH)
    obtain⟨f1,f2,f3⟩:=zgg (v:=⟨0,aut,⟨#[]⟩,j+1⟩) (x:=aut.al) (X:=Y) (k1:=q1) (d1:=e1) (X':=Y') (k1':=q1') (d1':=e1') hxw hb8 hb9' rfl rfl (by omega) hownH
    have F1:=za (zcM.cast hfn.out f1.out.drew)
    clear f1
    simp only [Int.natCast_add,Int.cast_ofNat_Int] at F1 f2 f3
    have F2:=za f2
    have F3:=za f3
    clear f2 f3
    have k8:=hb8.cell
    have z8:=hb8.frozen
    have k9:=hb9'.cell
    have z9:=hb9'.frozen
    have hne1:G+1≠Z:=by have:=hx02.size;omega
    have hne2:G+1+1≠Z:=by have:=hx02.size;omega
    have C15:∀ W,Frm (fun b=>b=Z) wH W→∀ q,W.cell? ⟨G+1,q,none⟩=#[Value.int .i64 0,.int .i64 aut.al,.slice Z1 z1 y1,.slice Z2 z2 y2,.string ⟨#[]⟩,.int .i64 ((j:Int)+1)][q]?:=fun W hW=>(c15H.frm hW hne1).cell
    have C16:∀ W,Frm (fun b=>b=Z) wH W→∀ q,W.cell? ⟨G+1+1,q,none⟩=#[Value.int .i64 aut.al,.slice Y q1 e1,.slice Y' q1' e1'][q]?:=fun W hW=>(c16H.frm hW hne2).cell
    have hS0:Frm (fun b=>b=Z) wH wH.drew:=⟨rfl,rfl,rfl,Nat.le_refl _,fun _ _ _=>rfl⟩
    have hf8:=za (zhP wH Z (.int .i64 0) (.int .i64 aut.al) (.slice Z1 z1 y1) (.slice Z2 z2 y2) (.string ⟨#[]⟩) (.int .i64 ((j:Int)+1)))
    clear c15H c16H hownH hb8 hb9' hxw hne1 hne2
    go_wp2_with fail
    refine zbl (fun Y=>Frm (fun b=>b=Z) wH Y) [3] (zw.of [0,1,2,3]) (by kernel_rfl) (by kernel_rfl) (by kernel_rfl) (by kernel_rfl) (by kernel_rfl) (fun _ _ _ _ _ h=>h) hS0 ?_
    refine zbO (v:=?_) rfl rfl rfl rfl (fun X hX=>?_) ?_
    rotate_left
    focus (go_simp<;>with_reducible rfl)
    refine pT ?_
    refine zbO (v:=?_) rfl rfl rfl rfl (fun X hX=>?_) ?_
    rotate_left
    focus (go_simp<;>with_reducible rfl)
    refine pT ?_
    (refine zd rfl rfl rfl (fun K hK=>?_);go_simp)
    refine hK.out _ _ hf8.out.drew ?_
    refine pT ?_
    (refine zb rfl rfl rfl rfl (fun K hK=>?_))
    go_simp
    refine hK.out _ _ ?_
    refine ze ?_
    go_wp2_with fail
    have cf2:=F2.out.cell
    have cf3:=F3.out.cell
    exact bodyPost_ret (v:=.tuple #[.agg #[.int .i64 0,.int .i64 aut.al,.slice Z1 z1 y1,.slice Z2 z2 y2,.string ⟨#[]⟩,.int .i64 ((j:Int)+1)],.agg #[.int .i64 aut.al,.slice Y q1 e1,.slice Y' q1' e1']]) (by simp [results,Tryz.results115,go_sem,cf2,cf3]) rfl F1.out
   ·by_cases hJ1:J.2=1
    ·have hfn:=za (show fin=⟨1,noA,zaU [s,t] p,j+1⟩ by rw [← hrunJ.out,if_neg hJ0,if_pos hJ1])
     have HP:=za (HPv2.out wE (hx0.trans (hx02.trans hxDE)))
     have cS:=CS2 wE hxDE
     have cT:=CT2 wE hxDE
     have cP:∀ (v:Array Value) (q:Nat),(wE.alloc (.cells v 38)).cell? ⟨w.heap.size+1+1,q,none⟩=_:=fun v q=>CP2 _ (hxDE.trans ((Ext.refl wE).alloc _)) q
     clear hJ0 hrunJ c13E oRE oCE hownE
     go_upto_region 20 with (first
      |(go_at_call 151;refine HP.out.mono ?_;rintro e wF ⟨rfl,hxF⟩;clear cS cT cP))
     have c15F:=c15E.ext hxF
     have c16F:=c16E.ext hxF
     have hxDF:=hxDE.trans hxF
     have k15:=c15F.cell
     have f15:=c15F.frozen
     clear HP c15E c16E
     go_upto_region 22 with fail
     have hfH:Frm (fun b=>b=G+1) wF ((wF.setCell ⟨G+1,0,none⟩ (.int .i64 1)).setCell ⟨G+1,4,none⟩ (.string (zaU [s,t] p))):=(Frm.setCell wF _ 0 _).trans (Frm.setCell _ _ 4 _)
     have c15H:Blk ((wF.setCell ⟨G+1,0,none⟩ (.int .i64 1)).setCell ⟨G+1,4,none⟩ (.string (zaU [s,t] p))) (G+1) 73 #[.int .i64 1,.int .i64 0,.slice none 0 0,.slice none 0 0,.string (zaU [s,t] p),.int .i64 ((j:Int)+1)]:=by
      simpa using (c15F.set_ 0 (.int .i64 1)).set_ 4 (.string (zaU [s,t] p))
     have c16H:=c16F.frm hfH (by omega)
     have hxH:=hxDF.frm hfH (fun k hk e=>by omega)
     clear k15 f15 c15F c16F hfH hJ1
     generalize (wF.setCell ⟨G+1,0,none⟩ (.int .i64 1)).setCell ⟨G+1,4,none⟩ (.string (zaU [s,t] p))=wH at *
     have hxw:Ext w wH:=hx0.trans (hx02.trans hxH)
     have hb8:=b8.ext (hx02.trans hxH)
     have hb9':=b9.ext (hx02.trans hxH)
     obtain⟨f1,f2,f3⟩:=zgg (v:=⟨1,noA,zaU [s,t] p,j+1⟩) (A:=none) (n:=0) (c:=0) (A':=none) (n':=0) (c':=0) (x:=aut.al) (X:=Y) (k1:=q1) (d1:=e1) (X':=Y') (k1':=q1') (d1':=e1') hxw hb8 hb9' rfl rfl (by omega) (⟨⟨[],World.ownsRow_nil _ _ _ _,zI.nil _ _⟩,rfl,World.ownsRow_nil _ _ _ _,rfl⟩:zZ wH w.heap.size none 0 0 none 0 0 noA)
     have F1:=za (zcM.cast hfn.out f1.out.drew)
     clear f1
     simp only [noA,Int.natCast_add,Int.cast_ofNat_Int] at F1 f2 f3
     have F2:=za f2
     have F3:=za f3
     clear f2 f3
     have k8:=hb8.cell
     have z8:=hb8.frozen
     have k9:=hb9'.cell
     have z9:=hb9'.frozen
     have hne1:G+1≠Z:=by have:=hx02.size;omega
     have hne2:G+1+1≠Z:=by have:=hx02.size;omega
     have C15:∀ W,Frm (fun b=>b=Z) wH W→∀ q,W.cell? ⟨G+1,q,none⟩=#[Value.int .i64 1,.int .i64 0,.slice none 0 0,.slice none 0 0,.string (zaU [s,t] p),.int .i64 ((j:Int)+1)][q]?:=fun W hW=>(c15H.frm hW hne1).cell
     have C16:∀ W,Frm (fun b=>b=Z) wH W→∀ q,W.cell? ⟨G+1+1,q,none⟩=#[Value.int .i64 aut.al,.slice Y q1 e1,.slice Y' q1' e1'][q]?:=fun W hW=>(c16H.frm hW hne2).cell
     have hS0:Frm (fun b=>b=Z) wH wH.drew:=⟨rfl,rfl,rfl,Nat.le_refl _,fun _ _ _=>rfl⟩
     have hf8:=za (zhP wH Z (.int .i64 1) (.int .i64 0) (.slice none 0 0) (.slice none 0 0) (.string (zaU [s,t] p)) (.int .i64 ((j:Int)+1)))
     clear c15H c16H hb8 hb9' hxw hne1 hne2
     go_wp2_with fail
     refine zbl (fun Y=>Frm (fun b=>b=Z) wH Y) [3] (zw.of [0,1,2,3]) (by kernel_rfl) (by kernel_rfl) (by kernel_rfl) (by kernel_rfl) (by kernel_rfl) (fun _ _ _ _ _ h=>h) hS0 ?_
     refine zbO (v:=?_) rfl rfl rfl rfl (fun X hX=>?_) ?_
     rotate_left
     focus (go_simp<;>with_reducible rfl)
     refine pT ?_
     refine zbO (v:=?_) rfl rfl rfl rfl (fun X hX=>?_) ?_
     rotate_left
     focus (go_simp<;>with_reducible rfl)
     refine pT ?_
     (refine zd rfl rfl rfl (fun K hK=>?_);go_simp)
     refine hK.out _ _ hf8.out.drew ?_
     refine pT ?_
     (refine zb rfl rfl rfl rfl (fun K hK=>?_))
     go_simp
     refine hK.out _ _ ?_
     refine ze ?_
     go_wp2_with fail
     have cf2:=F2.out.cell
     have cf3:=F3.out.cell
     exact bodyPost_ret (v:=.tuple #[.agg #[.int .i64 1,.int .i64 0,.slice none 0 0,.slice none 0 0,.string (zaU [s,t] p),.int .i64 ((j:Int)+1)],.agg #[.int .i64 aut.al,.slice Y q1 e1,.slice Y' q1' e1']]) (by simp [results,Tryz.results115,go_sem,cf2,cf3]) rfl F1.out
    ·have e0:(J.2==0)=false:=by simpa using hJ0
     have e2:(J.2==1)=false:=by simpa using hJ1
     have hrunL:=za (show runT s t p L (K - (j+1)) (j+1) (zfa L (zy s p L) rs cs J.1)=fin by
      have:=hrunJ.out
      rw [if_neg hJ0,if_neg hJ1] at this
      exact this)
     clear hJ0 hJ1 hrunJ
     have cTc:=CTc wE hxDE
     have k13:=c13E.cell
     have HTatE:=za (show TabAt wE R nr C nc rs cs from ⟨_,_,_,_,Reads.of_own oRE,Reads.of_own oCE⟩)
     go_upto_region 24 with (first
      |(go_at_call 79;refine (HLS.out _ _ _ _ _ _ rs cs J.1 _ hxDE HTatE.out hI'.out hcr hcc hcl'.out (by have:=hJs.out;omega)).mono ?_;intro e wF hret;obtain⟨hxF,nr2,nc2,R2,cr2,C2,cc2,rfl,hcr2,hcc2,hT2⟩:=hret.fill (w0:=w2) hxDE.size;clear hret))
     have hokL:=za (zfp.learn hI'.out J.1)
     generalize zfa L (zy s p L) rs cs J.1=oL at *
     have hxG:=(Ext.refl wF).alloc (.cells #[.slice R2 nr2 cr2,.slice C2 nc2 cc2] 102)
     have b23:=Blk.new wF 102 #[.slice R2 nr2 cr2,.slice C2 nc2 cc2]
     generalize wF.alloc (.cells #[.slice R2 nr2 cr2,.slice C2 nc2 cc2] 102)=wG at *
     have hxEG:=hxF.trans hxG
     have c13G:=c13E.ext hxEG
     have c15G:=c15E.ext hxEG
     have c16G:=c16E.ext hxEG
     have hxDG:=hxDE.trans hxEG
     have k23:=b23.cell
     have k13G:=c13G.cell
     have f13G:=c13G.frozen
     have hfH:Frm (fun b=>b=G) wG ((wG.setCell ⟨G,0,none⟩ (.slice R2 nr2 cr2)).setCell ⟨G,1,none⟩ (.slice C2 nc2 cc2)):=(Frm.setCell wG _ 0 _).trans (Frm.setCell _ _ 1 _)
     have hTMH:TabM w2 ((wG.setCell ⟨G,0,none⟩ (.slice R2 nr2 cr2)).setCell ⟨G,1,none⟩ (.slice C2 nc2 cc2)) G oL:=
      ⟨nr2,nc2,R2,cr2,C2,cc2,by simpa using (c13G.set_ 0 (.slice R2 nr2 cr2)).set_ 1 (.slice C2 nc2 cc2),hcr2,hcc2,fun rs' cs' e=>by
       have h1:=zh (hT2 rs' cs' e).1 hxG
       have h2:=zh (hT2 rs' cs' e).2 hxG
       exact⟨zf h1 hfH (fun b hv e'=>zq h1 c13G (by decide) hv e'),zf h2 hfH (fun b hv e'=>zq h2 c13G (by decide) hv e')⟩⟩
     have c15H:=c15G.frm hfH (by omega)
     have c16H:=c16G.frm hfH (by omega)
     have hxH:=hxDG.frm hfH (fun k hk e=>by omega)
     clear cTc k13 c13E c15E c16E oRE oCE hownE c13G c15G c16G hfH b23 hT2
     go_upto_region 25 with fail
     generalize (wG.setCell ⟨G,0,none⟩ (.slice R2 nr2 cr2)).setCell ⟨G,1,none⟩ (.slice C2 nc2 cc2)=wH at *
     clear k23 k13G f13G
     have hjj:((j:Int)+1)=((j+1:Nat):Int):=by omega
     rw [hjj] at c15H
     have hmes2:=za (roAt_blk c15H)
     clear hjj
     go_wp2_with fail
     go_roundw
     case rel=>exact⟨oL,j+1,aut.al,Y,q1,e1,Y',q1',e1',rfl,by omega,hokL,hrunL,hTMH,c15H,c16H,hxH⟩
     case measure=>have h1:=hmes.out;have h2:=hmes2.out;omega
  ·have hfn:=za (show fin=⟨2,noA,⟨#[]⟩,j⟩ by
    rw [← hrun.out]
    exact runT_end hgo)
   have hb8:=(b8.ext (hx02.trans hxr))
   have hb9':=(b9.ext (hx02.trans hxr))
   have hon:zZ wr w.heap.size none 0 0 none 0 0 noA:=⟨⟨[],World.ownsRow_nil _ _ _ _,zI.nil _ _⟩,rfl,World.ownsRow_nil _ _ _ _,rfl⟩
   have hflag:(o.isSome&&decide ((j:Int)<(K:Int)))=false:=by
    rw [Bool.eq_false_iff]
    intro h
    simp only [Bool.and_eq_true,decide_eq_true_eq] at h
    exact hgo ⟨h.1,by omega⟩
   have hxw:Ext w wr:=hx0.trans (hx02.trans hxr)
   have hd:Ext wr wr.drew:=(Ext.refl wr).drew
   obtain⟨f1,f2,f3⟩:=zgg (v:=⟨2,noA,⟨#[]⟩,j⟩) (x:=x) (X:=X) (k1:=k1) (d1:=d1) (X':=X') (k1':=k1') (d1':=d1') hxw hb8 hb9' rfl rfl (by omega) hon
   have F1:=za (zcM.cast hfn.out f1.out.drew)
   clear f1
   simp only [noA] at F1 f2 f3
   have F2:=za f2
   have F3:=za f3
   clear f2 f3
   have k8:=hb8.cell
   have z8:=hb8.frozen
   have k9:=hb9'.cell
   have z9:=hb9'.frozen
   have hsw:=hx0.size
   have hne1:G+1≠Z:=by have:=hx02.size;omega
   have hne2:G+1+1≠Z:=by have:=hx02.size;omega
   have C15:∀ W,Frm (fun b=>b=Z) wr W→∀ q,W.cell? ⟨G+1,q,none⟩=#[Value.int .i64 2,.int .i64 0,.slice none 0 0,.slice none 0 0,.string ⟨#[]⟩,.int .i64 j][q]?:=fun W hW=>(c15.frm hW hne1).cell
   have C16:∀ W,Frm (fun b=>b=Z) wr W→∀ q,W.cell? ⟨G+1+1,q,none⟩=#[Value.int .i64 x,.slice X k1 d1,.slice X' k1' d1'][q]?:=fun W hW=>(c16.frm hW hne2).cell
   have hS0:Frm (fun b=>b=Z) wr wr.drew:=⟨rfl,rfl,rfl,Nat.le_refl _,fun _ _ _=>rfl⟩
   have hf8:=za (zhP wr (Z) (.int .i64 2) (.int .i64 0) (.slice none 0 0) (.slice none 0 0) (.string ⟨#[]⟩) (.int .i64 j))
   cases ho:o.isSome
   ·have Ho:=za ho
    rw [ho] at hflag
    exact yK14a4
   ·have hnlt:¬ ((j:Int)<(K:Int)):=fun h=>hgo ⟨ho,by omega⟩
    have Ho:=za ho
    exact yK14a4
end
def RetVd (w:World) (v:Vd) (e:Ending) (w':World):Prop:=
 ∃ (A:Option Addr) (n c:Nat) (A':Option Addr) (n' c':Nat),
  e=.returned (.agg #[.int .i64 v.code,.int .i64 v.asm.al,.slice A n c,.slice A' n' c',.string v.tr,.int .i64 v.ro])∧zZ w' w.heap.size A n c A' n' c' v.asm∧Ext w w'
section
variable {w:World} {lo hi n c lo1 hi1 m d m' d' lo2 hi2 k c2:Nat} {A B B' C:Option Addr} {s t:Sys} {p:Aut}
theorem zcH {v:Vd} (HR:Hid (∀ W,Ext w W→Calls Tryz.prog 115 #[.agg #[.int .i64 s.al,.int .i64 s.st,.slice A n c],.agg #[.int .i64 t.al,.int .i64 t.st,.slice C k c2],.agg #[.int .i64 p.al,.slice B m d,.slice B' m' d'],.int .i64 12] W (zcM W v))) :
  Calls Tryz.prog 50 #[.agg #[.int .i64 s.al,.int .i64 s.st,.slice A n c],.agg #[.int .i64 t.al,.int .i64 t.st,.slice C k c2],.agg #[.int .i64 p.al,.slice B m d,.slice B' m' d']] w
   (RetVd w v):=by
 have hx0:Ext w ((((w.alloc (.cells #[.int .i64 s.al,.int .i64 s.st,.slice A n c] 38)).alloc (.cells #[.int .i64 t.al,.int .i64 t.st,.slice C k c2] 38)).alloc (.cells #[.int .i64 p.al,.slice B m d,.slice B' m' d'] 31)).alloc (.cells #[.int .i64 0,.int .i64 0,.slice none 0 0,.slice none 0 0,.string ⟨#[]⟩,.int .i64 0] 73)):=((((Ext.refl _).alloc _).alloc _).alloc _).alloc _
 obtain⟨b1,b2,b3⟩:=zO ((Ext.refl _).alloc _:Ext (((w.alloc (.cells #[.int .i64 s.al,.int .i64 s.st,.slice A n c] 38)).alloc (.cells #[.int .i64 t.al,.int .i64 t.st,.slice C k c2] 38)).alloc (.cells #[.int .i64 p.al,.slice B m d,.slice B' m' d'] 31)) ((((w.alloc (.cells #[.int .i64 s.al,.int .i64 s.st,.slice A n c] 38)).alloc (.cells #[.int .i64 t.al,.int .i64 t.st,.slice C k c2] 38)).alloc (.cells #[.int .i64 p.al,.slice B m d,.slice B' m' d'] 31)).alloc (.cells #[.int .i64 0,.int .i64 0,.slice none 0 0,.slice none 0 0,.string ⟨#[]⟩,.int .i64 0] 73)))
 have b6:=Blk.new (((w.alloc (.cells #[.int .i64 s.al,.int .i64 s.st,.slice A n c] 38)).alloc (.cells #[.int .i64 t.al,.int .i64 t.st,.slice C k c2] 38)).alloc (.cells #[.int .i64 p.al,.slice B m d,.slice B' m' d'] 31)) 73 #[.int .i64 0,.int .i64 0,.slice none 0 0,.slice none 0 0,.string ⟨#[]⟩,.int .i64 0]
 simp only [World.size_alloc] at b6
 go_enter Tryz.func50,Tryz.ntmps50
 go_upto_region 1 with fail
 generalize (((w.alloc (.cells #[.int .i64 s.al,.int .i64 s.st,.slice A n c] 38)).alloc (.cells #[.int .i64 t.al,.int .i64 t.st,.slice C k c2] 38)).alloc (.cells #[.int .i64 p.al,.slice B m d,.slice B' m' d'] 31)).alloc (.cells #[.int .i64 0,.int .i64 0,.slice none 0 0,.slice none 0 0,.string ⟨#[]⟩,.int .i64 0] 73)=w0 at *
 have c1:=b1.cell
 have cc2:=b2.cell
 have c3:=b3.cell
 go_upto_region 2 with (first
  |(go_at_call 115;refine (HR.out w0 hx0).mono ?_;rintro e w1 ⟨A1,n1,k1,A2,n2,k2,x,X,q1,d1,X',q1',d1',rfl,ho,hx1⟩;clear c1 cc2 c3))
 have hx2:=((Ext.refl w1).alloc (.cells #[.int .i64 v.code,.int .i64 v.asm.al,.slice A1 n1 k1,.slice A2 n2 k2,.string v.tr,.int .i64 v.ro] 73)).alloc (.cells #[.int .i64 x,.slice X q1 d1,.slice X' q1' d1'] 31)
 have b7:=(Blk.new w1 73 #[.int .i64 v.code,.int .i64 v.asm.al,.slice A1 n1 k1,.slice A2 n2 k2,.string v.tr,.int .i64 v.ro]).ext ((Ext.refl _).alloc (.cells #[.int .i64 x,.slice X q1 d1,.slice X' q1' d1'] 31))
 generalize (w1.alloc (.cells #[.int .i64 v.code,.int .i64 v.asm.al,.slice A1 n1 k1,.slice A2 n2 k2,.string v.tr,.int .i64 v.ro] 73)).alloc (.cells #[.int .i64 x,.slice X q1 d1,.slice X' q1' d1'] 31)=w2 at *
 have b62:=b6.ext (hx1.trans hx2)
 have k7:=b7.cell
 have k6:=b62.cell
 have f6:=b62.frozen
 have ho2:=ho.ext hx2
 have hf:=zhP w2 (w.heap.size+1+1+1) (.int .i64 v.code) (.int .i64 v.asm.al) (.slice A1 n1 k1) (.slice A2 n2 k2) (.string v.tr) (.int .i64 v.ro)
 have b63:Blk ((((((w2.setCell ⟨w.heap.size+1+1+1,0,none⟩ (.int .i64 v.code)).setCell ⟨w.heap.size+1+1+1,1,none⟩ (.int .i64 v.asm.al)).setCell ⟨w.heap.size+1+1+1,2,none⟩ (.slice A1 n1 k1)).setCell ⟨w.heap.size+1+1+1,3,none⟩ (.slice A2 n2 k2)).setCell ⟨w.heap.size+1+1+1,4,none⟩ (.string v.tr)).setCell ⟨w.heap.size+1+1+1,5,none⟩ (.int .i64 v.ro)) (w.heap.size+1+1+1) 73 #[.int .i64 v.code,.int .i64 v.asm.al,.slice A1 n1 k1,.slice A2 n2 k2,.string v.tr,.int .i64 v.ro]:=by
  simpa using (((((b62.set_ 0 (.int .i64 v.code)).set_ 1 (.int .i64 v.asm.al)).set_ 2 (.slice A1 n1 k1)).set_ 3 (.slice A2 n2 k2)).set_ 4 (.string v.tr)).set_ 5 (.int .i64 v.ro)
 have ho3:=(ho2.farT b62 hf (by decide)).less hx0.size
 have hx3:=(hx0.trans (hx1.trans hx2)).frm hf (fun k hk e=>by omega)
 have hret:=za (show RetVd w v (.returned (.agg #[.int .i64 v.code,.int .i64 v.asm.al,.slice A1 n1 k1,.slice A2 n2 k2,.string v.tr,.int .i64 v.ro])) _ from ⟨A1,n1,k1,A2,n2,k2,rfl,ho3,hx3⟩)
 have cf:=za b63
 clear b62 ho2 ho ho3 hx3 hf b63
 go_wp2_with fail
 have cf:=cf.out.cell
 exact bodyPost_ret (v:=.agg #[.int .i64 v.code,.int .i64 v.asm.al,.slice A1 n1 k1,.slice A2 n2 k2,.string v.tr,.int .i64 v.ro]) (by simp [results,Tryz.results50,go_sem,cf]) rfl hret.out
theorem zgB {L:Nat}(hs:zN w lo hi A n s)(hp:zG w lo1 hi1 B m B' m' p)(ht:zN w lo2 hi2 C k t)(hif:iface s p t=(L:Int))(hn:n≤1000000)(hhi:hi≤w.heap.size) :
  Calls Tryz.prog 50 #[.agg #[.int .i64 s.al,.int .i64 s.st,.slice A n c],.agg #[.int .i64 t.al,.int .i64 t.st,.slice C k c2],.agg #[.int .i64 p.al,.slice B m d,.slice B' m' d']] w
   (RetVd w (runT s t p L 12 0 ((zaW L (zy s p L) [⟨#[]⟩] 11 [⟨#[]⟩]).map fun r=>(r,[⟨#[]⟩])))):=
 zcH (za (fun W (hW:Ext w W)=>spec_l12Run (K:=12) (hs.ext hW) (hp.ext hW) (ht.ext hW) hif hn (Nat.le_trans hhi hW.size) (by omega)))
end
theorem runT_size {s t:Sys} {p:Aut} {L:Nat}(hL:L<64)(hst:zE [s,t]=true)(hp:zi p=true) (f:Nat):∀ (k:Nat) (o:Option (List ByteArray × List ByteArray)),zfp L (zy s p L) o→(runT s t p L f k o).asm.size≤1048576∧(runT s t p L f k o).tr.size≤4000:=by
 induction f with
 |zero=>exact fun k o _=>⟨by show noA.size≤_;decide,Nat.zero_le _⟩
 |succ f ih =>
  intro k o ho
  match o with
  |none=>exact⟨by show noA.size≤_;decide,Nat.zero_le _⟩
  |some (rs,cs) =>
   obtain⟨hI,hcl⟩:=ho rs cs rfl
   rw [runT]
   split
   ·exact⟨zdf (zdR hI hcl hL),Nat.zero_le _⟩
   ·split
    ·refine⟨by show noA.size≤_;decide,?_⟩
     have h:=(zfr hst hp).2
     have h2:16 ^ [s,t].length*12=3072:=by simp
     show (zaU [s,t] p).size≤4000
     omega
    ·exact ih _ _ (zfp.learn hI _)
theorem zao (W:World) (Z:Nat) (u0 u1 u2 u3 u4:Value):Frm (fun k=>k=Z) W (((((W.setCell ⟨Z,0,none⟩ u0).setCell ⟨Z,1,none⟩ u1).setCell ⟨Z,2,none⟩ u2).setCell ⟨Z,3,none⟩ u3).setCell ⟨Z,4,none⟩ u4):=
 ((((Frm.setCell W Z 0 u0).trans (Frm.setCell _ Z 1 u1)).trans (Frm.setCell _ Z 2 u2)).trans (Frm.setCell _ Z 3 u3)).trans (Frm.setCell _ Z 4 u4)
theorem zan {w:World} {Z:Nat} {cs:Array Value} {t:TypeId}(h:Blk w Z t cs)(hc:cs.size=5) (u0 u1 u2 u3 u4:Value):Blk (((((w.setCell ⟨Z,0,none⟩ u0).setCell ⟨Z,1,none⟩ u1).setCell ⟨Z,2,none⟩ u2).setCell ⟨Z,3,none⟩ u3).setCell ⟨Z,4,none⟩ u4) Z t #[u0,u1,u2,u3,u4]:=by
 obtain⟨l⟩:=cs
 match l,hc with
 |[a,b,c,d,e],_=>simpa using ((((h.set_ 0 u0).set_ 1 u1).set_ 2 u2).set_ 3 u3).set_ 4 u4
def zcp (w:World) (hd:Bool) (a:Aut) (s:ByteArray) (b:Bool) (e:Ending) (w':World):Prop:=
 ∃ A n c A' n' c',e=.returned (.tuple #[.agg #[.bool hd,.int .i64 a.al,.slice A n c,.slice A' n' c',.string s],.bool b])∧zZ w' w.heap.size A n c A' n' c' a∧Ext w w'
def aut0:Aut:=⟨0,[],[]⟩
theorem zgc (w:World) (base:Nat):zZ w base none 0 0 none 0 0 aut0:=⟨⟨[],World.ownsRow_nil _ _ _ _,zI.nil _ _⟩,rfl,World.ownsRow_nil _ _ _ _,rfl⟩
def okC (cd:Int) (a:Aut) (s:ByteArray):Bool:=(decide (cd=0) || decide (cd=1))&&zK (decide (cd=0)) a s
theorem okC0 (a:Aut) (s:ByteArray):okC 0 a s=zK true a s:=by simp [okC]
theorem okC1 (a:Aut) (s:ByteArray):okC 1 a s=zK false a s:=by simp [okC]
def NewC (w W:World) (G:Nat) (hd:Bool) (a:Aut) (s:ByteArray) (B:Option Addr) (m d:Nat) (B':Option Addr) (m' d':Nat):Prop:=
 Blk W G 33 #[.bool hd,.int .i64 a.al,.slice B m d,.slice B' m' d',.string s]∧zZ W w.heap.size B m d B' m' d' a∧Ext w W∧w.heap.size≤G
theorem zZ.own_far5 {w w':World} {base G:Nat} {A:Option Addr} {n c:Nat} {A':Option Addr} {n' c':Nat} {a:Aut} {cs:Array Value}(h:zZ w base A n c A' n' c' a)(hB:Blk w G 33 cs)(hf:Frm (fun k=>k=G) w w'):zZ w' base A n c A' n' c' a:=by
 obtain⟨⟨rows,h1,h2⟩,h3,h4,h5⟩:=h
 exact⟨⟨rows,zf h1 hf (fun b hb e=>zq h1 hB (by decide) hb e),h2.frm hf (fun i row b hr hb e=>by
  obtain⟨l,_,ho⟩:=h2.row hr
  exact zq ho hB (by decide) hb e)⟩,h3,zf h4 hf (fun b hb e=>zq h4 hB (by decide) hb e),h5⟩
theorem yK14b1 {P:Prop}(h:P:=by
 rintro e w4 ⟨B,m,d,B',m',d',rfl,own4,hx4⟩
 replace own4:=own4.less hx0.size
 replace hx0:=hx0.trans hx4
 refine hK.out _ _ hx0 ?_
 refine pT ?_
 refine uQ ?_
 (refine zd rfl rfl rfl (fun K hK=>?_);go_simp)
 have hx1:=(Ext.refl w4).alloc (.cells #[.bool false,.int .i64 0,.slice none 0 0,.slice none 0 0,.string ⟨#[]⟩] 33)
 have hb:=Blk.new w4 33 #[.bool false,.int .i64 0,.slice none 0 0,.slice none 0 0,.string ⟨#[]⟩]
 have hG:=hx0.size
 replace own4:=own4.ext hx1
 replace hx0:=hx0.trans hx1
 refine hK.out _ _ hx0 ?_
 generalize w4.alloc (.cells #[.bool false,.int .i64 0,.slice none 0 0,.slice none 0 0,.string ⟨#[]⟩] 33)=wg at *
 generalize w4.heap.size=G at *
 refine pT ?_
 refine uQ ?_
 have cG:=hb.cell
 have fG:=hb.frozen
 (refine zb rfl rfl rfl rfl (fun K hK=>?_))
 go_simp
 refine hK.out _ _ ?_
 refine ze ?_
 have hfl:=zao wg G (.bool true) (.int .i64 a.al) (.slice B m d) (.slice B' m' d') (.string s)
 have zio:NewC w2 (((((wg.setCell ⟨G,0,none⟩ (.bool true)).setCell ⟨G,1,none⟩ (.int .i64 a.al)).setCell ⟨G,2,none⟩ (.slice B m d)).setCell ⟨G,3,none⟩ (.slice B' m' d')).setCell ⟨G,4,none⟩ (.string s)) G true a s B m d B' m' d':=⟨zan hb rfl _ _ _ _ _,own4.own_far5 hb hfl,hx0.frm hfl (fun k hk e=>by omega),hG⟩
 go_wp2_with fail
 go_meet
 exact⟨G,_,_,_,_,_,_,rfl,zio⟩
 ):P:=h
theorem yK14b2 {P:Prop}(h:P:=by
 rintro e w4 ⟨B,m,d,B',m',d',rfl,own4,hx4⟩
 replace own4:=own4.less hx0.size
 replace hb:=hb.ext hx4
 replace hx0:=hx0.trans hx4
 refine hK.out _ _ hx0 ?_
 refine pT ?_
 refine uQ ?_
 have cG:=hb.cell
 have fG:=hb.frozen
 (refine zb rfl rfl rfl rfl (fun K hK=>?_))
 go_simp
 refine hK.out _ _ ?_
 refine ze ?_
 have hfl:=zao w4 G (.bool true) (.int .i64 a.al) (.slice B m d) (.slice B' m' d') (.string s)
 have zio:NewC w2 (((((w4.setCell ⟨G,0,none⟩ (.bool true)).setCell ⟨G,1,none⟩ (.int .i64 a.al)).setCell ⟨G,2,none⟩ (.slice B m d)).setCell ⟨G,3,none⟩ (.slice B' m' d')).setCell ⟨G,4,none⟩ (.string s)) G true a s B m d B' m' d':=⟨zan hb rfl _ _ _ _ _,own4.own_far5 hb hfl,hx0.frm hfl (fun k hk e=>by omega),hG⟩
 go_wp2_with fail
 go_meet
 exact⟨G,_,_,_,_,_,_,rfl,zio⟩
 ):P:=h
theorem impl_CertificateOf0t {lo hi:Nat} {A:Option Addr} {n c:Nat} {A':Option Addr} {n' c':Nat} {ro:Int} {a:Aut} {s:ByteArray} {w:World}(h:zG w lo hi A n A' n' a)(hs:a.size≤1048576)(hs9:s.size≤9223372036854775807)(hv:zK true a s=true) :
  Calls Tryz.prog 53 #[.agg #[.int .i64 0,.int .i64 a.al,.slice A n c,.slice A' n' c',.string s,.int .i64 ro]] w (zcp w true a s true):=by
 have Hv:=za hv
 clear hv
 have HS:=za (fun W (hW:Ext w W)=>h.ext hW)
 have hss:=hs
 clear h
 go_enter Tryz.func53,Tryz.ntmps53
 obtain⟨b1,bz⟩:=zU (Ext.refl ((w.alloc (.cells #[.int .i64 0,.int .i64 a.al,.slice A n c,.slice A' n' c',.string s,.int .i64 ro] 73)).alloc (.cells #[.bool false,.int .i64 0,.slice none 0 0,.slice none 0 0,.string ⟨#[]⟩] 33)))
 have hw2:Ext w ((w.alloc (.cells #[.int .i64 0,.int .i64 a.al,.slice A n c,.slice A' n' c',.string s,.int .i64 ro] 73)).alloc (.cells #[.bool false,.int .i64 0,.slice none 0 0,.slice none 0 0,.string ⟨#[]⟩] 33)):=((Ext.refl w).alloc _).alloc _
 have hsz2:w.heap.size+2=((w.alloc (.cells #[.int .i64 0,.int .i64 a.al,.slice A n c,.slice A' n' c',.string s,.int .i64 ro] 73)).alloc (.cells #[.bool false,.int .i64 0,.slice none 0 0,.slice none 0 0,.string ⟨#[]⟩] 33)).heap.size:=by simp
 have k1:=b1.cell
 go_upto_region 3 with fail
 generalize (w.alloc (.cells #[.int .i64 0,.int .i64 a.al,.slice A n c,.slice A' n' c',.string s,.int .i64 ro] 73)).alloc (.cells #[.bool false,.int .i64 0,.slice none 0 0,.slice none 0 0,.string ⟨#[]⟩] 33)=w2 at *
 clear k1
 go_cut [4] (fun v wx=>∃ G B m d B' m' d',v=.pointer (some ⟨G,0,none⟩)∧NewC w2 wx G true a s B m d B' m' d')
 case first =>
  have c1:=fun W (hW:Ext w2 W)=>(b1.ext hW).cell
  have hww:=Ext.refl w2
  refine uR (fun X=>Ext w2 X) [10] (zw.app [0,1,2,3,4,6,7] (zw.two 5 (zw.of [8,9,10]) 9 (zw.of [5,8,10]))) ?_
  refine uQ ?_
  have hx0:Ext w2 w2.drew:=hww.drew
  generalize w2.drew=wd at *
  refine zm rfl rfl rfl rfl (fun K hK=>?_) (fun K hK=>?_)
  ·go_simp
   refine (zcC (HS.out _ (hw2.trans hx0)) hs).mono ?_
   exact yK14b1
  ·go_simp
   have hx1:=(Ext.refl wd).alloc (.cells #[.bool false,.int .i64 0,.slice none 0 0,.slice none 0 0,.string ⟨#[]⟩] 33)
   have hb:=Blk.new wd 33 #[.bool false,.int .i64 0,.slice none 0 0,.slice none 0 0,.string ⟨#[]⟩]
   have hG:=hx0.size
   replace hx0:=hx0.trans hx1
   refine hK.out _ _ hx0 ?_
   generalize wd.alloc (.cells #[.bool false,.int .i64 0,.slice none 0 0,.slice none 0 0,.string ⟨#[]⟩] 33)=wg at *
   generalize wd.heap.size=G at *
   refine pT ?_
   refine uQ ?_
   (refine zd rfl rfl rfl (fun K hK=>?_);go_simp)
   refine (zcC (HS.out _ (hw2.trans hx0)) hs).mono ?_
   exact yK14b2
 case rest =>
  obtain⟨G,B,m,d,B',m',d',rfl,hb,own4,hx2,hG⟩:=hcut
  have kG:=hb.cell
  have k1:=(b1.ext hx2).cell
  go_wp2_with fail
  refine (zbe _ _ _ _ _ _ _ _ _ _ _ _ own4.reads hs9).mono ?_
  rw [Hv.out]
  rintro e w5 ⟨rfl,hx5⟩
  clear kG k1
  replace hb:=hb.ext hx5
  replace own4:=own4.ext hx5
  replace hx2:=hx2.trans hx5
  have kG:=hb.cell
  have k1:=(b1.ext hx2).cell
  have hbz:=bz.ext hx2
  have cZ:=hbz.cell
  have fZ:=hbz.frozen
  have hfl:=zao w5 (w.heap.size+1) (.bool true) (.int .i64 a.al) (.slice B m d) (.slice B' m' d') (.string s)
  have hbf:=zan hbz rfl (.bool true) (.int .i64 a.al) (.slice B m d) (.slice B' m' d') (.string s)
  have hxf:=(hw2.trans hx2).frm hfl (fun k hk e=>by omega)
  have zio:=za (show zcp w true a s true (.returned (.tuple #[.agg #[.bool true,.int .i64 a.al,.slice B m d,.slice B' m' d',.string s],.bool true])) (((((w5.setCell ⟨w.heap.size+1,0,none⟩ (.bool true)).setCell ⟨w.heap.size+1,1,none⟩ (.int .i64 a.al)).setCell ⟨w.heap.size+1,2,none⟩ (.slice B m d)).setCell ⟨w.heap.size+1,3,none⟩ (.slice B' m' d')).setCell ⟨w.heap.size+1,4,none⟩ (.string s)) from ⟨B,m,d,B',m',d',rfl,(own4.keep hfl (fun b h1 e=>by omega)).less (by omega),hxf⟩)
  go_wp2_with fail
  generalize (((((w5.setCell ⟨w.heap.size+1,0,none⟩ (.bool true)).setCell ⟨w.heap.size+1,1,none⟩ (.int .i64 a.al)).setCell ⟨w.heap.size+1,2,none⟩ (.slice B m d)).setCell ⟨w.heap.size+1,3,none⟩ (.slice B' m' d')).setCell ⟨w.heap.size+1,4,none⟩ (.string s))=wf at *
  have cf:=hbf.cell
  exact bodyPost_ret (v:=.tuple #[.agg #[.bool true,.int .i64 a.al,.slice B m d,.slice B' m' d',.string s],.bool true]) (by simp [results,Tryz.results53,go_sem,cf]) rfl zio.out
theorem yK14a2 {P:Prop}(h:P:=by
 have c1:=fun W (hW:Ext w2 W)=>(b1.ext hW).cell
 have hww:=Ext.refl w2
 refine uR (fun X=>Ext w2 X) [10] (zw.app [0,1,2,3,4,6,7] (zw.two 5 (zw.of [8,9,10]) 9 (zw.of [5,8,10]))) ?_
 refine uQ ?_
 have hx0:Ext w2 w2.drew:=hww.drew
 generalize w2.drew=wd at *
 refine zm rfl rfl rfl rfl (fun K hK=>?_) (fun K hK=>?_)
 ·go_simp
  refine (zas (HS.out _ (hw2.trans hx0)) hs).mono ?_
  exact yK14b1
 ·go_simp
  have hx1:=(Ext.refl wd).alloc (.cells #[.bool false,.int .i64 0,.slice none 0 0,.slice none 0 0,.string ⟨#[]⟩] 33)
  have hb:=Blk.new wd 33 #[.bool false,.int .i64 0,.slice none 0 0,.slice none 0 0,.string ⟨#[]⟩]
  have hG:=hx0.size
  replace hx0:=hx0.trans hx1
  refine hK.out _ _ hx0 ?_
  generalize wd.alloc (.cells #[.bool false,.int .i64 0,.slice none 0 0,.slice none 0 0,.string ⟨#[]⟩] 33)=wg at *
  generalize wd.heap.size=G at *
  refine pT ?_
  refine uQ ?_
  (refine zd rfl rfl rfl (fun K hK=>?_);go_simp)
  refine (zas (HS.out _ (hw2.trans hx0)) hs).mono ?_
  exact yK14b2
 ):P:=h
theorem zeg {lo hi:Nat} {A:Option Addr} {n c:Nat} {A':Option Addr} {n' c':Nat} {ro:Int} {a:Aut} {s:ByteArray} {w:World}(h:zG w lo hi A n A' n' a)(hs:a.size≤1048576)(hs9:s.size≤9223372036854775807)(hv:zK true a s=true) :
  Calls Tryz.prog 60 #[.agg #[.int .i64 0,.int .i64 a.al,.slice A n c,.slice A' n' c',.string s,.int .i64 ro]] w (zcp w true a s true):=by
 have Hv:=za hv
 clear hv
 have HS:=za (fun W (hW:Ext w W)=>h.ext hW)
 have hss:=hs
 clear h
 go_enter Tryz.func60,Tryz.ntmps60
 obtain⟨b1,bz⟩:=zU (Ext.refl ((w.alloc (.cells #[.int .i64 0,.int .i64 a.al,.slice A n c,.slice A' n' c',.string s,.int .i64 ro] 73)).alloc (.cells #[.bool false,.int .i64 0,.slice none 0 0,.slice none 0 0,.string ⟨#[]⟩] 33)))
 have hw2:Ext w ((w.alloc (.cells #[.int .i64 0,.int .i64 a.al,.slice A n c,.slice A' n' c',.string s,.int .i64 ro] 73)).alloc (.cells #[.bool false,.int .i64 0,.slice none 0 0,.slice none 0 0,.string ⟨#[]⟩] 33)):=((Ext.refl w).alloc _).alloc _
 have hsz2:w.heap.size+2=((w.alloc (.cells #[.int .i64 0,.int .i64 a.al,.slice A n c,.slice A' n' c',.string s,.int .i64 ro] 73)).alloc (.cells #[.bool false,.int .i64 0,.slice none 0 0,.slice none 0 0,.string ⟨#[]⟩] 33)).heap.size:=by simp
 go_upto_region 1 with fail
 generalize (w.alloc (.cells #[.int .i64 0,.int .i64 a.al,.slice A n c,.slice A' n' c',.string s,.int .i64 ro] 73)).alloc (.cells #[.bool false,.int .i64 0,.slice none 0 0,.slice none 0 0,.string ⟨#[]⟩] 33)=w2 at *
 go_cut [4] (fun v wx=>∃ G B m d B' m' d',v=.pointer (some ⟨G,0,none⟩)∧NewC w2 wx G true a s B m d B' m' d')
 case first =>
  exact yK14a2
 case rest =>
  obtain⟨G,B,m,d,B',m',d',rfl,hb,own4,hx2,hG⟩:=hcut
  have kG:=hb.cell
  have k1:=(b1.ext hx2).cell
  go_wp2_with fail
  refine (zay _ _ _ _ _ _ _ _ _ _ _ _ own4.reads hs9).mono ?_
  rw [Hv.out]
  rintro e w5 ⟨rfl,hx5⟩
  clear kG k1
  replace hb:=hb.ext hx5
  replace own4:=own4.ext hx5
  replace hx2:=hx2.trans hx5
  have kG:=hb.cell
  have k1:=(b1.ext hx2).cell
  have hbz:=bz.ext hx2
  have cZ:=hbz.cell
  have fZ:=hbz.frozen
  have hfl:=zao w5 (w.heap.size+1) (.bool true) (.int .i64 a.al) (.slice B m d) (.slice B' m' d') (.string s)
  have hbf:=zan hbz rfl (.bool true) (.int .i64 a.al) (.slice B m d) (.slice B' m' d') (.string s)
  have hxf:=(hw2.trans hx2).frm hfl (fun k hk e=>by omega)
  have zio:=za (show zcp w true a s true (.returned (.tuple #[.agg #[.bool true,.int .i64 a.al,.slice B m d,.slice B' m' d',.string s],.bool true])) (((((w5.setCell ⟨w.heap.size+1,0,none⟩ (.bool true)).setCell ⟨w.heap.size+1,1,none⟩ (.int .i64 a.al)).setCell ⟨w.heap.size+1,2,none⟩ (.slice B m d)).setCell ⟨w.heap.size+1,3,none⟩ (.slice B' m' d')).setCell ⟨w.heap.size+1,4,none⟩ (.string s)) from ⟨B,m,d,B',m',d',rfl,(own4.keep hfl (fun b h1 e=>by omega)).less (by omega),hxf⟩)
  go_wp2_with fail
  generalize (((((w5.setCell ⟨w.heap.size+1,0,none⟩ (.bool true)).setCell ⟨w.heap.size+1,1,none⟩ (.int .i64 a.al)).setCell ⟨w.heap.size+1,2,none⟩ (.slice B m d)).setCell ⟨w.heap.size+1,3,none⟩ (.slice B' m' d')).setCell ⟨w.heap.size+1,4,none⟩ (.string s))=wf at *
  have cf:=hbf.cell
  exact bodyPost_ret (v:=.tuple #[.agg #[.bool true,.int .i64 a.al,.slice B m d,.slice B' m' d',.string s],.bool true]) (by simp [results,Tryz.results60,go_sem,cf]) rfl zio.out
theorem yK14b3 {P:Prop}(h:P:=by
 have cf:=hbf.cell
 exact bodyPost_ret (v:=.tuple #[.agg #[.bool false,.int .i64 0,.slice none 0 0,.slice none 0 0,.string ⟨#[]⟩],.bool false]) (by simp [results,Tryz.results60,go_sem,cf]) rfl zio.out
 ):P:=h
theorem yK14a3 {P:Prop}(h:P:=by
 obtain⟨G,B,m,d,B',m',d',rfl,hb,own4,hx2,hG⟩:=hcut
 have kG:=hb.cell
 have k1:=(b1.ext hx2).cell
 go_wp2_with fail
 refine (zay _ _ _ _ _ _ _ _ _ _ _ _ own4.reads hs9).mono ?_
 rw [Hv.out]
 rintro e w5 ⟨rfl,hx5⟩
 clear kG k1
 replace hb:=hb.ext hx5
 replace own4:=own4.ext hx5
 replace hx2:=hx2.trans hx5
 have kG:=hb.cell
 have k1:=(b1.ext hx2).cell
 have hbz:=bz.ext hx2
 have cZ:=hbz.cell
 have fZ:=hbz.frozen
 have hfl:=zao w5 (w.heap.size+1) (.bool false) (.int .i64 0) (.slice none 0 0) (.slice none 0 0) (.string ⟨#[]⟩)
 have hbf:=zan hbz rfl (.bool false) (.int .i64 0) (.slice none 0 0) (.slice none 0 0) (.string ⟨#[]⟩)
 have hxf:=(hw2.trans hx2).frm hfl (fun k hk e=>by omega)
 have zio:=za (show zcp w false aut0 ⟨#[]⟩ false (.returned (.tuple #[.agg #[.bool false,.int .i64 0,.slice none 0 0,.slice none 0 0,.string ⟨#[]⟩],.bool false])) (((((w5.setCell ⟨w.heap.size+1,0,none⟩ (.bool false)).setCell ⟨w.heap.size+1,1,none⟩ (.int .i64 0)).setCell ⟨w.heap.size+1,2,none⟩ (.slice none 0 0)).setCell ⟨w.heap.size+1,3,none⟩ (.slice none 0 0)).setCell ⟨w.heap.size+1,4,none⟩ (.string ⟨#[]⟩)) from ⟨none,0,0,none,0,0,rfl,zgc _ _,hxf⟩)
 go_wp2_with fail
 generalize (((((w5.setCell ⟨w.heap.size+1,0,none⟩ (.bool false)).setCell ⟨w.heap.size+1,1,none⟩ (.int .i64 0)).setCell ⟨w.heap.size+1,2,none⟩ (.slice none 0 0)).setCell ⟨w.heap.size+1,3,none⟩ (.slice none 0 0)).setCell ⟨w.heap.size+1,4,none⟩ (.string ⟨#[]⟩))=wf at *
 exact yK14b3
 ):P:=h
theorem zef {lo hi:Nat} {A:Option Addr} {n c:Nat} {A':Option Addr} {n' c':Nat} {ro:Int} {a:Aut} {s:ByteArray} {w:World}(h:zG w lo hi A n A' n' a)(hs:a.size≤1048576)(hs9:s.size≤9223372036854775807)(hv:zK true a s=false) :
  Calls Tryz.prog 60 #[.agg #[.int .i64 0,.int .i64 a.al,.slice A n c,.slice A' n' c',.string s,.int .i64 ro]] w (zcp w false aut0 ⟨#[]⟩ false):=by
 have Hv:=za hv
 clear hv
 have HS:=za (fun W (hW:Ext w W)=>h.ext hW)
 have hss:=hs
 clear h
 go_enter Tryz.func60,Tryz.ntmps60
 obtain⟨b1,bz⟩:=zU (Ext.refl ((w.alloc (.cells #[.int .i64 0,.int .i64 a.al,.slice A n c,.slice A' n' c',.string s,.int .i64 ro] 73)).alloc (.cells #[.bool false,.int .i64 0,.slice none 0 0,.slice none 0 0,.string ⟨#[]⟩] 33)))
 have hw2:Ext w ((w.alloc (.cells #[.int .i64 0,.int .i64 a.al,.slice A n c,.slice A' n' c',.string s,.int .i64 ro] 73)).alloc (.cells #[.bool false,.int .i64 0,.slice none 0 0,.slice none 0 0,.string ⟨#[]⟩] 33)):=((Ext.refl w).alloc _).alloc _
 have hsz2:w.heap.size+2=((w.alloc (.cells #[.int .i64 0,.int .i64 a.al,.slice A n c,.slice A' n' c',.string s,.int .i64 ro] 73)).alloc (.cells #[.bool false,.int .i64 0,.slice none 0 0,.slice none 0 0,.string ⟨#[]⟩] 33)).heap.size:=by simp
 go_upto_region 1 with fail
 generalize (w.alloc (.cells #[.int .i64 0,.int .i64 a.al,.slice A n c,.slice A' n' c',.string s,.int .i64 ro] 73)).alloc (.cells #[.bool false,.int .i64 0,.slice none 0 0,.slice none 0 0,.string ⟨#[]⟩] 33)=w2 at *
 go_cut [4] (fun v wx=>∃ G B m d B' m' d',v=.pointer (some ⟨G,0,none⟩)∧NewC w2 wx G true a s B m d B' m' d')
 case first =>
  exact yK14a2
 case rest =>
  exact yK14a3
theorem yK14a1 {P:Prop}(h:P:=by
 have c1:=fun W (hW:Ext w2 W)=>(b1.ext hW).cell
 have hww:=Ext.refl w2
 refine uR (fun X=>Ext w2 X) [10] (zw.app [0,1,2,3,4,6,7] (zw.two 5 (zw.of [8,9,10]) 9 (zw.of [5,8,10]))) ?_
 refine uQ ?_
 have hx0:Ext w2 w2.drew:=hww.drew
 generalize w2.drew=wd at *
 refine zm rfl rfl rfl rfl (fun K hK=>?_) (fun K hK=>?_)
 ·go_simp
  refine (zas (HS.out _ (hw2.trans hx0)) hs).mono ?_
  rintro e w4 ⟨B,m,d,B',m',d',rfl,own4,hx4⟩
  replace own4:=own4.less hx0.size
  replace hx0:=hx0.trans hx4
  refine hK.out _ _ hx0 ?_
  refine pT ?_
  refine uQ ?_
  (refine zd rfl rfl rfl (fun K hK=>?_);go_simp)
  have hx1:=(Ext.refl w4).alloc (.cells #[.bool false,.int .i64 0,.slice none 0 0,.slice none 0 0,.string ⟨#[]⟩] 33)
  have hb:=Blk.new w4 33 #[.bool false,.int .i64 0,.slice none 0 0,.slice none 0 0,.string ⟨#[]⟩]
  have hG:=hx0.size
  replace own4:=own4.ext hx1
  replace hx0:=hx0.trans hx1
  refine hK.out _ _ hx0 ?_
  generalize w4.alloc (.cells #[.bool false,.int .i64 0,.slice none 0 0,.slice none 0 0,.string ⟨#[]⟩] 33)=wg at *
  generalize w4.heap.size=G at *
  refine pT ?_
  refine uQ ?_
  have cG:=hb.cell
  have fG:=hb.frozen
  (refine zb rfl rfl rfl rfl (fun K hK=>?_))
  go_simp
  refine hK.out _ _ ?_
  refine ze ?_
  have hfl:=zao wg G (.bool false) (.int .i64 a.al) (.slice B m d) (.slice B' m' d') (.string s)
  have zio:NewC w2 (((((wg.setCell ⟨G,0,none⟩ (.bool false)).setCell ⟨G,1,none⟩ (.int .i64 a.al)).setCell ⟨G,2,none⟩ (.slice B m d)).setCell ⟨G,3,none⟩ (.slice B' m' d')).setCell ⟨G,4,none⟩ (.string s)) G false a s B m d B' m' d':=⟨zan hb rfl _ _ _ _ _,own4.own_far5 hb hfl,hx0.frm hfl (fun k hk e=>by omega),hG⟩
  go_wp2_with fail
  go_meet
  exact⟨G,_,_,_,_,_,_,rfl,zio⟩
 ·go_simp
  have hx1:=(Ext.refl wd).alloc (.cells #[.bool false,.int .i64 0,.slice none 0 0,.slice none 0 0,.string ⟨#[]⟩] 33)
  have hb:=Blk.new wd 33 #[.bool false,.int .i64 0,.slice none 0 0,.slice none 0 0,.string ⟨#[]⟩]
  have hG:=hx0.size
  replace hx0:=hx0.trans hx1
  refine hK.out _ _ hx0 ?_
  generalize wd.alloc (.cells #[.bool false,.int .i64 0,.slice none 0 0,.slice none 0 0,.string ⟨#[]⟩] 33)=wg at *
  generalize wd.heap.size=G at *
  refine pT ?_
  refine uQ ?_
  (refine zd rfl rfl rfl (fun K hK=>?_);go_simp)
  refine (zas (HS.out _ (hw2.trans hx0)) hs).mono ?_
  rintro e w4 ⟨B,m,d,B',m',d',rfl,own4,hx4⟩
  replace own4:=own4.less hx0.size
  replace hb:=hb.ext hx4
  replace hx0:=hx0.trans hx4
  refine hK.out _ _ hx0 ?_
  refine pT ?_
  refine uQ ?_
  have cG:=hb.cell
  have fG:=hb.frozen
  (refine zb rfl rfl rfl rfl (fun K hK=>?_))
  go_simp
  refine hK.out _ _ ?_
  refine ze ?_
  have hfl:=zao w4 G (.bool false) (.int .i64 a.al) (.slice B m d) (.slice B' m' d') (.string s)
  have zio:NewC w2 (((((w4.setCell ⟨G,0,none⟩ (.bool false)).setCell ⟨G,1,none⟩ (.int .i64 a.al)).setCell ⟨G,2,none⟩ (.slice B m d)).setCell ⟨G,3,none⟩ (.slice B' m' d')).setCell ⟨G,4,none⟩ (.string s)) G false a s B m d B' m' d':=⟨zan hb rfl _ _ _ _ _,own4.own_far5 hb hfl,hx0.frm hfl (fun k hk e=>by omega),hG⟩
  go_wp2_with fail
  go_meet
  exact⟨G,_,_,_,_,_,_,rfl,zio⟩
 ):P:=h
theorem zei {lo hi:Nat} {A:Option Addr} {n c:Nat} {A':Option Addr} {n' c':Nat} {ro:Int} {a:Aut} {s:ByteArray} {w:World}(h:zG w lo hi A n A' n' a)(hs:a.size≤1048576)(hs9:s.size≤9223372036854775807)(hv:zK false a s=true) :
  Calls Tryz.prog 60 #[.agg #[.int .i64 1,.int .i64 a.al,.slice A n c,.slice A' n' c',.string s,.int .i64 ro]] w (zcp w false a s true):=by
 have Hv:=za hv
 clear hv
 have HS:=za (fun W (hW:Ext w W)=>h.ext hW)
 have hss:=hs
 clear h
 go_enter Tryz.func60,Tryz.ntmps60
 obtain⟨b1,bz⟩:=zU (Ext.refl ((w.alloc (.cells #[.int .i64 1,.int .i64 a.al,.slice A n c,.slice A' n' c',.string s,.int .i64 ro] 73)).alloc (.cells #[.bool false,.int .i64 0,.slice none 0 0,.slice none 0 0,.string ⟨#[]⟩] 33)))
 have hw2:Ext w ((w.alloc (.cells #[.int .i64 1,.int .i64 a.al,.slice A n c,.slice A' n' c',.string s,.int .i64 ro] 73)).alloc (.cells #[.bool false,.int .i64 0,.slice none 0 0,.slice none 0 0,.string ⟨#[]⟩] 33)):=((Ext.refl w).alloc _).alloc _
 have hsz2:w.heap.size+2=((w.alloc (.cells #[.int .i64 1,.int .i64 a.al,.slice A n c,.slice A' n' c',.string s,.int .i64 ro] 73)).alloc (.cells #[.bool false,.int .i64 0,.slice none 0 0,.slice none 0 0,.string ⟨#[]⟩] 33)).heap.size:=by simp
 go_upto_region 1 with fail
 generalize (w.alloc (.cells #[.int .i64 1,.int .i64 a.al,.slice A n c,.slice A' n' c',.string s,.int .i64 ro] 73)).alloc (.cells #[.bool false,.int .i64 0,.slice none 0 0,.slice none 0 0,.string ⟨#[]⟩] 33)=w2 at *
 go_cut [4] (fun v wx=>∃ G B m d B' m' d',v=.pointer (some ⟨G,0,none⟩)∧NewC w2 wx G false a s B m d B' m' d')
 case first =>
  exact yK14a1
 case rest =>
  obtain⟨G,B,m,d,B',m',d',rfl,hb,own4,hx2,hG⟩:=hcut
  have kG:=hb.cell
  have k1:=(b1.ext hx2).cell
  go_wp2_with fail
  refine (zay _ _ _ _ _ _ _ _ _ _ _ _ own4.reads hs9).mono ?_
  rw [Hv.out]
  rintro e w5 ⟨rfl,hx5⟩
  clear kG k1
  replace hb:=hb.ext hx5
  replace own4:=own4.ext hx5
  replace hx2:=hx2.trans hx5
  have kG:=hb.cell
  have k1:=(b1.ext hx2).cell
  have hbz:=bz.ext hx2
  have cZ:=hbz.cell
  have fZ:=hbz.frozen
  have hfl:=zao w5 (w.heap.size+1) (.bool false) (.int .i64 a.al) (.slice B m d) (.slice B' m' d') (.string s)
  have hbf:=zan hbz rfl (.bool false) (.int .i64 a.al) (.slice B m d) (.slice B' m' d') (.string s)
  have hxf:=(hw2.trans hx2).frm hfl (fun k hk e=>by omega)
  have zio:=za (show zcp w false a s true (.returned (.tuple #[.agg #[.bool false,.int .i64 a.al,.slice B m d,.slice B' m' d',.string s],.bool true])) (((((w5.setCell ⟨w.heap.size+1,0,none⟩ (.bool false)).setCell ⟨w.heap.size+1,1,none⟩ (.int .i64 a.al)).setCell ⟨w.heap.size+1,2,none⟩ (.slice B m d)).setCell ⟨w.heap.size+1,3,none⟩ (.slice B' m' d')).setCell ⟨w.heap.size+1,4,none⟩ (.string s)) from ⟨B,m,d,B',m',d',rfl,(own4.keep hfl (fun b h1 e=>by omega)).less (by omega),hxf⟩)
  go_wp2_with fail
  generalize (((((w5.setCell ⟨w.heap.size+1,0,none⟩ (.bool false)).setCell ⟨w.heap.size+1,1,none⟩ (.int .i64 a.al)).setCell ⟨w.heap.size+1,2,none⟩ (.slice B m d)).setCell ⟨w.heap.size+1,3,none⟩ (.slice B' m' d')).setCell ⟨w.heap.size+1,4,none⟩ (.string s))=wf at *
  have cf:=hbf.cell
  exact bodyPost_ret (v:=.tuple #[.agg #[.bool false,.int .i64 a.al,.slice B m d,.slice B' m' d',.string s],.bool true]) (by simp [results,Tryz.results60,go_sem,cf]) rfl zio.out
theorem zeh {lo hi:Nat} {A:Option Addr} {n c:Nat} {A':Option Addr} {n' c':Nat} {ro:Int} {a:Aut} {s:ByteArray} {w:World}(h:zG w lo hi A n A' n' a)(hs:a.size≤1048576)(hs9:s.size≤9223372036854775807)(hv:zK false a s=false) :
  Calls Tryz.prog 60 #[.agg #[.int .i64 1,.int .i64 a.al,.slice A n c,.slice A' n' c',.string s,.int .i64 ro]] w (zcp w false aut0 ⟨#[]⟩ false):=by
 have Hv:=za hv
 clear hv
 have HS:=za (fun W (hW:Ext w W)=>h.ext hW)
 have hss:=hs
 clear h
 go_enter Tryz.func60,Tryz.ntmps60
 obtain⟨b1,bz⟩:=zU (Ext.refl ((w.alloc (.cells #[.int .i64 1,.int .i64 a.al,.slice A n c,.slice A' n' c',.string s,.int .i64 ro] 73)).alloc (.cells #[.bool false,.int .i64 0,.slice none 0 0,.slice none 0 0,.string ⟨#[]⟩] 33)))
 have hw2:Ext w ((w.alloc (.cells #[.int .i64 1,.int .i64 a.al,.slice A n c,.slice A' n' c',.string s,.int .i64 ro] 73)).alloc (.cells #[.bool false,.int .i64 0,.slice none 0 0,.slice none 0 0,.string ⟨#[]⟩] 33)):=((Ext.refl w).alloc _).alloc _
 have hsz2:w.heap.size+2=((w.alloc (.cells #[.int .i64 1,.int .i64 a.al,.slice A n c,.slice A' n' c',.string s,.int .i64 ro] 73)).alloc (.cells #[.bool false,.int .i64 0,.slice none 0 0,.slice none 0 0,.string ⟨#[]⟩] 33)).heap.size:=by simp
 go_upto_region 1 with fail
 generalize (w.alloc (.cells #[.int .i64 1,.int .i64 a.al,.slice A n c,.slice A' n' c',.string s,.int .i64 ro] 73)).alloc (.cells #[.bool false,.int .i64 0,.slice none 0 0,.slice none 0 0,.string ⟨#[]⟩] 33)=w2 at *
 go_cut [4] (fun v wx=>∃ G B m d B' m' d',v=.pointer (some ⟨G,0,none⟩)∧NewC w2 wx G false a s B m d B' m' d')
 case first =>
  exact yK14a1
 case rest =>
  exact yK14a3
theorem zeK {lo hi:Nat} {A:Option Addr} {n c:Nat} {A':Option Addr} {n' c':Nat} {cd ro:Int} {a:Aut} {s:ByteArray} {w:World}(h:zG w lo hi A n A' n' a)(hs:a.size≤1048576)(h0:cd≠0)(h1:cd≠1) :
  Calls Tryz.prog 60 #[.agg #[.int .i64 cd,.int .i64 a.al,.slice A n c,.slice A' n' c',.string s,.int .i64 ro]] w (zcp w false aut0 ⟨#[]⟩ false):=by
 have hc0:(cd==0)=false:=by simpa using h0
 have hn0:(cd != 0)=true:=by simpa using h0
 have hn1:(cd != 1)=true:=by simpa using h1
 clear h0 h1
 have HS:=za (fun W (hW:Ext w W)=>h.ext hW)
 have hss:=hs
 clear h
 go_enter Tryz.func60,Tryz.ntmps60
 obtain⟨b1,bz⟩:=zU (Ext.refl ((w.alloc (.cells #[.int .i64 cd,.int .i64 a.al,.slice A n c,.slice A' n' c',.string s,.int .i64 ro] 73)).alloc (.cells #[.bool false,.int .i64 0,.slice none 0 0,.slice none 0 0,.string ⟨#[]⟩] 33)))
 have hw2:Ext w ((w.alloc (.cells #[.int .i64 cd,.int .i64 a.al,.slice A n c,.slice A' n' c',.string s,.int .i64 ro] 73)).alloc (.cells #[.bool false,.int .i64 0,.slice none 0 0,.slice none 0 0,.string ⟨#[]⟩] 33)):=((Ext.refl w).alloc _).alloc _
 have hsz2:w.heap.size+2=((w.alloc (.cells #[.int .i64 cd,.int .i64 a.al,.slice A n c,.slice A' n' c',.string s,.int .i64 ro] 73)).alloc (.cells #[.bool false,.int .i64 0,.slice none 0 0,.slice none 0 0,.string ⟨#[]⟩] 33)).heap.size:=by simp
 go_upto_region 1 with fail
 generalize (w.alloc (.cells #[.int .i64 cd,.int .i64 a.al,.slice A n c,.slice A' n' c',.string s,.int .i64 ro] 73)).alloc (.cells #[.bool false,.int .i64 0,.slice none 0 0,.slice none 0 0,.string ⟨#[]⟩] 33)=w2 at *
 go_cut [4] (fun v wx=>∃ G B m d B' m' d',v=.pointer (some ⟨G,0,none⟩)∧NewC w2 wx G false a s B m d B' m' d')
 case first =>
  exact yK14a1
 case rest =>
  obtain⟨G,B,m,d,B',m',d',rfl,hb,own4,hx2,hG⟩:=hcut
  have k1:=(b1.ext hx2).cell
  have hbz:=bz.ext hx2
  have cZ:=hbz.cell
  have fZ:=hbz.frozen
  have hfl:=zao wc (w.heap.size+1) (.bool false) (.int .i64 0) (.slice none 0 0) (.slice none 0 0) (.string ⟨#[]⟩)
  have hbf:=zan hbz rfl (.bool false) (.int .i64 0) (.slice none 0 0) (.slice none 0 0) (.string ⟨#[]⟩)
  have hxf:=(hw2.trans hx2).frm hfl (fun k hk e=>by omega)
  have zio:=za (show zcp w false aut0 ⟨#[]⟩ false (.returned (.tuple #[.agg #[.bool false,.int .i64 0,.slice none 0 0,.slice none 0 0,.string ⟨#[]⟩],.bool false])) (((((wc.setCell ⟨w.heap.size+1,0,none⟩ (.bool false)).setCell ⟨w.heap.size+1,1,none⟩ (.int .i64 0)).setCell ⟨w.heap.size+1,2,none⟩ (.slice none 0 0)).setCell ⟨w.heap.size+1,3,none⟩ (.slice none 0 0)).setCell ⟨w.heap.size+1,4,none⟩ (.string ⟨#[]⟩)) from ⟨none,0,0,none,0,0,rfl,zgc _ _,hxf⟩)
  go_wp2_with fail
  generalize (((((wc.setCell ⟨w.heap.size+1,0,none⟩ (.bool false)).setCell ⟨w.heap.size+1,1,none⟩ (.int .i64 0)).setCell ⟨w.heap.size+1,2,none⟩ (.slice none 0 0)).setCell ⟨w.heap.size+1,3,none⟩ (.slice none 0 0)).setCell ⟨w.heap.size+1,4,none⟩ (.string ⟨#[]⟩))=wf at *
  exact yK14b3
def hdX (cd:Int) (a:Aut) (s:ByteArray):Bool:=okC cd a s&&decide (cd=0)
def autX (cd:Int) (a:Aut) (s:ByteArray):Aut:=if okC cd a s then a else aut0
def strX (cd:Int) (a:Aut) (s:ByteArray):ByteArray:=if okC cd a s then s else ⟨#[]⟩
theorem zff {lo hi:Nat} {A:Option Addr} {n c:Nat} {A':Option Addr} {n' c':Nat} {cd ro:Int} {a:Aut} {s:ByteArray} {w:World}(h:zG w lo hi A n A' n' a)(hs:a.size≤1048576)(hs9:s.size≤9223372036854775807) :
  Calls Tryz.prog 60 #[.agg #[.int .i64 cd,.int .i64 a.al,.slice A n c,.slice A' n' c',.string s,.int .i64 ro]] w (zcp w (hdX cd a s) (autX cd a s) (strX cd a s) (okC cd a s)):=by
 by_cases h0:cd=0
 ·subst h0
  cases hv:zK true a s
  ·have:=zef h hs hs9 hv (c:=c) (c':=c') (ro:=ro)
   simpa [hdX,autX,strX,okC0,hv] using this
  ·have:=zeg h hs hs9 hv (c:=c) (c':=c') (ro:=ro)
   simpa [hdX,autX,strX,okC0,hv] using this
 ·by_cases h1:cd=1
  ·subst h1
   cases hv:zK false a s
   ·have:=zeh h hs hs9 hv (c:=c) (c':=c') (ro:=ro)
    simpa [hdX,autX,strX,okC1,hv] using this
   ·have:=zei h hs hs9 hv (c:=c) (c':=c') (ro:=ro)
    simpa [hdX,autX,strX,okC1,hv] using this
  ·have:=zeK h hs h0 h1 (s:=s) (c:=c) (c':=c') (ro:=ro)
   simpa [hdX,autX,strX,okC,h0,h1] using this
section
variable {w:World} {lo hi n c lo1 hi1 m d m' d' lo2 hi2 k c2:Nat} {A B B' C:Option Addr} {s t:Sys} {p:Aut}
theorem zeL {v:Vd} (HR:Hid (∀ W,Ext w W→Calls Tryz.prog 50 #[.agg #[.int .i64 s.al,.int .i64 s.st,.slice A n c],.agg #[.int .i64 t.al,.int .i64 t.st,.slice C k c2],.agg #[.int .i64 p.al,.slice B m d,.slice B' m' d']] W (RetVd W v)))(hsz:Hid (v.asm.size≤1048576∧v.tr.size≤9223372036854775807)) :
  Calls Tryz.prog 17 #[.agg #[.int .i64 s.al,.int .i64 s.st,.slice A n c],.agg #[.int .i64 t.al,.int .i64 t.st,.slice C k c2],.agg #[.int .i64 p.al,.slice B m d,.slice B' m' d']] w
   (zcp w (hdX v.code v.asm v.tr) (autX v.code v.asm v.tr) (strX v.code v.asm v.tr) (okC v.code v.asm v.tr)):=by
 have hx0:Ext w ((((w.alloc (.cells #[.int .i64 s.al,.int .i64 s.st,.slice A n c] 38)).alloc (.cells #[.int .i64 t.al,.int .i64 t.st,.slice C k c2] 38)).alloc (.cells #[.int .i64 p.al,.slice B m d,.slice B' m' d'] 31)).alloc (.cells #[.bool false,.int .i64 0,.slice none 0 0,.slice none 0 0,.string ⟨#[]⟩] 33)):=((((Ext.refl _).alloc _).alloc _).alloc _).alloc _
 obtain⟨b1,b2,b3⟩:=zO ((Ext.refl _).alloc _:Ext (((w.alloc (.cells #[.int .i64 s.al,.int .i64 s.st,.slice A n c] 38)).alloc (.cells #[.int .i64 t.al,.int .i64 t.st,.slice C k c2] 38)).alloc (.cells #[.int .i64 p.al,.slice B m d,.slice B' m' d'] 31)) ((((w.alloc (.cells #[.int .i64 s.al,.int .i64 s.st,.slice A n c] 38)).alloc (.cells #[.int .i64 t.al,.int .i64 t.st,.slice C k c2] 38)).alloc (.cells #[.int .i64 p.al,.slice B m d,.slice B' m' d'] 31)).alloc (.cells #[.bool false,.int .i64 0,.slice none 0 0,.slice none 0 0,.string ⟨#[]⟩] 33)))
 have b6:=Blk.new (((w.alloc (.cells #[.int .i64 s.al,.int .i64 s.st,.slice A n c] 38)).alloc (.cells #[.int .i64 t.al,.int .i64 t.st,.slice C k c2] 38)).alloc (.cells #[.int .i64 p.al,.slice B m d,.slice B' m' d'] 31)) 33 #[.bool false,.int .i64 0,.slice none 0 0,.slice none 0 0,.string ⟨#[]⟩]
 simp only [World.size_alloc] at b6
 go_enter Tryz.func17,Tryz.ntmps17
 go_upto_region 1 with fail
 generalize ((((w.alloc (.cells #[.int .i64 s.al,.int .i64 s.st,.slice A n c] 38)).alloc (.cells #[.int .i64 t.al,.int .i64 t.st,.slice C k c2] 38)).alloc (.cells #[.int .i64 p.al,.slice B m d,.slice B' m' d'] 31)).alloc (.cells #[.bool false,.int .i64 0,.slice none 0 0,.slice none 0 0,.string ⟨#[]⟩] 33))=w0 at *
 have c1:=b1.cell
 have cc2:=b2.cell
 have c3:=b3.cell
 have k6:∀ W,Ext w0 W→∀ q,W.cell? ⟨w.heap.size+1+1+1,q,none⟩=(#[.bool false,.int .i64 0,.slice none 0 0,.slice none 0 0,.string ⟨#[]⟩]:Array Value)[q]?:=fun W hW=>(b6.ext hW).cell
 have f6:∀ W,Ext w0 W→_:=fun W hW=>(b6.ext hW).frozen
 go_wp2_with (first
  |(go_at_call 50;refine (HR.out w0 hx0).mono ?_;rintro e w1 ⟨A1,n1,k1,A1',n1',k1',rfl,ho,hx1⟩;clear c1 cc2 c3)
  |(go_at_call 60;refine (zff ho.reads hsz.out.1 hsz.out.2).mono ?_;rintro e w2 ⟨A2,n2,k2,A3,n3,k3,rfl,ho2,hx2⟩;have hx12:=hx1.trans hx2;have b62:=b6.ext hx12;have k62:=b62.cell;have f62:=b62.frozen;clear k6 f6))
 have hf:Frm (fun b=>b=w.heap.size+1+1+1) w2 (((((w2.setCell ⟨w.heap.size+1+1+1,0,none⟩ (.bool (hdX v.code v.asm v.tr))).setCell ⟨w.heap.size+1+1+1,1,none⟩ (.int .i64 (autX v.code v.asm v.tr).al)).setCell ⟨w.heap.size+1+1+1,2,none⟩ (.slice A2 n2 k2)).setCell ⟨w.heap.size+1+1+1,3,none⟩ (.slice A3 n3 k3)).setCell ⟨w.heap.size+1+1+1,4,none⟩ (.string (strX v.code v.asm v.tr))):=((((Frm.setCell w2 _ 0 _).trans (Frm.setCell _ _ 1 _)).trans (Frm.setCell _ _ 2 _)).trans (Frm.setCell _ _ 3 _)).trans (Frm.setCell _ _ 4 _)
 have b63:Blk (((((w2.setCell ⟨w.heap.size+1+1+1,0,none⟩ (.bool (hdX v.code v.asm v.tr))).setCell ⟨w.heap.size+1+1+1,1,none⟩ (.int .i64 (autX v.code v.asm v.tr).al)).setCell ⟨w.heap.size+1+1+1,2,none⟩ (.slice A2 n2 k2)).setCell ⟨w.heap.size+1+1+1,3,none⟩ (.slice A3 n3 k3)).setCell ⟨w.heap.size+1+1+1,4,none⟩ (.string (strX v.code v.asm v.tr))) (w.heap.size+1+1+1) 33 #[.bool (hdX v.code v.asm v.tr),.int .i64 (autX v.code v.asm v.tr).al,.slice A2 n2 k2,.slice A3 n3 k3,.string (strX v.code v.asm v.tr)]:=by
  simpa using ((((b62.set_ 0 (.bool (hdX v.code v.asm v.tr))).set_ 1 (.int .i64 (autX v.code v.asm v.tr).al)).set_ 2 (.slice A2 n2 k2)).set_ 3 (.slice A3 n3 k3)).set_ 4 (.string (strX v.code v.asm v.tr))
 have ho3:=(ho2.farT b62 hf (by decide)).less (show w.heap.size≤w1.heap.size by have:=hx0.size;have:=hx1.size;omega)
 have hx3:=(hx0.trans hx12).frm hf (fun k hk e=>by omega)
 have cf:=b63.cell
 exact bodyPost_ret (v:=.tuple #[.agg #[.bool (hdX v.code v.asm v.tr),.int .i64 (autX v.code v.asm v.tr).al,.slice A2 n2 k2,.slice A3 n3 k3,.string (strX v.code v.asm v.tr)],.bool (okC v.code v.asm v.tr)]) (by simp [results,Tryz.results17,go_sem,cf]) rfl ⟨A2,n2,k2,A3,n3,k3,rfl,ho3,hx3⟩
end
end Go.Proofs.YtmjaepibdpfblaaGreatDoor
