/- The referenc -/
import Derived.Test.YtmjaepibdpfblaaGreatDoorK14
import Derived.Test.YtmjaepibdpfblaaGreatDoorK03
import Derived.Test.YtmjaepibdpfblaaGreatDoorK08
import Derived.Test.YtmjaepibdpfblaaGreatDoorK04
import Derived.Test.YtmjaepibdpfblaaGreatDoorK10
import Derived.Test.YtmjaepibdpfblaaGreatDoorK11
import Derived.Test.YtmjaepibdpfblaaGreatDoorK01
import Derived.Maps.OwnSet
import Derived.Maps.OwnOps
import Derived.Test.YtmjaepibdpfblaaGreatDoorK02
import Derived.Test.YtmjaepibdpfblaaGreatDoorK06
import Derived.Test.YtmjaepibdpfblaaGreatDoorK12
import Derived.Test.YtmjaepibdpfblaaGreatDoorK05
set_option maxHeartbeats 4000000
set_option maxRecDepth 100000
namespace Go.Proofs.YtmjaepibdpfblaaGreatDoor
open Go Go.RowKit
theorem zdj (s t:Sys) (p:Aut):iface s p t = -1∨∃ L:Nat,iface s p t=(L:Int):=by
 unfold iface
 split
 ·exact .inr ⟨_,rfl⟩
 ·exact .inl rfl
section
variable {w:World} {lo hi n c lo1 hi1 m d m' d' lo2 hi2 k c2:Nat} {A B B' C:Option Addr} {s t:Sys} {p:Aut}
theorem spec_TaskOf0 (hs:zN w lo hi A n s)(hp:zG w lo1 hi1 B m B' m' p)(ht:zN w lo2 hi2 C k t)(hif:iface s p t = -1) :
  Calls Tryz.prog 204 #[.agg #[.int .i64 s.al,.int .i64 s.st,.slice A n c],.agg #[.int .i64 p.al,.slice B m d,.slice B' m' d'],.agg #[.int .i64 t.al,.int .i64 t.st,.slice C k c2]] w
   fun e w'=>e=.returned (.tuple #[.agg #[.int .i64 0,.int .i64 0,.slice none 0 0,.int .i64 0,.slice none 0 0,.slice none 0 0,.int .i64 0],.bool false])∧Ext w w':=by
 have HIf:=za (fun W (hW:Ext w W)=>zaY (c:=c) (d1:=d) (d1':=d') (c2:=c2) (hs.ext hW) (hp.ext hW) (ht.ext hW))
 rw [hif] at HIf
 clear hs hp ht hif
 have hx0:Ext w ((((w.alloc (.cells #[.int .i64 s.al,.int .i64 s.st,.slice A n c] 38)).alloc (.cells #[.int .i64 p.al,.slice B m d,.slice B' m' d'] 31)).alloc (.cells #[.int .i64 t.al,.int .i64 t.st,.slice C k c2] 38)).alloc (.cells #[.int .i64 0,.int .i64 0,.slice none 0 0,.int .i64 0,.slice none 0 0,.slice none 0 0,.int .i64 0] 97)):=((((Ext.refl _).alloc _).alloc _).alloc _).alloc _
 obtain⟨b1,b2,b3⟩:=zO ((Ext.refl _).alloc _:Ext (((w.alloc (.cells #[.int .i64 s.al,.int .i64 s.st,.slice A n c] 38)).alloc (.cells #[.int .i64 p.al,.slice B m d,.slice B' m' d'] 31)).alloc (.cells #[.int .i64 t.al,.int .i64 t.st,.slice C k c2] 38)) ((((w.alloc (.cells #[.int .i64 s.al,.int .i64 s.st,.slice A n c] 38)).alloc (.cells #[.int .i64 p.al,.slice B m d,.slice B' m' d'] 31)).alloc (.cells #[.int .i64 t.al,.int .i64 t.st,.slice C k c2] 38)).alloc (.cells #[.int .i64 0,.int .i64 0,.slice none 0 0,.int .i64 0,.slice none 0 0,.slice none 0 0,.int .i64 0] 97)))
 have b4:=Blk.new (((w.alloc (.cells #[.int .i64 s.al,.int .i64 s.st,.slice A n c] 38)).alloc (.cells #[.int .i64 p.al,.slice B m d,.slice B' m' d'] 31)).alloc (.cells #[.int .i64 t.al,.int .i64 t.st,.slice C k c2] 38)) 97 #[.int .i64 0,.int .i64 0,.slice none 0 0,.int .i64 0,.slice none 0 0,.slice none 0 0,.int .i64 0]
 simp only [World.size_alloc] at b4
 go_enter Tryz.func204,Tryz.ntmps204
 go_upto_region 1 with fail
 generalize (((w.alloc (.cells #[.int .i64 s.al,.int .i64 s.st,.slice A n c] 38)).alloc (.cells #[.int .i64 p.al,.slice B m d,.slice B' m' d'] 31)).alloc (.cells #[.int .i64 t.al,.int .i64 t.st,.slice C k c2] 38)).alloc (.cells #[.int .i64 0,.int .i64 0,.slice none 0 0,.int .i64 0,.slice none 0 0,.slice none 0 0,.int .i64 0] 97)=w0 at *
 have CS:=b1.cells
 have CP:=b2.cells
 have CT:=b3.cells
 have hww:=Ext.refl w0
 go_upto_region 3 with (first
  |(go_at_call 99;refine (HIf.out _ hx0).mono ?_;rintro e w1 ⟨rfl,hx01⟩))
 have bz:=b4.ext hx01
 have kz:=bz.cell
 have fz:=bz.frozen
 have hxw:=hx0.trans hx01
 have hf:Frm (fun k=>k=w.heap.size+1+1+1) w1 (((((((w1.setCell ⟨w.heap.size+1+1+1,0,none⟩ (.int .i64 0)).setCell ⟨w.heap.size+1+1+1,1,none⟩ (.int .i64 0)).setCell ⟨w.heap.size+1+1+1,2,none⟩ (.slice none 0 0)).setCell ⟨w.heap.size+1+1+1,3,none⟩ (.int .i64 0)).setCell ⟨w.heap.size+1+1+1,4,none⟩ (.slice none 0 0)).setCell ⟨w.heap.size+1+1+1,5,none⟩ (.slice none 0 0)).setCell ⟨w.heap.size+1+1+1,6,none⟩ (.int .i64 0)):=
  ((((((Frm.setCell w1 _ 0 _).trans (Frm.setCell _ _ 1 _)).trans (Frm.setCell _ _ 2 _)).trans (Frm.setCell _ _ 3 _)).trans (Frm.setCell _ _ 4 _)).trans (Frm.setCell _ _ 5 _)).trans (Frm.setCell _ _ 6 _)
 have bW:Blk (((((((w1.setCell ⟨w.heap.size+1+1+1,0,none⟩ (.int .i64 0)).setCell ⟨w.heap.size+1+1+1,1,none⟩ (.int .i64 0)).setCell ⟨w.heap.size+1+1+1,2,none⟩ (.slice none 0 0)).setCell ⟨w.heap.size+1+1+1,3,none⟩ (.int .i64 0)).setCell ⟨w.heap.size+1+1+1,4,none⟩ (.slice none 0 0)).setCell ⟨w.heap.size+1+1+1,5,none⟩ (.slice none 0 0)).setCell ⟨w.heap.size+1+1+1,6,none⟩ (.int .i64 0)) (w.heap.size+1+1+1) 97 #[.int .i64 0,.int .i64 0,.slice none 0 0,.int .i64 0,.slice none 0 0,.slice none 0 0,.int .i64 0]:=by
  simpa using ((((((bz.set_ 0 (.int .i64 0)).set_ 1 (.int .i64 0)).set_ 2 (.slice none 0 0)).set_ 3 (.int .i64 0)).set_ 4 (.slice none 0 0)).set_ 5 (.slice none 0 0)).set_ 6 (.int .i64 0)
 have hret:=za (hxw.frm hf (fun k hk e=>by omega))
 go_wp2_with fail
 generalize (((((((w1.setCell ⟨w.heap.size+1+1+1,0,none⟩ (.int .i64 0)).setCell ⟨w.heap.size+1+1+1,1,none⟩ (.int .i64 0)).setCell ⟨w.heap.size+1+1+1,2,none⟩ (.slice none 0 0)).setCell ⟨w.heap.size+1+1+1,3,none⟩ (.int .i64 0)).setCell ⟨w.heap.size+1+1+1,4,none⟩ (.slice none 0 0)).setCell ⟨w.heap.size+1+1+1,5,none⟩ (.slice none 0 0)).setCell ⟨w.heap.size+1+1+1,6,none⟩ (.int .i64 0))=W at *
 have cf:=bW.cell
 exact bodyPost_ret (v:=.tuple #[.agg #[.int .i64 0,.int .i64 0,.slice none 0 0,.int .i64 0,.slice none 0 0,.slice none 0 0,.int .i64 0],.bool false]) (by simp [results,Tryz.results204,go_sem,cf]) rfl ⟨rfl,hret.out⟩
theorem spec_l12Run0 {K:Nat}(hs:zN w lo hi A n s)(hp:zG w lo1 hi1 B m B' m' p)(ht:zN w lo2 hi2 C k t)(hif:iface s p t = -1) :
  Calls Tryz.prog 115 #[.agg #[.int .i64 s.al,.int .i64 s.st,.slice A n c],.agg #[.int .i64 t.al,.int .i64 t.st,.slice C k c2],.agg #[.int .i64 p.al,.slice B m d,.slice B' m' d'],.int .i64 K] w (zcM w ⟨3,noA,⟨#[]⟩,0⟩):=by
 have HT:=za (fun W (hW:Ext w W)=>spec_TaskOf0 (c:=c) (d:=d) (d':=d') (c2:=c2) (hs.ext hW) (hp.ext hW) (ht.ext hW) hif)
 clear hs hp ht hif
 have hx0:Ext w (((((w.alloc (.cells #[.int .i64 s.al,.int .i64 s.st,.slice A n c] 38)).alloc (.cells #[.int .i64 t.al,.int .i64 t.st,.slice C k c2] 38)).alloc (.cells #[.int .i64 p.al,.slice B m d,.slice B' m' d'] 31)).alloc (.cells #[.int .i64 0,.int .i64 0,.slice none 0 0,.slice none 0 0,.string ⟨#[]⟩,.int .i64 0] 73)).alloc (.cells #[.int .i64 0,.slice none 0 0,.slice none 0 0] 31)):=(((((Ext.refl _).alloc _).alloc _).alloc _).alloc _).alloc _
 obtain⟨b1,b2,b3⟩:=zO (((Ext.refl _).alloc _).alloc _:Ext (((w.alloc (.cells #[.int .i64 s.al,.int .i64 s.st,.slice A n c] 38)).alloc (.cells #[.int .i64 t.al,.int .i64 t.st,.slice C k c2] 38)).alloc (.cells #[.int .i64 p.al,.slice B m d,.slice B' m' d'] 31)) (((((w.alloc (.cells #[.int .i64 s.al,.int .i64 s.st,.slice A n c] 38)).alloc (.cells #[.int .i64 t.al,.int .i64 t.st,.slice C k c2] 38)).alloc (.cells #[.int .i64 p.al,.slice B m d,.slice B' m' d'] 31)).alloc (.cells #[.int .i64 0,.int .i64 0,.slice none 0 0,.slice none 0 0,.string ⟨#[]⟩,.int .i64 0] 73)).alloc (.cells #[.int .i64 0,.slice none 0 0,.slice none 0 0] 31)))
 have b4:=(Blk.new (((w.alloc (.cells #[.int .i64 s.al,.int .i64 s.st,.slice A n c] 38)).alloc (.cells #[.int .i64 t.al,.int .i64 t.st,.slice C k c2] 38)).alloc (.cells #[.int .i64 p.al,.slice B m d,.slice B' m' d'] 31)) 73 #[.int .i64 0,.int .i64 0,.slice none 0 0,.slice none 0 0,.string ⟨#[]⟩,.int .i64 0]).ext ((Ext.refl _).alloc (.cells #[.int .i64 0,.slice none 0 0,.slice none 0 0] 31))
 have b5:=Blk.new ((((w.alloc (.cells #[.int .i64 s.al,.int .i64 s.st,.slice A n c] 38)).alloc (.cells #[.int .i64 t.al,.int .i64 t.st,.slice C k c2] 38)).alloc (.cells #[.int .i64 p.al,.slice B m d,.slice B' m' d'] 31)).alloc (.cells #[.int .i64 0,.int .i64 0,.slice none 0 0,.slice none 0 0,.string ⟨#[]⟩,.int .i64 0] 73)) 31 #[.int .i64 0,.slice none 0 0,.slice none 0 0]
 simp only [World.size_alloc] at b4 b5
 go_enter Tryz.func115,Tryz.ntmps115
 go_upto_region 1 with fail
 generalize ((((w.alloc (.cells #[.int .i64 s.al,.int .i64 s.st,.slice A n c] 38)).alloc (.cells #[.int .i64 t.al,.int .i64 t.st,.slice C k c2] 38)).alloc (.cells #[.int .i64 p.al,.slice B m d,.slice B' m' d'] 31)).alloc (.cells #[.int .i64 0,.int .i64 0,.slice none 0 0,.slice none 0 0,.string ⟨#[]⟩,.int .i64 0] 73)).alloc (.cells #[.int .i64 0,.slice none 0 0,.slice none 0 0] 31)=w0 at *
 have CS:=b1.cells
 have CT:=b2.cells
 have CP:=b3.cells
 have hww:=Ext.refl w0
 go_upto_region 2 with (first
  |(go_at_call 204;refine (HT.out _ hx0).mono ?_;rintro e w1 ⟨rfl,hx01⟩))
 have hx2:Ext w0 (w1.alloc (.cells #[.int .i64 0,.int .i64 0,.slice none 0 0,.int .i64 0,.slice none 0 0,.slice none 0 0,.int .i64 0] 97)):=hx01.alloc _
 generalize w1.alloc (.cells #[.int .i64 0,.int .i64 0,.slice none 0 0,.int .i64 0,.slice none 0 0,.slice none 0 0,.int .i64 0] 97)=w2 at *
 have bz:=b4.ext hx2
 have kz:=bz.cell
 have fz:=bz.frozen
 have bu:=b5.ext hx2
 have ku:=bu.cell
 have fu:=bu.frozen
 obtain⟨f1,f2,f3⟩:=zgg (v:=⟨3,noA,⟨#[]⟩,0⟩) (A:=none) (n:=0) (c:=0) (A':=none) (n':=0) (c':=0) (x:=0) (X:=none) (k1:=0) (d1:=0) (X':=none) (k1':=0) (d1':=0) (hx0.trans hx2) bz bu rfl rfl (by omega) (zgc _ _)
 dsimp only [noA] at f1 f2 f3
 have F2:=za f2
 have F3:=za f3
 clear f2 f3 bz bu b1 b2 b3 b4 b5
 go_wp2_with fail
 generalize (((((((((w2.setCell ⟨w.heap.size+1+1+1,0,none⟩ (.int .i64 3)).setCell ⟨w.heap.size+1+1+1,1,none⟩ (.int .i64 0)).setCell ⟨w.heap.size+1+1+1,2,none⟩ (.slice none 0 0)).setCell ⟨w.heap.size+1+1+1,3,none⟩ (.slice none 0 0)).setCell ⟨w.heap.size+1+1+1,4,none⟩ (.string ⟨#[]⟩)).setCell ⟨w.heap.size+1+1+1,5,none⟩ (.int .i64 0)).setCell ⟨w.heap.size+1+1+1+1,0,none⟩ (.int .i64 0)).setCell ⟨w.heap.size+1+1+1+1,1,none⟩ (.slice none 0 0)).setCell ⟨w.heap.size+1+1+1+1,2,none⟩ (.slice none 0 0))=W at *
 have cf2:=F2.out.cell
 have cf3:=F3.out.cell
 exact bodyPost_ret (v:=.tuple #[.agg #[.int .i64 3,.int .i64 0,.slice none 0 0,.slice none 0 0,.string ⟨#[]⟩,.int .i64 0],.agg #[.int .i64 0,.slice none 0 0,.slice none 0 0]]) (by simp [results,Tryz.results115,go_sem,cf2,cf3]) rfl f1.out
end
noncomputable def vpT (s t:Sys) (p:Aut):Vd:=
 if iface s p t<0 then ⟨3,noA,⟨#[]⟩,0⟩ else runT s t p (iface s p t).toNat 12 0 ((zaW (iface s p t).toNat (zy s p (iface s p t).toNat) [⟨#[]⟩] 11 [⟨#[]⟩]).map fun r=>(r,[⟨#[]⟩]))
theorem vpT_neg {s t:Sys} {p:Aut}(h:iface s p t = -1):vpT s t p=⟨3,noA,⟨#[]⟩,0⟩:=by unfold vpT;rw [if_pos (by omega)]
theorem vpT_pos {s t:Sys} {p:Aut} {L:Nat}(h:iface s p t=(L:Int)):vpT s t p=runT s t p L 12 0 ((zaW L (zy s p L) [⟨#[]⟩] 11 [⟨#[]⟩]).map fun r=>(r,[⟨#[]⟩])):=by
 have e:(iface s p t).toNat=L:=by omega
 unfold vpT
 rw [if_neg (by omega),e]
theorem zhG {s t:Sys} {p:Aut} {L:Nat}(h:iface s p t=(L:Int)):L<64:=by
 obtain⟨vs,vp,vt⟩:=zeV (show 0≤iface s p t by omega)
 rw [iface_nat vs vp vt] at h
 have h1:=zP vt
 have h2:((s.al.toNat|||p.al.toNat)&&&t.al.toNat)≤t.al.toNat:=Nat.and_le_right
 omega
theorem zij (s t:Sys) (p:Aut):(vpT s t p).asm.size≤1048576∧(vpT s t p).tr.size≤4000:=by
 rcases zdj s t p with h|⟨L,h⟩
 ·rw [vpT_neg h];exact⟨by show noA.size≤_;decide,Nat.zero_le _⟩
 ·rw [vpT_pos h]
  obtain⟨vs,vp,vt⟩:=zeV (show 0≤iface s p t by omega)
  exact runT_size (zhG h) (by simp [zE,vs,vt]) vp 12 0 _ (zfp.new L _)
theorem runT_asm {s t:Sys} {p:Aut} {L:Nat}(hL:L<64) (f:Nat):∀ (k:Nat) (o:Option (List ByteArray × List ByteArray)),zfp L (zy s p L) o→zi (runT s t p L f k o).asm=true∨(runT s t p L f k o).asm=noA:=by
 induction f with
 |zero=>exact fun k o _=>.inr rfl
 |succ f ih =>
  intro k o ho
  match o with
  |none=>exact .inr rfl
  |some (rs,cs) =>
   obtain⟨hI,hcl⟩:=ho rs cs rfl
   rw [runT]
   split
   ·exact .inl (zdR hI hcl hL)
   ·split
    ·exact .inr rfl
    ·exact ih _ _ (zfp.learn hI _)
theorem vpT_asm (s t:Sys) (p:Aut):zi (vpT s t p).asm=true∨(vpT s t p).asm=noA:=by
 rcases zdj s t p with h|⟨L,h⟩
 ·rw [vpT_neg h];exact .inr rfl
 ·rw [vpT_pos h]
  exact runT_asm (zhG h) 12 0 _ (zfp.new L _)
section
variable {w:World} {lo hi n c lo1 hi1 m d m' d' lo2 hi2 k c2:Nat} {A B B' C:Option Addr} {s t:Sys} {p:Aut}
theorem zfT (hs:zN w lo hi A n s)(hp:zG w lo1 hi1 B m B' m' p)(ht:zN w lo2 hi2 C k t)(hn:n≤1000000)(hhi:hi≤w.heap.size) :
  Calls Tryz.prog 50 #[.agg #[.int .i64 s.al,.int .i64 s.st,.slice A n c],.agg #[.int .i64 t.al,.int .i64 t.st,.slice C k c2],.agg #[.int .i64 p.al,.slice B m d,.slice B' m' d']] w
   (RetVd w (vpT s t p)):=by
 rcases zdj s t p with h|⟨L,h⟩
 ·rw [vpT_neg h]
  exact zcH (za (fun W (hW:Ext w W)=>spec_l12Run0 (K:=12) (hs.ext hW) (hp.ext hW) (ht.ext hW) h))
 ·rw [vpT_pos h]
  exact zgB hs hp ht h hn hhi
theorem zfw (hs:zN w lo hi A n s)(hp:zG w lo1 hi1 B m B' m' p)(ht:zN w lo2 hi2 C k t)(hn:n≤1000000)(hhi:hi≤w.heap.size) :
  Calls Tryz.prog 17 #[.agg #[.int .i64 s.al,.int .i64 s.st,.slice A n c],.agg #[.int .i64 t.al,.int .i64 t.st,.slice C k c2],.agg #[.int .i64 p.al,.slice B m d,.slice B' m' d']] w
   (zcp w (hdX (vpT s t p).code (vpT s t p).asm (vpT s t p).tr) (autX (vpT s t p).code (vpT s t p).asm (vpT s t p).tr) (strX (vpT s t p).code (vpT s t p).asm (vpT s t p).tr) (okC (vpT s t p).code (vpT s t p).asm (vpT s t p).tr)):=
 zeL (za (fun W (hW:Ext w W)=>zfT (hs.ext hW) (hp.ext hW) (ht.ext hW) hn (Nat.le_trans hhi hW.size))) (za ⟨(zij s t p).1,Nat.le_trans (zij s t p).2 (by omega)⟩)
end
structure zex (w0 W:World) (R M K J:Nat) (a:Aut) (B:Option Addr) (m d:Nat) (B':Option Addr) (m' d':Nat) (x:ByteArray):Prop where
 own:zZ W (R+1) B m d B' m' d' a
 bd:Hid (BdA K a∧x.size≤J)
 rd:Rd W R M
 dr:Dr R w0 W
 hR:R<w0.heap.size
def RetCe (R M K J:Nat) (w:World) (e:Ending) (w':World):Prop:=
 ∃ (hd:Bool) (a:Aut) (B:Option Addr) (m d:Nat) (B':Option Addr) (m' d':Nat) (x:ByteArray),e=.returned (.agg #[.bool hd,.int .i64 a.al,.slice B m d,.slice B' m' d',.string x])∧zex w w' R M K J a B m d B' m' d' x
section
variable {w0 W W':World} {R M K J N H I Z m d m' d':Nat} {a:Aut} {B B':Option Addr} {x:ByteArray} {hd:Bool}
theorem zex.drawn (h:zex w0 W R M K J a B m d B' m' d' x)(hd:Dr R W W')(hr:Rd W' R N):zex w0 W' R N K J a B m d B' m' d' x:=
 ⟨h.own.keep hd (fun b h1 e=>by omega),h.bd,hr,h.dr.trans hd,h.hR⟩
theorem zex.ext (h:zex w0 W R M K J a B m d B' m' d' x)(hx:Ext W W'):zex w0 W' R M K J a B m d B' m' d' x:=h.drawn hx.dr (h.rd.ext hx)
theorem zex.more (h:zex w0 W R M K J a B m d B' m' d' x)(hM:M≤N)(hK:K≤H)(hJ:J≤I):zex w0 W R N H I a B m d B' m' d' x:=
 ⟨h.own,za ⟨BdL.more h.bd.out.1 hK,Nat.le_trans h.bd.out.2 hJ⟩,h.rd.more hM,h.dr,h.hR⟩
theorem zex.far {ty:TypeId} {cs:Array Value}(h:zex w0 W R M K J a B m d B' m' d' x)(hB:Blk W Z ty cs)(hf:Frm (fun k=>k=Z) W W')(hZ:w0.heap.size≤Z)(h2:ty≠3∧ty≠137∧ty≠4):zex w0 W' R M K J a B m d B' m' d' x:=
 ⟨h.own.farT hB hf h2,h.bd,h.rd.frm hf (fun k hk e=>by have:=h.hR;omega),h.dr.far hf hZ,h.hR⟩
theorem zex.less {w1:World}(h:zex w0 W R M K J a B m d B' m' d' x)(hd:Dr R w1 w0)(hR:R<w1.heap.size):zex w1 W R M K J a B m d B' m' d' x:=
 ⟨h.own,h.bd,h.rd,hd.trans h.dr,hR⟩
theorem zex.fin {us:Array Value}(h:zex w0 W R M K J a B m d B' m' d' x)(hz:Blk W Z 33 us)(h5:us.size=5)(hZ:w0.heap.size≤Z) :
  Hid (RetCe R M K J w0 (.returned (.agg #[.bool hd,.int .i64 a.al,.slice B m d,.slice B' m' d',.string x])) (((((W.setCell ⟨Z,0,none⟩ (.bool hd)).setCell ⟨Z,1,none⟩ (.int .i64 a.al)).setCell ⟨Z,2,none⟩ (.slice B m d)).setCell ⟨Z,3,none⟩ (.slice B' m' d')).setCell ⟨Z,4,none⟩ (.string x))) ∧
  Hid (Blk (((((W.setCell ⟨Z,0,none⟩ (.bool hd)).setCell ⟨Z,1,none⟩ (.int .i64 a.al)).setCell ⟨Z,2,none⟩ (.slice B m d)).setCell ⟨Z,3,none⟩ (.slice B' m' d')).setCell ⟨Z,4,none⟩ (.string x)) Z 33 #[.bool hd,.int .i64 a.al,.slice B m d,.slice B' m' d',.string x]):=by
 have hf:=zao W Z (.bool hd) (.int .i64 a.al) (.slice B m d) (.slice B' m' d') (.string x)
 exact⟨za ⟨hd,a,B,m,d,B',m',d',x,rfl,h.far hz hf hZ (by decide)⟩,za (zan hz h5 _ _ _ _ _)⟩
end
theorem bd_valid {a:Aut}(h:zi a=true∨a=noA):BdA 12 a:=by
 rcases h with h|rfl
 ·obtain⟨h0,⟨h1,h2⟩,h3,h4⟩:=zj h
  refine⟨h2,by omega,fun l hl=>?_⟩
  obtain⟨q,hq⟩:=List.getElem?_of_mem hl
  rw [(h4 q l hq).1]
  exact Nat.le_trans (zC _ _) (by omega)
 ·exact⟨Nat.zero_le _,Nat.zero_le _,fun l hl=>by simp [noA] at hl⟩
theorem bd_autX (s t:Sys) (p:Aut):BdA 12 (autX (vpT s t p).code (vpT s t p).asm (vpT s t p).tr)∧(strX (vpT s t p).code (vpT s t p).asm (vpT s t p).tr).size≤4000:=by
 refine⟨?_,?_⟩
 ·unfold autX
  split
  ·exact bd_valid (vpT_asm s t p)
  ·exact bd_valid (.inr rfl)
 ·unfold strX
  split
  ·exact (zij s t p).2
  ·exact Nat.zero_le _
theorem iface_and (s t:Sys) (p:Aut):∃ a:Nat,a<64∧bits .and .i64 (iface s p t) 63=(a:Int):=by
 rcases zdj s t p with h|⟨L,h⟩
 ·rw [h];exact⟨63,by omega,by decide⟩
 ·rw [h]
  exact⟨L&&&63,by have:=Nat.and_le_right (n:=L) (m:=63);omega,zcl (by have:=zhG h;unfold Sm;omega) (by unfold Sm;decide)⟩
theorem sl_pairR {w:World} {R g n c k c2:Nat} {A C:Option Addr} {s t:Sys}(hb:Blk w g 38 #[.int .i64 s.al,.int .i64 s.st,.slice A n c,.int .i64 t.al,.int .i64 t.st,.slice C k c2])(hg:R<g)(h:zbq w R A n s)(h':zbq w R C k t):zey w (R+1) w.heap.size (some ⟨g,0,none⟩) 2 [s,t]:=by
 refine⟨rfl,[.int .i64 s.al,.int .i64 s.st,.slice A n c,.int .i64 t.al,.int .i64 t.st,.slice C k c2],⟨rfl,by omega,fun _=>⟨_,rfl,hg,hb.lt,fun j u hu=>?_⟩⟩,fun j u hu=>?_⟩
 ·rw [zT,Nat.zero_add,hb.cell]
  simpa using hu
 ·match j with
  |0 =>
   simp at hu;subst hu
   exact⟨A,n,c,rfl,rfl,rfl,h.at_⟩
  |1 =>
   simp at hu;subst hu
   exact⟨C,k,c2,rfl,rfl,rfl,h'.at_⟩
  |j+2=>simp at hu
theorem yK15a3 {P:Prop}(h:P:=by
 go_wp2_with fail
 have cf:=f2.out.cell
 exact bodyPost_ret (v:=.agg #[.bool false,.int .i64 0,.slice none 0 0,.slice none 0 0,.string x]) (by simp [results,Tryz.results93,go_sem,cf]) rfl f1.out
 ):P:=h
theorem spec_l13Draw {R M L K n c k c2 m d m' d':Nat} {s t:Sys} {p:Aut} {A B B' C:Option Addr} {w:World}(h:zbw w w R M L K s A n c t C k c2 p B m d B' m' d')(hM:M≤600000000)(hL:L≤100000) :
  Calls Tryz.prog 93 #[.pointer (some ⟨R,0,none⟩),.agg #[.int .i64 s.al,.int .i64 s.st,.slice A n c],.agg #[.int .i64 t.al,.int .i64 t.st,.slice C k c2],.agg #[.int .i64 p.al,.slice B m d,.slice B' m' d']] w (RetCe R (M+1000) 16 4000 w):=by
 have hRl:=h.hR
 have hx0:Ext w ((((w.alloc (.cells #[.int .i64 s.al,.int .i64 s.st,.slice A n c] 38)).alloc (.cells #[.int .i64 t.al,.int .i64 t.st,.slice C k c2] 38)).alloc (.cells #[.int .i64 p.al,.slice B m d,.slice B' m' d'] 31)).alloc (.cells #[.bool false,.int .i64 0,.slice none 0 0,.slice none 0 0,.string ⟨#[]⟩] 33)):=((((Ext.refl _).alloc _).alloc _).alloc _).alloc _
 obtain⟨b1,b2,b3⟩:=zO ((Ext.refl _).alloc _:Ext (((w.alloc (.cells #[.int .i64 s.al,.int .i64 s.st,.slice A n c] 38)).alloc (.cells #[.int .i64 t.al,.int .i64 t.st,.slice C k c2] 38)).alloc (.cells #[.int .i64 p.al,.slice B m d,.slice B' m' d'] 31)) ((((w.alloc (.cells #[.int .i64 s.al,.int .i64 s.st,.slice A n c] 38)).alloc (.cells #[.int .i64 t.al,.int .i64 t.st,.slice C k c2] 38)).alloc (.cells #[.int .i64 p.al,.slice B m d,.slice B' m' d'] 31)).alloc (.cells #[.bool false,.int .i64 0,.slice none 0 0,.slice none 0 0,.string ⟨#[]⟩] 33)))
 have bz:=Blk.new (((w.alloc (.cells #[.int .i64 s.al,.int .i64 s.st,.slice A n c] 38)).alloc (.cells #[.int .i64 t.al,.int .i64 t.st,.slice C k c2] 38)).alloc (.cells #[.int .i64 p.al,.slice B m d,.slice B' m' d'] 31)) 33 #[.bool false,.int .i64 0,.slice none 0 0,.slice none 0 0,.string ⟨#[]⟩]
 simp only [World.size_alloc] at bz
 go_enter Tryz.func93,Tryz.ntmps93
 go_upto_region 1 with fail
 generalize (((w.alloc (.cells #[.int .i64 s.al,.int .i64 s.st,.slice A n c] 38)).alloc (.cells #[.int .i64 t.al,.int .i64 t.st,.slice C k c2] 38)).alloc (.cells #[.int .i64 p.al,.slice B m d,.slice B' m' d'] 31)).alloc (.cells #[.bool false,.int .i64 0,.slice none 0 0,.slice none 0 0,.string ⟨#[]⟩] 33)=w0 at *
 have ht0:=h.ext hx0
 have hz0:=bz.lt
 have cS:=b1.cell
 have cT:=b2.cell
 have cP:=b3.cell
 obtain⟨vhd,hvhd⟩:∃ v,hdX (vpT s t p).code (vpT s t p).asm (vpT s t p).tr=v:=⟨_,rfl⟩
 obtain⟨vau,hvau⟩:∃ v,autX (vpT s t p).code (vpT s t p).asm (vpT s t p).tr=v:=⟨_,rfl⟩
 obtain⟨vst,hvst⟩:∃ v,strX (vpT s t p).code (vpT s t p).asm (vpT s t p).tr=v:=⟨_,rfl⟩
 obtain⟨vok,hvok⟩:∃ v,okC (vpT s t p).code (vpT s t p).asm (vpT s t p).tr=v:=⟨_,rfl⟩
 have hC:=za (zfw (c:=c) (d:=d) (d':=d') (c2:=c2) ht0.is.at_ ht0.ip.reads ht0.it.at_ (by have:=ht0.ns;omega) (Nat.le_refl _))
 have hbv:=za (bd_autX s t p)
 rw [hvhd,hvau,hvst,hvok] at hC
 rw [hvau,hvst] at hbv
 clear hvhd hvau hvst hvok
 go_upto_region 2 with (first
  |(go_at_call 17;refine (hC.out).mono ?_;rintro e w1 ⟨D,q,f,D',q',f',rfl,ho,hx1⟩;clear cS cT cP))
 have hw1:=hx1.size
 have hx2:=(Ext.refl w1).alloc (.cells #[.bool vhd,.int .i64 vau.al,.slice D q f,.slice D' q' f',.string vst] 33)
 have bc:=Blk.new w1 33 #[.bool vhd,.int .i64 vau.al,.slice D q f,.slice D' q' f',.string vst]
 have hRw0:=ht0.rd.lt
 have hce:zex w (w1.alloc (.cells #[.bool vhd,.int .i64 vau.al,.slice D q f,.slice D' q' f',.string vst] 33)) R M 12 4000 vau D q f D' q' f' vst:=⟨(ho.ext hx2).less (by omega),hbv,(ht0.rd.ext hx1).ext hx2,((ht0.dr.ext hx1).ext hx2),hRl⟩
 have ht2:=(ht0.ext hx1).ext hx2
 have hb12:=hx1.trans hx2
 replace b1:=b1.ext hb12
 replace b2:=b2.ext hb12
 replace b3:=b3.ext hb12
 replace bz:=bz.ext hb12
 clear ho hx2 hb12 ht0 hC
 generalize hG:w1.heap.size=G at *
 generalize w1.alloc (.cells #[.bool vhd,.int .i64 vau.al,.slice D q f,.slice D' q' f',.string vst] 33)=w2 at *
 go_wp2_with fail
 refine (zx ht2.rd (by omega)).mono ?_
 rintro e w3 ⟨y,rfl,-,-,hr3,hd3⟩
 have ht3:=ht2.drawn hd3 hr3
 replace hce:=hce.drawn hd3 hr3
 have hR3:=ht3.rd.lt
 replace b1:=b1.dr hd3 (by omega)
 replace b2:=b2.dr hd3 (by omega)
 replace b3:=b3.dr hd3 (by omega)
 replace bz:=bz.dr hd3 (by omega)
 replace bc:=bc.dr hd3 (by omega)
 have hHG:=za (show w.heap.size+4≤G by omega)
 clear ht2 hd3 hr3 hx1 hG hw1 hz0 hRw0
 by_cases hy0:y=0
 ·subst hy0
  have cS:=b1.cell
  have cT:=b2.cell
  have cP:=b3.cell
  obtain⟨al,ha,hal⟩:=iface_and s t p
  go_wp2_with fail
  refine (zaY (c:=c) (d1:=d) (d1':=d') (c2:=c2) ht3.is.at_ ht3.ip.reads ht3.it.at_).mono ?_
  rintro e w4 ⟨rfl,hx4⟩
  generalize iface s p t=ifc at *
  clear cS cT cP
  go_wp2_with fail
  refine (zgD (ht3.rd.ext hx4) (by omega) ha).mono ?_
  rintro e w5 ⟨b,E,n5,c5,E',n5',c5',rfl,ho5,hg5,hr5,hd5⟩
  have hw4:=hx4.size
  have bz5:=(bz.ext hx4).dr hd5 (by omega)
  have hce5:zex w w5 R (M+1+500) 16 0 b E n5 c5 E' n5' c5' ⟨#[]⟩:=⟨ho5.less (by omega),za ⟨BdA.of hg5.out,Nat.le_refl _⟩,hr5,(ht3.dr.ext hx4).trans hd5,hRl⟩
  obtain⟨f1,f2⟩:=(hce5.more (N:=M+1000) (H:=16) (I:=4000) (by omega) (by omega) (by omega)).fin (hd:=true) bz5 rfl (by omega)
  have cZ:=bz5.cell
  have fZ:=bz5.frozen
  clear bz5 hce5 ho5
  go_wp2_with fail
  have cf:=f2.out.cell
  exact bodyPost_ret (v:=.agg #[.bool true,.int .i64 b.al,.slice E n5 c5,.slice E' n5' c5',.string ⟨#[]⟩]) (by simp [results,Tryz.results93,go_sem,cf]) rfl f1.out
 by_cases hy1:y=1
 ·subst hy1
  have cS:=b1.cell
  have cT:=b2.cell
  go_upto_region 6 with fail
  have hx4:=(Ext.refl w3).alloc (.cells #[.int .i64 s.al,.int .i64 s.st,.slice A n c,.int .i64 t.al,.int .i64 t.st,.slice C k c2] 38)
  have bl:=Blk.new w3 38 #[.int .i64 s.al,.int .i64 s.st,.slice A n c,.int .i64 t.al,.int .i64 t.st,.slice C k c2]
  have hsl:=sl_pairR (R:=R) bl hR3 (ht3.is.ext hx4) (ht3.it.ext hx4)
  have ht4:=ht3.ext hx4
  replace bz:=bz.ext hx4
  have HT:=za (spec_l7Trace (c:=2) (q:=5) ht4.rd (by omega) hsl (by omega) (by omega))
  clear hsl bl
  go_wp2_with fail
  refine HT.out.mono ?_
  rintro e w5 ⟨x,rfl,hx,hr5,hd5⟩
  have hce5:zex w w5 R (M+1+2*5+2) 0 5 autZ none 0 0 none 0 0 x:=⟨zhL _ _,za ⟨bd_autZ _,hx⟩,hr5,ht4.dr.trans hd5,hRl⟩
  have bz5:=bz.dr hd5 (by omega)
  obtain⟨f1,f2⟩:=(hce5.more (N:=M+1000) (H:=16) (I:=4000) (by omega) (by omega) (by omega)).fin (hd:=false) bz5 rfl (by omega)
  dsimp only [autZ] at f1 f2
  have cZ:=bz5.cell
  have fZ:=bz5.frozen
  clear bz5 hce5 cS cT
  exact yK15a3
 by_cases hy2:y=2
 ·subst hy2
  go_wp2_with fail
  refine (spec_l1Word (a:=7) (q:=4) ht3.rd (by omega) (by omega) (by omega)).mono ?_
  rintro e w5 ⟨x,rfl,hx,hr5,hd5⟩
  have hce5:zex w w5 R (M+1+4+2) 0 5 autZ none 0 0 none 0 0 x:=⟨zhL _ _,za ⟨bd_autZ _,by omega⟩,hr5,ht3.dr.trans hd5,hRl⟩
  have bz5:=bz.dr hd5 (by omega)
  obtain⟨f1,f2⟩:=(hce5.more (N:=M+1000) (H:=16) (I:=4000) (by omega) (by omega) (by omega)).fin (hd:=false) bz5 rfl (by omega)
  dsimp only [autZ] at f1 f2
  have cZ:=bz5.cell
  have fZ:=bz5.frozen
  clear bz5 hce5
  exact yK15a3
 have h0:((y:Int)==0)=false:=by simp;omega
 have h1:((y:Int)==1)=false:=by simp;omega
 have h2:((y:Int)==2)=false:=by simp;omega
 clear b1 b2 b3 hy0 hy1 hy2 ht3
 go_upto_block 0 with fail
 go_cut [] (fun wx=>∃ (hd:Bool) (a:Aut) (B:Option Addr) (m d:Nat) (B':Option Addr) (m' d':Nat) (x:ByteArray),Blk wx G 33 #[.bool hd,.int .i64 a.al,.slice B m d,.slice B' m' d',.string x]∧Blk wx (w.heap.size+1+1+1) 33 #[.bool false,.int .i64 0,.slice none 0 0,.slice none 0 0,.string ⟨#[]⟩]∧zex w wx R (M+1000) 16 4000 a B m d B' m' d' x)
 case first =>
  have cG:=bc.cell
  have fG:=bc.frozen
  have hGZ:G≠w.heap.size+1+1+1:=by have:=hHG.out;omega
  have hHG':=hHG.out
  by_cases hy3:y=3
  ·subst hy3
   cases vok
   ·go_wp2_with fail
    go_meet
    exact⟨_,_,_,_,_,_,_,_,_,bc,bz,hce.more (by omega) (by omega) (by omega)⟩
   ·cases vhd
    ·go_wp2_with fail
     go_meet
     exact⟨_,_,_,_,_,_,_,_,_,bc,bz,hce.more (by omega) (by omega) (by omega)⟩
    ·go_wp2_with fail
     refine (zfj hce.rd (by omega) hce.own hce.bd.out.1 (by omega)).mono ?_
     rintro e w5 ⟨b,E,n5,c5,E',n5',c5',rfl,ho5,hb5,hr5,hd5⟩
     have hce5:=hce.drawn hd5 hr5
     have bc5:=bc.dr hd5 (by omega)
     have bz5:=bz.dr hd5 (by omega)
     clear cG fG
     have cG:=bc5.cell
     have fG:=bc5.frozen
     have hf:Frm (fun k=>k=G) w5 (((w5.setCell ⟨G,1,none⟩ (.int .i64 b.al)).setCell ⟨G,2,none⟩ (.slice E n5 c5)).setCell ⟨G,3,none⟩ (.slice E' n5' c5')):=((Frm.setCell w5 G 1 _).trans (Frm.setCell _ G 2 _)).trans (Frm.setCell _ G 3 _)
     have hB:Blk (((w5.setCell ⟨G,1,none⟩ (.int .i64 b.al)).setCell ⟨G,2,none⟩ (.slice E n5 c5)).setCell ⟨G,3,none⟩ (.slice E' n5' c5')) G 33 #[.bool true,.int .i64 b.al,.slice E n5 c5,.slice E' n5' c5',.string vst]:=by
      simpa using ((bc5.set_ 1 (.int .i64 b.al)).set_ 2 (.slice E n5 c5)).set_ 3 (.slice E' n5' c5')
     have zio:=(({ hce5 with own:=ho5.less (by omega),bd:=za ⟨hb5.out,hce.bd.out.2⟩ }:zex w w5 R _ 13 4000 b E n5 c5 E' n5' c5' vst).far bc5 hf (by omega) (by decide)).more (N:=M+1000) (H:=16) (I:=4000) (by omega) (by omega) (by omega)
     have bz6:=bz5.frm hf (fun e=>hGZ e.symm)
     clear bc5 bz5 hf
     go_wp2_with fail
     go_meet
     exact⟨_,_,_,_,_,_,_,_,_,hB,bz6,zio⟩
  ·have h3:((y:Int)==3)=false:=by simp;omega
   by_cases hy4:y=4
   ·subst hy4
    have hf:=Frm.setCell w3 G 0 (.bool (!vhd))
    have hB:Blk (w3.setCell ⟨G,0,none⟩ (.bool (!vhd))) G 33 #[.bool (!vhd),.int .i64 vau.al,.slice D q f,.slice D' q' f',.string vst]:=by
     simpa using bc.set_ 0 (.bool (!vhd))
    have zio:=(hce.far bc hf (by omega) (by decide)).more (N:=M+1000) (H:=16) (I:=4000) (by omega) (by omega) (by omega)
    have bz6:=bz.frm hf (fun e=>hGZ e.symm)
    go_wp2_with fail
    go_meet
    exact⟨_,_,_,_,_,_,_,_,_,hB,bz6,zio⟩
   ·have h4:((y:Int)==4)=false:=by simp;omega
    go_wp2_with fail
    go_meet
    exact⟨_,_,_,_,_,_,_,_,_,bc,bz,hce.more (by omega) (by omega) (by omega)⟩
 case rest =>
  clear hce bc bz
  obtain⟨hd,a,B,m,d,B',m',d',x,bc,bz,hce⟩:=hcut
  obtain⟨f1,f2⟩:=hce.fin (hd:=hd) bz rfl (by omega)
  have cG:=bc.cell
  have cZ:=bz.cell
  have fZ:=bz.frozen
  go_wp2_with fail
  have cf:=f2.out.cell
  exact bodyPost_ret (v:=.agg #[.bool hd,.int .i64 a.al,.slice B m d,.slice B' m' d',.string x]) (by simp [results,Tryz.results93,go_sem,cf]) rfl f1.out
theorem zhY {R M K J m d m' d':Nat} {a:Aut} {B B':Option Addr} {x:ByteArray} {hd:Bool} {w:World}(h:zex w w R M K J a B m d B' m' d' x)(hM:M≤600000000)(hK:K≤60)(hJ:J≤5000) :
  Calls Tryz.prog 92 #[.pointer (some ⟨R,0,none⟩),.agg #[.bool hd,.int .i64 a.al,.slice B m d,.slice B' m' d',.string x]] w (RetCe R (M+100) (K+39) (J+1) w):=by
 have hRl:=h.hR
 obtain⟨b1,bz⟩:=zU (Ext.refl ((w.alloc (.cells #[.bool hd,.int .i64 a.al,.slice B m d,.slice B' m' d',.string x] 33)).alloc (.cells #[.bool false,.int .i64 0,.slice none 0 0,.slice none 0 0,.string ⟨#[]⟩] 33)))
 have hx0:Ext w ((w.alloc (.cells #[.bool hd,.int .i64 a.al,.slice B m d,.slice B' m' d',.string x] 33)).alloc (.cells #[.bool false,.int .i64 0,.slice none 0 0,.slice none 0 0,.string ⟨#[]⟩] 33)):=((Ext.refl w).alloc _).alloc _
 go_enter Tryz.func92,Tryz.ntmps92
 go_upto_region 1 with fail
 generalize (w.alloc (.cells #[.bool hd,.int .i64 a.al,.slice B m d,.slice B' m' d',.string x] 33)).alloc (.cells #[.bool false,.int .i64 0,.slice none 0 0,.slice none 0 0,.string ⟨#[]⟩] 33)=w0 at *
 have hce0:=h.ext hx0
 go_wp2_with fail
 refine (zx hce0.rd (by omega)).mono ?_
 rintro e w2 ⟨y,rfl,-,-,hr2,hd2⟩
 have hce:=hce0.drawn hd2 hr2
 have hsz:=hx0.size
 have hsz2:=hce.dr.size
 replace b1:=b1.dr hd2 (by omega)
 replace bz:=bz.dr hd2 (by omega)
 clear hce0 hd2 hr2 hx0 h
 go_upto_block 0 with fail
 go_cut [] (fun wx=>∃ (a:Aut) (B:Option Addr) (m d:Nat) (B':Option Addr) (m' d':Nat) (x:ByteArray),Blk wx w.heap.size 33 #[.bool hd,.int .i64 a.al,.slice B m d,.slice B' m' d',.string x]∧Blk wx (w.heap.size+1) 33 #[.bool false,.int .i64 0,.slice none 0 0,.slice none 0 0,.string ⟨#[]⟩]∧zex w wx R (M+100) (K+39) (J+1) a B m d B' m' d' x)
 case first =>
  have cG:=b1.cell
  have hcases:y=0∨y=1∨y=2∨3≤y:=by omega
  rcases hcases with hy|hy|hy|hy
  ·subst hy
   have hy0:True:=trivial
   go_wp2_with fail
   refine (zbD hce.rd (by omega) hce.own hce.bd.out.1 (by omega)).mono ?_
   rintro e v1 ⟨a1,A1,n1,d1,B1,m1,e1,rfl,ho1,hb1,hr1,hd1⟩
   have hce1:=hce.drawn hd1 hr1
   have hq1:=hce.rd.lt
   have hq2:=hce1.rd.lt
   clear cG
   go_wp2_with fail
   refine (zbD hr1 (by omega) (ho1.less (by omega)) hb1.out (by omega)).mono ?_
   rintro e v2 ⟨a2,A2,n2,d2,B2,m2,e2,rfl,ho2,hb2,hr2,hd2⟩
   have hce2:=hce1.drawn hd2 hr2
   have hq3:=hce2.rd.lt
   go_wp2_with fail
   refine (zbD hr2 (by omega) (ho2.less (by omega)) hb2.out (by omega)).mono ?_
   rintro e v3 ⟨a3,A3,n3,d3,B3,m3,e3,rfl,ho3,hb3,hr3,hd3⟩
   have hce3:=hce2.drawn hd3 hr3
   have bc5:=((b1.dr hd1 (by omega)).dr hd2 (by omega)).dr hd3 (by omega)
   have bz5:=((bz.dr hd1 (by omega)).dr hd2 (by omega)).dr hd3 (by omega)
   have cG:=bc5.cell
   have fG:=bc5.frozen
   have hf:Frm (fun k=>k=w.heap.size) v3 (((v3.setCell ⟨w.heap.size,1,none⟩ (.int .i64 a3.al)).setCell ⟨w.heap.size,2,none⟩ (.slice A3 n3 d3)).setCell ⟨w.heap.size,3,none⟩ (.slice B3 m3 e3)):=((Frm.setCell v3 w.heap.size 1 _).trans (Frm.setCell _ w.heap.size 2 _)).trans (Frm.setCell _ w.heap.size 3 _)
   have hB:Blk (((v3.setCell ⟨w.heap.size,1,none⟩ (.int .i64 a3.al)).setCell ⟨w.heap.size,2,none⟩ (.slice A3 n3 d3)).setCell ⟨w.heap.size,3,none⟩ (.slice B3 m3 e3)) w.heap.size 33 #[.bool hd,.int .i64 a3.al,.slice A3 n3 d3,.slice B3 m3 e3,.string x]:=by
    simpa using ((bc5.set_ 1 (.int .i64 a3.al)).set_ 2 (.slice A3 n3 d3)).set_ 3 (.slice B3 m3 e3)
   have zio:=(({ hce3 with own:=ho3.less (by omega),bd:=za ⟨hb3.out,hce.bd.out.2⟩ }:zex w v3 R _ (K+13+13+13) J a3 A3 n3 d3 B3 m3 e3 x).far bc5 hf (by omega) (by decide)).more (N:=M+100) (H:=K+39) (I:=J+1) (by omega) (by omega) (by omega)
   have bz6:=bz5.frm hf (by omega)
   clear bc5 bz5 hf
   go_wp2_with fail
   go_meet
   exact⟨_,_,_,_,_,_,_,_,hB,bz6,zio⟩
  ·subst hy
   have hy0:True:=trivial
   have hxs:=hce.bd.out.2
   have hKle:K≤K+39:=by omega
   generalize hK9:K+39=K9 at *
   have cG':∀ W,Dr R w2 W→∀ q,W.cell? ⟨w.heap.size,q,none⟩=#[Value.bool hd,.int .i64 a.al,.slice B m d,.slice B' m' d',.string x][q]?:=fun W hW=>(b1.dr hW (by omega)).cell
   clear cG
   go_wp2_with fail
   refine tR (fun X=>Dr R w2 X) [7] (Ord.of [0,1,2,3,4,5,6,7]) ?_
   refine tQ ?_
   (refine zA rfl rfl rfl (fun K hK=>?_);go_simp)
   refine hK.out _ _ ((Dr.refl R w2).drew.alloc _) ?_
   refine pT ?_
   (refine zA rfl rfl rfl (fun K hK=>?_);go_simp)
   have hxd:=(Ext.refl w2).drew
   have zil:=zbk w2.drew (us:=#[.string ⟨#[103]⟩,.string ⟨#[97]⟩,.string ⟨#[45]⟩]) (n:=3) rfl rfl (by omega)
   have hq1:=hce.rd.lt
   refine (l19Rd_of ((hce.rd.ext hxd).ext ((Ext.refl _).alloc _)) (by omega) (Reads.of_own zil) (by show R<w2.drew.heap.size;exact hq1) (by omega)).mono ?_
   rintro e w4 ⟨u,hu,rfl,hr4,hd4⟩
   have hd24:Dr R w2 w4:=((Dr.refl R w2).drew.alloc _).trans hd4
   have hus:u.size≤1:=by
    simp [zif] at hu
    rcases hu with rfl|rfl|rfl<;>decide
   have hxu:¬ (9223372036854775807<x.size+u.size):=by omega
   refine hK.out _ _ hd24 ?_
   refine pT ?_
   refine tQ ?_
   have hce4:=hce.drawn hd24 hr4
   have bc5:=b1.dr hd24 (by omega)
   have bz5:=bz.dr hd24 (by omega)
   have fG:=bc5.frozen
   have hf:=Frm.setCell w4 w.heap.size 4 (.string (x++u))
   have hB:Blk (w4.setCell ⟨w.heap.size,4,none⟩ (.string (x++u))) w.heap.size 33 #[.bool hd,.int .i64 a.al,.slice B m d,.slice B' m' d',.string (x++u)]:=by
    simpa using bc5.set_ 4 (.string (x++u))
   have zio:=(({ hce4 with bd:=za ⟨hce.bd.out.1,by rw [ByteArray.size_append];omega⟩ }:zex w w4 R _ _ (J+1) a B m d B' m' d' (x++u)).far bc5 hf (by omega) (by decide)).more (N:=M+100) (H:=K9) (I:=J+1) (by omega) hKle (by omega)
   have bz6:=bz5.frm hf (by omega)
   (refine zL rfl rfl rfl rfl (fun K hK=>?_))
   go_simp
   refine hK.out _ _ ?_
   refine zaj ?_
   clear bc5 bz5 hf
   go_wp2_with fail
   go_meet
   exact⟨_,_,_,_,_,_,_,_,hB,bz6,zio⟩
  ·subst hy
   have hy0:True:=trivial
   have fG:=b1.frozen
   have hf:Frm (fun k=>k=w.heap.size) w2 (((w2.setCell ⟨w.heap.size,1,none⟩ (.int .i64 1)).setCell ⟨w.heap.size,2,none⟩ (.slice none 0 0)).setCell ⟨w.heap.size,3,none⟩ (.slice none 0 0)):=((Frm.setCell w2 w.heap.size 1 _).trans (Frm.setCell _ w.heap.size 2 _)).trans (Frm.setCell _ w.heap.size 3 _)
   have hB:Blk (((w2.setCell ⟨w.heap.size,1,none⟩ (.int .i64 1)).setCell ⟨w.heap.size,2,none⟩ (.slice none 0 0)).setCell ⟨w.heap.size,3,none⟩ (.slice none 0 0)) w.heap.size 33 #[.bool hd,.int .i64 (⟨1,[],[]⟩:Aut).al,.slice none 0 0,.slice none 0 0,.string x]:=by
    simpa using ((b1.set_ 1 (.int .i64 1)).set_ 2 (.slice none 0 0)).set_ 3 (.slice none 0 0)
   have zio:=(({ hce with own:=⟨⟨[],World.ownsRow_nil _ _ _ _,zI.nil _ _⟩,rfl,World.ownsRow_nil _ _ _ _,rfl⟩,bd:=za ⟨⟨Nat.zero_le _,Nat.zero_le _,fun l hl=>by simp at hl⟩,hce.bd.out.2⟩ }:zex w w2 R _ K J ⟨1,[],[]⟩ none 0 0 none 0 0 x).far b1 hf (by omega) (by decide)).more (N:=M+100) (H:=K+39) (I:=J+1) (by omega) (by omega) (by omega)
   have bz6:=bz.frm hf (by omega)
   go_wp2_with fail
   go_meet
   exact⟨_,_,_,_,_,_,_,_,hB,bz6,zio⟩
  ·have h0:((y:Int)==0)=false:=by simp;omega
   have h1:((y:Int)==1)=false:=by simp;omega
   have h2:((y:Int)==2)=false:=by simp;omega
   go_wp2_with fail
   go_meet
   exact⟨_,_,_,_,_,_,_,_,b1,bz,hce.more (by omega) (by omega) (by omega)⟩
 case rest =>
  clear hce b1 bz hsz2
  obtain⟨a,B,m,d,B',m',d',x,bc,bz,hce⟩:=hcut
  obtain⟨f1,f2⟩:=hce.fin (hd:=hd) bz rfl (by omega)
  have cG:=bc.cell
  have cZ:=bz.cell
  have fZ:=bz.frozen
  go_wp2_with fail
  have cf:=f2.out.cell
  exact bodyPost_ret (v:=.agg #[.bool hd,.int .i64 a.al,.slice B m d,.slice B' m' d',.string x]) (by simp [results,Tryz.results92,go_sem,cf]) rfl f1.out
theorem zZ.at_new {w:World} {base lo:Nat} {A:Option Addr} {n c:Nat} {A':Option Addr} {n' c':Nat} {a:Aut}(h:zZ w base A n c A' n' c' a)(hl:lo≤base):zG w lo w.heap.size A n A' n' a:=(h.less hl).reads
def RetDK (w:World) (e:Ending) (w':World):Prop:=
 ∃ (s:Sys) (A:Option Addr) (n c:Nat) (t:Sys) (C:Option Addr) (k c2:Nat) (p:Aut) (B:Option Addr) (m d:Nat) (B':Option Addr) (m' d':Nat) (hd:Bool) (a:Aut) (D:Option Addr) (q f:Nat) (D':Option Addr) (q' f':Nat) (x:ByteArray),
  e=.returned (.tuple #[.agg #[.int .i64 s.al,.int .i64 s.st,.slice A n c],.agg #[.int .i64 t.al,.int .i64 t.st,.slice C k c2],.agg #[.int .i64 p.al,.slice B m d,.slice B' m' d'],.agg #[.bool hd,.int .i64 a.al,.slice D q f,.slice D' q' f',.string x]]) ∧
  (zN w' w.heap.size w'.heap.size A n s∧zN w' w.heap.size w'.heap.size C k t∧zG w' w.heap.size w'.heap.size B m B' m' p∧zG w' w.heap.size w'.heap.size D q D' q' a) ∧
  Hid (((n≤100000∧n≤c)∧(k≤100000∧k≤c2))∧BdA 100 p∧BdA 100 a∧x.size≤5000)∧Ext w w'
theorem draw_ck {R M L K N H J n c k c2 m d m' d' q f q' f':Nat} {s t:Sys} {p a:Aut} {A B B' C D D':Option Addr} {x:ByteArray} {hd:Bool} {w w1 W W':World} {S:Nat→Prop}(hx:Ext w w1)(hR:w.heap.size≤R)(hT:zbw w1 W R M L K s A n c t C k c2 p B m d B' m' d')(hC:zex w1 W R N H J a D q f D' q' f' x)
  (hF:Frm S W W') (hS:∀ k,S k→w.heap.size≤k∧k<R) (hL:L≤100000) (hK:K≤100) (hH:H≤100) (hJ:J≤5000) :
  RetDK w (.returned (.tuple #[.agg #[.int .i64 s.al,.int .i64 s.st,.slice A n c],.agg #[.int .i64 t.al,.int .i64 t.st,.slice C k c2],.agg #[.int .i64 p.al,.slice B m d,.slice B' m' d'],.agg #[.bool hd,.int .i64 a.al,.slice D q f,.slice D' q' f',.string x]])) W':=by
 have hxW:Ext w W:=Dr.new hx hR hT.dr
 have i1:=hT.is.frm hF (fun k hk h1=>by have:=hS k hk;omega)
 have i2:=hT.it.frm hF (fun k hk h1=>by have:=hS k hk;omega)
 have i3:=hT.ip.keep hF (fun k h1 hk=>by have:=hS k hk;omega)
 have i4:=hC.own.keep hF (fun k h1 hk=>by have:=hS k hk;omega)
 have hn:=hT.ns
 exact⟨s,A,n,c,t,C,k,c2,p,B,m,d,B',m',d',hd,a,D,q,f,D',q',f',x,rfl,⟨i1.new hR,i2.new hR,i3.at_new (by omega),i4.at_new (by omega)⟩,za ⟨by omega,BdL.more hT.bd.out hK,BdL.more hC.bd.out.1 hH,Nat.le_trans hC.bd.out.2 hJ⟩,hxW.frm hF (fun k hk hk2=>by have:=hS k hk2;omega)⟩
theorem zgT {A0:Option Addr} {n0 c0:Nat} {w:World}(h:Bytes w A0 n0)(hn:n0≤9223372036854775807)(hc:n0≤c0)(hc2:c0≤9223372036854775807) :
  Calls Tryz.prog 37 #[.slice A0 n0 c0] w (RetDK w):=by
 have hx0:Ext w ((((w.alloc (.cells #[.int .i64 0,.int .i64 0,.slice none 0 0] 38)).alloc (.cells #[.int .i64 0,.int .i64 0,.slice none 0 0] 38)).alloc (.cells #[.int .i64 0,.slice none 0 0,.slice none 0 0] 31)).alloc (.cells #[.bool false,.int .i64 0,.slice none 0 0,.slice none 0 0,.string ⟨#[]⟩] 33)):=((((Ext.refl _).alloc _).alloc _).alloc _).alloc _
 obtain⟨z1,z2,z3,z4⟩:=zdU (Ext.refl ((((w.alloc (.cells #[.int .i64 0,.int .i64 0,.slice none 0 0] 38)).alloc (.cells #[.int .i64 0,.int .i64 0,.slice none 0 0] 38)).alloc (.cells #[.int .i64 0,.slice none 0 0,.slice none 0 0] 31)).alloc (.cells #[.bool false,.int .i64 0,.slice none 0 0,.slice none 0 0,.string ⟨#[]⟩] 33)))
 have hsz:((((w.alloc (.cells #[.int .i64 0,.int .i64 0,.slice none 0 0] 38)).alloc (.cells #[.int .i64 0,.int .i64 0,.slice none 0 0] 38)).alloc (.cells #[.int .i64 0,.slice none 0 0,.slice none 0 0] 31)).alloc (.cells #[.bool false,.int .i64 0,.slice none 0 0,.slice none 0 0,.string ⟨#[]⟩] 33)).heap.size=w.heap.size+4:=by simp
 have hh:=za (h.ext hx0)
 clear h
 go_enter Tryz.func37,Tryz.ntmps37
 go_upto_region 1 with fail
 generalize (((w.alloc (.cells #[.int .i64 0,.int .i64 0,.slice none 0 0] 38)).alloc (.cells #[.int .i64 0,.int .i64 0,.slice none 0 0] 38)).alloc (.cells #[.int .i64 0,.slice none 0 0,.slice none 0 0] 31)).alloc (.cells #[.bool false,.int .i64 0,.slice none 0 0,.slice none 0 0,.string ⟨#[]⟩] 33)=w0 at *
 go_wp2_with fail
 refine (spec_l19Open hh.out hn hc hc2).mono ?_
 rintro e w1 ⟨R,rfl,hR,hr1,hx1⟩
 have hx01:=hx0.trans hx1
 have hRl:=hr1.lt
 replace z1:=z1.ext hx1
 replace z2:=z2.ext hx1
 replace z3:=z3.ext hx1
 replace z4:=z4.ext hx1
 go_upto_region 3 with (first
  |(go_at_call 91;refine (spec_l12Draw hr1 (by omega)).mono ?_;rintro e w2 ⟨s,A,n,c,t,C,k,c2,p,B,m,d,B',m',d',rfl,ht⟩))
 have hx2:Ext w2 (((w2.alloc (.cells #[.int .i64 s.al,.int .i64 s.st,.slice A n c] 38)).alloc (.cells #[.int .i64 t.al,.int .i64 t.st,.slice C k c2] 38)).alloc (.cells #[.int .i64 p.al,.slice B m d,.slice B' m' d'] 31)):=(((Ext.refl _).alloc _).alloc _).alloc _
 obtain⟨b1,b2,b3⟩:=zO (Ext.refl (((w2.alloc (.cells #[.int .i64 s.al,.int .i64 s.st,.slice A n c] 38)).alloc (.cells #[.int .i64 t.al,.int .i64 t.st,.slice C k c2] 38)).alloc (.cells #[.int .i64 p.al,.slice B m d,.slice B' m' d'] 31)))
 have hw2:=ht.dr.size
 have zz:=za (And.intro ((z1.dr ht.dr (by omega)).ext hx2) (And.intro ((z2.dr ht.dr (by omega)).ext hx2) (And.intro ((z3.dr ht.dr (by omega)).ext hx2) ((z4.dr ht.dr (by omega)).ext hx2))))
 have ht2:=ht.ext hx2
 have hsz2:(((w2.alloc (.cells #[.int .i64 s.al,.int .i64 s.st,.slice A n c] 38)).alloc (.cells #[.int .i64 t.al,.int .i64 t.st,.slice C k c2] 38)).alloc (.cells #[.int .i64 p.al,.slice B m d,.slice B' m' d'] 31)).heap.size=w2.heap.size+3:=by simp
 clear ht hx2 z1 z2 z3 z4
 generalize hG:w2.heap.size=G at *
 generalize ((w2.alloc (.cells #[.int .i64 s.al,.int .i64 s.st,.slice A n c] 38)).alloc (.cells #[.int .i64 t.al,.int .i64 t.st,.slice C k c2] 38)).alloc (.cells #[.int .i64 p.al,.slice B m d,.slice B' m' d'] 31)=w3 at *
 clear hG
 have cS:=b1.cell
 have cT:=b2.cell
 have cP:=b3.cell
 have HD:=za (spec_l13Draw ht2.own (by omega) (by omega))
 have hn2:=ht2.ns
 go_upto_region 4 with (first
  |(go_at_call 93;refine HD.out.mono ?_;rintro e w4 ⟨hd4,a4,D4,q4,f4,D4',q4',f4',x4,rfl,hc4⟩;have hWr:=za (zhY (hd:=hd4) ({ hc4 with dr:=Dr.refl _ _,hR:=hc4.rd.lt }:zex w4 w4 R _ 16 4000 a4 D4 q4 f4 D4' q4' f4' x4) (by omega) (by omega) (by omega)))
  |(go_at_call 92;refine hWr.out.mono ?_;rintro e w5 ⟨hd,a,D,q,f,D',q',f',x,rfl,hc5⟩))
 have hc4w:=hc4.dr
 have hc5w:=hc5.dr
 have hx6:=(Ext.refl w5).alloc (.cells #[.bool hd,.int .i64 a.al,.slice D q f,.slice D' q' f',.string x] 33)
 have bc:=Blk.new w5 33 #[.bool hd,.int .i64 a.al,.slice D q f,.slice D' q' f',.string x]
 have hdw:Dr R w3 (w5.alloc (.cells #[.bool hd,.int .i64 a.al,.slice D q f,.slice D' q' f',.string x] 33)):=(hc4w.trans hc5w).ext hx6
 have hce:=((hc5.less hc4w hc4.hR).ext hx6).less ht2.dr hRl
 have ht6:=ht2.drawn hdw hce.rd
 have hs45:=(hc4w.trans hc5w).size
 replace b1:=b1.dr hdw (by omega)
 replace b2:=b2.dr hdw (by omega)
 replace b3:=b3.dr hdw (by omega)
 obtain⟨z1,z2,z3,z4⟩:=zz.out
 replace zz:=za (And.intro (z1.dr hdw (by omega)) (And.intro (z2.dr hdw (by omega)) (And.intro (z3.dr hdw (by omega)) (z4.dr hdw (by omega)))))
 clear hc4 hc5 hc4w hc5w hx6 hdw ht2 z1 z2 z3 z4 HD hWr cS cT cP hx0 hx1
 have hGc:=za (show G+3≤w5.heap.size∧R<G by omega)
 generalize hGe:w5.heap.size=Gc at *
 generalize w5.alloc (.cells #[.bool hd,.int .i64 a.al,.slice D q f,.slice D' q' f',.string x] 33)=w6 at *
 clear hGe hs45 hsz2
 have cS:=b1.cell
 have cT:=b2.cell
 have cP:=b3.cell
 have HS:=za (spec_l9Spoil ht6.own (by omega) (by omega) (by omega))
 go_wp2_with fail
 refine HS.out.mono ?_
 rintro e w7 ⟨s7,A7,n7,c7,t7,C7,k7,d7,p7,B7,m7,e7,B7',m7',e7',rfl,ht7⟩
 have hR6:=ht6.rd.lt
 have hdw:=ht7.dr
 replace hce:=hce.drawn hdw ht7.rd
 have ht8:=ht7.less ht6.dr hRl
 replace b1:=b1.dr hdw (by have:=hGc.out;omega)
 replace b2:=b2.dr hdw (by have:=hGc.out;omega)
 replace b3:=b3.dr hdw (by have:=hGc.out;omega)
 replace bc:=bc.dr hdw (by have:=hGc.out;omega)
 obtain⟨z1,z2,z3,z4⟩:=zz.out
 replace zz:=za (And.intro (z1.dr hdw (by omega)) (And.intro (z2.dr hdw (by omega)) (And.intro (z3.dr hdw (by omega)) (z4.dr hdw (by omega)))))
 clear ht6 ht7 hdw z1 z2 z3 z4 HS cS cT cP
 have cS:=b1.cell
 have fS:=b1.frozen
 have cT:=b2.cell
 have fT:=b2.frozen
 have cP:=b3.cell
 have fP:=b3.frozen
 go_upto_region 5 with fail
 have e1:=zah w7 G (.int .i64 s7.al) (.int .i64 s7.st) (.slice A7 n7 c7)
 have q1:=zax b1 rfl (.int .i64 s7.al) (.int .i64 s7.st) (.slice A7 n7 c7)
 replace ht8:=ht8.far b1 e1 (by omega) (by decide) (by decide)
 replace hce:=hce.far b1 e1 (by omega) (by decide)
 replace b2:=b2.frm e1 (by omega)
 replace b3:=b3.frm e1 (by omega)
 replace bc:=bc.frm e1 (by have:=hGc.out;omega)
 obtain⟨z1,z2,z3,z4⟩:=zz.out
 replace z1:=z1.frm e1 (by omega)
 replace z2:=z2.frm e1 (by omega)
 replace z3:=z3.frm e1 (by omega)
 replace z4:=z4.frm e1 (by omega)
 clear zz e1 b1 cS fS cT fT cP fP
 generalize ((w7.setCell ⟨G,0,none⟩ (.int .i64 s7.al)).setCell ⟨G,1,none⟩ (.int .i64 s7.st)).setCell ⟨G,2,none⟩ (.slice A7 n7 c7)=w8 at *
 have e1:=zah w8 (G+1+1) (.int .i64 p7.al) (.slice B7 m7 e7) (.slice B7' m7' e7')
 have q3:=zax b3 rfl (.int .i64 p7.al) (.slice B7 m7 e7) (.slice B7' m7' e7')
 replace ht8:=ht8.far b3 e1 (by omega) (by decide) (by decide)
 replace hce:=hce.far b3 e1 (by omega) (by decide)
 replace b2:=b2.frm e1 (by omega)
 replace q1:=q1.frm e1 (by omega)
 replace bc:=bc.frm e1 (by have:=hGc.out;omega)
 replace z1:=z1.frm e1 (by omega)
 replace z2:=z2.frm e1 (by omega)
 replace z3:=z3.frm e1 (by omega)
 replace z4:=z4.frm e1 (by omega)
 clear e1 b3
 generalize ((w8.setCell ⟨G+1+1,0,none⟩ (.int .i64 p7.al)).setCell ⟨G+1+1,1,none⟩ (.slice B7 m7 e7)).setCell ⟨G+1+1,2,none⟩ (.slice B7' m7' e7')=w9 at *
 have e1:=zah w9 (G+1) (.int .i64 t7.al) (.int .i64 t7.st) (.slice C7 k7 d7)
 have q2:=zax b2 rfl (.int .i64 t7.al) (.int .i64 t7.st) (.slice C7 k7 d7)
 replace ht8:=ht8.far b2 e1 (by omega) (by decide) (by decide)
 replace hce:=hce.far b2 e1 (by omega) (by decide)
 replace q1:=q1.frm e1 (by omega)
 replace q3:=q3.frm e1 (by omega)
 replace bc:=bc.frm e1 (by have:=hGc.out;omega)
 replace z1:=z1.frm e1 (by omega)
 replace z2:=z2.frm e1 (by omega)
 replace z3:=z3.frm e1 (by omega)
 replace z4:=z4.frm e1 (by omega)
 clear e1 b2
 generalize ((w9.setCell ⟨G+1,0,none⟩ (.int .i64 t7.al)).setCell ⟨G+1,1,none⟩ (.int .i64 t7.st)).setCell ⟨G+1,2,none⟩ (.slice C7 k7 d7)=wE at *
 have cS:∀ W,Frm (fun k=>k=w.heap.size∨k=w.heap.size+1∨k=w.heap.size+1+1) wE W→∀ q,W.cell? ⟨G,q,none⟩=#[Value.int .i64 s7.al,.int .i64 s7.st,.slice A7 n7 c7][q]?:=fun W hW=>(q1.frm hW (by have:=hGc.out;omega)).cell
 have cT:∀ W,Frm (fun k=>k=w.heap.size∨k=w.heap.size+1∨k=w.heap.size+1+1) wE W→∀ q,W.cell? ⟨G+1,q,none⟩=#[Value.int .i64 t7.al,.int .i64 t7.st,.slice C7 k7 d7][q]?:=fun W hW=>(q2.frm hW (by have:=hGc.out;omega)).cell
 have cP:∀ W,Frm (fun k=>k=w.heap.size∨k=w.heap.size+1∨k=w.heap.size+1+1) wE W→∀ q,W.cell? ⟨G+1+1,q,none⟩=#[Value.int .i64 p7.al,.slice B7 m7 e7,.slice B7' m7' e7'][q]?:=fun W hW=>(q3.frm hW (by have:=hGc.out;omega)).cell
 have cC:∀ W,Frm (fun k=>k=w.heap.size∨k=w.heap.size+1∨k=w.heap.size+1+1) wE W→∀ j,W.cell? ⟨Gc,j,none⟩=#[Value.bool hd,.int .i64 a.al,.slice D q f,.slice D' q' f',.string x][j]?:=fun W hW=>(bc.frm hW (by have:=hGc.out;omega)).cell
 have hS0:Frm (fun k=>k=w.heap.size∨k=w.heap.size+1∨k=w.heap.size+1+1) wE wE.drew:=(Ext.refl wE).drew.toFrm
 have hxE:=(Ext.refl wE).drew
 have hF0:Frm (fun k=>k=w.heap.size∨k=w.heap.size+1∨k=w.heap.size+1+1∨k=w.heap.size+1+1+1) wE wE:=Frm.refl _ _
 clear q1 q2 q3 bc
 go_wp2_with fail
 refine tR (fun X=>Frm (fun k=>k=w.heap.size∨k=w.heap.size+1∨k=w.heap.size+1+1) wE X) [7] (Ord.of [0,1,2,3,4,5,6,7]) ?_
 refine tQ ?_
 have hFd:Frm (fun k=>k=w.heap.size∨k=w.heap.size+1∨k=w.heap.size+1+1∨k=w.heap.size+1+1+1) wE wE.drew:=hxE.toFrm
 replace z1:=z1.ext hxE
 replace z2:=z2.ext hxE
 replace z3:=z3.ext hxE
 replace z4:=z4.ext hxE
 clear hF0
 generalize hwD:wE.drew=wD at *
 clear hwD hxE
 have k1:=z1.cell
 have g1:=z1.frozen
 (refine zA rfl rfl rfl (fun K hK=>?_);go_simp)
 have r1:=zax z1 rfl (.int .i64 s7.al) (.int .i64 s7.st) (.slice A7 n7 c7)
 have e1:=zah wD w.heap.size (.int .i64 s7.al) (.int .i64 s7.st) (.slice A7 n7 c7)
 replace z2:=z2.frm e1 (by omega)
 replace z3:=z3.frm e1 (by omega)
 replace z4:=z4.frm e1 (by omega)
 have hS1:=hS0.trans (e1.mono (T:=fun k=>k=w.heap.size∨k=w.heap.size+1∨k=w.heap.size+1+1) (fun k _ hk=>.inl hk))
 replace hFd:=hFd.trans (e1.mono (T:=fun k=>k=w.heap.size∨k=w.heap.size+1∨k=w.heap.size+1+1∨k=w.heap.size+1+1+1) (fun k _ hk=>.inl hk))
 refine hK.out _ _ hS1 ?_
 refine pT ?_
 clear k1 g1 z1 e1 hS0
 generalize ((wD.setCell ⟨w.heap.size,0,none⟩ (.int .i64 s7.al)).setCell ⟨w.heap.size,1,none⟩ (.int .i64 s7.st)).setCell ⟨w.heap.size,2,none⟩ (.slice A7 n7 c7)=wA at *
 have k1:=z2.cell
 have g1:=z2.frozen
 (refine zA rfl rfl rfl (fun K hK=>?_);go_simp)
 have r2:=zax z2 rfl (.int .i64 t7.al) (.int .i64 t7.st) (.slice C7 k7 d7)
 have e1:=zah wA (w.heap.size+1) (.int .i64 t7.al) (.int .i64 t7.st) (.slice C7 k7 d7)
 replace r1:=r1.frm e1 (by omega)
 replace z3:=z3.frm e1 (by omega)
 replace z4:=z4.frm e1 (by omega)
 have hS2:=hS1.trans (e1.mono (T:=fun k=>k=w.heap.size∨k=w.heap.size+1∨k=w.heap.size+1+1) (fun k _ hk=>.inr (.inl hk)))
 replace hFd:=hFd.trans (e1.mono (T:=fun k=>k=w.heap.size∨k=w.heap.size+1∨k=w.heap.size+1+1∨k=w.heap.size+1+1+1) (fun k _ hk=>.inr (.inl hk)))
 refine hK.out _ _ hS2 ?_
 refine pT ?_
 clear k1 g1 z2 e1 hS1
 generalize ((wA.setCell ⟨w.heap.size+1,0,none⟩ (.int .i64 t7.al)).setCell ⟨w.heap.size+1,1,none⟩ (.int .i64 t7.st)).setCell ⟨w.heap.size+1,2,none⟩ (.slice C7 k7 d7)=wB at *
 have k1:=z3.cell
 have g1:=z3.frozen
 (refine zA rfl rfl rfl (fun K hK=>?_);go_simp)
 have r3:=zax z3 rfl (.int .i64 p7.al) (.slice B7 m7 e7) (.slice B7' m7' e7')
 have e1:=zah wB (w.heap.size+1+1) (.int .i64 p7.al) (.slice B7 m7 e7) (.slice B7' m7' e7')
 replace r1:=r1.frm e1 (by omega)
 replace r2:=r2.frm e1 (by omega)
 replace z4:=z4.frm e1 (by omega)
 have hS3:=hS2.trans (e1.mono (T:=fun k=>k=w.heap.size∨k=w.heap.size+1∨k=w.heap.size+1+1) (fun k _ hk=>.inr (.inr hk)))
 replace hFd:=hFd.trans (e1.mono (T:=fun k=>k=w.heap.size∨k=w.heap.size+1∨k=w.heap.size+1+1∨k=w.heap.size+1+1+1) (fun k _ hk=>.inr (.inr (.inl hk))))
 refine hK.out _ _ hS3 ?_
 refine pT ?_
 clear k1 g1 z3 e1 hS2
 generalize ((wB.setCell ⟨w.heap.size+1+1,0,none⟩ (.int .i64 p7.al)).setCell ⟨w.heap.size+1+1,1,none⟩ (.slice B7 m7 e7)).setCell ⟨w.heap.size+1+1,2,none⟩ (.slice B7' m7' e7')=wC at *
 have k1:=z4.cell
 have g1:=z4.frozen
 (refine zL rfl rfl rfl rfl (fun K hK=>?_))
 go_simp
 have r4:=zan z4 rfl (.bool hd) (.int .i64 a.al) (.slice D q f) (.slice D' q' f') (.string x)
 have e1:=zao wC (w.heap.size+1+1+1) (.bool hd) (.int .i64 a.al) (.slice D q f) (.slice D' q' f') (.string x)
 replace r1:=r1.frm e1 (by omega)
 replace r2:=r2.frm e1 (by omega)
 replace r3:=r3.frm e1 (by omega)
 replace hFd:=hFd.trans (e1.mono (T:=fun k=>k=w.heap.size∨k=w.heap.size+1∨k=w.heap.size+1+1∨k=w.heap.size+1+1+1) (fun k _ hk=>.inr (.inr (.inr hk))))
 refine hK.out _ _ ?_
 refine zaj ?_
 have zio:=za (draw_ck (hd:=hd) hx01 (by omega) ht8 hce hFd (fun k hk=>by omega) (by omega) (by omega) (by omega) (by omega))
 clear k1 g1 z4 e1 hS3 hFd cS cT cP cC
 generalize (((((wC.setCell ⟨w.heap.size+1+1+1,0,none⟩ (.bool hd)).setCell ⟨w.heap.size+1+1+1,1,none⟩ (.int .i64 a.al)).setCell ⟨w.heap.size+1+1+1,2,none⟩ (.slice D q f)).setCell ⟨w.heap.size+1+1+1,3,none⟩ (.slice D' q' f')).setCell ⟨w.heap.size+1+1+1,4,none⟩ (.string x))=wF at *
 go_wp2_with fail
 have c1:=r1.cell
 have cc2:=r2.cell
 have c3:=r3.cell
 have c4:=r4.cell
 exact bodyPost_ret (v:=.tuple #[.agg #[.int .i64 s7.al,.int .i64 s7.st,.slice A7 n7 c7],.agg #[.int .i64 t7.al,.int .i64 t7.st,.slice C7 k7 d7],.agg #[.int .i64 p7.al,.slice B7 m7 e7,.slice B7' m7' e7'],.agg #[.bool hd,.int .i64 a.al,.slice D q f,.slice D' q' f',.string x]]) (by simp [results,Tryz.results37,go_sem,c1,cc2,c3,c4]) rfl zio.out
theorem check_fails {s t:Sys} {p a:Aut} {x:ByteArray}(hc:zK false a x=true) :
  (zcB s t p false a x=0↔zgI [s,t] x=true∧zcq p x=true)∧zcB s t p false a x≠3∧zcB s t p false a x≠4∧zcB s t p false a x≠5:=by
 unfold zcB zcd
 by_cases h1:iface s p t<0
 ·rw [if_pos h1]
  refine⟨⟨fun h=>by omega,fun ⟨h2,h3⟩=>?_⟩,by omega,by omega,by omega⟩
  rw [zcR] at h1
  have h4:zl s=true∧zl t=true:=by
   unfold zgI at h2
   simp only [Bool.and_eq_true] at h2
   have:=h2.1
   simp only [zE,Bool.and_eq_true,List.all_cons,List.all_nil] at this
   simp at this
   exact this
  have h5:zi p=true:=by
   unfold zcq at h3
   simp only [Bool.and_eq_true] at h3
   exact h3.1
  rw [h4.1,h4.2,h5] at h1
  cases h1
 ·rw [if_neg h1,hc,if_neg (by decide),if_pos rfl]
  cases h2:zgI [s,t] x<;>cases h3:zcq p x<;>simp
theorem check_order (s t:Sys) (p a:Aut)(hd:Bool) (x:ByteArray):(zcB s t p hd a x=1↔iface s p t<0)∧(zcB s t p hd a x=2↔¬ iface s p t<0∧zK hd a x=false):=by
 unfold zcB zcd
 by_cases h1:iface s p t<0
 ·simp [h1]
 ·simp only [h1,if_false,not_false_iff,true_and]
  cases h2:zK hd a x
  ·simp
  ·simp only [Bool.true_eq_false,if_false,iff_false]
   refine⟨?_,?_⟩<;>((repeat' split)<;>omega)
section
variable {lo hi n c:Nat} {A:Option Addr} {s:Sys} {lo1 hi1 m1 d1 m1' d1':Nat} {B B':Option Addr} {p:Aut} {lo2 hi2 k c2:Nat} {C:Option Addr} {t:Sys} {x:ByteArray} {w:World}
variable {lo3 hi3 m2 d2 m2' d2':Nat} {D D':Option Addr} {a:Aut}
theorem yK15b1 {P:Prop}(h:P:=by
 generalize zcd s t p x=R at *
 go_enter Tryz.func38,Tryz.ntmps38
 go_upto_region 1 with fail
 generalize (((w.alloc (.cells #[.int .i64 s.al,.int .i64 s.st,.slice A n c] 38)).alloc (.cells #[.int .i64 t.al,.int .i64 t.st,.slice C k c2] 38)).alloc (.cells #[.int .i64 p.al,.slice B m1 d1,.slice B' m1' d1'] 31)).alloc (.cells #[.bool false,.int .i64 a.al,.slice D m2 d2,.slice D' m2' d2',.string x] 33)=w1 at *
 have c1:=b1.cells
 have c2':=b2.cells
 have c3:=b3.cells
 have c4:=b4.cells
 have hx0:=Ext.refl w1
 go_wp2_with (first
  |(go_at_call 95;with_reducible refine (HV.out _ hw1).mono ?_;rintro e w2 ⟨rfl,hx2⟩;have hw2:=hw1.trans hx2)
  |(go_at_call 95;with_reducible refine (HV'.out _ hw2).mono ?_;rintro e w3 ⟨rfl,hx3⟩;have hx13:=hx2.trans hx3;have hw3:=hw1.trans hx13)
  |(go_at_call 96;with_reducible refine (HP.out _ hw3).mono ?_;rintro e w4 ⟨rfl,hx4⟩;have hx14:=hx13.trans hx4;have hw4:=hw1.trans hx14)
  |(go_at_call 97;with_reducible refine (HC.out _ hw4).mono ?_;rintro e w5 ⟨rfl,hx5⟩;have hx15:=hx14.trans hx5;have hw5:=hw1.trans hx15;have e6:=Blk.new w5 38 #[.int .i64 s.al,.int .i64 s.st,.slice A n c,.int .i64 t.al,.int .i64 t.st,.slice C k c2];have f6:=(Ext.refl w5).alloc (.cells #[.int .i64 s.al,.int .i64 s.st,.slice A n c,.int .i64 t.al,.int .i64 t.st,.slice C k c2] 38);have hx16:=hx15.trans f6;have hw6:=hw1.trans hx16;obtain⟨l1,l2,hsl⟩:=zcw e6 (HS.out _ hw6) (HS'.out _ hw6))
  |(go_at_call 42;with_reducible refine (zH hsl (HT.out _ hw6) hxs).mono ?_;rw [Ht1.out];rintro e w7 ⟨rfl,hx7⟩;have hx17:=hx16.trans hx7;have hw7:=hw1.trans hx17)
  |(go_at_call 56;with_reducible refine (HB.out _ hw7).mono ?_;rintro e w8 ⟨rfl,hx8⟩;have hx18:=hx17.trans hx8;have hw8:=hw1.trans hx18))
 go_ret
 exact⟨zB (by rw [hr.out,hr2.out];try rfl),by first|exact hw8|exact hw7|exact hw5|exact hw4|exact hw3|exact hw2⟩
 ):P:=h
theorem yK15a1 {P:Prop}(h:P:=by
 rw [hb1] at HB
 clear hb1
 exact yK15b1
 ):P:=h
theorem yK15a2 {P:Prop}(h:P:=by
 go_enter Tryz.func38,Tryz.ntmps38
 go_upto_region 1 with fail
 generalize (((w.alloc (.cells #[.int .i64 s.al,.int .i64 s.st,.slice A n c] 38)).alloc (.cells #[.int .i64 t.al,.int .i64 t.st,.slice C k c2] 38)).alloc (.cells #[.int .i64 p.al,.slice B m1 d1,.slice B' m1' d1'] 31)).alloc (.cells #[.bool false,.int .i64 a.al,.slice D m2 d2,.slice D' m2' d2',.string x] 33)=w1 at *
 have c1:=b1.cells
 have c2':=b2.cells
 have c3:=b3.cells
 have c4:=b4.cells
 have hx0:=Ext.refl w1
 go_wp2_with (first
  |(go_at_call 95;with_reducible refine (HV.out _ hw1).mono ?_;rintro e w2 ⟨rfl,hx2⟩;have hw2:=hw1.trans hx2)
  |(go_at_call 95;with_reducible refine (HV'.out _ hw2).mono ?_;rintro e w3 ⟨rfl,hx3⟩;have hx13:=hx2.trans hx3;have hw3:=hw1.trans hx13)
  |(go_at_call 96;with_reducible refine (HP.out _ hw3).mono ?_;rintro e w4 ⟨rfl,hx4⟩;have hx14:=hx13.trans hx4;have hw4:=hw1.trans hx14)
  |(go_at_call 97;with_reducible refine (HC.out _ hw4).mono ?_;rintro e w5 ⟨rfl,hx5⟩;have hx15:=hx14.trans hx5;have hw5:=hw1.trans hx15;have e6:=Blk.new w5 38 #[.int .i64 s.al,.int .i64 s.st,.slice A n c,.int .i64 t.al,.int .i64 t.st,.slice C k c2];have f6:=(Ext.refl w5).alloc (.cells #[.int .i64 s.al,.int .i64 s.st,.slice A n c,.int .i64 t.al,.int .i64 t.st,.slice C k c2] 38);have hx16:=hx15.trans f6;have hw6:=hw1.trans hx16;obtain⟨l1,l2,hsl⟩:=zcw e6 (HS.out _ hw6) (HS'.out _ hw6))
  |(go_at_call 42;with_reducible refine (zH hsl (HT.out _ hw6) hxs).mono ?_;rw [Ht1.out];rintro e w7 ⟨rfl,hx7⟩;have hx17:=hx16.trans hx7;have hw7:=hw1.trans hx17)
  |(go_at_call 56;with_reducible refine (HB.out _ hw7).mono ?_;rintro e w8 ⟨rfl,hx8⟩;have hx18:=hx17.trans hx8;have hw8:=hw1.trans hx18))
 go_ret
 exact⟨zB (by rw [hr.out];try rfl),by first|exact hw8|exact hw7|exact hw5|exact hw4|exact hw3|exact hw2⟩
 ):P:=h
theorem impl_CheckCertificate0 (h:zN w lo hi A n s)(ht:zN w lo2 hi2 C k t)(hp:zG w lo1 hi1 B m1 B' m1' p)(ha:zG w lo3 hi3 D m2 D' m2' a)(hxs:x.size≤9223372036854775807)(hT:Tab w) :
  Calls Tryz.prog 38 #[.agg #[.int .i64 s.al,.int .i64 s.st,.slice A n c],.agg #[.int .i64 t.al,.int .i64 t.st,.slice C k c2],.agg #[.int .i64 p.al,.slice B m1 d1,.slice B' m1' d1'],.agg #[.bool false,.int .i64 a.al,.slice D m2 d2,.slice D' m2' d2',.string x]] w fun e w'=>e=.returned (.int .i64 (zcB s t p false a x))∧Ext w w':=by
 have HT:=za (fun W (hW:Ext w W)=>hT.ext hW)
 have HS:=za (fun W (hW:Ext w W)=>h.ext hW)
 have HS':=za (fun W (hW:Ext w W)=>ht.ext hW)
 have HB:=za (fun W (hW:Ext w W)=>zcs (d:=d1) (d':=d1') (hp.ext hW) hxs)
 have HV:=za (fun W (hW:Ext w W)=>zaa (c:=c) (h.ext hW))
 have HV':=za (fun W (hW:Ext w W)=>zaa (c:=c2) (ht.ext hW))
 have HP:=za (fun W (hW:Ext w W)=>zD _ _ _ _ d1 _ _ d1' _ _ (hp.ext hW))
 have HC:=za (fun W (hW:Ext w W)=>zbe _ _ _ _ d2 _ _ d2' false _ x _ (ha.ext hW) hxs)
 have hr:=za (show zcB s t p false a x=if iface s p t<0 then 1 else if zK false a x=false then 2 else if false=false then zcd s t p x
  else if zbI s t p a=2 then 3 else if zbI s t p a=3 then 4 else if zbI s t p a=4 then 5 else 0 from rfl)
 clear h hp ht ha
 have hw1:Ext w ((((w.alloc (.cells #[.int .i64 s.al,.int .i64 s.st,.slice A n c] 38)).alloc (.cells #[.int .i64 t.al,.int .i64 t.st,.slice C k c2] 38)).alloc (.cells #[.int .i64 p.al,.slice B m1 d1,.slice B' m1' d1'] 31)).alloc (.cells #[.bool false,.int .i64 a.al,.slice D m2 d2,.slice D' m2' d2',.string x] 33)):=((((Ext.refl w).alloc _).alloc _).alloc _).alloc _
 obtain⟨b1,b2,b3,b4⟩:=zdU (Ext.refl ((((w.alloc (.cells #[.int .i64 s.al,.int .i64 s.st,.slice A n c] 38)).alloc (.cells #[.int .i64 t.al,.int .i64 t.st,.slice C k c2] 38)).alloc (.cells #[.int .i64 p.al,.slice B m1 d1,.slice B' m1' d1'] 31)).alloc (.cells #[.bool false,.int .i64 a.al,.slice D m2 d2,.slice D' m2' d2',.string x] 33)))
 generalize zbI s t p a=F at *
 cases h1:zl s<;>cases h2:zl t<;>cases h3:zi p
 case true.true.true =>
  rw [if_neg (by rw [zcR,h1,h2,h3];decide)] at hr
  rw [h1] at HV
  rw [h2] at HV'
  rw [h3] at HP
  clear h1 h2 h3
  cases hv0:zK false a x
  ·rw [hv0,if_pos rfl] at hr
   have hv:=za hv0
   clear hv0
   rw [hv.out] at HC
   exact yK15a2
  rw [hv0,if_neg (by decide)] at hr
  have hv:=za hv0
  clear hv0
  rw [hv.out] at HC
  ·rw [if_pos rfl] at hr
   have hr2:=za (show zcd s t p x=if zgI [s,t] x=false then 6 else if zcq p x=false then 7 else 0 from rfl)
   cases ht1:zgI [s,t] x
   ·rw [ht1,if_pos rfl] at hr2
    have Ht1:=za ht1
    clear ht1
    exact yK15b1
   rw [ht1,if_neg (by decide)] at hr2
   have Ht1:=za ht1
   clear ht1
   cases hb1:zcq p x
   ·rw [hb1,if_pos rfl] at hr2
    exact yK15a1
   rw [hb1,if_neg (by decide)] at hr2
   exact yK15a1
 all_goals
  rw [if_pos (by rw [zcR,h1,h2,h3];rfl)] at hr
  rw [h1] at HV
  rw [h2] at HV'
  rw [h3] at HP
  clear h1 h2 h3
  exact yK15a2
end
abbrev zhc:=Nat→World→(Nat→Prop)→Prop
structure zhc.Ok (b0:Nat) (J:zhc):Prop where
 lt:∀ {B:Nat} {W:World} {S:Nat→Prop},J B W S→∀ k,S k→k<W.heap.size
 low:∀ {B:Nat} {W:World} {S:Nat→Prop},J B W S→∀ k,S k→b0≤k
 keep:∀ {B:Nat} {W W':World} {S T:Nat→Prop},J B W S→Frm T W W'→(∀ k,k<W.heap.size→T k→b0≤k∧¬ S k)→J B W' S
 more:∀ {B C:Nat} {W:World} {S:Nat→Prop},J B W S→B≤C→J C W S
structure Kp (J:zhc) (B:Nat) (S:Nat→Prop) (W W':World) (S':Nat→Prop):Prop where
 j:J B W' S'
 frm:Frm S W W'
 new:∀ k,S' k→S k∨W.heap.size≤k
section
variable {b0:Nat} {J:zhc} {A B C:Nat} {S S1 S2:Nat→Prop} {W W1 W2:World}
theorem Kp.refl (h:J B W S):Kp J B S W W S:=⟨h,Frm.refl _ _,fun _ h=>.inl h⟩
theorem Kp.size (h:Kp J B S W W1 S1):W.heap.size≤W1.heap.size:=h.frm.size
theorem Kp.out (h:Kp J B S W W1 S1) {k:Nat}(hk:k<W.heap.size)(hS:¬ S k):¬ S1 k:=fun h1=>by
 rcases h.new k h1 with h2|h2
 ·exact hS h2
 ·omega
theorem Kp.trans {J2:zhc}(h:Kp J B S W W1 S1) (k:Kp J2 C S1 W1 W2 S2):Kp J2 C S W W2 S2:=by
 refine⟨k.j,⟨k.frm.os.trans h.frm.os,k.frm.tape.trans h.frm.tape,k.frm.output.trans h.frm.output,Nat.le_trans h.frm.size k.frm.size,fun i hi hn=>?_⟩,fun i hi=>?_⟩
 ·exact (k.frm.block i (Nat.lt_of_lt_of_le hi h.frm.size) (h.out hi hn)).trans (h.frm.block i hi hn)
 ·rcases k.new i hi with h1|h1
  ·exact h.new i h1
  ·exact .inr (Nat.le_trans h.frm.size h1)
theorem Kp.ext (hJ:zhc.Ok b0 J)(h:Kp J B S W W1 S1)(hx:Ext W1 W2):Kp J B S W W2 S1:=⟨hJ.keep h.j hx (fun _ _ h=>h.elim),h.frm.ext hx,h.new⟩
theorem Kp.own (hJ:zhc.Ok b0 J) {T:Nat→Prop}(h:Kp J B S W W1 S1)(hf:Frm T W1 W2)(hT:∀ k,k<W1.heap.size→T k→W.heap.size≤k∧b0≤k∧¬ S1 k):Kp J B S W W2 S1:=
 ⟨hJ.keep h.j hf (fun k hk ht=>(hT k hk ht).2),⟨hf.os.trans h.frm.os,hf.tape.trans h.frm.tape,hf.output.trans h.frm.output,Nat.le_trans h.frm.size hf.size,fun i hi hn =>
  (hf.block i (Nat.lt_of_lt_of_le hi h.frm.size) (fun ht=>by have:=(hT i (Nat.lt_of_lt_of_le hi h.frm.size) ht).1;omega)).trans (h.frm.block i hi hn)⟩,h.new⟩
theorem Kp.grown (hJ:zhc.Ok b0 J)(h:Kp J B S W W1 S1) {row:Option Nat}(hg:W1.grownBy W2 row)(hr:∀ k,row=some k→W.heap.size≤k∧b0≤k∧¬ S1 k):Kp J B S W W2 S1:=
 h.own hJ (T:=fun k=>row=some k) (Frm.of_grown hg) (fun k _ e=>hr k e)
theorem Kp.toExt (h:Kp J B S W W1 S1) {w:World}(hx:Ext w W)(hS:∀ k,S k→w.heap.size≤k):Ext w W1:=hx.frm h.frm (fun k hk hs=>by have:=hS k hs;omega)
theorem Kp.row (h:Kp J B S W W1 S1) {base n size:Nat} {e:TypeId} {v:Value} {xs:List Value}(ho:W.ownsRow base e size v n xs)(hS:∀ b,v.ownBlock=some b→¬ S b):W1.ownsRow base e size v n xs∧∀ b,v.ownBlock=some b→¬ S1 b:=
 ⟨zf ho h.frm hS,fun b hb=>h.out (ho.lt b hb).2 (hS b hb)⟩
theorem zhc.fresh (hJ:zhc.Ok b0 J)(h:J B W S) {k:Nat}(hk:W.heap.size≤k):¬ S k:=fun hs=>by have:=hJ.lt h k hs;omega
end
end Go.Proofs.YtmjaepibdpfblaaGreatDoor
namespace Go.Proofs.YtmjaepibdpfblaaGreatDoor
open Go Go.RowKit Go.Maps
structure KeyG {α:Type} (mt kt:TypeId) (val:α→Value) (lit:α→Lit) (dom:α→Prop):Prop where
 keyed:Keyed Tryz.prog kt
 und:Tryz.prog.underlying mt=some (.map kt 3)
 key:∀ {x:α},dom x→keyOf Tryz.prog kt (val x)=some (lit x)
 inj:∀ {x y:α},dom x→dom y→lit x=lit y→x=y
theorem zeroG (w:World):(zeroValue 3).run Tryz.prog w=.ok (.int .i64 0) w:=by kernel_rfl
theorem wfG {x:Nat}(h:x<1152921504606846976):(Lit.int .i64 (x:Int)).wf=true:=WalkArith.wf_i64 (by omega)
section
variable {α:Type} {mt kt:TypeId} {val:α→Value} {lit:α→Lit} {dom:α→Prop}
def MapG (kt:TypeId) (lit:α→Lit) (dom:α→Prop) (w:World) (b n:Nat) (M:α→Option Nat):Prop:=
 ∃ D:DataW Unit,w.ownsMap Tryz.prog kt (plainElem Tryz.prog 3) b n D∧∀ x,dom x→Maps.has D (lit x)=(M x).isSome∧∀ v,M x=some v→D.atKey (lit x) (.lit (.int .i64 0))=.lit (.int .i64 (v:Int))
open Classical in
noncomputable def updG (M:α→Option Nat) (x:α) (v:Nat):α→Option Nat:=fun y=>if y=x then some v else M y
theorem updG_same (M:α→Option Nat) (x:α) (v:Nat):updG M x v x=some v:=by unfold updG;rw [if_pos rfl]
theorem updG_ne (M:α→Option Nat) {x y:α} (v:Nat)(h:y≠x):updG M x v y=M y:=by unfold updG;rw [if_neg h]
theorem MapG.made (w:World):MapG kt lit dom (w.alloc (.map #[] 0)) w.heap.size 0 (fun _=>none):=
 ⟨.map [],World.ownsMap_made _ _ _ _,fun x hx=>⟨rfl,fun v hv=>by cases hv⟩⟩
section
variable {w w':World} {b n:Nat} {M:α→Option Nat}
theorem MapG.lt (h:MapG kt lit dom w b n M):b<w.heap.size:=by
 obtain⟨D,h,_⟩:=h
 exact h.lt
theorem MapG.frm {S:Nat→Prop}(h:MapG kt lit dom w b n M)(hf:Frm S w w')(hS:¬ S b):MapG kt lit dom w' b n M:=by
 obtain⟨D,⟨es,clock,hb,r⟩,hx⟩:=h
 exact⟨D,⟨es,clock,(hf.block b (Array.getElem?_eq_some_iff.1 hb).1 hS).trans hb,r⟩,hx⟩
theorem MapG.farOwn (h:MapG kt lit dom w b n M) {base:Nat} {e:TypeId} {size k:Nat} {v:Value} {xs:List Value}(ho:w.ownsRow base e size v k xs):v.ownBlock≠some b:=by
 intro hv
 obtain⟨D,⟨es,clock,hb,_⟩,_⟩:=h
 rcases ho.2 with ⟨rfl,_⟩|⟨g,cap,cur,rfl,_,hh,_⟩
 ·simp [Value.ownBlock] at hv
 ·have hg:g=b:=by simpa [Value.ownBlock] using hv
  subst hg
  rw [hh] at hb
  injection hb with hb
  cases hb
end
variable (w:World) {ops:Array Oper} {rest:List Oper} {o:Oper} {a:Act} {Q:Exit→Act→World→Prop}
theorem zew (K:KeyG mt kt val lit dom)(hg:o.guard=none) (m x v:Operand)(hop:o.op=Op.mapUpdate mt m x v∨o.op=Op.insert mt m x v) {b n:Nat} {M:α→Option Nat}
  (hm:a.eval m=.map (some b)) (h:MapG kt lit dom w b n M) (hn:n<1152921504606846976) (key:α) (v9:Nat) (hx:a.eval x=val key) (hv:a.eval v=.int .i64 (v9:Int)) (hk:dom key) (hv9:v9<1152921504606846976)
  (hK:∀ w',MapG kt lit dom w' b (n+1) (updG M key v9)→w.grownBy w' (some b)→wpList Tryz.prog ops Q rest (a.put o.dst undef) w'):wpList Tryz.prog ops Q (o :: rest) a w:=by
 refine wpList_plain hg fun K' hK'=>?_
 obtain⟨D,zil,hD⟩:=h
 have hkey:=K.key hk
 obtain⟨w',hrun,r1,r2⟩:=zil.update K.keyed K.und (by unfold maxLen;omega) hkey (plainElem_int (H:=Unit) Tryz.underlying3 (wfG hv9))
 have hmap:MapG kt lit dom w' b (n+1) (updG M key v9):=⟨_,r1,fun y hy=>by
  unfold updG
  by_cases e:y=key
  ·subst e
   rw [if_pos rfl]
   exact⟨has_put_same zil.isMap (K.keyed.key hkey) _,fun u hu=>by rw [atKey_put_same zil.isMap (K.keyed.key hkey)];cases hu;rfl⟩
  ·have hne:lit y≠lit key:=fun h=>e (K.inj hy hk h)
   rw [if_neg e,has_put_other hne,atKey_put_other hne]
   exact hD y hy⟩
 unfold Oper.wp
 rcases hop with hop|hop
 all_goals
  simp [execOp,hop,hm,hx,hv,hrun,Result.andThen]
  exact hK' _ _ (hK w' hmap r2)
theorem zdv (K:KeyG mt kt val lit dom)(hg:o.guard=none) (m x:Operand)(hop:o.op=Op.lookup mt m x true) {b n:Nat} {M:α→Option Nat}
  (hm:a.eval m=.map (some b)) (h:MapG kt lit dom w b n M) (key:α) (hx:a.eval x=val key) (hk:dom key)
  (hK:∀ c:Int,(∀ v,M key=some v→c=(v:Int))→wpList Tryz.prog ops Q rest (a.put o.dst (.tuple #[.int .i64 c,.bool (M key).isSome])) w):wpList Tryz.prog ops Q (o :: rest) a w:=by
 obtain⟨D,zil,hD⟩:=h
 refine wpList_lookup_own_ok_int w hg m x _ hop kt 3 .i64 K.keyed K.und Tryz.underlying3 (zeroG w) b n D hm zil _ _ hx (K.key hk) ?_
 intro c hat _
 rw [(hD key hk).1]
 exact hK c (fun v hv=>by
  have:=(hD key hk).2 v hv
  rw [this] at hat
  injection hat with hat
  injection hat with _ hat
  exact hat.symm)
end
theorem keyZ:KeyG 269 3 (fun x:Int=>.int .i64 x) (fun x:Int=>.int .i64 x) (fun x => -1152921504606846976<x∧x<1152921504606846976):=
 ⟨int_keyed Tryz.underlying3,Tryz.underlying269,fun h=>keyOf_int_mk Tryz.underlying3 (WalkArith.wf_i64 (by omega)),fun _ _ e=>by injection e⟩
end Go.Proofs.YtmjaepibdpfblaaGreatDoor
namespace Go.Proofs.YtmjaepibdpfblaaGreatDoor
open Go Go.RowKit
def SubF {α:Type} (f g:Int→Option α):Prop:=∀ (n:Int) (x:α),f n=some x→g n=some x
theorem SubF.refl {α:Type} (f:Int→Option α):SubF f f:=fun _ _ h=>h
theorem SubF.trans {α:Type} {f g h:Int→Option α} (a:SubF f g) (b:SubF g h):SubF f h:=fun n x e=>b n x (a n x e)
section
variable {α:Type}
structure NbI (D:α→Nat→α) (LL:List Nat) (start:α) (xs:List α) (rows:List (List Int)) (row:List Int):Prop where
 x0:xs[0]?=some start
 nd:xs.Nodup
 reach:∀ x∈xs,∃ v:List Nat,(∀ l∈v,l∈LL)∧x=v.foldl D start
 done:∀ (j:Nat) (x:α),j<rows.length→xs[j]?=some x→∃ r,rows[j]?=some r∧r.length=LL.length∧∀ (k l:Nat),LL[k]?=some l→∃ m:Nat,r[k]?=some (m:Int)∧xs[m]?=some (D x l)
 part:∀ (x:α),xs[rows.length]?=some x→∀ (k l:Nat),k<row.length→LL[k]?=some l→∃ m:Nat,row[k]?=some (m:Int)∧xs[m]?=some (D x l)
 le:rows.length≤xs.length
section
variable {D:α→Nat→α} {LL:List Nat} {start:α} {xs:List α} {rows:List (List Int)} {row:List Int}
theorem NbI.first:NbI D LL start [start] [] []:=
 ⟨rfl,by simp,fun x hx=>⟨[],by simp,by simpa using hx⟩,fun j x h=>by simp at h,fun x hx k l h=>by simp at h,by simp⟩
theorem NbI.hit {x:α} {l m:Nat}(h:NbI D LL start xs rows row)(hx:xs[rows.length]?=some x)(hl:LL[row.length]?=some l)(hm:xs[m]?=some (D x l)):NbI D LL start xs rows (row++[(m:Int)]):=by
 refine⟨h.x0,h.nd,h.reach,h.done,fun y hy k l' hk hl'=>?_,h.le⟩
 rw [hx] at hy
 obtain rfl:=Option.some.inj hy
 rw [List.length_append,List.length_singleton] at hk
 rcases Nat.lt_or_eq_of_le (Nat.le_of_lt_succ hk) with h1|rfl
 ·obtain⟨m',h2,h3⟩:=h.part _ hx k l' h1 hl'
  exact⟨m',by rw [List.getElem?_append_left h1];exact h2,h3⟩
 ·rw [hl] at hl'
  obtain rfl:=Option.some.inj hl'
  exact⟨m,by simp,hm⟩
theorem NbI.more {y:α} {x:α} {l:Nat}(h:NbI D LL start xs rows row)(hx:xs[rows.length]?=some x)(hl:l∈LL)(hy:y=D x l)(hn:y∉xs):NbI D LL start (xs++[y]) rows row:=by
 have hlt:=(List.getElem?_eq_some_iff.1 hx).1
 refine⟨?_,?_,fun z hz=>?_,fun j z hj hz=>?_,fun z hz k l' hk hl'=>?_,by simp;omega⟩
 ·rw [List.getElem?_append_left (by omega)];exact h.x0
 ·rw [List.nodup_append]
  exact⟨h.nd,by simp,fun a ha b hb e=>by obtain rfl:=List.mem_singleton.1 hb;exact hn (e ▸ ha)⟩
 ·rcases List.mem_append.1 hz with hz|hz
  ·exact h.reach z hz
  ·obtain rfl:=List.mem_singleton.1 hz
   obtain⟨v,h1,h2⟩:=h.reach x (List.mem_of_getElem? hx)
   refine⟨v++[l],fun a ha=>?_,by rw [List.foldl_append,← h2,hy];rfl⟩
   rcases List.mem_append.1 ha with ha|ha
   ·exact h1 a ha
   ·obtain rfl:=List.mem_singleton.1 ha;exact hl
 ·rw [List.getElem?_append_left (by omega)] at hz
  obtain⟨r,h1,h2,h3⟩:=h.done j z hj hz
  refine⟨r,h1,h2,fun k l' hl'=>?_⟩
  obtain⟨m,h4,h5⟩:=h3 k l' hl'
  exact⟨m,h4,by rw [List.getElem?_append_left (List.getElem?_eq_some_iff.1 h5).1];exact h5⟩
 ·rw [List.getElem?_append_left hlt] at hz
  obtain⟨m,h4,h5⟩:=h.part z hz k l' hk hl'
  exact⟨m,h4,by rw [List.getElem?_append_left (List.getElem?_eq_some_iff.1 h5).1];exact h5⟩
theorem NbI.row_ {x:α}(h:NbI D LL start xs rows row)(hx:xs[rows.length]?=some x)(hr:row.length=LL.length):NbI D LL start xs (rows++[row]) []:=by
 have hlt:=(List.getElem?_eq_some_iff.1 hx).1
 refine⟨h.x0,h.nd,h.reach,fun j z hj hz=>?_,fun z _ k l hk=>by simp at hk,by simp;omega⟩
 rw [List.length_append,List.length_singleton] at hj
 rcases Nat.lt_or_eq_of_le (Nat.le_of_lt_succ hj) with h1|rfl
 ·obtain⟨r,h2,h3⟩:=h.done j z h1 hz
  exact⟨r,by rw [List.getElem?_append_left h1];exact h2,h3⟩
 ·refine⟨row,by simp,hr,fun k l hl=>?_⟩
  exact h.part z hz k l (by rw [hr];exact (List.getElem?_eq_some_iff.1 hl).1) hl
end
structure NbC (f:Int→Option α) (ns:List Int) (xs:List α) (M:Int→Option Nat):Prop where
 len:ns.length=xs.length
 code:∀ (i:Nat) (n:Int),ns[i]?=some n→∃ x,xs[i]?=some x∧f n=some x
 some_:∀ (m:Int) (j:Nat),M m=some j→ns[j]?=some m
 none_:∀ (m:Int),M m=none→m∉ns
section
variable {f g:Int→Option α} {ns:List Int} {xs:List α} {M:Int→Option Nat}
theorem NbC.sub (h:NbC f ns xs M)(hs:SubF f g):NbC g ns xs M:=
 ⟨h.len,fun i n hn=>by obtain⟨x,h1,h2⟩:=h.code i n hn;exact⟨x,h1,hs n x h2⟩,h.some_,h.none_⟩
theorem NbC.hit {m:Int} {j:Nat} {y:α}(h:NbC f ns xs M)(hy:f m=some y)(hm:M m=some j):xs[j]?=some y:=by
 obtain⟨x,h1,h2⟩:=h.code j m (h.some_ m j hm)
 rw [hy] at h2
 rw [h1,← h2]
theorem NbC.miss {m:Int} {y:α}(h:NbC f ns xs M)(hinj:∀ (n m:Int) (x:α),f n=some x→f m=some x→n=m)(hy:f m=some y)(hm:M m=none):y∉xs:=by
 intro hin
 obtain⟨j,hj⟩:=List.getElem?_of_mem hin
 have hjl:=(List.getElem?_eq_some_iff.1 hj).1
 obtain⟨n,hn⟩:∃ n,ns[j]?=some n:=⟨_,List.getElem?_eq_getElem (by rw [h.len];exact hjl)⟩
 obtain⟨x,h1,h2⟩:=h.code j n hn
 rw [hj] at h1
 obtain rfl:=Option.some.inj h1
 have:=hinj n m _ h2 hy
 subst this
 exact h.none_ n hm (List.mem_of_getElem? hn)
theorem NbC.push {m:Int} {y:α}(h:NbC f ns xs M)(hy:f m=some y)(hm:M m=none):NbC f (ns++[m]) (xs++[y]) (updG M m ns.length):=by
 refine⟨by simp [h.len],fun i n hn=>?_,fun n j hj=>?_,fun n hn=>?_⟩
 ·rcases Nat.lt_or_ge i ns.length with h1|h1
  ·rw [List.getElem?_append_left h1] at hn
   obtain⟨x,h2,h3⟩:=h.code i n hn
   exact⟨x,by rw [List.getElem?_append_left (by rw [← h.len];exact h1)];exact h2,h3⟩
  ·have hi:i=ns.length:=by
    have:=(List.getElem?_eq_some_iff.1 hn).1
    simp at this
    omega
   subst hi
   simp at hn
   subst hn
   exact⟨y,by rw [h.len];simp,hy⟩
 ·by_cases e:n=m
  ·subst e
   rw [updG_same] at hj
   obtain rfl:=Option.some.inj hj
   simp
  ·rw [updG_ne M _ e] at hj
   have:=h.some_ n j hj
   rw [List.getElem?_append_left (List.getElem?_eq_some_iff.1 this).1]
   exact this
 ·by_cases e:n=m
  ·subst e
   rw [updG_same] at hn
   cases hn
  ·rw [updG_ne M _ e] at hn
   intro hin
   rcases List.mem_append.1 hin with h1|h1
   ·exact h.none_ n hn h1
   ·exact e (List.mem_singleton.1 h1)
theorem NbC.first {n0:Int} {x0:α}(h:f n0=some x0):NbC f [n0] [x0] (updG (fun _=>none) n0 0):=by
 have:=NbC.push (f:=f) (ns:=[]) (xs:=[]) (M:=fun _=>none) (m:=n0) (y:=x0) ⟨rfl,(fun i n hn=>by simp at hn),(fun m j hj=>by cases hj),(fun m _=>by simp)⟩ h rfl
 simpa using this
end
end
abbrev domZ (x:Int):Prop := -1152921504606846976<x∧x<1152921504606846976
abbrev MapZ (w:World) (b n:Nat) (M:Int→Option Nat):Prop:=MapG 3 (fun x:Int=>Lit.int .i64 x) domZ w b n M
structure NbM (base:Nat) (W:World) (S:Nat→Prop) (mb:Nat) (vn vr vv:Value) (N nm:Nat) (ns row:List Int) (rows:List (List Int)) (M:Int→Option Nat):Prop where
 nodes:W.ownsRow base 3 1 vn ns.length (ints ns)
 nS:∀ b,vn.ownBlock=some b→¬ S b
 row:W.ownsRow N 3 1 vr row.length (ints row)
 rS:∀ b,vr.ownBlock=some b→¬ S b
 nr:∀ b,vn.ownBlock=some b→vr.ownBlock≠some b
 rows:∃ rs,W.ownsRow base 137 1 vv rows.length rs∧zI W base rs rows∧(∀ b,vv.ownBlock=some b→¬ S b)∧∀ (i:Nat) (r:Value) (b:Nat),rs[i]?=some r→r.ownBlock=some b→¬ S b∧b<N∧vn.ownBlock≠some b
 map:MapZ W mb nm M
 mS:¬ S mb
 mlow:base≤mb
 N0:base≤N∧N≤W.heap.size
section
variable {base mb N nm:Nat} {W W' W1:World} {S S':Nat→Prop} {vn vr vv:Value} {ns row:List Int} {rows:List (List Int)} {M:Int→Option Nat} {J:zhc} {B:Nat}
theorem NbM.kp (h:NbM base W S mb vn vr vv N nm ns row rows M) (k:Kp J B S W W' S'):NbM base W' S' mb vn vr vv N nm ns row rows M:=by
 obtain⟨rs,h1,h2,h3,h4⟩:=h.rows
 refine⟨(k.row h.nodes h.nS).1,(k.row h.nodes h.nS).2,(k.row h.row h.rS).1,(k.row h.row h.rS).2,h.nr,⟨rs,(k.row h1 h3).1,h2.frm k.frm (fun i r b hr hb=>(h4 i r b hr hb).1),(k.row h1 h3).2,fun i r b hr hb=>?_⟩,h.map.frm k.frm h.mS,k.out h.map.lt h.mS,h.mlow,⟨h.N0.1,Nat.le_trans h.N0.2 k.size⟩⟩
 obtain⟨h5,h6,h7⟩:=h4 i r b hr hb
 obtain⟨l,_,ho⟩:=h2.row hr
 exact⟨k.out (ho.lt b hb).2 h5,h6,h7⟩
theorem NbM.pushN {m:Int} {g cap:Nat}(h:NbM base W S mb vn vr vv N nm ns row rows M)(hfr:∀ k,W.heap.size≤k→¬ S k)
  (zil:W'.ownsRow base 3 1 (.slice (some ⟨g,0,none⟩) (ns.length+1) cap) (ns.length+1) (ints ns++[.int .i64 m])) (hg:W.grownBy W' vn.ownBlock) (hat:vn.ownBlock=some g∨g=W.heap.size+1) :
  NbM base W' S mb (.slice (some ⟨g,0,none⟩) (ns.length+1) cap) vr vv N nm (ns++[m]) row rows M:=by
 obtain⟨rs,h1,h2,h3,h4⟩:=h.rows
 have hf:Frm (fun k=>vn.ownBlock=some k) W W':=Frm.of_grown hg
 have hgo:∀ b,(Value.slice (some ⟨g,0,none⟩) (ns.length+1) cap).ownBlock=some b→b=g:=fun b hb=>by simpa [Value.ownBlock] using hb.symm
 refine⟨by rw [List.length_append,List.length_singleton,ints,List.map_append];exact zil,fun b hb=>?_,zf h.row hf (fun b hb e=>h.nr b e hb),h.rS,fun b hb hr=>?_,⟨rs,zf h1 hf (fun b hb e=>zaS h1 h.nodes (by decide) hb e),h2.frm hf (fun i r b hr hb e=>(h4 i r b hr hb).2.2 e),h3,fun i r b hr hb=>?_⟩,h.map.frm hf (fun e=>h.map.farOwn h.nodes e),h.mS,h.mlow,⟨h.N0.1,Nat.le_trans h.N0.2 hf.size⟩⟩
 ·obtain rfl:=hgo b hb
  rcases hat with e|e
  ·exact h.nS b e
  ·exact hfr b (by omega)
 ·obtain rfl:=hgo b hb
  have hlt:=(h.row.lt b hr).2
  rcases hat with e|e
  ·exact h.nr b e hr
  ·omega
 ·obtain⟨h5,h6,h7⟩:=h4 i r b hr hb
  refine⟨h5,h6,fun e=>?_⟩
  obtain rfl:=hgo b e
  obtain⟨l,_,ho⟩:=h2.row hr
  have hlt:=(ho.lt b hb).2
  rcases hat with e' | e'
  ·exact h7 e'
  ·omega
theorem NbM.pushR {m:Int} {g cap:Nat}(h:NbM base W S mb vn vr vv N nm ns row rows M)(hfr:∀ k,W.heap.size≤k→¬ S k)
  (zil:W'.ownsRow N 3 1 (.slice (some ⟨g,0,none⟩) (row.length+1) cap) (row.length+1) (ints row++[.int .i64 m])) (hg:W.grownBy W' vr.ownBlock) (hat:vr.ownBlock=some g∨g=W.heap.size+1) :
  NbM base W' S mb vn (.slice (some ⟨g,0,none⟩) (row.length+1) cap) vv N nm ns (row++[m]) rows M:=by
 obtain⟨rs,h1,h2,h3,h4⟩:=h.rows
 have hf:Frm (fun k=>vr.ownBlock=some k) W W':=Frm.of_grown hg
 have hgo:∀ b,(Value.slice (some ⟨g,0,none⟩) (row.length+1) cap).ownBlock=some b→b=g:=fun b hb=>by simpa [Value.ownBlock] using hb.symm
 refine⟨zf h.nodes hf (fun b hb e=>h.nr b hb e),h.nS,by rw [List.length_append,List.length_singleton,ints,List.map_append];exact zil,fun b hb=>?_,fun b hb hr=>?_,⟨rs,zf h1 hf (fun b hb e=>zaS h1 h.row (by decide) hb e),h2.frm hf (fun i r b hr hb e=>?_),h3,h4⟩,h.map.frm hf (fun e=>h.map.farOwn h.row e),h.mS,h.mlow,⟨h.N0.1,Nat.le_trans h.N0.2 hf.size⟩⟩
 ·obtain rfl:=hgo b hb
  rcases hat with e|e
  ·exact h.rS b e
  ·exact hfr b (by omega)
 ·obtain rfl:=hgo b hr
  have hlt:=(h.nodes.lt b hb).2
  rcases hat with e|e
  ·exact h.nr b hb e
  ·omega
 ·have:=(h.row.lt b e).1
  have:=(h4 i r b hr hb).2.1
  omega
theorem NbM.setMap {M':Int→Option Nat} {n:Nat}(h:NbM base W S mb vn vr vv N nm ns row rows M)(hmap:MapZ W' mb n M')(hg:W.grownBy W' (some mb)):NbM base W' S mb vn vr vv N n ns row rows M':=by
 have hf:Frm (fun k=>some mb=some k) W W':=Frm.of_grown hg
 have hf2:Frm (fun k=>k=mb) W W':=hf.mono (fun k _ e=>(Option.some.inj e).symm)
 obtain⟨rs,h1,h2,h3,h4⟩:=h.rows
 refine⟨zf h.nodes hf2 (fun b hb e=>by subst e;exact h.map.farOwn h.nodes hb),h.nS,zf h.row hf2 (fun b hb e=>by subst e;exact h.map.farOwn h.row hb),h.rS,h.nr,⟨rs,zf h1 hf2 (fun b hb e=>by subst e;exact h.map.farOwn h1 hb),h2.frm hf2 (fun i r b hr hb e=>?_),h3,h4⟩,hmap,h.mS,h.mlow,⟨h.N0.1,Nat.le_trans h.N0.2 hf.size⟩⟩
 subst e
 obtain⟨l,_,ho⟩:=h2.row hr
 exact h.map.farOwn ho hb
theorem NbM.pushV {g cap:Nat} {rs:List Value} {A:Option Addr} {c:Nat}(h:NbM base W S mb vn (.slice A row.length c) vv N nm ns row rows M)(hfr:∀ k,W.heap.size≤k→¬ S k)(h1:W.ownsRow base 137 1 vv rows.length rs)(h2:zI W base rs rows)
  (h3:∀ b,vv.ownBlock=some b→¬ S b) (h4:∀ (i:Nat) (r:Value) (b:Nat),rs[i]?=some r→r.ownBlock=some b→¬ S b∧b<N∧vn.ownBlock≠some b)
  (zil:W'.ownsRow base 137 1 (.slice (some ⟨g,0,none⟩) (rows.length+1) cap) (rows.length+1) (rs++[.slice A row.length c])) (hg:W.grownBy W' vv.ownBlock) (hat:vv.ownBlock=some g∨g=W.heap.size+1) :
  NbM base W' S mb vn (.slice none 0 0) (.slice (some ⟨g,0,none⟩) (rows.length+1) cap) W'.heap.size nm ns [] (rows++[row]) M:=by
 have hf:Frm (fun k=>vv.ownBlock=some k) W W':=Frm.of_grown hg
 have hgo:∀ b,(Value.slice (some ⟨g,0,none⟩) (rows.length+1) cap).ownBlock=some b→b=g:=fun b hb=>by simpa [Value.ownBlock] using hb.symm
 have hR:=h2.snoc2 (fun i r b hr hb=>(h4 i r b hr hb).2.1) h.N0.1 h.row
 have hrow:∀ (i:Nat) (r:Value) (b:Nat),(rs++[Value.slice A row.length c])[i]?=some r→r.ownBlock=some b→¬ S b∧b<W.heap.size∧vn.ownBlock≠some b:=by
  intro i r b hr hb
  rcases Nat.lt_or_ge i rs.length with hi|hi
  ·rw [List.getElem?_append_left hi] at hr
   obtain⟨h5,h6,h7⟩:=h4 i r b hr hb
   exact⟨h5,Nat.lt_of_lt_of_le h6 h.N0.2,h7⟩
  ·have hi':i=rs.length:=by
    have:=(List.getElem?_eq_some_iff.1 hr).1
    simp at this
    omega
   subst hi'
   simp at hr
   subst hr
   exact⟨h.rS b hb,(h.row.lt b hb).2,fun e=>h.nr b e hb⟩
 refine⟨zf h.nodes hf (fun b hb e=>zaS h.nodes h1 (by decide) hb e),h.nS,World.ownsRow_nil _ _ _ _,fun b hb=>by simp [Value.ownBlock] at hb,fun b _ hr=>by simp [Value.ownBlock] at hr,⟨_,by rw [List.length_append,List.length_singleton];exact zil,hR.frm hf (fun i r b hr hb e=>?_),fun b hb=>?_,fun i r b hr hb=>?_⟩,h.map.frm hf (fun e=>h.map.farOwn h1 e),h.mS,h.mlow,⟨Nat.le_trans (Nat.le_trans h.N0.1 h.N0.2) hf.size,Nat.le_refl _⟩⟩
 ·obtain⟨l,_,ho⟩:=hR.row hr
  exact zaS ho h1 (by decide) hb e
 ·obtain rfl:=hgo b hb
  rcases hat with e|e
  ·exact h3 b e
  ·exact hfr b (by omega)
 ·obtain⟨h5,h6,h7⟩:=hrow i r b hr hb
  exact⟨h5,Nat.lt_of_lt_of_le h6 hf.size,h7⟩
end
theorem own_int_at {W:World} {base g n c j:Nat} {l:List Int} {x:Int}(h:W.ownsRow base 3 1 (.slice (some ⟨g,0,none⟩) n c) n (ints l))(hx:l[j]?=some x):W.cell? ⟨g,j,none⟩=some (.int .i64 x):=by
 have hl:=zdK h
 have hj:=(List.getElem?_eq_some_iff.1 hx).1
 rw [h.cellAt j (by simp [ints] at hl;omega)]
 simp [ints,hx]
section
variable {α:Type}
def RetNext (K:(Int→Option α)→zhc) (D:α→Nat→α) (f:Int→Option α) (B:Nat) (S:Nat→Prop) (W:World) (x:α) (l:Nat) (e:Ending) (W':World):Prop:=
 ∃ (g:Int→Option α) (m:Int) (S':Nat→Prop),e=.returned (.int .i64 m)∧SubF f g∧g m=some (D x l)∧Kp (K g) (B+1) S W W' S'
def RetNb (K:(Int→Option α)→zhc) (D:α→Nat→α) (LL:List Nat) (x0:α) (lim:Nat) (f0:Int→Option α) (B1:Nat) (S0:Nat→Prop) (w:World) (e:Ending) (w':World):Prop:=
 ∃ (g:Int→Option α) (B:Nat) (S':Nat→Prop),SubF f0 g∧Kp (K g) B S0 w w' S'∧B≤B1 ∧
  ((e=.returned (.tuple #[.slice none 0 0,.slice none 0 0,.bool false])∧∃ xs:List α,xs.Nodup∧xs.length=lim+1∧∀ x∈xs,∃ v:List Nat,(∀ l∈v,l∈LL)∧x=v.foldl D x0) ∨
   ∃ (A:Option Addr) (c:Nat) (A':Option Addr) (c':Nat) (ns:List Int) (xs:List α) (rows:List (List Int)),e=.returned (.tuple #[.slice A xs.length c,.slice A' xs.length c',.bool true])∧xs.length≤lim∧NbI D LL x0 xs rows []∧rows.length=xs.length ∧
    (ns.length=xs.length∧∀ (i:Nat) (n:Int),ns[i]?=some n→∃ x,xs[i]?=some x∧g n=some x)∧w'.ownsRow w.heap.size 3 1 (.slice A xs.length c) xs.length (ints ns)∧zea w' w.heap.size (.slice A' xs.length c') rows)
theorem zhI {K:(Int→Option α)→zhc} {D:α→Nat→α} {LL:List Nat} {x0:α} {n0:Int} {lim Bm B0 b0 kn cL bL:Nat} {cap:Array Value} {AL:Option Addr} {S0:Nat→Prop} {f0:Int→Option α} {w:World}
  (hJ:∀ f,zhc.Ok b0 (K f)) (hinj:∀ f B W S,K f B W S→∀ (n m:Int) (x:α),f n=some x→f m=some x→n=m) (hdom:∀ f B W S,K f B W S→∀ (n:Int) (x:α),f n=some x→domZ n)
  (hin:∀ args W,(callFunc kn args).run Tryz.prog W=.ok (.enter kn args) W)
  (hnext:∀ (f:Int→Option α) (B:Nat) (W:World) (S:Nat→Prop) (n:Int) (x:α) (l:Nat),K f B W S→B<Bm→f n=some x→l∈LL→Calls Tryz.prog kn (#[.int .i64 n,.int .i64 (l:Nat)]++cap) W (RetNext K D f B S W x l))
  (h0:K f0 B0 w S0) (hx0:f0 n0=some x0) (hb0:b0≤w.heap.size) (hL:w.ownsRow bL 3 1 (.slice AL LL.length cL) LL.length (zaq LL)) (hLS:∀ b,(Value.slice AL LL.length cL).ownBlock=some b→¬ S0 b)
  (hL6:LL.length≤6) (hlim:1≤lim) (hlim2:lim≤100000) (hB:B0+6*lim≤Bm) :
  Calls Tryz.prog 192 #[.int .i64 n0,.slice AL LL.length cL,.int .i64 (lim:Nat),.func (.func kn) #[] cap] w (RetNb K D LL x0 lim f0 (B0+6*lim) S0 w):=by
 have hd0:=hdom f0 B0 w S0 h0 n0 x0 hx0
 have HJ:=za hJ
 have Hinj:=za hinj
 have Hdom:=za hdom
 have Hnext:=za hnext
 have HL:=za hL
 have HLS:=za hLS
 have Hx0:=za hx0
 have hk0:=Kp.refl (J:=K f0) h0
 have hS0:=fun (k:Nat) (hk:w.heap.size≤k)=>zhc.fresh (hJ f0) h0 hk
 clear hJ hinj hdom hnext hL hLS hx0 h0
 have hmm:=@run_makeMap Tryz.prog
 go_enter Tryz.func192,Tryz.ntmps192
 go_upto_region 2 with fail
 have hx1:Ext w (w.alloc (.cells #[.int .i64 n0] 3)):=(Ext.refl _).alloc _
 have on:=World.ownsRow_lit (base:=w.heap.size) (e:=3) (size:=1) w #[.int .i64 n0] 1 (Nat.le_refl _) (by decide) rfl
 have hsn:w.heap.size<(w.alloc (.cells #[.int .i64 n0] 3)).heap.size:=by simp
 have hk1:=hk0.ext (HJ.out f0) hx1
 generalize w.alloc (.cells #[.int .i64 n0] 3)=w1 at *
 have hMade:MapZ (w1.alloc (.map #[] 0)) w1.heap.size 0 (fun _=>none):=MapG.made w1
 have hx2:Ext w1 (w1.alloc (.map #[] 0)):=(Ext.refl w1).alloc _
 go_upto_region 3 with (refine zew (key:=n0) (v9:=0) (b:=w1.heap.size) _ keyZ rfl _ _ _ (.inr rfl) rfl hMade (by omega) rfl rfl hd0 (by omega) ?_;intro w2 hM2 hg2)
 have hf2:Frm (fun k=>some w1.heap.size=some k) (w1.alloc (.map #[] 0)) w2:=Frm.of_grown hg2
 have hk2:=(hk1.ext (HJ.out f0) hx2).grown (HJ.out f0) hg2 (fun k hk=>by
  have:=Option.some.inj hk
  exact⟨by omega,by omega,hS0 k (by omega)⟩)
 have on2:=zf (zh on hx2) hf2 (fun b hb e=>by
  have h1:b=w.heap.size:=by simpa [Value.ownBlock] using hb.symm
  have h2:=Option.some.inj e
  omega)
 have hm0:NbM w.heap.size w2 S0 w1.heap.size (.slice (some ⟨w.heap.size,0,none⟩) 1 1) (.slice none 0 0) (.slice none 0 0) w2.heap.size 1 [n0] [] [] (updG (fun _=>none) n0 0):=
  ⟨on2,fun b hb=>by
   have h1:b=w.heap.size:=by simpa [Value.ownBlock] using hb.symm
   exact hS0 b (by omega),World.ownsRow_nil _ _ _ _,fun b hb=>by simp [Value.ownBlock] at hb,fun b _ hr=>by simp [Value.ownBlock] at hr,⟨[],World.ownsRow_nil _ _ _ _,zI.nil _ _,fun b hb=>by simp [Value.ownBlock] at hb,fun i r b hr=>by simp at hr⟩,hM2,hS0 _ (by omega),by omega,⟨hk2.size,Nat.le_refl _⟩⟩
 have hI0:=za (NbI.first (D:=D) (LL:=LL) (start:=x0))
 have hC0:=za (NbC.first Hx0.out)
 clear hMade hx1 hx2 on on2 hf2 hg2 hM2 hk1 hk0
 generalize w1.heap.size=mb at *
 go_wp2_with fail
 go_loopw [11,13,14] (fun v11 v13 iv wr=>∃ (i B nm:Nat) (wN:World) (g:Int→Option α) (S:Nat→Prop) (ns:List Int) (xs:List α) (rows:List (List Int)) (M:Int→Option Nat),iv=.int .i64 i∧Hid (i=rows.length)∧i≤ns.length∧xs.length≤lim∧B≤B0+6*i∧Hid (SubF f0 g)∧Hid (Kp (K g) B S0 w wr S) ∧
  Hid (NbM w.heap.size wr S mb v11 (.slice none 0 0) v13 wN.heap.size nm ns [] rows M)∧Hid (nm=ns.length)∧Hid (NbI D LL x0 xs rows [])∧Hid (NbC g ns xs M)) (fun _ _ iv _=>lim+1 - (intOf iv).toNat)
 case atStart=>exact⟨0,B0,1,w2,f0,S0,[n0],[x0],[],_,rfl,za rfl,by simp,by simpa using hlim,by omega,za (SubF.refl _),za hk2,za hm0,za rfl,hI0,hC0⟩
 case round =>
  clear hk2 hm0 hI0 hC0
  obtain⟨i,B,nm,wN,g,S,ns,xs,rows,M,rfl,hir,hin',hxl,hB2,hsub,hk,hm,hnm,hI,hC⟩:=hrel
  have hnx:=za hC.out.len
  have hnl:ns.length≤lim:=by have:=hnx.out;omega
  obtain⟨A11,c11,rfl⟩:=zg hm.out.nodes
  obtain⟨rs,v1,v2,v3,v4⟩:=hm.out.rows
  obtain⟨A13,c13,rfl⟩:=zg v1
  by_cases hlt:i<ns.length
  case neg =>
   have hie:i=ns.length:=by omega
   have hir':=hir.out
   have hnx':=hnx.out
   have zio:=za (show RetNb K D LL x0 lim f0 (B0+6*lim) S0 w (.returned (.tuple #[.slice A11 ns.length c11,.slice A13 rows.length c13,.bool true])) wr from
    ⟨g,B,S,hsub.out,hk.out,by omega,.inr ⟨A11,c11,A13,c13,ns,xs,rows,by rw [hnx',← hir',hie,hnx'],hxl,hI.out,by omega,⟨hnx',hC.out.code⟩,by rw [← hnx'];exact hm.out.nodes,rs,(by rw [show xs.length=rows.length by omega];exact v1),v2⟩⟩)
   clear v1 v2 v3 v4 hir' hnx'
   subst hie
   go_wp2_with fail
   go_ret3
   exact zio.out
  case pos =>
  have hlt':(i:Int)<(ns.length:Int):=by omega
  go_wp2_with fail
  go_loopw [11,15,34] (fun v11 v15 kv wq=>∃ (k B nm:Nat) (g:Int→Option α) (S:Nat→Prop) (ns:List Int) (xs:List α) (row:List Int) (M:Int→Option Nat),kv=.int .i64 k∧Hid (k=row.length)∧k≤LL.length∧i<ns.length∧xs.length≤lim∧B≤B0+6*i+k∧Hid (SubF f0 g)∧Hid (Kp (K g) B S0 w wq S) ∧
   Hid (NbM w.heap.size wq S mb v11 v15 (.slice A13 rows.length c13) wN.heap.size nm ns row rows M)∧Hid (nm=ns.length)∧Hid (NbI D LL x0 xs rows row)∧Hid (NbC g ns xs M)) (fun _ _ kv _=>LL.length - (intOf kv).toNat)
  case atStart=>exact⟨0,B,nm,g,S,ns,xs,[],M,rfl,za rfl,Nat.zero_le _,hlt,hxl,by omega,hsub,hk,hm,hnm,hI,hC⟩
  case round =>
   clear hsub hk hm hnm hI hC hB2 hxl hnx hnl hlt hlt' hin' v1 v2 v3 v4
   obtain⟨k,B,nm,g,S,ns,xs,row,M,rfl,hkr,hkl,hlt,hxl,hB2,hsub,hk,hm,hnm,hI,hC⟩:=hrel
   have hnx:=za hC.out.len
   have hnl:ns.length≤lim:=by have:=hnx.out;omega
   obtain⟨A11,c11,rfl⟩:=zg hm.out.nodes
   obtain⟨A15,c15,rfl⟩:=zg hm.out.row
   have hlt':(i:Int)<(ns.length:Int):=by omega
   by_cases hkL:k<LL.length
   case neg =>
    obtain⟨rs,v1,v2,v3,v4⟩:=hm.out.rows
    have hie:=za (show row.length=LL.length by have:=hkr.out;omega)
    obtain⟨x,hx⟩:∃ x,xs[rows.length]?=some x:=⟨_,List.getElem?_eq_getElem (by have:=hir.out;have:=hnx.out;omega)⟩
    have hI2:=za (hI.out.row_ hx hie.out)
    have hfr:=za (fun (q:Nat) (hq:wr.heap.size≤q)=>zhc.fresh (HJ.out g) hk.out.j hq)
    have hsz0:=hk.out.size
    have hV2:=za v2
    have hV3:=za v3
    have hV4:=za v4
    have hrl:rows.length≤100000:=by have:=hir.out;have:=hnx.out;omega
    clear hx v2 v3 v4 hI
    go_wp2_with (at_builtin;refine zX w wr rfl _ _ _ rfl 137 _ 1 24 Tryz.underlying25 zbJ rfl (by decide) (.slice A13 rows.length c13) rows.length rs _ _ rfl rfl hsz0 v1 rfl (zaJ _ _ _) (by unfold maxLen;omega) (by omega) ?_;intro g9 cap9 w9 hown9 hg9 hat9 hlt9)
    have hm2:=za (hm.out.pushV hfr.out v1 hV2.out hV3.out hV4.out hown9 hg9 hat9)
    have hk2:=za (hk.out.grown (HJ.out g) hg9 (fun q hq=>⟨(v1.lt q hq).1,by have:=(v1.lt q hq).1;omega,hV3.out q hq⟩))
    go_roundw
    case rel=>exact⟨i+1,B,nm,w9,g,S,ns,xs,rows++[row],M,by go_num,za (by rw [List.length_append,← hir.out];rfl),by omega,hxl,by omega,hsub,hk2,hm2,hnm,hI2,hC⟩
    case measure=>simp [intOf];omega
   case pos =>
   have hkL':(k:Int)<(LL.length:Int):=by omega
   obtain⟨l,hl⟩:∃ l,LL[k]?=some l:=⟨_,List.getElem?_eq_getElem hkL⟩
   have Hl:=za hl
   obtain⟨n,hn⟩:∃ n,ns[i]?=some n:=⟨_,List.getElem?_eq_getElem hlt⟩
   obtain⟨x,hx,hfx⟩:=hC.out.code i n hn
   have Hx:=za hx
   obtain⟨gL,rfl,-,-⟩:=zae HL.out (by omega)
   obtain⟨g11,rfl,-,-⟩:=zae hm.out.nodes (by omega)
   have cL:=zcu (hk.out.row HL.out HLS.out).1 hkL
   rw [List.getD_eq_getElem?_getD,hl,Option.getD_some] at cL
   have cN:=own_int_at hm.out.nodes hn
   have hstep:=za (Hnext.out g B wr S n x l hk.out.j (by omega) hfx (List.mem_of_getElem? hl))
   clear hx hl hn hfx
   go_upto_region 12 with fail
   refine hstep.out.mono ?_
   rintro e w5 ⟨g',m,S',rfl,hsub',hgm,hk5⟩
   have hk6:=za (hk.out.trans hk5)
   have hm6:=za (hm.out.kp hk5)
   have hsub6:=za (hsub.out.trans hsub')
   have hC6:=za (hC.out.sub hsub')
   have hdm:=Hdom.out g' _ w5 S' hk5.j m _ hgm
   have Hgm:=za hgm
   have hinj6:=za (Hinj.out g' _ w5 S' hk5.j)
   have hfr6:=za (fun (q:Nat) (hq:w5.heap.size≤q)=>zhc.fresh (HJ.out g') hk5.j hq)
   clear cL cN hstep hk hm hsub hC hsub' hgm hk5
   cases hMm:M m with
   |some j =>
    have HMm:=za hMm
    have hxj:=za (hC6.out.hit Hgm.out hMm)
    have hjl:j<ns.length:=by have:=hnx.out;have:=(List.getElem?_eq_some_iff.1 hxj.out).1;omega
    have hI6:=za (hI.out.hit (l:=l) (by rw [← hir.out];exact Hx.out) (by rw [← hkr.out];exact Hl.out) hxj.out)
    clear hMm
    go_upto_region 13 with (refine zdv (key:=m) _ keyZ rfl _ _ rfl rfl hm6.out.map rfl hdm ?_;rw [HMm.out];intro cc hcc;obtain rfl:=hcc j rfl;clear hcc)
    have or6:=hm6.out.row
    have hN6:=hm6.out.N0
    have hrl6:row.length≤6:=by have:=hkr.out;omega
    go_wp2_with (at_builtin;refine zX wN w5 rfl _ _ _ rfl 3 _ 1 8 Tryz.underlying137 zY rfl (by decide) (.slice A15 row.length c15) row.length (ints row) _ _ rfl rfl hN6.2 or6 rfl (zaI _) (by unfold maxLen;omega) (by omega) ?_;intro g9 cap9 w9 hown9 hg9 hat9 hlt9)
    have hm9:=za (hm6.out.pushR hfr6.out hown9 hg9 hat9)
    have hk9:=za (hk6.out.grown (HJ.out g') hg9 (fun q hq=>⟨by have:=(or6.lt q hq).1;omega,by have:=(or6.lt q hq).1;omega,hm6.out.rS q hq⟩))
    go_roundw
    case rel=>exact⟨k+1,B+1,nm,g',S',ns,xs,row++[(j:Int)],M,by go_num,za (by rw [List.length_append,← hkr.out];rfl),by omega,hlt,hxl,by omega,hsub6,hk9,hm9,hnm,hI6,hC6⟩
    case measure=>simp [intOf];omega
   |none =>
    have HMm:=za hMm
    have hny:=za (hC6.out.miss hinj6.out Hgm.out hMm)
    clear hMm
    by_cases hfull:ns.length=lim
    ·have hxf:=za (show RetNb K D LL x0 lim f0 (B0+6*lim) S0 w (.returned (.tuple #[.slice none 0 0,.slice none 0 0,.bool false])) w5 from by
      refine⟨g',B+1,S',hsub6.out,hk6.out,by omega,.inl ⟨rfl,xs++[D x l],?_,by have:=hnx.out;simp;omega,fun z hz=>?_⟩⟩
      ·exact (hI.out.more (l:=l) (by rw [← hir.out];exact Hx.out) (List.mem_of_getElem? Hl.out) rfl hny.out).nd
      ·exact (hI.out.more (l:=l) (by rw [← hir.out];exact Hx.out) (List.mem_of_getElem? Hl.out) rfl hny.out).reach z hz)
     have hfull':=za hfull
     have hfe:((ns.length:Int)==(lim:Int))=true:=by simp;omega
     clear hfull
     go_wp2_with (refine zdv (key:=m) _ keyZ rfl _ _ rfl rfl hm6.out.map rfl hdm ?_;rw [HMm.out];intro cc hcc;clear hcc)
     go_ret3
     exact hxf.out
    ·have hfe:((ns.length:Int)==(lim:Int))=false:=by simp;omega
     have hnl2:ns.length+1≤lim:=by omega
     clear hfull
     have hI6:=za (show NbI D LL x0 (xs++[D x l]) rows (row++[(ns.length:Int)]) from
      (hI.out.more (l:=l) (by rw [← hir.out];exact Hx.out) (List.mem_of_getElem? Hl.out) rfl hny.out).hit (x:=x) (l:=l) (by rw [List.getElem?_append_left (by have:=hir.out;have:=hnx.out;omega),← hir.out];exact Hx.out) (by rw [← hkr.out];exact Hl.out) (by rw [hnx.out];simp))
     have hC7:=za (hC6.out.push Hgm.out HMm.out)
     have hnm100:nm<1152921504606846976:=by have:=hnm.out;omega
     go_upto_region 17 with (refine zdv (key:=m) _ keyZ rfl _ _ rfl rfl hm6.out.map rfl hdm ?_;rw [HMm.out];intro cc hcc;clear hcc)
     have hN6:=hm6.out.N0
     have hrl6:row.length≤6:=by have:=hkr.out;omega
     have on6:=hm6.out.nodes
     go_upto_region 18 with (refine zew (key:=m) (v9:=ns.length) (b:=mb) _ keyZ rfl _ _ _ (.inl rfl) rfl hm6.out.map hnm100 rfl rfl hdm (by omega) ?_;intro w7 hM7 hg7)
     have hm7:=za (hm6.out.setMap hM7 hg7)
     have hk7:=za (hk6.out.grown (HJ.out g') hg7 (fun q hq=>by
      obtain rfl:=Option.some.inj hq
      exact⟨hm6.out.mlow,Nat.le_trans hb0 hm6.out.mlow,hm6.out.mS⟩))
     have h57:=(Frm.of_grown hg7).size
     have hfr7:=za (fun (q:Nat) (hq:w7.heap.size≤q)=>hfr6.out q (by omega))
     have on7:=hm7.out.nodes
     have hs7:=hk7.out.size
     clear hM7 hg7 on6
     go_upto_region 19 with (at_builtin;refine zX w w7 rfl _ _ _ rfl 3 _ 1 8 Tryz.underlying137 zY rfl (by decide) (.slice (some ⟨g11,0,none⟩) ns.length c11) ns.length (ints ns) _ _ rfl rfl hs7 on7 rfl (zaI _) (by unfold maxLen;omega) (by omega) ?_;intro g8 cap8 w8 hown8 hg8 hat8 hlt8)
     have hm8:=za (hm7.out.pushN hfr7.out hown8 hg8 hat8)
     have hk8:=za (hk7.out.grown (HJ.out g') hg8 (fun q hq=>⟨(on7.lt q hq).1,by have:=(on7.lt q hq).1;omega,hm7.out.nS q hq⟩))
     have h78:=(Frm.of_grown hg8).size
     have hfr8:=za (fun (q:Nat) (hq:w8.heap.size≤q)=>hfr7.out q (by omega))
     have or8:=hm8.out.row
     have hN8:=hm8.out.N0
     clear hown8 hg8 hat8 on7
     go_wp2_with (at_builtin;refine zX wN w8 rfl _ _ _ rfl 3 _ 1 8 Tryz.underlying137 zY rfl (by decide) (.slice A15 row.length c15) row.length (ints row) _ _ rfl rfl hN8.2 or8 rfl (zaI _) (by unfold maxLen;omega) (by omega) ?_;intro g9 cap9 w9 hown9 hg9 hat9 hlt9)
     have hm9:=za (hm8.out.pushR hfr8.out hown9 hg9 hat9)
     have hk9:=za (hk8.out.grown (HJ.out g') hg9 (fun q hq=>⟨by have:=(or8.lt q hq).1;omega,by have:=(or8.lt q hq).1;omega,hm8.out.rS q hq⟩))
     go_roundw
     case rel=>exact⟨k+1,B+1,nm+1,g',S',ns++[m],xs++[D x l],row++[(ns.length:Int)],_,by go_num,za (by rw [List.length_append,← hkr.out];rfl),by omega,by simp;omega,by have:=hnx.out;simp;omega,by omega,hsub6,hk9,hm9,za (by rw [List.length_append,← hnm.out];rfl),hI6,hC7⟩
     case measure=>simp [intOf];omega
end
structure zeA (a t:Aut) (xs:List Nat):Prop where
 al:t.al=a.al
 nb:NbI (aGo a) (letters a.al.toNat 6) 0 xs t.next []
 len:t.next.length=xs.length
 acc:t.acc=xs.map (zbr a)
section
variable {a t:Aut} {xs:List Nat}
theorem zeA.lt (h:zeA a t xs)(ha:zi a=true):∀ x∈xs,x<a.next.length:=by
 intro x hx
 obtain⟨v,h1,rfl⟩:=h.nb.reach x hx
 exact zdL ha (fun l hl=>(zF.1 (h1 l hl)).1) (q:=0) (by have:=(zj ha).2.1;omega)
theorem zeA.few (h:zeA a t xs)(ha:zi a=true):xs.length≤a.next.length:=zcV h.nb.nd (h.lt ha)
theorem zeA.go (h:zeA a t xs) {i l x:Nat}(hx:xs[i]?=some x)(hl:l<6):xs[aGo t i l]?=some (aGo a x l):=by
 have hi:=(List.getElem?_eq_some_iff.1 hx).1
 unfold aGo
 rw [h.al]
 cases hb:a.al.toNat.testBit l
 ·rw [if_neg (by decide),if_neg (by decide)];exact hx
 ·rw [if_pos rfl,if_pos rfl]
  obtain⟨r,h1,-,h3⟩:=h.nb.done i x (by rw [h.len];exact hi) hx
  obtain⟨m,h4,h5⟩:=h3 (place a.al.toNat l) l (zeG hb 6 hl)
  have e1:t.next.getD i []=r:=by rw [List.getD_eq_getElem?_getD,h1];rfl
  have e2:r.getD (place a.al.toNat l) 0=(m:Int):=by rw [List.getD_eq_getElem?_getD,h4];rfl
  rw [e1,e2,Int.toNat_natCast,h5]
  unfold aGo
  rw [if_pos hb]
theorem zeA.run (h:zeA a t xs):∀ (n:Nat) (v:List Nat),v.length=n→(∀ l∈v,l<6)→xs[zcL t 0 v]?=some (zcL a 0 v):=by
 intro n
 induction n with
 |zero =>
  intro v hl _
  obtain rfl:=List.eq_nil_of_length_eq_zero hl
  exact h.nb.x0
 |succ n ih =>
  intro v hl hv
  rcases zaA v with rfl|⟨w,l,rfl⟩
  ·simp at hl
  rw [zcv,zcv]
  exact h.go (ih w (by simpa using hl) (fun x hx=>hv x (by simp [hx]))) (hv l (by simp))
theorem zeA.acc_ (h:zeA a t xs) {i x:Nat}(hx:xs[i]?=some x):zbr t i=zbr a x:=by
 unfold zbr
 rw [h.acc,List.getD_eq_getElem?_getD,List.getElem?_map,hx]
 rfl
end
def TrK (b0 g:Nat) (a:Aut) (f:Int→Option Nat):zhc:=fun _ W S =>
 (∀ n x,f n=some x↔(n=(x:Int)∧x<a.next.length))∧(∀ k,¬ S k)∧b0≤W.heap.size∧g<b0∧∃ (U:Option Addr) (n uc lo hi:Nat),Blk W g 177 #[.slice U n uc]∧n=a.next.length∧TbAt W lo hi U a∧hi≤b0
theorem TrK.ok (b0 g:Nat) (a:Aut) (f:Int→Option Nat):zhc.Ok b0 (TrK b0 g a f):=by
 refine⟨fun h k hk=>absurd hk (h.2.1 k),fun h k hk=>absurd hk (h.2.1 k),fun h hf hT=>?_,fun h _=>h⟩
 obtain⟨h1,h2,h3,h4,U,n,uc,lo,hi,h5,h6,h7,h8⟩:=h
 exact⟨h1,h2,Nat.le_trans h3 hf.size,h4,U,n,uc,lo,hi,h5.frm hf (fun e=>by have:=(hT g (by omega) e).1;omega),h6,Reads.frm h7 hf (fun k hk1 hk2 e=>by have:=(hT k (by omega) e).1;omega),h8⟩
theorem trim_step {b0 g B:Nat} {a:Aut} {f:Int→Option Nat} {W:World} {S:Nat→Prop} {n:Int} {x l:Nat}(h:TrK b0 g a f B W S)(hn:f n=some x)(hv:zi a=true)(hl:l<6) :
  Calls Tryz.prog 193 (#[.int .i64 n,.int .i64 (l:Nat)]++#[.pointer (some ⟨g,0,none⟩)]) W (RetNext (TrK b0 g a) (aGo a) f B S W x l):=by
 obtain⟨h1,h2,h3,h4,U,m,uc,lo,hi,h5,h6,h7,h8⟩:=h
 obtain⟨rfl,hx⟩:=(h1 n x).1 hn
 have hgo:=zdC hv hx hl
 obtain⟨gu,ou,rfl,cu⟩:=h7.at_ hx hl
 have zio:=za (show RetNext (TrK b0 g a) (aGo a) f B S W x l (.returned (.int .i64 (aGo a x l:Nat))) W from
  ⟨f,_,S,rfl,SubF.refl f,(h1 _ _).2 ⟨rfl,hgo⟩,Kp.refl ⟨h1,h2,h3,h4,_,m,uc,lo,hi,h5,h6,h7,h8⟩⟩)
 have cg:=h5.cell
 have hxm:(x:Int)<(m:Int):=by rw [h6];omega
 have hl6:(l:Int)<6:=by omega
 clear h1 h2 h5 h7 hn
 generalize aGo a x l=y at *
 show Calls Tryz.prog 193 #[.int .i64 (x:Nat),.int .i64 (l:Nat),.pointer (some ⟨g,0,none⟩)] W _
 go_enter Tryz.func193,Tryz.ntmps193
 go_wp2_with fail
 go_ret
 exact zio.out
def stF (N:Nat) (n:Int):Option Nat:=if 0≤n∧n<(N:Int) then some n.toNat else none
theorem stF_iff {N:Nat} (n:Int) (x:Nat):stF N n=some x↔(n=(x:Int)∧x<N):=by
 unfold stF
 constructor
 ·intro h
  split at h
  ·rename_i h1
   have:=Option.some.inj h
   omega
  ·cases h
 ·rintro ⟨rfl,h⟩
  rw [if_pos (by omega),Int.toNat_natCast]
theorem TrK.start {g:Nat} {a:Aut} {w W:World} {U:Option Addr} {uc:Nat}(hb:Blk w g 177 #[.slice U a.next.length uc])(hU:TbO w U uc a)(hx:Ext w W) (B:Nat):TrK w.heap.size g a (stF a.next.length) B W (fun _=>False):=by
 obtain⟨base,ho⟩:=hU
 exact⟨stF_iff,fun _ h=>h,hx.size,hb.lt,U,_,uc,base,w.heap.size,hb.ext hx,rfl,Reads.ext (Reads.of_own ho) hx,Nat.le_refl _⟩
def RetTrim (w:World) (a:Aut) (e:Ending) (w':World):Prop:=
 ∃ (t:Aut) (xs:List Nat) (A:Option Addr) (n c:Nat) (A':Option Addr) (n' c':Nat),e=.returned (.agg #[.int .i64 t.al,.slice A n c,.slice A' n' c'])∧zZ w' w.heap.size A n c A' n' c' t∧zeA a t xs∧Ext w w'
theorem impl_trim {lo hi:Nat} {B:Option Addr} {m d:Nat} {B':Option Addr} {m' d':Nat} {a:Aut} {w:World}(h:zG w lo hi B m B' m' a)(hv:zi a=true) :
  Calls Tryz.prog 103 #[.agg #[.int .i64 a.al,.slice B m d,.slice B' m' d']] w (RetTrim w a):=by
 obtain⟨⟨al0,al1⟩,⟨n1,n12⟩,hacl,-⟩:=zj hv
 obtain⟨al,hal⟩:∃ al:Nat,Hid (a.al=al):=⟨a.al.toNat,by unfold Hid;omega⟩
 have hsm:Sm al:=by have:=hal.out;unfold Sm;omega
 have HLe:=za (show letters al 6=letters a.al.toNat 6 by rw [hal.out];rfl)
 have HA:=za (fun W (hW:Ext w W)=>h.ext hW)
 have Hv:=za hv
 have hn2:=za h.n2
 have Hacl:=za hacl
 clear h hv al0 al1 hacl
 have hx0:Ext w ((w.alloc (.cells #[.int .i64 a.al,.slice B m d,.slice B' m' d'] 31)).alloc (.cells #[.int .i64 0,.slice none 0 0,.slice none 0 0] 31)):=((Ext.refl _).alloc _).alloc _
 obtain⟨b1,b2⟩:=zU (Ext.refl ((w.alloc (.cells #[.int .i64 a.al,.slice B m d,.slice B' m' d'] 31)).alloc (.cells #[.int .i64 0,.slice none 0 0,.slice none 0 0] 31)))
 go_enter Tryz.func103,Tryz.ntmps103
 go_upto_region 1 with fail
 generalize (w.alloc (.cells #[.int .i64 a.al,.slice B m d,.slice B' m' d'] 31)).alloc (.cells #[.int .i64 0,.slice none 0 0,.slice none 0 0] 31)=w0 at *
 have CA:=b1.cells
 have hww0:=Ext.refl w0
 go_upto_region 2 with (first
  |(go_at_call 155;refine (zbf (HA.out _ hx0) Hv.out).mono ?_;rintro e w1 ⟨U,uc,rfl,hU,hx1⟩))
 have b3:=Blk.new w1 177 #[.slice U a.next.length uc]
 have hxa:=(Ext.refl w1).alloc (.cells #[.slice U a.next.length uc] 177)
 have hU2:=hU.ext hxa
 have hx2:=hx1.trans hxa
 have hsz2:w1.heap.size<(w1.alloc (.cells #[.slice U a.next.length uc] 177)).heap.size:=by simp
 clear hU hx1 hxa
 generalize w1.alloc (.cells #[.slice U a.next.length uc] 177)=w2 at *
 generalize w1.heap.size=g3 at *
 have hb2':=b2.ext hx2
 have hN12:=za n12
 have hN1:=za n1
 have HNb:=za (fun W (hW:Ext w2 W) (AL:Option Addr) (cL bL:Nat) (ho:W.ownsRow bL 3 1 (.slice AL (letters al 6).length cL) (letters al 6).length (zaq (letters al 6))) =>
  zhI (K:=TrK w2.heap.size g3 a) (D:=aGo a) (LL:=letters al 6) (x0:=0) (n0:=0) (lim:=a.next.length) (Bm:=1000) (B0:=0) (b0:=w2.heap.size) (kn:=193) (cap:=#[.pointer (some ⟨g3,0,none⟩)]) (S0:=fun _=>False) (f0:=stF a.next.length) (w:=W)
   (TrK.ok w2.heap.size g3 a) (fun f B W S h n m x h1 h2=>by rw [((h.1 n x).1 h1).1,((h.1 m x).1 h2).1]) (fun f B W S h n x h1=>by have:=(h.1 n x).1 h1;unfold domZ;omega)
   (fun _ _=>rfl) (fun f B W S n x l hK _ hf hl=>trim_step hK hf Hv.out (zF.1 hl).1)
   (TrK.start b3 hU2 hW 0) ((stF_iff 0 0).2 ⟨rfl,by have:=hN1.out;omega⟩) hW.size ho (fun _ _ h=>h) (zC al 6) hN1.out (by have:=hN12.out;omega) (by have:=hN12.out;omega))
 have CA2:∀ W,Ext w2 W→∀ q,W.cell? ⟨w.heap.size,q,none⟩=#[Value.int .i64 al,.slice B m d,.slice B' m' d'][q]?:=fun W hW=>by
  have:=CA W (hx2.trans hW)
  rwa [hal.out] at this
 have C3:=b3.cells
 obtain⟨N,hN⟩:∃ N,Hid (a.next.length=N):=⟨_,rfl⟩
 rw [hN.out] at HNb C3
 clear CA hww0 b1 b2 b3 hU2
 have hww:=Ext.refl w2
 go_cut [4,5] (fun v4 v5 wx=>∃ (xs:List Nat) (rows:List (List Int)) (A4:Option Addr) (c4:Nat) (A5:Option Addr) (c5:Nat),v4=.slice A4 xs.length c4∧v5=.slice A5 xs.length c5∧Hid (NbI (aGo a) (letters al 6) 0 xs rows [])∧Hid (rows.length=xs.length)∧wx.ownsRow w2.heap.size 3 1 (.slice A4 xs.length c4) xs.length (zaq xs)∧zea wx w2.heap.size (.slice A5 xs.length c5) rows∧Ext w2 wx)
 case first =>
  have hxd:Ext w2 w2.drew:=hww.drew
  refine uR (fun X=>Ext w2 X) [6] (zw.of [0,1,3,4,5,2,6,7,8,9,10,11,12,13]) ?_
  refine uQ ?_
  (refine zd rfl rfl rfl (fun K hK=>?_);go_simp)
  refine (zaK al hsm _).mono ?_
  rintro e w3 ⟨AL,cL,rfl,ownL,hx3⟩
  have hx23:=hxd.trans hx3
  refine hK.out _ _ hx23 ?_
  refine pT ?_
  (refine zb rfl rfl rfl rfl (fun K hK=>?_))
  go_simp
  refine (HNb.out w3 hx23 AL cL _ ownL).mono ?_
  rintro e w4 ⟨f,Bx,S',hsub,hkp,hBx,hcase⟩
  have hx24:Ext w2 w4:=hkp.toExt hx23 (fun k hk=>hk.elim)
  have hk1:=hkp.j.1
  rcases hcase with ⟨rfl,xs,h1,h2,h3⟩|⟨A4,c4,A5,c5,ns,xs,rows,rfl,h1,h2,h3,⟨h4,h5⟩,h6,h7⟩
  ·exfalso
   have:=zcV (p:=a.next.length) h1 (fun x hx=>by
    obtain⟨v,h4,rfl⟩:=h3 x hx
    exact zdL Hv.out (fun l hl=>(zF.1 (h4 l hl)).1) (q:=0) (by have:=hN1.out;omega))
   have:=hN.out
   omega
  have hns:ints ns=zaq xs:=by
   refine List.ext_getElem? fun j=>?_
   unfold ints zaq
   rw [List.getElem?_map,List.getElem?_map]
   cases hj:ns[j]? with
   |none=>rw [List.getElem?_eq_none (by have:=List.getElem?_eq_none_iff.1 hj;omega)];rfl
   |some n =>
    obtain⟨x,hx,hf⟩:=h5 j n hj
    rw [hx,((hk1 n x).1 hf).1]
    rfl
  rw [hns] at h6
  have hs23:=hx23.size
  have zio:=za (And.intro (zn h6 hs23) (And.intro (h7.less hs23) hx24))
  have hI:=za h2
  have hrl:=za h3
  clear hsub hkp hk1 h1 h2 h3 h4 h5 h6 h7 hns
  refine hK.out _ _ ?_
  refine pT ?_
  refine uQ ?_
  refine ze ?_
  go_wp2_with fail
  go_meet
  exact⟨xs,rows,A4,c4,A5,c5,rfl,rfl,hI,hrl,zio.out.1,zio.out.2.1,zio.out.2.2⟩
 case rest =>
 obtain⟨xs,rows,A4,c4,A5,c5,rfl,rfl,hI,hrl,o4,o5,hxc⟩:=hcut
 clear HNb C3
 go_upto_region 4 with fail
 have bG:=Blk.new wc 31 #[.int .i64 al,.slice A5 xs.length c5,.slice none 0 0]
 have hxa:=(Ext.refl wc).alloc (.cells #[.int .i64 al,.slice A5 xs.length c5,.slice none 0 0] 31)
 have hlt9:=za (show ∀ x∈xs,x<a.next.length from fun x hx=>by
  obtain⟨v,h4,rfl⟩:=hI.out.reach x hx
  exact zdL Hv.out (fun l hl=>(zF.1 (h4 l hl)).1) (q:=0) (by have:=hN1.out;omega))
 have hx12:xs.length≤12:=by
  have:=zcV hI.out.nd hlt9.out
  have:=hN12.out
  omega
 have o4a:=zh o4 hxa
 obtain⟨G,hG⟩:∃ G,Hid (wc.heap.size=G):=⟨_,za rfl⟩
 rw [hG.out] at bG
 have hGle:wc.heap.size≤G:=by have:=hG.out;omega
 rw [hG.out]
 generalize wc.alloc (.cells #[.int .i64 al,.slice A5 xs.length c5,.slice none 0 0] 31)=w6 at *
 go_wp2_with fail
 go_loopw [29] (fun iv wr=>∃ (i:Nat) (vA:Value),iv=.int .i64 i∧i≤xs.length∧Blk wr G 31 #[.int .i64 al,.slice A5 xs.length c5,vA]∧wr.ownsRow wc.heap.size 4 1 vA i (zaB ((xs.take i).map (zbr a)))∧Ext wc wr) (fun iv _=>xs.length - (intOf iv).toNat)
 case atStart=>exact⟨0,_,rfl,Nat.zero_le _,bG,World.ownsRow_nil _ _ _ _,hxa⟩
 case round =>
  clear bG hxa o4a
  obtain⟨i,vA,rfl,hi,hB,zim,hxr⟩:=hrel
  by_cases hlt:i<xs.length
  ·have hlt':(i:Int)<(xs.length:Int):=by omega
   obtain⟨x,hx⟩:∃ x,xs[i]?=some x:=⟨_,List.getElem?_eq_getElem hlt⟩
   have hxn:=hlt9.out x (List.mem_of_getElem? hx)
   obtain⟨g4,rfl,-,-⟩:=zae o4 (by omega)
   have c4x:=zcu (zh o4 hxr) hlt
   rw [List.getD_eq_getElem?_getD,hx,Option.getD_some] at c4x
   have hm':x<m':=by rw [hn2.out,Hacl.out];exact hxn
   obtain⟨ad,bb,rfl,-,-,hb,cb⟩:=(HA.out wr (hx0.trans (hx2.trans (hxc.trans hxr)))).2.2.bool hm'
   have hm'':(x:Int)<(m':Int):=by omega
   have K4:∀ W,Ext wr W→W.cell? ⟨g4,i,none⟩=some (.int .i64 (x:Nat)):=fun W hW=>hW.cell_some c4x
   have KB:∀ W,Ext wr W→W.cell? (ad.add x)=some (.bool bb):=fun W hW=>hW.cell_some cb
   have KA:∀ W,Ext wr W→∀ q,W.cell? ⟨w.heap.size,q,none⟩=#[Value.int .i64 al,.slice B m d,.slice (some ad) m' d'][q]?:=fun W hW=>CA2 W (hxc.trans (hxr.trans hW))
   have KG:=hB.cells
   have hst:=za (show zaB ((xs.take (i+1)).map (zbr a))=zaB ((xs.take i).map (zbr a))++[.bool bb] by
    have hbe:zbr a x=bb:=by unfold zbr;rw [List.getD_eq_getElem?_getD,hb.out];rfl
    rw [List.take_add_one,hx,Option.toList_some,List.map_append,List.map_singleton,hbe]
    simp [zaB])
   have hww':=Ext.refl wr
   clear c4x cb hx hb
   go_wp2_with fail
   refine uR (fun X=>Ext wr X) [8,10] (zw.of [0,1,2,3,4,5,6,7,8,9,10]) ?_
   refine uQ ?_
   have hxd:=hww'.drew
   generalize wr.drew=wd at *
   (refine zd rfl rfl rfl (fun K hK=>?_);go_simp)
   refine hK.out _ _ (hxd.alloc _) ?_
   refine pT ?_
   (refine zb rfl rfl rfl rfl (fun K hK=>?_))
   have haccd:=zh zim hxd
   refine zaG wc wd _ _ _ rfl 4 _ 1 1 Tryz.underlying26 zaX rfl (by decide) vA i (zaB ((xs.take i).map (zbr a))) _ _ rfl rfl (hxr.trans hxd).size haccd rfl (by simp [Value.oneCell']) (by unfold maxLen;omega) (by omega) ?_
   intro g8 cap8 w8 hown8 hg8 hat8 hlt8
   refine hK.out _ _ ?_
   refine pT ?_
   refine uQ ?_
   have hBd:=hB.ext hxd
   have hB8:Blk w8 G 31 #[.int .i64 al,.slice A5 xs.length c5,vA]:=(hg8.block G hBd.lt (fun e=>zq haccd hBd (by decide) e.symm rfl)).trans hBd
   have hgG:g8≠G:=by
    rcases hat8 with h1|h1
    ·exact zq haccd hBd (by decide) h1
    ·have:=hBd.lt;omega
   have k8:=hB8.cell 2
   have f8:=hB8.frozen 2
   have hx8:=za (((hxr.trans hxd).grown hg8 (fun k hk=>(haccd.lt k hk).1)).setCell (p:=⟨G,2,none⟩) hGle (.slice (some ⟨g8,0,none⟩) (i+1) cap8))
   have hBs:=za (show Blk (w8.setCell ⟨G,2,none⟩ (.slice (some ⟨g8,0,none⟩) (i+1) cap8)) G 31 #[.int .i64 al,.slice A5 xs.length c5,.slice (some ⟨g8,0,none⟩) (i+1) cap8] by simpa using hB8.set_ 2 (.slice (some ⟨g8,0,none⟩) (i+1) cap8))
   have hos:=za (zf hown8 (Frm.setCell w8 G 2 (.slice (some ⟨g8,0,none⟩) (i+1) cap8)) (fun b hv hS=>by
    have:g8=b:=by simpa [Value.ownBlock] using hv
    omega))
   clear hown8 hg8 hat8 haccd zim hB hBd hB8 K4 KB KA KG
   (refine zb rfl rfl rfl rfl (fun K hK=>?_))
   go_simp
   refine hK.out _ _ ?_
   refine ze ?_
   clear k8 f8
   go_wp2_with fail
   go_roundw
   case rel=>exact⟨i+1,_,by go_num,by omega,hBs.out,by rw [hst.out];exact hos.out,hx8.out⟩
   case measure=>simp [intOf];omega
  ·obtain rfl:i=xs.length:=by omega
   rw [List.take_length] at zim
   obtain⟨AA,cA,rfl⟩:=zg zim
   have hb2r:=hb2'.ext (hxc.trans hxr)
   have kz:=hb2r.cell
   have fz:=hb2r.frozen
   have kG:=hB.cell
   have hZ:=hb2'.lt
   have hao:=zZ.keep (show zZ wr w2.heap.size A5 xs.length c5 AA xs.length cA ⟨a.al,rows,xs.map (zbr a)⟩ from ⟨o5.ext hxr,hrl.out.symm,zn zim hxc.size,by simp⟩) (zad wr (w.heap.size+1) (.int .i64 al) (.slice A5 xs.length c5) (.slice AA xs.length cA)) (fun b hb e=>by omega)
   have htr:=za (show zeA a ⟨a.al,rows,xs.map (zbr a)⟩ xs from ⟨rfl,by rw [← HLe.out];exact hI.out,hrl.out,rfl⟩)
   have hxz:=za ((hx0.trans (hx2.trans (hxc.trans hxr))).frm (zad wr (w.heap.size+1) (.int .i64 al) (.slice A5 xs.length c5) (.slice AA xs.length cA)) (fun k hk e=>by omega))
   have hfb:=za (zau hb2r rfl (.int .i64 al) (.slice A5 xs.length c5) (.slice AA xs.length cA))
   have zio:=za (show RetTrim w a (.returned (.agg #[.int .i64 al,.slice A5 xs.length c5,.slice AA xs.length cA])) _ from ⟨⟨a.al,rows,xs.map (zbr a)⟩,xs,A5,xs.length,c5,AA,xs.length,cA,by rw [← hal.out],hao.less (by have:=hx0.size;have:=hx2.size;omega),htr.out,hxz.out⟩)
   clear hao hb2r zim hB
   go_wp2_with fail
   have cf:=hfb.out.cell
   exact bodyPost_ret (v:=.agg #[.int .i64 al,.slice A5 xs.length c5,.slice AA xs.length cA]) (by simp [results,Tryz.results103,go_sem,cf]) rfl zio.out
end Go.Proofs.YtmjaepibdpfblaaGreatDoor
