/- The law FnCh -/
import Derived.Test.YtmjaepibdpfblaaGreatDoorK15
import Derived.Test.YtmjaepibdpfblaaGreatDoorK16
import Derived.Test.YtmjaepibdpfblaaGreatDoorK01
set_option maxHeartbeats 4000000
set_option maxRecDepth 100000
namespace Go.Proofs.YtmjaepibdpfblaaGreatDoor
open Go Go.RowKit
theorem wl_snoc (x:ByteArray) {l:Nat}(hl:l<6):wl (x++zeo l)=wl x++[l]:=by
 unfold wl
 rw [ByteArray.data_append,Array.toList_append,List.map_append,letS_data]
 have key:∀ l,l<6→(UInt8.ofNat (97+l)).toNat - 97=l:=by decide
 rw [List.map_singleton,key l hl]
theorem check_longer {s t:Sys} {p a:Aut} {x:ByteArray}(hz:zcB s t p false a x=0)(hpc:Pc p) {l:Nat}(hl:l<6)(ht:zgI [s,t] (x++zeo l)=true):zcB s t p false ⟨0,[],[]⟩ (x++zeo l)=0:=by
 have hc:zK false a x=true:=by
  rw [← Bool.not_eq_false]
  intro hc
  have h1:=(check_order s t p a false x).2.2
  by_cases hi:iface s p t<0
  ·have:=(check_order s t p a false x).1.2 hi
   omega
  ·have:=h1 ⟨hi,hc⟩
   omega
 obtain⟨h1,h2⟩:=(check_fails hc).1.1 hz
 obtain⟨-,hw,-,-⟩:=top_iff.1 h1
 obtain⟨-,hw2,-,-⟩:=top_iff.1 ht
 refine (check_fails (a:=⟨0,[],[]⟩) ?_).1.2 ⟨ht,?_⟩
 ·unfold zK
  rw [hw2]
  rfl
 ·unfold zcq at h2 ⊢
  simp only [Bool.and_eq_true,Bool.not_eq_true'] at h2 ⊢
  refine⟨h2.1,hw2,?_⟩
  rw [wl_snoc x hl]
  exact hpc _ l (zik hw) hl h2.2.2
theorem laws_agLetter {l:Nat} {w:World}(h1:l<6):Calls Tryz.prog 41 #[.int .i64 l] w fun e w'=>e=.returned (.string (zeo l))∧Ext w w':=by
 have hc:=zhB w
 have hw:IntKind.u8.wrap (97+(l:Int))=((97+l:Nat):Int):=by rw [IntKind.wrap_u8];omega
 go_enter Tryz.func41,Tryz.ntmps41
 go_wp2
 go_ret
 exact⟨rfl,(Ext.refl _).alloc _⟩
theorem yZLawCkLongera1 {P:Prop}(h:P:=by
 go_wp2_with (first
  |(go_at_call 38;with_reducible refine (HI.out _ hcur).mono ?_;rintro e wz ⟨rfl,hz⟩;replace hcur:=hcur.trans hz;replace h2:=h2.trans hz;clear hz)
  |(go_at_call 39;with_reducible refine (HR.out _ hcur).mono ?_;rintro e wz ⟨rfl,hz⟩;replace hcur:=hcur.trans hz;replace h2:=h2.trans hz;clear hz)
  |(go_at_call 97;with_reducible refine (HV.out _ hcur).mono ?_;rintro e wz ⟨rfl,hz⟩;replace hcur:=hcur.trans hz;replace h2:=h2.trans hz;clear hz))
 go_ret
 exact⟨zk (by simp),hx1.trans hcur⟩
 ):P:=h
theorem law_CheckLonger {A0:Option Addr} {n0 c0:Nat} {w:World}(h:Bytes w A0 n0)(hn:n0≤9223372036854775807)(hc:n0≤c0)(hc2:c0≤9223372036854775807)(hT:Tab w) :
  Calls Tryz.prog 5 #[.slice A0 n0 c0] w fun e w'=>e=.returned (.bool true)∧Ext w w':=by
 have Hh:=za h
 have HT:=za (fun W (hW:Ext w W)=>hT.ext hW)
 clear h hT
 by_cases hbig:1048576<n0
 ·have hbig':(1048576:Int)<(n0:Int):=by omega
  go_enter Tryz.func5,Tryz.ntmps5
  go_wp2
  go_ret
  exact⟨rfl,Ext.refl _⟩
 have hbig':(n0:Int)≤1048576:=by omega
 clear hbig
 go_enter Tryz.func5,Tryz.ntmps5
 go_upto_region 4 with (first
  |(go_at_call 37;refine (zgT Hh.out hn hc hc2).mono ?_;rintro e w1 ⟨s,A,n,c,t,C,k,c2,p,B,m,d,B',m',d',hd,a,D,q,f,D',q',f',x,rfl,⟨hs,ht,hp,ha⟩,hsz,hx1⟩))
 clear hbig' hn hc hc2
 have Hsz:=za hsz.out
 have hxs:=za (show x.size≤9223372036854775807 from Nat.le_trans Hsz.out.2.2.2 (by omega))
 have HS:=za (fun W (hW:Ext w1 W)=>hs.ext hW)
 have HU:=za (fun W (hW:Ext w1 W)=>ht.ext hW)
 have HP:=za (fun W (hW:Ext w1 W)=>hp.ext hW)
 have HA:=za (fun W (hW:Ext w1 W)=>ha.ext hW)
 have HTw:=za (fun W (hW:Ext w1 W)=>HT.out W (hx1.trans hW))
 have hcur:Ext w1 ((((w1.alloc (.cells #[.int .i64 s.al,.int .i64 s.st,.slice A n c] 38)).alloc (.cells #[.int .i64 t.al,.int .i64 t.st,.slice C k c2] 38)).alloc (.cells #[.int .i64 p.al,.slice B m d,.slice B' m' d'] 31)).alloc (.cells #[.bool hd,.int .i64 a.al,.slice D q f,.slice D' q' f',.string x] 33)):=((((Ext.refl _).alloc _).alloc _).alloc _).alloc _
 obtain⟨b1,b2,b3,b4⟩:=zdU (Ext.refl ((((w1.alloc (.cells #[.int .i64 s.al,.int .i64 s.st,.slice A n c] 38)).alloc (.cells #[.int .i64 t.al,.int .i64 t.st,.slice C k c2] 38)).alloc (.cells #[.int .i64 p.al,.slice B m d,.slice B' m' d'] 31)).alloc (.cells #[.bool hd,.int .i64 a.al,.slice D q f,.slice D' q' f',.string x] 33)))
 clear hs ht hp ha hsz Hh HT
 generalize (((w1.alloc (.cells #[.int .i64 s.al,.int .i64 s.st,.slice A n c] 38)).alloc (.cells #[.int .i64 t.al,.int .i64 t.st,.slice C k c2] 38)).alloc (.cells #[.int .i64 p.al,.slice B m d,.slice B' m' d'] 31)).alloc (.cells #[.bool hd,.int .i64 a.al,.slice D q f,.slice D' q' f',.string x] 33)=w2 at *
 generalize w1.heap.size=G at *
 have cS:=b1.cells
 have cT:=b2.cells
 have cP:=b3.cells
 have cC:=b4.cells
 have cPa:∀ W o,Ext w2 W→∀ j,(W.alloc o).cell? ⟨G+1+1,j,none⟩=#[Value.int .i64 p.al,.slice B m d,.slice B' m' d'][j]?:=fun W o hW=>(b3.ext (hW.alloc o)).cell
 have cCa:∀ W o,Ext w2 W→∀ j,(W.alloc o).cell? ⟨G+1+1+1,j,none⟩=#[Value.bool hd,.int .i64 a.al,.slice D q f,.slice D' q' f',.string x][j]?:=fun W o hW=>(b4.ext (hW.alloc o)).cell
 have h2:=Ext.refl w2
 clear b1 b2 b3 b4
 have HI:=za (fun W (hW:Ext w1 W)=>impl_CheckCertificate (c:=c) (d1:=d) (d1':=d') (c2:=c2) (d2:=f) (d2':=f') (hd:=hd) (x:=x) (HS.out _ hW) (HU.out _ hW) (HP.out _ hW) (HA.out _ hW) hxs.out (HTw.out _ hW))
 have HR:=za (fun W (hW:Ext w1 W)=>spec_CheckCertificate (c:=c) (d1:=d) (d1':=d') (c2:=c2) (d2:=f) (d2':=f') (hd:=hd) (x:=x) (HS.out _ hW) (HU.out _ hW) (HP.out _ hW) (HA.out _ hW) hxs.out)
 have HV:=za (fun W (hW:Ext w1 W)=>zbe _ _ _ _ f _ _ f' hd _ x _ (HA.out _ hW) hxs.out)
 have HQ:=za (fun W (hW:Ext w1 W)=>impl_IsPrefixClosed (d:=d) (d':=d') (HP.out _ hW))
 by_cases hz:zcB s t p hd a x=0
 case neg =>
  have z0:(zcB s t p hd a x != 0)=true:=by simpa using hz
  generalize zcB s t p hd a x=z at *
  clear hz HQ
  exact yZLawCkLongera1
 case pos =>
  cases hd
  case true =>
   rw [hz] at HI HR
   clear HQ hz
   exact yZLawCkLongera1
  case false =>
   have Hz:=za hz
   rw [hz] at HI HR
   clear hz
   go_upto_if 44 with (first
    |(go_at_call 38;with_reducible refine (HI.out _ hcur).mono ?_;rintro e wz ⟨rfl,hz⟩;replace hcur:=hcur.trans hz;replace h2:=h2.trans hz;clear hz)
    |(go_at_call 39;with_reducible refine (HR.out _ hcur).mono ?_;rintro e wz ⟨rfl,hz⟩;replace hcur:=hcur.trans hz;replace h2:=h2.trans hz;clear hz)
    |(go_at_call 97;with_reducible refine (HV.out _ hcur).mono ?_;rintro e wz ⟨rfl,hz⟩;replace hcur:=hcur.trans hz;replace h2:=h2.trans hz;clear hz)
    |(go_at_call 40;refine (HQ.out _ hcur).mono ?_;rintro e wz ⟨pc,rfl,hpc,hz⟩;replace hcur:=hcur.trans hz;replace h2:=h2.trans hz;clear hz))
   cases pc
   ·clear hpc HQ Hz
    exact yZLawCkLongera1
   have Hlo:=za (fun (l:Nat) (hl:l<6) (ht:zgI [s,t] (x++zeo l)=true)=>check_longer Hz.out (hpc rfl) hl ht)
   clear hpc HQ Hz
   obtain⟨w6,hw6⟩:∃ w6,w6=wz:=⟨_,rfl⟩
   subst hw6
   have hp12:=h2
   clear HI HR HV
   go_wp2_with fail
   go_loopw [8] (fun iv wr=>∃ i:Nat,iv=.int .i64 i∧i≤6∧Ext w1 wr∧Ext w2 wr) (fun iv _=>6 - (intOf iv).toNat)
   case atStart=>exact⟨0,rfl,by omega,hcur,h2⟩
   case round =>
    clear hcur h2 hp12
    obtain⟨i,rfl,hi,hcur,h2⟩:=hrel
    by_cases hlt:i<6
    case neg =>
     obtain rfl:i=6:=by omega
     go_wp2_with fail
     go_ret
     exact⟨rfl,hx1.trans hcur⟩
    case pos =>
    have hlt':(i:Int)<6:=by omega
    have hys:=za (show (x++zeo i).size≤9223372036854775807 by rw [ByteArray.size_append,zdG];have:=Hsz.out.2.2.2;omega)
    have hss:¬ 9223372036854775807<x.size+(zeo i).size:=by rw [zdG];have:=Hsz.out.2.2.2;omega
    have hLi:=za (fun W=>laws_agLetter (w:=W) hlt)
    have hch:=za (Hlo.out i hlt)
    have HL:=za (fun W (hW:Ext w1 W)=>show Calls Tryz.prog 42 #[.slice (some ⟨W.heap.size,0,none⟩) 2 2,.string (x++zeo i)] (W.alloc (.cells #[.int .i64 s.al,.int .i64 s.st,.slice A n c,.int .i64 t.al,.int .i64 t.st,.slice C k c2] 38)) (fun e w'=>e=.returned (.bool (zgI [s,t] (x++zeo i)))∧Ext (W.alloc (.cells #[.int .i64 s.al,.int .i64 s.st,.slice A n c,.int .i64 t.al,.int .i64 t.st,.slice C k c2] 38)) w') from by
     have hx:=(Ext.refl W).alloc (.cells #[.int .i64 s.al,.int .i64 s.st,.slice A n c,.int .i64 t.al,.int .i64 t.st,.slice C k c2] 38)
     obtain⟨lo,hi,hsl⟩:=zcw (Blk.new W 38 #[.int .i64 s.al,.int .i64 s.st,.slice A n c,.int .i64 t.al,.int .i64 t.st,.slice C k c2]) ((HS.out _ hW).ext hx) ((HU.out _ hW).ext hx)
     exact zH (c:=2) hsl (HTw.out _ (hW.trans hx)) hys.out)
    have HK:=za (fun W (hW:Ext w1 W)=>impl_CheckCertificate0 (a:=⟨0,[],[]⟩) (D:=none) (D':=none) (m2:=0) (m2':=0) (c:=c) (d1:=d) (d1':=d') (c2:=c2) (d2:=0) (d2':=0) (x:=x++zeo i) (HS.out _ hW) (HU.out _ hW) (HP.out _ hW)
     (zZ.reads (base:=W.heap.size) (c:=0) (c':=0) ⟨⟨[],World.ownsRow_nil _ _ _ _,zI.nil _ _⟩,rfl,World.ownsRow_nil _ _ _ _,rfl⟩) hys.out (HTw.out _ hW))
    have cCr:∀ W,Ext wr W→∀ j,W.cell? ⟨G+1+1+1,j,none⟩=#[Value.bool false,.int .i64 a.al,.slice D q f,.slice D' q' f',.string x][j]?:=fun W hW=>cC W (h2.trans hW)
    have hww:=Ext.refl wr
    have hwd:=hww.drew
    go_wp2_with fail
    refine uR (fun X=>Ext wr X) [] (zw.of [0,1,2,3,4,5]) ?_
    refine uQ ?_
    generalize wr.drew=wd at *
    (refine zd rfl rfl rfl (fun K hK=>?_);go_simp)
    refine (hLi.out _).mono ?_
    rintro e w7 ⟨rfl,hx7⟩
    have hx17:=hwd.trans hx7
    refine hK.out _ _ hx17 ?_
    refine pT ?_
    refine uQ ?_
    refine ze ?_
    replace hcur:=hcur.trans hx17
    replace h2:=h2.trans hx17
    clear hLi hss cCr hwd hww hx7 hx17
    generalize x++zeo i=y at *
    cases htb:zgI [s,t] y
    ·rw [htb] at HL
     clear htb HK hch
     go_wp2_with (first
      |(go_at_call 42;with_reducible refine (HL.out _ hcur).mono ?_;rintro e wz ⟨rfl,hz⟩;replace hz:=((Ext.refl _).alloc _).trans hz;replace hcur:=hcur.trans hz;replace h2:=h2.trans hz;clear hz))
     refine⟨?_,?measure⟩
     iterate 26 apply Exists.intro
     refine⟨⟨i+1,by go_num,by omega,hcur,h2⟩,rfl⟩
     case measure=>simp [intOf];omega
    ·rw [htb] at HL
     have hc0:=za (hch.out htb)
     rw [hc0.out] at HK
     clear htb hch
     go_wp2_with (first
      |(go_at_call 42;with_reducible refine (HL.out _ hcur).mono ?_;rintro e wz ⟨rfl,hz⟩;replace hz:=((Ext.refl _).alloc _).trans hz;replace hcur:=hcur.trans hz;replace h2:=h2.trans hz;clear hz)
      |(go_at_call 38;refine (HK.out _ hcur).mono ?_;rintro e wz ⟨rfl,hz⟩;replace hcur:=hcur.trans hz;replace h2:=h2.trans hz;clear hz))
     refine⟨?_,?measure⟩
     iterate 26 apply Exists.intro
     refine⟨⟨i+1,by go_num,by omega,hcur,h2⟩,rfl⟩
     case measure=>simp [intOf];omega
end Go.Proofs.YtmjaepibdpfblaaGreatDoor
