/- The referenc -/
import Derived.Test.YtfcjhpodichpjaaGreatJ07
set_option maxHeartbeats 4000000
set_option maxRecDepth 100000
namespace Go.Proofs.YtfcjhpodichpjaaGreat
open Go Go.RowKit
noncomputable def stT (L:Nat) (f:ByteArray→Bool) (rows cols:List ByteArray) (x:ByteArray) (k:Nat):Nat:=runA (zfF L f rows cols) 0 ((wl x).take k)
noncomputable def askT (L:Nat) (f:ByteArray→Bool) (rows cols:List ByteArray) (x:ByteArray) (k:Nat):Bool:=f (rows.getD (stT L f rows cols x k) ⟨#[]⟩++x.extract k x.size)
noncomputable def zdi (L:Nat) (f:ByteArray→Bool) (rows cols:List ByteArray) (x:ByteArray):Option ByteArray:=
 if (inB x L&&decide (x.size≤4000))=true∧zdT (zfF L f rows cols) (runA (zfF L f rows cols) 0 (wl x))≠f x then
  ((List.range x.size).find? fun k=>askT L f rows cols x k != askT L f rows cols x (k+1)).map fun k=>x.extract (k+1) x.size
 else none
theorem find_range {P:Nat→Bool} {n k:Nat}(hk:k<n)(hp:∀ j,j<k→P j=false)(hx:P k=true):(List.range n).find? P=some k:=by
 rw [List.find?_range_eq_some]
 exact⟨hx,List.mem_range.2 hk,fun j hj=>by rw [hp j hj];rfl⟩
section
variable {w W:World} {n c m d m' d' L:Nat} {A B B':Option Addr} {s:Sys} {p:Aut} {nr nc cr cc:Nat} {R C:Option Addr} {rows cols:List ByteArray}
theorem zfy {x:ByteArray}(h:Tch w A n B m B' m' s p L)(hT:TabAt w R nr C nc rows cols)(hI:zct L (zw s p L) rows cols)(hcr:nr≤cr)(hcc:nc≤cc)(hcl:zbd L (zw s p L) rows cols=none)(hx:x.size≤9223372036854775807) :
  Calls Tryz.prog 102 #[.agg #[.bool false,.int .i64 0,.slice none 0 0,.slice none 0 0,.int .i64 s.al,.int .i64 s.st,.slice A n c,.int .i64 p.al,.slice B m d,.slice B' m' d',.int .i64 L],.agg #[.slice R nr cr,.slice C nc cc],.string x] w fun e w'=>e=.returned (.tuple #[.string ((zdi L (zw s p L) rows cols x).getD ⟨#[]⟩),.bool (zdi L (zw s p L) rows cols x).isSome])∧Ext w w':=by
 obtain⟨e1,e2⟩:=hT.nr
 have hav:=zcJ hI hcl h.lt
 have hr12:=hI.r12
 rw [e1] at hr12
 have HTA:=za (fun W (hW:Ext w W)=>zbH (c:=c) (d:=d) (d':=d') (h.ext hW) (hT.ext hW) hI hcr hcc hcl)
 have HWd:=za (fun W (hW:Ext w W)=>zeh (c:=c) (d:=d) (d':=d') (h.ext hW) hx)
 have HAsk:=za (fun W (hW:Ext w W) (y:ByteArray) hy=>zcC (c:=c) (d:=d) (d':=d') (t:=y) (h.ext hW) hy)
 obtain⟨lo,hi,lo2,hi2,h1,h2⟩:=hT
 have H1:=za (fun W (hW:Ext w W)=>h1.ext hW)
 have Hin:=za (fun x hx=>hI.rin (x:=x) hx)
 have He:=za e1
 have hanl:=za (show (zfF L (zw s p L) rows cols).next.length=nr by unfold zfF;rw [List.length_map];exact e1)
 have haal:=za (show (zfF L (zw s p L) rows cols).al=(L:Int) from rfl)
 obtain⟨op,hop⟩:∃ op,Hid (zdi L (zw s p L) rows cols x=op):=⟨_,rfl⟩
 rw [hop.out]
 have Hst:=za (fun k=>show stT L (zw s p L) rows cols x k=runA (zfF L (zw s p L) rows cols) 0 ((wl x).take k) from rfl)
 have Hsp:=za (show zdi L (zw s p L) rows cols x=if (inB x L&&decide (x.size≤4000))=true∧zdT (zfF L (zw s p L) rows cols) (runA (zfF L (zw s p L) rows cols) 0 (wl x))≠zw s p L x then
  ((List.range x.size).find? fun k=>askT L (zw s p L) rows cols x k != askT L (zw s p L) rows cols x (k+1)).map fun k=>x.extract (k+1) x.size else none from rfl)
 rw [hop.out] at Hsp
 have Hak:=za (fun k=>show askT L (zw s p L) rows cols x k=zw s p L (rows.getD (stT L (zw s p L) rows cols x k) ⟨#[]⟩++x.extract k x.size) from rfl)
 generalize askT L (zw s p L) rows cols x=ask at *
 generalize stT L (zw s p L) rows cols x=st at *
 generalize zfF L (zw s p L) rows cols=aut at *
 have Hav:=za hav
 have hx0:Ext w ((w.alloc (.cells #[.bool false,.int .i64 0,.slice none 0 0,.slice none 0 0,.int .i64 s.al,.int .i64 s.st,.slice A n c,.int .i64 p.al,.slice B m d,.slice B' m' d',.int .i64 L] 111)).alloc (.cells #[.slice R nr cr,.slice C nc cc] 113)):=((Ext.refl _).alloc _).alloc _
 obtain⟨b1,b2⟩:=zM (Ext.refl ((w.alloc (.cells #[.bool false,.int .i64 0,.slice none 0 0,.slice none 0 0,.int .i64 s.al,.int .i64 s.st,.slice A n c,.int .i64 p.al,.slice B m d,.slice B' m' d',.int .i64 L] 111)).alloc (.cells #[.slice R nr cr,.slice C nc cc] 113)))
 clear h h1 h2 hI e1 e2 hav hcl
 go_enter Tryz.func102,Tryz.ntmps102
 go_upto_region 1 with fail
 generalize (w.alloc (.cells #[.bool false,.int .i64 0,.slice none 0 0,.slice none 0 0,.int .i64 s.al,.int .i64 s.st,.slice A n c,.int .i64 p.al,.slice B m d,.slice B' m' d',.int .i64 L] 111)).alloc (.cells #[.slice R nr cr,.slice C nc cc] 113)=w0 at *
 have CB:=b1.cells
 have CT:=b2.cells
 have hww:=Ext.refl w0
 go_upto_region 2 with (first
  |(go_at_call 77;refine (HTA.out _ hx0).mono ?_;rintro e w1 ⟨X,k1,d1,X',k1',d1',rfl,zgC,hx01⟩))
 rw [haal.out]
 have hat:=(zgC.ext ((Ext.refl w1).alloc (.cells #[.int .i64 (L:Nat),.slice X k1 d1,.slice X' k1' d1'] 26))).reads
 have b3:=Blk.new w1 26 #[.int .i64 (L:Nat),.slice X k1 d1,.slice X' k1' d1']
 have hx12:=(Ext.refl w1).alloc (.cells #[.int .i64 (L:Nat),.slice X k1 d1,.slice X' k1' d1'] 26)
 generalize w1.alloc (.cells #[.int .i64 (L:Nat),.slice X k1 d1,.slice X' k1' d1'] 26)=w2 at *
 have hx02:=hx01.trans hx12
 have CB2:∀ W,Ext w2 W→∀ q,W.cell? ⟨w.heap.size,q,none⟩=#[Value.bool false,.int .i64 0,.slice none 0 0,.slice none 0 0,.int .i64 s.al,.int .i64 s.st,.slice A n c,.int .i64 p.al,.slice B m d,.slice B' m' d',.int .i64 L][q]?:=fun W hW=>CB W (hx02.trans hW)
 have CT2:∀ W,Ext w2 W→∀ q,W.cell? ⟨w.heap.size+1,q,none⟩=#[Value.slice R nr cr,.slice C nc cc][q]?:=fun W hW=>CT W (hx02.trans hW)
 have CA:=b3.cells
 have HAT:=za (fun W (hW:Ext w2 W)=>hat.ext hW)
 have hww2:=Ext.refl w2
 clear zgC hat hww
 cases hok:(inB x L&&decide (x.size≤4000))
 ·have Hok:=za hok
  have hno:=za (show op=none by rw [Hsp.out,hok,if_neg (by rintro ⟨h,-⟩;cases h)])
  clear hok
  refine uR (fun X=>Ext w2 X) [] (zG.of [0,1,2,3,4,5,6,7,8,9,10,12,13,11,14,15,16]) ?_
  refine uQ ?_
  refine zb fun K hK=>?_;go_simp
  refine (HWd.out _ (hx0.trans (hx02.trans hww2.drew))).mono ?_
  rw [Hok.out]
  rintro e w3 ⟨rfl,hx3⟩
  have hx23:Ext w2 w3:=hww2.drew.trans hx3
  refine hK.out _ _ hx23 ?_
  refine pT ?_
  refine uQ ?_
  refine zh ?_
  go_wp2_with fail
  go_ret2
  exact⟨by rw [hno.out];rfl,hx0.trans (hx02.trans hx23)⟩
 ·have Hok:=za hok
  have hok2:=hok
  simp only [Bool.and_eq_true,decide_eq_true_eq] at hok2
  obtain⟨hinx,hxs⟩:=hok2
  have HAcc:=za (fun W (hW:Ext w2 W)=>zew (d:=d1) (d':=d1') (t:=x) (HAT.out W hW) Hav.out (by rw [haal.out,Int.toNat_natCast];exact hinx))
  rw [haal.out] at HAcc
  have HAx:=za (fun W (hW:Ext w2 W)=>HAsk.out W (hx0.trans (hx02.trans hW)) x hx)
  obtain⟨ac,hac⟩:∃ ac,Hid (zdT aut (runA aut 0 (wl x))=ac):=⟨_,rfl⟩
  obtain⟨fx,hfx⟩:∃ fx,Hid (zw s p L x=fx):=⟨_,rfl⟩
  rw [hac.out] at HAcc
  rw [hfx.out] at HAx
  rw [hac.out,hfx.out,hok] at Hsp
  clear hok
  by_cases heq:ac=fx
  ·subst heq
   have hno:=za (show op=none by rw [Hsp.out,if_neg (by rintro ⟨-,h⟩;exact h rfl)])
   refine uR (fun X=>Ext w2 X) [] (zG.of [0,1,2,3,4,5,6,7,8,9,10,12,13,11,14,15,16]) ?_
   refine uQ ?_
   refine zb fun K hK=>?_;go_simp
   refine (HWd.out _ (hx0.trans (hx02.trans hww2.drew))).mono ?_
   rw [Hok.out]
   rintro e w3 ⟨rfl,hx3⟩
   have hx23:Ext w2 w3:=hww2.drew.trans hx3
   refine hK.out _ _ hx23 ?_
   refine pT ?_
   refine uQ ?_
   refine zb fun K hK=>?_;go_simp
   refine (HAcc.out _ hx23).mono ?_
   rintro e w4 ⟨rfl,hx4⟩
   have hx24:=hx23.trans hx4
   refine hK.out _ _ hx24 ?_
   refine pT ?_
   refine uQ ?_
   refine zb fun K hK=>?_;go_simp
   refine (HAx.out _ hx24).mono ?_
   rintro e w5 ⟨rfl,hx5⟩
   have hx25:=hx24.trans hx5
   refine hK.out _ _ hx25 ?_
   refine pT ?_
   refine uQ ?_
   refine zh ?_
   go_wp2_with fail
   go_ret2
   exact⟨by rw [hno.out];rfl,hx0.trans (hx02.trans hx25)⟩
  ·have hne:(ac==fx)=false:=by cases ac<;>cases fx<;>simp_all
   have hsp:=za (show op=((List.range x.size).find? fun k=>ask k != ask (k+1)).map fun k=>x.extract (k+1) x.size by rw [Hsp.out,if_pos ⟨rfl,heq⟩])
   clear heq
   refine uR (fun X=>Ext w2 X) [] (zG.of [0,1,2,3,4,5,6,7,8,9,10,12,13,11,14,15,16]) ?_
   refine uQ ?_
   refine zb fun K hK=>?_;go_simp
   refine (HWd.out _ (hx0.trans (hx02.trans hww2.drew))).mono ?_
   rw [Hok.out]
   rintro e w3 ⟨rfl,hx3⟩
   have hx23:Ext w2 w3:=hww2.drew.trans hx3
   refine hK.out _ _ hx23 ?_
   refine pT ?_
   refine uQ ?_
   refine zb fun K hK=>?_;go_simp
   refine (HAcc.out _ hx23).mono ?_
   rintro e w4 ⟨rfl,hx4⟩
   have hx24:=hx23.trans hx4
   refine hK.out _ _ hx24 ?_
   refine pT ?_
   refine uQ ?_
   refine zb fun K hK=>?_;go_simp
   refine (HAx.out _ hx24).mono ?_
   rintro e w5 ⟨rfl,hx5⟩
   have hx25:=hx24.trans hx5
   refine hK.out _ _ hx25 ?_
   refine pT ?_
   refine uQ ?_
   refine zh ?_
   have hw0:=zbc hinx
   have Hb:=za (fun k hk=>zbi hw0 (k:=k) hk)
   have Hlt:=za (wl_lt hw0)
   have hnr1:1≤nr:=by have:=(zx Hav.out).2.1;rw [hanl.out] at this;exact this.1
   clear hinx hw0
   go_wp2_with fail
   go_loopw [10,11] (fun qv iv wr=>∃ (k q:Nat),iv=.int .i64 k∧k≤x.size∧qv=.int .i64 q∧q<nr∧Hid (q=st k)∧Hid (∀ j,j<k→(ask j != ask (j+1))=false)∧Ext w2 wr) (fun _ iv _=>x.size - (intOf iv).toNat)
   case atStart=>exact⟨0,0,rfl,Nat.zero_le _,rfl,hnr1,za (by rw [Hst.out];rfl),za (fun j h=>by omega),hx25⟩
   case round =>
    clear hx25 hx5 hx24 hx4 hx23 hx3
    obtain⟨k,q,rfl,hk,rfl,hq,hqs,hdone,hxr⟩:=hrel
    by_cases hlt:k<x.size
    ·have hlt':(k:Int)<(x.size:Int):=by omega
     obtain⟨l,hl⟩:∃ l:Nat,Hid ((x[k].toNat:Int) - 97=l):=⟨x[k].toNat - 97,by unfold Hid;have:=Hb.out k hlt;omega⟩
     have hl6:l<6:=by have:=hl.out;have:=Hb.out k hlt;omega
     have hq2s:=za (show aGo aut q l=st (k+1) by
      rw [Hst.out,List.take_add_one,zeo hlt,Option.toList_some,runA_snoc,← Hst.out,← hqs.out]
      congr 1
      have:=hl.out;have:=Hb.out k hlt;omega)
     have hq2:aGo aut q l<nr:=by rw [← hanl.out];exact zfD Hav.out (by rw [hanl.out];exact hq) hl6
     have HGo:=za (fun W (hW:Ext w2 W)=>zbX (d:=d1) (d':=d1') (HAT.out W hW) Hav.out (by rw [hanl.out];exact hq) hl6)
     rw [haal.out] at HGo
     generalize aGo aut q l=q2 at *
     have CAr:∀ W,Ext wr W→∀ j,W.cell? ⟨w1.heap.size,j,none⟩=#[Value.int .i64 (L:Nat),.slice X k1 d1,.slice X' k1' d1'][j]?:=fun W hW=>CA W (hxr.trans hW)
     have CBr:∀ W,Ext wr W→∀ j,W.cell? ⟨w.heap.size,j,none⟩=#[Value.bool false,.int .i64 0,.slice none 0 0,.slice none 0 0,.int .i64 s.al,.int .i64 s.st,.slice A n c,.int .i64 p.al,.slice B m d,.slice B' m' d',.int .i64 L][j]?:=fun W hW=>CB2 W (hxr.trans hW)
     have CTr:∀ W,Ext wr W→∀ j,W.cell? ⟨w.heap.size+1,j,none⟩=#[Value.slice R nr cr,.slice C nc cc][j]?:=fun W hW=>CT2 W (hxr.trans hW)
     have hww:=Ext.refl wr
     go_wp2_with fail
     go_region_held3 (fun W=>Ext wr W) (first|assumption|(refine Ext.drew ?_;assumption)|(refine Ext.trans ?_ (by assumption);assumption)|(refine Ext.trans ?_ (by assumption);refine Ext.drew ?_;assumption)) (first
      |(go_at_call 49;refine (zaF x k hlt _).mono ?_;rw [hl.out];rintro e w6 ⟨rfl,rfl⟩)
      |(go_at_call 125;refine (HGo.out _ (hxr.trans ?_)).mono ?_;(first|assumption|(refine Ext.drew ?_;assumption));rintro e w7 ⟨rfl,hx7⟩))
     have hx67:Ext wr w7:=by assumption
     obtain⟨ad,r1,rfl,_,_,hr1,cr1⟩:=(H1.out w7 (hx0.trans (hx02.trans (hxr.trans hx67)))).str hq
     obtain⟨ad2,r2,e2,_,_,hr2,cr2⟩:=(H1.out w7 (hx0.trans (hx02.trans (hxr.trans hx67)))).str hq2
     obtain rfl:=Option.some.inj e2
     have hrs1:=(Hin.out r1 (List.mem_of_getElem? hr1.out)).2
     have hrs2:=(Hin.out r2 (List.mem_of_getElem? hr2.out)).2
     have CR1:∀ W,Ext w7 W→W.cell? (ad.add q)=some (.string r1):=fun W hW=>hW.cell_some cr1
     have CR2:∀ W,Ext w7 W→W.cell? (ad.add q2)=some (.string r2):=fun W hW=>hW.cell_some cr2
     have CB7:∀ W,Ext w7 W→∀ j,W.cell? ⟨w.heap.size,j,none⟩=#[Value.bool false,.int .i64 0,.slice none 0 0,.slice none 0 0,.int .i64 s.al,.int .i64 s.st,.slice A n c,.int .i64 p.al,.slice B m d,.slice B' m' d',.int .i64 L][j]?:=fun W hW=>CBr W (hx67.trans hW)
     have CT7:∀ W,Ext w7 W→∀ j,W.cell? ⟨w.heap.size+1,j,none⟩=#[Value.slice (some ad) nr cr,.slice C nc cc][j]?:=fun W hW=>CTr W (hx67.trans hW)
     obtain⟨y1,hy1⟩:∃ y1,x.extract k x.size=y1:=⟨_,rfl⟩
     obtain⟨y2,hy2⟩:∃ y2,x.extract (k+1) x.size=y2:=⟨_,rfl⟩
     have hys1:y1.size≤4000:=by rw [← hy1,ByteArray.size_extract];omega
     have hys2:y2.size≤4000:=by rw [← hy2,ByteArray.size_extract];omega
     have hsz1:¬ 9223372036854775807<r1.size+y1.size:=by omega
     have hsz2:¬ 9223372036854775807<r2.size+y2.size:=by omega
     obtain⟨z1,hz1⟩:∃ z1,r1++y1=z1:=⟨_,rfl⟩
     obtain⟨z2,hz2⟩:∃ z2,r2++y2=z2:=⟨_,rfl⟩
     have HA1:=za (fun W (hW:Ext w7 W)=>HAsk.out W (hx0.trans (hx02.trans (hxr.trans (hx67.trans hW)))) z1 (by rw [← hz1,ByteArray.size_append];omega))
     have HA2:=za (fun W (hW:Ext w7 W)=>HAsk.out W (hx0.trans (hx02.trans (hxr.trans (hx67.trans hW)))) z2 (by rw [← hz2,ByteArray.size_append];omega))
     have ha1:=za (show ask k=zw s p L z1 by rw [Hak.out,← hqs.out,List.getD_eq_getElem?_getD,hr1.out,Option.getD_some,hy1,hz1])
     have ha2:=za (show ask (k+1)=zw s p L z2 by rw [Hak.out,← hq2s.out,List.getD_eq_getElem?_getD,hr2.out,Option.getD_some,hy2,hz2])
     obtain⟨a1,hb1⟩:∃ a1,Hid (zw s p L z1=a1):=⟨_,rfl⟩
     obtain⟨a2,hb2⟩:∃ a2,Hid (zw s p L z2=a2):=⟨_,rfl⟩
     rw [hb1.out] at HA1 ha1
     rw [hb2.out] at HA2 ha2
     have Hy2:=za hy2
     have hww7:=Ext.refl w7
     have hwr:=IntWalk.i64_in ((k:Int)+1) (by omega)
     have hq':(q:Int)<(nr:Int):=by omega
     have hq2':(q2:Int)<(nr:Int):=by omega
     have hk1:(k:Int)+1≤(x.size:Int):=by omega
     have hkle:(k:Int)≤(x.size:Int):=by omega
     have hk01:(0:Int)≤(k:Int)+1:=by omega
     clear cr1 cr2 hr1 hr2 e2 hb1 hb2
     go_wp2_with fail
     refine uR (fun X=>Ext w7 X) [] (zG.of [0,1,2,3,4,5,6,7,8,9,11,12,13,14,15,16,17,18,19,20,21,10,22,23]) ?_
     refine uQ ?_
     refine zb fun K hK=>?_;go_simp
     refine (HA1.out _ hww7.drew).mono ?_
     rintro e w8 ⟨rfl,hx8⟩
     have hx78:Ext w7 w8:=hww7.drew.trans hx8
     refine hK.out _ _ hx78 ?_
     refine pT ?_
     refine uQ ?_
     refine zb fun K hK=>?_;go_simp
     refine (HA2.out _ hx78).mono ?_
     rintro e w9 ⟨rfl,hx9⟩
     have hx79:=hx78.trans hx9
     refine hK.out _ _ hx79 ?_
     refine pT ?_
     refine uQ ?_
     refine zh ?_
     have hxr9:=hxr.trans (hx67.trans hx79)
     clear hz1 hz2 hy1 hwr
     by_cases hab:a1=a2
     ·subst hab
      have hna:=za (show (ask k != ask (k+1))=false by rw [ha1.out,ha2.out];simp)
      cases a1
      all_goals
       go_wp2_with fail
       go_roundw
       case rel=>exact⟨k+1,q2,by go_num,by omega,rfl,hq2,hq2s,za (fun j hj=>by
        rcases Nat.lt_or_eq_of_le (Nat.le_of_lt_succ hj) with h1|rfl
        ·exact hdone.out j h1
        ·exact hna.out),hxr9⟩
       case measure=>simp [intOf];omega
     ·have hsome:=za (show op=some y2 by
       rw [hsp.out,find_range hlt (fun j hj=>hdone.out j hj) (by rw [ha1.out,ha2.out];simpa using hab),Option.map_some,Hy2.out])
      cases a1<;>cases a2
      ·exact absurd rfl hab
      ·clear hab
       go_wp2_with fail
       go_ret2
       exact⟨by rw [hsome.out];rfl,hx0.trans (hx02.trans hxr9)⟩
      ·clear hab
       go_wp2_with fail
       go_ret2
       exact⟨by rw [hsome.out];rfl,hx0.trans (hx02.trans hxr9)⟩
      ·exact absurd rfl hab
    ·have hge:(x.size:Int)≤(k:Int):=by omega
     have hno:=za (show op=none by
      rw [hsp.out,Option.map_eq_none_iff,List.find?_eq_none]
      intro j hj
      rw [List.mem_range] at hj
      rw [hdone.out j (by omega)]
      decide)
     go_wp2_with fail
     go_ret2
     exact⟨by rw [hno.out];rfl,hx0.trans (hx02.trans hxr)⟩
end
theorem zV (a b:List ByteArray):zL (a++b)=zL a++zL b:=by simp [zL]
noncomputable def zfp (L:Nat) (cols:List ByteArray) (x:ByteArray):Bool:=(inB x L&&decide (x.size≤4000))&&(!zeU cols x&&decide (cols.length≠20))
theorem rowM_snoc (f:ByteArray→Bool) (cols:List ByteArray) (x y:ByteArray):zcu f (cols++[x]) y=zcu f cols y++[f (y++x)]:=by simp [zcu]
theorem zct.addC {L:Nat} {f:ByteArray→Bool} {rows cols:List ByteArray} {x:ByteArray}(h:zct L f rows cols)(ha:zfp L cols x=true):zct L f rows (cols++[x]):=by
 unfold zfp at ha
 simp only [Bool.and_eq_true,decide_eq_true_eq,Bool.not_eq_true'] at ha
 obtain⟨⟨h1,h2⟩,h3,h4⟩:=ha
 rw [zbB] at h3
 refine⟨h.r1,h.r12,by simp,by have:=h.c20;simp;omega,h.r0,by rw [List.getElem?_append_left (by have:=h.c1;omega)];exact h.c0,h.rw_,fun i y hi hy=>?_,?_⟩
 ·rcases Nat.lt_or_ge i cols.length with h5|h5
  ·rw [List.getElem?_append_left h5] at hy
   obtain⟨h6,h7,h8⟩:=h.cw i y hi hy
   exact⟨h6,h7,by rw [List.take_append_of_le_length (by omega)];exact h8⟩
  ·rw [List.getElem?_append_right h5] at hy
   have hi2:i=cols.length:=by
    rcases Nat.eq_or_lt_of_le h5 with h6|h6
    ·exact h6.symm
    ·rw [List.getElem?_eq_none (by simp;omega)] at hy;cases hy
   subst hi2
   simp at hy
   subst hy
   exact⟨h1,h2,by rw [List.take_append_of_le_length (Nat.le_refl _),List.take_length];exact h3⟩
 ·have h5:=h.nd
  rw [List.nodup_iff_pairwise_ne,List.pairwise_map] at h5 ⊢
  refine h5.imp fun hne e=>hne ?_
  rw [rowM_snoc,rowM_snoc] at e
  exact (List.append_inj' e rfl).1
def AddV (w:World) (Z:Nat) (rows cols:List ByteArray) (nr nc:Nat) (v:Value) (W:World):Prop:=
 ∃ (R:Option Addr) (cr:Nat) (C:Option Addr) (cc:Nat),v=.bool true∧Blk W Z 113 #[.slice R nr cr,.slice C nc cc] ∧
  W.ownsRow w.heap.size 9 1 (.slice R nr cr) nr (zL rows)∧W.ownsRow w.heap.size 9 1 (.slice C nc cc) nc (zL cols)∧Ext w W
theorem zaz {w w1 W:World} {rows cols:List ByteArray} {nr nc g cr cc:Nat} {R C:Option Addr} {u v:Value}(ha:W.ownsRow w1.heap.size 9 1 (.slice R nr cr) nr (zL rows))(hc:W.ownsRow w1.heap.size 9 1 (.slice C nc cc) nc (zL cols))(hb:Blk W g 113 #[u,v])(hx:Ext w1 W)(hw:Ext w w1)(hg:w.heap.size≤g) :
  AddV w g rows cols nr nc (.bool true) ((W.setCell ⟨g,0,none⟩ (.slice R nr cr)).setCell ⟨g,1,none⟩ (.slice C nc cc)):=by
 have hf:Frm (fun k=>k=g) W ((W.setCell ⟨g,0,none⟩ (.slice R nr cr)).setCell ⟨g,1,none⟩ (.slice C nc cc)):=(Frm.setCell W g 0 _).trans (Frm.setCell _ g 1 _)
 exact⟨R,cr,C,cc,rfl,by simpa using (hb.set_ 0 _).set_ 1 _,zi (zd ha hf (fun b hv e=>zm ha hb (by decide) hv e)) hw.size,zi (zd hc hf (fun b hv e=>zm hc hb (by decide) hv e)) hw.size,((hw.trans hx).setCell (p:=⟨g,0,none⟩) hg _).setCell (p:=⟨g,1,none⟩) hg _⟩
section
variable {w W:World} {n c m d m' d' L:Nat} {A B B':Option Addr} {s:Sys} {p:Aut} {nr nc cr cc:Nat} {R C:Option Addr} {rows cols:List ByteArray}
theorem yJ08d1 {P:Prop}(h:P:=by
 refine zb (fun K hK=>?_)
 refine zq _ _ _ _ rfl w1.heap.size 9 _ 1 16 Tryz.underlying55 zj rfl (by decide) (.slice Ac9 nc cc9) nc (zL cols) rfl zgK _ _ (some ⟨bo9,0,none⟩) 1 1 (zL [x]) rfl (Reads.of_own owno9) (zn _) (by unfold maxLen;omega) (by omega) hx35.size ?_
 intro v9 v36 ownc8 hg hat
 rw [← zV] at ownc8
 obtain⟨Ac8,cc8,rfl⟩:=ze ownc8
 have hx36:=hx35.grown hg (fun k hk=>(zgK.lt k hk).1)
 have zgJ:=zd zgJ (Frm.of_grown hg) (fun k hk hS=>hdis.out k hk hS)
 refine hK.out _ _ hx36 ?_
 refine pT ?_
 have zgK:=ownc8
 refine uQ ?_
 have bz:=b3.ext (hx01.trans hx36)
 have c6:=Blk.cell bz
 have f6:=Blk.frozen bz
 refine zg fun K hK=>?_
 go_simp
 refine hK.out _ _ ?_
 refine pT ?_
 refine uQ ?_
 refine zh ?_
 go_wp2_with fail
 go_meet
 exact zaz zgJ zgK bz hx36 hx1 (by omega)
 ):P:=h
theorem yJ08c1 {P:Prop}(h:P:=by
 refine zb (fun K hK=>?_)
 refine zq _ _ _ _ rfl w1.heap.size 9 _ 1 16 Tryz.underlying55 zj rfl (by decide) (.slice (some ⟨bc9,0,none⟩) 0 0) 0 [] rfl zgK _ _ C nc cc (zL cols) rfl (HC1.out v34 hx34) (zn _) (by unfold maxLen;omega) (by omega) hx34.size ?_
 intro v9 v35 ownc8 hg hat
 rw [Nat.zero_add,List.nil_append] at ownc8
 obtain⟨Ac9,cc9,rfl⟩:=ze ownc8
 have hx35:=hx34.grown hg (fun k hk=>(zgK.lt k hk).1)
 have hsz:=hg.size
 have hbs:Hid (v34.heap.size=v34.heap.size):=za rfl
 have zgJ:=zd zgJ (Frm.of_grown hg) (fun k hk hS=>hrn_a_bc9.out k hk (by simpa [Value.ownBlock] using hS.symm))
 have owno9:=zd owno9 (Frm.of_grown hg) (fun k hk hS=>by simp [Value.ownBlock] at hk hS;exact hne_bc9_bo9.out (hS.trans hk.symm))
 have hdis0:Hid (∀ k,(Value.slice Ac9 nc cc9).ownBlock=some k→(Value.slice Aa9 nr ca9).ownBlock≠some k):=za (fun k hk hS=>by rcases hat with h1|h1;(rw [h1] at hk;simp [Value.ownBlock] at hk;exact hrn_a_bc9.out k hS hk.symm);(rw [h1] at hk;have:=Option.some.inj hk;have:=hrl_a.out k hS;omega))
 have hdis:Hid (∀ k,(Value.slice Aa9 nr ca9).ownBlock=some k→(Value.slice Ac9 nc cc9).ownBlock≠some k):=za (fun k hk hS=>hdis0.out k hS hk)
 generalize hbe:v34.heap.size=nc9 at *
 have hne_ba9_nc9:Hid (ba9≠nc9):=za (by have:=zgG.out;omega)
 have hne_bc9_nc9:Hid (bc9≠nc9):=za (by have:=zgH.out;omega)
 have hne_bo9_nc9:Hid (bo9≠nc9):=za (by have:=zgI.out;omega)
 have zgG:Hid (ba9<v35.heap.size):=za (by have:=zgG.out;omega)
 have zgH:Hid (bc9<v35.heap.size):=za (by have:=zgH.out;omega)
 have zgI:Hid (bo9<v35.heap.size):=za (by have:=zgI.out;omega)
 have hrl_a:Hid (∀ k,(Value.slice Aa9 nr ca9).ownBlock=some k→k<v35.heap.size):=za (fun k hk=>(zgJ.lt k hk).2)
 have hrn_c_bo9:Hid (∀ k,(Value.slice Ac9 nc cc9).ownBlock=some k→k≠bo9):=za (fun k hk=>by rcases hat with h1|h1;(rw [h1] at hk;simp [Value.ownBlock] at hk;rw [← hk];exact hne_bc9_bo9.out);(rw [h1] at hk;rw [← Option.some.inj hk];exact (Ne.symm hne_bo9_nc9.out)))
 have hrl_c:Hid (∀ k,(Value.slice Ac9 nc cc9).ownBlock=some k→k<v35.heap.size):=za (fun k hk=>(ownc8.lt k hk).2)
 clear hbs hsz hbe
 refine hK.out _ _ hx35 ?_
 refine pT ?_
 have zgK:=ownc8
 exact yJ08d1
 ):P:=h
theorem yJ08b1 {P:Prop}(h:P:=by
 clear hbs zgE hbe
 refine zb (fun K hK=>?_)
 refine zq _ _ _ _ rfl w1.heap.size 9 _ 1 16 Tryz.underlying55 zj rfl (by decide) (.slice (some ⟨ba9,0,none⟩) 0 0) 0 [] rfl zgJ _ _ R nr cr (zL rows) rfl (HR1.out v33 hx33) (zn _) (by unfold maxLen;omega) (by omega) hx33.size ?_
 intro v9 v34 owna8 hg hat
 rw [Nat.zero_add,List.nil_append] at owna8
 obtain⟨Aa9,ca9,rfl⟩:=ze owna8
 have hx34:=hx33.grown hg (fun k hk=>(zgJ.lt k hk).1)
 have hsz:=hg.size
 have hbs:Hid (v33.heap.size=v33.heap.size):=za rfl
 have zgK:=zd zgK (Frm.of_grown hg) (fun k hk hS=>by simp [Value.ownBlock] at hk hS;exact zgP.out (hS.trans hk.symm))
 have owno9:=zd owno9 (Frm.of_grown hg) (fun k hk hS=>by simp [Value.ownBlock] at hk hS;exact hne_ba9_bo9.out (hS.trans hk.symm))
 generalize hbe:v33.heap.size=na9 at *
 have hne_ba9_na9:Hid (ba9≠na9):=za (by have:=zgG.out;omega)
 have hne_bc9_na9:Hid (bc9≠na9):=za (by have:=zgH.out;omega)
 have hne_bo9_na9:Hid (bo9≠na9):=za (by have:=zgI.out;omega)
 have zgG:Hid (ba9<v34.heap.size):=za (by have:=zgG.out;omega)
 have zgH:Hid (bc9<v34.heap.size):=za (by have:=zgH.out;omega)
 have zgI:Hid (bo9<v34.heap.size):=za (by have:=zgI.out;omega)
 have hrn_a_bc9:Hid (∀ k,(Value.slice Aa9 nr ca9).ownBlock=some k→k≠bc9):=za (fun k hk=>by rcases hat with h1|h1;(rw [h1] at hk;simp [Value.ownBlock] at hk;rw [← hk];exact zgP.out);(rw [h1] at hk;rw [← Option.some.inj hk];exact (Ne.symm hne_bc9_na9.out)))
 have hrn_a_bo9:Hid (∀ k,(Value.slice Aa9 nr ca9).ownBlock=some k→k≠bo9):=za (fun k hk=>by rcases hat with h1|h1;(rw [h1] at hk;simp [Value.ownBlock] at hk;rw [← hk];exact hne_ba9_bo9.out);(rw [h1] at hk;rw [← Option.some.inj hk];exact (Ne.symm hne_bo9_na9.out)))
 have hrl_a:Hid (∀ k,(Value.slice Aa9 nr ca9).ownBlock=some k→k<v34.heap.size):=za (fun k hk=>(owna8.lt k hk).2)
 clear hbs hsz hbe
 refine hK.out _ _ hx34 ?_
 refine pT ?_
 have zgJ:=owna8
 exact yJ08c1
 ):P:=h
theorem yJ08b2 {P:Prop}(h:P:=by
 skip
 refine zq _ _ _ _ rfl w1.heap.size 9 _ 1 16 Tryz.underlying55 zj rfl (by decide) (.slice (some ⟨bc9,0,none⟩) 0 0) 0 [] rfl zgK _ _ C nc cc (zL cols) rfl (HC1.out v33 hx33) (zn _) (by unfold maxLen;omega) (by omega) hx33.size ?_
 intro v9 v34 ownc8 hg hat
 rw [Nat.zero_add,List.nil_append] at ownc8
 obtain⟨Ac9,cc9,rfl⟩:=ze ownc8
 have hx34:=hx33.grown hg (fun k hk=>(zgK.lt k hk).1)
 have hsz:=hg.size
 have hbs:Hid (v33.heap.size=v33.heap.size):=za rfl
 have zgJ:=zd zgJ (Frm.of_grown hg) (fun k hk hS=>hrn_a_bc9.out k hk (by simpa [Value.ownBlock] using hS.symm))
 have hdis0:Hid (∀ k,(Value.slice Ac9 nc cc9).ownBlock=some k→(Value.slice Aa9 nr ca9).ownBlock≠some k):=za (fun k hk hS=>by rcases hat with h1|h1;(rw [h1] at hk;simp [Value.ownBlock] at hk;exact hrn_a_bc9.out k hS hk.symm);(rw [h1] at hk;have:=Option.some.inj hk;have:=hrl_a.out k hS;omega))
 have hdis:Hid (∀ k,(Value.slice Aa9 nr ca9).ownBlock=some k→(Value.slice Ac9 nc cc9).ownBlock≠some k):=za (fun k hk hS=>hdis0.out k hS hk)
 generalize hbe:v33.heap.size=nc9 at *
 have hne_ba9_nc9:Hid (ba9≠nc9):=za (by have:=zgG.out;omega)
 have hne_bc9_nc9:Hid (bc9≠nc9):=za (by have:=zgH.out;omega)
 have zgG:Hid (ba9<v34.heap.size):=za (by have:=zgG.out;omega)
 have zgH:Hid (bc9<v34.heap.size):=za (by have:=zgH.out;omega)
 have hrl_a:Hid (∀ k,(Value.slice Aa9 nr ca9).ownBlock=some k→k<v34.heap.size):=za (fun k hk=>(zgJ.lt k hk).2)
 have hrl_c:Hid (∀ k,(Value.slice Ac9 nc cc9).ownBlock=some k→k<v34.heap.size):=za (fun k hk=>(ownc8.lt k hk).2)
 clear hbs hsz hbe
 refine hK.out _ _ hx34 ?_
 refine pT ?_
 have zgK:=ownc8
 refine zb fun K hK=>?_;go_simp
 have hx35:=hx34.alloc (.cells #[.string x] 9)
 have owno9:=zi (World.ownsRow_lit v34 (e:=9) (size:=1) #[.string x] 1 (Nat.le_refl _) (by unfold maxLen;omega) rfl) hx34.size
 have zgE:=(Ext.refl v34).alloc (.cells #[.string x] 9)
 refine hK.out _ _ hx35 ?_
 refine pT ?_
 have zgJ:=zf zgJ zgE
 have zgK:=zf zgK zgE
 have hbs:v34.heap.size<(v34.alloc (.cells #[.string x] 9)).heap.size:=by simp
 generalize hbe:v34.heap.size=bo9 at *
 generalize v34.alloc (.cells #[.string x] 9)=v35 at *
 have hne_ba9_bo9:Hid (ba9≠bo9):=za (by have:=zgG.out;omega)
 have hne_bc9_bo9:Hid (bc9≠bo9):=za (by have:=zgH.out;omega)
 have zgG:Hid (ba9<v35.heap.size):=za (by have:=zgG.out;omega)
 have zgH:Hid (bc9<v35.heap.size):=za (by have:=zgH.out;omega)
 have hrl_a:Hid (∀ k,(Value.slice Aa9 nr ca9).ownBlock=some k→k<v35.heap.size):=za (fun k hk=>(zgJ.lt k hk).2)
 have hrl_c:Hid (∀ k,(Value.slice Ac9 nc cc9).ownBlock=some k→k<v35.heap.size):=za (fun k hk=>(zgK.lt k hk).2)
 have zgI:Hid (bo9<v35.heap.size):=za hbs
 clear hbs zgE hbe
 exact yJ08d1
 ):P:=h
theorem yJ08b3 {P:Prop}(h:P:=by
 clear hbs zgE hbe
 exact yJ08c1
 ):P:=h
theorem yJ08a1 {P:Prop}(h:P:=by
 clear hbs zgE hbe
 refine zA (fun K hK=>?_) (fun K hK=>?_)
 ·skip
  refine zq _ _ _ _ rfl w1.heap.size 9 _ 1 16 Tryz.underlying55 zj rfl (by decide) (.slice (some ⟨ba9,0,none⟩) 0 0) 0 [] rfl zgJ _ _ R nr cr (zL rows) rfl (HR1.out v32 hx32) (zn _) (by unfold maxLen;omega) (by omega) hx32.size ?_
  intro v9 v33 owna8 hg hat
  rw [Nat.zero_add,List.nil_append] at owna8
  obtain⟨Aa9,ca9,rfl⟩:=ze owna8
  have hx33:=hx32.grown hg (fun k hk=>(zgJ.lt k hk).1)
  have hsz:=hg.size
  have hbs:Hid (v32.heap.size=v32.heap.size):=za rfl
  have zgK:=zd zgK (Frm.of_grown hg) (fun k hk hS=>by simp [Value.ownBlock] at hk hS;exact zgP.out (hS.trans hk.symm))
  generalize hbe:v32.heap.size=na9 at *
  have hne_ba9_na9:Hid (ba9≠na9):=za (by have:=zgG.out;omega)
  have hne_bc9_na9:Hid (bc9≠na9):=za (by have:=zgH.out;omega)
  have zgG:Hid (ba9<v33.heap.size):=za (by have:=zgG.out;omega)
  have zgH:Hid (bc9<v33.heap.size):=za (by have:=zgH.out;omega)
  have hrn_a_bc9:Hid (∀ k,(Value.slice Aa9 nr ca9).ownBlock=some k→k≠bc9):=za (fun k hk=>by rcases hat with h1|h1;(rw [h1] at hk;simp [Value.ownBlock] at hk;rw [← hk];exact zgP.out);(rw [h1] at hk;rw [← Option.some.inj hk];exact (Ne.symm hne_bc9_na9.out)))
  have hrl_a:Hid (∀ k,(Value.slice Aa9 nr ca9).ownBlock=some k→k<v33.heap.size):=za (fun k hk=>(owna8.lt k hk).2)
  clear hbs hsz hbe
  refine hK.out _ _ hx33 ?_
  refine pT ?_
  have zgJ:=owna8
  refine zA (fun K hK=>?_) (fun K hK=>?_)
  ·exact yJ08b2
  ·go_simp
   have hx34:=hx33.alloc (.cells #[.string x] 9)
   have owno9:=zi (World.ownsRow_lit v33 (e:=9) (size:=1) #[.string x] 1 (Nat.le_refl _) (by unfold maxLen;omega) rfl) hx33.size
   have zgE:=(Ext.refl v33).alloc (.cells #[.string x] 9)
   refine hK.out _ _ hx34 ?_
   refine pT ?_
   have zgJ:=zf zgJ zgE
   have zgK:=zf zgK zgE
   have hbs:v33.heap.size<(v33.alloc (.cells #[.string x] 9)).heap.size:=by simp
   generalize hbe:v33.heap.size=bo9 at *
   generalize v33.alloc (.cells #[.string x] 9)=v34 at *
   have hne_ba9_bo9:Hid (ba9≠bo9):=za (by have:=zgG.out;omega)
   have hne_bc9_bo9:Hid (bc9≠bo9):=za (by have:=zgH.out;omega)
   have zgG:Hid (ba9<v34.heap.size):=za (by have:=zgG.out;omega)
   have zgH:Hid (bc9<v34.heap.size):=za (by have:=zgH.out;omega)
   have hrl_a:Hid (∀ k,(Value.slice Aa9 nr ca9).ownBlock=some k→k<v34.heap.size):=za (fun k hk=>(zgJ.lt k hk).2)
   have zgI:Hid (bo9<v34.heap.size):=za hbs
   exact yJ08b3
 ·go_simp
  have hx33:=hx32.alloc (.cells #[.string x] 9)
  have owno9:=zi (World.ownsRow_lit v32 (e:=9) (size:=1) #[.string x] 1 (Nat.le_refl _) (by unfold maxLen;omega) rfl) hx32.size
  have zgE:=(Ext.refl v32).alloc (.cells #[.string x] 9)
  refine hK.out _ _ hx33 ?_
  refine pT ?_
  have zgJ:=zf zgJ zgE
  have zgK:=zf zgK zgE
  have hbs:v32.heap.size<(v32.alloc (.cells #[.string x] 9)).heap.size:=by simp
  generalize hbe:v32.heap.size=bo9 at *
  generalize v32.alloc (.cells #[.string x] 9)=v33 at *
  have hne_ba9_bo9:Hid (ba9≠bo9):=za (by have:=zgG.out;omega)
  have hne_bc9_bo9:Hid (bc9≠bo9):=za (by have:=zgH.out;omega)
  have zgG:Hid (ba9<v33.heap.size):=za (by have:=zgG.out;omega)
  have zgH:Hid (bc9<v33.heap.size):=za (by have:=zgH.out;omega)
  have zgI:Hid (bo9<v33.heap.size):=za hbs
  exact yJ08b1
 ):P:=h
theorem yJ08a2 {P:Prop}(h:P:=by
 clear hbs zgE hbe
 refine zA (fun K hK=>?_) (fun K hK=>?_)
 ·skip
  refine zq _ _ _ _ rfl w1.heap.size 9 _ 1 16 Tryz.underlying55 zj rfl (by decide) (.slice (some ⟨ba9,0,none⟩) 0 0) 0 [] rfl zgJ _ _ R nr cr (zL rows) rfl (HR1.out v32 hx32) (zn _) (by unfold maxLen;omega) (by omega) hx32.size ?_
  intro v9 v33 owna8 hg hat
  rw [Nat.zero_add,List.nil_append] at owna8
  obtain⟨Aa9,ca9,rfl⟩:=ze owna8
  have hx33:=hx32.grown hg (fun k hk=>(zgJ.lt k hk).1)
  have hsz:=hg.size
  have hbs:Hid (v32.heap.size=v32.heap.size):=za rfl
  have owno9:=zd owno9 (Frm.of_grown hg) (fun k hk hS=>by simp [Value.ownBlock] at hk hS;exact hne_ba9_bo9.out (hS.trans hk.symm))
  generalize hbe:v32.heap.size=na9 at *
  have hne_ba9_na9:Hid (ba9≠na9):=za (by have:=zgG.out;omega)
  have hne_bo9_na9:Hid (bo9≠na9):=za (by have:=zgI.out;omega)
  have zgG:Hid (ba9<v33.heap.size):=za (by have:=zgG.out;omega)
  have zgI:Hid (bo9<v33.heap.size):=za (by have:=zgI.out;omega)
  have hrn_a_bo9:Hid (∀ k,(Value.slice Aa9 nr ca9).ownBlock=some k→k≠bo9):=za (fun k hk=>by rcases hat with h1|h1;(rw [h1] at hk;simp [Value.ownBlock] at hk;rw [← hk];exact hne_ba9_bo9.out);(rw [h1] at hk;rw [← Option.some.inj hk];exact (Ne.symm hne_bo9_na9.out)))
  have hrl_a:Hid (∀ k,(Value.slice Aa9 nr ca9).ownBlock=some k→k<v33.heap.size):=za (fun k hk=>(owna8.lt k hk).2)
  clear hbs hsz hbe
  refine hK.out _ _ hx33 ?_
  refine pT ?_
  have zgJ:=owna8
  refine zb fun K hK=>?_;go_simp
  have hx34:=hx33.alloc (.cells #[] 9)
  have zgK:=zi (World.ownsRow_lit v33 (e:=9) (size:=1) #[] 0 (Nat.le_refl _) (by unfold maxLen;omega) rfl) hx33.size
  have zgE:=(Ext.refl v33).alloc (.cells #[] 9)
  refine hK.out _ _ hx34 ?_
  refine pT ?_
  have zgJ:=zf zgJ zgE
  have owno9:=zf owno9 zgE
  have hbs:v33.heap.size<(v33.alloc (.cells #[] 9)).heap.size:=by simp
  generalize hbe:v33.heap.size=bc9 at *
  generalize v33.alloc (.cells #[] 9)=v34 at *
  have zgP:Hid (ba9≠bc9):=za (by have:=zgG.out;omega)
  have hne_bc9_bo9:Hid (bc9≠bo9):=za (by have:=zgI.out;omega)
  have hrn_a_bc9:Hid (∀ k,(Value.slice Aa9 nr ca9).ownBlock=some k→k≠bc9):=za (fun k hk=>by have:=hrl_a.out k hk;omega)
  have zgG:Hid (ba9<v34.heap.size):=za (by have:=zgG.out;omega)
  have zgI:Hid (bo9<v34.heap.size):=za (by have:=zgI.out;omega)
  have hrl_a:Hid (∀ k,(Value.slice Aa9 nr ca9).ownBlock=some k→k<v34.heap.size):=za (fun k hk=>(zgJ.lt k hk).2)
  have zgH:Hid (bc9<v34.heap.size):=za hbs
  exact yJ08b3
 ·go_simp
  have hx33:=hx32.alloc (.cells #[] 9)
  have zgK:=zi (World.ownsRow_lit v32 (e:=9) (size:=1) #[] 0 (Nat.le_refl _) (by unfold maxLen;omega) rfl) hx32.size
  have zgE:=(Ext.refl v32).alloc (.cells #[] 9)
  refine hK.out _ _ hx33 ?_
  refine pT ?_
  have zgJ:=zf zgJ zgE
  have owno9:=zf owno9 zgE
  have hbs:v32.heap.size<(v32.alloc (.cells #[] 9)).heap.size:=by simp
  generalize hbe:v32.heap.size=bc9 at *
  generalize v32.alloc (.cells #[] 9)=v33 at *
  have zgP:Hid (ba9≠bc9):=za (by have:=zgG.out;omega)
  have hne_bc9_bo9:Hid (bc9≠bo9):=za (by have:=zgI.out;omega)
  have zgG:Hid (ba9<v33.heap.size):=za (by have:=zgG.out;omega)
  have zgI:Hid (bo9<v33.heap.size):=za (by have:=zgI.out;omega)
  have zgH:Hid (bc9<v33.heap.size):=za hbs
  exact yJ08b1
 ):P:=h
theorem yJ08a3 {P:Prop}(h:P:=by
 clear hbs zgE hbe
 refine zb fun K hK=>?_;go_simp
 have hx33:=hx32.alloc (.cells #[] 9)
 have zgJ:=zi (World.ownsRow_lit v32 (e:=9) (size:=1) #[] 0 (Nat.le_refl _) (by unfold maxLen;omega) rfl) hx32.size
 have zgE:=(Ext.refl v32).alloc (.cells #[] 9)
 refine hK.out _ _ hx33 ?_
 refine pT ?_
 have zgK:=zf zgK zgE
 have owno9:=zf owno9 zgE
 have hbs:v32.heap.size<(v32.alloc (.cells #[] 9)).heap.size:=by simp
 generalize hbe:v32.heap.size=ba9 at *
 generalize v32.alloc (.cells #[] 9)=v33 at *
 have zgP:Hid (ba9≠bc9):=za (by have:=zgH.out;omega)
 have hne_ba9_bo9:Hid (ba9≠bo9):=za (by have:=zgI.out;omega)
 have zgH:Hid (bc9<v33.heap.size):=za (by have:=zgH.out;omega)
 have zgI:Hid (bo9<v33.heap.size):=za (by have:=zgI.out;omega)
 have zgG:Hid (ba9<v33.heap.size):=za hbs
 exact yJ08b1
 ):P:=h
theorem yJ08a4 {P:Prop}(h:P:=by
 exact yJ08b3
 ):P:=h
theorem yJ08a5 {P:Prop}(h:P:=by
 clear hgo
 go_enter Tryz.func103,Tryz.ntmps103
 go_upto_region 1 with fail
 generalize ((w.alloc (.cells #[.bool false,.int .i64 0,.slice none 0 0,.slice none 0 0,.int .i64 s.al,.int .i64 s.st,.slice A n c,.int .i64 p.al,.slice B m d,.slice B' m' d',.int .i64 L] 111)).alloc (.cells #[.slice R nr cr,.slice C nc cc] 113)).alloc (.cells #[.slice none 0 0,.slice none 0 0] 113)=w0 at *
 have CB:=b1.cells
 have CT:=b2.cells
 have hb3:=b3.lt
 have hww:=Ext.refl w0
 go_upto_region 2 with (first
  |(go_at_call 107;refine (HV.out _ hx0).mono ?_;rintro e wa ⟨rfl,hxa⟩)
  |(go_at_call 123;refine (HWd.out _ (hx0.trans hxa)).mono ?_;rintro e w1 ⟨rfl,hxb⟩;have hx01:=hxa.trans hxb)
  |(go_at_call 126;refine (HIn.out _ (hx0.trans hx01)).mono ?_;rintro e wc ⟨rfl,rfl⟩))
 have bz:=b3.ext hx01
 have kz:=bz.cell
 have fz:=bz.frozen
 have cf:=(show Blk ((w1.setCell ⟨w.heap.size+1+1,0,none⟩ (.slice none 0 0)).setCell ⟨w.heap.size+1+1,1,none⟩ (.slice none 0 0)) (w.heap.size+1+1) 113 #[.slice none 0 0,.slice none 0 0] by simpa using (bz.set_ 0 (.slice none 0 0)).set_ 1 (.slice none 0 0)).cell
 have hret:=za (show zby w none (.returned (.tuple #[.agg #[.slice none 0 0,.slice none 0 0],.bool false])) ((w1.setCell ⟨w.heap.size+1+1,0,none⟩ (.slice none 0 0)).setCell ⟨w.heap.size+1+1,1,none⟩ (.slice none 0 0)) from
  ⟨((hx0.trans hx01).setCell (p:=⟨w.heap.size+1+1,0,none⟩) (by dsimp only;omega) _).setCell (p:=⟨w.heap.size+1+1,1,none⟩) (by dsimp only;omega) _,.inl ⟨rfl,rfl⟩⟩)
 go_wp2_with fail
 exact bodyPost_ret (v:=.tuple #[.agg #[.slice none 0 0,.slice none 0 0],.bool false]) (by simp [results,Tryz.results103,go_sem,cf]) rfl hret.out
 ):P:=h
theorem zfu {x:ByteArray}(h:Tch w A n B m B' m' s p L)(hT:TabAt w R nr C nc rows cols)(hI:zct L (zw s p L) rows cols)(hcr:nr≤cr)(hcc:nc≤cc)(hx:x.size≤9223372036854775807) :
  Calls Tryz.prog 103 #[.agg #[.bool false,.int .i64 0,.slice none 0 0,.slice none 0 0,.int .i64 s.al,.int .i64 s.st,.slice A n c,.int .i64 p.al,.slice B m d,.slice B' m' d',.int .i64 L],.agg #[.slice R nr cr,.slice C nc cc],.string x] w (zby w (if zfp L cols x=true then some (rows,cols++[x]) else none)):=by
 obtain⟨e1,e2⟩:=hT.nr
 have hr12:=hI.r12;have hc20:=hI.c20
 rw [e1] at hr12
 rw [e2] at hc20
 have HV:=za (fun W (hW:Ext w W)=>zbg (c:=c) (d:=d) (d':=d') (h.ext hW) (hT.ext hW) hI hcr hcc)
 have HWd:=za (fun W (hW:Ext w W)=>zeh (c:=c) (d:=d) (d':=d') (h.ext hW) hx)
 obtain⟨lo,hi,lo2,hi2,h1,h2⟩:=hT
 have HR:=za (fun W (hW:Ext w W)=>h1.ext hW)
 have HC:=za (fun W (hW:Ext w W)=>h2.ext hW)
 have hadd:=za (show zfp L cols x=((inB x L&&decide (x.size≤4000))&&(!zeU cols x&&decide (nc≠20))) by unfold zfp;rw [e2])
 have hx0:Ext w (((w.alloc (.cells #[.bool false,.int .i64 0,.slice none 0 0,.slice none 0 0,.int .i64 s.al,.int .i64 s.st,.slice A n c,.int .i64 p.al,.slice B m d,.slice B' m' d',.int .i64 L] 111)).alloc (.cells #[.slice R nr cr,.slice C nc cc] 113)).alloc (.cells #[.slice none 0 0,.slice none 0 0] 113)):=(((Ext.refl _).alloc _).alloc _).alloc _
 obtain⟨b1,b2,b3⟩:=zN (Ext.refl (((w.alloc (.cells #[.bool false,.int .i64 0,.slice none 0 0,.slice none 0 0,.int .i64 s.al,.int .i64 s.st,.slice A n c,.int .i64 p.al,.slice B m d,.slice B' m' d',.int .i64 L] 111)).alloc (.cells #[.slice R nr cr,.slice C nc cc] 113)).alloc (.cells #[.slice none 0 0,.slice none 0 0] 113)))
 clear h h1 h2 hI e1 e2
 obtain⟨ok,hok⟩:∃ ok,Hid (zfp L cols x=ok):=⟨_,rfl⟩
 rw [hok.out] at hadd ⊢
 obtain⟨wd,hwd⟩:∃ wd,Hid ((inB x L&&decide (x.size≤4000))=wd):=⟨_,rfl⟩
 rw [hwd.out] at HWd hadd
 obtain⟨mb,hmb⟩:∃ mb,Hid (zeU cols x=mb):=⟨_,rfl⟩
 rw [hmb.out] at hadd
 have HIn:=za (fun W (hW:Ext w W)=>zbW (c:=cc) (x:=x) (HC.out W hW))
 rw [hmb.out] at HIn
 by_cases hgo:wd=true∧mb=false∧nc≠20
 ·obtain⟨rfl,rfl,hnc⟩:=hgo
  have hok1:=za (show ok=true by rw [hadd.out];simpa using hnc)
  rw [hok1.out,if_pos rfl]
  have hnc2:((nc:Int)==20)=false:=by simp;omega
  clear hnc hadd hok hok1 hwd hmb
  go_enter Tryz.func103,Tryz.ntmps103
  go_upto_region 1 with fail
  generalize ((w.alloc (.cells #[.bool false,.int .i64 0,.slice none 0 0,.slice none 0 0,.int .i64 s.al,.int .i64 s.st,.slice A n c,.int .i64 p.al,.slice B m d,.slice B' m' d',.int .i64 L] 111)).alloc (.cells #[.slice R nr cr,.slice C nc cc] 113)).alloc (.cells #[.slice none 0 0,.slice none 0 0] 113)=w0 at *
  have CB:=b1.cells
  have CT:=b2.cells
  have hb3:=b3.lt
  have hww:=Ext.refl w0
  go_upto_region 3 with (first
   |(go_at_call 107;refine (HV.out _ hx0).mono ?_;rintro e wa ⟨rfl,hxa⟩)
   |(go_at_call 123;refine (HWd.out _ (hx0.trans hxa)).mono ?_;rintro e w1 ⟨rfl,hxb⟩;have hx01:=hxa.trans hxb)
   |(go_at_call 126;refine (HIn.out _ (hx0.trans hx01)).mono ?_;rintro e wc ⟨rfl,rfl⟩))
  have hx1:=hx0.trans hx01
  have hs1:=hx01.size
  have HR1:=za (fun W (hW:Ext w1 W)=>HR.out W (hx1.trans hW))
  have HC1:=za (fun W (hW:Ext w1 W)=>HC.out W (hx1.trans hW))
  have CT1:∀ W,Ext w1 W→∀ q,W.cell? ⟨w.heap.size+1,q,none⟩=#[Value.slice R nr cr,.slice C nc cc][q]?:=fun W hW=>CT W (hx01.trans hW)
  go_cut [7] (fun v wx=>AddV w (w.heap.size+1+1) rows (cols++[x]) nr (nc+1) v wx)
  case first =>
   clear CB CT hww HV HWd HIn hxa hxb
   have X0:Ext w1 w1.drew:=(Ext.refl w1).drew
   refine uR (fun X=>Ext w1 X) [12] (zG.app [1,2,5,6,8] (zG.three 0 (zG.three 3 (zG.two 4 (zG.two 7 (zG.of [9,10,11,12,13]) 9 (zG.of [7,10,11,12,13])) 9 (zG.of [4,7,10,11,12,13])) 4 (zG.two 3 (zG.two 7 (zG.of [9,10,11,12,13]) 9 (zG.of [7,10,11,12,13])) 9 (zG.of [3,7,10,11,12,13])) 9 (zG.two 3 (zG.of [4,7,10,11,12,13]) 4 (zG.of [3,7,10,11,12,13]))) 4 (zG.two 0 (zG.two 3 (zG.two 7 (zG.of [9,10,11,12,13]) 9 (zG.of [7,10,11,12,13])) 9 (zG.of [3,7,10,11,12,13])) 9 (zG.of [0,3,7,10,11,12,13])) 9 (zG.two 0 (zG.two 3 (zG.of [4,7,10,11,12,13]) 4 (zG.of [3,7,10,11,12,13])) 4 (zG.of [0,3,7,10,11,12,13])))) ?_
   generalize w1.drew=W0 at *
   refine uQ ?_
   refine zcR (fun K hK=>?_) (fun K hK=>?_) (fun K hK=>?_)
   ·go_simp
    have hx31:=X0.alloc (.cells #[] 9)
    have zgJ:=zi (World.ownsRow_lit W0 (e:=9) (size:=1) #[] 0 (Nat.le_refl _) (by unfold maxLen;omega) rfl) X0.size
    have zgE:=(Ext.refl W0).alloc (.cells #[] 9)
    refine hK.out _ _ hx31 ?_
    refine pT ?_
    have hbs:W0.heap.size<(W0.alloc (.cells #[] 9)).heap.size:=by simp
    generalize hbe:W0.heap.size=ba9 at *
    generalize W0.alloc (.cells #[] 9)=v31 at *
    have zgG:Hid (ba9<v31.heap.size):=za hbs
    clear hbs zgE hbe
    refine zcR (fun K hK=>?_) (fun K hK=>?_) (fun K hK=>?_)
    ·skip
     refine zq _ _ _ _ rfl w1.heap.size 9 _ 1 16 Tryz.underlying55 zj rfl (by decide) (.slice (some ⟨ba9,0,none⟩) 0 0) 0 [] rfl zgJ _ _ R nr cr (zL rows) rfl (HR1.out v31 hx31) (zn _) (by unfold maxLen;omega) (by omega) hx31.size ?_
     intro v9 v32 owna8 hg hat
     rw [Nat.zero_add,List.nil_append] at owna8
     obtain⟨Aa9,ca9,rfl⟩:=ze owna8
     have hx32:=hx31.grown hg (fun k hk=>(zgJ.lt k hk).1)
     have hsz:=hg.size
     have hbs:Hid (v31.heap.size=v31.heap.size):=za rfl
     generalize hbe:v31.heap.size=na9 at *
     have hne_ba9_na9:Hid (ba9≠na9):=za (by have:=zgG.out;omega)
     have zgG:Hid (ba9<v32.heap.size):=za (by have:=zgG.out;omega)
     have hrl_a:Hid (∀ k,(Value.slice Aa9 nr ca9).ownBlock=some k→k<v32.heap.size):=za (fun k hk=>(owna8.lt k hk).2)
     clear hbs hsz hbe
     refine hK.out _ _ hx32 ?_
     refine pT ?_
     have zgJ:=owna8
     refine zA (fun K hK=>?_) (fun K hK=>?_)
     ·go_simp
      have hx33:=hx32.alloc (.cells #[] 9)
      have zgK:=zi (World.ownsRow_lit v32 (e:=9) (size:=1) #[] 0 (Nat.le_refl _) (by unfold maxLen;omega) rfl) hx32.size
      have zgE:=(Ext.refl v32).alloc (.cells #[] 9)
      refine hK.out _ _ hx33 ?_
      refine pT ?_
      have zgJ:=zf zgJ zgE
      have hbs:v32.heap.size<(v32.alloc (.cells #[] 9)).heap.size:=by simp
      generalize hbe:v32.heap.size=bc9 at *
      generalize v32.alloc (.cells #[] 9)=v33 at *
      have zgP:Hid (ba9≠bc9):=za (by have:=zgG.out;omega)
      have hrn_a_bc9:Hid (∀ k,(Value.slice Aa9 nr ca9).ownBlock=some k→k≠bc9):=za (fun k hk=>by have:=hrl_a.out k hk;omega)
      have zgG:Hid (ba9<v33.heap.size):=za (by have:=zgG.out;omega)
      have hrl_a:Hid (∀ k,(Value.slice Aa9 nr ca9).ownBlock=some k→k<v33.heap.size):=za (fun k hk=>(zgJ.lt k hk).2)
      have zgH:Hid (bc9<v33.heap.size):=za hbs
      clear hbs zgE hbe
      refine zA (fun K hK=>?_) (fun K hK=>?_)
      ·exact yJ08b2
      ·go_simp
       have hx34:=hx33.alloc (.cells #[.string x] 9)
       have owno9:=zi (World.ownsRow_lit v33 (e:=9) (size:=1) #[.string x] 1 (Nat.le_refl _) (by unfold maxLen;omega) rfl) hx33.size
       have zgE:=(Ext.refl v33).alloc (.cells #[.string x] 9)
       refine hK.out _ _ hx34 ?_
       refine pT ?_
       have zgJ:=zf zgJ zgE
       have zgK:=zf zgK zgE
       have hbs:v33.heap.size<(v33.alloc (.cells #[.string x] 9)).heap.size:=by simp
       generalize hbe:v33.heap.size=bo9 at *
       generalize v33.alloc (.cells #[.string x] 9)=v34 at *
       have hne_ba9_bo9:Hid (ba9≠bo9):=za (by have:=zgG.out;omega)
       have hne_bc9_bo9:Hid (bc9≠bo9):=za (by have:=zgH.out;omega)
       have zgG:Hid (ba9<v34.heap.size):=za (by have:=zgG.out;omega)
       have zgH:Hid (bc9<v34.heap.size):=za (by have:=zgH.out;omega)
       have hrl_a:Hid (∀ k,(Value.slice Aa9 nr ca9).ownBlock=some k→k<v34.heap.size):=za (fun k hk=>(zgJ.lt k hk).2)
       have zgI:Hid (bo9<v34.heap.size):=za hbs
       exact yJ08a4
     ·go_simp
      have hx33:=hx32.alloc (.cells #[.string x] 9)
      have owno9:=zi (World.ownsRow_lit v32 (e:=9) (size:=1) #[.string x] 1 (Nat.le_refl _) (by unfold maxLen;omega) rfl) hx32.size
      have zgE:=(Ext.refl v32).alloc (.cells #[.string x] 9)
      refine hK.out _ _ hx33 ?_
      refine pT ?_
      have zgJ:=zf zgJ zgE
      have hbs:v32.heap.size<(v32.alloc (.cells #[.string x] 9)).heap.size:=by simp
      generalize hbe:v32.heap.size=bo9 at *
      generalize v32.alloc (.cells #[.string x] 9)=v33 at *
      have hne_ba9_bo9:Hid (ba9≠bo9):=za (by have:=zgG.out;omega)
      have zgG:Hid (ba9<v33.heap.size):=za (by have:=zgG.out;omega)
      have hrl_a:Hid (∀ k,(Value.slice Aa9 nr ca9).ownBlock=some k→k<v33.heap.size):=za (fun k hk=>(zgJ.lt k hk).2)
      have zgI:Hid (bo9<v33.heap.size):=za hbs
      clear hbs zgE hbe
      refine zb fun K hK=>?_;go_simp
      have hx34:=hx33.alloc (.cells #[] 9)
      have zgK:=zi (World.ownsRow_lit v33 (e:=9) (size:=1) #[] 0 (Nat.le_refl _) (by unfold maxLen;omega) rfl) hx33.size
      have zgE:=(Ext.refl v33).alloc (.cells #[] 9)
      refine hK.out _ _ hx34 ?_
      refine pT ?_
      have zgJ:=zf zgJ zgE
      have owno9:=zf owno9 zgE
      have hbs:v33.heap.size<(v33.alloc (.cells #[] 9)).heap.size:=by simp
      generalize hbe:v33.heap.size=bc9 at *
      generalize v33.alloc (.cells #[] 9)=v34 at *
      have zgP:Hid (ba9≠bc9):=za (by have:=zgG.out;omega)
      have hne_bc9_bo9:Hid (bc9≠bo9):=za (by have:=zgI.out;omega)
      have hrn_a_bc9:Hid (∀ k,(Value.slice Aa9 nr ca9).ownBlock=some k→k≠bc9):=za (fun k hk=>by have:=hrl_a.out k hk;omega)
      have zgG:Hid (ba9<v34.heap.size):=za (by have:=zgG.out;omega)
      have zgI:Hid (bo9<v34.heap.size):=za (by have:=zgI.out;omega)
      have hrl_a:Hid (∀ k,(Value.slice Aa9 nr ca9).ownBlock=some k→k<v34.heap.size):=za (fun k hk=>(zgJ.lt k hk).2)
      have zgH:Hid (bc9<v34.heap.size):=za hbs
      exact yJ08a4
    ·go_simp
     have hx32:=hx31.alloc (.cells #[] 9)
     have zgK:=zi (World.ownsRow_lit v31 (e:=9) (size:=1) #[] 0 (Nat.le_refl _) (by unfold maxLen;omega) rfl) hx31.size
     have zgE:=(Ext.refl v31).alloc (.cells #[] 9)
     refine hK.out _ _ hx32 ?_
     refine pT ?_
     have zgJ:=zf zgJ zgE
     have hbs:v31.heap.size<(v31.alloc (.cells #[] 9)).heap.size:=by simp
     generalize hbe:v31.heap.size=bc9 at *
     generalize v31.alloc (.cells #[] 9)=v32 at *
     have zgP:Hid (ba9≠bc9):=za (by have:=zgG.out;omega)
     have zgG:Hid (ba9<v32.heap.size):=za (by have:=zgG.out;omega)
     have zgH:Hid (bc9<v32.heap.size):=za hbs
     exact yJ08a1
    ·go_simp
     have hx32:=hx31.alloc (.cells #[.string x] 9)
     have owno9:=zi (World.ownsRow_lit v31 (e:=9) (size:=1) #[.string x] 1 (Nat.le_refl _) (by unfold maxLen;omega) rfl) hx31.size
     have zgE:=(Ext.refl v31).alloc (.cells #[.string x] 9)
     refine hK.out _ _ hx32 ?_
     refine pT ?_
     have zgJ:=zf zgJ zgE
     have hbs:v31.heap.size<(v31.alloc (.cells #[.string x] 9)).heap.size:=by simp
     generalize hbe:v31.heap.size=bo9 at *
     generalize v31.alloc (.cells #[.string x] 9)=v32 at *
     have hne_ba9_bo9:Hid (ba9≠bo9):=za (by have:=zgG.out;omega)
     have zgG:Hid (ba9<v32.heap.size):=za (by have:=zgG.out;omega)
     have zgI:Hid (bo9<v32.heap.size):=za hbs
     exact yJ08a2
   ·go_simp
    have hx31:=X0.alloc (.cells #[] 9)
    have zgK:=zi (World.ownsRow_lit W0 (e:=9) (size:=1) #[] 0 (Nat.le_refl _) (by unfold maxLen;omega) rfl) X0.size
    have zgE:=(Ext.refl W0).alloc (.cells #[] 9)
    refine hK.out _ _ hx31 ?_
    refine pT ?_
    have hbs:W0.heap.size<(W0.alloc (.cells #[] 9)).heap.size:=by simp
    generalize hbe:W0.heap.size=bc9 at *
    generalize W0.alloc (.cells #[] 9)=v31 at *
    have zgH:Hid (bc9<v31.heap.size):=za hbs
    clear hbs zgE hbe
    refine zA (fun K hK=>?_) (fun K hK=>?_)
    ·go_simp
     have hx32:=hx31.alloc (.cells #[] 9)
     have zgJ:=zi (World.ownsRow_lit v31 (e:=9) (size:=1) #[] 0 (Nat.le_refl _) (by unfold maxLen;omega) rfl) hx31.size
     have zgE:=(Ext.refl v31).alloc (.cells #[] 9)
     refine hK.out _ _ hx32 ?_
     refine pT ?_
     have zgK:=zf zgK zgE
     have hbs:v31.heap.size<(v31.alloc (.cells #[] 9)).heap.size:=by simp
     generalize hbe:v31.heap.size=ba9 at *
     generalize v31.alloc (.cells #[] 9)=v32 at *
     have zgP:Hid (ba9≠bc9):=za (by have:=zgH.out;omega)
     have zgH:Hid (bc9<v32.heap.size):=za (by have:=zgH.out;omega)
     have zgG:Hid (ba9<v32.heap.size):=za hbs
     exact yJ08a1
    ·go_simp
     have hx32:=hx31.alloc (.cells #[.string x] 9)
     have owno9:=zi (World.ownsRow_lit v31 (e:=9) (size:=1) #[.string x] 1 (Nat.le_refl _) (by unfold maxLen;omega) rfl) hx31.size
     have zgE:=(Ext.refl v31).alloc (.cells #[.string x] 9)
     refine hK.out _ _ hx32 ?_
     refine pT ?_
     have zgK:=zf zgK zgE
     have hbs:v31.heap.size<(v31.alloc (.cells #[.string x] 9)).heap.size:=by simp
     generalize hbe:v31.heap.size=bo9 at *
     generalize v31.alloc (.cells #[.string x] 9)=v32 at *
     have hne_bc9_bo9:Hid (bc9≠bo9):=za (by have:=zgH.out;omega)
     have zgH:Hid (bc9<v32.heap.size):=za (by have:=zgH.out;omega)
     have zgI:Hid (bo9<v32.heap.size):=za hbs
     exact yJ08a3
   ·go_simp
    have hx31:=X0.alloc (.cells #[.string x] 9)
    have owno9:=zi (World.ownsRow_lit W0 (e:=9) (size:=1) #[.string x] 1 (Nat.le_refl _) (by unfold maxLen;omega) rfl) X0.size
    have zgE:=(Ext.refl W0).alloc (.cells #[.string x] 9)
    refine hK.out _ _ hx31 ?_
    refine pT ?_
    have hbs:W0.heap.size<(W0.alloc (.cells #[.string x] 9)).heap.size:=by simp
    generalize hbe:W0.heap.size=bo9 at *
    generalize W0.alloc (.cells #[.string x] 9)=v31 at *
    have zgI:Hid (bo9<v31.heap.size):=za hbs
    clear hbs zgE hbe
    refine zA (fun K hK=>?_) (fun K hK=>?_)
    ·go_simp
     have hx32:=hx31.alloc (.cells #[] 9)
     have zgJ:=zi (World.ownsRow_lit v31 (e:=9) (size:=1) #[] 0 (Nat.le_refl _) (by unfold maxLen;omega) rfl) hx31.size
     have zgE:=(Ext.refl v31).alloc (.cells #[] 9)
     refine hK.out _ _ hx32 ?_
     refine pT ?_
     have owno9:=zf owno9 zgE
     have hbs:v31.heap.size<(v31.alloc (.cells #[] 9)).heap.size:=by simp
     generalize hbe:v31.heap.size=ba9 at *
     generalize v31.alloc (.cells #[] 9)=v32 at *
     have hne_ba9_bo9:Hid (ba9≠bo9):=za (by have:=zgI.out;omega)
     have zgI:Hid (bo9<v32.heap.size):=za (by have:=zgI.out;omega)
     have zgG:Hid (ba9<v32.heap.size):=za hbs
     exact yJ08a2
    ·go_simp
     have hx32:=hx31.alloc (.cells #[] 9)
     have zgK:=zi (World.ownsRow_lit v31 (e:=9) (size:=1) #[] 0 (Nat.le_refl _) (by unfold maxLen;omega) rfl) hx31.size
     have zgE:=(Ext.refl v31).alloc (.cells #[] 9)
     refine hK.out _ _ hx32 ?_
     refine pT ?_
     have owno9:=zf owno9 zgE
     have hbs:v31.heap.size<(v31.alloc (.cells #[] 9)).heap.size:=by simp
     generalize hbe:v31.heap.size=bc9 at *
     generalize v31.alloc (.cells #[] 9)=v32 at *
     have hne_bc9_bo9:Hid (bc9≠bo9):=za (by have:=zgI.out;omega)
     have zgI:Hid (bo9<v32.heap.size):=za (by have:=zgI.out;omega)
     have zgH:Hid (bc9<v32.heap.size):=za hbs
     exact yJ08a3
  case rest =>
   obtain⟨R1,cr1,C1,cc1,rfl,bz,oR,oC,hxc⟩:=hcut
   have hret:=za (show zby w (some (rows,cols++[x])) (.returned (.tuple #[.agg #[.slice R1 nr cr1,.slice C1 (nc+1) cc1],.bool true])) wc from ⟨hxc,.inr ⟨rows,cols++[x],nr,nc+1,R1,cr1,C1,cc1,rfl,rfl,oR,oC⟩⟩)
   have cf:=bz.cell
   go_wp2_with fail
   exact bodyPost_ret (v:=.tuple #[.agg #[.slice R1 nr cr1,.slice C1 (nc+1) cc1],.bool true]) (by simp [results,Tryz.results103,go_sem,cf]) rfl hret.out
 ·have hok0:=za (show ok=false by
   rw [hadd.out,Bool.eq_false_iff]
   intro h
   simp only [Bool.and_eq_true,Bool.not_eq_true',decide_eq_true_eq] at h
   exact hgo ⟨h.1,h.2.1,h.2.2⟩)
  rw [hok0.out,if_neg (by decide)]
  clear hadd hok hok0 hwd hmb
  cases wd
  ·exact yJ08a5
  ·cases mb
   ·have hnc:((nc:Int)==20)=true:=by
     have:nc=20:=Decidable.byContradiction fun h=>hgo ⟨rfl,rfl,h⟩
     rw [this];rfl
    exact yJ08a5
   ·exact yJ08a5
noncomputable def zdG (L:Nat) (f:ByteArray→Bool) (rows cols:List ByteArray) (x:ByteArray):Option (List ByteArray × List ByteArray):=
 match zdi L f rows cols x with
 |none=>none
 |some col=>if zfp L cols col=true then (zaB L f (cols++[col]) (12 - rows.length) rows).map fun r=>(r,cols++[col]) else none
end
end Go.Proofs.YtfcjhpodichpjaaGreat
