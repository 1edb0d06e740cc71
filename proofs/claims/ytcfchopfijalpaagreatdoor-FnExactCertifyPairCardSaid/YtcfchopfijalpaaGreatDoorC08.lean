/- The referenc -/
import Derived.Test.YtcfchopfijalpaaGreatDoorC07
set_option maxHeartbeats 8000000
set_option maxRecDepth 100000
namespace Go.Proofs.YtcfchopfijalpaaGreatDoor
open Go Go.RowKit
theorem zbz.rsz' {L:Nat} {f:ByteArray→Bool} {rows cols:List ByteArray}(h:zbz L f rows cols):(∀ y∈rows,y.size≤1000000)∧∀ y∈cols,y.size≤1000000:=
 ⟨fun y hy=>by have:=(h.rin hy).2;omega,fun y hy=>by have:=(h.cin hy).2;omega⟩
section
variable {w W:World} {n c m d m' d' L:Nat} {A B B':Option Addr} {s:Sys} {p:Aut} {nr nc cr cc:Nat} {R C:Option Addr} {rows cols:List ByteArray}
theorem zbK (h:Tch w A n B m B' m' s p L)(hT:TabAt w R nr C nc rows cols)(hI:zbz L (zt s p L) rows cols)(hcr:nr≤cr)(hcc:nc≤cc) :
  Calls Tryz.prog 208 #[.agg #[.bool false,.int .i64 0,.slice none 0 0,.slice none 0 0,.int .i64 s.al,.int .i64 s.st,.slice A n c,.int .i64 p.al,.slice B m d,.slice B' m' d',.int .i64 L],.agg #[.slice R nr cr,.slice C nc cc]] w fun e w'=>e=.returned (.bool true)∧Ext w w':=by
 obtain⟨e1,e2⟩:=hT.nr
 have hr12:=hI.r12;have hc20:=hI.c20
 rw [e1] at hr12
 rw [e2] at hc20
 have HA:=za (fun W (hW:Ext w W)=>zaF (c:=c) (d:=d) (d':=d') (h.ext hW))
 have HS:=za (fun W (hW:Ext w W)=>ziy (cr:=cr) (cc:=cc) (hT.ext hW) hI h.lt hcr hcc)
 obtain⟨lo,hi,lo2,hi2,h1,h2⟩:=hT
 have HR:=za (fun W (hW:Ext w W)=>zdO (c:=c) (d:=d) (d':=d') (cc:=cc) (cr:=cr) (h.ext hW) (h2.ext hW) (h1.ext hW) (by omega) (by omega) hI.rsz'.2 hI.rsz'.1)
 have hnd:=za (rowsM_nodup hI)
 have hlen:(zal (zt s p L) cols rows).length=nr:=by rw [zal,List.length_map];exact e1
 generalize zal (zt s p L) cols rows=zs at *
 have hx0:Ext w ((w.alloc (.cells #[.bool false,.int .i64 0,.slice none 0 0,.slice none 0 0,.int .i64 s.al,.int .i64 s.st,.slice A n c,.int .i64 p.al,.slice B m d,.slice B' m' d',.int .i64 L] 98)).alloc (.cells #[.slice R nr cr,.slice C nc cc] 101)):=((Ext.refl _).alloc _).alloc _
 obtain⟨b1,b2⟩:=zE (Ext.refl ((w.alloc (.cells #[.bool false,.int .i64 0,.slice none 0 0,.slice none 0 0,.int .i64 s.al,.int .i64 s.st,.slice A n c,.int .i64 p.al,.slice B m d,.slice B' m' d',.int .i64 L] 98)).alloc (.cells #[.slice R nr cr,.slice C nc cc] 101)))
 clear h h1 h2 hI e1 e2
 go_enter Tryz.func208,Tryz.ntmps208
 go_upto_region 1 with fail
 generalize (w.alloc (.cells #[.bool false,.int .i64 0,.slice none 0 0,.slice none 0 0,.int .i64 s.al,.int .i64 s.st,.slice A n c,.int .i64 p.al,.slice B m d,.slice B' m' d',.int .i64 L] 98)).alloc (.cells #[.slice R nr cr,.slice C nc cc] 101)=w1 at *
 have CB:=b1.cells
 have CT:=b2.cells
 have hww:=Ext.refl w1
 refine uR (fun X=>Ext w1 X) [] (zu.of [0,2,1,3,4]) ?_
 refine uQ ?_
 refine ze fun K hK=>?_;go_simp
 refine (HA.out _ (hx0.trans hww.drew)).mono ?_
 rintro e w2 ⟨rfl,hx2⟩
 have hx12:Ext w1 w2:=hww.drew.trans hx2
 refine hK.out _ _ hx12 ?_
 refine pT ?_
 refine uQ ?_
 refine ze fun K hK=>?_;go_simp
 refine (HS.out _ (hx0.trans hx12)).mono ?_
 rintro e w3 ⟨rfl,hx3⟩
 have hx13:=hx12.trans hx3
 refine hK.out _ _ hx13 ?_
 refine pT ?_
 refine uQ ?_
 refine zf ?_
 clear hx12 hx2 hx3
 go_wp2_with (first|(go_at_call 132;refine (HR.out _ (hx0.trans hx13)).mono ?_;rintro e w4 ⟨G,g,rfl,ziJ,hx4⟩))
 rw [hlen] at ziJ
 have hlen2:=za hlen
 clear hlen
 have hx14:=hx13.trans hx4
 have hrd:=Reads.of_own ziJ
 have Hrd:=za (fun W (hW:Ext w4 W)=>hrd.ext hW)
 have hng:nr≤g:=by
  rcases ziJ.2 with ⟨e,h0⟩|⟨g0,cap,cur,e,_,_,hcap,_⟩
  ·omega
  ·injection e with _ _ h3;omega
 clear hx13 hx4 ziJ hrd
 go_loopw [6] (fun iv wr=>∃ k:Nat,k≤nr∧iv=.int .i64 k∧Ext w4 wr) (fun iv _=>nr - (intOf iv).toNat)
 case atStart=>exact⟨0,Nat.zero_le _,rfl,Ext.refl _⟩
 case round =>
  obtain⟨k,hk,rfl,hxr⟩:=hrel
  by_cases hlt:k<nr
  ·have hlt':(k:Int)<(nr:Int):=by omega
   have hkg:(k:Int)≤(g:Int):=by omega
   obtain⟨ad,x,rfl,_,_,hx,cx⟩:=(Hrd.out wr hxr).str hlt
   have hmem:=za (show zcm (zs.take k) x=false by
    rw [zbW]
    intro hm
    obtain⟨j,hj⟩:=List.getElem?_of_mem hm
    have hjk:j<k:=by have:=(List.getElem?_eq_some_iff.1 hj).1;rw [List.length_take] at this;omega
    rw [List.getElem?_take_of_lt hjk] at hj
    have:=(List.getElem?_inj (i:=j) (j:=k) (by have:=hlen2.out;omega) hnd.out).1 (hj.trans hx.out.symm)
    omega)
   have HRt:=za (fun W (hW:Ext w4 W)=>(Hrd.out W hW).takeS hk)
   have CX:∀ W,Ext wr W→W.cell? (ad.add k)=some (.string x):=fun W hW=>hW.cell_some cx
   have hww:=Ext.refl wr
   clear cx hx
   go_wp2_with fail
   refine uR (fun X=>Ext wr X) [] (zu.of [0,1,2,3,4,5,6,7]) ?_
   refine uQ ?_
   refine ze fun K hK=>?_;go_simp
   refine (zdg (HRt.out _ (hxr.trans hww.drew))).mono ?_
   rw [hmem.out]
   rintro e w5 ⟨rfl,rfl⟩
   refine hK.out _ _ hww.drew ?_
   refine pT ?_
   refine uQ ?_
   refine zf ?_
   go_wp2_with fail
   go_roundw
   case rel=>exact⟨k+1,by omega,by go_num,hxr.trans hww.drew⟩
   case measure=>simp [intOf];omega
  ·have hge:(nr:Int)≤(k:Int):=by omega
   go_wp2_with fail
   go_ret
   exact⟨rfl,hx0.trans (hx14.trans hxr)⟩
def candL (L:Nat) (rows:List ByteArray):List ByteArray:=rows.flatMap fun r=>(letters L 6).map fun l=>r++zbA l
noncomputable def zav (L:Nat) (f:ByteArray→Bool) (rows cols:List ByteArray):Option ByteArray:=(candL L rows).find? fun x=>!zcm (zal f cols rows) (mkS (zbq f cols x))
theorem find_pre {α:Type} {P:α→Bool} {pre post l:List α} {x:α}(hl:l=pre++x :: post)(hp:∀ y∈pre,P y=false)(hx:P x=true):l.find? P=some x:=by
 rw [hl,List.find?_append,List.find?_eq_none.2 (fun y hy=>by rw [hp y hy];decide),Option.none_or,List.find?_cons_of_pos hx]
theorem open_find {zs cols rows:List ByteArray} {ls:List Nat} {f:ByteArray→Bool} {i k l:Nat} {x y:ByteArray}(hx:rows[i]?=some x)(hl:ls[k]?=some l)(hy:x++zbA l=y)
  (hd:∀ y∈(rows.take i).flatMap (fun r=>ls.map fun l=>r++zbA l),zcm zs (mkS (zbq f cols y))=true) (hdk:∀ y∈(ls.take k).map (fun l=>x++zbA l),zcm zs (mkS (zbq f cols y))=true) (hm:zcm zs (mkS (zbq f cols y))=false) :
  (rows.flatMap fun r=>ls.map fun l=>r++zbA l).find? (fun x=>!zcm zs (mkS (zbq f cols x)))=some y:=by
 have hr:rows=rows.take i++x :: rows.drop (i+1):=by
  obtain⟨h2,h3⟩:=List.getElem?_eq_some_iff.1 hx
  rw [← h3,← List.drop_eq_getElem_cons h2,List.take_append_drop]
 have hlr:ls=ls.take k++l :: ls.drop (k+1):=by
  obtain⟨h2,h3⟩:=List.getElem?_eq_some_iff.1 hl
  rw [← h3,← List.drop_eq_getElem_cons h2,List.take_append_drop]
 have e:ls.map (fun l=>x++zbA l)=(ls.take k).map (fun l=>x++zbA l)++y :: (ls.drop (k+1)).map (fun l=>x++zbA l):=by
  conv=>lhs;rw [hlr]
  rw [List.map_append,List.map_cons,hy]
 refine find_pre (pre:=(rows.take i).flatMap (fun r=>ls.map fun l=>r++zbA l)++(ls.take k).map (fun l=>x++zbA l)) (post:=(ls.drop (k+1)).map (fun l=>x++zbA l)++(rows.drop (i+1)).flatMap (fun r=>ls.map fun l=>r++zbA l)) ?_ ?_ ?_
 ·conv=>lhs;rw [hr]
  rw [List.flatMap_append,List.flatMap_cons,e]
  simp only [List.append_assoc,List.cons_append]
 ·intro y' hy'
  show (!zcm zs (mkS (zbq f cols y')))=false
  rcases List.mem_append.1 hy' with h1|h1
  ·rw [hd y' h1,Bool.not_true]
  ·rw [hdk y' h1,Bool.not_true]
 ·show (!zcm zs (mkS (zbq f cols y)))=true
  rw [hm,Bool.not_false]
theorem zdP {l:Nat}(h1:l<6):Calls Tryz.prog 135 #[.int .i64 l] w fun e w'=>e=.returned (.string (zbA l))∧Ext w w':=zek h1
theorem zfK (h:Tch w A n B m B' m' s p L)(hT:TabAt w R nr C nc rows cols)(hI:zbz L (zt s p L) rows cols) :
  Calls Tryz.prog 209 #[.agg #[.bool false,.int .i64 0,.slice none 0 0,.slice none 0 0,.int .i64 s.al,.int .i64 s.st,.slice A n c,.int .i64 p.al,.slice B m d,.slice B' m' d',.int .i64 L],.agg #[.slice R nr cr,.slice C nc cc]] w fun e w'=>e=.returned (.tuple #[.string ((zav L (zt s p L) rows cols).getD ⟨#[]⟩),.bool (zav L (zt s p L) rows cols).isSome])∧Ext w w':=by
 obtain⟨e1,e2⟩:=hT.nr
 have hr12:=hI.r12;have hc20:=hI.c20
 rw [e1] at hr12
 rw [e2] at hc20
 have HA:=za (fun W (hW:Ext w W)=>zaF (c:=c) (d:=d) (d':=d') (h.ext hW))
 obtain⟨lo,hi,lo2,hi2,h1,h2⟩:=hT
 have HR:=za (fun W (hW:Ext w W)=>zdO (c:=c) (d:=d) (d':=d') (cc:=cc) (cr:=cr) (h.ext hW) (h2.ext hW) (h1.ext hW) (by omega) (by omega) hI.rsz'.2 hI.rsz'.1)
 have HW:=za (fun W (hW:Ext w W) (y:ByteArray) hy=>zeB (c:=c) (d:=d) (d':=d') (cc:=cc) (x:=y) (h.ext hW) (h2.ext hW) (by omega) hy hI.rsz'.2)
 have H1:=za (fun W (hW:Ext w W)=>h1.ext hW)
 have hL:=h.lt
 have Hin:=za (fun x hx=>hI.rin (x:=x) hx)
 have hlen:(zal (zt s p L) cols rows).length=nr:=by rw [zal,List.length_map];exact e1
 have hop:zav L (zt s p L) rows cols=(candL L rows).find? fun x=>!zcm (zal (zt s p L) cols rows) (mkS (zbq (zt s p L) cols x)):=rfl
 generalize zav L (zt s p L) rows cols=op at *
 generalize zal (zt s p L) cols rows=zs at *
 have Hop:=za hop
 have Hlen:=za hlen
 have He:=za e1
 have hx0:Ext w ((w.alloc (.cells #[.bool false,.int .i64 0,.slice none 0 0,.slice none 0 0,.int .i64 s.al,.int .i64 s.st,.slice A n c,.int .i64 p.al,.slice B m d,.slice B' m' d',.int .i64 L] 98)).alloc (.cells #[.slice R nr cr,.slice C nc cc] 101)):=((Ext.refl _).alloc _).alloc _
 obtain⟨b1,b2⟩:=zE (Ext.refl ((w.alloc (.cells #[.bool false,.int .i64 0,.slice none 0 0,.slice none 0 0,.int .i64 s.al,.int .i64 s.st,.slice A n c,.int .i64 p.al,.slice B m d,.slice B' m' d',.int .i64 L] 98)).alloc (.cells #[.slice R nr cr,.slice C nc cc] 101)))
 clear h h1 h2 hI e1 e2 hop hlen
 go_enter Tryz.func209,Tryz.ntmps209
 go_upto_region 1 with fail
 generalize (w.alloc (.cells #[.bool false,.int .i64 0,.slice none 0 0,.slice none 0 0,.int .i64 s.al,.int .i64 s.st,.slice A n c,.int .i64 p.al,.slice B m d,.slice B' m' d',.int .i64 L] 98)).alloc (.cells #[.slice R nr cr,.slice C nc cc] 101)=w1 at *
 have CB:=b1.cells
 have CT:=b2.cells
 have hww:=Ext.refl w1
 go_wp2_with (first
  |(go_at_call 130;refine (HA.out _ hx0).mono ?_;rintro e w2 ⟨rfl,hx2⟩)
  |(go_at_call 131;refine (zaC L (by unfold Sm;omega) _).mono ?_;rintro e w3 ⟨HL,hc,rfl,hownL,hx3⟩;have hx13:=hx2.trans hx3)
  |(go_at_call 132;refine (HR.out _ (hx0.trans hx13)).mono ?_;rintro e w4 ⟨G,g,rfl,hownG,hx4⟩;have hx14:=hx13.trans hx4))
 have hrdG:=Reads.of_own hownG
 have HG:=za (fun W (hW:Ext w4 W)=>hrdG.ext hW)
 have hownL4:=zh hownL hx4
 have HLet:=za (fun W (hW:Ext w4 W)=>zh hownL4 hW)
 have hlm:=za (fun l (hl:l∈letters L 6)=>(zz.1 hl).1)
 have hcand:=za (show candL L rows=rows.flatMap fun r=>(letters L 6).map fun l=>r++zbA l from rfl)
 have hls:(letters L 6).length≤6:=zI L 6
 generalize letters L 6=ls at *
 clear hownL hownL4 hrdG hownG hx2 hx3 hx13 hx4 hww
 have hww:=Ext.refl w4
 go_loopw [8] (fun iv wr=>∃ i:Nat,i≤nr∧iv=.int .i64 i∧Hid (∀ x∈(rows.take i).flatMap (fun r=>ls.map fun l=>r++zbA l),zcm zs (mkS (zbq (zt s p L) cols x))=true)∧Ext w4 wr) (fun iv _=>nr - (intOf iv).toNat)
 case atStart=>exact⟨0,Nat.zero_le _,rfl,za (fun x hx=>by simp at hx),hww⟩
 case round =>
  clear hww
  obtain⟨i,hi,rfl,hdone,hxr⟩:=hrel
  have CTr:∀ W,Ext wr W→∀ q,W.cell? ⟨w.heap.size+1,q,none⟩=#[Value.slice R nr cr,.slice C nc cc][q]?:=fun W hW=>CT W (hx14.trans (hxr.trans hW))
  have hww:=Ext.refl wr
  by_cases hlt:i<nr
  ·have hlt':(i:Int)<(nr:Int):=by omega
   obtain⟨ad,x,rfl,_,_,hx,cx⟩:=(H1.out wr (hx0.trans (hx14.trans hxr))).str hlt
   have CX:∀ W,Ext wr W→W.cell? (ad.add i)=some (.string x):=fun W hW=>hW.cell_some cx
   have hxs:=(Hin.out x (List.mem_of_getElem? hx.out)).2
   have hxi:=za hx.out
   clear cx hx
   go_wp2_with fail
   obtain⟨wo,hwo⟩:∃ wo,wo=wr:=⟨_,rfl⟩
   subst hwo
   go_loopw [9] (fun kv wr=>∃ k:Nat,k≤ls.length∧kv=.int .i64 k∧Hid (∀ y∈(ls.take k).map (fun l=>x++zbA l),zcm zs (mkS (zbq (zt s p L) cols y))=true)∧Ext wo wr) (fun kv _=>ls.length - (intOf kv).toNat)
   case atStart=>exact⟨0,Nat.zero_le _,rfl,za (fun y hy=>by simp at hy),hww⟩
   case round =>
    clear hww
    obtain⟨k,hk,rfl,hdk,hxr2⟩:=hrel
    by_cases hkl:k<ls.length
    ·have hkl':(k:Int)<(ls.length:Int):=by omega
     obtain⟨l,hl⟩:∃ l,ls[k]?=some l:=⟨_,List.getElem?_eq_getElem hkl⟩
     have hl6:=hlm.out l (List.mem_of_getElem? hl)
     have ziJ:=HLet.out wr (hxr.trans hxr2)
     obtain⟨gl,rfl,hgl,-⟩:=zaq ziJ (by omega)
     have cl:=zcx ziJ hkl
     rw [List.getD_eq_getElem?_getD,hl,Option.getD_some] at cl
     have CL:∀ W,Ext wr W→W.cell? ⟨gl,k,none⟩=some (.int .i64 (l:Nat)):=fun W hW=>hW.cell_some cl
     have CX2:∀ W,Ext wr W→W.cell? (ad.add i)=some (.string x):=fun W hW=>CX W (hxr2.trans hW)
     have CT2:∀ W,Ext wr W→∀ q,W.cell? ⟨w.heap.size+1,q,none⟩=#[Value.slice (some ad) nr cr,.slice C nc cc][q]?:=fun W hW=>CTr W (hxr2.trans hW)
     have CB2:∀ W,Ext wr W→∀ q,W.cell? ⟨w.heap.size,q,none⟩=#[Value.bool false,.int .i64 0,.slice none 0 0,.slice none 0 0,.int .i64 s.al,.int .i64 s.st,.slice A n c,.int .i64 p.al,.slice B m d,.slice B' m' d',.int .i64 L][q]?:=fun W hW=>CB W ((hx14.trans (hxr.trans hxr2)).trans hW)
     have HT:=za (fun W=>zdP (w:=W) hl6)
     have Hl:=za hl
     obtain⟨z,hz⟩:∃ z,Hid (zbA l=z):=⟨_,rfl⟩
     rw [hz.out] at HT
     have hz1:z.size=1:=by rw [← hz.out];exact zcc l
     have hsz:¬ 9223372036854775807<x.size+1:=by omega
     have HWr:=za (fun W (hW:Ext wr W)=>HW.out W ((hx0.trans (hx14.trans (hxr.trans hxr2))).trans hW) (x++z) (by rw [ByteArray.size_append];omega))
     have HGr:=za (fun W (hW:Ext wr W)=>HG.out W ((hxr.trans hxr2).trans hW))
     have hww:=Ext.refl wr
     obtain⟨y,hy⟩:∃ y,x++z=y:=⟨_,rfl⟩
     rw [hy] at HWr
     have hyl:Hid (x++zbA l=y):=by unfold Hid;rw [hz.out];exact hy
     clear hl cl ziJ
     go_wp2_with fail
     go_region_held3 (fun W=>Ext wr W) (first|assumption|(refine Ext.drew ?_;assumption)|(refine Ext.trans ?_ (by assumption);assumption)|(refine Ext.trans ?_ (by assumption);refine Ext.drew ?_;assumption)) (first
      |(go_at_call 135;refine (HT.out _).mono ?_;rintro e w7 ⟨rfl,hx7⟩))
     have hx17:Ext wr w7:=by assumption
     clear hy
     cases hm:zcm zs (mkS (zbq (zt s p L) cols y))
     all_goals
      have Hm:=za hm
      clear hm
      go_wp2_with (first
       |(go_at_call 134;refine (HWr.out _ hx17).mono ?_;rintro e w8 ⟨rfl,hx8⟩;have hx18:=hx17.trans hx8)
       |(go_at_call 225;with_reducible refine (zdg (HGr.out _ hx18)).mono ?_;rw [Hm.out];rintro e w9 ⟨rfl,rfl⟩))
     ·have hsome:=za (show op=some y by
       rw [Hop.out,hcand.out]
       exact open_find hxi.out Hl.out hyl.out hdone.out hdk.out Hm.out)
      go_ret2
      exact⟨by rw [hsome.out];rfl,hx0.trans (hx14.trans (hxr.trans (hxr2.trans hx18)))⟩
     ·go_roundw
      case rel=>exact⟨k+1,by omega,by go_num,za (fun y' hy'=>by
       rw [List.take_add_one,Hl.out,List.map_append] at hy'
       rcases List.mem_append.1 hy' with h1|h1
       ·exact hdk.out y' h1
       ·simp at h1
        rw [h1,hyl.out]
        exact Hm.out),hxr2.trans hx18⟩
      case measure=>simp [intOf];omega
    ·have hge:(ls.length:Int)≤(k:Int):=by omega
     go_wp2_with fail
     go_roundw
     case rel=>exact⟨i+1,by omega,by go_num,za (fun y hy=>by
      rw [List.take_add_one,hxi.out,List.flatMap_append] at hy
      rcases List.mem_append.1 hy with h1|h1
      ·exact hdone.out y h1
      ·refine hdk.out y ?_
       rw [List.take_of_length_le (by omega)]
       simpa using h1),hxr.trans hxr2⟩
     case measure=>simp [intOf];omega
  ·have hge:(nr:Int)≤(i:Int):=by omega
   have hno:=za (show op=none by
    rw [Hop.out,hcand.out,List.find?_eq_none]
    intro y hy
    have:=hdone.out y (by rw [List.take_of_length_le (by have:=He.out;omega)];exact hy)
    rw [this];decide)
   go_wp2_with fail
   go_ret2
   exact⟨by rw [hno.out];rfl,hx0.trans (hx14.trans hxr)⟩
end
theorem zr (l:List ByteArray):∀ u∈zL l,u.oneCell'=true:=by
 intro u hu
 obtain⟨x,-,rfl⟩:=List.mem_map.1 hu
 rfl
def TabV (w1:World) (rows cols:List ByteArray) (nr nc:Nat) (v:Value) (W:World):Prop:=
 ∃ (g:Nat) (R:Option Addr) (cr:Nat) (C:Option Addr) (cc:Nat),v=.pointer (some ⟨g,0,none⟩)∧w1.heap.size≤g∧Blk W g 101 #[.slice R nr cr,.slice C nc cc] ∧
  W.ownsRow w1.heap.size 9 1 (.slice R nr cr) nr (zL rows)∧W.ownsRow w1.heap.size 9 1 (.slice C nc cc) nc (zL cols)∧Ext w1 W∧Hid (∀ k,(Value.slice R nr cr).ownBlock=some k→(Value.slice C nc cc).ownBlock≠some k)
theorem zaj {w1 W:World} {rows cols:List ByteArray} {nr nc g cr cc:Nat} {R C:Option Addr}(ha:W.ownsRow w1.heap.size 9 1 (.slice R nr cr) nr (zL rows))(hc:W.ownsRow w1.heap.size 9 1 (.slice C nc cc) nc (zL cols))(hb:Blk W g 101 #[.slice none 0 0,.slice none 0 0])(hx:Ext w1 W)(hg:w1.heap.size≤g)(hd:∀ k,(Value.slice R nr cr).ownBlock=some k→(Value.slice C nc cc).ownBlock≠some k) :
  TabV w1 rows cols nr nc (.pointer (some ⟨g,0,none⟩)) ((W.setCell ⟨g,0,none⟩ (.slice R nr cr)).setCell ⟨g,1,none⟩ (.slice C nc cc)):=by
 have hf:Frm (fun k=>k=g) W ((W.setCell ⟨g,0,none⟩ (.slice R nr cr)).setCell ⟨g,1,none⟩ (.slice C nc cc)):=(Frm.setCell W g 0 _).trans (Frm.setCell _ g 1 _)
 exact⟨g,R,cr,C,cc,rfl,hg,by simpa using (hb.set_ 0 _).set_ 1 _,zg ha hf (fun b hv e=>zw ha hb (by decide) hv e),zg hc hf (fun b hv e=>zw hc hb (by decide) hv e),(hx.setCell (p:=⟨g,0,none⟩) hg _).setCell (p:=⟨g,1,none⟩) hg _,za hd⟩
section
variable {w W:World} {n c m d m' d' L:Nat} {A B B':Option Addr} {s:Sys} {p:Aut} {nr nc cr cc:Nat} {R C:Option Addr} {rows cols:List ByteArray}
theorem zhj (h:Tch w A n B m B' m' s p L)(hT:TabAt w R nr C nc rows cols)(hI:zbz L (zt s p L) rows cols)(hcr:nr≤cr)(hcc:nc≤cc) :
  Calls Tryz.prog 210 #[.agg #[.bool false,.int .i64 0,.slice none 0 0,.slice none 0 0,.int .i64 s.al,.int .i64 s.st,.slice A n c,.int .i64 p.al,.slice B m d,.slice B' m' d',.int .i64 L],.agg #[.slice R nr cr,.slice C nc cc]] w fun e w'=>e=.returned (.tuple #[.string ((zav L (zt s p L) rows cols).getD ⟨#[]⟩),.bool (zav L (zt s p L) rows cols).isSome])∧Ext w w':=by
 have HV:=za (fun W (hW:Ext w W)=>zbK (c:=c) (d:=d) (d':=d') (h.ext hW) (hT.ext hW) hI hcr hcc)
 have HO:=za (fun W (hW:Ext w W)=>zfK (c:=c) (d:=d) (d':=d') (cr:=cr) (cc:=cc) (h.ext hW) (hT.ext hW) hI)
 generalize zav L (zt s p L) rows cols=op at *
 have hx0:Ext w ((w.alloc (.cells #[.bool false,.int .i64 0,.slice none 0 0,.slice none 0 0,.int .i64 s.al,.int .i64 s.st,.slice A n c,.int .i64 p.al,.slice B m d,.slice B' m' d',.int .i64 L] 98)).alloc (.cells #[.slice R nr cr,.slice C nc cc] 101)):=((Ext.refl _).alloc _).alloc _
 obtain⟨b1,b2⟩:=zE (Ext.refl ((w.alloc (.cells #[.bool false,.int .i64 0,.slice none 0 0,.slice none 0 0,.int .i64 s.al,.int .i64 s.st,.slice A n c,.int .i64 p.al,.slice B m d,.slice B' m' d',.int .i64 L] 98)).alloc (.cells #[.slice R nr cr,.slice C nc cc] 101)))
 clear h hT hI
 go_enter Tryz.func210,Tryz.ntmps210
 go_upto_region 1 with fail
 generalize (w.alloc (.cells #[.bool false,.int .i64 0,.slice none 0 0,.slice none 0 0,.int .i64 s.al,.int .i64 s.st,.slice A n c,.int .i64 p.al,.slice B m d,.slice B' m' d',.int .i64 L] 98)).alloc (.cells #[.slice R nr cr,.slice C nc cc] 101)=w1 at *
 have CB:=b1.cells
 have CT:=b2.cells
 have hww:=Ext.refl w1
 go_wp2_with (first
  |(go_at_call 208;refine (HV.out _ hx0).mono ?_;rintro e w2 ⟨rfl,hx2⟩)
  |(go_at_call 209;refine (HO.out _ (hx0.trans hx2)).mono ?_;rintro e w3 ⟨rfl,hx3⟩))
 go_ret2
 exact⟨rfl,hx0.trans (hx2.trans hx3)⟩
theorem zfS (h:Tch w A n B m B' m' s p L)(hT:TabAt w R nr C nc rows cols)(hI:zbz L (zt s p L) rows cols)(hcr:nr≤cr)(hcc:nc≤cc)(hcl:zav L (zt s p L) rows cols=none) :
  Calls Tryz.prog 129 #[.agg #[.bool false,.int .i64 0,.slice none 0 0,.slice none 0 0,.int .i64 s.al,.int .i64 s.st,.slice A n c,.int .i64 p.al,.slice B m d,.slice B' m' d',.int .i64 L],.agg #[.slice R nr cr,.slice C nc cc]] w fun e w'=>e=.returned (.bool true)∧Ext w w':=by
 have HV:=za (fun W (hW:Ext w W)=>zbK (c:=c) (d:=d) (d':=d') (h.ext hW) (hT.ext hW) hI hcr hcc)
 have HO:=za (fun W (hW:Ext w W)=>zhj (c:=c) (d:=d) (d':=d') (cr:=cr) (cc:=cc) (h.ext hW) (hT.ext hW) hI hcr hcc)
 rw [hcl] at HO
 have hx0:Ext w ((w.alloc (.cells #[.bool false,.int .i64 0,.slice none 0 0,.slice none 0 0,.int .i64 s.al,.int .i64 s.st,.slice A n c,.int .i64 p.al,.slice B m d,.slice B' m' d',.int .i64 L] 98)).alloc (.cells #[.slice R nr cr,.slice C nc cc] 101)):=((Ext.refl _).alloc _).alloc _
 obtain⟨b1,b2⟩:=zE (Ext.refl ((w.alloc (.cells #[.bool false,.int .i64 0,.slice none 0 0,.slice none 0 0,.int .i64 s.al,.int .i64 s.st,.slice A n c,.int .i64 p.al,.slice B m d,.slice B' m' d',.int .i64 L] 98)).alloc (.cells #[.slice R nr cr,.slice C nc cc] 101)))
 clear h hT hI hcl
 go_enter Tryz.func129,Tryz.ntmps129
 go_upto_region 1 with fail
 generalize (w.alloc (.cells #[.bool false,.int .i64 0,.slice none 0 0,.slice none 0 0,.int .i64 s.al,.int .i64 s.st,.slice A n c,.int .i64 p.al,.slice B m d,.slice B' m' d',.int .i64 L] 98)).alloc (.cells #[.slice R nr cr,.slice C nc cc] 101)=w1 at *
 have CB:=b1.cells
 have CT:=b2.cells
 have hww:=Ext.refl w1
 go_wp2_with (first
  |(go_at_call 210;refine (HO.out _ hx0).mono ?_;rintro e w2 ⟨rfl,hx2⟩)
  |(go_at_call 208;refine (HV.out _ (hx0.trans hx2)).mono ?_;rintro e w3 ⟨rfl,hx3⟩))
 go_ret
 exact⟨rfl,hx0.trans (hx2.trans hx3)⟩
theorem inB_snoc {r:ByteArray} {L l:Nat}(hr:inB r L=true)(hs:r.size≤1000)(hl:l<6)(hb:L.testBit l=true):inB (r++zbA l) L=true:=by
 unfold inB at hr ⊢
 simp only [Bool.and_eq_true,decide_eq_true_eq] at hr ⊢
 refine⟨by rw [ByteArray.size_append,zcc];omega,?_⟩
 unfold zfw at hr ⊢
 rw [ByteArray.data_append,Array.toList_append,List.all_append,hr.2,Bool.true_and]
 have e:(zbA l).data.toList=[UInt8.ofNat (97+l)]:=by
  unfold zbA
  rw [strOfNums_data]
  rfl
 rw [e]
 simp only [List.all_cons,List.all_nil,Bool.and_true]
 have e2:(UInt8.ofNat (97+l)).toNat=97+l:=by rw [UInt8.toNat_ofNat'];omega
 rw [e2]
 unfold hasB ltr
 rw [if_neg (by omega)]
 simp only [Bool.and_eq_true,decide_eq_true_eq]
 exact⟨by omega,by rw [show (((97+l:Nat):Int) - 97).toNat=l by omega];exact hb⟩
theorem openW_some {f:ByteArray→Bool} {x:ByteArray}(h:zav L f rows cols=some x):(∃ r l,r∈rows∧l<6∧L.testBit l=true∧x=r++zbA l)∧zbq f cols x∉rows.map (zbq f cols):=by
 unfold zav at h
 have h1:=List.mem_of_find?_eq_some h
 have h2:=List.find?_some h
 unfold candL at h1
 obtain⟨r,hr,h3⟩:=List.mem_flatMap.1 h1
 obtain⟨l,hl,rfl⟩:=List.mem_map.1 h3
 obtain⟨hl6,hb⟩:=zz.1 hl
 refine⟨⟨r,l,hr,hl6,hb,rfl⟩,fun hm=>?_⟩
 simp only [Bool.not_eq_true'] at h2
 rw [zbW] at h2
 refine h2 ?_
 obtain⟨y,hy,e⟩:=List.mem_map.1 hm
 unfold zal
 exact List.mem_map.2 ⟨y,hy,by rw [e]⟩
theorem zbz.grow {f:ByteArray→Bool} {x:ByteArray}(h:zbz L f rows cols)(hlen:rows.length<12)(hop:zav L f rows cols=some x):zbz L f (rows++[x]) cols:=by
 obtain⟨⟨r,l,hr,hl,hb,rfl⟩,hn⟩:=openW_some hop
 refine⟨by simp,by simp;omega,h.c1,h.c20,by rw [List.getElem?_append_left (by have:=h.r1;omega)];exact h.r0,h.c0,fun i y hi hy=>?_,h.cw,?_⟩
 ·rcases Nat.lt_or_ge i rows.length with h1|h1
  ·rw [List.getElem?_append_left h1] at hy
   obtain⟨h2,z,l',h3,h4,h5⟩:=h.rw_ i y hi hy
   exact⟨h2,z,l',h3,h4,by rw [List.take_append_of_le_length (by omega)];exact h5⟩
  ·rw [List.getElem?_append_right h1] at hy
   have hi2:i=rows.length:=by
    rcases Nat.eq_or_lt_of_le h1 with h2|h2
    ·exact h2.symm
    ·rw [List.getElem?_eq_none (by simp;omega)] at hy;cases hy
   subst hi2
   simp at hy
   subst hy
   have h2:=h.rin hr
   exact⟨inB_snoc h2.1 (by omega) hl hb,r,l,hl,rfl,by rw [List.take_append_of_le_length (Nat.le_refl _),List.take_length];exact hr⟩
 ·rw [List.map_append,List.map_singleton,List.nodup_append]
  refine⟨h.nd,by simp,fun a ha b hb' e=>?_⟩
  rw [List.mem_singleton] at hb'
  subst hb'
  subst e
  exact hn ha
noncomputable def zZ (L:Nat) (f:ByteArray→Bool) (cols:List ByteArray):Nat→List ByteArray→Option (List ByteArray)
 |0,rows=>match zav L f rows cols with|none=>some rows|some _=>none
 |k+1,rows=>match zav L f rows cols with|none=>some rows|some x=>zZ L f cols k (rows++[x])
theorem zbT {f:ByteArray→Bool} (k:Nat)(h:zav L f rows cols=none):zZ L f cols k rows=some rows:=by cases k<;>simp [zZ,h]
theorem zdp {f:ByteArray→Bool} {x:ByteArray}(h:zav L f rows cols=some x):zZ L f cols 0 rows=none:=by simp [zZ,h]
theorem zcs {f:ByteArray→Bool} {x:ByteArray} (k:Nat)(h:zav L f rows cols=some x):zZ L f cols (k+1) rows=zZ L f cols k (rows++[x]):=by simp [zZ,h]
theorem zgj {f:ByteArray→Bool}:∀ (k:Nat) (rows rows':List ByteArray),zbz L f rows cols→rows.length+k≤12→zZ L f cols k rows=some rows'→zbz L f rows' cols∧zav L f rows' cols=none∧∃ t,rows'=rows++t:=by
 intro k
 induction k with
 |zero =>
  intro rows rows' hI hk h
  cases ho:zav L f rows cols with
  |none=>rw [zbT 0 ho] at h;obtain rfl:=Option.some.inj h;exact⟨hI,ho,[],by simp⟩
  |some x=>rw [zdp ho] at h;cases h
 |succ k ih =>
  intro rows rows' hI hk h
  cases ho:zav L f rows cols with
  |none=>rw [zbT _ ho] at h;obtain rfl:=Option.some.inj h;exact⟨hI,ho,[],by simp⟩
  |some x =>
   rw [zcs _ ho] at h
   obtain⟨h1,h2,t,h3⟩:=ih (rows++[x]) rows' (hI.grow (by omega) ho) (by simp;omega) h
   exact⟨h1,h2,[x]++t,by rw [h3,List.append_assoc]⟩
def zch (w:World) (o:Option (List ByteArray × List ByteArray)) (e:Ending) (w':World):Prop:=
 Ext w w'∧((o=none∧e=.returned (.tuple #[.agg #[.slice none 0 0,.slice none 0 0],.bool false])) ∨
  ∃ (rs cs:List ByteArray) (nr nc:Nat) (R:Option Addr) (cr:Nat) (C:Option Addr) (cc:Nat),o=some (rs,cs)∧e=.returned (.tuple #[.agg #[.slice R nr cr,.slice C nc cc],.bool true]) ∧
   w'.ownsRow w.heap.size 9 1 (.slice R nr cr) nr (zL rs)∧w'.ownsRow w.heap.size 9 1 (.slice C nc cc) nc (zL cs))
def lenAt0 (W:World) (G:Nat):Nat:=match W.cell? ⟨G,0,none⟩ with|some (.slice _ n _)=>n|_=>0
theorem zdU {W:World} {G n c:Nat} {R:Option Addr} {v:Value} {t:TypeId}(h:Blk W G t #[.slice R n c,v]):lenAt0 W G=n:=by
 unfold lenAt0
 rw [h.cell 0]
 rfl
theorem yC08d1 {P:Prop}(h:P:=by
 have c6:=Blk.cell blk9
 have f6:=Blk.frozen blk9
 refine zb fun K hK=>?_
 go_simp
 refine hK.out _ _ ?_
 refine zf ?_
 go_wp2_with fail
 go_meet
 exact zaj ziQ ziR blk9 hx35 HG0.out hdis.out
 ):P:=h
theorem yC08c1 {P:Prop}(h:P:=by
 refine ze (fun K hK=>?_)
 refine zv _ _ _ _ rfl w1.heap.size 9 _ 1 16 Tryz.underlying99 zo rfl (by decide) (.slice (some ⟨bc9,0,none⟩) 0 0) 0 [] rfl ziR _ _ C nc cc (zL cols) rfl (HC1.out v34 hx34) (zr _) (by unfold maxLen;omega) (by omega) hx34.size ?_
 intro v9 v35 ownc8 hg hat
 rw [Nat.zero_add,List.nil_append] at ownc8
 obtain⟨Ac9,cc9,rfl⟩:=zi ownc8
 have hx35:=hx34.grown hg (fun k hk=>(ziR.lt k hk).1)
 have hsz:=hg.size
 have hbs:Hid (v34.heap.size=v34.heap.size):=za rfl
 have ziQ:=zg ziQ (Frm.of_grown hg) (fun k hk hS=>hrn_a_bc9.out k hk (by simpa [Value.ownBlock] using hS.symm))
 have blk9:Blk v35 gbox9 101 #[.slice none 0 0,.slice none 0 0]:=(hg.block gbox9 (Blk.lt blk9) (fun e=>zw ziR blk9 (by decide) e.symm rfl)).trans blk9
 have hdis0:Hid (∀ k,(Value.slice Ac9 nc cc9).ownBlock=some k→(Value.slice Aa9 nr ca9).ownBlock≠some k):=za (fun k hk hS=>by rcases hat with h1|h1;(rw [h1] at hk;simp [Value.ownBlock] at hk;exact hrn_a_bc9.out k hS hk.symm);(rw [h1] at hk;have:=Option.some.inj hk;have:=hrl_a.out k hS;omega))
 have hdis:Hid (∀ k,(Value.slice Aa9 nr ca9).ownBlock=some k→(Value.slice Ac9 nc cc9).ownBlock≠some k):=za (fun k hk hS=>hdis0.out k hS hk)
 generalize hbe:v34.heap.size=nc9 at *
 have hne_ba9_nc9:Hid (ba9≠nc9):=za (by have:=ziN.out;omega)
 have hne_bc9_nc9:Hid (bc9≠nc9):=za (by have:=ziO.out;omega)
 have ziN:Hid (ba9<v35.heap.size):=za (by have:=ziN.out;omega)
 have ziO:Hid (bc9<v35.heap.size):=za (by have:=ziO.out;omega)
 have hrl_a:Hid (∀ k,(Value.slice Aa9 nr ca9).ownBlock=some k→k<v35.heap.size):=za (fun k hk=>(ziQ.lt k hk).2)
 have hrl_c:Hid (∀ k,(Value.slice Ac9 nc cc9).ownBlock=some k→k<v35.heap.size):=za (fun k hk=>(ownc8.lt k hk).2)
 clear hbs hsz hbe
 refine hK.out _ _ hx35 ?_
 refine pT ?_
 have ziR:=ownc8
 refine uQ ?_
 exact yC08d1
 ):P:=h
theorem yC08b1 {P:Prop}(h:P:=by
 clear hbs ziL hbe
 refine ze (fun K hK=>?_)
 refine zv _ _ _ _ rfl w1.heap.size 9 _ 1 16 Tryz.underlying99 zo rfl (by decide) (.slice (some ⟨ba9,0,none⟩) 0 0) 0 [] rfl ziQ _ _ R nr cr (zL rows) rfl (HR1.out v33 hx33) (zr _) (by unfold maxLen;omega) (by omega) hx33.size ?_
 intro v9 v34 owna8 hg hat
 rw [Nat.zero_add,List.nil_append] at owna8
 obtain⟨Aa9,ca9,rfl⟩:=zi owna8
 have hx34:=hx33.grown hg (fun k hk=>(ziQ.lt k hk).1)
 have hsz:=hg.size
 have hbs:Hid (v33.heap.size=v33.heap.size):=za rfl
 have ziR:=zg ziR (Frm.of_grown hg) (fun k hk hS=>by simp [Value.ownBlock] at hk hS;exact ziW.out (hS.trans hk.symm))
 have blk9:Blk v34 gbox9 101 #[.slice none 0 0,.slice none 0 0]:=(hg.block gbox9 (Blk.lt blk9) (fun e=>zw ziQ blk9 (by decide) e.symm rfl)).trans blk9
 generalize hbe:v33.heap.size=na9 at *
 have hne_ba9_na9:Hid (ba9≠na9):=za (by have:=ziN.out;omega)
 have hne_bc9_na9:Hid (bc9≠na9):=za (by have:=ziO.out;omega)
 have ziN:Hid (ba9<v34.heap.size):=za (by have:=ziN.out;omega)
 have ziO:Hid (bc9<v34.heap.size):=za (by have:=ziO.out;omega)
 have hrn_a_bc9:Hid (∀ k,(Value.slice Aa9 nr ca9).ownBlock=some k→k≠bc9):=za (fun k hk=>by rcases hat with h1|h1;(rw [h1] at hk;simp [Value.ownBlock] at hk;rw [← hk];exact ziW.out);(rw [h1] at hk;rw [← Option.some.inj hk];exact (Ne.symm hne_bc9_na9.out)))
 have hrl_a:Hid (∀ k,(Value.slice Aa9 nr ca9).ownBlock=some k→k<v34.heap.size):=za (fun k hk=>(owna8.lt k hk).2)
 clear hbs hsz hbe
 refine hK.out _ _ hx34 ?_
 refine pT ?_
 have ziQ:=owna8
 exact yC08c1
 ):P:=h
theorem yC08b2 {P:Prop}(h:P:=by
 skip
 refine zv _ _ _ _ rfl w1.heap.size 9 _ 1 16 Tryz.underlying99 zo rfl (by decide) (.slice (some ⟨bc9,0,none⟩) 0 0) 0 [] rfl ziR _ _ C nc cc (zL cols) rfl (HC1.out v33 hx33) (zr _) (by unfold maxLen;omega) (by omega) hx33.size ?_
 intro v9 v34 ownc8 hg hat
 rw [Nat.zero_add,List.nil_append] at ownc8
 obtain⟨Ac9,cc9,rfl⟩:=zi ownc8
 have hx34:=hx33.grown hg (fun k hk=>(ziR.lt k hk).1)
 have hsz:=hg.size
 have hbs:Hid (v33.heap.size=v33.heap.size):=za rfl
 have ziQ:=zg ziQ (Frm.of_grown hg) (fun k hk hS=>hrn_a_bc9.out k hk (by simpa [Value.ownBlock] using hS.symm))
 have hdis0:Hid (∀ k,(Value.slice Ac9 nc cc9).ownBlock=some k→(Value.slice Aa9 nr ca9).ownBlock≠some k):=za (fun k hk hS=>by rcases hat with h1|h1;(rw [h1] at hk;simp [Value.ownBlock] at hk;exact hrn_a_bc9.out k hS hk.symm);(rw [h1] at hk;have:=Option.some.inj hk;have:=hrl_a.out k hS;omega))
 have hdis:Hid (∀ k,(Value.slice Aa9 nr ca9).ownBlock=some k→(Value.slice Ac9 nc cc9).ownBlock≠some k):=za (fun k hk hS=>hdis0.out k hS hk)
 generalize hbe:v33.heap.size=nc9 at *
 have hne_ba9_nc9:Hid (ba9≠nc9):=za (by have:=ziN.out;omega)
 have hne_bc9_nc9:Hid (bc9≠nc9):=za (by have:=ziO.out;omega)
 have ziN:Hid (ba9<v34.heap.size):=za (by have:=ziN.out;omega)
 have ziO:Hid (bc9<v34.heap.size):=za (by have:=ziO.out;omega)
 have hrl_a:Hid (∀ k,(Value.slice Aa9 nr ca9).ownBlock=some k→k<v34.heap.size):=za (fun k hk=>(ziQ.lt k hk).2)
 have hrl_c:Hid (∀ k,(Value.slice Ac9 nc cc9).ownBlock=some k→k<v34.heap.size):=za (fun k hk=>(ownc8.lt k hk).2)
 clear hbs hsz hbe
 refine hK.out _ _ hx34 ?_
 refine pT ?_
 have ziR:=ownc8
 refine uQ ?_
 refine ze fun K hK=>?_;go_simp
 have hx35:=hx34.alloc (.cells #[.slice none 0 0,.slice none 0 0] 101)
 have ziL:=(Ext.refl v34).alloc (.cells #[.slice none 0 0,.slice none 0 0] 101)
 have blk9:=Blk.new v34 101 #[.slice none 0 0,.slice none 0 0]
 refine hK.out _ _ hx35 ?_
 refine pT ?_
 have ziQ:=zh ziQ ziL
 have ziR:=zh ziR ziL
 have HG0:=za hx34.size
 have hbs:v34.heap.size<(v34.alloc (.cells #[.slice none 0 0,.slice none 0 0] 101)).heap.size:=by simp
 generalize hbe:v34.heap.size=gbox9 at *
 generalize v34.alloc (.cells #[.slice none 0 0,.slice none 0 0] 101)=v35 at *
 have ziN:Hid (ba9<v35.heap.size):=za (by have:=ziN.out;omega)
 have ziO:Hid (bc9<v35.heap.size):=za (by have:=ziO.out;omega)
 have hrl_a:Hid (∀ k,(Value.slice Aa9 nr ca9).ownBlock=some k→k<v35.heap.size):=za (fun k hk=>(ziQ.lt k hk).2)
 have hrl_c:Hid (∀ k,(Value.slice Ac9 nc cc9).ownBlock=some k→k<v35.heap.size):=za (fun k hk=>(ziR.lt k hk).2)
 clear hbs ziL hbe
 exact yC08d1
 ):P:=h
theorem yC08b3 {P:Prop}(h:P:=by
 clear hbs ziL hbe
 exact yC08c1
 ):P:=h
theorem yC08a1 {P:Prop}(h:P:=by
 clear hbs ziL hbe
 refine zm (fun K hK=>?_) (fun K hK=>?_)
 ·skip
  refine zv _ _ _ _ rfl w1.heap.size 9 _ 1 16 Tryz.underlying99 zo rfl (by decide) (.slice (some ⟨ba9,0,none⟩) 0 0) 0 [] rfl ziQ _ _ R nr cr (zL rows) rfl (HR1.out v32 hx32) (zr _) (by unfold maxLen;omega) (by omega) hx32.size ?_
  intro v9 v33 owna8 hg hat
  rw [Nat.zero_add,List.nil_append] at owna8
  obtain⟨Aa9,ca9,rfl⟩:=zi owna8
  have hx33:=hx32.grown hg (fun k hk=>(ziQ.lt k hk).1)
  have hsz:=hg.size
  have hbs:Hid (v32.heap.size=v32.heap.size):=za rfl
  have ziR:=zg ziR (Frm.of_grown hg) (fun k hk hS=>by simp [Value.ownBlock] at hk hS;exact ziW.out (hS.trans hk.symm))
  generalize hbe:v32.heap.size=na9 at *
  have hne_ba9_na9:Hid (ba9≠na9):=za (by have:=ziN.out;omega)
  have hne_bc9_na9:Hid (bc9≠na9):=za (by have:=ziO.out;omega)
  have ziN:Hid (ba9<v33.heap.size):=za (by have:=ziN.out;omega)
  have ziO:Hid (bc9<v33.heap.size):=za (by have:=ziO.out;omega)
  have hrn_a_bc9:Hid (∀ k,(Value.slice Aa9 nr ca9).ownBlock=some k→k≠bc9):=za (fun k hk=>by rcases hat with h1|h1;(rw [h1] at hk;simp [Value.ownBlock] at hk;rw [← hk];exact ziW.out);(rw [h1] at hk;rw [← Option.some.inj hk];exact (Ne.symm hne_bc9_na9.out)))
  have hrl_a:Hid (∀ k,(Value.slice Aa9 nr ca9).ownBlock=some k→k<v33.heap.size):=za (fun k hk=>(owna8.lt k hk).2)
  clear hbs hsz hbe
  refine hK.out _ _ hx33 ?_
  refine pT ?_
  have ziQ:=owna8
  refine zm (fun K hK=>?_) (fun K hK=>?_)
  ·exact yC08b2
  ·go_simp
   have hx34:=hx33.alloc (.cells #[.slice none 0 0,.slice none 0 0] 101)
   have ziL:=(Ext.refl v33).alloc (.cells #[.slice none 0 0,.slice none 0 0] 101)
   have blk9:=Blk.new v33 101 #[.slice none 0 0,.slice none 0 0]
   refine hK.out _ _ hx34 ?_
   refine pT ?_
   have ziQ:=zh ziQ ziL
   have ziR:=zh ziR ziL
   have HG0:=za hx33.size
   have hbs:v33.heap.size<(v33.alloc (.cells #[.slice none 0 0,.slice none 0 0] 101)).heap.size:=by simp
   generalize hbe:v33.heap.size=gbox9 at *
   generalize v33.alloc (.cells #[.slice none 0 0,.slice none 0 0] 101)=v34 at *
   have ziN:Hid (ba9<v34.heap.size):=za (by have:=ziN.out;omega)
   have ziO:Hid (bc9<v34.heap.size):=za (by have:=ziO.out;omega)
   have hrl_a:Hid (∀ k,(Value.slice Aa9 nr ca9).ownBlock=some k→k<v34.heap.size):=za (fun k hk=>(ziQ.lt k hk).2)
   exact yC08b3
 ·go_simp
  have hx33:=hx32.alloc (.cells #[.slice none 0 0,.slice none 0 0] 101)
  have ziL:=(Ext.refl v32).alloc (.cells #[.slice none 0 0,.slice none 0 0] 101)
  have blk9:=Blk.new v32 101 #[.slice none 0 0,.slice none 0 0]
  refine hK.out _ _ hx33 ?_
  refine pT ?_
  have ziQ:=zh ziQ ziL
  have ziR:=zh ziR ziL
  have HG0:=za hx32.size
  have hbs:v32.heap.size<(v32.alloc (.cells #[.slice none 0 0,.slice none 0 0] 101)).heap.size:=by simp
  generalize hbe:v32.heap.size=gbox9 at *
  generalize v32.alloc (.cells #[.slice none 0 0,.slice none 0 0] 101)=v33 at *
  have ziN:Hid (ba9<v33.heap.size):=za (by have:=ziN.out;omega)
  have ziO:Hid (bc9<v33.heap.size):=za (by have:=ziO.out;omega)
  exact yC08b1
 ):P:=h
theorem yC08a2 {P:Prop}(h:P:=by
 clear hbs ziL hbe
 refine zm (fun K hK=>?_) (fun K hK=>?_)
 ·skip
  refine zv _ _ _ _ rfl w1.heap.size 9 _ 1 16 Tryz.underlying99 zo rfl (by decide) (.slice (some ⟨ba9,0,none⟩) 0 0) 0 [] rfl ziQ _ _ R nr cr (zL rows) rfl (HR1.out v32 hx32) (zr _) (by unfold maxLen;omega) (by omega) hx32.size ?_
  intro v9 v33 owna8 hg hat
  rw [Nat.zero_add,List.nil_append] at owna8
  obtain⟨Aa9,ca9,rfl⟩:=zi owna8
  have hx33:=hx32.grown hg (fun k hk=>(ziQ.lt k hk).1)
  have hsz:=hg.size
  have hbs:Hid (v32.heap.size=v32.heap.size):=za rfl
  have blk9:Blk v33 gbox9 101 #[.slice none 0 0,.slice none 0 0]:=(hg.block gbox9 (Blk.lt blk9) (fun e=>zw ziQ blk9 (by decide) e.symm rfl)).trans blk9
  generalize hbe:v32.heap.size=na9 at *
  have hne_ba9_na9:Hid (ba9≠na9):=za (by have:=ziN.out;omega)
  have ziN:Hid (ba9<v33.heap.size):=za (by have:=ziN.out;omega)
  have hrl_a:Hid (∀ k,(Value.slice Aa9 nr ca9).ownBlock=some k→k<v33.heap.size):=za (fun k hk=>(owna8.lt k hk).2)
  clear hbs hsz hbe
  refine hK.out _ _ hx33 ?_
  refine pT ?_
  have ziQ:=owna8
  refine ze fun K hK=>?_;go_simp
  have hx34:=hx33.alloc (.cells #[] 9)
  have ziR:=zq (World.ownsRow_lit v33 (e:=9) (size:=1) #[] 0 (Nat.le_refl _) (by unfold maxLen;omega) rfl) hx33.size
  have ziL:=(Ext.refl v33).alloc (.cells #[] 9)
  refine hK.out _ _ hx34 ?_
  refine pT ?_
  have ziQ:=zh ziQ ziL
  have blk9:=Blk.ext blk9 ziL
  have hbs:v33.heap.size<(v33.alloc (.cells #[] 9)).heap.size:=by simp
  generalize hbe:v33.heap.size=bc9 at *
  generalize v33.alloc (.cells #[] 9)=v34 at *
  have ziW:Hid (ba9≠bc9):=za (by have:=ziN.out;omega)
  have hrn_a_bc9:Hid (∀ k,(Value.slice Aa9 nr ca9).ownBlock=some k→k≠bc9):=za (fun k hk=>by have:=hrl_a.out k hk;omega)
  have ziN:Hid (ba9<v34.heap.size):=za (by have:=ziN.out;omega)
  have hrl_a:Hid (∀ k,(Value.slice Aa9 nr ca9).ownBlock=some k→k<v34.heap.size):=za (fun k hk=>(ziQ.lt k hk).2)
  have ziO:Hid (bc9<v34.heap.size):=za hbs
  exact yC08b3
 ·go_simp
  have hx33:=hx32.alloc (.cells #[] 9)
  have ziR:=zq (World.ownsRow_lit v32 (e:=9) (size:=1) #[] 0 (Nat.le_refl _) (by unfold maxLen;omega) rfl) hx32.size
  have ziL:=(Ext.refl v32).alloc (.cells #[] 9)
  refine hK.out _ _ hx33 ?_
  refine pT ?_
  have ziQ:=zh ziQ ziL
  have blk9:=Blk.ext blk9 ziL
  have hbs:v32.heap.size<(v32.alloc (.cells #[] 9)).heap.size:=by simp
  generalize hbe:v32.heap.size=bc9 at *
  generalize v32.alloc (.cells #[] 9)=v33 at *
  have ziW:Hid (ba9≠bc9):=za (by have:=ziN.out;omega)
  have ziN:Hid (ba9<v33.heap.size):=za (by have:=ziN.out;omega)
  have ziO:Hid (bc9<v33.heap.size):=za hbs
  exact yC08b1
 ):P:=h
theorem yC08a3 {P:Prop}(h:P:=by
 clear hbs ziL hbe
 refine ze fun K hK=>?_;go_simp
 have hx33:=hx32.alloc (.cells #[] 9)
 have ziQ:=zq (World.ownsRow_lit v32 (e:=9) (size:=1) #[] 0 (Nat.le_refl _) (by unfold maxLen;omega) rfl) hx32.size
 have ziL:=(Ext.refl v32).alloc (.cells #[] 9)
 refine hK.out _ _ hx33 ?_
 refine pT ?_
 have ziR:=zh ziR ziL
 have blk9:=Blk.ext blk9 ziL
 have hbs:v32.heap.size<(v32.alloc (.cells #[] 9)).heap.size:=by simp
 generalize hbe:v32.heap.size=ba9 at *
 generalize v32.alloc (.cells #[] 9)=v33 at *
 have ziW:Hid (ba9≠bc9):=za (by have:=ziO.out;omega)
 have ziO:Hid (bc9<v33.heap.size):=za (by have:=ziO.out;omega)
 have ziN:Hid (ba9<v33.heap.size):=za hbs
 exact yC08b1
 ):P:=h
theorem yC08a4 {P:Prop}(h:P:=by
 exact yC08b3
 ):P:=h
theorem zdN (h:Tch w A n B m B' m' s p L)(hT:TabAt w R nr C nc rows cols)(hI:zbz L (zt s p L) rows cols)(hcr:nr≤cr)(hcc:nc≤cc) :
  Calls Tryz.prog 128 #[.agg #[.bool false,.int .i64 0,.slice none 0 0,.slice none 0 0,.int .i64 s.al,.int .i64 s.st,.slice A n c,.int .i64 p.al,.slice B m d,.slice B' m' d',.int .i64 L],.agg #[.slice R nr cr,.slice C nc cc]] w (zch w ((zZ L (zt s p L) cols (12 - rows.length) rows).map fun r=>(r,cols))):=by
 obtain⟨e1,e2⟩:=hT.nr
 have hr12:=hI.r12;have hc20:=hI.c20
 rw [e1] at hr12
 rw [e2] at hc20
 have HV:=za (fun W (hW:Ext w W)=>zbK (c:=c) (d:=d) (d':=d') (h.ext hW) (hT.ext hW) hI hcr hcc)
 have HO:=za (fun (R:Option Addr) (nr cr:Nat) (C:Option Addr) (nc cc:Nat) (rows:List ByteArray) W (hW:Ext w W) hT hI=>zfK (c:=c) (d:=d) (d':=d') (nr:=nr) (nc:=nc) (R:=R) (C:=C) (cr:=cr) (cc:=cc) (rows:=rows) (cols:=cols) (h.ext hW) hT hI)
 obtain⟨lo,hi,lo2,hi2,h1,h2⟩:=hT
 have HR:=za (fun W (hW:Ext w W)=>h1.ext hW)
 have HC:=za (fun W (hW:Ext w W)=>h2.ext hW)
 have HI:=za hI
 have He:=za (And.intro e1 e2)
 obtain⟨fin,ziM⟩:∃ fin,Hid (zZ L (zt s p L) cols (12 - rows.length) rows=fin):=⟨_,rfl⟩
 rw [ziM.out]
 have hx0:Ext w (((w.alloc (.cells #[.bool false,.int .i64 0,.slice none 0 0,.slice none 0 0,.int .i64 s.al,.int .i64 s.st,.slice A n c,.int .i64 p.al,.slice B m d,.slice B' m' d',.int .i64 L] 98)).alloc (.cells #[.slice R nr cr,.slice C nc cc] 101)).alloc (.cells #[.slice none 0 0,.slice none 0 0] 101)):=(((Ext.refl _).alloc _).alloc _).alloc _
 obtain⟨b1,b2,b3⟩:=zK (Ext.refl (((w.alloc (.cells #[.bool false,.int .i64 0,.slice none 0 0,.slice none 0 0,.int .i64 s.al,.int .i64 s.st,.slice A n c,.int .i64 p.al,.slice B m d,.slice B' m' d',.int .i64 L] 98)).alloc (.cells #[.slice R nr cr,.slice C nc cc] 101)).alloc (.cells #[.slice none 0 0,.slice none 0 0] 101)))
 clear h h1 h2 hI e1 e2
 go_enter Tryz.func128,Tryz.ntmps128
 go_upto_region 1 with fail
 generalize ((w.alloc (.cells #[.bool false,.int .i64 0,.slice none 0 0,.slice none 0 0,.int .i64 s.al,.int .i64 s.st,.slice A n c,.int .i64 p.al,.slice B m d,.slice B' m' d',.int .i64 L] 98)).alloc (.cells #[.slice R nr cr,.slice C nc cc] 101)).alloc (.cells #[.slice none 0 0,.slice none 0 0] 101)=w0 at *
 have CB:=b1.cells
 have CT:=b2.cells
 have hb3:=b3.lt
 have hww:=Ext.refl w0
 go_upto_region 3 with (first
  |(go_at_call 208;refine (HV.out _ hx0).mono ?_;rintro e w1 ⟨rfl,hx01⟩))
 have hx1:=hx0.trans hx01
 have hs1:=hx01.size
 have HR1:=za (fun W (hW:Ext w1 W)=>HR.out W (hx1.trans hW))
 have HC1:=za (fun W (hW:Ext w1 W)=>HC.out W (hx1.trans hW))
 have CT1:∀ W,Ext w1 W→∀ q,W.cell? ⟨w.heap.size+1,q,none⟩=#[Value.slice R nr cr,.slice C nc cc][q]?:=fun W hW=>CT W (hx01.trans hW)
 go_cut [6] (fun v wx=>TabV w1 rows cols nr nc v wx)
 case first =>
  clear CB CT hww HV HO
  have X0:Ext w1 w1.drew:=(Ext.refl w1).drew
  refine uR (fun X=>Ext w1 X) [10] (zu.app [1,2,5,6] (zu.three 0 (zu.three 3 (zu.two 4 (zu.two 7 (zu.of [8,9,10]) 9 (zu.of [7,8,10])) 9 (zu.of [4,7,8,10])) 4 (zu.two 3 (zu.two 7 (zu.of [8,9,10]) 9 (zu.of [7,8,10])) 9 (zu.of [3,7,8,10])) 9 (zu.two 3 (zu.of [4,7,8,10]) 4 (zu.of [3,7,8,10]))) 4 (zu.two 0 (zu.two 3 (zu.two 7 (zu.of [8,9,10]) 9 (zu.of [7,8,10])) 9 (zu.of [3,7,8,10])) 9 (zu.of [0,3,7,8,10])) 9 (zu.two 0 (zu.two 3 (zu.of [4,7,8,10]) 4 (zu.of [3,7,8,10])) 4 (zu.of [0,3,7,8,10])))) ?_
  generalize w1.drew=W0 at *
  refine uQ ?_
  refine zay (fun K hK=>?_) (fun K hK=>?_) (fun K hK=>?_)
  ·go_simp
   have hx31:=X0.alloc (.cells #[] 9)
   have ziQ:=zq (World.ownsRow_lit W0 (e:=9) (size:=1) #[] 0 (Nat.le_refl _) (by unfold maxLen;omega) rfl) X0.size
   have ziL:=(Ext.refl W0).alloc (.cells #[] 9)
   refine hK.out _ _ hx31 ?_
   refine pT ?_
   have hbs:W0.heap.size<(W0.alloc (.cells #[] 9)).heap.size:=by simp
   generalize hbe:W0.heap.size=ba9 at *
   generalize W0.alloc (.cells #[] 9)=v31 at *
   have ziN:Hid (ba9<v31.heap.size):=za hbs
   clear hbs ziL hbe
   refine zay (fun K hK=>?_) (fun K hK=>?_) (fun K hK=>?_)
   ·skip
    refine zv _ _ _ _ rfl w1.heap.size 9 _ 1 16 Tryz.underlying99 zo rfl (by decide) (.slice (some ⟨ba9,0,none⟩) 0 0) 0 [] rfl ziQ _ _ R nr cr (zL rows) rfl (HR1.out v31 hx31) (zr _) (by unfold maxLen;omega) (by omega) hx31.size ?_
    intro v9 v32 owna8 hg hat
    rw [Nat.zero_add,List.nil_append] at owna8
    obtain⟨Aa9,ca9,rfl⟩:=zi owna8
    have hx32:=hx31.grown hg (fun k hk=>(ziQ.lt k hk).1)
    have hsz:=hg.size
    have hbs:Hid (v31.heap.size=v31.heap.size):=za rfl
    generalize hbe:v31.heap.size=na9 at *
    have hne_ba9_na9:Hid (ba9≠na9):=za (by have:=ziN.out;omega)
    have ziN:Hid (ba9<v32.heap.size):=za (by have:=ziN.out;omega)
    have hrl_a:Hid (∀ k,(Value.slice Aa9 nr ca9).ownBlock=some k→k<v32.heap.size):=za (fun k hk=>(owna8.lt k hk).2)
    clear hbs hsz hbe
    refine hK.out _ _ hx32 ?_
    refine pT ?_
    have ziQ:=owna8
    refine zm (fun K hK=>?_) (fun K hK=>?_)
    ·go_simp
     have hx33:=hx32.alloc (.cells #[] 9)
     have ziR:=zq (World.ownsRow_lit v32 (e:=9) (size:=1) #[] 0 (Nat.le_refl _) (by unfold maxLen;omega) rfl) hx32.size
     have ziL:=(Ext.refl v32).alloc (.cells #[] 9)
     refine hK.out _ _ hx33 ?_
     refine pT ?_
     have ziQ:=zh ziQ ziL
     have hbs:v32.heap.size<(v32.alloc (.cells #[] 9)).heap.size:=by simp
     generalize hbe:v32.heap.size=bc9 at *
     generalize v32.alloc (.cells #[] 9)=v33 at *
     have ziW:Hid (ba9≠bc9):=za (by have:=ziN.out;omega)
     have hrn_a_bc9:Hid (∀ k,(Value.slice Aa9 nr ca9).ownBlock=some k→k≠bc9):=za (fun k hk=>by have:=hrl_a.out k hk;omega)
     have ziN:Hid (ba9<v33.heap.size):=za (by have:=ziN.out;omega)
     have hrl_a:Hid (∀ k,(Value.slice Aa9 nr ca9).ownBlock=some k→k<v33.heap.size):=za (fun k hk=>(ziQ.lt k hk).2)
     have ziO:Hid (bc9<v33.heap.size):=za hbs
     clear hbs ziL hbe
     refine zm (fun K hK=>?_) (fun K hK=>?_)
     ·exact yC08b2
     ·go_simp
      have hx34:=hx33.alloc (.cells #[.slice none 0 0,.slice none 0 0] 101)
      have ziL:=(Ext.refl v33).alloc (.cells #[.slice none 0 0,.slice none 0 0] 101)
      have blk9:=Blk.new v33 101 #[.slice none 0 0,.slice none 0 0]
      refine hK.out _ _ hx34 ?_
      refine pT ?_
      have ziQ:=zh ziQ ziL
      have ziR:=zh ziR ziL
      have HG0:=za hx33.size
      have hbs:v33.heap.size<(v33.alloc (.cells #[.slice none 0 0,.slice none 0 0] 101)).heap.size:=by simp
      generalize hbe:v33.heap.size=gbox9 at *
      generalize v33.alloc (.cells #[.slice none 0 0,.slice none 0 0] 101)=v34 at *
      have ziN:Hid (ba9<v34.heap.size):=za (by have:=ziN.out;omega)
      have ziO:Hid (bc9<v34.heap.size):=za (by have:=ziO.out;omega)
      have hrl_a:Hid (∀ k,(Value.slice Aa9 nr ca9).ownBlock=some k→k<v34.heap.size):=za (fun k hk=>(ziQ.lt k hk).2)
      exact yC08a4
    ·go_simp
     have hx33:=hx32.alloc (.cells #[.slice none 0 0,.slice none 0 0] 101)
     have ziL:=(Ext.refl v32).alloc (.cells #[.slice none 0 0,.slice none 0 0] 101)
     have blk9:=Blk.new v32 101 #[.slice none 0 0,.slice none 0 0]
     refine hK.out _ _ hx33 ?_
     refine pT ?_
     have ziQ:=zh ziQ ziL
     have HG0:=za hx32.size
     have hbs:v32.heap.size<(v32.alloc (.cells #[.slice none 0 0,.slice none 0 0] 101)).heap.size:=by simp
     generalize hbe:v32.heap.size=gbox9 at *
     generalize v32.alloc (.cells #[.slice none 0 0,.slice none 0 0] 101)=v33 at *
     have ziN:Hid (ba9<v33.heap.size):=za (by have:=ziN.out;omega)
     have hrl_a:Hid (∀ k,(Value.slice Aa9 nr ca9).ownBlock=some k→k<v33.heap.size):=za (fun k hk=>(ziQ.lt k hk).2)
     clear hbs ziL hbe
     refine ze fun K hK=>?_;go_simp
     have hx34:=hx33.alloc (.cells #[] 9)
     have ziR:=zq (World.ownsRow_lit v33 (e:=9) (size:=1) #[] 0 (Nat.le_refl _) (by unfold maxLen;omega) rfl) hx33.size
     have ziL:=(Ext.refl v33).alloc (.cells #[] 9)
     refine hK.out _ _ hx34 ?_
     refine pT ?_
     have ziQ:=zh ziQ ziL
     have blk9:=Blk.ext blk9 ziL
     have hbs:v33.heap.size<(v33.alloc (.cells #[] 9)).heap.size:=by simp
     generalize hbe:v33.heap.size=bc9 at *
     generalize v33.alloc (.cells #[] 9)=v34 at *
     have ziW:Hid (ba9≠bc9):=za (by have:=ziN.out;omega)
     have hrn_a_bc9:Hid (∀ k,(Value.slice Aa9 nr ca9).ownBlock=some k→k≠bc9):=za (fun k hk=>by have:=hrl_a.out k hk;omega)
     have ziN:Hid (ba9<v34.heap.size):=za (by have:=ziN.out;omega)
     have hrl_a:Hid (∀ k,(Value.slice Aa9 nr ca9).ownBlock=some k→k<v34.heap.size):=za (fun k hk=>(ziQ.lt k hk).2)
     have ziO:Hid (bc9<v34.heap.size):=za hbs
     exact yC08a4
   ·go_simp
    have hx32:=hx31.alloc (.cells #[] 9)
    have ziR:=zq (World.ownsRow_lit v31 (e:=9) (size:=1) #[] 0 (Nat.le_refl _) (by unfold maxLen;omega) rfl) hx31.size
    have ziL:=(Ext.refl v31).alloc (.cells #[] 9)
    refine hK.out _ _ hx32 ?_
    refine pT ?_
    have ziQ:=zh ziQ ziL
    have hbs:v31.heap.size<(v31.alloc (.cells #[] 9)).heap.size:=by simp
    generalize hbe:v31.heap.size=bc9 at *
    generalize v31.alloc (.cells #[] 9)=v32 at *
    have ziW:Hid (ba9≠bc9):=za (by have:=ziN.out;omega)
    have ziN:Hid (ba9<v32.heap.size):=za (by have:=ziN.out;omega)
    have ziO:Hid (bc9<v32.heap.size):=za hbs
    exact yC08a1
   ·go_simp
    have hx32:=hx31.alloc (.cells #[.slice none 0 0,.slice none 0 0] 101)
    have ziL:=(Ext.refl v31).alloc (.cells #[.slice none 0 0,.slice none 0 0] 101)
    have blk9:=Blk.new v31 101 #[.slice none 0 0,.slice none 0 0]
    refine hK.out _ _ hx32 ?_
    refine pT ?_
    have ziQ:=zh ziQ ziL
    have HG0:=za hx31.size
    have hbs:v31.heap.size<(v31.alloc (.cells #[.slice none 0 0,.slice none 0 0] 101)).heap.size:=by simp
    generalize hbe:v31.heap.size=gbox9 at *
    generalize v31.alloc (.cells #[.slice none 0 0,.slice none 0 0] 101)=v32 at *
    have ziN:Hid (ba9<v32.heap.size):=za (by have:=ziN.out;omega)
    exact yC08a2
  ·go_simp
   have hx31:=X0.alloc (.cells #[] 9)
   have ziR:=zq (World.ownsRow_lit W0 (e:=9) (size:=1) #[] 0 (Nat.le_refl _) (by unfold maxLen;omega) rfl) X0.size
   have ziL:=(Ext.refl W0).alloc (.cells #[] 9)
   refine hK.out _ _ hx31 ?_
   refine pT ?_
   have hbs:W0.heap.size<(W0.alloc (.cells #[] 9)).heap.size:=by simp
   generalize hbe:W0.heap.size=bc9 at *
   generalize W0.alloc (.cells #[] 9)=v31 at *
   have ziO:Hid (bc9<v31.heap.size):=za hbs
   clear hbs ziL hbe
   refine zm (fun K hK=>?_) (fun K hK=>?_)
   ·go_simp
    have hx32:=hx31.alloc (.cells #[] 9)
    have ziQ:=zq (World.ownsRow_lit v31 (e:=9) (size:=1) #[] 0 (Nat.le_refl _) (by unfold maxLen;omega) rfl) hx31.size
    have ziL:=(Ext.refl v31).alloc (.cells #[] 9)
    refine hK.out _ _ hx32 ?_
    refine pT ?_
    have ziR:=zh ziR ziL
    have hbs:v31.heap.size<(v31.alloc (.cells #[] 9)).heap.size:=by simp
    generalize hbe:v31.heap.size=ba9 at *
    generalize v31.alloc (.cells #[] 9)=v32 at *
    have ziW:Hid (ba9≠bc9):=za (by have:=ziO.out;omega)
    have ziO:Hid (bc9<v32.heap.size):=za (by have:=ziO.out;omega)
    have ziN:Hid (ba9<v32.heap.size):=za hbs
    exact yC08a1
   ·go_simp
    have hx32:=hx31.alloc (.cells #[.slice none 0 0,.slice none 0 0] 101)
    have ziL:=(Ext.refl v31).alloc (.cells #[.slice none 0 0,.slice none 0 0] 101)
    have blk9:=Blk.new v31 101 #[.slice none 0 0,.slice none 0 0]
    refine hK.out _ _ hx32 ?_
    refine pT ?_
    have ziR:=zh ziR ziL
    have HG0:=za hx31.size
    have hbs:v31.heap.size<(v31.alloc (.cells #[.slice none 0 0,.slice none 0 0] 101)).heap.size:=by simp
    generalize hbe:v31.heap.size=gbox9 at *
    generalize v31.alloc (.cells #[.slice none 0 0,.slice none 0 0] 101)=v32 at *
    have ziO:Hid (bc9<v32.heap.size):=za (by have:=ziO.out;omega)
    exact yC08a3
  ·go_simp
   have hx31:=X0.alloc (.cells #[.slice none 0 0,.slice none 0 0] 101)
   have ziL:=(Ext.refl W0).alloc (.cells #[.slice none 0 0,.slice none 0 0] 101)
   have blk9:=Blk.new W0 101 #[.slice none 0 0,.slice none 0 0]
   refine hK.out _ _ hx31 ?_
   refine pT ?_
   have HG0:=za X0.size
   have hbs:W0.heap.size<(W0.alloc (.cells #[.slice none 0 0,.slice none 0 0] 101)).heap.size:=by simp
   generalize hbe:W0.heap.size=gbox9 at *
   generalize W0.alloc (.cells #[.slice none 0 0,.slice none 0 0] 101)=v31 at *
   clear hbs ziL hbe
   refine zm (fun K hK=>?_) (fun K hK=>?_)
   ·go_simp
    have hx32:=hx31.alloc (.cells #[] 9)
    have ziQ:=zq (World.ownsRow_lit v31 (e:=9) (size:=1) #[] 0 (Nat.le_refl _) (by unfold maxLen;omega) rfl) hx31.size
    have ziL:=(Ext.refl v31).alloc (.cells #[] 9)
    refine hK.out _ _ hx32 ?_
    refine pT ?_
    have blk9:=Blk.ext blk9 ziL
    have hbs:v31.heap.size<(v31.alloc (.cells #[] 9)).heap.size:=by simp
    generalize hbe:v31.heap.size=ba9 at *
    generalize v31.alloc (.cells #[] 9)=v32 at *
    have ziN:Hid (ba9<v32.heap.size):=za hbs
    exact yC08a2
   ·go_simp
    have hx32:=hx31.alloc (.cells #[] 9)
    have ziR:=zq (World.ownsRow_lit v31 (e:=9) (size:=1) #[] 0 (Nat.le_refl _) (by unfold maxLen;omega) rfl) hx31.size
    have ziL:=(Ext.refl v31).alloc (.cells #[] 9)
    refine hK.out _ _ hx32 ?_
    refine pT ?_
    have blk9:=Blk.ext blk9 ziL
    have hbs:v31.heap.size<(v31.alloc (.cells #[] 9)).heap.size:=by simp
    generalize hbe:v31.heap.size=bc9 at *
    generalize v31.alloc (.cells #[] 9)=v32 at *
    have ziO:Hid (bc9<v32.heap.size):=za hbs
    exact yC08a3
 case rest =>
  obtain⟨g6,R1,cr1,C1,cc1,rfl,hg6,b6,oR,oC,hxc,hdis⟩:=hcut
  obtain⟨wE,hwE⟩:∃ wE,wE=wc:=⟨_,rfl⟩
  subst hwE
  have hk0:=za (And.intro He.out.1 HI.out)
  have hxE:=hx1.trans hxc
  have HT1:=za (show TabAt wE R1 nr C1 nc rows cols from ⟨_,_,_,_,Reads.of_own oR,Reads.of_own oC⟩)
  have k6:=fun W (hW:Ext wE W)=>(b6.ext hW).cell
  have hwE:=Ext.refl wE
  have hx0E:=hx01.trans hxc
  have CB1:∀ W,Ext wE W→∀ q,W.cell? ⟨w.heap.size,q,none⟩=#[Value.bool false,.int .i64 0,.slice none 0 0,.slice none 0 0,.int .i64 s.al,.int .i64 s.st,.slice A n c,.int .i64 p.al,.slice B m d,.slice B' m' d',.int .i64 L][q]?:=fun W hW=>CB W (hx0E.trans hW)
  go_wp2_with (first
   |(go_at_call 209;refine (HO.out _ _ _ _ _ _ rows _ hxE HT1.out HI.out).mono ?_;rintro e w3 ⟨rfl,hx3⟩))
  have hx13:=hxc.trans hx3
  have b63:=b6.ext hx3
  have oR3:=zh oR hx3
  have oC3:=zh oC hx3
  clear k6 oR oC b6 CB1 CT CT1 hwE hww
  go_loopw [7,8] (fun v7 v8 wr=>∃ (rs:List ByteArray) (k:Nat) (R1:Option Addr) (cr1:Nat),v7=.string ((zav L (zt s p L) rs cols).getD ⟨#[]⟩)∧v8=.bool (zav L (zt s p L) rs cols).isSome∧Hid (rs.length=k∧zbz L (zt s p L) rs cols)∧Hid (zZ L (zt s p L) cols (12 - k) rs=fin)∧k≤12∧Blk wr g6 101 #[.slice R1 k cr1,.slice C1 nc cc1]∧wr.ownsRow w1.heap.size 9 1 (.slice R1 k cr1) k (zL rs)∧wr.ownsRow w1.heap.size 9 1 (.slice C1 nc cc1) nc (zL cols)∧Hid (∀ j,(Value.slice R1 k cr1).ownBlock=some j→(Value.slice C1 nc cc1).ownBlock≠some j)∧Ext w1 wr) (fun _ _ wr=>13 - lenAt0 wr g6)
  case atStart=>exact⟨rows,nr,R1,cr1,rfl,rfl,hk0,za (by rw [← He.out.1];exact ziM.out),hr12,b63,oR3,oC3,hdis,hx13⟩
  case round =>
   clear b63 oR3 oC3 hdis hx13 hx3
   obtain⟨rs,k,R2,cr2,rfl,rfl,hki,hcl,hk12,b6,oR,oC,hdis,hxr⟩:=hrel
   obtain⟨op,hop⟩:∃ op,Hid (zav L (zt s p L) rs cols=op):=⟨_,rfl⟩
   rw [hop.out]
   have k6:=b6.cell
   have f6:=b6.frozen
   have hmes:=za (zdU b6)
   have b3r:=b3.ext (hx01.trans hxr)
   have kz:=b3r.cell
   have fz:=b3r.frozen
   cases op with
   |none =>
    have hfn:=za (show fin=some rs by rw [← hcl.out,zbT _ hop.out])
    have hf:Frm (fun k=>k=w.heap.size+1+1) wr ((wr.setCell ⟨w.heap.size+1+1,0,none⟩ (.slice R2 k cr2)).setCell ⟨w.heap.size+1+1,1,none⟩ (.slice C1 nc cc1)):=(Frm.setCell wr _ 0 _).trans (Frm.setCell _ _ 1 _)
    have cf:=(show Blk ((wr.setCell ⟨w.heap.size+1+1,0,none⟩ (.slice R2 k cr2)).setCell ⟨w.heap.size+1+1,1,none⟩ (.slice C1 nc cc1)) (w.heap.size+1+1) 101 #[.slice R2 k cr2,.slice C1 nc cc1] by simpa using (b3r.set_ 0 (.slice R2 k cr2)).set_ 1 (.slice C1 nc cc1)).cell
    have hret:=za (show zch w (fin.map fun r=>(r,cols)) (.returned (.tuple #[.agg #[.slice R2 k cr2,.slice C1 nc cc1],.bool true])) ((wr.setCell ⟨w.heap.size+1+1,0,none⟩ (.slice R2 k cr2)).setCell ⟨w.heap.size+1+1,1,none⟩ (.slice C1 nc cc1)) from
     ⟨((hx1.trans hxr).setCell (p:=⟨w.heap.size+1+1,0,none⟩) (by dsimp only;omega) _).setCell (p:=⟨w.heap.size+1+1,1,none⟩) (by dsimp only;omega) _,.inr ⟨rs,cols,k,nc,R2,cr2,C1,cc1,by rw [hfn.out];rfl,rfl,zg (zq oR hx1.size) hf (fun b hv e=>zw oR b3r (by decide) hv e),zg (zq oC hx1.size) hf (fun b hv e=>zw oC b3r (by decide) hv e)⟩⟩)
    clear hf
    go_wp2_with fail
    exact bodyPost_ret (v:=.tuple #[.agg #[.slice R2 k cr2,.slice C1 nc cc1],.bool true]) (by simp [results,Tryz.results128,go_sem,cf]) rfl hret.out
   |some x =>
    by_cases h12:k=12
    ·have hfn:=za (show fin=none by rw [← hcl.out,h12];exact zdp hop.out)
     have heq:((k:Int)==12)=true:=by rw [h12];rfl
     clear h12
     have cf:=(show Blk ((wr.setCell ⟨w.heap.size+1+1,0,none⟩ (.slice none 0 0)).setCell ⟨w.heap.size+1+1,1,none⟩ (.slice none 0 0)) (w.heap.size+1+1) 101 #[.slice none 0 0,.slice none 0 0] by simpa using (b3r.set_ 0 (.slice none 0 0)).set_ 1 (.slice none 0 0)).cell
     have hret:=za (show zch w (fin.map fun r=>(r,cols)) (.returned (.tuple #[.agg #[.slice none 0 0,.slice none 0 0],.bool false])) ((wr.setCell ⟨w.heap.size+1+1,0,none⟩ (.slice none 0 0)).setCell ⟨w.heap.size+1+1,1,none⟩ (.slice none 0 0)) from
      ⟨((hx1.trans hxr).setCell (p:=⟨w.heap.size+1+1,0,none⟩) (by dsimp only;omega) _).setCell (p:=⟨w.heap.size+1+1,1,none⟩) (by dsimp only;omega) _,.inl ⟨by rw [hfn.out];rfl,rfl⟩⟩)
     go_wp2_with fail
     exact bodyPost_ret (v:=.tuple #[.agg #[.slice none 0 0,.slice none 0 0],.bool false]) (by simp [results,Tryz.results128,go_sem,cf]) rfl hret.out
    ·have hne:((k:Int)==12)=false:=by simp;omega
     have hgrow:=za (show zbz L (zt s p L) (rs++[x]) cols from hki.out.2.grow (by rw [hki.out.1];omega) hop.out)
     have hcl2:=za (show zZ L (zt s p L) cols (12 - (k+1)) (rs++[x])=fin by
      rw [← hcl.out,show 12 - k=(12 - (k+1))+1 by omega,zcs _ hop.out])
     go_upto_region 9 with (at_builtin;refine zak w1 wr rfl _ _ _ rfl 9 _ 1 16 Tryz.underlying99 zo rfl (by decide) (.slice R2 k cr2) k (zL rs) _ _ rfl rfl hxr oR rfl (cells_str _) (by unfold maxLen;omega) (by omega) ?_;intro v5 w5 hx5 ziV hg5 hat5;obtain⟨A5,c5,rfl⟩:=zi ziV;have b65:Blk w5 g6 101 #[.slice R2 k cr2,.slice C1 nc cc1]:=(hg5.block g6 (Blk.lt b6) (fun e=>zw oR b6 (by decide) e.symm rfl)).trans b6;have k65:=Blk.cell b65;have f65:=Blk.frozen b65)
     have oC5:=zg oC (Frm.of_grown hg5) (fun b hv e=>hdis.out b e hv)
     have hdis5:=za (show ∀ j,(Value.slice A5 (k+1) c5).ownBlock=some j→(Value.slice C1 nc cc1).ownBlock≠some j from fun j hj hc=>by
      rcases hat5 with h1|h1
      ·rw [h1] at hj;exact hdis.out j hj hc
      ·rw [h1] at hj
       have:=Option.some.inj hj
       have:=(oC.lt j hc).2
       omega)
     have hf5:Frm (fun k=>k=g6) w5 (w5.setCell ⟨g6,0,none⟩ (.slice A5 (k+1) c5)):=Frm.setCell w5 g6 0 _
     have oC6:=zg oC5 hf5 (fun b hv e=>zw oC5 b65 (by decide) hv e)
     have oR6:=zg ziV hf5 (fun b hv e=>zw ziV b65 (by decide) hv e)
     have b66:Blk (w5.setCell ⟨g6,0,none⟩ (.slice A5 (k+1) c5)) g6 101 #[.slice A5 (k+1) c5,.slice C1 nc cc1]:=by simpa using b65.set_ 0 (.slice A5 (k+1) c5)
     have hx6:=hx5.setCell (p:=⟨g6,0,none⟩) hg6 (.slice A5 (k+1) c5)
     rw [show zL rs++#[Value.string x].toList=zL (rs++[x]) by rw [strs_snoc]] at oR6
     clear k6 f6 kz fz b3r b6 oR oC hf5 k65 f65 b65 oC5 ziV hx5 hg5 hat5 hdis
     generalize w5.setCell ⟨g6,0,none⟩ (.slice A5 (k+1) c5)=w6 at *
     have CB6:∀ W,Ext w6 W→∀ q,W.cell? ⟨w.heap.size,q,none⟩=#[Value.bool false,.int .i64 0,.slice none 0 0,.slice none 0 0,.int .i64 s.al,.int .i64 s.st,.slice A n c,.int .i64 p.al,.slice B m d,.slice B' m' d',.int .i64 L][q]?:=fun W hW=>CB W (hx01.trans (hx6.trans hW))
     have CK6:=b66.cells
     have HT6:=za (show TabAt w6 A5 (k+1) C1 nc (rs++[x]) cols from ⟨_,_,_,_,Reads.of_own oR6,Reads.of_own oC6⟩)
     have hwE:=Ext.refl w6
     go_wp2_with (first
      |(go_at_call 209;refine (HO.out _ _ _ _ _ _ (rs++[x]) _ (hx1.trans hx6) HT6.out hgrow.out).mono ?_;rintro e w7 ⟨rfl,hx7⟩))
     have hmes2:=za (zdU (b66.ext hx7))
     go_roundw
     case rel=>exact⟨rs++[x],k+1,A5,c5,rfl,rfl,za ⟨by rw [List.length_append,hki.out.1];rfl,hgrow.out⟩,hcl2,by omega,b66.ext hx7,zh oR6 hx7,zh oC6 hx7,hdis5,hx6.trans hx7⟩
     case measure=>have h1:=hmes.out;have h2:=hmes2.out;omega
end
theorem zbz.first (L:Nat) (f:ByteArray→Bool):zbz L f [⟨#[]⟩] [⟨#[]⟩]:=
 ⟨Nat.le_refl _,by decide,Nat.le_refl _,by decide,rfl,rfl,(fun i x hi hx=>by rw [List.getElem?_eq_none (by simpa using hi)] at hx;cases hx),(fun i x hi hx=>by rw [List.getElem?_eq_none (by simpa using hi)] at hx;cases hx),by simp⟩
noncomputable def zhw (zs:List ByteArray) (z:ByteArray):Nat:=zs.findIdx fun y=>zcm [y] z
theorem zig {zs:List ByteArray} {z:ByteArray}(h:z∈zs):zhw zs z<zs.length:=List.findIdx_lt_length_of_exists ⟨z,h,zai.2 (by simp)⟩
theorem idxS_at {zs:List ByteArray} {z:ByteArray}(h:z∈zs):zs[zhw zs z]?=some z:=by
 have h1:=zig h
 have h2:=List.findIdx_getElem (xs:=zs) (p:=fun y=>zcm [y] z) (w:=h1)
 have h3:=zai.1 h2
 rw [List.mem_singleton] at h3
 rw [List.getElem?_eq_getElem h1]
 exact congrArg some h3.symm
theorem idxS_first {zs:List ByteArray} {z:ByteArray} {j:Nat} {y:ByteArray}(hj:j<zhw zs z)(hy:zs[j]?=some y):y≠z:=by
 have h1:=List.not_of_lt_findIdx hj
 have h2:zs[j]'(by have:=List.findIdx_le_length (p:=fun y=>zcm [y] z) (xs:=zs);unfold zhw at hj;omega)=y:=(List.getElem?_eq_some_iff.1 hy).2
 rw [h2] at h1
 intro e
 rw [zbW] at h1
 exact h1 (by rw [e];simp)
theorem zix {w:World} {lo hi n c:Nat} {A:Option Addr} {zs:List ByteArray} {z:ByteArray}(h:Reads w lo hi 1 A n (zL zs))(hz:z∈zs) :
  Calls Tryz.prog 133 #[.slice A n c,.string z] w fun e w'=>e=.returned (.int .i64 (zhw zs z:Nat))∧w=w':=by
 have hn:=h.len
 have hl:zs.length=n:=by have:=h.length;rw [zaD] at this;omega
 obtain⟨I,hI⟩:∃ I,Hid (zhw zs z=I):=⟨_,rfl⟩
 have hIn:I<n:=by rw [← hI.out,← hl];exact zig hz
 have hat:=za (hI.out ▸ idxS_at hz)
 have hfirst:=za (fun (j:Nat) (y:ByteArray) (hj:j<I)=>idxS_first (zs:=zs) (z:=z) (j:=j) (y:=y) (by rw [hI.out];exact hj))
 rw [hI.out]
 clear hl hz
 go_enter Tryz.func133,Tryz.ntmps133
 go_wp2_with fail
 go_loop [5] (fun iv=>∃ i:Nat,iv=.int .i64 i∧i≤I) (fun iv=>n - (intOf iv).toNat)
 case atStart=>exact⟨0,rfl,Nat.zero_le _⟩
 case round =>
  obtain⟨i,rfl,hi⟩:=hrel
  have hlt:i<n:=by omega
  have hlt':(i:Int)<(n:Int):=by omega
  obtain⟨ad,y,rfl,_,_,hy,cy⟩:=h.str hlt
  by_cases he:i=I
  ·have hyz:y=z:=Option.some.inj (hy.out.symm.trans (he ▸ hat.out))
   subst hyz
   have He:=za he
   clear he
   go_wp2_with fail
   go_ret
   exact⟨zG (by rw [He.out]),rfl⟩
  ·have hne:=str_ne (hfirst.out i y (by omega) hy.out)
   go_wp2_with fail
   go_round
   case rel=>exact⟨i+1,by go_num,by omega⟩
   case measure=>simp [intOf];omega
section
variable {w W:World} {n c m d m' d' L:Nat} {A B B':Option Addr} {s:Sys} {p:Aut}
theorem ziw (h:Tch w A n B m B' m' s p L) :
  Calls Tryz.prog 70 #[.agg #[.bool false,.int .i64 0,.slice none 0 0,.slice none 0 0,.int .i64 s.al,.int .i64 s.st,.slice A n c,.int .i64 p.al,.slice B m d,.slice B' m' d',.int .i64 L]] w (zch w ((zZ L (zt s p L) [⟨#[]⟩] 11 [⟨#[]⟩]).map fun r=>(r,[⟨#[]⟩]))):=by
 have HC:=za (fun (R C:Option Addr) W (hW:Ext w W) (hT:TabAt W R 1 C 1 [⟨#[]⟩] [⟨#[]⟩])=>zdN (c:=c) (d:=d) (d':=d') (cr:=1) (cc:=1) (h.ext hW) hT (zbz.first L _) (Nat.le_refl _) (Nat.le_refl _))
 rw [show 12 - ([⟨#[]⟩]:List ByteArray).length=11 from rfl] at HC
 generalize (zZ L (zt s p L) [⟨#[]⟩] 11 [⟨#[]⟩]).map (fun r=>(r,[(⟨#[]⟩:ByteArray)]))=fin at *
 have hx0:Ext w ((w.alloc (.cells #[.bool false,.int .i64 0,.slice none 0 0,.slice none 0 0,.int .i64 s.al,.int .i64 s.st,.slice A n c,.int .i64 p.al,.slice B m d,.slice B' m' d',.int .i64 L] 98)).alloc (.cells #[.slice none 0 0,.slice none 0 0] 101)):=((Ext.refl _).alloc _).alloc _
 obtain⟨b1,b2⟩:=zE (Ext.refl ((w.alloc (.cells #[.bool false,.int .i64 0,.slice none 0 0,.slice none 0 0,.int .i64 s.al,.int .i64 s.st,.slice A n c,.int .i64 p.al,.slice B m d,.slice B' m' d',.int .i64 L] 98)).alloc (.cells #[.slice none 0 0,.slice none 0 0] 101)))
 clear h
 go_enter Tryz.func70,Tryz.ntmps70
 go_upto_region 1 with fail
 have hsz:w.heap.size+1+1=((w.alloc (.cells #[.bool false,.int .i64 0,.slice none 0 0,.slice none 0 0,.int .i64 s.al,.int .i64 s.st,.slice A n c,.int .i64 p.al,.slice B m d,.slice B' m' d',.int .i64 L] 98)).alloc (.cells #[.slice none 0 0,.slice none 0 0] 101)).heap.size:=by simp
 generalize (w.alloc (.cells #[.bool false,.int .i64 0,.slice none 0 0,.slice none 0 0,.int .i64 s.al,.int .i64 s.st,.slice A n c,.int .i64 p.al,.slice B m d,.slice B' m' d',.int .i64 L] 98)).alloc (.cells #[.slice none 0 0,.slice none 0 0] 101)=w0 at *
 have Hsz:=za hsz
 clear hsz
 have k1:=b1.cell
 have hx1:Ext w0 ((w0.alloc (.cells #[.string ⟨#[]⟩] 9)).alloc (.cells #[.string ⟨#[]⟩] 9)):=((Ext.refl _).alloc _).alloc _
 have hT:TabAt ((w0.alloc (.cells #[.string ⟨#[]⟩] 9)).alloc (.cells #[.string ⟨#[]⟩] 9)) (some ⟨w0.heap.size,0,none⟩) 1 (some ⟨w0.heap.size+1,0,none⟩) 1 [⟨#[]⟩] [⟨#[]⟩]:=by
  obtain⟨q1,q2⟩:=zE (Ext.refl ((w0.alloc (.cells #[.string ⟨#[]⟩] 9)).alloc (.cells #[.string ⟨#[]⟩] 9)))
  refine⟨_,_,_,_,Reads.of_own (base:=w0.heap.size) (e:=9) (c:=1) ⟨rfl,.inr ⟨w0.heap.size,1,_,rfl,Nat.le_refl _,q1,by unfold maxLen;simp [zL]⟩⟩,Reads.of_own (base:=w0.heap.size+1) (e:=9) (c:=1) ⟨rfl,.inr ⟨w0.heap.size+1,1,_,rfl,Nat.le_refl _,q2,by unfold maxLen;simp [zL]⟩⟩⟩
 have HT:=za hT
 have b22:=b2.ext hx1
 clear hT
 go_wp2_with fail
 refine (HC.out _ _ _ (hx0.trans hx1) HT.out).mono ?_
 rintro e w2 ⟨hx2,⟨h0,rfl⟩|⟨rs,cs,nr,nc,R,cr,C,cc,h0,rfl,hR,hC⟩⟩
 ·have b23:=b22.ext hx2
  have k3:=b23.cell
  have f3:=b23.frozen
  have cf:=(show Blk ((w2.setCell ⟨w.heap.size+1,0,none⟩ (.slice none 0 0)).setCell ⟨w.heap.size+1,1,none⟩ (.slice none 0 0)) (w.heap.size+1) 101 #[.slice none 0 0,.slice none 0 0] by simpa using (b23.set_ 0 (.slice none 0 0)).set_ 1 (.slice none 0 0)).cell
  have hret:=za (show zch w fin (.returned (.tuple #[.agg #[.slice none 0 0,.slice none 0 0],.bool false])) ((w2.setCell ⟨w.heap.size+1,0,none⟩ (.slice none 0 0)).setCell ⟨w.heap.size+1,1,none⟩ (.slice none 0 0)) from
   ⟨(((hx0.trans hx1).trans hx2).setCell (p:=⟨w.heap.size+1,0,none⟩) (Nat.le_succ _) _).setCell (p:=⟨w.heap.size+1,1,none⟩) (Nat.le_succ _) _,.inl ⟨h0,rfl⟩⟩)
  clear k1
  go_wp2_with fail
  exact bodyPost_ret (v:=.tuple #[.agg #[.slice none 0 0,.slice none 0 0],.bool false]) (by simp [results,Tryz.results70,go_sem,cf]) rfl hret.out
 ·have b23:=b22.ext hx2
  have k3:=b23.cell
  have f3:=b23.frozen
  have hf:Frm (fun k=>k=w.heap.size+1) w2 ((w2.setCell ⟨w.heap.size+1,0,none⟩ (.slice R nr cr)).setCell ⟨w.heap.size+1,1,none⟩ (.slice C nc cc)):=(Frm.setCell w2 _ 0 _).trans (Frm.setCell _ _ 1 _)
  have cf:=(show Blk ((w2.setCell ⟨w.heap.size+1,0,none⟩ (.slice R nr cr)).setCell ⟨w.heap.size+1,1,none⟩ (.slice C nc cc)) (w.heap.size+1) 101 #[.slice R nr cr,.slice C nc cc] by simpa using (b23.set_ 0 (.slice R nr cr)).set_ 1 (.slice C nc cc)).cell
  have hret:=za (show zch w fin (.returned (.tuple #[.agg #[.slice R nr cr,.slice C nc cc],.bool true])) ((w2.setCell ⟨w.heap.size+1,0,none⟩ (.slice R nr cr)).setCell ⟨w.heap.size+1,1,none⟩ (.slice C nc cc)) from
   ⟨(((hx0.trans hx1).trans hx2).setCell (p:=⟨w.heap.size+1,0,none⟩) (Nat.le_succ _) _).setCell (p:=⟨w.heap.size+1,1,none⟩) (Nat.le_succ _) _,.inr ⟨rs,cs,nr,nc,R,cr,C,cc,h0,rfl,zg (zq hR (hx0.trans hx1).size) hf (fun b hv e=>zw hR b23 (by decide) hv e),zg (zq hC (hx0.trans hx1).size) hf (fun b hv e=>zw hC b23 (by decide) hv e)⟩⟩)
  clear k1 hf
  go_wp2_with fail
  exact bodyPost_ret (v:=.tuple #[.agg #[.slice R nr cr,.slice C nc cc],.bool true]) (by simp [results,Tryz.results70,go_sem,cf]) rfl hret.out
end
theorem yC08a5 {P:Prop}(h:P:=by
 intro vA w4 hownA hgA hatA
 rw [Nat.zero_add,List.nil_append] at hownA
 obtain⟨BA,dA,rfl⟩:=zi hownA
 have hxA:Ext w2 w4:=hx0.grown hgA (fun k hk=>(hm.lt k hk).1)
 have hb:Blk w4 G 31 #[.int .i64 0,.slice none 0 0,.slice none 0 0]:=(hgA.block G hb.lt (fun e=>zw hm hb (by decide) e.symm rfl)).trans hb
 replace hx0:=hxA
 refine hK.out _ _ hx0 ?_
 refine pT ?_
 refine uQ ?_
 have cG:=hb.cell
 have fG:=hb.frozen
 refine zb fun K hK=>?_
 go_simp
 refine hK.out _ _ ?_
 refine zf ?_
 have ziM:Gra w2 (((w4.setCell ⟨G,0,none⟩ (.int .i64 a.al)).setCell ⟨G,1,none⟩ (.slice none 0 0)).setCell ⟨G,2,none⟩ (.slice BA n' dA)) G a.al (.slice none 0 0) [] (.slice BA n' dA) a.acc:=⟨zaT hb rfl _ _ _,⟨[],World.ownsRow_nil _ _ _ _,zx.nil _ _⟩,by
  rw [← hL'.out]
  exact zg hownA (zap w4 G _ _ _) (fun b hv hS=>zw hownA hb (by decide) hv hS),hx0.frm (zap w4 G _ _ _) (fun k hk e=>by omega),hG⟩
 go_wp2_with fail
 go_meet
 exact⟨G,_,rfl,ziM⟩
 ):P:=h
theorem zaY {lo hi:Nat} {A:Option Addr} {n c:Nat} {A':Option Addr} {n' c':Nat} {a:Aut} {w:World}(h:zC w lo hi A n A' n' a)(hs:a.size≤1048576) :
  Calls Tryz.prog 119 #[.agg #[.int .i64 a.al,.slice A n c,.slice A' n' c']] w (RetAut w a):=by
 have h1:n≤1048576:=by have:=h.n1;unfold Aut.size at hs;omega
 have h2:n'≤1048576:=by have:=h.n2;unfold Aut.size at hs;omega
 have hrow:∀ (k:Nat) (l:List Int),a.next[k]?=some l→l.length≤1048576:=fun k l hl=>by
  have h1:=zbe hl
  have h2:=zbY a.next (k+1)
  unfold Aut.size at hs
  omega
 have Hrow:=za hrow
 have hL:=za h.n1
 have hL':=za h.n2
 have HS:=za (fun W (hW:Ext w W)=>h.1.ext hW)
 have HA:=za (fun W (hW:Ext w W)=>h.2.2.ext hW)
 have hlen:=h.1.len
 clear hrow h hs
 go_enter Tryz.func119,Tryz.ntmps119
 obtain⟨b1,bz⟩:=zE (Ext.refl ((w.alloc (.cells #[.int .i64 a.al,.slice A n c,.slice A' n' c'] 31)).alloc (.cells #[.int .i64 0,.slice none 0 0,.slice none 0 0] 31)))
 have hw2:Ext w ((w.alloc (.cells #[.int .i64 a.al,.slice A n c,.slice A' n' c'] 31)).alloc (.cells #[.int .i64 0,.slice none 0 0,.slice none 0 0] 31)):=((Ext.refl w).alloc _).alloc _
 have hsz2:w.heap.size+2=((w.alloc (.cells #[.int .i64 a.al,.slice A n c,.slice A' n' c'] 31)).alloc (.cells #[.int .i64 0,.slice none 0 0,.slice none 0 0] 31)).heap.size:=by simp
 go_upto_region 1 with fail
 generalize (w.alloc (.cells #[.int .i64 a.al,.slice A n c,.slice A' n' c'] 31)).alloc (.cells #[.int .i64 0,.slice none 0 0,.slice none 0 0] 31)=w2 at *
 go_cut [3] (fun v wx=>∃ (G:Nat) (vA:Value),v=.pointer (some ⟨G,0,none⟩)∧Gra w2 wx G a.al (.slice none 0 0) [] vA a.acc)
 case first =>
  have c1:=fun W (hW:Ext w2 W)=>(b1.ext hW).cell
  have hww:=Ext.refl w2
  refine uR (fun X=>Ext w2 X) [8] (zu.app [0,1,3,4] (zu.two 2 (zu.two 5 (zu.of [6,7,8]) 7 (zu.of [5,6,8])) 7 (zu.of [2,5,6,8]))) ?_
  refine uQ ?_
  have hx0:Ext w2 w2.drew:=hww.drew
  generalize w2.drew=wd at *
  refine zm (fun K hK=>?_) (fun K hK=>?_)
  ·go_simp
   have hm:=World.ownsRow_made (base:=w2.heap.size) (e:=4) (size:=1) wd #[] 0 hx0.size (Nat.zero_le _) rfl
   have hx1:=(Ext.refl wd).alloc (.cells #[] 4)
   replace hx0:=hx0.trans hx1
   refine hK.out _ _ hx0 ?_
   generalize wd.alloc (.cells #[] 4)=wm at *
   generalize wd.heap.size=M at *
   refine pT ?_
   refine uQ ?_
   clear hK
   refine zm (fun K hK=>?_) (fun K hK=>?_)
   ·skip
    refine zv wm _ _ 26 rfl w2.heap.size 4 _ 1 1 Tryz.underlying26 zbH rfl (by decide) (.slice (some ⟨M,0,none⟩) 0 0) 0 [] rfl hm _ _ A' n' c' (zP a.acc) rfl (HA.out _ (hw2.trans hx0)) (zeM _) (by unfold maxLen;omega) (by omega) hx0.size ?_
    intro vA w4 hownA hgA hatA
    rw [Nat.zero_add,List.nil_append] at hownA
    obtain⟨BA,dA,rfl⟩:=zi hownA
    have hxA:Ext w2 w4:=hx0.grown hgA (fun k hk=>(hm.lt k hk).1)
    replace hx0:=hxA
    refine hK.out _ _ hx0 ?_
    refine pT ?_
    refine uQ ?_
    refine ze fun K hK=>?_;go_simp
    have hx1:=(Ext.refl w4).alloc (.cells #[.int .i64 0,.slice none 0 0,.slice none 0 0] 31)
    have hb:=Blk.new w4 31 #[.int .i64 0,.slice none 0 0,.slice none 0 0]
    have hG:=hx0.size
    replace hownA:=zh hownA hx1
    replace hx0:=hx0.trans hx1
    refine hK.out _ _ hx0 ?_
    generalize w4.alloc (.cells #[.int .i64 0,.slice none 0 0,.slice none 0 0] 31)=wg at *
    generalize w4.heap.size=G at *
    refine pT ?_
    refine uQ ?_
    have cG:=hb.cell
    have fG:=hb.frozen
    refine zb fun K hK=>?_
    go_simp
    refine hK.out _ _ ?_
    refine zf ?_
    have ziM:Gra w2 (((wg.setCell ⟨G,0,none⟩ (.int .i64 a.al)).setCell ⟨G,1,none⟩ (.slice none 0 0)).setCell ⟨G,2,none⟩ (.slice BA n' dA)) G a.al (.slice none 0 0) [] (.slice BA n' dA) a.acc:=⟨zaT hb rfl _ _ _,⟨[],World.ownsRow_nil _ _ _ _,zx.nil _ _⟩,by
     rw [← hL'.out]
     exact zg hownA (zap wg G _ _ _) (fun b hv hS=>zw hownA hb (by decide) hv hS),hx0.frm (zap wg G _ _ _) (fun k hk e=>by omega),hG⟩
    go_wp2_with fail
    go_meet
    exact⟨G,_,rfl,ziM⟩
   ·go_simp
    have hx1:=(Ext.refl wm).alloc (.cells #[.int .i64 0,.slice none 0 0,.slice none 0 0] 31)
    have hb:=Blk.new wm 31 #[.int .i64 0,.slice none 0 0,.slice none 0 0]
    have hG:=hx0.size
    replace hm:=zh hm hx1
    replace hx0:=hx0.trans hx1
    refine hK.out _ _ hx0 ?_
    generalize wm.alloc (.cells #[.int .i64 0,.slice none 0 0,.slice none 0 0] 31)=wg at *
    generalize wm.heap.size=G at *
    refine pT ?_
    refine uQ ?_
    refine ze (fun K hK=>?_)
    refine zv wg _ _ 26 rfl w2.heap.size 4 _ 1 1 Tryz.underlying26 zbH rfl (by decide) (.slice (some ⟨M,0,none⟩) 0 0) 0 [] rfl hm _ _ A' n' c' (zP a.acc) rfl (HA.out _ (hw2.trans hx0)) (zeM _) (by unfold maxLen;omega) (by omega) hx0.size ?_
    exact yC08a5
  ·go_simp
   have hx1:=(Ext.refl wd).alloc (.cells #[.int .i64 0,.slice none 0 0,.slice none 0 0] 31)
   have hb:=Blk.new wd 31 #[.int .i64 0,.slice none 0 0,.slice none 0 0]
   have hG:=hx0.size
   replace hx0:=hx0.trans hx1
   refine hK.out _ _ hx0 ?_
   generalize wd.alloc (.cells #[.int .i64 0,.slice none 0 0,.slice none 0 0] 31)=wg at *
   generalize wd.heap.size=G at *
   refine pT ?_
   refine uQ ?_
   refine ze fun K hK=>?_;go_simp
   have hm:=World.ownsRow_made (base:=w2.heap.size) (e:=4) (size:=1) wg #[] 0 hx0.size (Nat.zero_le _) rfl
   have hx1:=(Ext.refl wg).alloc (.cells #[] 4)
   replace hb:=hb.ext hx1
   replace hx0:=hx0.trans hx1
   refine hK.out _ _ hx0 ?_
   generalize wg.alloc (.cells #[] 4)=wm at *
   generalize wg.heap.size=M at *
   refine pT ?_
   refine uQ ?_
   refine ze (fun K hK=>?_)
   refine zv wm _ _ 26 rfl w2.heap.size 4 _ 1 1 Tryz.underlying26 zbH rfl (by decide) (.slice (some ⟨M,0,none⟩) 0 0) 0 [] rfl hm _ _ A' n' c' (zP a.acc) rfl (HA.out _ (hw2.trans hx0)) (zeM _) (by unfold maxLen;omega) (by omega) hx0.size ?_
   exact yC08a5
 case rest =>
  obtain⟨G,vA,rfl,hgr⟩:=hcut
  have k1:=(b1.ext hgr.ext).cell
  go_wp2_with fail
  go_loopw [4] (fun i wr=>∃ (k:Nat) (v:Value),k≤n∧i=.int .i64 k∧Gra w2 wr G a.al v (a.next.take k) vA a.acc) (fun i _=>n - (intOf i).toNat)
  case atStart=>exact⟨0,_,Nat.zero_le _,rfl,by simpa using hgr⟩
  case round =>
   clear hgr k1
   obtain⟨k,v,hk,rfl,hgr⟩:=hrel
   by_cases hlt:k<n
   ·obtain⟨ad,Ak,ck,l,rfl,_,_,hl,hc0,hrk⟩:=(HS.out wr (hw2.trans hgr.ext)).row hlt
    have hll:=Hrow.out k l hl.out
    have Htk:=za (show a.next.take (k+1)=a.next.take k++[l] by rw [List.take_add_one,hl.out];rfl)
    have htl:=za (show (a.next.take k).length=k by rw [List.length_take];have:=hL.out;omega)
    obtain⟨rows,hv,hrows⟩:=hgr.own
    have k1:=(b1.ext hgr.ext).cell
    go_upto_region 5 with fail
    clear k1
    have cG:∀ W,Ext wr W→∀ q,W.cell? ⟨G,q,none⟩=#[Value.int .i64 a.al,v,vA][q]?:=fun W hW=>(hgr.blk.ext hW).cell
    have hww:=Ext.refl wr
    have Hrk:=za (fun W (hW:Ext wr W)=>hrk.ext hW)
    have C1:∀ W,Ext wr W→∀ q,W.cell? ⟨w.heap.size,q,none⟩=#[Value.int .i64 a.al,.slice (some ad) n c,.slice A' n' c'][q]?:=fun W hW=>((b1.ext hgr.ext).ext hW).cell
    have Cr:∀ W,Ext wr W→W.cell? (ad.add k)=some (.slice Ak l.length ck):=fun W hW=>hW.cell_some hc0
    have hkn:(k:Int)<(n:Int):=by omega
    clear hc0 hrk
    refine uR (fun X=>Ext wr X) [10,12] (zu.of [0,1,3,4,5,6,7,2,8,9,10,11,12]) ?_
    refine uQ ?_
    have hx0:Ext wr wr.drew:=hww.drew
    generalize wr.drew=wd at *
    refine ze fun K hK=>?_;go_simp
    have hm:=World.ownsRow_made (base:=wr.heap.size) (e:=3) (size:=1) wd #[] 0 hx0.size (Nat.zero_le _) rfl
    have hx1:=(Ext.refl wd).alloc (.cells #[] 3)
    replace hx0:=hx0.trans hx1
    refine hK.out _ _ hx0 ?_
    generalize wd.alloc (.cells #[] 3)=wm at *
    generalize wd.heap.size=M at *
    refine pT ?_
    refine uQ ?_
    refine ze (fun K hK=>?_)
    refine zv wm _ _ 128 rfl wr.heap.size 3 _ 1 8 Tryz.underlying128 zah rfl (by decide) (.slice (some ⟨M,0,none⟩) 0 0) 0 [] rfl hm _ _ Ak l.length ck (ints l) rfl (Hrk.out _ hx0) (ints_one _) (by unfold maxLen;omega) (by omega) hx0.size ?_
    intro vR w3 hrow hgR hatR
    rw [Nat.zero_add,List.nil_append] at hrow
    obtain⟨BR,dR,rfl⟩:=zi hrow
    have hww3:Ext wr w3:=hx0.grown hgR (fun k hk=>(hm.lt k hk).1)
    refine hK.out _ _ hww3 ?_
    refine pT ?_
    refine uQ ?_
    refine ze fun K hK=>?_;go_simp
    refine hK.out _ _ (hww3.alloc _) ?_
    refine pT ?_
    refine zb fun K hK=>?_
    refine zbN w2 w3 _ _ _ rfl 128 _ 1 24 Tryz.underlying25 zdc rfl (by decide) v (a.next.take k).length rows _ _ rfl rfl (hgr.ext.trans hww3).size (zh hv hww3) rfl (zbS _ _ _) (by unfold maxLen;have:=htl.out;omega) (by have:=htl.out;omega) ?_
    intro g5 cap5 w5 ziV hg5 hat5 hlt5
    refine hK.out _ _ ?_
    refine pT ?_
    refine uQ ?_
    obtain⟨p1,p2,p3⟩:=hgr.push hrows hv hww3 hrow (W':=w5) ziV hg5 hat5
    have p1':=p1.out
    refine zb fun K hK=>?_
    go_simp
    refine hK.out _ _ ?_
    refine zf ?_
    go_wp2_with fail
    go_roundw
    case rel=>exact⟨k+1,_,by omega,by go_num,by rw [Htk.out];first|exact p3|simpa using p3⟩
    case measure=>simp [intOf];omega
   ·obtain rfl:n=k:=by omega
    obtain⟨A5,c5,rfl⟩:∃ A5 c5,v=.slice A5 n c5:=by
     obtain⟨rows,hv,_⟩:=hgr.own
     rw [List.take_of_length_le (by have:=hL.out;omega),← hL.out] at hv
     exact zi hv
    obtain⟨B5,d5,rfl⟩:=zi hgr.acc
    have k1:=(b1.ext hgr.ext).cell
    have cG:=hgr.blk.cell
    have hbz:=bz.ext hgr.ext
    have cZ:=hbz.cell
    have fZ:=hbz.frozen
    have hfl:=zap wr (w.heap.size+1) (.int .i64 a.al) (.slice A5 n c5) (.slice B5 a.acc.length d5)
    have hbf:=zaT hbz rfl (.int .i64 a.al) (.slice A5 n c5) (.slice B5 a.acc.length d5)
    have hxf:=(hw2.trans hgr.ext).frm hfl (fun k hk e=>by omega)
    have ziM:=za (show RetAut w a (.returned (.agg #[.int .i64 a.al,.slice A5 n c5,.slice B5 a.acc.length d5])) (((wr.setCell ⟨w.heap.size+1,0,none⟩ (.int .i64 a.al)).setCell ⟨w.heap.size+1,1,none⟩ (.slice A5 n c5)).setCell ⟨w.heap.size+1,2,none⟩ (.slice B5 a.acc.length d5)) from by
     refine⟨A5,n,c5,B5,a.acc.length,d5,rfl,⟨?_,hL.out,?_,rfl⟩,hxf⟩
     ·have ho:=hgr.own
      rw [List.take_of_length_le (by have:=hL.out;omega)] at ho
      exact (ho.keep hfl (fun b h1 e=>by omega)).less (by omega)
     ·exact zq (zcn hgr.acc hfl (fun b h1 e=>by omega)) (by omega))
    go_wp2_with fail
    generalize ((wr.setCell ⟨w.heap.size+1,0,none⟩ (.int .i64 a.al)).setCell ⟨w.heap.size+1,1,none⟩ (.slice A5 n c5)).setCell ⟨w.heap.size+1,2,none⟩ (.slice B5 a.acc.length d5)=wf at *
    have cf:=hbf.cell
    exact bodyPost_ret (v:=.agg #[.int .i64 a.al,.slice A5 n c5,.slice B5 a.acc.length d5]) (by simp [results,Tryz.results119,go_sem,cf]) rfl ziM.out
theorem own_typ {w:World} {base:Nat} {e:TypeId} {size n b:Nat} {v:Value} {xs:List Value}(h:w.ownsRow base e size v n xs)(hb:v.ownBlock=some b):∃ cur,w.heap[b]?=some (.cells cur e (0,0)):=by
 rcases h.2 with ⟨rfl,_⟩|⟨g,cap,cur,rfl,_,hh,_⟩
 ·simp [Value.ownBlock] at hb
 ·have:g=b:=by simpa [Value.ownBlock] using hb
  subst this
  exact⟨cur,hh⟩
theorem zac.frmT {S:Nat→Prop} {w w':World} {base:Nat} {A:Option Addr} {n c:Nat} {A':Option Addr} {n' c':Nat} {a:Aut}(h:zac w base A n c A' n' c' a)(hb:Frm S w w')
  (hS:∀ k,S k→∀ cs t,w.heap[k]?=some (.cells cs t (0,0))→t≠3∧t≠128∧t≠4):zac w' base A n c A' n' c' a:=by
 obtain⟨⟨rows,h1,h2⟩,h3,h4,h5⟩:=h
 refine⟨⟨rows,zg h1 hb (fun b hv hs=>?_),h2.frm hb (fun i r b hr hb hs=>?_)⟩,h3,zg h4 hb (fun b hv hs=>?_),h5⟩
 ·obtain⟨cs,hc⟩:=own_typ h1 hv
  exact (hS b hs cs _ hc).2.1 rfl
 ·obtain⟨l',_,ho⟩:=h2.row hr
  obtain⟨cs,hc⟩:=own_typ ho hb
  exact (hS b hs cs _ hc).1 rfl
 ·obtain⟨cs,hc⟩:=own_typ h4 hv
  exact (hS b hs cs _ hc).2.2 rfl
theorem zac.farT {w w':World} {base G:Nat} {A:Option Addr} {n c:Nat} {A':Option Addr} {n' c':Nat} {a:Aut} {cs:Array Value} {t:TypeId}(h:zac w base A n c A' n' c' a)(hB:Blk w G t cs)(hf:Frm (fun k=>k=G) w w')(ht:t≠3∧t≠128∧t≠4):zac w' base A n c A' n' c' a:=
 h.frmT hf (fun k hk cs' t' hh=>by
  subst hk
  unfold Blk at hB
  rw [hB] at hh
  injection hh with hh
  injection hh with _ h2
  subst h2
  exact ht)
end Go.Proofs.YtcfchopfijalpaaGreatDoor
