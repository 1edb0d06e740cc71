/- The referenc -/
import Derived.Test.YtfcjhpodichpjaaGreatDoorU06
set_option maxHeartbeats 8000000
set_option maxRecDepth 100000
namespace Go.Proofs.YtfcjhpodichpjaaGreatDoor
open Go Go.RowKit
theorem zcH.rsz' {L:Nat} {f:ByteArray→Bool} {rows cols:List ByteArray}(h:zcH L f rows cols):(∀ y∈rows,y.size≤1000000)∧∀ y∈cols,y.size≤1000000:=
 ⟨fun y hy=>by have:=(h.rin hy).2;omega,fun y hy=>by have:=(h.cin hy).2;omega⟩
section
variable {w W:World} {n c m d m' d' L:Nat} {A B B':Option Addr} {s:Sys} {p:Aut} {nr nc cr cc:Nat} {R C:Option Addr} {rows cols:List ByteArray}
theorem zbm (h:Tch w A n B m B' m' s p L)(hT:TabAt w R nr C nc rows cols)(hI:zcH L (zu s p L) rows cols)(hcr:nr≤cr)(hcc:nc≤cc) :
  Calls Tryz.prog 251 #[.agg #[.bool false,.int .i64 0,.slice none 0 0,.slice none 0 0,.int .i64 s.al,.int .i64 s.st,.slice A n c,.int .i64 p.al,.slice B m d,.slice B' m' d',.int .i64 L],.agg #[.slice R nr cr,.slice C nc cc]] w fun e w'=>e=.returned (.bool true)∧Ext w w':=by
 obtain⟨e1,e2⟩:=hT.nr
 have hr12:=hI.r12;have hc20:=hI.c20
 rw [e1] at hr12
 rw [e2] at hc20
 have HA:=za (fun W (hW:Ext w W)=>zax (c:=c) (d:=d) (d':=d') (h.ext hW))
 have HS:=za (fun W (hW:Ext w W)=>zhr (cr:=cr) (cc:=cc) (hT.ext hW) hI h.lt hcr hcc)
 obtain⟨lo,hi,lo2,hi2,h1,h2⟩:=hT
 have HR:=za (fun W (hW:Ext w W)=>zcW (c:=c) (d:=d) (d':=d') (cc:=cc) (cr:=cr) (h.ext hW) (h2.ext hW) (h1.ext hW) (by omega) (by omega) hI.rsz'.2 hI.rsz'.1)
 have hnd:=za (rowsM_nodup hI)
 have hlen:(zbl (zu s p L) cols rows).length=nr:=by rw [zbl,List.length_map];exact e1
 generalize zbl (zu s p L) cols rows=zs at *
 have hx0:Ext w ((w.alloc (.cells #[.bool false,.int .i64 0,.slice none 0 0,.slice none 0 0,.int .i64 s.al,.int .i64 s.st,.slice A n c,.int .i64 p.al,.slice B m d,.slice B' m' d',.int .i64 L] 203)).alloc (.cells #[.slice R nr cr,.slice C nc cc] 205)):=((Ext.refl _).alloc _).alloc _
 obtain⟨b1,b2⟩:=zR (Ext.refl ((w.alloc (.cells #[.bool false,.int .i64 0,.slice none 0 0,.slice none 0 0,.int .i64 s.al,.int .i64 s.st,.slice A n c,.int .i64 p.al,.slice B m d,.slice B' m' d',.int .i64 L] 203)).alloc (.cells #[.slice R nr cr,.slice C nc cc] 205)))
 clear h h1 h2 hI e1 e2
 go_enter Tryz.func251,Tryz.ntmps251
 go_upto_region 1 with fail
 generalize (w.alloc (.cells #[.bool false,.int .i64 0,.slice none 0 0,.slice none 0 0,.int .i64 s.al,.int .i64 s.st,.slice A n c,.int .i64 p.al,.slice B m d,.slice B' m' d',.int .i64 L] 203)).alloc (.cells #[.slice R nr cr,.slice C nc cc] 205)=w1 at *
 have CB:=b1.cells
 have CT:=b2.cells
 have hww:=Ext.refl w1
 refine uR (fun X=>Ext w1 X) [] (zK.of [0,2,1,3,4]) ?_
 refine uQ ?_
 refine zb fun K hK=>?_;go_simp
 refine (HA.out _ (hx0.trans hww.drew)).mono ?_
 rintro e w2 ⟨rfl,hx2⟩
 have hx12:Ext w1 w2:=hww.drew.trans hx2
 refine hK.out _ _ hx12 ?_
 refine pT ?_
 refine uQ ?_
 refine zb fun K hK=>?_;go_simp
 refine (HS.out _ (hx0.trans hx12)).mono ?_
 rintro e w3 ⟨rfl,hx3⟩
 have hx13:=hx12.trans hx3
 refine hK.out _ _ hx13 ?_
 refine pT ?_
 refine uQ ?_
 refine zj ?_
 clear hx12 hx2 hx3
 go_wp2_with (first|(go_at_call 229;refine (HR.out _ (hx0.trans hx13)).mono ?_;rintro e w4 ⟨G,g,rfl,zhJ,hx4⟩))
 rw [hlen] at zhJ
 have hlen2:=za hlen
 clear hlen
 have hx14:=hx13.trans hx4
 have hrd:=Reads.of_own zhJ
 have Hrd:=za (fun W (hW:Ext w4 W)=>hrd.ext hW)
 have hng:nr≤g:=by
  rcases zhJ.2 with ⟨e,h0⟩|⟨g0,cap,cur,e,_,_,hcap,_⟩
  ·omega
  ·injection e with _ _ h3;omega
 clear hx13 hx4 zhJ hrd
 go_loopw [6] (fun iv wr=>∃ k:Nat,k≤nr∧iv=.int .i64 k∧Ext w4 wr) (fun iv _=>nr - (intOf iv).toNat)
 case atStart=>exact⟨0,Nat.zero_le _,rfl,Ext.refl _⟩
 case round =>
  obtain⟨k,hk,rfl,hxr⟩:=hrel
  by_cases hlt:k<nr
  ·have hlt':(k:Int)<(nr:Int):=by omega
   have hkg:(k:Int)≤(g:Int):=by omega
   obtain⟨ad,x,rfl,_,_,hx,cx⟩:=(Hrd.out wr hxr).str hlt
   have hmem:=za (show zfF (zs.take k) x=false by
    rw [zbK]
    intro hm
    obtain⟨j,hj⟩:=List.getElem?_of_mem hm
    have hjk:j<k:=by have:=(List.getElem?_eq_some_iff.1 hj).1;rw [List.length_take] at this;omega
    rw [List.getElem?_take_of_lt hjk] at hj
    have:=(List.getElem?_inj (i:=j) (j:=k) (by have:=hlen2.out;omega) hnd.out).1 (hj.trans hx.out.symm)
    omega)
   have HRt:=za (fun W (hW:Ext w4 W)=>(Hrd.out W hW).takeS hk)
   have CX:∀ W,Ext wr W→W.cell? (ad.add k)=some (.string x):=fun W hW=>hW.cell_some cx
   have hww:=Ext.refl wr
   clear cx hx
   go_wp2_with fail
   refine uR (fun X=>Ext wr X) [] (zK.of [0,1,2,3,4,5,6,7]) ?_
   refine uQ ?_
   refine zb fun K hK=>?_;go_simp
   refine (zcl (HRt.out _ (hxr.trans hww.drew))).mono ?_
   rw [hmem.out]
   rintro e w5 ⟨rfl,rfl⟩
   refine hK.out _ _ hww.drew ?_
   refine pT ?_
   refine uQ ?_
   refine zj ?_
   go_wp2_with fail
   go_roundw
   case rel=>exact⟨k+1,by omega,by go_num,hxr.trans hww.drew⟩
   case measure=>simp [intOf];omega
  ·have hge:(nr:Int)≤(k:Int):=by omega
   go_wp2_with fail
   go_ret
   exact⟨rfl,hx0.trans (hx14.trans hxr)⟩
def candL (L:Nat) (rows:List ByteArray):List ByteArray:=rows.flatMap fun r=>(letters L 6).map fun l=>r++zdZ l
noncomputable def zbk (L:Nat) (f:ByteArray→Bool) (rows cols:List ByteArray):Option ByteArray:=(candL L rows).find? fun x=>!zfF (zbl f cols rows) (mkS (zcI f cols x))
theorem find_pre {α:Type} {P:α→Bool} {pre post l:List α} {x:α}(hl:l=pre++x :: post)(hp:∀ y∈pre,P y=false)(hx:P x=true):l.find? P=some x:=by
 rw [hl,List.find?_append,List.find?_eq_none.2 (fun y hy=>by rw [hp y hy];decide),Option.none_or,List.find?_cons_of_pos hx]
theorem open_find {zs cols rows:List ByteArray} {ls:List Nat} {f:ByteArray→Bool} {i k l:Nat} {x y:ByteArray}(hx:rows[i]?=some x)(hl:ls[k]?=some l)(hy:x++zdZ l=y)
  (hd:∀ y∈(rows.take i).flatMap (fun r=>ls.map fun l=>r++zdZ l),zfF zs (mkS (zcI f cols y))=true) (hdk:∀ y∈(ls.take k).map (fun l=>x++zdZ l),zfF zs (mkS (zcI f cols y))=true) (hm:zfF zs (mkS (zcI f cols y))=false) :
  (rows.flatMap fun r=>ls.map fun l=>r++zdZ l).find? (fun x=>!zfF zs (mkS (zcI f cols x)))=some y:=by
 have hr:rows=rows.take i++x :: rows.drop (i+1):=by
  obtain⟨h2,h3⟩:=List.getElem?_eq_some_iff.1 hx
  rw [← h3,← List.drop_eq_getElem_cons h2,List.take_append_drop]
 have hlr:ls=ls.take k++l :: ls.drop (k+1):=by
  obtain⟨h2,h3⟩:=List.getElem?_eq_some_iff.1 hl
  rw [← h3,← List.drop_eq_getElem_cons h2,List.take_append_drop]
 have e:ls.map (fun l=>x++zdZ l)=(ls.take k).map (fun l=>x++zdZ l)++y :: (ls.drop (k+1)).map (fun l=>x++zdZ l):=by
  conv=>lhs;rw [hlr]
  rw [List.map_append,List.map_cons,hy]
 refine find_pre (pre:=(rows.take i).flatMap (fun r=>ls.map fun l=>r++zdZ l)++(ls.take k).map (fun l=>x++zdZ l)) (post:=(ls.drop (k+1)).map (fun l=>x++zdZ l)++(rows.drop (i+1)).flatMap (fun r=>ls.map fun l=>r++zdZ l)) ?_ ?_ ?_
 ·conv=>lhs;rw [hr]
  rw [List.flatMap_append,List.flatMap_cons,e]
  simp only [List.append_assoc,List.cons_append]
 ·intro y' hy'
  show (!zfF zs (mkS (zcI f cols y')))=false
  rcases List.mem_append.1 hy' with h1|h1
  ·rw [hd y' h1,Bool.not_true]
  ·rw [hdk y' h1,Bool.not_true]
 ·show (!zfF zs (mkS (zcI f cols y)))=true
  rw [hm,Bool.not_false]
theorem zcX {l:Nat}(h1:l<6):Calls Tryz.prog 111 #[.int .i64 l] w fun e w'=>e=.returned (.string (zdZ l))∧Ext w w':=zdC h1
theorem zeJ (h:Tch w A n B m B' m' s p L)(hT:TabAt w R nr C nc rows cols)(hI:zcH L (zu s p L) rows cols) :
  Calls Tryz.prog 252 #[.agg #[.bool false,.int .i64 0,.slice none 0 0,.slice none 0 0,.int .i64 s.al,.int .i64 s.st,.slice A n c,.int .i64 p.al,.slice B m d,.slice B' m' d',.int .i64 L],.agg #[.slice R nr cr,.slice C nc cc]] w fun e w'=>e=.returned (.tuple #[.string ((zbk L (zu s p L) rows cols).getD ⟨#[]⟩),.bool (zbk L (zu s p L) rows cols).isSome])∧Ext w w':=by
 obtain⟨e1,e2⟩:=hT.nr
 have hr12:=hI.r12;have hc20:=hI.c20
 rw [e1] at hr12
 rw [e2] at hc20
 have HA:=za (fun W (hW:Ext w W)=>zax (c:=c) (d:=d) (d':=d') (h.ext hW))
 obtain⟨lo,hi,lo2,hi2,h1,h2⟩:=hT
 have HR:=za (fun W (hW:Ext w W)=>zcW (c:=c) (d:=d) (d':=d') (cc:=cc) (cr:=cr) (h.ext hW) (h2.ext hW) (h1.ext hW) (by omega) (by omega) hI.rsz'.2 hI.rsz'.1)
 have HW:=za (fun W (hW:Ext w W) (y:ByteArray) hy=>zdT (c:=c) (d:=d) (d':=d') (cc:=cc) (x:=y) (h.ext hW) (h2.ext hW) (by omega) hy hI.rsz'.2)
 have H1:=za (fun W (hW:Ext w W)=>h1.ext hW)
 have hL:=h.lt
 have Hin:=za (fun x hx=>hI.rin (x:=x) hx)
 have hlen:(zbl (zu s p L) cols rows).length=nr:=by rw [zbl,List.length_map];exact e1
 have hop:zbk L (zu s p L) rows cols=(candL L rows).find? fun x=>!zfF (zbl (zu s p L) cols rows) (mkS (zcI (zu s p L) cols x)):=rfl
 generalize zbk L (zu s p L) rows cols=op at *
 generalize zbl (zu s p L) cols rows=zs at *
 have Hop:=za hop
 have Hlen:=za hlen
 have He:=za e1
 have hx0:Ext w ((w.alloc (.cells #[.bool false,.int .i64 0,.slice none 0 0,.slice none 0 0,.int .i64 s.al,.int .i64 s.st,.slice A n c,.int .i64 p.al,.slice B m d,.slice B' m' d',.int .i64 L] 203)).alloc (.cells #[.slice R nr cr,.slice C nc cc] 205)):=((Ext.refl _).alloc _).alloc _
 obtain⟨b1,b2⟩:=zR (Ext.refl ((w.alloc (.cells #[.bool false,.int .i64 0,.slice none 0 0,.slice none 0 0,.int .i64 s.al,.int .i64 s.st,.slice A n c,.int .i64 p.al,.slice B m d,.slice B' m' d',.int .i64 L] 203)).alloc (.cells #[.slice R nr cr,.slice C nc cc] 205)))
 clear h h1 h2 hI e1 e2 hop hlen
 go_enter Tryz.func252,Tryz.ntmps252
 go_upto_region 1 with fail
 generalize (w.alloc (.cells #[.bool false,.int .i64 0,.slice none 0 0,.slice none 0 0,.int .i64 s.al,.int .i64 s.st,.slice A n c,.int .i64 p.al,.slice B m d,.slice B' m' d',.int .i64 L] 203)).alloc (.cells #[.slice R nr cr,.slice C nc cc] 205)=w1 at *
 have CB:=b1.cells
 have CT:=b2.cells
 have hww:=Ext.refl w1
 go_wp2_with (first
  |(go_at_call 228;refine (HA.out _ hx0).mono ?_;rintro e w2 ⟨rfl,hx2⟩)
  |(go_at_call 61;refine (zJ L (by unfold Sm;omega) _).mono ?_;rintro e w3 ⟨HL,hc,rfl,hownL,hx3⟩;have hx13:=hx2.trans hx3)
  |(go_at_call 229;refine (HR.out _ (hx0.trans hx13)).mono ?_;rintro e w4 ⟨G,g,rfl,hownG,hx4⟩;have hx14:=hx13.trans hx4))
 have hrdG:=Reads.of_own hownG
 have HG:=za (fun W (hW:Ext w4 W)=>hrdG.ext hW)
 have hownL4:=ze hownL hx4
 have HLet:=za (fun W (hW:Ext w4 W)=>ze hownL4 hW)
 have hlm:=za (fun l (hl:l∈letters L 6)=>(zX.1 hl).1)
 have hcand:=za (show candL L rows=rows.flatMap fun r=>(letters L 6).map fun l=>r++zdZ l from rfl)
 have hls:(letters L 6).length≤6:=zq L 6
 generalize letters L 6=ls at *
 clear hownL hownL4 hrdG hownG hx2 hx3 hx13 hx4 hww
 have hww:=Ext.refl w4
 go_loopw [8] (fun iv wr=>∃ i:Nat,i≤nr∧iv=.int .i64 i∧Hid (∀ x∈(rows.take i).flatMap (fun r=>ls.map fun l=>r++zdZ l),zfF zs (mkS (zcI (zu s p L) cols x))=true)∧Ext w4 wr) (fun iv _=>nr - (intOf iv).toNat)
 case atStart=>exact⟨0,Nat.zero_le _,rfl,za (fun x hx=>by simp at hx),hww⟩
 case round =>
  clear hww
  obtain⟨i,hi,rfl,hdone,hxr⟩:=hrel
  have CTr:∀ W,Ext wr W→∀ q,W.cell? ⟨w.heap.size+1,q,none⟩=#[Value.slice R nr cr,.slice C nc cc][q]?:=fun W hW=>CT W (hx14.trans (hxr.trans hW))
  have hww:=Ext.refl wr
  by_cases hlt:i<nr
  ·have hlt':(i:Int)<(nr:Int):=by omega
   obtain⟨ad,x,rfl,_,_,hx,cx⟩:=(H1.out wr (hx0.trans (hx14.trans hxr))).str hlt
   have CX:∀ W,Ext wr W→W.cell? (ad.add i)=some (.string x):=fun W hW=>hW.cell_some cx
   have hxs:=(Hin.out x (List.mem_of_getElem? hx.out)).2
   have hxi:=za hx.out
   clear cx hx
   go_wp2_with fail
   obtain⟨wo,hwo⟩:∃ wo,wo=wr:=⟨_,rfl⟩
   subst hwo
   go_loopw [9] (fun kv wr=>∃ k:Nat,k≤ls.length∧kv=.int .i64 k∧Hid (∀ y∈(ls.take k).map (fun l=>x++zdZ l),zfF zs (mkS (zcI (zu s p L) cols y))=true)∧Ext wo wr) (fun kv _=>ls.length - (intOf kv).toNat)
   case atStart=>exact⟨0,Nat.zero_le _,rfl,za (fun y hy=>by simp at hy),hww⟩
   case round =>
    clear hww
    obtain⟨k,hk,rfl,hdk,hxr2⟩:=hrel
    by_cases hkl:k<ls.length
    ·have hkl':(k:Int)<(ls.length:Int):=by omega
     obtain⟨l,hl⟩:∃ l,ls[k]?=some l:=⟨_,List.getElem?_eq_getElem hkl⟩
     have hl6:=hlm.out l (List.mem_of_getElem? hl)
     have zhJ:=HLet.out wr (hxr.trans hxr2)
     obtain⟨gl,rfl,hgl,-⟩:=zP zhJ (by omega)
     have cl:=zcv zhJ hkl
     rw [List.getD_eq_getElem?_getD,hl,Option.getD_some] at cl
     have CL:∀ W,Ext wr W→W.cell? ⟨gl,k,none⟩=some (.int .i64 (l:Nat)):=fun W hW=>hW.cell_some cl
     have CX2:∀ W,Ext wr W→W.cell? (ad.add i)=some (.string x):=fun W hW=>CX W (hxr2.trans hW)
     have CT2:∀ W,Ext wr W→∀ q,W.cell? ⟨w.heap.size+1,q,none⟩=#[Value.slice (some ad) nr cr,.slice C nc cc][q]?:=fun W hW=>CTr W (hxr2.trans hW)
     have CB2:∀ W,Ext wr W→∀ q,W.cell? ⟨w.heap.size,q,none⟩=#[Value.bool false,.int .i64 0,.slice none 0 0,.slice none 0 0,.int .i64 s.al,.int .i64 s.st,.slice A n c,.int .i64 p.al,.slice B m d,.slice B' m' d',.int .i64 L][q]?:=fun W hW=>CB W ((hx14.trans (hxr.trans hxr2)).trans hW)
     have HT:=za (fun W=>zcX (w:=W) hl6)
     have Hl:=za hl
     obtain⟨z,hz⟩:∃ z,Hid (zdZ l=z):=⟨_,rfl⟩
     rw [hz.out] at HT
     have hz1:z.size=1:=by rw [← hz.out];exact zcP l
     have hsz:¬ 9223372036854775807<x.size+1:=by omega
     have HWr:=za (fun W (hW:Ext wr W)=>HW.out W ((hx0.trans (hx14.trans (hxr.trans hxr2))).trans hW) (x++z) (by rw [ByteArray.size_append];omega))
     have HGr:=za (fun W (hW:Ext wr W)=>HG.out W ((hxr.trans hxr2).trans hW))
     have hww:=Ext.refl wr
     obtain⟨y,hy⟩:∃ y,x++z=y:=⟨_,rfl⟩
     rw [hy] at HWr
     have hyl:Hid (x++zdZ l=y):=by unfold Hid;rw [hz.out];exact hy
     clear hl cl zhJ
     go_wp2_with fail
     go_region_held3 (fun W=>Ext wr W) (first|assumption|(refine Ext.drew ?_;assumption)|(refine Ext.trans ?_ (by assumption);assumption)|(refine Ext.trans ?_ (by assumption);refine Ext.drew ?_;assumption)) (first
      |(go_at_call 111;refine (HT.out _).mono ?_;rintro e w7 ⟨rfl,hx7⟩))
     have hx17:Ext wr w7:=by assumption
     clear hy
     cases hm:zfF zs (mkS (zcI (zu s p L) cols y))
     all_goals
      have Hm:=za hm
      clear hm
      go_wp2_with (first
       |(go_at_call 231;refine (HWr.out _ hx17).mono ?_;rintro e w8 ⟨rfl,hx8⟩;have hx18:=hx17.trans hx8)
       |(go_at_call 261;with_reducible refine (zcl (HGr.out _ hx18)).mono ?_;rw [Hm.out];rintro e w9 ⟨rfl,rfl⟩))
     ·have hsome:=za (show op=some y by
       rw [Hop.out,hcand.out]
       exact open_find hxi.out Hl.out hyl.out hdone.out hdk.out Hm.out)
      go_ret2
      exact⟨by rw [hsome.out];rfl,hx0.trans (hx14.trans (hxr.trans (hxr2.trans hx18)))⟩
     ·go_roundw
      case rel=>exact⟨k+1,by omega,by go_num,za (fun y' hy'=>by
       rw [List.take_add_one,Hl.out,List.map_append] at hy'
       rcases List.mem_append.1 hy' with h1|h1
       ·exact hdk.out y' h1
       ·simp at h1
        rw [h1,hyl.out]
        exact Hm.out),hxr2.trans hx18⟩
      case measure=>simp [intOf];omega
    ·have hge:(ls.length:Int)≤(k:Int):=by omega
     go_wp2_with fail
     go_roundw
     case rel=>exact⟨i+1,by omega,by go_num,za (fun y hy=>by
      rw [List.take_add_one,hxi.out,List.flatMap_append] at hy
      rcases List.mem_append.1 hy with h1|h1
      ·exact hdone.out y h1
      ·refine hdk.out y ?_
       rw [List.take_of_length_le (by omega)]
       simpa using h1),hxr.trans hxr2⟩
     case measure=>simp [intOf];omega
  ·have hge:(nr:Int)≤(i:Int):=by omega
   have hno:=za (show op=none by
    rw [Hop.out,hcand.out,List.find?_eq_none]
    intro y hy
    have:=hdone.out y (by rw [List.take_of_length_le (by have:=He.out;omega)];exact hy)
    rw [this];decide)
   go_wp2_with fail
   go_ret2
   exact⟨by rw [hno.out];rfl,hx0.trans (hx14.trans hxr)⟩
end
theorem zn (l:List ByteArray):∀ u∈zF l,u.oneCell'=true:=by
 intro u hu
 obtain⟨x,-,rfl⟩:=List.mem_map.1 hu
 rfl
def TabV (w1:World) (rows cols:List ByteArray) (nr nc:Nat) (v:Value) (W:World):Prop:=
 ∃ (g:Nat) (R:Option Addr) (cr:Nat) (C:Option Addr) (cc:Nat),v=.pointer (some ⟨g,0,none⟩)∧w1.heap.size≤g∧Blk W g 205 #[.slice R nr cr,.slice C nc cc] ∧
  W.ownsRow w1.heap.size 9 1 (.slice R nr cr) nr (zF rows)∧W.ownsRow w1.heap.size 9 1 (.slice C nc cc) nc (zF cols)∧Ext w1 W∧Hid (∀ k,(Value.slice R nr cr).ownBlock=some k→(Value.slice C nc cc).ownBlock≠some k)
theorem zad {w1 W:World} {rows cols:List ByteArray} {nr nc g cr cc:Nat} {R C:Option Addr}(ha:W.ownsRow w1.heap.size 9 1 (.slice R nr cr) nr (zF rows))(hc:W.ownsRow w1.heap.size 9 1 (.slice C nc cc) nc (zF cols))(hb:Blk W g 205 #[.slice none 0 0,.slice none 0 0])(hx:Ext w1 W)(hg:w1.heap.size≤g)(hd:∀ k,(Value.slice R nr cr).ownBlock=some k→(Value.slice C nc cc).ownBlock≠some k) :
  TabV w1 rows cols nr nc (.pointer (some ⟨g,0,none⟩)) ((W.setCell ⟨g,0,none⟩ (.slice R nr cr)).setCell ⟨g,1,none⟩ (.slice C nc cc)):=by
 have hf:Frm (fun k=>k=g) W ((W.setCell ⟨g,0,none⟩ (.slice R nr cr)).setCell ⟨g,1,none⟩ (.slice C nc cc)):=(Frm.setCell W g 0 _).trans (Frm.setCell _ g 1 _)
 exact⟨g,R,cr,C,cc,rfl,hg,by simpa using (hb.set_ 0 _).set_ 1 _,zd ha hf (fun b hv e=>zk ha hb (by decide) hv e),zd hc hf (fun b hv e=>zk hc hb (by decide) hv e),(hx.setCell (p:=⟨g,0,none⟩) hg _).setCell (p:=⟨g,1,none⟩) hg _,za hd⟩
section
variable {w W:World} {n c m d m' d' L:Nat} {A B B':Option Addr} {s:Sys} {p:Aut} {nr nc cr cc:Nat} {R C:Option Addr} {rows cols:List ByteArray}
theorem zgk (h:Tch w A n B m B' m' s p L)(hT:TabAt w R nr C nc rows cols)(hI:zcH L (zu s p L) rows cols)(hcr:nr≤cr)(hcc:nc≤cc) :
  Calls Tryz.prog 253 #[.agg #[.bool false,.int .i64 0,.slice none 0 0,.slice none 0 0,.int .i64 s.al,.int .i64 s.st,.slice A n c,.int .i64 p.al,.slice B m d,.slice B' m' d',.int .i64 L],.agg #[.slice R nr cr,.slice C nc cc]] w fun e w'=>e=.returned (.tuple #[.string ((zbk L (zu s p L) rows cols).getD ⟨#[]⟩),.bool (zbk L (zu s p L) rows cols).isSome])∧Ext w w':=by
 have HV:=za (fun W (hW:Ext w W)=>zbm (c:=c) (d:=d) (d':=d') (h.ext hW) (hT.ext hW) hI hcr hcc)
 have HO:=za (fun W (hW:Ext w W)=>zeJ (c:=c) (d:=d) (d':=d') (cr:=cr) (cc:=cc) (h.ext hW) (hT.ext hW) hI)
 generalize zbk L (zu s p L) rows cols=op at *
 have hx0:Ext w ((w.alloc (.cells #[.bool false,.int .i64 0,.slice none 0 0,.slice none 0 0,.int .i64 s.al,.int .i64 s.st,.slice A n c,.int .i64 p.al,.slice B m d,.slice B' m' d',.int .i64 L] 203)).alloc (.cells #[.slice R nr cr,.slice C nc cc] 205)):=((Ext.refl _).alloc _).alloc _
 obtain⟨b1,b2⟩:=zR (Ext.refl ((w.alloc (.cells #[.bool false,.int .i64 0,.slice none 0 0,.slice none 0 0,.int .i64 s.al,.int .i64 s.st,.slice A n c,.int .i64 p.al,.slice B m d,.slice B' m' d',.int .i64 L] 203)).alloc (.cells #[.slice R nr cr,.slice C nc cc] 205)))
 clear h hT hI
 go_enter Tryz.func253,Tryz.ntmps253
 go_upto_region 1 with fail
 generalize (w.alloc (.cells #[.bool false,.int .i64 0,.slice none 0 0,.slice none 0 0,.int .i64 s.al,.int .i64 s.st,.slice A n c,.int .i64 p.al,.slice B m d,.slice B' m' d',.int .i64 L] 203)).alloc (.cells #[.slice R nr cr,.slice C nc cc] 205)=w1 at *
 have CB:=b1.cells
 have CT:=b2.cells
 have hww:=Ext.refl w1
 go_wp2_with (first
  |(go_at_call 251;refine (HV.out _ hx0).mono ?_;rintro e w2 ⟨rfl,hx2⟩)
  |(go_at_call 252;refine (HO.out _ (hx0.trans hx2)).mono ?_;rintro e w3 ⟨rfl,hx3⟩))
 go_ret2
 exact⟨rfl,hx0.trans (hx2.trans hx3)⟩
theorem zfa (h:Tch w A n B m B' m' s p L)(hT:TabAt w R nr C nc rows cols)(hI:zcH L (zu s p L) rows cols)(hcr:nr≤cr)(hcc:nc≤cc)(hcl:zbk L (zu s p L) rows cols=none) :
  Calls Tryz.prog 227 #[.agg #[.bool false,.int .i64 0,.slice none 0 0,.slice none 0 0,.int .i64 s.al,.int .i64 s.st,.slice A n c,.int .i64 p.al,.slice B m d,.slice B' m' d',.int .i64 L],.agg #[.slice R nr cr,.slice C nc cc]] w fun e w'=>e=.returned (.bool true)∧Ext w w':=by
 have HV:=za (fun W (hW:Ext w W)=>zbm (c:=c) (d:=d) (d':=d') (h.ext hW) (hT.ext hW) hI hcr hcc)
 have HO:=za (fun W (hW:Ext w W)=>zgk (c:=c) (d:=d) (d':=d') (cr:=cr) (cc:=cc) (h.ext hW) (hT.ext hW) hI hcr hcc)
 rw [hcl] at HO
 have hx0:Ext w ((w.alloc (.cells #[.bool false,.int .i64 0,.slice none 0 0,.slice none 0 0,.int .i64 s.al,.int .i64 s.st,.slice A n c,.int .i64 p.al,.slice B m d,.slice B' m' d',.int .i64 L] 203)).alloc (.cells #[.slice R nr cr,.slice C nc cc] 205)):=((Ext.refl _).alloc _).alloc _
 obtain⟨b1,b2⟩:=zR (Ext.refl ((w.alloc (.cells #[.bool false,.int .i64 0,.slice none 0 0,.slice none 0 0,.int .i64 s.al,.int .i64 s.st,.slice A n c,.int .i64 p.al,.slice B m d,.slice B' m' d',.int .i64 L] 203)).alloc (.cells #[.slice R nr cr,.slice C nc cc] 205)))
 clear h hT hI hcl
 go_enter Tryz.func227,Tryz.ntmps227
 go_upto_region 1 with fail
 generalize (w.alloc (.cells #[.bool false,.int .i64 0,.slice none 0 0,.slice none 0 0,.int .i64 s.al,.int .i64 s.st,.slice A n c,.int .i64 p.al,.slice B m d,.slice B' m' d',.int .i64 L] 203)).alloc (.cells #[.slice R nr cr,.slice C nc cc] 205)=w1 at *
 have CB:=b1.cells
 have CT:=b2.cells
 have hww:=Ext.refl w1
 go_wp2_with (first
  |(go_at_call 253;refine (HO.out _ hx0).mono ?_;rintro e w2 ⟨rfl,hx2⟩)
  |(go_at_call 251;refine (HV.out _ (hx0.trans hx2)).mono ?_;rintro e w3 ⟨rfl,hx3⟩))
 go_ret
 exact⟨rfl,hx0.trans (hx2.trans hx3)⟩
theorem inB_snoc {r:ByteArray} {L l:Nat}(hr:inB r L=true)(hs:r.size≤1000)(hl:l<6)(hb:L.testBit l=true):inB (r++zdZ l) L=true:=by
 unfold inB at hr ⊢
 simp only [Bool.and_eq_true,decide_eq_true_eq] at hr ⊢
 refine⟨by rw [ByteArray.size_append,zcP];omega,?_⟩
 unfold zeX at hr ⊢
 rw [ByteArray.data_append,Array.toList_append,List.all_append,hr.2,Bool.true_and]
 have e:(zdZ l).data.toList=[UInt8.ofNat (97+l)]:=by
  unfold zdZ
  rw [strOfNums_data]
  rfl
 rw [e]
 simp only [List.all_cons,List.all_nil,Bool.and_true]
 have e2:(UInt8.ofNat (97+l)).toNat=97+l:=by rw [UInt8.toNat_ofNat'];omega
 rw [e2]
 unfold hasB ltr
 rw [if_neg (by omega)]
 simp only [Bool.and_eq_true,decide_eq_true_eq]
 exact⟨by omega,by rw [show (((97+l:Nat):Int) - 97).toNat=l by omega];exact hb⟩
theorem openW_some {f:ByteArray→Bool} {x:ByteArray}(h:zbk L f rows cols=some x):(∃ r l,r∈rows∧l<6∧L.testBit l=true∧x=r++zdZ l)∧zcI f cols x∉rows.map (zcI f cols):=by
 unfold zbk at h
 have h1:=List.mem_of_find?_eq_some h
 have h2:=List.find?_some h
 unfold candL at h1
 obtain⟨r,hr,h3⟩:=List.mem_flatMap.1 h1
 obtain⟨l,hl,rfl⟩:=List.mem_map.1 h3
 obtain⟨hl6,hb⟩:=zX.1 hl
 refine⟨⟨r,l,hr,hl6,hb,rfl⟩,fun hm=>?_⟩
 simp only [Bool.not_eq_true'] at h2
 rw [zbK] at h2
 refine h2 ?_
 obtain⟨y,hy,e⟩:=List.mem_map.1 hm
 unfold zbl
 exact List.mem_map.2 ⟨y,hy,by rw [e]⟩
theorem zcH.grow {f:ByteArray→Bool} {x:ByteArray}(h:zcH L f rows cols)(hlen:rows.length<12)(hop:zbk L f rows cols=some x):zcH L f (rows++[x]) cols:=by
 obtain⟨⟨r,l,hr,hl,hb,rfl⟩,hn⟩:=openW_some hop
 refine⟨by simp,by simp;omega,h.c1,h.c20,by rw [List.getElem?_append_left (by have:=h.r1;omega)];exact h.r0,h.c0,fun i y hi hy=>?_,h.cw,?_⟩
 ·rcases Nat.lt_or_ge i rows.length with h1|h1
  ·rw [List.getElem?_append_left h1] at hy
   obtain⟨h2,z,l',h3,h4,h5⟩:=h.rw_ i y hi hy
   exact⟨h2,z,l',h3,h4,by rw [List.take_append_of_le_length (by omega)];exact h5⟩
  ·rw [List.getElem?_append_right h1] at hy
   have hi2:i=rows.length:=by
    rcases Nat.eq_or_lt_of_le h1 with h2|h2
    ·exact h2.symm
    ·rw [List.getElem?_eq_none (by simp;omega)] at hy;cases hy
   subst hi2
   simp at hy
   subst hy
   have h2:=h.rin hr
   exact⟨inB_snoc h2.1 (by omega) hl hb,r,l,hl,rfl,by rw [List.take_append_of_le_length (Nat.le_refl _),List.take_length];exact hr⟩
 ·rw [List.map_append,List.map_singleton,List.nodup_append]
  refine⟨h.nd,by simp,fun a ha b hb' e=>?_⟩
  rw [List.mem_singleton] at hb'
  subst hb'
  subst e
  exact hn ha
noncomputable def zaE (L:Nat) (f:ByteArray→Bool) (cols:List ByteArray):Nat→List ByteArray→Option (List ByteArray)
 |0,rows=>match zbk L f rows cols with|none=>some rows|some _=>none
 |k+1,rows=>match zbk L f rows cols with|none=>some rows|some x=>zaE L f cols k (rows++[x])
theorem zdI {f:ByteArray→Bool} (k:Nat)(h:zbk L f rows cols=none):zaE L f cols k rows=some rows:=by cases k<;>simp [zaE,h]
theorem zft {f:ByteArray→Bool} {x:ByteArray}(h:zbk L f rows cols=some x):zaE L f cols 0 rows=none:=by simp [zaE,h]
theorem zfs {f:ByteArray→Bool} {x:ByteArray} (k:Nat)(h:zbk L f rows cols=some x):zaE L f cols (k+1) rows=zaE L f cols k (rows++[x]):=by simp [zaE,h]
theorem closeT_ok {f:ByteArray→Bool}:∀ (k:Nat) (rows rows':List ByteArray),zcH L f rows cols→rows.length+k≤12→zaE L f cols k rows=some rows'→zcH L f rows' cols∧zbk L f rows' cols=none∧∃ t,rows'=rows++t:=by
 intro k
 induction k with
 |zero =>
  intro rows rows' hI hk h
  cases ho:zbk L f rows cols with
  |none=>rw [zdI 0 ho] at h;obtain rfl:=Option.some.inj h;exact⟨hI,ho,[],by simp⟩
  |some x=>rw [zft ho] at h;cases h
 |succ k ih =>
  intro rows rows' hI hk h
  cases ho:zbk L f rows cols with
  |none=>rw [zdI _ ho] at h;obtain rfl:=Option.some.inj h;exact⟨hI,ho,[],by simp⟩
  |some x =>
   rw [zfs _ ho] at h
   obtain⟨h1,h2,t,h3⟩:=ih (rows++[x]) rows' (hI.grow (by omega) ho) (by simp;omega) h
   exact⟨h1,h2,[x]++t,by rw [h3,List.append_assoc]⟩
def zbF (w:World) (o:Option (List ByteArray × List ByteArray)) (e:Ending) (w':World):Prop:=
 Ext w w'∧((o=none∧e=.returned (.tuple #[.agg #[.slice none 0 0,.slice none 0 0],.bool false])) ∨
  ∃ (rs cs:List ByteArray) (nr nc:Nat) (R:Option Addr) (cr:Nat) (C:Option Addr) (cc:Nat),o=some (rs,cs)∧e=.returned (.tuple #[.agg #[.slice R nr cr,.slice C nc cc],.bool true]) ∧
   w'.ownsRow w.heap.size 9 1 (.slice R nr cr) nr (zF rs)∧w'.ownsRow w.heap.size 9 1 (.slice C nc cc) nc (zF cs))
def lenAt0 (W:World) (G:Nat):Nat:=match W.cell? ⟨G,0,none⟩ with|some (.slice _ n _)=>n|_=>0
theorem zgz {W:World} {G n c:Nat} {R:Option Addr} {v:Value} {t:TypeId}(h:Blk W G t #[.slice R n c,v]):lenAt0 W G=n:=by
 unfold lenAt0
 rw [h.cell 0]
 rfl
theorem yU07d1 {P:Prop}(h:P:=by
 have c6:=Blk.cell blk9
 have f6:=Blk.frozen blk9
 refine zg fun K hK=>?_
 go_simp
 refine hK.out _ _ ?_
 refine zj ?_
 go_wp2_with fail
 go_meet
 exact zad zhQ zhR blk9 hx35 HG0.out hdis.out
 ):P:=h
theorem yU07c1 {P:Prop}(h:P:=by
 refine zb (fun K hK=>?_)
 refine zo _ _ _ _ rfl w1.heap.size 9 _ 1 16 Tryz.underlying61 zi rfl (by decide) (.slice (some ⟨bc9,0,none⟩) 0 0) 0 [] rfl zhR _ _ C nc cc (zF cols) rfl (HC1.out v34 hx34) (zn _) (by unfold maxLen;omega) (by omega) hx34.size ?_
 intro v9 v35 ownc8 hg hat
 rw [Nat.zero_add,List.nil_append] at ownc8
 obtain⟨Ac9,cc9,rfl⟩:=zf ownc8
 have hx35:=hx34.grown hg (fun k hk=>(zhR.lt k hk).1)
 have hsz:=hg.size
 have hbs:Hid (v34.heap.size=v34.heap.size):=za rfl
 have zhQ:=zd zhQ (Frm.of_grown hg) (fun k hk hS=>hrn_a_bc9.out k hk (by simpa [Value.ownBlock] using hS.symm))
 have blk9:Blk v35 gbox9 205 #[.slice none 0 0,.slice none 0 0]:=(hg.block gbox9 (Blk.lt blk9) (fun e=>zk zhR blk9 (by decide) e.symm rfl)).trans blk9
 have hdis0:Hid (∀ k,(Value.slice Ac9 nc cc9).ownBlock=some k→(Value.slice Aa9 nr ca9).ownBlock≠some k):=za (fun k hk hS=>by rcases hat with h1|h1;(rw [h1] at hk;simp [Value.ownBlock] at hk;exact hrn_a_bc9.out k hS hk.symm);(rw [h1] at hk;have:=Option.some.inj hk;have:=hrl_a.out k hS;omega))
 have hdis:Hid (∀ k,(Value.slice Aa9 nr ca9).ownBlock=some k→(Value.slice Ac9 nc cc9).ownBlock≠some k):=za (fun k hk hS=>hdis0.out k hS hk)
 generalize hbe:v34.heap.size=nc9 at *
 have hne_ba9_nc9:Hid (ba9≠nc9):=za (by have:=zhN.out;omega)
 have hne_bc9_nc9:Hid (bc9≠nc9):=za (by have:=zhO.out;omega)
 have zhN:Hid (ba9<v35.heap.size):=za (by have:=zhN.out;omega)
 have zhO:Hid (bc9<v35.heap.size):=za (by have:=zhO.out;omega)
 have hrl_a:Hid (∀ k,(Value.slice Aa9 nr ca9).ownBlock=some k→k<v35.heap.size):=za (fun k hk=>(zhQ.lt k hk).2)
 have hrl_c:Hid (∀ k,(Value.slice Ac9 nc cc9).ownBlock=some k→k<v35.heap.size):=za (fun k hk=>(ownc8.lt k hk).2)
 clear hbs hsz hbe
 refine hK.out _ _ hx35 ?_
 refine pT ?_
 have zhR:=ownc8
 refine uQ ?_
 exact yU07d1
 ):P:=h
theorem yU07b1 {P:Prop}(h:P:=by
 clear hbs zhL hbe
 refine zb (fun K hK=>?_)
 refine zo _ _ _ _ rfl w1.heap.size 9 _ 1 16 Tryz.underlying61 zi rfl (by decide) (.slice (some ⟨ba9,0,none⟩) 0 0) 0 [] rfl zhQ _ _ R nr cr (zF rows) rfl (HR1.out v33 hx33) (zn _) (by unfold maxLen;omega) (by omega) hx33.size ?_
 intro v9 v34 owna8 hg hat
 rw [Nat.zero_add,List.nil_append] at owna8
 obtain⟨Aa9,ca9,rfl⟩:=zf owna8
 have hx34:=hx33.grown hg (fun k hk=>(zhQ.lt k hk).1)
 have hsz:=hg.size
 have hbs:Hid (v33.heap.size=v33.heap.size):=za rfl
 have zhR:=zd zhR (Frm.of_grown hg) (fun k hk hS=>by simp [Value.ownBlock] at hk hS;exact zhW.out (hS.trans hk.symm))
 have blk9:Blk v34 gbox9 205 #[.slice none 0 0,.slice none 0 0]:=(hg.block gbox9 (Blk.lt blk9) (fun e=>zk zhQ blk9 (by decide) e.symm rfl)).trans blk9
 generalize hbe:v33.heap.size=na9 at *
 have hne_ba9_na9:Hid (ba9≠na9):=za (by have:=zhN.out;omega)
 have hne_bc9_na9:Hid (bc9≠na9):=za (by have:=zhO.out;omega)
 have zhN:Hid (ba9<v34.heap.size):=za (by have:=zhN.out;omega)
 have zhO:Hid (bc9<v34.heap.size):=za (by have:=zhO.out;omega)
 have hrn_a_bc9:Hid (∀ k,(Value.slice Aa9 nr ca9).ownBlock=some k→k≠bc9):=za (fun k hk=>by rcases hat with h1|h1;(rw [h1] at hk;simp [Value.ownBlock] at hk;rw [← hk];exact zhW.out);(rw [h1] at hk;rw [← Option.some.inj hk];exact (Ne.symm hne_bc9_na9.out)))
 have hrl_a:Hid (∀ k,(Value.slice Aa9 nr ca9).ownBlock=some k→k<v34.heap.size):=za (fun k hk=>(owna8.lt k hk).2)
 clear hbs hsz hbe
 refine hK.out _ _ hx34 ?_
 refine pT ?_
 have zhQ:=owna8
 exact yU07c1
 ):P:=h
theorem yU07b2 {P:Prop}(h:P:=by
 skip
 refine zo _ _ _ _ rfl w1.heap.size 9 _ 1 16 Tryz.underlying61 zi rfl (by decide) (.slice (some ⟨bc9,0,none⟩) 0 0) 0 [] rfl zhR _ _ C nc cc (zF cols) rfl (HC1.out v33 hx33) (zn _) (by unfold maxLen;omega) (by omega) hx33.size ?_
 intro v9 v34 ownc8 hg hat
 rw [Nat.zero_add,List.nil_append] at ownc8
 obtain⟨Ac9,cc9,rfl⟩:=zf ownc8
 have hx34:=hx33.grown hg (fun k hk=>(zhR.lt k hk).1)
 have hsz:=hg.size
 have hbs:Hid (v33.heap.size=v33.heap.size):=za rfl
 have zhQ:=zd zhQ (Frm.of_grown hg) (fun k hk hS=>hrn_a_bc9.out k hk (by simpa [Value.ownBlock] using hS.symm))
 have hdis0:Hid (∀ k,(Value.slice Ac9 nc cc9).ownBlock=some k→(Value.slice Aa9 nr ca9).ownBlock≠some k):=za (fun k hk hS=>by rcases hat with h1|h1;(rw [h1] at hk;simp [Value.ownBlock] at hk;exact hrn_a_bc9.out k hS hk.symm);(rw [h1] at hk;have:=Option.some.inj hk;have:=hrl_a.out k hS;omega))
 have hdis:Hid (∀ k,(Value.slice Aa9 nr ca9).ownBlock=some k→(Value.slice Ac9 nc cc9).ownBlock≠some k):=za (fun k hk hS=>hdis0.out k hS hk)
 generalize hbe:v33.heap.size=nc9 at *
 have hne_ba9_nc9:Hid (ba9≠nc9):=za (by have:=zhN.out;omega)
 have hne_bc9_nc9:Hid (bc9≠nc9):=za (by have:=zhO.out;omega)
 have zhN:Hid (ba9<v34.heap.size):=za (by have:=zhN.out;omega)
 have zhO:Hid (bc9<v34.heap.size):=za (by have:=zhO.out;omega)
 have hrl_a:Hid (∀ k,(Value.slice Aa9 nr ca9).ownBlock=some k→k<v34.heap.size):=za (fun k hk=>(zhQ.lt k hk).2)
 have hrl_c:Hid (∀ k,(Value.slice Ac9 nc cc9).ownBlock=some k→k<v34.heap.size):=za (fun k hk=>(ownc8.lt k hk).2)
 clear hbs hsz hbe
 refine hK.out _ _ hx34 ?_
 refine pT ?_
 have zhR:=ownc8
 refine uQ ?_
 refine zb fun K hK=>?_;go_simp
 have hx35:=hx34.alloc (.cells #[.slice none 0 0,.slice none 0 0] 205)
 have zhL:=(Ext.refl v34).alloc (.cells #[.slice none 0 0,.slice none 0 0] 205)
 have blk9:=Blk.new v34 205 #[.slice none 0 0,.slice none 0 0]
 refine hK.out _ _ hx35 ?_
 refine pT ?_
 have zhQ:=ze zhQ zhL
 have zhR:=ze zhR zhL
 have HG0:=za hx34.size
 have hbs:v34.heap.size<(v34.alloc (.cells #[.slice none 0 0,.slice none 0 0] 205)).heap.size:=by simp
 generalize hbe:v34.heap.size=gbox9 at *
 generalize v34.alloc (.cells #[.slice none 0 0,.slice none 0 0] 205)=v35 at *
 have zhN:Hid (ba9<v35.heap.size):=za (by have:=zhN.out;omega)
 have zhO:Hid (bc9<v35.heap.size):=za (by have:=zhO.out;omega)
 have hrl_a:Hid (∀ k,(Value.slice Aa9 nr ca9).ownBlock=some k→k<v35.heap.size):=za (fun k hk=>(zhQ.lt k hk).2)
 have hrl_c:Hid (∀ k,(Value.slice Ac9 nc cc9).ownBlock=some k→k<v35.heap.size):=za (fun k hk=>(zhR.lt k hk).2)
 clear hbs zhL hbe
 exact yU07d1
 ):P:=h
theorem yU07b3 {P:Prop}(h:P:=by
 clear hbs zhL hbe
 exact yU07c1
 ):P:=h
theorem yU07a1 {P:Prop}(h:P:=by
 clear hbs zhL hbe
 refine zD (fun K hK=>?_) (fun K hK=>?_)
 ·skip
  refine zo _ _ _ _ rfl w1.heap.size 9 _ 1 16 Tryz.underlying61 zi rfl (by decide) (.slice (some ⟨ba9,0,none⟩) 0 0) 0 [] rfl zhQ _ _ R nr cr (zF rows) rfl (HR1.out v32 hx32) (zn _) (by unfold maxLen;omega) (by omega) hx32.size ?_
  intro v9 v33 owna8 hg hat
  rw [Nat.zero_add,List.nil_append] at owna8
  obtain⟨Aa9,ca9,rfl⟩:=zf owna8
  have hx33:=hx32.grown hg (fun k hk=>(zhQ.lt k hk).1)
  have hsz:=hg.size
  have hbs:Hid (v32.heap.size=v32.heap.size):=za rfl
  have zhR:=zd zhR (Frm.of_grown hg) (fun k hk hS=>by simp [Value.ownBlock] at hk hS;exact zhW.out (hS.trans hk.symm))
  generalize hbe:v32.heap.size=na9 at *
  have hne_ba9_na9:Hid (ba9≠na9):=za (by have:=zhN.out;omega)
  have hne_bc9_na9:Hid (bc9≠na9):=za (by have:=zhO.out;omega)
  have zhN:Hid (ba9<v33.heap.size):=za (by have:=zhN.out;omega)
  have zhO:Hid (bc9<v33.heap.size):=za (by have:=zhO.out;omega)
  have hrn_a_bc9:Hid (∀ k,(Value.slice Aa9 nr ca9).ownBlock=some k→k≠bc9):=za (fun k hk=>by rcases hat with h1|h1;(rw [h1] at hk;simp [Value.ownBlock] at hk;rw [← hk];exact zhW.out);(rw [h1] at hk;rw [← Option.some.inj hk];exact (Ne.symm hne_bc9_na9.out)))
  have hrl_a:Hid (∀ k,(Value.slice Aa9 nr ca9).ownBlock=some k→k<v33.heap.size):=za (fun k hk=>(owna8.lt k hk).2)
  clear hbs hsz hbe
  refine hK.out _ _ hx33 ?_
  refine pT ?_
  have zhQ:=owna8
  refine zD (fun K hK=>?_) (fun K hK=>?_)
  ·exact yU07b2
  ·go_simp
   have hx34:=hx33.alloc (.cells #[.slice none 0 0,.slice none 0 0] 205)
   have zhL:=(Ext.refl v33).alloc (.cells #[.slice none 0 0,.slice none 0 0] 205)
   have blk9:=Blk.new v33 205 #[.slice none 0 0,.slice none 0 0]
   refine hK.out _ _ hx34 ?_
   refine pT ?_
   have zhQ:=ze zhQ zhL
   have zhR:=ze zhR zhL
   have HG0:=za hx33.size
   have hbs:v33.heap.size<(v33.alloc (.cells #[.slice none 0 0,.slice none 0 0] 205)).heap.size:=by simp
   generalize hbe:v33.heap.size=gbox9 at *
   generalize v33.alloc (.cells #[.slice none 0 0,.slice none 0 0] 205)=v34 at *
   have zhN:Hid (ba9<v34.heap.size):=za (by have:=zhN.out;omega)
   have zhO:Hid (bc9<v34.heap.size):=za (by have:=zhO.out;omega)
   have hrl_a:Hid (∀ k,(Value.slice Aa9 nr ca9).ownBlock=some k→k<v34.heap.size):=za (fun k hk=>(zhQ.lt k hk).2)
   exact yU07b3
 ·go_simp
  have hx33:=hx32.alloc (.cells #[.slice none 0 0,.slice none 0 0] 205)
  have zhL:=(Ext.refl v32).alloc (.cells #[.slice none 0 0,.slice none 0 0] 205)
  have blk9:=Blk.new v32 205 #[.slice none 0 0,.slice none 0 0]
  refine hK.out _ _ hx33 ?_
  refine pT ?_
  have zhQ:=ze zhQ zhL
  have zhR:=ze zhR zhL
  have HG0:=za hx32.size
  have hbs:v32.heap.size<(v32.alloc (.cells #[.slice none 0 0,.slice none 0 0] 205)).heap.size:=by simp
  generalize hbe:v32.heap.size=gbox9 at *
  generalize v32.alloc (.cells #[.slice none 0 0,.slice none 0 0] 205)=v33 at *
  have zhN:Hid (ba9<v33.heap.size):=za (by have:=zhN.out;omega)
  have zhO:Hid (bc9<v33.heap.size):=za (by have:=zhO.out;omega)
  exact yU07b1
 ):P:=h
theorem yU07a2 {P:Prop}(h:P:=by
 clear hbs zhL hbe
 refine zD (fun K hK=>?_) (fun K hK=>?_)
 ·skip
  refine zo _ _ _ _ rfl w1.heap.size 9 _ 1 16 Tryz.underlying61 zi rfl (by decide) (.slice (some ⟨ba9,0,none⟩) 0 0) 0 [] rfl zhQ _ _ R nr cr (zF rows) rfl (HR1.out v32 hx32) (zn _) (by unfold maxLen;omega) (by omega) hx32.size ?_
  intro v9 v33 owna8 hg hat
  rw [Nat.zero_add,List.nil_append] at owna8
  obtain⟨Aa9,ca9,rfl⟩:=zf owna8
  have hx33:=hx32.grown hg (fun k hk=>(zhQ.lt k hk).1)
  have hsz:=hg.size
  have hbs:Hid (v32.heap.size=v32.heap.size):=za rfl
  have blk9:Blk v33 gbox9 205 #[.slice none 0 0,.slice none 0 0]:=(hg.block gbox9 (Blk.lt blk9) (fun e=>zk zhQ blk9 (by decide) e.symm rfl)).trans blk9
  generalize hbe:v32.heap.size=na9 at *
  have hne_ba9_na9:Hid (ba9≠na9):=za (by have:=zhN.out;omega)
  have zhN:Hid (ba9<v33.heap.size):=za (by have:=zhN.out;omega)
  have hrl_a:Hid (∀ k,(Value.slice Aa9 nr ca9).ownBlock=some k→k<v33.heap.size):=za (fun k hk=>(owna8.lt k hk).2)
  clear hbs hsz hbe
  refine hK.out _ _ hx33 ?_
  refine pT ?_
  have zhQ:=owna8
  refine zb fun K hK=>?_;go_simp
  have hx34:=hx33.alloc (.cells #[] 9)
  have zhR:=zl (World.ownsRow_lit v33 (e:=9) (size:=1) #[] 0 (Nat.le_refl _) (by unfold maxLen;omega) rfl) hx33.size
  have zhL:=(Ext.refl v33).alloc (.cells #[] 9)
  refine hK.out _ _ hx34 ?_
  refine pT ?_
  have zhQ:=ze zhQ zhL
  have blk9:=Blk.ext blk9 zhL
  have hbs:v33.heap.size<(v33.alloc (.cells #[] 9)).heap.size:=by simp
  generalize hbe:v33.heap.size=bc9 at *
  generalize v33.alloc (.cells #[] 9)=v34 at *
  have zhW:Hid (ba9≠bc9):=za (by have:=zhN.out;omega)
  have hrn_a_bc9:Hid (∀ k,(Value.slice Aa9 nr ca9).ownBlock=some k→k≠bc9):=za (fun k hk=>by have:=hrl_a.out k hk;omega)
  have zhN:Hid (ba9<v34.heap.size):=za (by have:=zhN.out;omega)
  have hrl_a:Hid (∀ k,(Value.slice Aa9 nr ca9).ownBlock=some k→k<v34.heap.size):=za (fun k hk=>(zhQ.lt k hk).2)
  have zhO:Hid (bc9<v34.heap.size):=za hbs
  exact yU07b3
 ·go_simp
  have hx33:=hx32.alloc (.cells #[] 9)
  have zhR:=zl (World.ownsRow_lit v32 (e:=9) (size:=1) #[] 0 (Nat.le_refl _) (by unfold maxLen;omega) rfl) hx32.size
  have zhL:=(Ext.refl v32).alloc (.cells #[] 9)
  refine hK.out _ _ hx33 ?_
  refine pT ?_
  have zhQ:=ze zhQ zhL
  have blk9:=Blk.ext blk9 zhL
  have hbs:v32.heap.size<(v32.alloc (.cells #[] 9)).heap.size:=by simp
  generalize hbe:v32.heap.size=bc9 at *
  generalize v32.alloc (.cells #[] 9)=v33 at *
  have zhW:Hid (ba9≠bc9):=za (by have:=zhN.out;omega)
  have zhN:Hid (ba9<v33.heap.size):=za (by have:=zhN.out;omega)
  have zhO:Hid (bc9<v33.heap.size):=za hbs
  exact yU07b1
 ):P:=h
theorem yU07a3 {P:Prop}(h:P:=by
 clear hbs zhL hbe
 refine zb fun K hK=>?_;go_simp
 have hx33:=hx32.alloc (.cells #[] 9)
 have zhQ:=zl (World.ownsRow_lit v32 (e:=9) (size:=1) #[] 0 (Nat.le_refl _) (by unfold maxLen;omega) rfl) hx32.size
 have zhL:=(Ext.refl v32).alloc (.cells #[] 9)
 refine hK.out _ _ hx33 ?_
 refine pT ?_
 have zhR:=ze zhR zhL
 have blk9:=Blk.ext blk9 zhL
 have hbs:v32.heap.size<(v32.alloc (.cells #[] 9)).heap.size:=by simp
 generalize hbe:v32.heap.size=ba9 at *
 generalize v32.alloc (.cells #[] 9)=v33 at *
 have zhW:Hid (ba9≠bc9):=za (by have:=zhO.out;omega)
 have zhO:Hid (bc9<v33.heap.size):=za (by have:=zhO.out;omega)
 have zhN:Hid (ba9<v33.heap.size):=za hbs
 exact yU07b1
 ):P:=h
theorem yU07a4 {P:Prop}(h:P:=by
 exact yU07b3
 ):P:=h
theorem zcV (h:Tch w A n B m B' m' s p L)(hT:TabAt w R nr C nc rows cols)(hI:zcH L (zu s p L) rows cols)(hcr:nr≤cr)(hcc:nc≤cc) :
  Calls Tryz.prog 226 #[.agg #[.bool false,.int .i64 0,.slice none 0 0,.slice none 0 0,.int .i64 s.al,.int .i64 s.st,.slice A n c,.int .i64 p.al,.slice B m d,.slice B' m' d',.int .i64 L],.agg #[.slice R nr cr,.slice C nc cc]] w (zbF w ((zaE L (zu s p L) cols (12 - rows.length) rows).map fun r=>(r,cols))):=by
 obtain⟨e1,e2⟩:=hT.nr
 have hr12:=hI.r12;have hc20:=hI.c20
 rw [e1] at hr12
 rw [e2] at hc20
 have HV:=za (fun W (hW:Ext w W)=>zbm (c:=c) (d:=d) (d':=d') (h.ext hW) (hT.ext hW) hI hcr hcc)
 have HO:=za (fun (R:Option Addr) (nr cr:Nat) (C:Option Addr) (nc cc:Nat) (rows:List ByteArray) W (hW:Ext w W) hT hI=>zeJ (c:=c) (d:=d) (d':=d') (nr:=nr) (nc:=nc) (R:=R) (C:=C) (cr:=cr) (cc:=cc) (rows:=rows) (cols:=cols) (h.ext hW) hT hI)
 obtain⟨lo,hi,lo2,hi2,h1,h2⟩:=hT
 have HR:=za (fun W (hW:Ext w W)=>h1.ext hW)
 have HC:=za (fun W (hW:Ext w W)=>h2.ext hW)
 have HI:=za hI
 have He:=za (And.intro e1 e2)
 obtain⟨fin,zhM⟩:∃ fin,Hid (zaE L (zu s p L) cols (12 - rows.length) rows=fin):=⟨_,rfl⟩
 rw [zhM.out]
 have hx0:Ext w (((w.alloc (.cells #[.bool false,.int .i64 0,.slice none 0 0,.slice none 0 0,.int .i64 s.al,.int .i64 s.st,.slice A n c,.int .i64 p.al,.slice B m d,.slice B' m' d',.int .i64 L] 203)).alloc (.cells #[.slice R nr cr,.slice C nc cc] 205)).alloc (.cells #[.slice none 0 0,.slice none 0 0] 205)):=(((Ext.refl _).alloc _).alloc _).alloc _
 obtain⟨b1,b2,b3⟩:=zV (Ext.refl (((w.alloc (.cells #[.bool false,.int .i64 0,.slice none 0 0,.slice none 0 0,.int .i64 s.al,.int .i64 s.st,.slice A n c,.int .i64 p.al,.slice B m d,.slice B' m' d',.int .i64 L] 203)).alloc (.cells #[.slice R nr cr,.slice C nc cc] 205)).alloc (.cells #[.slice none 0 0,.slice none 0 0] 205)))
 clear h h1 h2 hI e1 e2
 go_enter Tryz.func226,Tryz.ntmps226
 go_upto_region 1 with fail
 generalize ((w.alloc (.cells #[.bool false,.int .i64 0,.slice none 0 0,.slice none 0 0,.int .i64 s.al,.int .i64 s.st,.slice A n c,.int .i64 p.al,.slice B m d,.slice B' m' d',.int .i64 L] 203)).alloc (.cells #[.slice R nr cr,.slice C nc cc] 205)).alloc (.cells #[.slice none 0 0,.slice none 0 0] 205)=w0 at *
 have CB:=b1.cells
 have CT:=b2.cells
 have hb3:=b3.lt
 have hww:=Ext.refl w0
 go_upto_region 3 with (first
  |(go_at_call 251;refine (HV.out _ hx0).mono ?_;rintro e w1 ⟨rfl,hx01⟩))
 have hx1:=hx0.trans hx01
 have hs1:=hx01.size
 have HR1:=za (fun W (hW:Ext w1 W)=>HR.out W (hx1.trans hW))
 have HC1:=za (fun W (hW:Ext w1 W)=>HC.out W (hx1.trans hW))
 have CT1:∀ W,Ext w1 W→∀ q,W.cell? ⟨w.heap.size+1,q,none⟩=#[Value.slice R nr cr,.slice C nc cc][q]?:=fun W hW=>CT W (hx01.trans hW)
 go_cut [6] (fun v wx=>TabV w1 rows cols nr nc v wx)
 case first =>
  clear CB CT hww HV HO
  have X0:Ext w1 w1.drew:=(Ext.refl w1).drew
  refine uR (fun X=>Ext w1 X) [10] (zK.app [1,2,5,6] (zK.three 0 (zK.three 3 (zK.two 4 (zK.two 7 (zK.of [8,9,10]) 9 (zK.of [7,8,10])) 9 (zK.of [4,7,8,10])) 4 (zK.two 3 (zK.two 7 (zK.of [8,9,10]) 9 (zK.of [7,8,10])) 9 (zK.of [3,7,8,10])) 9 (zK.two 3 (zK.of [4,7,8,10]) 4 (zK.of [3,7,8,10]))) 4 (zK.two 0 (zK.two 3 (zK.two 7 (zK.of [8,9,10]) 9 (zK.of [7,8,10])) 9 (zK.of [3,7,8,10])) 9 (zK.of [0,3,7,8,10])) 9 (zK.two 0 (zK.two 3 (zK.of [4,7,8,10]) 4 (zK.of [3,7,8,10])) 4 (zK.of [0,3,7,8,10])))) ?_
  generalize w1.drew=W0 at *
  refine uQ ?_
  refine zdl (fun K hK=>?_) (fun K hK=>?_) (fun K hK=>?_)
  ·go_simp
   have hx31:=X0.alloc (.cells #[] 9)
   have zhQ:=zl (World.ownsRow_lit W0 (e:=9) (size:=1) #[] 0 (Nat.le_refl _) (by unfold maxLen;omega) rfl) X0.size
   have zhL:=(Ext.refl W0).alloc (.cells #[] 9)
   refine hK.out _ _ hx31 ?_
   refine pT ?_
   have hbs:W0.heap.size<(W0.alloc (.cells #[] 9)).heap.size:=by simp
   generalize hbe:W0.heap.size=ba9 at *
   generalize W0.alloc (.cells #[] 9)=v31 at *
   have zhN:Hid (ba9<v31.heap.size):=za hbs
   clear hbs zhL hbe
   refine zdl (fun K hK=>?_) (fun K hK=>?_) (fun K hK=>?_)
   ·skip
    refine zo _ _ _ _ rfl w1.heap.size 9 _ 1 16 Tryz.underlying61 zi rfl (by decide) (.slice (some ⟨ba9,0,none⟩) 0 0) 0 [] rfl zhQ _ _ R nr cr (zF rows) rfl (HR1.out v31 hx31) (zn _) (by unfold maxLen;omega) (by omega) hx31.size ?_
    intro v9 v32 owna8 hg hat
    rw [Nat.zero_add,List.nil_append] at owna8
    obtain⟨Aa9,ca9,rfl⟩:=zf owna8
    have hx32:=hx31.grown hg (fun k hk=>(zhQ.lt k hk).1)
    have hsz:=hg.size
    have hbs:Hid (v31.heap.size=v31.heap.size):=za rfl
    generalize hbe:v31.heap.size=na9 at *
    have hne_ba9_na9:Hid (ba9≠na9):=za (by have:=zhN.out;omega)
    have zhN:Hid (ba9<v32.heap.size):=za (by have:=zhN.out;omega)
    have hrl_a:Hid (∀ k,(Value.slice Aa9 nr ca9).ownBlock=some k→k<v32.heap.size):=za (fun k hk=>(owna8.lt k hk).2)
    clear hbs hsz hbe
    refine hK.out _ _ hx32 ?_
    refine pT ?_
    have zhQ:=owna8
    refine zD (fun K hK=>?_) (fun K hK=>?_)
    ·go_simp
     have hx33:=hx32.alloc (.cells #[] 9)
     have zhR:=zl (World.ownsRow_lit v32 (e:=9) (size:=1) #[] 0 (Nat.le_refl _) (by unfold maxLen;omega) rfl) hx32.size
     have zhL:=(Ext.refl v32).alloc (.cells #[] 9)
     refine hK.out _ _ hx33 ?_
     refine pT ?_
     have zhQ:=ze zhQ zhL
     have hbs:v32.heap.size<(v32.alloc (.cells #[] 9)).heap.size:=by simp
     generalize hbe:v32.heap.size=bc9 at *
     generalize v32.alloc (.cells #[] 9)=v33 at *
     have zhW:Hid (ba9≠bc9):=za (by have:=zhN.out;omega)
     have hrn_a_bc9:Hid (∀ k,(Value.slice Aa9 nr ca9).ownBlock=some k→k≠bc9):=za (fun k hk=>by have:=hrl_a.out k hk;omega)
     have zhN:Hid (ba9<v33.heap.size):=za (by have:=zhN.out;omega)
     have hrl_a:Hid (∀ k,(Value.slice Aa9 nr ca9).ownBlock=some k→k<v33.heap.size):=za (fun k hk=>(zhQ.lt k hk).2)
     have zhO:Hid (bc9<v33.heap.size):=za hbs
     clear hbs zhL hbe
     refine zD (fun K hK=>?_) (fun K hK=>?_)
     ·exact yU07b2
     ·go_simp
      have hx34:=hx33.alloc (.cells #[.slice none 0 0,.slice none 0 0] 205)
      have zhL:=(Ext.refl v33).alloc (.cells #[.slice none 0 0,.slice none 0 0] 205)
      have blk9:=Blk.new v33 205 #[.slice none 0 0,.slice none 0 0]
      refine hK.out _ _ hx34 ?_
      refine pT ?_
      have zhQ:=ze zhQ zhL
      have zhR:=ze zhR zhL
      have HG0:=za hx33.size
      have hbs:v33.heap.size<(v33.alloc (.cells #[.slice none 0 0,.slice none 0 0] 205)).heap.size:=by simp
      generalize hbe:v33.heap.size=gbox9 at *
      generalize v33.alloc (.cells #[.slice none 0 0,.slice none 0 0] 205)=v34 at *
      have zhN:Hid (ba9<v34.heap.size):=za (by have:=zhN.out;omega)
      have zhO:Hid (bc9<v34.heap.size):=za (by have:=zhO.out;omega)
      have hrl_a:Hid (∀ k,(Value.slice Aa9 nr ca9).ownBlock=some k→k<v34.heap.size):=za (fun k hk=>(zhQ.lt k hk).2)
      exact yU07a4
    ·go_simp
     have hx33:=hx32.alloc (.cells #[.slice none 0 0,.slice none 0 0] 205)
     have zhL:=(Ext.refl v32).alloc (.cells #[.slice none 0 0,.slice none 0 0] 205)
     have blk9:=Blk.new v32 205 #[.slice none 0 0,.slice none 0 0]
     refine hK.out _ _ hx33 ?_
     refine pT ?_
     have zhQ:=ze zhQ zhL
     have HG0:=za hx32.size
     have hbs:v32.heap.size<(v32.alloc (.cells #[.slice none 0 0,.slice none 0 0] 205)).heap.size:=by simp
     generalize hbe:v32.heap.size=gbox9 at *
     generalize v32.alloc (.cells #[.slice none 0 0,.slice none 0 0] 205)=v33 at *
     have zhN:Hid (ba9<v33.heap.size):=za (by have:=zhN.out;omega)
     have hrl_a:Hid (∀ k,(Value.slice Aa9 nr ca9).ownBlock=some k→k<v33.heap.size):=za (fun k hk=>(zhQ.lt k hk).2)
     clear hbs zhL hbe
     refine zb fun K hK=>?_;go_simp
     have hx34:=hx33.alloc (.cells #[] 9)
     have zhR:=zl (World.ownsRow_lit v33 (e:=9) (size:=1) #[] 0 (Nat.le_refl _) (by unfold maxLen;omega) rfl) hx33.size
     have zhL:=(Ext.refl v33).alloc (.cells #[] 9)
     refine hK.out _ _ hx34 ?_
     refine pT ?_
     have zhQ:=ze zhQ zhL
     have blk9:=Blk.ext blk9 zhL
     have hbs:v33.heap.size<(v33.alloc (.cells #[] 9)).heap.size:=by simp
     generalize hbe:v33.heap.size=bc9 at *
     generalize v33.alloc (.cells #[] 9)=v34 at *
     have zhW:Hid (ba9≠bc9):=za (by have:=zhN.out;omega)
     have hrn_a_bc9:Hid (∀ k,(Value.slice Aa9 nr ca9).ownBlock=some k→k≠bc9):=za (fun k hk=>by have:=hrl_a.out k hk;omega)
     have zhN:Hid (ba9<v34.heap.size):=za (by have:=zhN.out;omega)
     have hrl_a:Hid (∀ k,(Value.slice Aa9 nr ca9).ownBlock=some k→k<v34.heap.size):=za (fun k hk=>(zhQ.lt k hk).2)
     have zhO:Hid (bc9<v34.heap.size):=za hbs
     exact yU07a4
   ·go_simp
    have hx32:=hx31.alloc (.cells #[] 9)
    have zhR:=zl (World.ownsRow_lit v31 (e:=9) (size:=1) #[] 0 (Nat.le_refl _) (by unfold maxLen;omega) rfl) hx31.size
    have zhL:=(Ext.refl v31).alloc (.cells #[] 9)
    refine hK.out _ _ hx32 ?_
    refine pT ?_
    have zhQ:=ze zhQ zhL
    have hbs:v31.heap.size<(v31.alloc (.cells #[] 9)).heap.size:=by simp
    generalize hbe:v31.heap.size=bc9 at *
    generalize v31.alloc (.cells #[] 9)=v32 at *
    have zhW:Hid (ba9≠bc9):=za (by have:=zhN.out;omega)
    have zhN:Hid (ba9<v32.heap.size):=za (by have:=zhN.out;omega)
    have zhO:Hid (bc9<v32.heap.size):=za hbs
    exact yU07a1
   ·go_simp
    have hx32:=hx31.alloc (.cells #[.slice none 0 0,.slice none 0 0] 205)
    have zhL:=(Ext.refl v31).alloc (.cells #[.slice none 0 0,.slice none 0 0] 205)
    have blk9:=Blk.new v31 205 #[.slice none 0 0,.slice none 0 0]
    refine hK.out _ _ hx32 ?_
    refine pT ?_
    have zhQ:=ze zhQ zhL
    have HG0:=za hx31.size
    have hbs:v31.heap.size<(v31.alloc (.cells #[.slice none 0 0,.slice none 0 0] 205)).heap.size:=by simp
    generalize hbe:v31.heap.size=gbox9 at *
    generalize v31.alloc (.cells #[.slice none 0 0,.slice none 0 0] 205)=v32 at *
    have zhN:Hid (ba9<v32.heap.size):=za (by have:=zhN.out;omega)
    exact yU07a2
  ·go_simp
   have hx31:=X0.alloc (.cells #[] 9)
   have zhR:=zl (World.ownsRow_lit W0 (e:=9) (size:=1) #[] 0 (Nat.le_refl _) (by unfold maxLen;omega) rfl) X0.size
   have zhL:=(Ext.refl W0).alloc (.cells #[] 9)
   refine hK.out _ _ hx31 ?_
   refine pT ?_
   have hbs:W0.heap.size<(W0.alloc (.cells #[] 9)).heap.size:=by simp
   generalize hbe:W0.heap.size=bc9 at *
   generalize W0.alloc (.cells #[] 9)=v31 at *
   have zhO:Hid (bc9<v31.heap.size):=za hbs
   clear hbs zhL hbe
   refine zD (fun K hK=>?_) (fun K hK=>?_)
   ·go_simp
    have hx32:=hx31.alloc (.cells #[] 9)
    have zhQ:=zl (World.ownsRow_lit v31 (e:=9) (size:=1) #[] 0 (Nat.le_refl _) (by unfold maxLen;omega) rfl) hx31.size
    have zhL:=(Ext.refl v31).alloc (.cells #[] 9)
    refine hK.out _ _ hx32 ?_
    refine pT ?_
    have zhR:=ze zhR zhL
    have hbs:v31.heap.size<(v31.alloc (.cells #[] 9)).heap.size:=by simp
    generalize hbe:v31.heap.size=ba9 at *
    generalize v31.alloc (.cells #[] 9)=v32 at *
    have zhW:Hid (ba9≠bc9):=za (by have:=zhO.out;omega)
    have zhO:Hid (bc9<v32.heap.size):=za (by have:=zhO.out;omega)
    have zhN:Hid (ba9<v32.heap.size):=za hbs
    exact yU07a1
   ·go_simp
    have hx32:=hx31.alloc (.cells #[.slice none 0 0,.slice none 0 0] 205)
    have zhL:=(Ext.refl v31).alloc (.cells #[.slice none 0 0,.slice none 0 0] 205)
    have blk9:=Blk.new v31 205 #[.slice none 0 0,.slice none 0 0]
    refine hK.out _ _ hx32 ?_
    refine pT ?_
    have zhR:=ze zhR zhL
    have HG0:=za hx31.size
    have hbs:v31.heap.size<(v31.alloc (.cells #[.slice none 0 0,.slice none 0 0] 205)).heap.size:=by simp
    generalize hbe:v31.heap.size=gbox9 at *
    generalize v31.alloc (.cells #[.slice none 0 0,.slice none 0 0] 205)=v32 at *
    have zhO:Hid (bc9<v32.heap.size):=za (by have:=zhO.out;omega)
    exact yU07a3
  ·go_simp
   have hx31:=X0.alloc (.cells #[.slice none 0 0,.slice none 0 0] 205)
   have zhL:=(Ext.refl W0).alloc (.cells #[.slice none 0 0,.slice none 0 0] 205)
   have blk9:=Blk.new W0 205 #[.slice none 0 0,.slice none 0 0]
   refine hK.out _ _ hx31 ?_
   refine pT ?_
   have HG0:=za X0.size
   have hbs:W0.heap.size<(W0.alloc (.cells #[.slice none 0 0,.slice none 0 0] 205)).heap.size:=by simp
   generalize hbe:W0.heap.size=gbox9 at *
   generalize W0.alloc (.cells #[.slice none 0 0,.slice none 0 0] 205)=v31 at *
   clear hbs zhL hbe
   refine zD (fun K hK=>?_) (fun K hK=>?_)
   ·go_simp
    have hx32:=hx31.alloc (.cells #[] 9)
    have zhQ:=zl (World.ownsRow_lit v31 (e:=9) (size:=1) #[] 0 (Nat.le_refl _) (by unfold maxLen;omega) rfl) hx31.size
    have zhL:=(Ext.refl v31).alloc (.cells #[] 9)
    refine hK.out _ _ hx32 ?_
    refine pT ?_
    have blk9:=Blk.ext blk9 zhL
    have hbs:v31.heap.size<(v31.alloc (.cells #[] 9)).heap.size:=by simp
    generalize hbe:v31.heap.size=ba9 at *
    generalize v31.alloc (.cells #[] 9)=v32 at *
    have zhN:Hid (ba9<v32.heap.size):=za hbs
    exact yU07a2
   ·go_simp
    have hx32:=hx31.alloc (.cells #[] 9)
    have zhR:=zl (World.ownsRow_lit v31 (e:=9) (size:=1) #[] 0 (Nat.le_refl _) (by unfold maxLen;omega) rfl) hx31.size
    have zhL:=(Ext.refl v31).alloc (.cells #[] 9)
    refine hK.out _ _ hx32 ?_
    refine pT ?_
    have blk9:=Blk.ext blk9 zhL
    have hbs:v31.heap.size<(v31.alloc (.cells #[] 9)).heap.size:=by simp
    generalize hbe:v31.heap.size=bc9 at *
    generalize v31.alloc (.cells #[] 9)=v32 at *
    have zhO:Hid (bc9<v32.heap.size):=za hbs
    exact yU07a3
 case rest =>
  obtain⟨g6,R1,cr1,C1,cc1,rfl,hg6,b6,oR,oC,hxc,hdis⟩:=hcut
  obtain⟨wE,hwE⟩:∃ wE,wE=wc:=⟨_,rfl⟩
  subst hwE
  have hk0:=za (And.intro He.out.1 HI.out)
  have hxE:=hx1.trans hxc
  have HT1:=za (show TabAt wE R1 nr C1 nc rows cols from ⟨_,_,_,_,Reads.of_own oR,Reads.of_own oC⟩)
  have k6:=fun W (hW:Ext wE W)=>(b6.ext hW).cell
  have hwE:=Ext.refl wE
  have hx0E:=hx01.trans hxc
  have CB1:∀ W,Ext wE W→∀ q,W.cell? ⟨w.heap.size,q,none⟩=#[Value.bool false,.int .i64 0,.slice none 0 0,.slice none 0 0,.int .i64 s.al,.int .i64 s.st,.slice A n c,.int .i64 p.al,.slice B m d,.slice B' m' d',.int .i64 L][q]?:=fun W hW=>CB W (hx0E.trans hW)
  go_wp2_with (first
   |(go_at_call 252;refine (HO.out _ _ _ _ _ _ rows _ hxE HT1.out HI.out).mono ?_;rintro e w3 ⟨rfl,hx3⟩))
  have hx13:=hxc.trans hx3
  have b63:=b6.ext hx3
  have oR3:=ze oR hx3
  have oC3:=ze oC hx3
  clear k6 oR oC b6 CB1 CT CT1 hwE hww
  go_loopw [7,8] (fun v7 v8 wr=>∃ (rs:List ByteArray) (k:Nat) (R1:Option Addr) (cr1:Nat),v7=.string ((zbk L (zu s p L) rs cols).getD ⟨#[]⟩)∧v8=.bool (zbk L (zu s p L) rs cols).isSome∧Hid (rs.length=k∧zcH L (zu s p L) rs cols)∧Hid (zaE L (zu s p L) cols (12 - k) rs=fin)∧k≤12∧Blk wr g6 205 #[.slice R1 k cr1,.slice C1 nc cc1]∧wr.ownsRow w1.heap.size 9 1 (.slice R1 k cr1) k (zF rs)∧wr.ownsRow w1.heap.size 9 1 (.slice C1 nc cc1) nc (zF cols)∧Hid (∀ j,(Value.slice R1 k cr1).ownBlock=some j→(Value.slice C1 nc cc1).ownBlock≠some j)∧Ext w1 wr) (fun _ _ wr=>13 - lenAt0 wr g6)
  case atStart=>exact⟨rows,nr,R1,cr1,rfl,rfl,hk0,za (by rw [← He.out.1];exact zhM.out),hr12,b63,oR3,oC3,hdis,hx13⟩
  case round =>
   clear b63 oR3 oC3 hdis hx13 hx3
   obtain⟨rs,k,R2,cr2,rfl,rfl,hki,hcl,hk12,b6,oR,oC,hdis,hxr⟩:=hrel
   obtain⟨op,hop⟩:∃ op,Hid (zbk L (zu s p L) rs cols=op):=⟨_,rfl⟩
   rw [hop.out]
   have k6:=b6.cell
   have f6:=b6.frozen
   have hmes:=za (zgz b6)
   have b3r:=b3.ext (hx01.trans hxr)
   have kz:=b3r.cell
   have fz:=b3r.frozen
   cases op with
   |none =>
    have hfn:=za (show fin=some rs by rw [← hcl.out,zdI _ hop.out])
    have hf:Frm (fun k=>k=w.heap.size+1+1) wr ((wr.setCell ⟨w.heap.size+1+1,0,none⟩ (.slice R2 k cr2)).setCell ⟨w.heap.size+1+1,1,none⟩ (.slice C1 nc cc1)):=(Frm.setCell wr _ 0 _).trans (Frm.setCell _ _ 1 _)
    have cf:=(show Blk ((wr.setCell ⟨w.heap.size+1+1,0,none⟩ (.slice R2 k cr2)).setCell ⟨w.heap.size+1+1,1,none⟩ (.slice C1 nc cc1)) (w.heap.size+1+1) 205 #[.slice R2 k cr2,.slice C1 nc cc1] by simpa using (b3r.set_ 0 (.slice R2 k cr2)).set_ 1 (.slice C1 nc cc1)).cell
    have hret:=za (show zbF w (fin.map fun r=>(r,cols)) (.returned (.tuple #[.agg #[.slice R2 k cr2,.slice C1 nc cc1],.bool true])) ((wr.setCell ⟨w.heap.size+1+1,0,none⟩ (.slice R2 k cr2)).setCell ⟨w.heap.size+1+1,1,none⟩ (.slice C1 nc cc1)) from
     ⟨((hx1.trans hxr).setCell (p:=⟨w.heap.size+1+1,0,none⟩) (by dsimp only;omega) _).setCell (p:=⟨w.heap.size+1+1,1,none⟩) (by dsimp only;omega) _,.inr ⟨rs,cols,k,nc,R2,cr2,C1,cc1,by rw [hfn.out];rfl,rfl,zd (zl oR hx1.size) hf (fun b hv e=>zk oR b3r (by decide) hv e),zd (zl oC hx1.size) hf (fun b hv e=>zk oC b3r (by decide) hv e)⟩⟩)
    clear hf
    go_wp2_with fail
    exact bodyPost_ret (v:=.tuple #[.agg #[.slice R2 k cr2,.slice C1 nc cc1],.bool true]) (by simp [results,Tryz.results226,go_sem,cf]) rfl hret.out
   |some x =>
    by_cases h12:k=12
    ·have hfn:=za (show fin=none by rw [← hcl.out,h12];exact zft hop.out)
     have heq:((k:Int)==12)=true:=by rw [h12];rfl
     clear h12
     have cf:=(show Blk ((wr.setCell ⟨w.heap.size+1+1,0,none⟩ (.slice none 0 0)).setCell ⟨w.heap.size+1+1,1,none⟩ (.slice none 0 0)) (w.heap.size+1+1) 205 #[.slice none 0 0,.slice none 0 0] by simpa using (b3r.set_ 0 (.slice none 0 0)).set_ 1 (.slice none 0 0)).cell
     have hret:=za (show zbF w (fin.map fun r=>(r,cols)) (.returned (.tuple #[.agg #[.slice none 0 0,.slice none 0 0],.bool false])) ((wr.setCell ⟨w.heap.size+1+1,0,none⟩ (.slice none 0 0)).setCell ⟨w.heap.size+1+1,1,none⟩ (.slice none 0 0)) from
      ⟨((hx1.trans hxr).setCell (p:=⟨w.heap.size+1+1,0,none⟩) (by dsimp only;omega) _).setCell (p:=⟨w.heap.size+1+1,1,none⟩) (by dsimp only;omega) _,.inl ⟨by rw [hfn.out];rfl,rfl⟩⟩)
     go_wp2_with fail
     exact bodyPost_ret (v:=.tuple #[.agg #[.slice none 0 0,.slice none 0 0],.bool false]) (by simp [results,Tryz.results226,go_sem,cf]) rfl hret.out
    ·have hne:((k:Int)==12)=false:=by simp;omega
     have hgrow:=za (show zcH L (zu s p L) (rs++[x]) cols from hki.out.2.grow (by rw [hki.out.1];omega) hop.out)
     have hcl2:=za (show zaE L (zu s p L) cols (12 - (k+1)) (rs++[x])=fin by
      rw [← hcl.out,show 12 - k=(12 - (k+1))+1 by omega,zfs _ hop.out])
     go_upto_region 9 with (at_builtin;refine zI w1 wr rfl _ _ _ rfl 9 _ 1 16 Tryz.underlying61 zi rfl (by decide) (.slice R2 k cr2) k (zF rs) _ _ rfl rfl hxr oR rfl (zaD _) (by unfold maxLen;omega) (by omega) ?_;intro v5 w5 hx5 zhV hg5 hat5;obtain⟨A5,c5,rfl⟩:=zf zhV;have b65:Blk w5 g6 205 #[.slice R2 k cr2,.slice C1 nc cc1]:=(hg5.block g6 (Blk.lt b6) (fun e=>zk oR b6 (by decide) e.symm rfl)).trans b6;have k65:=Blk.cell b65;have f65:=Blk.frozen b65)
     have oC5:=zd oC (Frm.of_grown hg5) (fun b hv e=>hdis.out b e hv)
     have hdis5:=za (show ∀ j,(Value.slice A5 (k+1) c5).ownBlock=some j→(Value.slice C1 nc cc1).ownBlock≠some j from fun j hj hc=>by
      rcases hat5 with h1|h1
      ·rw [h1] at hj;exact hdis.out j hj hc
      ·rw [h1] at hj
       have:=Option.some.inj hj
       have:=(oC.lt j hc).2
       omega)
     have hf5:Frm (fun k=>k=g6) w5 (w5.setCell ⟨g6,0,none⟩ (.slice A5 (k+1) c5)):=Frm.setCell w5 g6 0 _
     have oC6:=zd oC5 hf5 (fun b hv e=>zk oC5 b65 (by decide) hv e)
     have oR6:=zd zhV hf5 (fun b hv e=>zk zhV b65 (by decide) hv e)
     have b66:Blk (w5.setCell ⟨g6,0,none⟩ (.slice A5 (k+1) c5)) g6 205 #[.slice A5 (k+1) c5,.slice C1 nc cc1]:=by simpa using b65.set_ 0 (.slice A5 (k+1) c5)
     have hx6:=hx5.setCell (p:=⟨g6,0,none⟩) hg6 (.slice A5 (k+1) c5)
     rw [show zF rs++#[Value.string x].toList=zF (rs++[x]) by rw [strs_snoc]] at oR6
     clear k6 f6 kz fz b3r b6 oR oC hf5 k65 f65 b65 oC5 zhV hx5 hg5 hat5 hdis
     generalize w5.setCell ⟨g6,0,none⟩ (.slice A5 (k+1) c5)=w6 at *
     have CB6:∀ W,Ext w6 W→∀ q,W.cell? ⟨w.heap.size,q,none⟩=#[Value.bool false,.int .i64 0,.slice none 0 0,.slice none 0 0,.int .i64 s.al,.int .i64 s.st,.slice A n c,.int .i64 p.al,.slice B m d,.slice B' m' d',.int .i64 L][q]?:=fun W hW=>CB W (hx01.trans (hx6.trans hW))
     have CK6:=b66.cells
     have HT6:=za (show TabAt w6 A5 (k+1) C1 nc (rs++[x]) cols from ⟨_,_,_,_,Reads.of_own oR6,Reads.of_own oC6⟩)
     have hwE:=Ext.refl w6
     go_wp2_with (first
      |(go_at_call 252;refine (HO.out _ _ _ _ _ _ (rs++[x]) _ (hx1.trans hx6) HT6.out hgrow.out).mono ?_;rintro e w7 ⟨rfl,hx7⟩))
     have hmes2:=za (zgz (b66.ext hx7))
     go_roundw
     case rel=>exact⟨rs++[x],k+1,A5,c5,rfl,rfl,za ⟨by rw [List.length_append,hki.out.1];rfl,hgrow.out⟩,hcl2,by omega,b66.ext hx7,ze oR6 hx7,ze oC6 hx7,hdis5,hx6.trans hx7⟩
     case measure=>have h1:=hmes.out;have h2:=hmes2.out;omega
end
theorem zcH.first (L:Nat) (f:ByteArray→Bool):zcH L f [⟨#[]⟩] [⟨#[]⟩]:=
 ⟨Nat.le_refl _,by decide,Nat.le_refl _,by decide,rfl,rfl,(fun i x hi hx=>by rw [List.getElem?_eq_none (by simpa using hi)] at hx;cases hx),(fun i x hi hx=>by rw [List.getElem?_eq_none (by simpa using hi)] at hx;cases hx),by simp⟩
noncomputable def idxS (zs:List ByteArray) (z:ByteArray):Nat:=zs.findIdx fun y=>zfF [y] z
theorem idxS_lt {zs:List ByteArray} {z:ByteArray}(h:z∈zs):idxS zs z<zs.length:=List.findIdx_lt_length_of_exists ⟨z,h,zdi.2 (by simp)⟩
theorem idxS_at {zs:List ByteArray} {z:ByteArray}(h:z∈zs):zs[idxS zs z]?=some z:=by
 have h1:=idxS_lt h
 have h2:=List.findIdx_getElem (xs:=zs) (p:=fun y=>zfF [y] z) (w:=h1)
 have h3:=zdi.1 h2
 rw [List.mem_singleton] at h3
 rw [List.getElem?_eq_getElem h1]
 exact congrArg some h3.symm
theorem idxS_first {zs:List ByteArray} {z:ByteArray} {j:Nat} {y:ByteArray}(hj:j<idxS zs z)(hy:zs[j]?=some y):y≠z:=by
 have h1:=List.not_of_lt_findIdx hj
 have h2:zs[j]'(by have:=List.findIdx_le_length (p:=fun y=>zfF [y] z) (xs:=zs);unfold idxS at hj;omega)=y:=(List.getElem?_eq_some_iff.1 hy).2
 rw [h2] at h1
 intro e
 rw [zbK] at h1
 exact h1 (by rw [e];simp)
theorem zhq {w:World} {lo hi n c:Nat} {A:Option Addr} {zs:List ByteArray} {z:ByteArray}(h:Reads w lo hi 1 A n (zF zs))(hz:z∈zs) :
  Calls Tryz.prog 230 #[.slice A n c,.string z] w fun e w'=>e=.returned (.int .i64 (idxS zs z:Nat))∧w=w':=by
 have hn:=h.len
 have hl:zs.length=n:=by have:=h.length;rw [zba] at this;omega
 obtain⟨I,hI⟩:∃ I,Hid (idxS zs z=I):=⟨_,rfl⟩
 have hIn:I<n:=by rw [← hI.out,← hl];exact idxS_lt hz
 have hat:=za (hI.out ▸ idxS_at hz)
 have hfirst:=za (fun (j:Nat) (y:ByteArray) (hj:j<I)=>idxS_first (zs:=zs) (z:=z) (j:=j) (y:=y) (by rw [hI.out];exact hj))
 rw [hI.out]
 clear hl hz
 go_enter Tryz.func230,Tryz.ntmps230
 go_wp2_with fail
 go_loop [5] (fun iv=>∃ i:Nat,iv=.int .i64 i∧i≤I) (fun iv=>n - (intOf iv).toNat)
 case atStart=>exact⟨0,rfl,Nat.zero_le _⟩
 case round =>
  obtain⟨i,rfl,hi⟩:=hrel
  have hlt:i<n:=by omega
  have hlt':(i:Int)<(n:Int):=by omega
  obtain⟨ad,y,rfl,_,_,hy,cy⟩:=h.str hlt
  by_cases he:i=I
  ·have hyz:y=z:=Option.some.inj (hy.out.symm.trans (he ▸ hat.out))
   subst hyz
   have He:=za he
   clear he
   go_wp2_with fail
   go_ret
   exact⟨zan (by rw [He.out]),rfl⟩
  ·have hne:=str_ne (hfirst.out i y (by omega) hy.out)
   go_wp2_with fail
   go_round
   case rel=>exact⟨i+1,by go_num,by omega⟩
   case measure=>simp [intOf];omega
section
variable {w W:World} {n c m d m' d' L:Nat} {A B B':Option Addr} {s:Sys} {p:Aut}
theorem zhp (h:Tch w A n B m B' m' s p L) :
  Calls Tryz.prog 192 #[.agg #[.bool false,.int .i64 0,.slice none 0 0,.slice none 0 0,.int .i64 s.al,.int .i64 s.st,.slice A n c,.int .i64 p.al,.slice B m d,.slice B' m' d',.int .i64 L]] w (zbF w ((zaE L (zu s p L) [⟨#[]⟩] 11 [⟨#[]⟩]).map fun r=>(r,[⟨#[]⟩]))):=by
 have HC:=za (fun (R C:Option Addr) W (hW:Ext w W) (hT:TabAt W R 1 C 1 [⟨#[]⟩] [⟨#[]⟩])=>zcV (c:=c) (d:=d) (d':=d') (cr:=1) (cc:=1) (h.ext hW) hT (zcH.first L _) (Nat.le_refl _) (Nat.le_refl _))
 rw [show 12 - ([⟨#[]⟩]:List ByteArray).length=11 from rfl] at HC
 generalize (zaE L (zu s p L) [⟨#[]⟩] 11 [⟨#[]⟩]).map (fun r=>(r,[(⟨#[]⟩:ByteArray)]))=fin at *
 have hx0:Ext w ((w.alloc (.cells #[.bool false,.int .i64 0,.slice none 0 0,.slice none 0 0,.int .i64 s.al,.int .i64 s.st,.slice A n c,.int .i64 p.al,.slice B m d,.slice B' m' d',.int .i64 L] 203)).alloc (.cells #[.slice none 0 0,.slice none 0 0] 205)):=((Ext.refl _).alloc _).alloc _
 obtain⟨b1,b2⟩:=zR (Ext.refl ((w.alloc (.cells #[.bool false,.int .i64 0,.slice none 0 0,.slice none 0 0,.int .i64 s.al,.int .i64 s.st,.slice A n c,.int .i64 p.al,.slice B m d,.slice B' m' d',.int .i64 L] 203)).alloc (.cells #[.slice none 0 0,.slice none 0 0] 205)))
 clear h
 go_enter Tryz.func192,Tryz.ntmps192
 go_upto_region 1 with fail
 have hsz:w.heap.size+1+1=((w.alloc (.cells #[.bool false,.int .i64 0,.slice none 0 0,.slice none 0 0,.int .i64 s.al,.int .i64 s.st,.slice A n c,.int .i64 p.al,.slice B m d,.slice B' m' d',.int .i64 L] 203)).alloc (.cells #[.slice none 0 0,.slice none 0 0] 205)).heap.size:=by simp
 generalize (w.alloc (.cells #[.bool false,.int .i64 0,.slice none 0 0,.slice none 0 0,.int .i64 s.al,.int .i64 s.st,.slice A n c,.int .i64 p.al,.slice B m d,.slice B' m' d',.int .i64 L] 203)).alloc (.cells #[.slice none 0 0,.slice none 0 0] 205)=w0 at *
 have Hsz:=za hsz
 clear hsz
 have k1:=b1.cell
 have hx1:Ext w0 ((w0.alloc (.cells #[.string ⟨#[]⟩] 9)).alloc (.cells #[.string ⟨#[]⟩] 9)):=((Ext.refl _).alloc _).alloc _
 have hT:TabAt ((w0.alloc (.cells #[.string ⟨#[]⟩] 9)).alloc (.cells #[.string ⟨#[]⟩] 9)) (some ⟨w0.heap.size,0,none⟩) 1 (some ⟨w0.heap.size+1,0,none⟩) 1 [⟨#[]⟩] [⟨#[]⟩]:=by
  obtain⟨q1,q2⟩:=zR (Ext.refl ((w0.alloc (.cells #[.string ⟨#[]⟩] 9)).alloc (.cells #[.string ⟨#[]⟩] 9)))
  refine⟨_,_,_,_,Reads.of_own (base:=w0.heap.size) (e:=9) (c:=1) ⟨rfl,.inr ⟨w0.heap.size,1,_,rfl,Nat.le_refl _,q1,by unfold maxLen;simp [zF]⟩⟩,Reads.of_own (base:=w0.heap.size+1) (e:=9) (c:=1) ⟨rfl,.inr ⟨w0.heap.size+1,1,_,rfl,Nat.le_refl _,q2,by unfold maxLen;simp [zF]⟩⟩⟩
 have HT:=za hT
 have b22:=b2.ext hx1
 clear hT
 go_wp2_with fail
 refine (HC.out _ _ _ (hx0.trans hx1) HT.out).mono ?_
 rintro e w2 ⟨hx2,⟨h0,rfl⟩|⟨rs,cs,nr,nc,R,cr,C,cc,h0,rfl,hR,hC⟩⟩
 ·have b23:=b22.ext hx2
  have k3:=b23.cell
  have f3:=b23.frozen
  have cf:=(show Blk ((w2.setCell ⟨w.heap.size+1,0,none⟩ (.slice none 0 0)).setCell ⟨w.heap.size+1,1,none⟩ (.slice none 0 0)) (w.heap.size+1) 205 #[.slice none 0 0,.slice none 0 0] by simpa using (b23.set_ 0 (.slice none 0 0)).set_ 1 (.slice none 0 0)).cell
  have hret:=za (show zbF w fin (.returned (.tuple #[.agg #[.slice none 0 0,.slice none 0 0],.bool false])) ((w2.setCell ⟨w.heap.size+1,0,none⟩ (.slice none 0 0)).setCell ⟨w.heap.size+1,1,none⟩ (.slice none 0 0)) from
   ⟨(((hx0.trans hx1).trans hx2).setCell (p:=⟨w.heap.size+1,0,none⟩) (Nat.le_succ _) _).setCell (p:=⟨w.heap.size+1,1,none⟩) (Nat.le_succ _) _,.inl ⟨h0,rfl⟩⟩)
  clear k1
  go_wp2_with fail
  exact bodyPost_ret (v:=.tuple #[.agg #[.slice none 0 0,.slice none 0 0],.bool false]) (by simp [results,Tryz.results192,go_sem,cf]) rfl hret.out
 ·have b23:=b22.ext hx2
  have k3:=b23.cell
  have f3:=b23.frozen
  have hf:Frm (fun k=>k=w.heap.size+1) w2 ((w2.setCell ⟨w.heap.size+1,0,none⟩ (.slice R nr cr)).setCell ⟨w.heap.size+1,1,none⟩ (.slice C nc cc)):=(Frm.setCell w2 _ 0 _).trans (Frm.setCell _ _ 1 _)
  have cf:=(show Blk ((w2.setCell ⟨w.heap.size+1,0,none⟩ (.slice R nr cr)).setCell ⟨w.heap.size+1,1,none⟩ (.slice C nc cc)) (w.heap.size+1) 205 #[.slice R nr cr,.slice C nc cc] by simpa using (b23.set_ 0 (.slice R nr cr)).set_ 1 (.slice C nc cc)).cell
  have hret:=za (show zbF w fin (.returned (.tuple #[.agg #[.slice R nr cr,.slice C nc cc],.bool true])) ((w2.setCell ⟨w.heap.size+1,0,none⟩ (.slice R nr cr)).setCell ⟨w.heap.size+1,1,none⟩ (.slice C nc cc)) from
   ⟨(((hx0.trans hx1).trans hx2).setCell (p:=⟨w.heap.size+1,0,none⟩) (Nat.le_succ _) _).setCell (p:=⟨w.heap.size+1,1,none⟩) (Nat.le_succ _) _,.inr ⟨rs,cs,nr,nc,R,cr,C,cc,h0,rfl,zd (zl hR (hx0.trans hx1).size) hf (fun b hv e=>zk hR b23 (by decide) hv e),zd (zl hC (hx0.trans hx1).size) hf (fun b hv e=>zk hC b23 (by decide) hv e)⟩⟩)
  clear k1 hf
  go_wp2_with fail
  exact bodyPost_ret (v:=.tuple #[.agg #[.slice R nr cr,.slice C nc cc],.bool true]) (by simp [results,Tryz.results192,go_sem,cf]) rfl hret.out
end
end Go.Proofs.YtfcjhpodichpjaaGreatDoor
