/- slices.Rever -/
import Derived.Shelf.RegionOpenPlain
import Derived.Deep.LoopGhost
import Derived.Sort.WalkB12
import Derived.Lib.SlicesMore
import Derived.Deep.DeepCutAuto
import Derived.OrdersHeld
import Derived.Test.YtfcjhpodichpjaaDoorU01
import Derived.Laws.BytesArg
import Derived.Lib.SliceRun
import Derived.Deep.AppendLies
import Derived.Laws.Strings
import Derived.BigQuiet
import Derived.Deep.RegionHeld3
import Derived.StillTailTactics
import Derived.Shelf.Strings.OnBuilder
import Derived.Lib.Join
import Derived.Lib.Atoi
import Derived.Lib.AtoiAll
import Derived.Shelf.Strconv.Itoa1
set_option maxHeartbeats 6400000
set_option maxRecDepth 100000
namespace Go.Proofs.YtfcjhpodichpjaaDoor
open Go Go.RowKit Go.Lib Go.Sort
abbrev enc8 (n:Int):Value:=.int .u8 n
end Go.Proofs.YtfcjhpodichpjaaDoor
namespace Go.Proofs.YtfcjhpodichpjaaDoor
open Go Go.RowKit
theorem zan {l:Nat}(hl:l<6) (w:World):Calls Tryd.prog 83 #[.int .i64 (l:Nat)] w fun e w'=>e=.returned (.int .u8 ((97+l:Nat):Nat))∧w=w':=by
 go_enter Tryd.func83,Tryd.ntmps83
 go_wp2
 go_ret
 exact⟨by rw [show (((97+l:Nat):Nat):Int)=97+(l:Int) by omega];rfl,rfl⟩
theorem info_u8:(Tryd.prog.info? 5).map (fun i=>(i.zero,i.size,i.bytes))=some (some (.int .u8 0),1,1):=by kernel_rfl
def lbs (o:List Nat):List Int:=o.map fun l=>((97+l:Nat):Int)
def u8s (l:List Int):List Value:=l.map enc8
theorem Holds.own8 {w:World} {base g n cap:Nat} {e:TypeId} {l:List Int}(h:w.ownsRow base e 1 (.slice (some ⟨g,0,none⟩) n cap) n (u8s l)):Sort.Holds enc8 w g 0 l.toArray:=by
 intro j hj
 have hj':j<l.length:=by simpa using hj
 have hn:=h.1
 simp only [u8s,List.length_map] at hn
 refine⟨?_,by rw [Nat.zero_add];exact h.frozenAt j⟩
 rw [Nat.zero_add,h.cellAt j (by omega)]
 simp [u8s,hj']
theorem u8_row:Tryd.prog.underlying 36=some (.slice 5):=by kernel_rfl
theorem u8_und:Tryd.prog.underlying 5=some (.int .u8):=by kernel_rfl
theorem str_und:Tryd.prog.underlying 9=some .string:=by kernel_rfl
theorem lbs_text {o:List Nat}(h:∀ l∈o,l<6):(strOfNums (lbs o)).data.toList=o.map fun l=>UInt8.ofNat (97+l):=by
 unfold strOfNums lbs
 simp only [List.map_map]
 refine List.map_congr_left fun l hl=>?_
 have:l<6:=h l hl
 show UInt8.ofNat ((97+l:Nat):Int).toNat=UInt8.ofNat (97+l)
 rw [Int.toNat_natCast]
theorem zC {a:Nat} {w:World}(ha:a<64) :
  Calls Tryd.prog 47 #[.int .i64 a] w (zav (alX a) w):=by
 have hsm:Sm a:=by unfold Sm;omega
 have hd:=zb (show decide (0≤(a:Int)∧(a:Int)≤63)=true by simp;omega)
 by_cases h0:a=0
 ·subst h0
  rw [show ((0:Nat):Int)=0 from rfl]
  have hd0:=zb (show decide ((0:Int)≤0∧(0:Int)≤63)=true by decide)
  go_enter Tryd.func47,Tryd.ntmps47
  go_wp2_with (go_at_call 80;refine (ze _ _).mono ?_;rw [hd0.out];rintro e w' ⟨rfl,rfl⟩)
  go_ret
  exact⟨_,rfl,zb rfl,Ext.refl _⟩
 ·have h0':((a:Int)==0)=false:=by simp;omega
  have hal:=zb (show alX a=(zc a 6).map (fun l=>UInt8.ofNat (97+l)) by unfold alX;rw [if_neg h0])
  go_enter Tryd.func47,Tryd.ntmps47
  go_wp2_with fail
  refine (ze _ _).mono ?_
  rw [hd.out]
  rintro e w' ⟨rfl,rfl⟩
  go_wp2_with fail
  refine (zF a hsm _).mono ?_
  rintro e w1 ⟨B,d,rfl,zaI,hx1⟩
  have hl6:=zd a 6
  have hlm:=zb (fun k (hk:k∈zc a 6)=>(zae.1 hk).1)
  have hne:=zb (show zc a 6≠[] from fun e=>al_ne ha (by rw [hal.out,e];rfl))
  have hrd:=Reads.of_own zaI
  clear zaI
  generalize zc a 6=ls at *
  go_wp2_with fail
  go_loopw [3,5,14] (fun v _ i wr=>∃ k:Nat,k≤ls.length∧i=.int .i64 k∧wr.ownsRow w1.heap.size 5 1 v k (u8s (lbs (ls.take k)))∧Ext w1 wr) (fun _ _ i _=>ls.length - (intOf i).toNat)
  case atStart=>exact⟨0,Nat.zero_le _,rfl,World.ownsRow_nil _ _ _ _,Ext.refl _⟩
  case round =>
   obtain⟨k,hk,rfl,zaF,zaG⟩:=hrel
   obtain⟨A5,c5,rfl⟩:=zW zaF
   by_cases hlt:k<ls.length
   ·obtain⟨ad,l,rfl,_,_,hl,hlc⟩:=(hrd.ext zaG).nat hlt
    have hl6':=hlm.out l (List.mem_of_getElem? hl.out)
    go_wp2_with (first
     |(go_at_call 83;refine (zan hl6' _).mono ?_;rintro e w' ⟨rfl,rfl⟩)
     |(at_builtin;refine zM w1 wr rfl _ _ _ rfl 5 _ 1 1 Tryd.underlying36 info_u8 rfl (by decide) (.slice A5 k c5) _ _ _ _ rfl rfl zaG zaF rfl (cells_u8 _) (by unfold maxLen;omega) (by omega) ?_;intro v' w5 hext5 zaL hg5 hat5))
    go_roundw
    case rel=>exact⟨k+1,by omega,by go_num,by rw [List.take_add_one,hl.out];simpa [u8s,lbs] using zaL,by assumption⟩
    case measure=>simp [intOf];omega
   ·obtain rfl:k=ls.length:=by omega
    have hpos:=List.length_pos_iff.2 hne.out
    obtain⟨g,rfl,-,-⟩:=own_some' zaF hpos
    have hH:=Holds.own8 zaF
    rw [List.take_length] at hH
    have hcv:∀ W,Ext wr W→(convert 36 9 (.slice (some ⟨g,0,none⟩) ls.length c5)).run Tryd.prog W=.ok (.string (strOfNums (lbs ls))) W:=fun W hW =>
     run_convert_bytes_arg (P:=Tryd.prog) _ 36 5 u8_row u8_und g 0 ls.length c5 (lbs ls) (by simp [lbs]) (fun i hi=>by
      have h2:=(hH i (by simpa [lbs] using hi)).1
      refine hW.cell_some (h2.trans ?_)
      have hi2:i<(lbs ls).length:=by simpa [lbs] using hi
      have hi3:i<(lbs ls).toArray.size:=by simpa [lbs] using hi
      rw [getElem!_pos (lbs ls).toArray i hi3]
      simp [enc8,List.getD,List.getElem?_eq_getElem hi2]) _ str_und
    have hcv0:=hcv _ (Ext.refl _)
    go_wp2_with fail
    go_ret
    exact⟨_,rfl,zb (by rw [hal.out];exact lbs_text hlm.out),hx1.trans zaG⟩
end Go.Proofs.YtfcjhpodichpjaaDoor
namespace Go.Proofs.YtfcjhpodichpjaaDoor
open Go Go.RowKit Go.Lib Go.Shelf
def zac:Go.Shelf.Ren:=⟨fun|156=>49|165=>85|166=>86|169=>87|240=>111|241=>112|276=>136|277=>137|n=>n,fun|31=>73|9=>9|3=>3|4=>4|0=>0|20=>20|72=>104|76=>108|70=>102|37=>36|75=>107|127=>135|164=>164|5=>5|80=>110|n=>n,fun|n=>n⟩
theorem layJoin:Go.Proofs.Lays.n156 Tryd.prog zac where
 mixed:=by kernel_rfl
 f156:=Tryd.func49.trans (congrArg some (by kernel_rfl))
 f165:=Tryd.func85.trans (congrArg some (by kernel_rfl))
 f166:=Tryd.func86.trans (congrArg some (by kernel_rfl))
 f169:=Tryd.func87.trans (congrArg some (by kernel_rfl))
 f240:=Tryd.func111.trans (congrArg some (by kernel_rfl))
 f241:=Tryd.func112.trans (congrArg some (by kernel_rfl))
 f276:=Tryd.func136.trans (congrArg some (by kernel_rfl))
 f277:=Tryd.func137.trans (congrArg some (by kernel_rfl))
 t0:=Tryd.underlying0
 a0:=Tryd.isAgg0
 z0:=Tryd.sizeOf0
 v0:=Tryd.zeroValue0
 t3:=Tryd.underlying3
 a3:=Tryd.isAgg3
 z3:=Tryd.sizeOf3
 v3:=Tryd.zeroValue3
 t4:=Tryd.underlying4
 a4:=Tryd.isAgg4
 z4:=Tryd.sizeOf4
 v4:=Tryd.zeroValue4
 t9:=Tryd.underlying9
 a9:=Tryd.isAgg9
 z9:=Tryd.sizeOf9
 v9:=Tryd.zeroValue9
 t20:=Tryd.underlying20
 a20:=Tryd.isAgg20
 z20:=Tryd.sizeOf20
 v20:=Tryd.zeroValue20
 t31:=Tryd.underlying73
 a31:=Tryd.isAgg73
 z31:=Tryd.sizeOf73
 v31:=Tryd.zeroValue73
 t37:=Tryd.underlying36
 a37:=Tryd.isAgg36
 z37:=Tryd.sizeOf36
 v37:=Tryd.zeroValue36
 t70:=Tryd.underlying102
 a70:=Tryd.isAgg102
 z70:=Tryd.sizeOf102
 v70:=Tryd.zeroValue102
 t72:=Tryd.underlying104
 a72:=Tryd.isAgg104
 z72:=Tryd.sizeOf104
 v72:=Tryd.zeroValue104
 t75:=Tryd.underlying107
 a75:=Tryd.isAgg107
 z75:=Tryd.sizeOf107
 v75:=Tryd.zeroValue107
 t76:=Tryd.underlying108
 a76:=Tryd.isAgg108
 z76:=Tryd.sizeOf108
 v76:=Tryd.zeroValue108
 t127:=Tryd.underlying135
 a127:=Tryd.isAgg135
 z127:=Tryd.sizeOf135
 v127:=Tryd.zeroValue135
 t164:=Tryd.underlying164
 a164:=Tryd.isAgg164
 z164:=Tryd.sizeOf164
 v164:=Tryd.zeroValue164
theorem layJoinX:Builder.Extra Tryd.prog zac where
 sizeBuilder:=by kernel_rfl
 liesBuilder:=by kernel_rfl
 t5:=Tryd.underlying5
 a5:=Tryd.isAgg5
 z5:=Tryd.sizeOf5
 v5:=Tryd.zeroValue5
 infoByte:=by kernel_rfl
 cellsByte:=by kernel_rfl
 sizeByte:=by kernel_rfl
 neB5:=by decide
end Go.Proofs.YtfcjhpodichpjaaDoor
namespace Go.Proofs.YtfcjhpodichpjaaDoor
open Go Go.RowKit
theorem join_dig:∀ r:List Nat,Lib.join (r.map Lib.decDigits) [44]=zJ r
 |[]=>rfl
 |x :: r=>by
  rw [List.map_cons,Lib.join_cons]
  show _=keyL Lib.decDigits x r
  unfold keyL Lib.joinTail
  rw [List.map_map,List.flatMap_def]
  rfl
end Go.Proofs.YtfcjhpodichpjaaDoor
namespace Go.Proofs.YtfcjhpodichpjaaDoor
open Go Go.RowKit Go.Lib Go.Shelf
def digS (l:List Int):List ByteArray:=l.map fun q=>⟨(Lib.decDigits q.toNat).toArray⟩
theorem digS_bytes (l:List Int):(digS l).map (fun x=>x.data.toList)=(l.map Int.toNat).map Lib.decDigits:=by
 unfold digS
 rw [List.map_map,List.map_map]
 refine List.map_congr_left fun q _=>?_
 simp
theorem digS_join (l:List Int):Lib.join ((digS l).map (·.data.toList)) (⟨#[44]⟩:ByteArray).data.toList=zJ (l.map Int.toNat):=by
 rw [digS_bytes]
 exact join_dig _
theorem own_capJ {w:World} {base g n cap:Nat} {e:TypeId} {xs:List Value}(h:w.ownsRow base e 1 (.slice (some ⟨g,0,none⟩) n cap) n xs)(hn:0<n):n≤cap:=by
 rcases h.2 with ⟨h',h0⟩|⟨g',cap',cur,h',hb,hg,hnc,hcm,hcs,htake⟩
 ·omega
 ·simp only [Value.slice.injEq,Option.some.injEq,Addr.mk.injEq,and_true,true_and] at h'
  obtain⟨rfl,rfl⟩:=h'
  exact hnc
theorem lib_Join {w:World} {base n cap:Nat} {A:Option Addr} {l:List Int}(hl:l.length≤100)(hr:∀ q∈l,0≤q∧q<100)(h:w.ownsRow base 9 1 (.slice A n cap) n (strs (digS l))) :
  Calls Tryd.prog 49 #[.slice A n cap,.string ⟨#[44]⟩] w (zav (zJ (l.map Int.toNat)) w):=by
 have hn:l.length=n:=by have:=h.1;simpa [strs,digS] using this
 have hj:=digS_join l
 rcases Nat.eq_zero_or_pos n with h0|h0
 ·subst h0
  have he:l=[]:=List.eq_nil_of_length_eq_zero hn
  subst he
  have hc:=Any.strings_Join_none layJoin layJoinX A cap ⟨#[44]⟩ w
  change Calls Tryd.prog 49 _ _ _ at hc
  refine hc.mono ?_
  rintro e w' ⟨rfl,rfl⟩
  exact⟨_,rfl,zb rfl,Ext.refl _⟩
 ·obtain⟨g,rfl,-,hg⟩:=own_some' h h0
  have hlen:(digS l).length=n:=by unfold digS;rw [List.length_map,hn]
  have hjl:(zJ (l.map Int.toNat)).length≤300:=by
   have:=zab (r:=l.map Int.toNat) (fun x hx=>by
    obtain⟨q,hq,rfl⟩:=List.mem_map.1 hx
    have:=hr q hq
    omega)
   rw [List.length_map] at this
   omega
  have hc:=Any.strings_Join layJoin layJoinX g 0 cap (digS l) ⟨#[44]⟩ w (fun j x hx=>by
   have hj:j<n:=by rw [← hlen];exact (List.getElem?_eq_some_iff.1 hx).1
   rw [Nat.zero_add,h.cellAt j (by omega)]
   simp [strs,hx]) hg (by omega) (by rw [hlen];exact own_capJ h h0) (by rw [hj];omega)
  rw [hj,hlen] at hc
  change Calls Tryd.prog 49 _ _ _ at hc
  refine hc.mono ?_
  rintro e w' ⟨rfl,hb⟩
  exact⟨_,rfl,zb (by simp),Ext.of_below hb⟩
end Go.Proofs.YtfcjhpodichpjaaDoor
namespace Go.Proofs.YtfcjhpodichpjaaDoor
open Go Go.RowKit Go.Lib
theorem itoa_small (i:Nat)(h:i<100) (w:World) :
  Calls Tryd.prog 132 #[.int .i64 i] w fun e w'=>e=.returned (.string ⟨(Lib.decDigits i).toArray⟩)∧w=w':=by
 go_enter Tryd.func132,Tryd.ntmps132
 go_name_bytes_deep 45 SM hSM
 have eSM:SM=Lib.smalls:=by rw [← hSM];decide +kernel
 subst eSM
 clear hSM
 go_name_bytes_deep 30 DG hDG
 have eDG:DG=Lib.digits36:=by rw [← hDG];decide +kernel
 subst eDG
 clear hDG
 by_cases h10:i<10
 ·have hsl:∀ w,(Instr.slice 9 (.string Lib.digits36) (some (.int .i64 (i:Int))) (some (.int .i64 ((i:Int)+1))) none).run Tryd.prog w=.ok (.string (Lib.digits36.extract i (i+1))) w:=fun w=>by
   rw [run_slice_string w 9 Lib.digits36 .i64 .i64 _ _ Tryd.underlying9 (by omega) (by omega) (by rw [Lib.digits36_size];omega),show ((i:Int)).toNat=i by omega,show ((i:Int)+1).toNat=i+1 by omega]
  go_wp2
  go_ret
  refine⟨?_,rfl⟩
  show Ending.returned (Value.string (Lib.digits36.extract i (i+1)))=_
  rw [AnyPlain.small_ba (Lib.digits36.extract i (i+1)) (Lib.decDigits i) (by rw [Lib.extract_data];exact Lib.digits36_piece h10)]
 ·have hsl:∀ w,(Instr.slice 9 (.string Lib.smalls) (some (.int .i64 ((i:Int)*2))) (some (.int .i64 ((i:Int)*2+2))) none).run Tryd.prog w=.ok (.string (Lib.smalls.extract (i*2) (i*2+2))) w:=fun w=>by
   rw [run_slice_string w 9 Lib.smalls .i64 .i64 _ _ Tryd.underlying9 (by omega) (by omega) (by rw [Lib.smalls_size];omega),show ((i:Int)*2).toNat=i*2 by omega,show ((i:Int)*2+2).toNat=i*2+2 by omega]
  go_wp2
  go_ret
  refine⟨?_,rfl⟩
  show Ending.returned (Value.string (Lib.smalls.extract (i*2) (i*2+2)))=_
  rw [AnyPlain.small_ba (Lib.smalls.extract (i*2) (i*2+2)) (Lib.decDigits i) (by rw [Lib.extract_data];exact Lib.smalls_piece h10 h)]
theorem itoa_format (i:Nat)(h:i<100) (w:World) :
  Calls Tryd.prog 110 #[.int .i64 i,.int .i64 10] w fun e w'=>e=.returned (.string ⟨(Lib.decDigits i).toArray⟩)∧w=w':=by
 have hs:=zb (itoa_small i h)
 have h1:(0:Int)≤(i:Int)∧(i:Int)<100:=by omega
 go_enter Tryd.func110,Tryd.ntmps110
 go_wp2_with (go_at_call 132;refine (hs.out _).mono ?_;rintro e w1 ⟨rfl,rfl⟩)
 go_ret
 exact⟨rfl,rfl⟩
theorem itoa_in (i:Nat)(h:i<100) (w:World) :
  Calls Tryd.prog 84 #[.int .i64 i] w fun e w'=>e=.returned (.string ⟨(Lib.decDigits i).toArray⟩)∧w=w':=by
 go_enter Tryd.func84,Tryd.ntmps84
 go_wp2_with (go_at_call 110;refine (itoa_format i h _).mono ?_;rintro e w1 ⟨rfl,rfl⟩)
 go_ret
 exact⟨rfl,rfl⟩
theorem lib_Itoa (i:Nat)(h:i<100) (w:World) :
  Calls Tryd.prog 48 #[.int .i64 i] w fun e w'=>e=.returned (.string ⟨(Lib.decDigits i).toArray⟩)∧w=w':=by
 go_enter Tryd.func48,Tryd.ntmps48
 go_wp2_with (go_at_call 84;refine (itoa_in i h _).mono ?_;rintro e w1 ⟨rfl,rfl⟩)
 go_ret
 exact⟨rfl,rfl⟩
end Go.Proofs.YtfcjhpodichpjaaDoor
namespace Go.Proofs.YtfcjhpodichpjaaDoor
open Go Go.RowKit
theorem zaz (s:ByteArray) (w:World):Calls Tryd.prog 21 #[.string s] w fun e w'=>(∃ t:ByteArray,e=.returned (.string t)∧Hid (t.data.toList=wordX s)∧t.size≤s.size+1)∧w=w':=by
 cases he:s.toList.isEmpty
 ·have H0:=zb (zau he)
  go_enter Tryd.func21,Tryd.ntmps21
  go_wp2
  go_ret
  exact⟨⟨_,rfl,zb H0.out.symm,by omega⟩,rfl⟩
 ·have H0:=zb (zat he)
  go_enter Tryd.func21,Tryd.ntmps21
  go_wp2
  go_ret
  exact⟨⟨_,rfl,zb H0.out.symm,Nat.le_add_left _ _⟩,rfl⟩
theorem made_s (n:Nat):(madeCells (Value.string ⟨#[]⟩).cells (n*1)).toList=strs (List.replicate n ⟨#[]⟩):=by
 simp [Value.cells,toList_madeCells_one,strs]
theorem fill_s {ds:List ByteArray} {m k:Nat} {v:ByteArray}(hk:ds.length=k)(hm:k<m):(strs (ds++List.replicate (m - k) ⟨#[]⟩)).set k (.string v)=strs ((ds++[v])++List.replicate (m - (k+1)) ⟨#[]⟩):=by
 have e:∀ (R:List ByteArray) (i:Nat),strs (R.set i v)=(strs R).set i (.string v):=fun R i=>by simp [strs,List.map_set]
 rw [← e,List.set_append_right _ _ (by omega),hk,Nat.sub_self,show m - k=(m - (k+1))+1 by omega,List.replicate_succ,List.set_cons_zero,List.append_assoc]
 rfl
theorem digS_take {l:List Int} {k u:Nat}(h:l[k]?=some (u:Int)):digS (l.take (k+1))=digS (l.take k)++[⟨(Lib.decDigits u).toArray⟩]:=by
 unfold digS
 rw [List.take_add_one,h,List.map_append]
 rfl
theorem zw {lo hi:Nat} {A:Option Addr} {n c:Nat} {A':Option Addr} {n' c':Nat} {a:Aut} {w:World}(h:zn w lo hi A n A' n' a) :
  Calls Tryd.prog 20 #[.agg #[.int .i64 a.al,.slice A n c,.slice A' n' c']] w (zav (txtA a) w):=by
 have HV:=zb (fun W (hW:Ext w W)=>zo lo hi A n c A' n' c' a W ⟨h.1.ext hW,h.2.1,h.2.2.ext hW⟩)
 cases h1:zh a
 ·have H1:=zb h1
  have HX:=zb (show txtA a=[] by unfold txtA;rw [h1];rfl)
  clear h1 h
  go_enter Tryd.func20,Tryd.ntmps20
  go_wp2_with (go_at_call 45;refine (HV.out _ ((Ext.refl _).alloc _)).mono ?_;rw [H1.out];rintro e w1 ⟨rfl,hx⟩)
  go_ret
  exact⟨_,rfl,zb HX.out.symm,((Ext.refl _).alloc _).trans hx⟩
 ·have HX:=zb (show txtA a=alX a.al.toNat++(zr a).flatMap (32 :: ·) by unfold txtA;rw [h1];rfl)
  have Hsm:=zb (zL h1)
  obtain⟨al,ha,ha2,hn1,hn2,hac,hrows⟩:=zS h1
  have H1:=zb h1
  have Hn:=zb h.n1
  have Hn':=zb h.n2
  have Ha:=zb ha
  have HS:=zb (fun W (hW:Ext w W)=>h.1.ext hW)
  have HB:=zb (fun W (hW:Ext w W)=>h.2.2.ext hW)
  have e1:n=n':=by have:=h.n1;have:=h.n2;omega
  subst e1
  have hnn:n≤12:=by have:=h.n1;omega
  clear h1 ha hn1 hn2 hac hrows h
  go_enter Tryd.func20,Tryd.ntmps20
  go_wp2_with fail
  refine (HV.out _ ((Ext.refl _).alloc _)).mono ?_
  rw [H1.out]
  rintro e w1 ⟨rfl,hx⟩
  have b1:=zm hx
  rw [Ha.out] at b1
  have hw1:=((Ext.refl w).alloc _).trans hx
  have cb:=b1.cells
  have hr1:=Ext.refl w1
  clear hx
  go_wp2_with fail
  refine (zC ha2).mono ?_
  rintro e w2 ⟨t2,rfl,ht2,hx2⟩
  have hat:al=a.al.toNat:=by have:=Ha.out;omega
  rw [hat] at ht2
  have hts:t2.size≤6:=by
   rw [zK ht2.out]
   exact alX_len _
  clear hat
  go_wp2_with fail
  go_loopw [3,4,5,6,7,8,9,19] (fun v _ _ _ _ _ _ i wr=>∃ (k:Nat) (t:ByteArray),k≤n∧i=.int .i64 k∧v=.string t∧t.size≤20+100*k∧Hid (t.data.toList=alX a.al.toNat++((zr a).take k).flatMap (32 :: ·))∧Ext w1 wr) (fun _ _ _ _ _ _ _ i _=>n - (intOf i).toNat)
  case atStart=>exact⟨0,t2,Nat.zero_le _,rfl,rfl,by omega,zb (by rw [ht2.out];simp),hx2⟩
  case round =>
   clear hx2 ht2 hr1 hts
   obtain⟨k,t,hk,rfl,rfl,ht,htx,zaG⟩:=hrel
   have cb0:=cb wr zaG
   by_cases hlt:k<n
   ·obtain⟨ad,Ak,ck,l,rfl,_,_,hl,hc0,hrk⟩:=(HS.out wr (hw1.trans zaG)).row hlt
    obtain⟨ad',x,rfl,_,_,hbx,hb0⟩:=(HB.out wr (hw1.trans zaG)).bool hlt
    have hsm:=zb (Hsm.out.2.2.2.2.2 l (List.mem_of_getElem? hl.out))
    have hl6:l.length≤6:=hsm.out.2
    have Hrk:=zb (fun W (hW:Ext wr W)=>hrk.ext hW)
    have Hcb:=zb (fun W (hW:Ext wr W)=>cb W (zaG.trans hW))
    have Hbx:=zb (fun W (hW:Ext wr W)=>hW.cell_some hb0)
    have Htk:=zb (zap hl.out hbx.out)
    obtain⟨ll,hll⟩:∃ ll,Hid (l.length=ll):=⟨_,zb rfl⟩
    rw [hll.out] at hl6 hc0
    clear hrk hb0
    go_upto_region 8 with (at_make;refine zs wr wr rfl _ _ 73 rfl 9 _ 1 16 Tryd.underlying73 info_str _ _ ll rfl rfl (Ext.refl _) (by omega) (by unfold maxLen;omega) ?_;intro w3 hx3 zaK hx13 hsz3)
    rw [made_s] at zaK
    clear hx13
    obtain⟨g,hg⟩:∃ g,Hid (g=wr.heap.size):=⟨_,zb rfl⟩
    rw [← hg.out] at zaK ⊢
    obtain⟨wK,hwK⟩:∃ wK,wK=wr:=⟨_,rfl⟩
    rw [← hwK] at Hrk Hcb Hbx hx3 zaG hg
    clear hwK cb0 hc0 hsz3
    go_wp2_with fail
    go_loopw [7,8,29] (fun _ _ jv wr=>∃ (j:Nat),j≤ll∧jv=.int .i64 j∧Hid (wr.ownsRow g 9 1 (.slice (some ⟨g,0,none⟩) ll ll) ll (strs (digS (l.take j)++List.replicate (ll - j) ⟨#[]⟩)))∧Ext wK wr) (fun _ _ jv _=>ll - (intOf jv).toNat)
    case atStart=>exact⟨0,Nat.zero_le _,rfl,zb (by simpa [digS] using zaK),hx3⟩
    case round =>
     clear zaK hx3
     obtain⟨j,hj,rfl,zaF,hwx⟩:=hrel
     by_cases hjl:j<ll
     ·obtain⟨ad2,q,rfl,-,-,hql,hcq⟩:=(Hrk.out wr hwx).int (k:=j) (by rw [hll.out];exact hjl)
      obtain⟨hq0,hq1⟩:=hsm.out.1 q (List.mem_of_getElem? hql.out)
      obtain⟨u,rfl⟩:∃ u:Nat,q=u:=⟨q.toNat,by omega⟩
      have hu:u<100:=by omega
      have hdl:(digS (l.take j)).length=j:=by unfold digS;rw [List.length_map,List.length_take,hll.out];omega
      obtain⟨o0,g0⟩:=own_cell zaF.out j (by omega)
      have f0:=zaF.out.frozenAt j
      have hst:=(zaF.out.stored j (.string ⟨(Lib.decDigits u).toArray⟩)).1
      rw [fill_s hdl hjl,← digS_take hql.out] at hst
      have hHst:=zb hst
      have hg0:=hg.out
      have hext2:=hwx.setCell (p:=⟨g,j,none⟩) (by rw [hg0];exact Nat.le_refl _) (.string ⟨(Lib.decDigits u).toArray⟩)
      clear hst hdl hq0 hq1 hg0
      go_wp2_with (go_at_call 48;refine (lib_Itoa u hu _).mono ?_;rintro e w' ⟨rfl,rfl⟩)
      go_roundw
      case rel=>exact⟨j+1,by omega,by go_num,hHst,hext2⟩
      case measure=>simp [intOf];omega
     ·obtain rfl:j=ll:=by omega
      have hown':=zb (show wr.ownsRow g 9 1 (.slice (some ⟨g,0,none⟩) j j) j (strs (digS l)) by
       have:=zaF.out
       rwa [Nat.sub_self,List.replicate_zero,List.append_nil,← hll.out,List.take_length,hll.out] at this)
      have cb0:=Hcb.out wr hwx
      have hb0:=Hbx.out wr hwx
      have hgo:=zb (fun (m:ByteArray) (hm:m.data.toList=[32,if x then 43 else 45]) (z:ByteArray) (hz:z.data.toList=zJ (l.map Int.toNat))=>show (t++(m++z)).data.toList=alX a.al.toNat++((zr a).take (k+1)).flatMap (32 :: ·) from by
       rw [zt rfl (zt hm hz),htx.out,Htk.out,List.append_assoc]
       unfold rowX
       simp)
      have hjz:=zb (fun (z:ByteArray) (hz:z.data.toList=zJ (l.map Int.toNat))=>show z.size≤18 from by
       rw [zK hz]
       have:=zab hsm.out.1.nat
       have h2:=hsm.out.2
       rw [List.length_map] at this
       omega)
      clear zaF Hrk Hbx
      go_upto_if 44 with fail
      go_cut [9] (fun s9 wx=>∃ m:ByteArray,s9=.string m∧m.size=2∧Hid (m.data.toList=[32,if x then 43 else 45])∧wx=wr)
      case first =>
       cases x
       ·go_wp2_with fail
        go_meet
        exact⟨{ data:=#[32,45] },rfl,rfl,zb rfl,rfl⟩
       ·go_wp2_with fail
        go_meet
        exact⟨{ data:=#[32,43] },rfl,rfl,zb rfl,rfl⟩
      case rest =>
       obtain⟨m,rfl,hm2,hmx,rfl⟩:=hcut
       go_wp2_with fail
       refine (lib_Join (by have:=hsm.out.2;omega) hsm.out.1 hown'.out).mono ?_
       rintro e w4 ⟨z,rfl,hz,hx4⟩
       have hz18:=hjz.out z hz.out
       have q0:¬ 9223372036854775807<m.size+z.size:=by omega
       have q1:¬ 9223372036854775807<t.size+(m.size+z.size):=by omega
       go_wp2_with fail
       go_roundw
       case rel=>exact⟨k+1,_,by omega,by go_num,rfl,by rw [ByteArray.size_append,ByteArray.size_append];omega,zb (hgo.out m hmx.out z hz.out),(zaG.trans hwx).trans hx4⟩
       case measure=>simp [intOf];omega
   ·obtain rfl:k=n:=by omega
    have zaH:=zb (show (zr a).take k=zr a from by
     refine List.take_of_length_le ?_
     have h1:=Hsm.out.2.2.1
     have h2:=Hn.out
     unfold zr
     rw [List.length_map,List.length_zip]
     omega)
    go_wp2_with fail
    go_ret
    exact⟨t,rfl,zb (by rw [HX.out,htx.out,zaH.out]),hw1.trans zaG⟩
theorem zax {lo hi:Nat} {A:Option Addr} {n c:Nat} {A':Option Addr} {n' c':Nat} {hd:Bool} {a:Aut} {s:ByteArray} {w:World}(h:zn w lo hi A n A' n' a)(hs:s.size≤2000000) :
  Calls Tryd.prog 8 #[.agg #[.bool hd,.int .i64 a.al,.slice A n c,.slice A' n' c',.string s]] w (zav (txtC hd a s) w):=by
 have HV:=zb (fun W (hW:Ext w W)=>zv _ _ _ _ c _ _ c' hd _ s W (h.ext hW) (by omega))
 have HF:=zb (fun W (hW:Ext w W)=>zw (c:=c) (c':=c') (h.ext hW))
 have Hl:=zb (txtA_len a)
 cases hv:zf hd a s
 ·rw [hv] at HV
  have H0:=zb (txtC_no hv)
  clear h hv
  go_enter Tryd.func8,Tryd.ntmps8
  go_wp2_with (go_at_call 19;refine (HV.out _ ((Ext.refl _).alloc _)).mono ?_;rintro e w1 ⟨rfl,hx⟩)
  go_ret
  exact⟨_,rfl,zb H0.out.symm,((Ext.refl _).alloc _).trans hx⟩
 ·rw [hv] at HV
  cases hd
  ·have H0:=zb (zas hv)
   clear h hv
   go_enter Tryd.func8,Tryd.ntmps8
   go_wp2_with fail
   refine (HV.out _ ((Ext.refl _).alloc _)).mono ?_
   rintro e w1 ⟨rfl,hx⟩
   have b1:=zm hx
   have cb:=b1.cell
   have hw1:=((Ext.refl w).alloc _).trans hx
   go_wp2_with fail
   refine (zaz s _).mono ?_
   rintro e w2 ⟨⟨t,rfl,ht,hts⟩,rfl⟩
   have q0:¬ 9223372036854775807<6+t.size:=by omega
   go_wp2_with fail
   go_ret
   exact⟨_,rfl,zb (by rw [H0.out];exact zt rfl ht.out),hw1⟩
  ·have H0:=zb (txtC_holds hv)
   clear h hv
   go_enter Tryd.func8,Tryd.ntmps8
   go_wp2_with fail
   refine (HV.out _ ((Ext.refl _).alloc _)).mono ?_
   rintro e w1 ⟨rfl,hx⟩
   have b1:=zm hx
   have cb:=b1.cell
   have hw1:=((Ext.refl w).alloc _).trans hx
   go_wp2_with fail
   refine (HF.out _ hw1).mono ?_
   rintro e w2 ⟨t2,rfl,ht2,hx2⟩
   have hts:t2.size≤300:=by rw [zK ht2.out];exact Hl.out
   have q0:¬ 9223372036854775807<6+t2.size:=by omega
   go_wp2_with fail
   go_ret
   exact⟨_,rfl,zb (by rw [H0.out];exact zt rfl ht2.out),hw1.trans hx2⟩
end Go.Proofs.YtfcjhpodichpjaaDoor
namespace Go.Proofs.YtfcjhpodichpjaaDoor
open Go Go.ChangeShapes Go.WideShapes Go.ChangeAt Go.RowKit Go.Deep
theorem arg_cert {H:Type} {enc:TypeId × Value→H} {w:World} {spare:Nat→Bool} {held:Bool} {r:Reach} {b0:Nat} {v:Value} {d:DataW H} {p:List MemPlace}(hv:Value.okWide Tryd.prog w r b0 27 v)(h:DataW.Trod enc Tryd.prog w 0 spare held 27 v d p) :
  ∃ (hd:Bool) (a:Aut) (A:Option Addr) (n c:Nat) (A':Option Addr) (n' c':Nat) (s:ByteArray),v=.agg #[.bool hd,.int .i64 a.al,.slice A n c,.slice A' n' c',.string s]∧zn w 0 w.heap.size A n A' n' a∧s.size≤9223372036854775807:=by
 obtain⟨cs,rfl,hsz⟩:=okWide_struct Tryd.underlying27 hv
 obtain⟨c0,c1,c2,c3,c4,rfl⟩:=array5 (hsz.trans (by kernel_rfl))
 obtain⟨fuel,hf⟩:=h
 obtain⟨y0,y1,y2,k,_,_,h0,h1,h2⟩:=trod_struct3 Tryd.underlying27 hf
 have k1:Tryd.prog.cellsOf 25=3:=by kernel_rfl
 have k4:Tryd.prog.cellsOf 4=1:=by kernel_rfl
 have k9:Tryd.prog.cellsOf 9=1:=by kernel_rfl
 dsimp only at h0 h1 h2
 rw [k4] at h0
 rw [k1] at h1
 rw [k9] at h2
 obtain⟨hd,e0,_⟩:=DataW.trod_bool Tryd.underlying4 h0
 obtain⟨a,A,n,c,A',n',c',e1,hr⟩:=zaB h1
 obtain⟨s,e2,_,hs⟩:=DataW.trod_string Tryd.underlying9 h2
 simp [Value.cells] at e0 e1 e2
 obtain⟨rfl,rfl,rfl⟩:=e1
 subst e0;subst e2
 exact⟨hd,a,A,n,c,A',n',c',s,rfl,hr,by unfold maxLen at hs;omega⟩
end Go.Proofs.YtfcjhpodichpjaaDoor
