/- impl.FormatA -/
import Derived.Test.YtfcjhpodichpjaaGreatDoorP02
import Derived.Shelf.Strings.OnBuilder
import Derived.Test.YtfcjhpodichpjaaGreatDoorP01
import Derived.Lib.Join
import Derived.Lib.Atoi
import Derived.Lib.AtoiAll
import Derived.Shelf.Strconv.Itoa1
import Derived.RangeFuncFrom
import Derived.RangeFuncNested
import Derived.RangeFuncBound
import Derived.RangeFuncCalls
import Derived.RangeFuncLeaves
import Derived.Shelf.Abstract
import Derived.Shelf.RegionOpen
import Derived.WalkKit
import Derived.OwnWalkIn
import Derived.TacticsInMore
import Derived.LoopNIn
import Derived.LoopIn
import Derived.Maps.AppendAt
import Derived.RangeFuncBox
set_option maxHeartbeats 6400000
set_option maxRecDepth 100000
namespace Go.Proofs.YtfcjhpodichpjaaGreatDoor
open Go Go.RowKit
theorem lbs_text {o:List Nat}(h:∀ l∈o,l<6):(strOfNums (lbs o)).data.toList=o.map fun l=>UInt8.ofNat (97+l):=by
 unfold strOfNums lbs
 simp only [List.map_map]
 refine List.map_congr_left fun l hl=>?_
 have:l<6:=h l hl
 show UInt8.ofNat ((97+l:Nat):Int).toNat=UInt8.ofNat (97+l)
 rw [Int.toNat_natCast]
theorem zI {a:Nat} {w:World}(ha:a<64) :
  Calls Tryz.prog 51 #[.int .i64 a] w (zbZ (alX a) w):=by
 have hsm:Sm a:=by unfold Sm;omega
 have hd:=za (show decide (0≤(a:Int)∧(a:Int)≤63)=true by simp;omega)
 by_cases h0:a=0
 ·subst h0
  rw [show ((0:Nat):Int)=0 from rfl]
  have hd0:=za (show decide ((0:Int)≤0∧(0:Int)≤63)=true by decide)
  go_enter Tryz.func51,Tryz.ntmps51
  go_wp2_with (go_at_call 54;refine (zj _ _).mono ?_;rw [hd0.out];rintro e w' ⟨rfl,rfl⟩)
  go_ret
  exact⟨_,rfl,za rfl,Ext.refl _⟩
 ·have h0':((a:Int)==0)=false:=by simp;omega
  have hal:=za (show alX a=(zg a 6).map (fun l=>UInt8.ofNat (97+l)) by unfold alX;rw [if_neg h0])
  go_enter Tryz.func51,Tryz.ntmps51
  go_wp2_with fail
  refine (zj _ _).mono ?_
  rw [hd.out]
  rintro e w' ⟨rfl,rfl⟩
  go_wp2_with fail
  refine (zau a hsm _).mono ?_
  rintro e w1 ⟨B,d,rfl,zcs,hx1⟩
  have hl6:=zh a 6
  have hlm:=za (fun k (hk:k∈zg a 6)=>(zax.1 hk).1)
  have hne:=za (show zg a 6≠[] from fun e=>al_ne ha (by rw [hal.out,e];rfl))
  have hrd:=Reads.of_own zcs
  clear zcs
  generalize zg a 6=ls at *
  go_wp2_with fail
  go_loopw [3,5,14] (fun v _ i wr=>∃ k:Nat,k≤ls.length∧i=.int .i64 k∧wr.ownsRow w1.heap.size 5 1 v k (u8s (lbs (ls.take k)))∧Ext w1 wr) (fun _ _ i _=>ls.length - (intOf i).toNat)
  case atStart=>exact⟨0,Nat.zero_le _,rfl,World.ownsRow_nil _ _ _ _,Ext.refl _⟩
  case round =>
   obtain⟨k,hk,rfl,zco,zcq⟩:=hrel
   obtain⟨A5,c5,rfl⟩:=zr zco
   by_cases hlt:k<ls.length
   ·obtain⟨ad,l,rfl,_,_,hl,hlc⟩:=(hrd.ext zcq).nat hlt
    have hl6':=hlm.out l (List.mem_of_getElem? hl.out)
    go_wp2_with (first
     |(go_at_call 105;refine (zbI hl6' _).mono ?_;rintro e w' ⟨rfl,rfl⟩)
     |(at_builtin;refine zx w1 wr rfl _ _ _ rfl 5 _ 1 1 Tryz.underlying22 info_u8 rfl (by decide) (.slice A5 k c5) _ _ _ _ rfl rfl zcq zco rfl (cells_u8 _) (by unfold maxLen;omega) (by omega) ?_;intro v' w5 hext5 zcv hg5 hat5))
    go_roundw
    case rel=>exact⟨k+1,by omega,by go_num,by rw [List.take_add_one,hl.out];simpa [u8s,lbs] using zcv,by assumption⟩
    case measure=>simp [intOf];omega
   ·obtain rfl:k=ls.length:=by omega
    have hpos:=List.length_pos_iff.2 hne.out
    obtain⟨g,rfl,-,-⟩:=zN zco hpos
    have hH:=Holds.own8 zco
    rw [List.take_length] at hH
    have hcv:∀ W,Ext wr W→(convert 22 9 (.slice (some ⟨g,0,none⟩) ls.length c5)).run Tryz.prog W=.ok (.string (strOfNums (lbs ls))) W:=fun W hW =>
     run_convert_bytes_arg (P:=Tryz.prog) _ 22 5 u8_row u8_und g 0 ls.length c5 (lbs ls) (by simp [lbs]) (fun i hi=>by
      have h2:=(hH i (by simpa [lbs] using hi)).1
      refine hW.cell_some (h2.trans ?_)
      have hi2:i<(lbs ls).length:=by simpa [lbs] using hi
      have hi3:i<(lbs ls).toArray.size:=by simpa [lbs] using hi
      rw [getElem!_pos (lbs ls).toArray i hi3]
      simp [enc8,List.getD,List.getElem?_eq_getElem hi2]) _ str_und
    have hcv0:=hcv _ (Ext.refl _)
    go_wp2_with fail
    go_ret
    exact⟨_,rfl,za (by rw [hal.out];exact lbs_text hlm.out),hx1.trans zcq⟩
def alF (u:List UInt8):Nat:=u.foldl (fun a b=>if 97≤b.toNat∧b.toNat≤102 then a|||2 ^ (b.toNat - 97) else a) 0
theorem alF_snoc (u:List UInt8) (b:UInt8):alF (u++[b])=if 97≤b.toNat∧b.toNat≤102 then alF u|||2 ^ (b.toNat - 97) else alF u:=by simp [alF,List.foldl_append]
theorem pow6 {l:Nat}(h:l<6):2 ^ l<64:=by
 have:∀ l<6,2 ^ l<64:=by decide
 exact this l h
theorem or64 {a b:Nat}(ha:a<64)(hb:b<64):a|||b<64:=Nat.or_lt_two_pow (n:=6) ha hb
theorem alF_alX:∀ n<64,alF (alX n)=n:=by decide +kernel
theorem ltr_yes {b:Nat}(h:97≤b∧b≤102):ltr (b:Int)=((b - 97:Nat):Int):=by
 unfold ltr
 rw [if_neg (by omega)]
 omega
theorem ltr_no {b:Nat}(h:¬ (97≤b∧b≤102)):ltr (b:Int) = -1:=by
 unfold ltr
 rw [if_pos (by omega)]
theorem pow_wrap:∀ l<6,wrap64 ((2:Int) ^ l)=((2 ^ l:Nat):Int):=by decide +kernel
theorem zav {x:ByteArray} {w:World}(hx:x.size≤2000000) :
  Calls Tryz.prog 65 #[.string x] w (RetAlX x w):=by
 have hxx:=za hx
 go_enter Tryz.func65,Tryz.ntmps65
 go_wp2_with fail
 go_loopw [4,5,6,9] (fun v _ _ i wr=>∃ (k a:Nat),k≤x.size∧i=.int .i64 k∧v=.int .i64 a∧a<64∧Hid (a=alF (x.data.toList.take k))∧wr=w) (fun _ _ _ i _=>x.size - (intOf i).toNat)
 case atStart=>exact⟨0,0,Nat.zero_le _,rfl,rfl,by omega,za rfl,rfl⟩
 case round =>
  obtain⟨k,a,hk,rfl,rfl,ha,hal,rfl⟩:=hrel
  by_cases hlt:k<x.size
  ·have hlt':(k:Int)<(x.size:Int):=by omega
   have hst:=za (show x.data.toList.take (k+1)=x.data.toList.take k++[x[k]] by
    rw [List.take_add_one,zQ x k hlt]
    rfl)
   by_cases hb:97≤x[k].toNat∧x[k].toNat≤102
   ·have hL:=ltr_yes hb
    have hl6:x[k].toNat - 97<6:=by omega
    have hnew:=za (show a|||2 ^ (x[k].toNat - 97)=alF (x.data.toList.take (k+1)) by rw [hst.out,alF_snoc,if_pos hb,hal.out])
    have hor:=bits_or (a:=a) (b:=2 ^ (x[k].toNat - 97)) (by unfold Sm;omega) (by have:=pow6 hl6;unfold Sm;omega)
    have hlt64:=or64 ha (pow6 hl6)
    generalize x[k].toNat - 97=l at *
    have hmin:min l 64=l:=by omega
    go_wp2_with (go_at_call 110;refine (zL x k hlt _).mono ?_;rw [hL];rintro e w' ⟨rfl,rfl⟩)
    go_roundw
    case rel=>exact⟨k+1,a|||2 ^ l,by omega,by go_num,by rw [pow_wrap _ hl6,hor],hlt64,hnew,trivial⟩
    case measure=>simp [intOf];omega
   ·have hL:=ltr_no hb
    have hnew:=za (show a=alF (x.data.toList.take (k+1)) by rw [hst.out,alF_snoc,if_neg hb,hal.out])
    go_wp2_with (go_at_call 110;refine (zL x k hlt _).mono ?_;rw [hL];rintro e w' ⟨rfl,rfl⟩)
    go_roundw
    case rel=>exact⟨k+1,a,by omega,by go_num,rfl,ha,hnew,trivial⟩
    case measure=>simp [intOf];omega
  ·obtain rfl:k=x.size:=by omega
   have zcr:=za (show a=alF x.data.toList by
    have e:x.data.toList.take x.size=x.data.toList:=List.take_of_length_le (Nat.le_refl _)
    rw [hal.out,e])
   go_wp2_with fail
   refine (zI ha).mono ?_
   rintro e w2 ⟨t,rfl,ht,hx2⟩
   cases hxt:t.toList==x.toList
   ·have hne:=za (show ∀ n<64,alX n≠x.data.toList from fun n hn h=>by
     rw [ByteArray.toList_eq,ByteArray.toList_eq,ht.out] at hxt
     have e:a=n:=by rw [zcr.out,← h,alF_alX n hn]
     rw [e,h] at hxt
     simp at hxt)
    go_wp2_with fail
    go_ret2
    exact⟨0,false,rfl,by omega,za (.inr ⟨rfl,rfl,hne.out⟩),hx2⟩
   ·have heq:=za (show alX a=x.data.toList by
     rw [ByteArray.toList_eq,ByteArray.toList_eq,ht.out] at hxt
     exact eq_of_beq hxt)
    go_wp2_with fail
    go_ret2
    exact⟨a,true,rfl,ha,za (.inl ⟨rfl,heq.out⟩),hx2⟩
end Go.Proofs.YtfcjhpodichpjaaGreatDoor
namespace Go.Proofs.YtfcjhpodichpjaaGreatDoor
open Go Go.RowKit Go.Lib Go.Shelf
def zbw:Go.Shelf.Ren:=⟨fun|156=>53|165=>107|166=>108|169=>109|240=>151|241=>152|276=>179|277=>180|n=>n,fun|31=>61|9=>9|3=>3|4=>4|0=>0|20=>20|72=>119|76=>123|70=>117|37=>22|75=>122|127=>154|164=>185|5=>5|80=>125|n=>n,fun|n=>n⟩
theorem layJoin:Go.Proofs.Lays.n156 Tryz.prog zbw where
 mixed:=by kernel_rfl
 f156:=Tryz.func53.trans (congrArg some (by kernel_rfl))
 f165:=Tryz.func107.trans (congrArg some (by kernel_rfl))
 f166:=Tryz.func108.trans (congrArg some (by kernel_rfl))
 f169:=Tryz.func109.trans (congrArg some (by kernel_rfl))
 f240:=Tryz.func151.trans (congrArg some (by kernel_rfl))
 f241:=Tryz.func152.trans (congrArg some (by kernel_rfl))
 f276:=Tryz.func179.trans (congrArg some (by kernel_rfl))
 f277:=Tryz.func180.trans (congrArg some (by kernel_rfl))
 t0:=Tryz.underlying0
 a0:=Tryz.isAgg0
 z0:=Tryz.sizeOf0
 v0:=Tryz.zeroValue0
 t3:=Tryz.underlying3
 a3:=Tryz.isAgg3
 z3:=Tryz.sizeOf3
 v3:=Tryz.zeroValue3
 t4:=Tryz.underlying4
 a4:=Tryz.isAgg4
 z4:=Tryz.sizeOf4
 v4:=Tryz.zeroValue4
 t9:=Tryz.underlying9
 a9:=Tryz.isAgg9
 z9:=Tryz.sizeOf9
 v9:=Tryz.zeroValue9
 t20:=Tryz.underlying20
 a20:=Tryz.isAgg20
 z20:=Tryz.sizeOf20
 v20:=Tryz.zeroValue20
 t31:=Tryz.underlying61
 a31:=Tryz.isAgg61
 z31:=Tryz.sizeOf61
 v31:=Tryz.zeroValue61
 t37:=Tryz.underlying22
 a37:=Tryz.isAgg22
 z37:=Tryz.sizeOf22
 v37:=Tryz.zeroValue22
 t70:=Tryz.underlying117
 a70:=Tryz.isAgg117
 z70:=Tryz.sizeOf117
 v70:=Tryz.zeroValue117
 t72:=Tryz.underlying119
 a72:=Tryz.isAgg119
 z72:=Tryz.sizeOf119
 v72:=Tryz.zeroValue119
 t75:=Tryz.underlying122
 a75:=Tryz.isAgg122
 z75:=Tryz.sizeOf122
 v75:=Tryz.zeroValue122
 t76:=Tryz.underlying123
 a76:=Tryz.isAgg123
 z76:=Tryz.sizeOf123
 v76:=Tryz.zeroValue123
 t127:=Tryz.underlying154
 a127:=Tryz.isAgg154
 z127:=Tryz.sizeOf154
 v127:=Tryz.zeroValue154
 t164:=Tryz.underlying185
 a164:=Tryz.isAgg185
 z164:=Tryz.sizeOf185
 v164:=Tryz.zeroValue185
theorem layJoinX:Builder.Extra Tryz.prog zbw where
 sizeBuilder:=by kernel_rfl
 liesBuilder:=by kernel_rfl
 t5:=Tryz.underlying5
 a5:=Tryz.isAgg5
 z5:=Tryz.sizeOf5
 v5:=Tryz.zeroValue5
 infoByte:=by kernel_rfl
 cellsByte:=by kernel_rfl
 sizeByte:=by kernel_rfl
 neB5:=by decide
end Go.Proofs.YtfcjhpodichpjaaGreatDoor
namespace Go.Proofs.YtfcjhpodichpjaaGreatDoor
open Go Go.RowKit
theorem join_dig:∀ r:List Nat,Lib.join (r.map Lib.decDigits) [44]=zv r
 |[]=>rfl
 |x :: r=>by
  rw [List.map_cons,Lib.join_cons]
  show _=keyL Lib.decDigits x r
  unfold keyL Lib.joinTail
  rw [List.map_map,List.flatMap_def]
  rfl
theorem zbl {n:Nat}(hn:n<100):Lib.atoiAll (Lib.decDigits n)=.ok (n:Int):=by
 have h1:∀ n<10,Lib.atoiAll [UInt8.ofNat (48+n)]=.ok ((n:Nat):Int):=by decide +kernel
 have h2:∀ n<100,¬ n<10→Lib.atoiAll [UInt8.ofNat (48+n / 10),UInt8.ofNat (48+n % 10)]=.ok ((n:Nat):Int):=by decide +kernel
 by_cases h:n<10
 ·rw [Lib.decDigits_one h]
  exact h1 n h
 ·rw [Lib.decDigits_two h hn]
  exact h2 n hn h
end Go.Proofs.YtfcjhpodichpjaaGreatDoor
namespace Go.Proofs.YtfcjhpodichpjaaGreatDoor
open Go Go.RowKit Go.Lib Go.Shelf
def digS (l:List Int):List ByteArray:=l.map fun q=>⟨(Lib.decDigits q.toNat).toArray⟩
theorem digS_bytes (l:List Int):(digS l).map (fun x=>x.data.toList)=(l.map Int.toNat).map Lib.decDigits:=by
 unfold digS
 rw [List.map_map,List.map_map]
 refine List.map_congr_left fun q _=>?_
 simp
theorem digS_join (l:List Int):Lib.join ((digS l).map (·.data.toList)) (⟨#[44]⟩:ByteArray).data.toList=zv (l.map Int.toNat):=by
 rw [digS_bytes]
 exact join_dig _
theorem own_capJ {w:World} {base g n cap:Nat} {e:TypeId} {xs:List Value}(h:w.ownsRow base e 1 (.slice (some ⟨g,0,none⟩) n cap) n xs)(hn:0<n):n≤cap:=by
 rcases h.2 with ⟨h',h0⟩|⟨g',cap',cur,h',hb,hg,hnc,hcm,hcs,htake⟩
 ·omega
 ·simp only [Value.slice.injEq,Option.some.injEq,Addr.mk.injEq,and_true,true_and] at h'
  obtain⟨rfl,rfl⟩:=h'
  exact hnc
theorem lib_Join {w:World} {base n cap:Nat} {A:Option Addr} {l:List Int}(hl:l.length≤100)(hr:∀ q∈l,0≤q∧q<100)(h:w.ownsRow base 9 1 (.slice A n cap) n (zbj (digS l))) :
  Calls Tryz.prog 53 #[.slice A n cap,.string ⟨#[44]⟩] w (zbZ (zv (l.map Int.toNat)) w):=by
 have hn:l.length=n:=by have:=h.1;simpa [zbj,digS] using this
 have hj:=digS_join l
 rcases Nat.eq_zero_or_pos n with h0|h0
 ·subst h0
  have he:l=[]:=List.eq_nil_of_length_eq_zero hn
  subst he
  have hc:=Any.strings_Join_none layJoin layJoinX A cap ⟨#[44]⟩ w
  change Calls Tryz.prog 53 _ _ _ at hc
  refine hc.mono ?_
  rintro e w' ⟨rfl,rfl⟩
  exact⟨_,rfl,za rfl,Ext.refl _⟩
 ·obtain⟨g,rfl,-,hg⟩:=zN h h0
  have hlen:(digS l).length=n:=by unfold digS;rw [List.length_map,hn]
  have hjl:(zv (l.map Int.toNat)).length≤300:=by
   have:=zbu (r:=l.map Int.toNat) (fun x hx=>by
    obtain⟨q,hq,rfl⟩:=List.mem_map.1 hx
    have:=hr q hq
    omega)
   rw [List.length_map] at this
   omega
  have hc:=Any.strings_Join layJoin layJoinX g 0 cap (digS l) ⟨#[44]⟩ w (fun j x hx=>by
   have hj:j<n:=by rw [← hlen];exact (List.getElem?_eq_some_iff.1 hx).1
   rw [Nat.zero_add,h.cellAt j (by omega)]
   simp [zbj,hx]) hg (by omega) (by rw [hlen];exact own_capJ h h0) (by rw [hj];omega)
  rw [hj,hlen] at hc
  change Calls Tryz.prog 53 _ _ _ at hc
  refine hc.mono ?_
  rintro e w' ⟨rfl,hb⟩
  exact⟨_,rfl,za (by simp),Ext.of_below hb⟩
end Go.Proofs.YtfcjhpodichpjaaGreatDoor
namespace Go.Proofs.YtfcjhpodichpjaaGreatDoor
open Go Go.RowKit Go.Lib
theorem itoa_small (i:Nat)(h:i<100) (w:World) :
  Calls Tryz.prog 175 #[.int .i64 i] w fun e w'=>e=.returned (.string ⟨(Lib.decDigits i).toArray⟩)∧w=w':=by
 go_enter Tryz.func175,Tryz.ntmps175
 go_name_bytes_deep 45 SM hSM
 have eSM:SM=Lib.smalls:=by rw [← hSM];decide +kernel
 subst eSM
 clear hSM
 go_name_bytes_deep 30 DG hDG
 have eDG:DG=Lib.digits36:=by rw [← hDG];decide +kernel
 subst eDG
 clear hDG
 by_cases h10:i<10
 ·have hsl:∀ w,(Instr.slice 9 (.string Lib.digits36) (some (.int .i64 (i:Int))) (some (.int .i64 ((i:Int)+1))) none).run Tryz.prog w=.ok (.string (Lib.digits36.extract i (i+1))) w:=fun w=>by
   rw [run_slice_string w 9 Lib.digits36 .i64 .i64 _ _ Tryz.underlying9 (by omega) (by omega) (by rw [Lib.digits36_size];omega),show ((i:Int)).toNat=i by omega,show ((i:Int)+1).toNat=i+1 by omega]
  go_wp2
  go_ret
  refine⟨?_,rfl⟩
  show Ending.returned (Value.string (Lib.digits36.extract i (i+1)))=_
  rw [AnyPlain.small_ba (Lib.digits36.extract i (i+1)) (Lib.decDigits i) (by rw [Lib.extract_data];exact Lib.digits36_piece h10)]
 ·have hsl:∀ w,(Instr.slice 9 (.string Lib.smalls) (some (.int .i64 ((i:Int)*2))) (some (.int .i64 ((i:Int)*2+2))) none).run Tryz.prog w=.ok (.string (Lib.smalls.extract (i*2) (i*2+2))) w:=fun w=>by
   rw [run_slice_string w 9 Lib.smalls .i64 .i64 _ _ Tryz.underlying9 (by omega) (by omega) (by rw [Lib.smalls_size];omega),show ((i:Int)*2).toNat=i*2 by omega,show ((i:Int)*2+2).toNat=i*2+2 by omega]
  go_wp2
  go_ret
  refine⟨?_,rfl⟩
  show Ending.returned (Value.string (Lib.smalls.extract (i*2) (i*2+2)))=_
  rw [AnyPlain.small_ba (Lib.smalls.extract (i*2) (i*2+2)) (Lib.decDigits i) (by rw [Lib.extract_data];exact Lib.smalls_piece h10 h)]
theorem itoa_format (i:Nat)(h:i<100) (w:World) :
  Calls Tryz.prog 150 #[.int .i64 i,.int .i64 10] w fun e w'=>e=.returned (.string ⟨(Lib.decDigits i).toArray⟩)∧w=w':=by
 have hs:=za (itoa_small i h)
 have h1:(0:Int)≤(i:Int)∧(i:Int)<100:=by omega
 go_enter Tryz.func150,Tryz.ntmps150
 go_wp2_with (go_at_call 175;refine (hs.out _).mono ?_;rintro e w1 ⟨rfl,rfl⟩)
 go_ret
 exact⟨rfl,rfl⟩
theorem itoa_in (i:Nat)(h:i<100) (w:World) :
  Calls Tryz.prog 106 #[.int .i64 i] w fun e w'=>e=.returned (.string ⟨(Lib.decDigits i).toArray⟩)∧w=w':=by
 go_enter Tryz.func106,Tryz.ntmps106
 go_wp2_with (go_at_call 150;refine (itoa_format i h _).mono ?_;rintro e w1 ⟨rfl,rfl⟩)
 go_ret
 exact⟨rfl,rfl⟩
theorem lib_Itoa (i:Nat)(h:i<100) (w:World) :
  Calls Tryz.prog 52 #[.int .i64 i] w fun e w'=>e=.returned (.string ⟨(Lib.decDigits i).toArray⟩)∧w=w':=by
 go_enter Tryz.func52,Tryz.ntmps52
 go_wp2_with (go_at_call 106;refine (itoa_in i h _).mono ?_;rintro e w1 ⟨rfl,rfl⟩)
 go_ret
 exact⟨rfl,rfl⟩
end Go.Proofs.YtfcjhpodichpjaaGreatDoor
namespace Go.Proofs.YtfcjhpodichpjaaGreatDoor
open Go Go.RowKit
theorem zcf (s:ByteArray) (w:World):Calls Tryz.prog 23 #[.string s] w fun e w'=>(∃ t:ByteArray,e=.returned (.string t)∧Hid (t.data.toList=zaF s)∧t.size≤s.size+1)∧w=w':=by
 cases he:s.toList.isEmpty
 ·have H0:=za (zbW he)
  go_enter Tryz.func23,Tryz.ntmps23
  go_wp2
  go_ret
  exact⟨⟨_,rfl,za H0.out.symm,by omega⟩,rfl⟩
 ·have H0:=za (zbV he)
  go_enter Tryz.func23,Tryz.ntmps23
  go_wp2
  go_ret
  exact⟨⟨_,rfl,za H0.out.symm,Nat.le_add_left _ _⟩,rfl⟩
theorem made_s (n:Nat):(madeCells (Value.string ⟨#[]⟩).cells (n*1)).toList=zbj (List.replicate n ⟨#[]⟩):=by
 simp [Value.cells,toList_madeCells_one,zbj]
theorem fill_s {ds:List ByteArray} {m k:Nat} {v:ByteArray}(hk:ds.length=k)(hm:k<m):(zbj (ds++List.replicate (m - k) ⟨#[]⟩)).set k (.string v)=zbj ((ds++[v])++List.replicate (m - (k+1)) ⟨#[]⟩):=by
 have e:∀ (R:List ByteArray) (i:Nat),zbj (R.set i v)=(zbj R).set i (.string v):=fun R i=>by simp [zbj,List.map_set]
 rw [← e,List.set_append_right _ _ (by omega),hk,Nat.sub_self,show m - k=(m - (k+1))+1 by omega,List.replicate_succ,List.set_cons_zero,List.append_assoc]
 rfl
theorem digS_take {l:List Int} {k u:Nat}(h:l[k]?=some (u:Int)):digS (l.take (k+1))=digS (l.take k)++[⟨(Lib.decDigits u).toArray⟩]:=by
 unfold digS
 rw [List.take_add_one,h,List.map_append]
 rfl
theorem zF {lo hi:Nat} {A:Option Addr} {n c:Nat} {A':Option Addr} {n' c':Nat} {a:Aut} {w:World}(h:zz w lo hi A n A' n' a) :
  Calls Tryz.prog 22 #[.agg #[.int .i64 a.al,.slice A n c,.slice A' n' c']] w (zbZ (zV a) w):=by
 have HV:=za (fun W (hW:Ext w W)=>zM lo hi A n c A' n' c' a W ⟨h.1.ext hW,h.2.1,h.2.2.ext hW⟩)
 cases h1:zc a
 ·have H1:=za h1
  have HX:=za (show zV a=[] by unfold zV;rw [h1];rfl)
  clear h1 h
  go_enter Tryz.func22,Tryz.ntmps22
  go_wp2_with (go_at_call 24;refine (HV.out _ ((Ext.refl _).alloc _)).mono ?_;rw [H1.out];rintro e w1 ⟨rfl,hx⟩)
  go_ret
  exact⟨_,rfl,za HX.out.symm,((Ext.refl _).alloc _).trans hx⟩
 ·have HX:=za (show zV a=alX a.al.toNat++(zO a).flatMap (32 :: ·) by unfold zV;rw [h1];rfl)
  have Hsm:=za (ze h1)
  obtain⟨al,ha,ha2,hn1,hn2,hac,hrows⟩:=zbd h1
  have H1:=za h1
  have Hn:=za h.n1
  have Hn':=za h.n2
  have Ha:=za ha
  have HS:=za (fun W (hW:Ext w W)=>h.1.ext hW)
  have HB:=za (fun W (hW:Ext w W)=>h.2.2.ext hW)
  have e1:n=n':=by have:=h.n1;have:=h.n2;omega
  subst e1
  have hnn:n≤12:=by have:=h.n1;omega
  clear h1 ha hn1 hn2 hac hrows h
  go_enter Tryz.func22,Tryz.ntmps22
  go_wp2_with fail
  refine (HV.out _ ((Ext.refl _).alloc _)).mono ?_
  rw [H1.out]
  rintro e w1 ⟨rfl,hx⟩
  have b1:=zw hx
  rw [Ha.out] at b1
  have hw1:=((Ext.refl w).alloc _).trans hx
  have cb:=b1.cells
  have hr1:=Ext.refl w1
  clear hx
  go_wp2_with fail
  refine (zI ha2).mono ?_
  rintro e w2 ⟨t2,rfl,ht2,hx2⟩
  have hat:al=a.al.toNat:=by have:=Ha.out;omega
  rw [hat] at ht2
  have hts:t2.size≤6:=by
   rw [zaE ht2.out]
   exact alX_len _
  clear hat
  go_wp2_with fail
  go_loopw [3,4,5,6,7,8,9,19] (fun v _ _ _ _ _ _ i wr=>∃ (k:Nat) (t:ByteArray),k≤n∧i=.int .i64 k∧v=.string t∧t.size≤20+100*k∧Hid (t.data.toList=alX a.al.toNat++((zO a).take k).flatMap (32 :: ·))∧Ext w1 wr) (fun _ _ _ _ _ _ _ i _=>n - (intOf i).toNat)
  case atStart=>exact⟨0,t2,Nat.zero_le _,rfl,rfl,by omega,za (by rw [ht2.out];simp),hx2⟩
  case round =>
   clear hx2 ht2 hr1 hts
   obtain⟨k,t,hk,rfl,rfl,ht,htx,zcq⟩:=hrel
   have cb0:=cb wr zcq
   by_cases hlt:k<n
   ·obtain⟨ad,Ak,ck,l,rfl,_,_,hl,hc0,hrk⟩:=(HS.out wr (hw1.trans zcq)).row hlt
    obtain⟨ad',x,rfl,_,_,hbx,hb0⟩:=(HB.out wr (hw1.trans zcq)).bool hlt
    have hsm:=za (Hsm.out.2.2.2.2.2 l (List.mem_of_getElem? hl.out))
    have hl6:l.length≤6:=hsm.out.2
    have Hrk:=za (fun W (hW:Ext wr W)=>hrk.ext hW)
    have Hcb:=za (fun W (hW:Ext wr W)=>cb W (zcq.trans hW))
    have Hbx:=za (fun W (hW:Ext wr W)=>hW.cell_some hb0)
    have Htk:=za (zbS hl.out hbx.out)
    obtain⟨ll,hll⟩:∃ ll,Hid (l.length=ll):=⟨_,za rfl⟩
    rw [hll.out] at hl6 hc0
    clear hrk hb0
    go_upto_region 8 with (at_make;refine wpList_make wr wr rfl _ _ 61 rfl 9 _ 1 16 Tryz.underlying61 zaM _ _ ll rfl rfl (Ext.refl _) (by omega) (by unfold maxLen;omega) ?_;intro w3 hx3 zcu hx13 hsz3)
    rw [made_s] at zcu
    clear hx13
    obtain⟨g,hg⟩:∃ g,Hid (g=wr.heap.size):=⟨_,za rfl⟩
    rw [← hg.out] at zcu ⊢
    obtain⟨wK,hwK⟩:∃ wK,wK=wr:=⟨_,rfl⟩
    rw [← hwK] at Hrk Hcb Hbx hx3 zcq hg
    clear hwK cb0 hc0 hsz3
    go_wp2_with fail
    go_loopw [7,8,29] (fun _ _ jv wr=>∃ (j:Nat),j≤ll∧jv=.int .i64 j∧Hid (wr.ownsRow g 9 1 (.slice (some ⟨g,0,none⟩) ll ll) ll (zbj (digS (l.take j)++List.replicate (ll - j) ⟨#[]⟩)))∧Ext wK wr) (fun _ _ jv _=>ll - (intOf jv).toNat)
    case atStart=>exact⟨0,Nat.zero_le _,rfl,za (by simpa [digS] using zcu),hx3⟩
    case round =>
     clear zcu hx3
     obtain⟨j,hj,rfl,zco,hwx⟩:=hrel
     by_cases hjl:j<ll
     ·obtain⟨ad2,q,rfl,-,-,hql,hcq⟩:=(Hrk.out wr hwx).int (k:=j) (by rw [hll.out];exact hjl)
      obtain⟨hq0,hq1⟩:=hsm.out.1 q (List.mem_of_getElem? hql.out)
      obtain⟨u,rfl⟩:∃ u:Nat,q=u:=⟨q.toNat,by omega⟩
      have hu:u<100:=by omega
      have hdl:(digS (l.take j)).length=j:=by unfold digS;rw [List.length_map,List.length_take,hll.out];omega
      obtain⟨o0,g0⟩:=zcj zco.out j (by omega)
      have f0:=zco.out.frozenAt j
      have hst:=(zco.out.stored j (.string ⟨(Lib.decDigits u).toArray⟩)).1
      rw [fill_s hdl hjl,← digS_take hql.out] at hst
      have hHst:=za hst
      have hg0:=hg.out
      have hext2:=hwx.setCell (p:=⟨g,j,none⟩) (by rw [hg0];exact Nat.le_refl _) (.string ⟨(Lib.decDigits u).toArray⟩)
      clear hst hdl hq0 hq1 hg0
      go_wp2_with (go_at_call 52;refine (lib_Itoa u hu _).mono ?_;rintro e w' ⟨rfl,rfl⟩)
      go_roundw
      case rel=>exact⟨j+1,by omega,by go_num,hHst,hext2⟩
      case measure=>simp [intOf];omega
     ·obtain rfl:j=ll:=by omega
      have hown':=za (show wr.ownsRow g 9 1 (.slice (some ⟨g,0,none⟩) j j) j (zbj (digS l)) by
       have:=zco.out
       rwa [Nat.sub_self,List.replicate_zero,List.append_nil,← hll.out,List.take_length,hll.out] at this)
      have cb0:=Hcb.out wr hwx
      have hb0:=Hbx.out wr hwx
      have hgo:=za (fun (m:ByteArray) (hm:m.data.toList=[32,if x then 43 else 45]) (z:ByteArray) (hz:z.data.toList=zv (l.map Int.toNat))=>show (t++(m++z)).data.toList=alX a.al.toNat++((zO a).take (k+1)).flatMap (32 :: ·) from by
       rw [zaf rfl (zaf hm hz),htx.out,Htk.out,List.append_assoc]
       unfold zbR
       simp)
      have hjz:=za (fun (z:ByteArray) (hz:z.data.toList=zv (l.map Int.toNat))=>show z.size≤18 from by
       rw [zaE hz]
       have:=zbu hsm.out.1.nat
       have h2:=hsm.out.2
       rw [List.length_map] at this
       omega)
      clear zco Hrk Hbx
      go_upto_if 44 with fail
      go_cut [9] (fun s9 wx=>∃ m:ByteArray,s9=.string m∧m.size=2∧Hid (m.data.toList=[32,if x then 43 else 45])∧wx=wr)
      case first =>
       cases x
       ·go_wp2_with fail
        go_meet
        exact⟨{ data:=#[32,45] },rfl,rfl,za rfl,rfl⟩
       ·go_wp2_with fail
        go_meet
        exact⟨{ data:=#[32,43] },rfl,rfl,za rfl,rfl⟩
      case rest =>
       obtain⟨m,rfl,hm2,hmx,rfl⟩:=hcut
       go_wp2_with fail
       refine (lib_Join (by have:=hsm.out.2;omega) hsm.out.1 hown'.out).mono ?_
       rintro e w4 ⟨z,rfl,hz,hx4⟩
       have hz18:=hjz.out z hz.out
       have q0:¬ 9223372036854775807<m.size+z.size:=by omega
       have q1:¬ 9223372036854775807<t.size+(m.size+z.size):=by omega
       go_wp2_with fail
       go_roundw
       case rel=>exact⟨k+1,_,by omega,by go_num,rfl,by rw [ByteArray.size_append,ByteArray.size_append];omega,za (hgo.out m hmx.out z hz.out),(zcq.trans hwx).trans hx4⟩
       case measure=>simp [intOf];omega
   ·obtain rfl:k=n:=by omega
    have zcr:=za (show (zO a).take k=zO a from by
     refine List.take_of_length_le ?_
     have h1:=Hsm.out.2.2.1
     have h2:=Hn.out
     unfold zO
     rw [List.length_map,List.length_zip]
     omega)
    go_wp2_with fail
    go_ret
    exact⟨t,rfl,za (by rw [HX.out,htx.out,zcr.out]),hw1.trans zcq⟩
def zbK (B:Nat) (o:Loop) (W:World):Prop:=W.heap[B+1]?=some (.loop o)∧W.heap[B]?=some (.deferred (some []))
section
variable {W W':World} {B b:Nat} {o o':Loop}
theorem heap_set {k:Nat} {x:Obj} (v:Value)(hk:W.heap[k]?=some x)(hb:k≠b):(W.setCell ⟨b,0,none⟩ v).heap[k]?=some x:=
 ((Frm.setCell W b 0 v).block k (Array.getElem?_eq_some_iff.1 hk).1 hb).trans hk
theorem zbK.set (h:zbK B o W)(hb:b<B) (v:Value):zbK B o (W.setCell ⟨b,0,none⟩ v):=⟨heap_set v h.1 (by omega),heap_set v h.2 (by omega)⟩
theorem zbK.walk {row:Option Nat}(h:zbK B o W)(hg:W.grownBy W' row)(hr:∀ r,row=some r→∃ x:Obj,W.heap[r]?=some x∧x.isWalk=true):zbK B o W':=
 ⟨(grownBy_keeps hg hr h.1 rfl).trans h.1,(grownBy_keeps hg hr h.2 rfl).trans h.2⟩
theorem zbK.kept (h:zbK B o W)(hk:KeepsOthers W W'):zbK B o W':=⟨hk.same _ _ h.1 rfl,hk.same _ _ h.2 rfl⟩
theorem zbK.put (h:zbK B o W) (o':Loop):zbK B o' (W.putObj (B+1) (.loop o')):=
 ⟨World.putObj_heap_same (Array.getElem?_eq_some_iff.1 h.1).1,(World.putObj_heap_other (by omega)).trans h.2⟩
end
def zca {β:Type} (b:Nat) (J:β→World→Prop):Prop:=∀ s W v,J s W→J s (W.setCell ⟨b,0,none⟩ v)
def SeqCell {α:Type} (F:Fence) (n:Nat) (P:Program) (g:Nat) (lb:Array Value) (enc:α→Value) (Kp:World→World→Prop) (S Sp:List α→Prop) (b:Nat) (w:World):Prop:=
 ∀ (l:Nat) (J Jx:List α→World→Prop) (W:World),Below w.heap.size w W→AbidesFrom W.heap.size J→AbidesFrom W.heap.size Jx→zca b J→zca b Jx →
  (∀ pre x W1,J pre W1→Sp (pre++[x])→YieldAt F (n - 1) P l #[enc x] W1 fun e W'=>(e=.returned (.bool true)∧J (pre++[x]) W'∧Kp W1 W')∨(e=.returned (.bool false)∧Jx (pre++[x]) W')) →
  J [] W →
  CallsIn F n P g (#[.func (.yield l) #[] #[]]++lb) W fun e W'=>(∃ v,e=.returned v)∧((∃ xs,S xs∧J xs W')∨(∃ pre,Sp pre∧Jx pre W'))
def roundP {α:Type} (Kp:World→World→Prop) (I Ix:List α→World→Prop) (xs:List α) (W:World):Exit→Act→World→Prop
 |.normal,_,W'=>KeepsOthers W W'∧Kp W W'∧I xs W'
 |.ret,_,W'=>KeepsOthers W W'∧Ix xs W'
 |_,_,_=>False
section
variable {F:Fence} {n:Nat} {P:Program}
theorem zaG {α:Type} {g:Operand} {p:Tmp} {assign body:Code} {Q:Exit→Act→World→Prop} {a:Act} {w:World}
  (hro:F.round=none) (h1:1≤n) {gf:Nat} {lb:Array Value} (hg:a.eval g=.func (.func gf) #[] lb) (hFg:F.fn gf) (eg:∀ args w,(callFunc gf args).run P w=.ok (.enter gf args) w)
  {enc:α→Value} {Kp:World→World→Prop} {S Sp:List α→Prop} {b:Nat} (hseq:SeqCell F (n - 1) P gf lb enc Kp S Sp b w) (hb:b<w.heap.size)
  (hKt:∀ {A B C:World},Kp A B→Kp B C→Kp A C) (hKb:∀ (W:World) (o o':Loop),zbK w.heap.size o W→Kp W (W.putObj (w.heap.size+1) (.loop o')))
  (I Ix:List α→World→Prop) (hI:OwnFrom w.heap.size I) (hIx:OwnFrom w.heap.size Ix) (hIs:zca b I) (hIxs:zca b Ix) (h0:I [] w) (a₁:α→Act)
  (hassign:∀ (l:Nat) (x:α) (W:World) (K:Act→World→Prop),K (a₁ x) W →
   assign.wpIn (F.inRound l) (n - 1 - 1) P (Exit.then K (fun _ _ _=>False)) { tmps:=(#[p].zip #[enc x]).foldl (fun t (p,v)=>t.setIfInBounds p v) a.tmps,defers:=[] } W)
  (hbody:∀ (l:Nat) (pre:List α) (x:α) (W:World),Sp (pre++[x])→I pre W→body.wpIn (F.inRound l) (n - 1 - 1) P (roundP Kp I Ix (pre++[x]) W) (a₁ x) W)
  (hdone:∀ (xs:List α) (W:World),S xs→I xs W→W.heap[w.heap.size]?=some (.deferred (some []))→Q .normal { a with defers:={ target:=.collected w.heap.size,args:=#[] } :: a.defers } W)
  (hstop:∀ (pre:List α) (W:World),Sp pre→Ix pre W→W.heap[w.heap.size]?=some (.deferred (some []))→Code.ret.wpIn F n P Q { a with defers:={ target:=.collected w.heap.size,args:=#[] } :: a.defers } W) :
  (Code.rangeFunc g #[p] assign body).wpIn F n P Q a w:=by
 refine wpIn_rangeFunc fun fn hfn=>?_
 rw [hro]
 generalize hB:w.heap.size=B at *
 obtain⟨rec,hrec⟩:∃ rec:LoopState→Option Code→Loop,rec=fun st pe=>{ state:=st,pending:=pe,fn,tmps:=a.tmps,params:=#[p],assign,body,defers:=B }:=⟨_,rfl⟩
 have hput:∀ {J:List α→World→Prop} {s:List α} {W:World} {o:Loop} (o':Loop),OwnFrom B J→J s W→zbK B o W→J s (W.putObj (B+1) (.loop o')):=fun o' hJ hs hl=>hJ.putObj _ hs (by omega) hl.1 rfl
 obtain⟨W1,hW1⟩:∃ W1,(w.alloc (.deferred (some []))).alloc (.loop (rec .ready none))=W1:=⟨_,rfl⟩
 have s1:W1.heap.size=B+2:=by rw [← hW1];simp [hB]
 have hl1:zbK B (rec .ready none) W1:=by
  have e:=World.alloc_heap_new (w.alloc (.deferred (some []))) (.loop (rec .ready none))
  rw [World.size_alloc,hB] at e
  rw [← hW1]
  exact⟨e,(Below.heap_alloc _ _ _ (by simp [hB])).trans (by rw [← hB];exact World.alloc_heap_new w _)⟩
 have hi1:I [] W1:=by rw [← hW1];exact hI.alloc _ (hI.alloc _ h0)
 have hb1:Below w.heap.size w W1:=by rw [← hW1];exact ((Below.refl _ w).alloc (Nat.le_refl _) _).alloc (by simp) _
 have hrow:∀ {A:World} {row:Option Nat},(∀ r,row=some r→W1.heap.size≤r∧∃ x:Obj,A.heap[r]?=some x∧x.isWalk=true)→∀ r,row=some r→B≤r∧∃ x:Obj,A.heap[r]?=some x∧x.isCells=false:=fun hr r e=>by
  obtain⟨h,x,hx,hw⟩:=hr r e
  exact⟨by omega,x,hx,Obj.not_cells_of_walk hw⟩
 have hpair:∀ {J:List α→World→Prop} {o:Loop},OwnFrom B J→AbidesFrom W1.heap.size (fun s W=>J s W∧zbK B o W):=fun hJ s A C row hs hg hr=>⟨hJ s A C row hs.1 hg (hrow hr),hs.2.walk hg (fun r e=>(hr r e).2)⟩
 have hset:∀ {J:List α→World→Prop} {o:Loop},zca b J→zca b (fun s W=>J s W∧zbK B o W):=fun hJ s A v hs=>⟨hJ s A v hs.1,hs.2.set hb v⟩
 refine⟨B+1,[{ target:=.collected B,args:=#[] }],W1,{ target:=.fn (.func gf) lb,args:=#[.func (.yield (B+1)) #[] #[]] },W1,gf,#[.func (.yield (B+1)) #[] #[]]++lb,W1,
  by rw [← hW1,hrec,← hB];exact run_enterLoop_outer _ _ _ _ _,by simp only [resolve,hg];simp [go_sem],fun f' hf'=>by simp [Target.leads] at hf';subst hf';exact hFg,by simp [invoke,go_sem,eg],fun _=>h1,?_⟩
 refine (hseq (B+1) (fun s W=>I s W∧zbK B (rec .ready none) W) (fun s W=>Ix s W∧zbK B (rec .done (some .ret)) W) W1 hb1 (hpair hI) (hpair hIx) (hset hIs) (hset hIxs) ?_ ⟨hi1,hl1⟩).mono ?_
 ·rintro pre x W ⟨hi,hl⟩ hsp
  have hy:=run_yield (P:=P) (args:=#[enc x]) hl.1 (by rw [hrec];rfl)
  rw [hrec] at hy
  have hl2:=hl.put { rec .ready none with state:=.busy }
  refine⟨fn,_,assign,body,hy,roundIn_of_wpIn hfn (hassign _ x W _ ⟨_,run_beginRound hl.1 (by rw [hrec]),wpIn_mono (hbody _ pre x _ hsp (hput _ hI hi hl)) ?_⟩)⟩
  have hend:∀ (jump:Option Code) (W3:World),zbK B { rec .ready none with state:=.busy } W3→(Instr.endRound (B+1) jump).run P W3=.ok (.bool jump.isNone) (W3.putObj (B+1) (.loop (rec (if jump.isNone then .ready else .done) jump))):=fun jump W3 h3=>by
   have:=run_endRound (P:=P) jump h3.1
   rw [hrec] at this ⊢
   exact this
  rintro e a3 W3 hp
  cases e with
  |normal =>
   have h3:=hl2.kept hp.1
   exact⟨_,_,hend none W3 h3,.inl ⟨rfl,⟨hput _ hI hp.2.2 h3,h3.put _⟩,hKt (hKt (hKb _ _ _ hl) hp.2.1) (hKb _ _ _ h3)⟩⟩
  |ret =>
   have h3:=hl2.kept hp.1
   exact⟨_,_,hend (some .ret) W3 h3,.inr ⟨rfl,hput _ hIx hp.2 h3,h3.put _⟩⟩
  |exit id=>exact hp.elim
  |goto t=>exact hp.elim
  |panic ch=>exact hp.elim
  |outgrown=>exact hp.elim
 ·rintro e W2 ⟨⟨v,rfl⟩,(⟨xs,hS,hi,hl⟩|⟨pre,hsp,hi,hl⟩)⟩
  ·exact⟨none,_,by have:=run_endLoop (P:=P) hl.1 (by rw [hrec];simp);rw [hrec] at this ⊢;exact this,hdone xs _ hS (hput _ hI hi hl) (hl.put (rec .exhausted none)).2⟩
  ·exact⟨some .ret,_,by have:=run_endLoop (P:=P) hl.1 (by rw [hrec];simp);rw [hrec] at this ⊢;exact this,hstop pre _ hsp (hput _ hIx hi hl) (hl.put (rec .exhausted (some .ret))).2⟩
end
end Go.Proofs.YtfcjhpodichpjaaGreatDoor
namespace Go.Proofs.YtfcjhpodichpjaaGreatDoor
open Go Go.RowKit Go.Shelf
attribute [local go_sem] Oper.semAt_some
def PcS (s:ByteArray) (xs:List ByteArray):Prop:=xs.map (fun x=>x.data.toList)=zC 44 s.data.toList
def PcP (s:ByteArray) (xs:List ByteArray):Prop:=xs.map (fun x=>x.data.toList) <+: zC 44 s.data.toList
theorem pc_hit {s y z r:ByteArray} {pre:List ByteArray} {u v:List UInt8}(h:pre.map (fun x=>x.data.toList)++zC 44 y.data.toList=zC 44 s.data.toList)(hy:y.data.toList=u++44 :: v)(hu:(44:UInt8)∉u)(hz:z.data.toList=u)(hr:r.data.toList=v) :
  PcP s (pre++[z])∧(pre++[z]).map (fun x=>x.data.toList)++zC 44 r.data.toList=zC 44 s.data.toList:=by
 rw [hy,zaK hu] at h
 have e:(pre++[z]).map (fun x=>x.data.toList)++zC 44 r.data.toList=zC 44 s.data.toList:=by
  rw [← h,hr]
  simp [hz]
 exact⟨⟨_,e⟩,e⟩
theorem pc_last {s y:ByteArray} {pre:List ByteArray}(h:pre.map (fun x=>x.data.toList)++zC 44 y.data.toList=zC 44 s.data.toList)(hy:(44:UInt8)∉y.data.toList):PcS s (pre++[y]):=by
 rw [zah hy] at h
 unfold PcS
 rw [← h]
 simp
theorem PcS.p {s:ByteArray} {xs:List ByteArray}(h:PcS s xs):PcP s xs:=by
 unfold PcS at h
 unfold PcP
 rw [h]
 exact List.prefix_refl _
theorem Below.blk {n k:Nat} {w w':World} {t:TypeId} {cs:Array Value}(h:Below n w w')(hk:k<n)(hb:Blk w k t cs):Blk w' k t cs:=(h.block k hk).trans hb
def KpS (b:Nat) (W W':World):Prop:=∀ k,b≤k→k<b+3→W'.heap[k]?=W.heap[k]?
theorem KpS.blk {b k:Nat} {w w':World} {t:TypeId} {cs:Array Value}(h:KpS b w w')(h1:b≤k)(h2:k<b+3)(hb:Blk w k t cs):Blk w' k t cs:=(h k h1 h2).trans hb
theorem KpS.trans {b:Nat} {u v w:World}(h:KpS b u v) (g:KpS b v w):KpS b u w:=fun k h1 h2=>(g k h1 h2).trans (h k h1 h2)
theorem KpS.put {b k:Nat} {W:World} {o:Obj}(hk:b+3≤k):KpS b W (W.putObj k o):=fun j h1 h2=>World.putObj_heap_other (by omega)
def leftS (b:Nat) (W:World):Nat:=match W.cell? ⟨b,0,none⟩ with
 |some (.string y)=>y.size
 |_=>0
theorem seq_in {n b l:Nat} {s:ByteArray}(hn:1≤n)(hs:s.size≤2000000) (J Jx:List ByteArray→World→Prop)(hJs:zca b J)
  (hY:∀ pre x W1,J pre W1→PcP s (pre++[x])→YieldAt Fence.wide (n - 1) Tryz.prog l #[.string x] W1 fun e W'=>(e=.returned (.bool true)∧J (pre++[x]) W'∧KpS b W1 W')∨(e=.returned (.bool false)∧Jx (pre++[x]) W'))
  (W:World) (b0:Blk W b 9 #[.string s]) (b1:Blk W (b+1) 9 #[.string ⟨#[44]⟩]) (b2:Blk W (b+2) 3 #[.int .i64 0]) (h0:J [] W) :
  CallsIn Fence.wide n Tryz.prog 185 #[.func (.yield l) #[] #[],.pointer (some ⟨b+1,0,none⟩),.pointer (some ⟨b,0,none⟩),.pointer (some ⟨b+2,0,none⟩)] W fun e W'=>(∃ v,e=.returned v)∧((∃ xs,PcS s xs∧J xs W')∨(∃ pre,PcP s pre∧Jx pre W')):=by
 have Hs:=za hs
 clear hs
 refine callsIn_of_wp Tryz.func185 rfl trivial ?_ rfl
 simp only [Tryz.ntmps185,List.size_toArray,List.length_cons,List.length_nil,Nat.reduceAdd,Nat.reduceSub,Array.replicate_succ,Array.replicate_zero,List.push_toArray,List.append_toArray,List.nil_append,List.cons_append]
 have c1:=b1.cell
 gi_wp2
 clear c1
 gi_loopw [7,8] (fun _ _ wr=>∃ (pre:List ByteArray) (y:ByteArray),Hid (y.size≤2000000)∧Hid (Blk wr b 9 #[.string y])∧Hid (Blk wr (b+1) 9 #[.string ⟨#[44]⟩])∧Hid (Blk wr (b+2) 3 #[.int .i64 0])∧Hid (pre.map (fun x=>x.data.toList)++zC 44 y.data.toList=zC 44 s.data.toList)∧J pre wr) (fun _ _ wr=>leftS b wr)
 case atStart=>exact⟨[],s,Hs,za b0,za b1,za b2,za rfl,h0⟩
 case round =>
  obtain⟨pre,y,hy,e0,e1,e2,hcut,hJ⟩:=hrel
  have c0:=e0.out.cell
  have f0:=e0.out.frozen
  have c1:=e1.out.cell
  have c2:=e2.out.cell
  have hl0:=za (show leftS b wr=y.size by unfold leftS;rw [c0];rfl)
  have hys:y.size≤2000000:=hy.out
  rcases zbs 44 y.data.toList with ⟨h1,h2⟩|⟨u,v,h1,h2,h3⟩
  ·have hlast:=pc_last hcut.out h1
   have HI:=za (zbP y wr)
   rw [h2] at HI
   obtain⟨fn,tmps,assign,body,hyy,hR⟩:=hY pre y wr hJ hlast.p
   have Hl:=za hlast
   clear h1 h2 hlast
   gi_wp2_with (refine⟨trivial,?_⟩;gi_at_call 155;refine (callsIn_wide.2 HI.out).mono ?_;rintro e w' ⟨rfl,rfl⟩)
   refine hR.mono ?_
   rintro e W3 (⟨rfl,hJ3,hk3⟩|⟨rfl,hJx3⟩)
   ·gi_wp2
    go_end0
    exact⟨⟨_,rfl⟩,.inl ⟨_,Hl.out,hJ3⟩⟩
   ·gi_wp2
    go_end0
    exact⟨⟨_,rfl⟩,.inr ⟨_,Hl.out.p,hJx3⟩⟩
  ·have HI:=za (zbP y wr)
   rw [h3] at HI
   have hul:u.length<y.size:=by
    have:=congrArg List.length h1
    have e:y.data.toList.length=y.size:=rfl
    simp at this
    omega
   have hz:(y.extract 0 u.length).data.toList=u:=by rw [zE,h1];simp
   have hr:(y.extract (u.length+1) y.size).data.toList=v:=by
    have e:y.data.toList.length=y.size:=rfl
    rw [zE,h1,List.take_of_length_le]
    ·rw [show u++44 :: v=(u++[44])++v by simp,List.drop_left' (by simp)]
    ·rw [List.length_drop,← h1,e];omega
   obtain⟨hp,hc2⟩:=pc_hit hcut.out h1 h2 hz hr
   have hrs:=za (show (y.extract (u.length+1) y.size).size<y.size∧(y.extract (u.length+1) y.size).size≤2000000 by rw [ByteArray.size_extract];omega)
   have Hp:=za hp
   have Hc2:=za hc2
   generalize u.length=i at *
   obtain⟨fn,tmps,assign,body,hyy,hR⟩:=hY pre (y.extract 0 i) wr hJ hp
   have hi1:(i:Int)≤(y.size:Int):=by omega
   have hi2:(i:Int)+1≤(y.size:Int):=by omega
   have hi0:¬ ((i:Int)<0):=by omega
   clear h1 h2 h3 hz hr hp hc2 hcut
   gi_wp2_with (refine⟨trivial,?_⟩;gi_at_call 155;refine (callsIn_wide.2 HI.out).mono ?_;rintro e w' ⟨rfl,rfl⟩)
   refine hR.mono ?_
   rintro e W3 (⟨rfl,hJ3,hk3⟩|⟨rfl,hJx3⟩)
   ·have d0:=hk3.blk (by omega) (by omega) e0.out
    have d1:=hk3.blk (by omega) (by omega) e1.out
    have d2:=hk3.blk (by omega) (by omega) e2.out
    clear c0 f0 c1 c2
    have c0:=d0.cell
    have f0:=d0.frozen
    have c1:=d1.cell
    have hb0:=za (show Blk (W3.setCell ⟨b,0,none⟩ (.string (y.extract (i+1) y.size))) b 9 #[.string (y.extract (i+1) y.size)] by simpa using d0.set_ 0 (.string (y.extract (i+1) y.size)))
    have hb1:=za (d1.far (p:=⟨b,0,none⟩) (by simp) (.string (y.extract (i+1) y.size)))
    have hb2:=za (d2.far (p:=⟨b,0,none⟩) (by simp) (.string (y.extract (i+1) y.size)))
    have hJ4:=hJs _ _ (.string (y.extract (i+1) y.size)) hJ3
    gi_wp2
    go_roundw
    case rel=>exact⟨_,_,za hrs.out.2,hb0,hb1,hb2,Hc2,hJ4⟩
    case measure =>
     rw [hl0.out]
     unfold leftS
     rw [hb0.out.cell]
     exact hrs.out.1
   ·gi_wp2
    refine bodyPost_ret (results_none rfl _ _ _) rfl ?_
    exact⟨⟨_,rfl⟩,.inr ⟨_,Hp.out,hJx3⟩⟩
theorem seq_cell {n b:Nat} {s:ByteArray} {w:World}(hn:1≤n)(hs:s.size≤2000000) (b0:Blk w b 9 #[.string s]) (b1:Blk w (b+1) 9 #[.string ⟨#[44]⟩]) (b2:Blk w (b+2) 3 #[.int .i64 0]) :
  SeqCell Fence.wide n Tryz.prog 185 #[.pointer (some ⟨b+1,0,none⟩),.pointer (some ⟨b,0,none⟩),.pointer (some ⟨b+2,0,none⟩)] (fun x:ByteArray=>Value.string x) (KpS b) (PcS s) (PcP s) b w:=fun _ J Jx W hW _ _ hJs _ hY h0 =>
 seq_in hn hs J Jx hJs hY W (Below.blk hW b0.lt b0) (Below.blk hW b1.lt b1) (Below.blk hW b2.lt b2) h0
theorem lib_SplitSeq (s:ByteArray) (w:World):Calls Tryz.prog 115 #[.string s,.string ⟨#[44]⟩] w fun e w'=>e=.returned (.func (.func 185) #[] #[.pointer (some ⟨w.heap.size+1,0,none⟩),.pointer (some ⟨w.heap.size,0,none⟩),.pointer (some ⟨w.heap.size+2,0,none⟩)])∧w'=((w.alloc (.cells #[.string s] 9)).alloc (.cells #[.string ⟨#[44]⟩] 9)).alloc (.cells #[.int .i64 0] 3):=by
 have h1:∀ W,Calls Tryz.prog 156 #[.string s,.string ⟨#[44]⟩,.int .i64 0] W fun e w'=>e=.returned (.func (.func 185) #[] #[.pointer (some ⟨W.heap.size+1,0,none⟩),.pointer (some ⟨W.heap.size,0,none⟩),.pointer (some ⟨W.heap.size+2,0,none⟩)])∧w'=((W.alloc (.cells #[.string s] 9)).alloc (.cells #[.string ⟨#[44]⟩] 9)).alloc (.cells #[.int .i64 0] 3):=fun W=>by
  go_enter Tryz.func156,Tryz.ntmps156
  go_wp2
  go_ret
  exact⟨rfl,rfl⟩
 go_enter Tryz.func115,Tryz.ntmps115
 go_wp2_with (go_at_call 156;refine (h1 _).mono ?_;rintro e w' ⟨rfl,rfl⟩)
 go_ret
 exact⟨rfl,rfl⟩
attribute [local go_sem] Oper.semAt_some
def AtR (pre:List ByteArray) (ls:List Int):Prop:=ls.length=pre.length∧∀ (k:Nat) (y:ByteArray),pre[k]?=some y→∃ v,ls[k]?=some v∧Lib.atoiAll y.data.toList=.ok v
theorem AtR.nil:AtR [] []:=⟨rfl,fun k y h=>by simp at h⟩
theorem AtR.snoc {pre:List ByteArray} {ls:List Int} {x:ByteArray} {v:Int}(h:AtR pre ls)(hx:Lib.atoiAll x.data.toList=.ok v):AtR (pre++[x]) (ls++[v]):=by
 refine⟨by simp [h.1],fun k y hy=>?_⟩
 rcases Nat.lt_trichotomy k pre.length with h1|h1|h1
 ·rw [List.getElem?_append_left h1] at hy
  rw [List.getElem?_append_left (by rw [h.1];exact h1)]
  exact h.2 k y hy
 ·subst h1
  rw [List.getElem?_append_right (Nat.le_refl _),Nat.sub_self] at hy
  obtain rfl:=Option.some.inj hy
  exact⟨v,by rw [List.getElem?_append_right (by rw [h.1];exact Nat.le_refl _),h.1,Nat.sub_self];rfl,hx⟩
 ·rw [List.getElem?_eq_none (by simp;omega)] at hy
  cases hy
theorem at_done {s:ByteArray} {xs:List ByteArray} {ls:List Int}(h:AtR xs ls)(hS:PcS s xs)(hne:s.data.toList≠[]):JoinOf s true ls:=by
 intro r hr hj
 refine⟨rfl,?_⟩
 refine List.ext_getElem? fun k=>?_
 have hl:=join_size hS hne hr hj
 rcases Nat.lt_or_ge k xs.length with hk|hk
 ·obtain⟨x,hx,hx1,hx2⟩:=zbO hS hne hr hj (List.getElem?_eq_getElem hk)
  obtain⟨v,hv,ha⟩:=h.2 k _ (List.getElem?_eq_getElem hk)
  rw [hx2,zbl hx1] at ha
  rw [hv,List.getElem?_map,hx]
  injection ha with ha
  rw [← ha]
  rfl
 ·rw [List.getElem?_eq_none (by rw [h.1];exact hk),List.getElem?_eq_none (by rw [List.length_map,hl];exact hk)]
theorem at_stop {s:ByteArray} {pre:List ByteArray} {x:ByteArray}(hx:x∈pre)(hn:∀ v,Lib.atoiAll x.data.toList≠.ok v)(hp:PcP s pre)(hne:s.data.toList≠[]):JoinOf s false []:=by
 intro r hr hj
 exfalso
 obtain⟨y,r',rfl⟩:∃ y r',r=y :: r':=by
  cases r with
  |nil=>exact absurd hj.symm hne
  |cons y r'=>exact⟨y,r',rfl⟩
 have hm:x.data.toList∈zC 44 s.data.toList:=hp.subset (List.mem_map_of_mem hx)
 rw [← hj,join_cut (hr y (by simp)) (fun z hz=>hr z (by simp [hz]))] at hm
 obtain⟨z,hz,he⟩:=List.mem_map.1 hm
 exact hn _ (by rw [← he];exact zbl (hr z hz))
theorem pc_size {s:ByteArray} {pre:List ByteArray}(h:PcP s pre):∀ x∈pre,x.size≤s.size:=by
 intro x hx
 have key:∀ (u:List UInt8),∀ x∈zC 44 u,x.length≤u.length:=by
  intro u
  induction u with
  |nil=>intro x hx;simp [zC] at hx;simp [hx]
  |cons b t ih =>
   intro x hx
   rw [zC] at hx
   split at hx
   ·rcases List.mem_cons.1 hx with rfl|hx
    ·simp
    ·have:=ih x hx;simp;omega
   ·split at hx
    ·rw [List.mem_singleton.1 hx];simp
    ·rename_i h2 r2 hcut
     rw [hcut] at ih
     rcases List.mem_cons.1 hx with rfl|hx
     ·have:=ih h2 (by simp);simp;omega
     ·have:=ih x (by simp [hx]);simp;omega
 have:=key s.data.toList x.data.toList (h.subset (List.mem_map_of_mem hx))
 simpa using this
theorem cut_length (u:List UInt8):(zC 44 u).length≤u.length+1:=by
 induction u with
 |nil=>simp [zC]
 |cons b t ih =>
  rw [zC]
  split
  ·simp;omega
  ·split
   ·simp
   ·rename_i h2 r2 hcut
    rw [hcut] at ih
    simp at ih ⊢
    omega
theorem pc_length {s:ByteArray} {pre:List ByteArray}(h:PcP s pre):pre.length≤s.size+1:=by
 have h1:=h.length_le
 rw [List.length_map] at h1
 have h2:=cut_length s.data.toList
 have:s.data.toList.length=s.size:=rfl
 omega
theorem own_kept {W W':World} {row:Option Nat} {base:Nat} {e:TypeId} {size:Nat} {v:Value} {n:Nat} {xs:List Value}(h:W.ownsRow base e size v n xs)(hg:W.grownBy W' row)(hr:∀ r,row=some r→∃ o:Obj,W.heap[r]?=some o∧o.isCells=false):W'.ownsRow base e size v n xs:=
 zi h (Frm.of_grown hg) (fun b hb e=>by
  obtain⟨o,ho,hc⟩:=hr b e
  rcases h.2 with ⟨rfl,_⟩|⟨g,cap,cur,rfl,hb2,hh,_⟩
  ·simp [Value.ownBlock] at hb
  ·have:g=b:=by simpa [Value.ownBlock] using hb
   subst this
   rw [hh] at ho
   obtain rfl:=Option.some.inj ho
   simp [Obj.isCells] at hc)
theorem zaI {W W':World} {row:Option Nat} {k:Nat} {t:TypeId} {cs:Array Value}(h:Blk W k t cs)(hg:W.grownBy W' row)(hr:∀ r,row=some r→∃ o:Obj,W.heap[r]?=some o∧o.isCells=false):Blk W' k t cs:=
 (hg.block k h.lt (fun e=>by
  obtain⟨o,ho,hc⟩:=hr k e.symm
  have h':W.heap[k]?=some (.cells cs t (0,0)):=h
  rw [h'] at ho
  obtain rfl:=Option.some.inj ho
  simp [Obj.isCells] at hc)).trans h
structure RdI (w:World) (Z B:Nat) (pre:List ByteArray) (W:World) (v:Value) (ls:List Int):Prop where
 wb:B≤W.heap.size
 r1:Blk W Z 74 #[.slice none 0 0]
 r2:Blk W (Z+1) 4 #[.bool false]
 bo:Blk W (Z+2) 74 #[v]
 own:W.ownsRow B 3 1 v ls.length (ints ls)
 num:AtR pre ls
 ext:Ext w W
def RdJ (w:World) (Z B:Nat) (pre:List ByteArray) (W:World):Prop:=∃ v ls,Hid (RdI w Z B pre W v ls)
def RdX (w:World) (Z:Nat) (pre:List ByteArray) (W:World):Prop:=Hid (Blk W Z 74 #[.slice none 0 0])∧Hid (Blk W (Z+1) 4 #[.bool false])∧Hid (∃ x∈pre,∀ v,Lib.atoiAll x.data.toList≠.ok v)∧Ext w W
theorem RdJ.from {w:World} {Z B:Nat}(hZ:w.heap.size≤B):OwnFrom B (RdJ w Z B):=fun s W W' row hs hg hr=>by
 obtain⟨v,ls,h⟩:=hs
 have hr':=fun r e=>(hr r e).2
 exact⟨v,ls,za ⟨Nat.le_trans h.out.wb hg.size,zaI h.out.r1 hg hr',zaI h.out.r2 hg hr',zaI h.out.bo hg hr',own_kept h.out.own hg hr',h.out.num,h.out.ext.grown hg (fun k hk=>by have:=(hr k hk).1;omega)⟩⟩
theorem RdX.from {w:World} {Z B:Nat}(hZ:w.heap.size≤B):OwnFrom B (RdX w Z):=fun s W W' row hs hg hr=>by
 obtain⟨h1,h2,h3,h4⟩:=hs
 have hr':=fun r e=>(hr r e).2
 exact⟨za (zaI h1.out hg hr'),za (zaI h2.out hg hr'),h3,h4.grown hg (fun k hk=>by have:=(hr k hk).1;omega)⟩
theorem RdJ.set {w:World} {Z B:Nat}(hw:w.heap.size≤Z)(hB:Z+3<B):zca (Z+3) (RdJ w Z B):=fun s W u hs=>by
 obtain⟨v,ls,h⟩:=hs
 refine⟨v,ls,za ⟨by simpa [World.setCell] using h.out.wb,h.out.r1.far (p:=⟨Z+3,0,none⟩) (by simp) u,h.out.r2.far (p:=⟨Z+3,0,none⟩) (by simp) u,h.out.bo.far (p:=⟨Z+3,0,none⟩) (by simp) u,zi h.out.own (Frm.setCell W (Z+3) 0 u) (fun b hb e=>?_),h.out.num,h.out.ext.setCell (p:=⟨Z+3,0,none⟩) (by show _≤Z+3;omega) u⟩⟩
 have:=(h.out.own.lt b hb).1
 have e':b=Z+3:=e
 omega
theorem RdX.set {w:World} {Z:Nat}(hw:w.heap.size≤Z):zca (Z+3) (RdX w Z):=fun s W u hs=>by
 obtain⟨h1,h2,h3,h4⟩:=hs
 exact⟨za (h1.out.far (p:=⟨Z+3,0,none⟩) (by simp) u),za (h2.out.far (p:=⟨Z+3,0,none⟩) (by simp) u),h3,h4.setCell (p:=⟨Z+3,0,none⟩) (by show _≤Z+3;omega) u⟩
theorem ext_blkR {w w':World} {cs ds es fs:Array Value} {t u v x:TypeId}(h:Ext ((((w.alloc (.cells cs t)).alloc (.cells ds u)).alloc (.cells es v)).alloc (.cells fs x)) w'):Blk w' w.heap.size t cs∧Blk w' (w.heap.size+1) u ds∧Blk w' (w.heap.size+1+1) v es∧Blk w' (w.heap.size+1+1+1) x fs:=by
 have h2:=ext_blk3 (((Ext.refl _).alloc _).trans h)
 refine⟨h2.1,h2.2.1,h2.2.2,?_⟩
 have:=zw h
 simpa using this
theorem own_isCells {W:World} {base:Nat} {e:TypeId} {size:Nat} {v:Value} {n:Nat} {xs:List Value}(h:W.ownsRow base e size v n xs):∀ (j:Nat) (o:Obj),v.ownBlock=some j→W.heap[j]?=some o→o.isCells=true:=fun j o hj ho=>by
 rcases h.2 with ⟨rfl,_⟩|⟨g,cap,cur,rfl,hb2,hh,_⟩
 ·simp [Value.ownBlock] at hj
 ·have:g=j:=by simpa [Value.ownBlock] using hj
  subst this
  rw [hh] at ho
  obtain rfl:=Option.some.inj ho
  rfl
theorem ext_put {w W:World} {k:Nat} {o:Obj}(h:Ext w W)(hk:w.heap.size≤k):Ext w (W.putObj k o):=⟨h.os,h.tape,h.output,by simpa using h.size,fun j hj hn=>(World.putObj_heap_other (by omega)).trans (h.block j hj hn)⟩
theorem zcb {W:World} {k j:Nat} {o:Obj} {t:TypeId} {cs:Array Value}(h:Blk W j t cs)(hk:j≠k):Blk (W.putObj k o) j t cs:=(World.putObj_heap_other hk).trans h
theorem kps_ext {b:Nat} {W W':World}(h:Ext W W')(hb:b+3≤W.heap.size):KpS b W W':=fun k _ h2=>h.block k (by omega) id
theorem kps_frm {b:Nat} {W W':World} {S:Nat→Prop}(h:Frm S W W')(hb:b+3≤W.heap.size)(hS:∀ k,S k→k<b∨b+3≤k):KpS b W W':=fun k h1 h2=>h.block k (by omega) (fun e=>by have:=hS k e;omega)
theorem zaV {W W':World}(h:Ext W W'):KeepsOthers W W':=⟨h.size,fun k _ hk _=>(h.block k (Array.getElem?_eq_some_iff.1 hk).1 id).trans hk⟩
theorem zaX {s:ByteArray} {w:World}(hs:s.size≤2000000)(hE:Sent w) :
  Calls Tryz.prog 66 #[.string s] w (RetIntsX s w):=by
 have HE:=za (fun W (hW:Ext w W)=>hE.ext hW)
 clear hE
 cases he:s.toList.isEmpty
 ·have Hne:=za (zak he)
  have Hs:=za hs
  have hs2:((w.alloc (.cells #[.slice none 0 0] 74)).alloc (.cells #[.bool false] 4)).heap.size=w.heap.size+2:=by simp
  refine (callsIn_wide (n:=20)).1 ?_
  refine callsIn_of_wp_marks Tryz.func66 rfl trivial ?_ rfl
  simp only [Tryz.ntmps66,List.size_toArray,List.length_cons,List.length_nil,Nat.reduceAdd,Nat.reduceSub,Array.replicate_succ,Array.replicate_zero,List.push_toArray,List.append_toArray,List.nil_append,List.cons_append]
  gi_wp2_with (refine⟨trivial,?_⟩;gi_at_call 115;refine (callsIn_wide.2 (lib_SplitSeq _ _)).mono ?_;rintro e w' ⟨rfl,rfl⟩)
  obtain⟨b1,b2⟩:=zZ (w:=w) ((((((Ext.refl ((w.alloc (.cells #[.slice none 0 0] 74)).alloc (.cells #[.bool false] 4))).alloc _).alloc _).alloc _).alloc _):Ext ((w.alloc (.cells #[.slice none 0 0] 74)).alloc (.cells #[.bool false] 4)) ((((((w.alloc (.cells #[.slice none 0 0] 74)).alloc (.cells #[.bool false] 4)).alloc (.cells #[.slice none 0 0] 74)).alloc (.cells #[.string s] 9)).alloc (.cells #[.string ⟨#[44]⟩] 9)).alloc (.cells #[.int .i64 0] 3)))
  obtain⟨c1,c2,c3,c4⟩:=ext_blkR (Ext.refl ((((((w.alloc (.cells #[.slice none 0 0] 74)).alloc (.cells #[.bool false] 4)).alloc (.cells #[.slice none 0 0] 74)).alloc (.cells #[.string s] 9)).alloc (.cells #[.string ⟨#[44]⟩] 9)).alloc (.cells #[.int .i64 0] 3)))
  have hx0:Ext w ((((((w.alloc (.cells #[.slice none 0 0] 74)).alloc (.cells #[.bool false] 4)).alloc (.cells #[.slice none 0 0] 74)).alloc (.cells #[.string s] 9)).alloc (.cells #[.string ⟨#[44]⟩] 9)).alloc (.cells #[.int .i64 0] 3)):=((((((Ext.refl w).alloc _).alloc _).alloc _).alloc _).alloc _).alloc _
  have hz0:((((((w.alloc (.cells #[.slice none 0 0] 74)).alloc (.cells #[.bool false] 4)).alloc (.cells #[.slice none 0 0] 74)).alloc (.cells #[.string s] 9)).alloc (.cells #[.string ⟨#[44]⟩] 9)).alloc (.cells #[.int .i64 0] 3)).heap.size=w.heap.size+6:=by simp
  rw [hs2] at c1 c2 c3 c4
  clear hs2 he hs
  generalize (((((w.alloc (.cells #[.slice none 0 0] 74)).alloc (.cells #[.bool false] 4)).alloc (.cells #[.slice none 0 0] 74)).alloc (.cells #[.string s] 9)).alloc (.cells #[.string ⟨#[44]⟩] 9)).alloc (.cells #[.int .i64 0] 3)=W0 at *
  have Hz:=za hz0
  clear hz0
  have b3:Blk W0 (w.heap.size+3) 9 #[.string s]:=c2
  have b4:Blk W0 (w.heap.size+3+1) 9 #[.string ⟨#[44]⟩]:=c3
  have b5:Blk W0 (w.heap.size+3+2) 3 #[.int .i64 0]:=c4
  have h0:RdJ w w.heap.size W0.heap.size [] W0:=⟨_,[],za ⟨Nat.le_refl _,b1,b2,c1,World.ownsRow_nil _ _ _ _,AtR.nil,hx0⟩⟩
  have hZB:w.heap.size+3<W0.heap.size:=by have:=Hz.out;omega
  have hZ6:w.heap.size+3+3=W0.heap.size:=Hz.out.symm
  clear b1 b2 c1 c2 c3 c4
  refine zaG rfl (by omega) (gf:=185) (lb:=#[.pointer (some ⟨w.heap.size+3+1,0,none⟩),.pointer (some ⟨w.heap.size+3,0,none⟩),.pointer (some ⟨w.heap.size+3+2,0,none⟩)]) rfl trivial (enters_of Tryz.func185 (by kernel_rfl) rfl)
   (seq_cell (by omega) Hs.out b3 b4 b5) hZB (fun h g=>KpS.trans h g) (fun W o o' hl=>KpS.put (by omega)) (RdJ w w.heap.size W0.heap.size) (RdX w w.heap.size)
   (RdJ.from (by omega)) (RdX.from (by omega)) (RdJ.set (Nat.le_refl _) hZB) (RdX.set (Nat.le_refl _)) h0
   (fun x=>{ tmps:=#[.string s,undef,.pointer (some ⟨w.heap.size,0,none⟩),.pointer (some ⟨w.heap.size+1,0,none⟩),.pointer (some ⟨w.heap.size+2,0,none⟩),.string x,undef,undef,.string s,.bool false,.string s,.func (.func 185) #[] #[.pointer (some ⟨w.heap.size+3+1,0,none⟩),.pointer (some ⟨w.heap.size+3,0,none⟩),.pointer (some ⟨w.heap.size+3+2,0,none⟩)],.string x,undef,undef,undef,undef,undef,undef,undef,undef,undef,undef,undef,undef],defers:=[] }) ?assign ?body ?done ?stop
  case assign =>
   intro l x W K hK
   gi_wp2
   exact hK
  case body =>
   rintro l pre x W hsp ⟨v,ls,hI⟩
   have hxs:x.size≤2000000:=Nat.le_trans (pc_size hsp x (by simp)) Hs.out
   have hlen:=pc_length hsp
   have hs9:=Hs.out
   simp only [List.length_append,List.length_singleton] at hlen
   have hnum:=za hI.out.num
   have hll:=za hI.out.num.1
   have hHE:=HE.out _ hI.out.ext
   gi_wp2
   refine⟨trivial,?_⟩
   refine (CallsIn.inRound l (callsIn_wide.2 (lib_Atoi hxs hHE))).mono ?_
   rintro e W1 ⟨⟨u,rfl,hu⟩|⟨u,t,p,rfl,hu⟩,hx1⟩
   ·have r1:=hI.out.r1.ext hx1
    have r2:=hI.out.r2.ext hx1
    have bo:=hI.out.bo.ext hx1
    have own:=zo hI.out.own hx1
    have hnm:=za (hnum.out.snoc hu.out)
    have hww:=za (hI.out.ext.trans hx1)
    have hsz:=hx1.size
    have hWz:=za hI.out.ext.size
    have hWB:=za hI.out.wb
    have co:=bo.cell
    have fo:=bo.frozen
    have hll1:ls.length≤2000001:=by have:=hll.out;omega
    obtain⟨A5,c5,rfl⟩:=zr own
    obtain⟨i0,hi,hz0,hz1,hz2⟩:=info_parts zbh
    have hbase:W0.heap.size≤W1.heap.size:=by
     have h2:=hWB.out
     omega
    have hoth:=za (zaV hx1)
    have hkp:=za (kps_ext (b:=w.heap.size+3) hx1 (by have:=hWB.out;omega))
    clear hI hx1
    gi_wp2_with (gi_at_builtin;refine wpListIn_append_own _ rfl _ _ 74 rfl W0.heap.size 3 i0 (.int .i64 0) 1 8 Tryz.underlying74 hi hz0 hz1 hz2 rfl (by decide) (.slice A5 ls.length c5) ls.length (ints ls) rfl (zo own ((Ext.refl _).alloc _)) ⟨W1.heap.size,0,none⟩ 1 1 [.int .i64 u] rfl rfl (cell_one_new _ _ _) (by simp [Value.oneCell']) (by unfold maxLen;omega) (by omega) (by rw [World.size_alloc];omega) ?_;intro v' w2 hown' hgrow hv';obtain⟨g',cap',rfl⟩:=ownsRow_succ hown';have hxa:=(Ext.refl W1).alloc (.cells #[.int .i64 u] 3);have owa:=zo own hxa;have hfr:=Frm.of_grown hgrow;have hne:∀ k,k<W0.heap.size→¬ (Value.slice A5 ls.length c5).ownBlock=some k:=(fun k hk e=>by have:=(own.lt k e).1;omega);have ro:=(bo.ext hxa).frm hfr (fun e=>hne _ (by omega) e);have co:=ro.cell;have fo:=ro.frozen)
    have q1:=(r1.ext hxa).frm hfr (fun e=>hne _ (by omega) e)
    have q2:=(r2.ext hxa).frm hfr (fun e=>hne _ (by omega) e)
    have hso:=Frm.setCell w2 (w.heap.size+2) 0 (.slice (some ⟨g',0,none⟩) (ls.length+1) cap')
    have hsz2:=hfr.size
    have hszA:=hxa.size
    refine⟨((hoth.out.trans (zaV hxa)).trans (KeepsOthers.of_grownBy hgrow (own_isCells owa))).trans (KeepsOthers.setCell _ _ _),
     ((hkp.out.trans (kps_ext hxa (by omega))).trans (kps_frm hfr (by omega) (fun k hk=>.inr (by have:=(own.lt k hk).1;omega)))).trans (kps_frm hso (by omega) (fun k hk=>.inl (by have hk':k=w.heap.size+2:=hk;omega))),.slice (some ⟨g',0,none⟩) (ls.length+1) cap',ls++[u],za ⟨?_,q1.frm hso (by omega),q2.frm hso (by omega),?_,?_,hnm.out,?_⟩⟩
    ·exact Nat.le_trans (by omega) hso.size
    ·simpa using ro.set_ 0 (.slice (some ⟨g',0,none⟩) (ls.length+1) cap')
    ·have h9:=zi hown' hso (fun b hb e=>by have:=(hown'.lt b hb).1;have e':b=w.heap.size+2:=e;omega)
     simpa [ints] using h9
    ·exact ((hww.out.trans hxa).frm hfr (fun k hk e=>hne k (by omega) e)).frm hso (fun k hk e=>by have e':k=w.heap.size+2:=e;omega)
   ·have r1:=hI.out.r1.ext hx1
    have r2:=hI.out.r2.ext hx1
    have hx:=hI.out.ext.trans hx1
    have hwz:=hI.out.ext.size
    have c1:=r1.cell
    have f1:=r1.frozen
    have c2:=r2.cell
    have f2:=r2.frozen
    gi_wp2
    exact⟨((zaV hx1).trans (KeepsOthers.setCell _ _ _)).trans (KeepsOthers.setCell _ _ _),
     za (Blk.far (by simpa using r1.set_ 0 (.slice none 0 0)) (p:=⟨w.heap.size+1,0,none⟩) (by simp) _),za (by simpa using (r2.far (p:=⟨w.heap.size,0,none⟩) (by simp) (.slice none 0 0)).set_ 0 (.bool false)),
     za ⟨x,by simp,hu.out⟩,(hx.setCell (p:=⟨w.heap.size,0,none⟩) (Nat.le_refl _) _).setCell (p:=⟨w.heap.size+1,0,none⟩) (Nat.le_succ _) _⟩
  case done =>
   rintro xs W hS ⟨v,ls,hI⟩ hK
   obtain⟨A5,c5,rfl⟩:=zr hI.out.own
   have co:=hI.out.bo.cell
   have c1:=hI.out.r1.cell
   have f1:=hI.out.r1.frozen
   have c2:=hI.out.r2.cell
   have f2:=hI.out.r2.frozen
   have hB:w.heap.size+1<W0.heap.size:=by omega
   have hlz:=za (show ls.length≤s.size+1 by rw [hI.out.num.1];exact pc_length hS.p)
   have hdn:=za (at_done hI.out.num hS Hne.out)
   have own:=hI.out.own
   have r1:Blk ((W.setCell ⟨w.heap.size,0,none⟩ (.slice A5 ls.length c5)).setCell ⟨w.heap.size+1,0,none⟩ (.bool true)) w.heap.size 74 #[.slice A5 ls.length c5]:=Blk.far (by simpa using hI.out.r1.set_ 0 (.slice A5 ls.length c5)) (p:=⟨w.heap.size+1,0,none⟩) (by simp) _
   have r2:Blk ((W.setCell ⟨w.heap.size,0,none⟩ (.slice A5 ls.length c5)).setCell ⟨w.heap.size+1,0,none⟩ (.bool true)) (w.heap.size+1) 4 #[.bool true]:=by simpa using (hI.out.r2.far (p:=⟨w.heap.size,0,none⟩) (by simp) (.slice A5 ls.length c5)).set_ 0 (.bool true)
   have hx:=(hI.out.ext.setCell (p:=⟨w.heap.size,0,none⟩) (Nat.le_refl _) (.slice A5 ls.length c5)).setCell (p:=⟨w.heap.size+1,0,none⟩) (Nat.le_succ _) (.bool true)
   have ow:((W.setCell ⟨w.heap.size,0,none⟩ (.slice A5 ls.length c5)).setCell ⟨w.heap.size+1,0,none⟩ (.bool true)).ownsRow W0.heap.size 3 1 (.slice A5 ls.length c5) ls.length (ints ls):=
    zi (zi own (Frm.setCell W w.heap.size 0 _) (fun b hb e=>by have:=(own.lt b hb).1;have e':b=w.heap.size:=e;omega)) (Frm.setCell _ (w.heap.size+1) 0 _) (fun b hb e=>by have:=(own.lt b hb).1;have e':b=w.heap.size+1:=e;omega)
   have hK':=(KeepsOthers.setCell ((W.setCell ⟨w.heap.size,0,none⟩ (.slice A5 ls.length c5))) ⟨w.heap.size+1,0,none⟩ (.bool true)).same _ _ ((KeepsOthers.setCell W ⟨w.heap.size,0,none⟩ (.slice A5 ls.length c5)).same _ _ hK rfl) rfl
   gi_wp2
   refine⟨by simp,.inl ⟨_,_,rfl,run_takeDeferred hK',?_⟩⟩
   clear c1 c2 co f1 f2
   generalize (W.setCell ⟨w.heap.size,0,none⟩ (.slice A5 ls.length c5)).setCell ⟨w.heap.size+1,0,none⟩ (.bool true)=W' at *
   have q1:=zcb (k:=W0.heap.size) (o:=.deferred none) r1 (by omega)
   have q2:=zcb (k:=W0.heap.size) (o:=.deferred none) r2 (by omega)
   have c1:=q1.cell
   have c2:=q2.cell
   exact⟨.tuple #[.slice A5 ls.length c5,.bool true],by simp [results,Tryz.results66,go_sem,c1,c2],A5,ls.length,c5,ls,true,rfl,rfl,zab (ownsRow_putObj ow _ hK' rfl) (by omega),hlz.out,hdn,ext_put hx (by omega)⟩
  case stop =>
   rintro pre W hsp hX hK
   obtain⟨r1,r2,⟨y,hy1,hy2⟩,hx⟩:=hX
   have hB:w.heap.size+1<W0.heap.size:=by omega
   gi_wp2
   refine⟨by simp,.inl ⟨_,_,rfl,run_takeDeferred hK,?_⟩⟩
   have q1:=zcb (k:=W0.heap.size) (o:=.deferred none) r1.out (by omega)
   have q2:=zcb (k:=W0.heap.size) (o:=.deferred none) r2.out (by omega)
   have c1:=q1.cell
   have c2:=q2.cell
   exact⟨.tuple #[.slice none 0 0,.bool false],by simp [results,Tryz.results66,go_sem,c1,c2],none,0,0,[],false,rfl,rfl,World.ownsRow_nil _ _ _ _,by omega,za (at_stop hy1 hy2 hsp Hne.out),ext_put hx (by omega)⟩
 ·have He:=za (zaN he)
  obtain⟨b1,b2⟩:=zZ (Ext.refl ((w.alloc (.cells #[.slice none 0 0] 74)).alloc (.cells #[.bool true] 4)))
  have hx1:Ext w ((w.alloc (.cells #[.slice none 0 0] 74)).alloc (.cells #[.bool true] 4)):=((Ext.refl _).alloc _).alloc _
  go_enter Tryz.func66,Tryz.ntmps66
  go_wp2_with fail
  have c1:=b1.cell
  have c2:=b2.cell
  exact bodyPost_ret (v:=.tuple #[.slice none 0 0,.bool true]) (by simp [results,Tryz.results66,go_sem,c1,c2]) rfl ⟨none,0,0,[],true,rfl,rfl,World.ownsRow_nil _ _ _ _,by omega,za (fun r hr h=>⟨rfl,by rw [join_nil hr (h.trans He.out)];rfl⟩),hx1⟩
end Go.Proofs.YtfcjhpodichpjaaGreatDoor
namespace Go.Proofs.YtfcjhpodichpjaaGreatDoor
open Go Go.RowKit
theorem yP03a3 {P:Prop}(h:P:=by
 go_wp2_with fail
 have hfb:=zs bz4 rfl (.int .i64 0) (.slice none 0 0) (.slice none 0 0)
 have cf:=hfb.cell
 exact bodyPost_ret (v:=.tuple #[.agg #[.int .i64 0,.slice none 0 0,.slice none 0 0],.bool false]) (by simp [results,Tryz.results31,go_sem,cf]) rfl hno4.out
 ):P:=h
theorem yP03b2 {P:Prop}(h:P:=by
 have cf:=hfb.cell
 exact bodyPost_ret (v:=.tuple #[.agg #[.int .i64 0,.slice none 0 0,.slice none 0 0],.bool false]) (by simp [results,Tryz.results31,go_sem,cf]) rfl hno.out
 ):P:=h
theorem yP03a4 {P:Prop}(h:P:=by
 go_wp2_with fail
 have hfb:=zs bz2 rfl (.int .i64 0) (.slice none 0 0) (.slice none 0 0)
 exact yP03b2
 ):P:=h
theorem zar {x:ByteArray} {w:World}(hx:x.size≤2000000)(hE:Sent w) :
  Calls Tryz.prog 31 #[.string x] w (RetPX x w):=by
 have HE:=za (fun W (hW:Ext w W)=>hE.ext hW)
 clear hE
 go_enter Tryz.func31,Tryz.ntmps31
 have hx0:=(Ext.refl w).alloc (.cells #[.int .i64 0,.slice none 0 0,.slice none 0 0] 26)
 have bz:=Blk.new w 26 #[.int .i64 0,.slice none 0 0,.slice none 0 0]
 have hz0:=bz.lt
 go_wp2_with fail
 generalize w.alloc (.cells #[.int .i64 0,.slice none 0 0,.slice none 0 0] 26)=w0 at *
 refine (lib_Split (s:=x) (by omega)).mono ?_
 rintro e w1 ⟨B,m,d,l,rfl,hml,hm0,zcs,hm,hcut,hx1⟩
 have Hlx:=za (zaZ hcut.out)
 have Hml:=za hml
 have Hcount:=za (fun a ha he=>txt_count hcut.out (a:=a) ha he)
 have hmx:m≤2000001:=by omega
 clear hml
 obtain⟨gB,rfl,hgB,-⟩:=zN zcs hm0
 have hmd:=own_cap zcs
 have hmd':(m:Int)≤(d:Int):=by omega
 obtain⟨ad,x0,hae,-,-,hx0',hc0⟩:=(Reads.of_own zcs).str (k:=0) hm0
 obtain rfl:=Option.some.inj hae
 rw [zK,Nat.add_zero] at hc0
 have hm0':(0:Int)<(m:Int):=by omega
 have Hfirst:=za (fun a ha he=>txt_first hcut.out hx0'.out (a:=a) ha he)
 have Hne0:=za (fun h=>first_ne hcut.out hx0'.out h)
 have Hrow:=za (fun (i:Nat) (hi:1≤i) (y:ByteArray) (h0:l[i]?=some y) a ha he=>txt_row hcut.out hi h0 (a:=a) ha he)
 clear hcut
 go_wp2_with fail
 refine (zav (x:=x0) (by have:=Hlx.out x0 (List.mem_of_getElem? hx0'.out);omega)).mono ?_
 rintro e w2 ⟨al,ok1,rfl,ha,hal1,hx2⟩
 have hw2:=hx1.trans hx2
 have bz2:=bz.ext hw2
 have cz2:=bz2.cell
 have fz2:=bz2.frozen
 cases ok1
 ·have hno:=za (zae (x:=x) (Z:=w.heap.size) (hx0.trans hw2) (Nat.le_refl _) (fun a ha he=>by
   rcases hal1.out with h|⟨-,-,h⟩
   ·exact absurd h.1 (by decide)
   ·exact h _ (ze ha).2.1 (Hfirst.out a ha he).symm))
  exact yP03a4
 ·by_cases h13:13<m
  ·have h13':(13:Int)<(m:Int):=by omega
   have hno:=za (zae (x:=x) (Z:=w.heap.size) (hx0.trans hw2) (Nat.le_refl _) (fun a ha he=>by
    have h1:=Hcount.out a ha he
    have h2:=(ze ha).2.2.2.1
    have h3:=Hml.out
    omega))
   exact yP03a4
  have h13':(m:Int)≤13:=by omega
  have hal2:alX al=x0.data.toList:=by
   rcases hal1.out with h|h
   ·exact h.2
   ·exact absurd h.1 (by decide)
  have Hne:=za (Hne0.out (by rw [← hal2];exact al_ne ha))
  have Hal:=za (fun (a:Aut) (h:zc a=true) (he:zV a=x.data.toList)=>show a.al=(al:Int) from by
   have h1:=al_inj ha (ze h).2.1 (hal2.trans (Hfirst.out a h he))
   have:=(ze h).1
   omega)
  clear hal1 hal2
  have bG:=Blk.new w2 26 #[.int .i64 al,.slice none 0 0,.slice none 0 0]
  have hx3:=(Ext.refl w2).alloc (.cells #[.int .i64 al,.slice none 0 0,.slice none 0 0] 26)
  have hs2:=hw2.size
  have zct:=zo zcs hx2
  go_upto_region 6 with fail
  have zcu:=zo zct hx3
  have zcp:Gro w0 (w2.alloc (.cells #[.int .i64 al,.slice none 0 0,.slice none 0 0] 26)) w2.heap.size al (.slice none 0 0) [] [] (.slice none 0 0) []:=⟨bG,World.ownsRow_nil _ _ _ _,zf.nil _ _,World.ownsRow_nil _ _ _ _,hw2.trans hx3,hs2⟩
  generalize w2.alloc (.cells #[.int .i64 al,.slice none 0 0,.slice none 0 0] 26)=w3 at *
  generalize w2.heap.size=G at *
  clear cz2 fz2 hc0 zct
  go_cut [31,32,33,34] (fun _ s32 s33 s34 wx=>s33=.int .i64 ((m - 1:Nat):Int)∧s34=.int .i64 0∧(∃ oB dB,s32=.slice (some ⟨gB,oB,none⟩) (m - 1) dB∧(1<m→oB=1))∧wx=w3)
  case first =>
   by_cases hd1:d=1
   ·subst hd1
    obtain rfl:m=1:=by omega
    go_wp2_with fail
    go_meet
    exact⟨rfl,rfl,⟨0,_,rfl,fun h=>by omega⟩,rfl⟩
   ·go_wp2_with fail
    go_meet
    exact⟨rfl,rfl,⟨1,_,rfl,fun _=>rfl⟩,rfl⟩
  case rest =>
  obtain⟨rfl,rfl,⟨oB,dB,rfl,hoB⟩,rfl⟩:=hcut
  go_wp2_with fail
  go_loopw [9,10,11,34] (fun _ _ _ iv wr=>∃ (i:Nat) (v:Value) (rows:List Value) (ls:List (List Int)) (vA:Value) (acc:List Bool),i+1≤m∧iv=.int .i64 (i:Nat)∧Gro w0 wr G al v rows ls vA acc∧Hid (ls.length≤i)∧Hid (acc.length=ls.length)∧Hid (∀ a,zc a=true→zV a=x.data.toList→ls=a.next.take i∧acc=a.acc.take i)∧wr.ownsRow w0.heap.size 9 1 (.slice (some ⟨gB,0,none⟩) m d) m (zbj l)) (fun _ _ _ iv _=>m - (intOf iv).toNat)
  case atStart=>exact⟨0,_,_,[],_,[],hm0,rfl,zcp,za (Nat.zero_le _),za rfl,za (fun a _ _=>⟨rfl,rfl⟩),zcu⟩
  case round =>
   clear zcp zcu
   obtain⟨i,v,rows,ls,vA,acc,hi,rfl,zcp,hln,hal,htk,hstr⟩:=hrel
   have bz3:=bz.ext zcp.ext
   by_cases hlt:i+1<m
   ·obtain rfl:=hoB (by omega)
    have hlt1:(i:Int)<((m - 1:Nat):Int):=by omega
    obtain⟨ad,xk,hae,-,-,hxk,hck⟩:=(Reads.of_own hstr).str hlt
    obtain rfl:=Option.some.inj hae
    rw [zK,Nat.zero_add,Nat.add_comm] at hck
    have hbk:=Hlx.out xk (List.mem_of_getElem? hxk.out)
    have HR:=za (Hrow.out (i+1) (by omega) xk hxk.out)
    rw [Nat.add_sub_cancel] at HR
    cases he:xk.toList.isEmpty
    ·have Hxne:=za (zak he)
     have h1k:1≤xk.size:=by
      rcases Nat.eq_zero_or_pos xk.size with h0|h0
      ·rw [ByteArray.toList_eq] at he
       have e2:xk.data.toList.length=xk.size:=rfl
       rw [List.eq_nil_of_length_eq_zero (e2.trans h0)] at he
       cases he
      ·exact h0
     have h1k':(1:Int)≤(xk.size:Int):=by omega
     have hex:(xk.extract 1 xk.size).size≤x.size:=by rw [ByteArray.size_extract];omega
     have HJ:=za (fun (a:Aut) (ha:zc a=true) (he:zV a=x.data.toList)=>show ∃ r b,a.next[i]?=some r∧a.acc[i]?=some b∧RowS r∧zv (r.map Int.toNat)=(xk.extract 1 xk.size).data.toList∧xk.data.toList=zbR b r from by
      obtain⟨r,b,h1,h2,h3,h4⟩:=HR.out a ha he
      exact⟨r,b,h1,h2,h3,(rest_list h4).symm,h4⟩)
     go_wp2_with fail
     refine (zaX (s:=xk.extract 1 xk.size) (by omega) (HE.out _ (hx0.trans zcp.ext))).mono ?_
     rintro e w4 ⟨Ar,nr,cr,lr,ok,rfl,hnr,hor,hnb,hjo,hx4⟩
     cases ok
     ·have hno4:=za (zae (x:=x) (Z:=w.heap.size) ((hx0.trans zcp.ext).trans hx4) (Nat.le_refl _) (fun a ha he=>by
       obtain⟨r,b,h1,h2,h3,h4,-⟩:=HJ.out a ha he
       exact absurd (hjo.out _ h3.nat h4).1 (by decide)))
      have bz4:=bz3.ext hx4
      have cz:=bz4.cell
      have fz:=bz4.frozen
      exact yP03a3
     ·subst hnr
      have HL:=za (fun (a:Aut) (ha:zc a=true) (he:zV a=x.data.toList)=>show ∃ b,a.next[i]?=some lr∧a.acc[i]?=some b∧xk.data.toList=zbR b lr from by
       obtain⟨r,b,h1,h2,h3,h4,h5⟩:=HJ.out a ha he
       have e:lr=r:=(hjo.out _ h3.nat h4).2.trans (cast_row h3)
       subst e
       exact⟨b,h1,h2,h5⟩)
      have hlow:=za zcp.low
      have hs1:=za zcp.ext.size
      have hacc4:=zcp.more hx4
      have hstr4:=zo hstr hx4
      have cG:=hacc4.blk.cell
      have hs4:=hacc4.ext.size
      have hlm:ls.length≤2000001:=by have:=hln.out;omega
      have Hxk:=za hxk.out
      clear zcp hstr hck hjo HJ
      go_upto_region 15 with (at_builtin;refine zam w0 w4 rfl _ _ _ rfl 74 _ 1 24 Tryz.underlying23 info_ints rfl (by decide) v ls.length rows _ _ rfl rfl hs4 hacc4.nx rfl (zbm _ _ _) (by unfold maxLen;omega) (by omega) ?_;intro g5 cap5 w6 hown6 hg6 hat6 hlt6;obtain⟨q1,q2,q3⟩:=hacc4.pushRow hlow.out hs1.out hor hown6 hg6 hat6;have q1':=q1.out;have hstr6:=(zi hstr4 (Frm.of_grown hg6) (fun b hb hS=>zX hstr4 hacc4.nx (by decide) hb hS)))
      have hstr7:=zi hstr6 (Frm.setCell w6 G 1 (.slice (some ⟨g5,0,none⟩) (ls.length+1) cap5)) (fun b hb hS=>by
       have hB6:Blk w6 G 26 #[.int .i64 al,v,vA]:=(hg6.block G hacc4.blk.lt (fun e=>zt hacc4.nx hacc4.blk (by decide) e.symm rfl)).trans hacc4.blk
       exact zt hstr6 hB6 (by decide) hb hS)
      have hln7:=za (show (ls++[lr]).length≤i+1 by have:=hln.out;simp;omega)
      have hal7:=za (show acc.length+1=(ls++[lr]).length by have:=hal.out;simp;omega)
      have htk7:=za (fun (a:Aut) (ha:zc a=true) (he:zV a=x.data.toList)=>show ls++[lr]=a.next.take (i+1)∧acc=a.acc.take i∧∃ b,a.acc[i]?=some b∧xk.data.toList=zbR b lr from by
       obtain⟨h1,h2⟩:=htk.out a ha he
       obtain⟨b,h3,h4,h5⟩:=HL.out a ha he
       refine⟨?_,h2,b,h4,h5⟩
       rw [List.take_add_one,← h1,h3]
       rfl)
      clear q1 q1' q2 hown6 hg6 hat6 hlt6 hstr6 hstr4 hacc4 cG hln hal htk hor HL
      generalize ls++[lr]=ls7 at *
      generalize rows++[.slice Ar lr.length cr]=rows7 at *
      generalize w6.setCell ⟨G,1,none⟩ (.slice (some ⟨g5,0,none⟩) (ls.length+1) cap5)=w7 at *
      generalize Value.slice (some ⟨g5,0,none⟩) (ls.length+1) cap5=v7 at *
      obtain⟨ad7,xk7,hae7,-,-,hxk7,hck7⟩:=(Reads.of_own hstr7).str hlt
      obtain rfl:=Option.some.inj hae7
      rw [zK,Nat.zero_add,Nat.add_comm] at hck7
      obtain rfl:xk7=xk:=Option.some.inj (hxk7.out.symm.trans Hxk.out)
      have cG:∀ W,Ext w7 W→∀ q,W.cell? ⟨G,q,none⟩=#[Value.int .i64 al,v7,vA][q]?:=fun W hW=>(q3.blk.ext hW).cell
      have cS:∀ W,Ext w7 W→W.cell? ⟨gB,1+i,none⟩=some (.string xk7):=fun W hW=>hW.cell_some hck7
      have h0k:0<xk7.size:=by omega
      have h0k':(0:Int)<(xk7.size:Int):=by omega
      have hb0:=zT xk7 0 h0k
      have Hsig:=za (fun (b:Bool) (h:xk7.data.toList=zbR b lr)=>head_sign h h0k)
      obtain⟨bb,hbb⟩:∃ bb,((xk7[0].toNat:Int)==43)=bb:=⟨_,rfl⟩
      rw [hbb] at Hsig
      have hww:=Ext.refl w7
      clear hck7 hxk7 Hxk
      refine uR (fun X=>Ext w7 X) [6,8] (zaq.of [0,1,2,3,4,5,6,7,8]) ?_
      refine uQ ?_
      have hxd:=hww.drew
      refine useq_step fun K hK=>?_;go_simp
      refine hK.out _ _ (hxd.alloc _) ?_
      refine pT ?_
      refine zaR fun K hK=>?_
      have hs7:=q3.ext.size
      have q3d:=q3.more hxd
      have hal8:acc.length≤2000001:=by have:=hal7.out;have:=hln7.out;omega
      have hstr8:=zo hstr7 hxd
      refine wp_push w0 w7.drew _ _ _ rfl 4 _ 1 1 Tryz.underlying24 info_bool rfl (by decide) vA acc.length (zD acc) _ _ rfl rfl q3d.ext.size q3d.acc rfl (by simp [Value.oneCell']) (by unfold maxLen;omega) (by omega) ?_
      intro g8 cap8 w8 hown8 hg8 hat8 hlt8
      refine hK.out _ _ ?_
      refine pT ?_
      refine uQ ?_
      obtain⟨p1,p2,p3⟩:=q3d.pushAcc (x:=bb) (W':=w8) hown8 hg8 hat8
      have p1':=p1.out
      have hstr9:=zi hstr8 (Frm.of_grown hg8) (fun b hb hS=>zX hstr8 q3d.acc (by decide) hb hS)
      have hstr10:=zi hstr9 (Frm.setCell w8 G 2 (.slice (some ⟨g8,0,none⟩) (acc.length+1) cap8)) (fun b hb hS=>by
       have hB8:Blk w8 G 26 #[.int .i64 al,v7,vA]:=(hg8.block G q3d.blk.lt (fun e=>zt q3d.acc q3d.blk (by decide) e.symm rfl)).trans q3d.blk
       exact zt hstr9 hB8 (by decide) hb hS)
      refine zaR fun K hK=>?_
      go_simp
      refine hK.out _ _ ?_
      refine useq_nil ?_
      go_wp2_with fail
      go_roundw
      case rel=>exact⟨i+1,_,_,ls7,_,acc++[bb],by omega,by go_num,p3,za (by have:=hln7.out;omega),za (by have:=hal7.out;simp;omega),za (fun a ha he=>by
       obtain⟨h1,h2,b,h3,h4⟩:=htk7.out a ha he
       refine⟨h1,?_⟩
       rw [List.take_add_one,← h2,h3,Hsig.out b h4]
       rfl),hstr10⟩
      case measure=>simp [intOf];omega
    ·have cz:=bz3.cell
     have fz:=bz3.frozen
     have hno:=za (zae (x:=x) (Z:=w.heap.size) (hx0.trans zcp.ext) (Nat.le_refl _) (fun a ha h=>by
      obtain⟨r,b,-,-,-,h4⟩:=HR.out a ha h
      rw [zaN he] at h4
      cases h4))
     go_wp2_with fail
     have hfb:=zs bz3 rfl (.int .i64 0) (.slice none 0 0) (.slice none 0 0)
     exact yP03b2
   ·obtain⟨A5,c5,rfl⟩:=zr zcp.nx
    obtain⟨B5,d5,rfl⟩:=zr zcp.acc
    have hat:zz wr w0.heap.size wr.heap.size A5 ls.length B5 acc.length (⟨al,ls,acc⟩:Aut):=⟨zaH.reads ⟨rows,zcp.nx,zcp.rows⟩ rfl,rfl,Reads.of_own zcp.acc⟩
    have cG:=zcp.blk.cell
    have HE:=za (fun (a:Aut) (ha:zc a=true) (he:zV a=x.data.toList)=>show (⟨al,ls,acc⟩:Aut)=a from by
     obtain⟨h1,h2⟩:=htk.out a ha he
     have h3:=Hcount.out a ha he
     have h4:=Hal.out a ha he
     have h5:=Hml.out
     have h6:=(ze ha).2.2.1
     rw [List.take_of_length_le (by omega)] at h1 h2
     cases a
     simp only [Aut.mk.injEq]
     exact⟨h4.symm,h1,h2⟩)
    go_wp2_with fail
    refine (zF (a:=⟨al,ls,acc⟩) hat).mono ?_
    rintro e w4 ⟨tx,rfl,htx,hx4⟩
    have hacc4:=zcp.more hx4
    have bz4:=bz3.ext hx4
    have cz:=bz4.cell
    have fz:=bz4.frozen
    have cG4:=hacc4.blk.cell
    clear cG
    cases hne:tx.toList==x.toList
    ·have hno4:=za (zae (x:=x) (Z:=w.heap.size) ((hx0.trans zcp.ext).trans hx4) (Nat.le_refl _) (fun a ha he=>by
      have e:=HE.out a ha he
      rw [ByteArray.toList_eq,ByteArray.toList_eq,htx.out,e,he] at hne
      simp at hne))
     exact yP03a3
    ·have hyes:=za (show ParsX x true ⟨al,ls,acc⟩ from by
      have h1:zV ⟨al,ls,acc⟩=x.data.toList:=by
       rw [ByteArray.toList_eq,ByteArray.toList_eq,htx.out] at hne
       exact eq_of_beq hne
      refine .inl ⟨rfl,?_,h1⟩
      cases hv:zc (⟨al,ls,acc⟩:Aut) with
      |true=>rfl
      |false =>
       unfold zV at h1
       rw [hv] at h1
       exact absurd h1.symm Hne.out)
     have hF:=fillA_frm w4 w.heap.size (.int .i64 al) (.slice A5 ls.length c5) (.slice B5 acc.length d5)
     obtain⟨f1,-,-⟩:=hacc4.fin hx0 (hF.mono (fun k _ hk=>by have hk':k=w.heap.size:=hk;omega))
     have f2:=zs bz4 rfl (.int .i64 al) (.slice A5 ls.length c5) (.slice B5 acc.length d5)
     have f3:=(hx0.trans hacc4.ext).frm hF (fun k hk e=>by omega)
     go_wp2_with fail
     have cf:=f2.cell
     exact bodyPost_ret (v:=.tuple #[.agg #[.int .i64 al,.slice A5 ls.length c5,.slice B5 acc.length d5],.bool true]) (by simp [results,Tryz.results31,go_sem,cf]) rfl ⟨⟨al,ls,acc⟩,A5,_,c5,B5,_,d5,true,rfl,f1,hyes,f3⟩
theorem zl {lo hi:Nat} {A:Option Addr} {n c:Nat} {A':Option Addr} {n' c':Nat} {hd:Bool} {a:Aut} {s:ByteArray} {w:World}(h:zz w lo hi A n A' n' a)(hs:s.size≤2000000) :
  Calls Tryz.prog 7 #[.agg #[.bool hd,.int .i64 a.al,.slice A n c,.slice A' n' c',.string s]] w (zbZ (zba hd a s) w):=by
 have HV:=za (fun W (hW:Ext w W)=>zai _ _ _ _ c _ _ c' hd _ s W (h.ext hW) (by omega))
 have HF:=za (fun W (hW:Ext w W)=>zF (c:=c) (c':=c') (h.ext hW))
 have Hl:=za (txtA_len a)
 cases hv:zd hd a s
 ·rw [hv] at HV
  have H0:=za (txtC_no hv)
  clear h hv
  go_enter Tryz.func7,Tryz.ntmps7
  go_wp2_with (go_at_call 8;refine (HV.out _ ((Ext.refl _).alloc _)).mono ?_;rintro e w1 ⟨rfl,hx⟩)
  go_ret
  exact⟨_,rfl,za H0.out.symm,((Ext.refl _).alloc _).trans hx⟩
 ·rw [hv] at HV
  cases hd
  ·have H0:=za (zbU hv)
   clear h hv
   go_enter Tryz.func7,Tryz.ntmps7
   go_wp2_with fail
   refine (HV.out _ ((Ext.refl _).alloc _)).mono ?_
   rintro e w1 ⟨rfl,hx⟩
   have b1:=zw hx
   have cb:=b1.cell
   have hw1:=((Ext.refl w).alloc _).trans hx
   go_wp2_with fail
   refine (zcf s _).mono ?_
   rintro e w2 ⟨⟨t,rfl,ht,hts⟩,rfl⟩
   have q0:¬ 9223372036854775807<6+t.size:=by omega
   go_wp2_with fail
   go_ret
   exact⟨_,rfl,za (by rw [H0.out];exact zaf rfl ht.out),hw1⟩
  ·have H0:=za (txtC_holds hv)
   clear h hv
   go_enter Tryz.func7,Tryz.ntmps7
   go_wp2_with fail
   refine (HV.out _ ((Ext.refl _).alloc _)).mono ?_
   rintro e w1 ⟨rfl,hx⟩
   have b1:=zw hx
   have cb:=b1.cell
   have hw1:=((Ext.refl w).alloc _).trans hx
   go_wp2_with fail
   refine (HF.out _ hw1).mono ?_
   rintro e w2 ⟨t2,rfl,ht2,hx2⟩
   have hts:t2.size≤300:=by rw [zaE ht2.out];exact Hl.out
   have q0:¬ 9223372036854775807<6+t2.size:=by omega
   go_wp2_with fail
   go_ret
   exact⟨_,rfl,za (by rw [H0.out];exact zaf rfl ht2.out),hw1.trans hx2⟩
def zbG (s p:ByteArray):Bool:=decide (p.size≤s.size)&&((s.extract 0 p.size).toList==p.toList)
theorem zcg (s p:ByteArray) (w:World):Calls Tryz.prog 113 #[.string s,.string p] w fun e w'=>e=.returned (.bool (zbG s p))∧w=w':=by
 by_cases h:p.size≤s.size
 ·have h':(p.size:Int)≤(s.size:Int):=by omega
  have hP:=za (show zbG s p=((s.extract 0 p.size).toList==p.toList) by simp [zbG,h])
  go_enter Tryz.func113,Tryz.ntmps113
  go_wp2
  go_ret
  exact⟨zb (by rw [hP.out]),rfl⟩
 ·have h':¬ ((p.size:Int)≤(s.size:Int)):=by omega
  have hP:=za (show zbG s p=false by simp [zbG,h])
  go_enter Tryz.func113,Tryz.ntmps113
  go_wp2
  go_ret
  exact⟨zb (by rw [hP.out]),rfl⟩
theorem hasP_le {s p:ByteArray}(h:zbG s p=true):p.size≤s.size:=by
 unfold zbG at h
 rw [Bool.and_eq_true,decide_eq_true_eq] at h
 exact h.1
def RetCp (s p:ByteArray) (w:World) (e:Ending) (w':World):Prop:=e=.returned (.tuple #[.string (if zbG s p=true then s.extract p.size s.size else s),.bool (zbG s p)])∧w=w'
theorem zbz (s p:ByteArray) (w:World):Calls Tryz.prog 63 #[.string s,.string p] w (RetCp s p w):=by
 have hh:=za (zcg s p)
 cases h:zbG s p
 ·rw [h] at hh
  have hP:=za h
  go_enter Tryz.func63,Tryz.ntmps63
  go_wp2_with (go_at_call 113;refine (hh.out _).mono ?_;rintro e w' ⟨rfl,rfl⟩)
  exact bodyPost_ret (v:=.tuple #[.string s,.bool false]) (by simp [results,Tryz.results63,go_sem]) rfl ⟨by rw [hP.out];rfl,rfl⟩
 ·rw [h] at hh
  have hP:=za h
  have hl:=hasP_le h
  have hl':(p.size:Int)≤(s.size:Int):=by omega
  clear h
  go_enter Tryz.func63,Tryz.ntmps63
  go_wp2_with (go_at_call 113;refine (hh.out _).mono ?_;rintro e w' ⟨rfl,rfl⟩)
  exact bodyPost_ret (v:=.tuple #[.string (s.extract p.size s.size),.bool true]) (by simp [results,Tryz.results63,go_sem]) rfl ⟨by rw [hP.out];rfl,rfl⟩
theorem zaO (s p:ByteArray) (w:World):Calls Tryz.prog 30 #[.string s,.string p] w (RetCp s p w):=by
 obtain⟨y,hy⟩:∃ y,Hid ((if zbG s p=true then s.extract p.size s.size else s)=y):=⟨_,za rfl⟩
 obtain⟨b,hb⟩:∃ b,Hid (zbG s p=b):=⟨_,za rfl⟩
 have hh:=za (fun W=>zbz s p W)
 unfold RetCp at hh ⊢
 rw [hy.out,hb.out] at hh ⊢
 go_enter Tryz.func30,Tryz.ntmps30
 go_wp2_with (go_at_call 63;refine (hh.out _).mono ?_;rintro e w' ⟨rfl,rfl⟩)
 exact bodyPost_ret (v:=.tuple #[.string y,.bool b]) (by simp [results,Tryz.results30,go_sem]) rfl ⟨rfl,rfl⟩
theorem pre_yes {x p:ByteArray} {P:List UInt8}(hp:p.data.toList=P)(h6:P.length=6)(h:zbG x p=true):x.data.toList=P++(x.extract 6 x.size).data.toList:=by
 have hs:p.size=6:=by rw [← h6,← hp];rfl
 unfold zbG at h
 rw [Bool.and_eq_true,hs,ByteArray.toList_eq,ByteArray.toList_eq,hp] at h
 exact six_join (eq_of_beq h.2)
theorem pre_no {x p:ByteArray} {P:List UInt8}(hp:p.data.toList=P)(h6:P.length=6)(h:zbG x p=false):∀ r,x.data.toList≠P++r:=by
 intro r e
 have hs:p.size=6:=by rw [← h6,← hp];rfl
 have e2:x.data.toList.length=x.size:=rfl
 have hl:6≤x.size:=by rw [← e2,e,List.length_append,h6];omega
 unfold zbG at h
 rw [hs,ByteArray.toList_eq,ByteArray.toList_eq,hp,six_head h6 e] at h
 simp [hl] at h
theorem yP03c1 {P:Prop}(h:P:=by
 go_wp2_with fail
 have c4:=r4.cell
 exact bodyPost_ret (v:=.tuple #[.agg #[.bool false,.int .i64 0,.slice none 0 0,.slice none 0 0,.string ⟨#[]⟩],.bool false]) (by simp [results,Tryz.results11,go_sem,c4]) rfl zcr.out
 ):P:=h
theorem yP03b1 {P:Prop}(h:P:=by
 have zcr:=zas (Z:=w.heap.size) (K:=w.heap.size+1) (A:=none) (n:=0) (c:=0) (A':=none) (n':=0) (c':=0) hw1 (Nat.le_refl _) (Nat.lt_succ_self _) (zq _ _) (zaz hcand.out (zaD hne htx.out))
 have r4:=zk bz1 rfl (.bool false) (.int .i64 0) (.slice none 0 0) (.slice none 0 0) (.string ⟨#[]⟩)
 exact yP03c1
 ):P:=h
theorem yP03a1 {P:Prop}(h:P:=by
 have ho1:=zq w1 (w.heap.size+1)
 have cG:=bG.cell
 go_upto_region 99 with fail
 refine (zl (a:=⟨0,[],[]⟩) (ho1.reads) (show (⟨#[]⟩:ByteArray).size≤2000000 by decide)).mono ?_
 rintro e w9 ⟨tx,rfl,htx,hx9⟩
 clear cG
 replace bG:=bG.ext hx9
 replace bz1:=bz1.ext hx9
 replace ho1:=ho1.ext hx9
 replace hw1:=hw1.trans hx9
 have cG:=bG.cell
 have cz:=bz1.cell
 have fz:=bz1.frozen
 cases hne:tx.toList==x.toList
 ·exact yP03b1
 ·have zcr:=zas (Z:=w.heap.size) (K:=w.heap.size+1) hw1 (Nat.le_refl _) (Nat.lt_succ_self _) ho1 (zac hxne (zaC hne htx.out))
  have r4:=zk bz1 rfl (.bool false) (.int .i64 0) (.slice none 0 0) (.slice none 0 0) (.string ⟨#[]⟩)
  go_wp2_with fail
  have c4:=r4.cell
  exact bodyPost_ret (v:=.tuple #[.agg #[.bool false,.int .i64 0,.slice none 0 0,.slice none 0 0,.string ⟨#[]⟩],.bool true]) (by simp [results,Tryz.results11,go_sem,c4]) rfl zcr.out
 ):P:=h
theorem yP03a2 {P:Prop}(h:P:=by
 exact yP03b1
 ):P:=h
theorem impl_ParseCertificateX {x:ByteArray} {w:World}(hx:x.size≤2000000)(hE:Sent w) :
  Calls Tryz.prog 11 #[.string x] w (RetPC x w):=by
 have HE:=za (fun W (hW:Ext w W)=>hE.ext hW)
 clear hE
 have hw1:Ext w ((w.alloc (.cells #[.bool false,.int .i64 0,.slice none 0 0,.slice none 0 0,.string ⟨#[]⟩] 28)).alloc (.cells #[.bool false,.int .i64 0,.slice none 0 0,.slice none 0 0,.string ⟨#[]⟩] 28)):=((Ext.refl w).alloc _).alloc _
 obtain⟨bz1,bG⟩:=zZ (Ext.refl ((w.alloc (.cells #[.bool false,.int .i64 0,.slice none 0 0,.slice none 0 0,.string ⟨#[]⟩] 28)).alloc (.cells #[.bool false,.int .i64 0,.slice none 0 0,.slice none 0 0,.string ⟨#[]⟩] 28)))
 have hs1:w.heap.size+1+1≤((w.alloc (.cells #[.bool false,.int .i64 0,.slice none 0 0,.slice none 0 0,.string ⟨#[]⟩] 28)).alloc (.cells #[.bool false,.int .i64 0,.slice none 0 0,.slice none 0 0,.string ⟨#[]⟩] 28)).heap.size:=by simp
 have HH:=za (fun W=>zaO x ⟨#[104,111,108,100,115,32]⟩ W)
 have HF:=za (fun W=>zaO x ⟨#[102,97,105,108,115,32]⟩ W)
 have hr:(x.extract 6 x.size).size≤2000000:=by rw [ByteArray.size_extract];omega
 go_enter Tryz.func11,Tryz.ntmps11
 go_upto_region 2 with fail
 generalize (w.alloc (.cells #[.bool false,.int .i64 0,.slice none 0 0,.slice none 0 0,.string ⟨#[]⟩] 28)).alloc (.cells #[.bool false,.int .i64 0,.slice none 0 0,.slice none 0 0,.string ⟨#[]⟩] 28)=w1 at *
 cases he:x.toList.isEmpty
 ·have hxne:=zak he
  cases hh:zbG x ⟨#[104,111,108,100,115,32]⟩
  ·have hnh:=pre_no (x:=x) (P:=zH) rfl rfl hh
   unfold RetCp at HH
   rw [hh] at HH
   cases hf:zbG x ⟨#[102,97,105,108,115,32]⟩
   ·have hnf:=pre_no (x:=x) (P:=zW) rfl rfl hf
    unfold RetCp at HF
    rw [hf] at HF
    have hcand:=za (show ∀ hd' a' t',zd hd' a' t'=true→zba hd' a' t'=x.data.toList→false=hd'∧(⟨0,[],[]⟩:Aut)=a'∧(⟨#[]⟩:ByteArray)=t' from fun hd a t hv e=>by
     obtain⟨-,-,-,h4⟩:=zbM hnh hv e
     exact absurd h4 (hnf _))
    go_wp2_with fail
    refine (HH.out _).mono ?_
    rintro e w' ⟨rfl,rfl⟩
    go_wp2_with fail
    refine (HF.out _).mono ?_
    rintro e w' ⟨rfl,rfl⟩
    clear hnh hnf hh hf HH HF
    exact yP03a1
   ·unfold RetCp at HF
    rw [hf] at HF
    have hrr:∀ l,x.data.toList=zW++l→(x.extract 6 x.size).data.toList=l:=fun l e=>six_rest rfl e
    have hsz6:(⟨#[102,97,105,108,115,32]⟩:ByteArray).size=6:=rfl
    cases hdd:(x.extract 6 x.size).toList==[45]
    ·have hcand:=za (zao (t:=x.extract 6 x.size) hnh hrr (by
      rw [if_neg]
      intro e
      rw [ByteArray.toList_eq,e] at hdd
      simp at hdd))
     have fG:=bG.frozen
     have cG:=bG.cell
     go_wp2_with fail
     refine (HH.out _).mono ?_
     rintro e w' ⟨rfl,rfl⟩
     go_wp2_with fail
     refine (HF.out _).mono ?_
     rintro e w' ⟨rfl,rfl⟩
     go_upto_region 9 with fail
     have hb4:Blk (w1.setCell ⟨w.heap.size+1,4,none⟩ (.string (x.extract 6 x.size))) (w.heap.size+1) 28 #[.bool false,.int .i64 0,.slice none 0 0,.slice none 0 0,.string (x.extract 6 x.size)]:=by simpa using bG.set_ 4 (.string (x.extract 6 x.size))
     replace bz1:=bz1.far (p:=⟨w.heap.size+1,4,none⟩) (by simp) (.string (x.extract 6 x.size))
     replace hw1:=hw1.setCell (p:=⟨w.heap.size+1,4,none⟩) (show w.heap.size≤w.heap.size+1 by omega) (.string (x.extract 6 x.size))
     clear bG fG cG hnh hrr hdd hh hf HH HF hs1
     generalize w1.setCell ⟨w.heap.size+1,4,none⟩ (.string (x.extract 6 x.size))=w2 at *
     have bG:=hb4
     clear hb4
     generalize x.extract 6 x.size=t at *
     have ho1:=zq w2 (w.heap.size+1)
     have cG:=bG.cell
     go_upto_region 99 with fail
     refine (zl (a:=⟨0,[],[]⟩) (ho1.reads) hr).mono ?_
     rintro e w9 ⟨tx,rfl,htx,hx9⟩
     clear cG
     replace bG:=bG.ext hx9
     replace bz1:=bz1.ext hx9
     replace ho1:=ho1.ext hx9
     replace hw1:=hw1.trans hx9
     have cG:=bG.cell
     have cz:=bz1.cell
     have fz:=bz1.frozen
     cases hne:tx.toList==x.toList
     ·exact yP03a2
     ·have zcr:=zas (Z:=w.heap.size) (K:=w.heap.size+1) hw1 (Nat.le_refl _) (Nat.lt_succ_self _) ho1 (zac hxne (zaC hne htx.out))
      have r4:=zk bz1 rfl (.bool false) (.int .i64 0) (.slice none 0 0) (.slice none 0 0) (.string t)
      go_wp2_with fail
      have c4:=r4.cell
      exact bodyPost_ret (v:=.tuple #[.agg #[.bool false,.int .i64 0,.slice none 0 0,.slice none 0 0,.string t],.bool true]) (by simp [results,Tryz.results11,go_sem,c4]) rfl zcr.out
    ·have hcand:=za (zao (t:=⟨#[]⟩) hnh hrr (by
      rw [if_pos]
      rw [ByteArray.toList_eq] at hdd
      exact eq_of_beq hdd))
     go_wp2_with fail
     refine (HH.out _).mono ?_
     rintro e w' ⟨rfl,rfl⟩
     go_wp2_with fail
     refine (HF.out _).mono ?_
     rintro e w' ⟨rfl,rfl⟩
     go_upto_region 9 with fail
     clear hnh hrr hdd hh hf HH HF
     exact yP03a1
  ·have hjoin:=pre_yes (x:=x) (P:=zH) rfl rfl hh
   unfold RetCp at HH
   rw [hh] at HH
   have fG:=bG.frozen
   have cG:=bG.cell
   go_wp2_with fail
   refine (HH.out _).mono ?_
   rintro e w' ⟨rfl,rfl⟩
   go_upto_region 5 with fail
   have hb4:Blk (w1.setCell ⟨w.heap.size+1,0,none⟩ (.bool true)) (w.heap.size+1) 28 #[.bool true,.int .i64 0,.slice none 0 0,.slice none 0 0,.string ⟨#[]⟩]:=by simpa using bG.set_ 0 (.bool true)
   replace bz1:=bz1.far (p:=⟨w.heap.size+1,0,none⟩) (by simp) (.bool true)
   replace hw1:=hw1.setCell (p:=⟨w.heap.size+1,0,none⟩) (show w.heap.size≤w.heap.size+1 by omega) (.bool true)
   have hs2:w.heap.size+1+1≤(w1.setCell ⟨w.heap.size+1,0,none⟩ (.bool true)).heap.size:=by simpa [World.setCell] using hs1
   clear bG fG cG hh HH HF hs1
   generalize w1.setCell ⟨w.heap.size+1,0,none⟩ (.bool true)=w2 at *
   have bG:=hb4
   clear hb4
   have cG:=bG.cell
   go_upto_region 99 with fail
   refine (zar (x:=x.extract 6 x.size) hr (HE.out _ hw1)).mono ?_
   rintro e w3 ⟨b,A,n,c,A',n',c',ok,rfl,ho,hp,hx3⟩
   have hcand:=za (zbN hjoin hp.out)
   clear cG hjoin hp
   replace bG:=bG.ext hx3
   replace bz1:=bz1.ext hx3
   replace hw1:=hw1.trans hx3
   replace ho:=ho.less hs2
   clear hx3 hs2
   have cG:=bG.cell
   have fG:=bG.frozen
   go_upto_region 9 with fail
   clear cG fG
   have hb4:Blk (((w3.setCell ⟨w.heap.size+1,1,none⟩ (.int .i64 b.al)).setCell ⟨w.heap.size+1,2,none⟩ (.slice A n c)).setCell ⟨w.heap.size+1,3,none⟩ (.slice A' n' c')) (w.heap.size+1) 28 #[.bool true,.int .i64 b.al,.slice A n c,.slice A' n' c',.string ⟨#[]⟩]:=by
    simpa using ((bG.set_ 1 (.int .i64 b.al)).set_ 2 (.slice A n c)).set_ 3 (.slice A' n' c')
   have hf:Frm (fun k=>k=w.heap.size+1) w3 (((w3.setCell ⟨w.heap.size+1,1,none⟩ (.int .i64 b.al)).setCell ⟨w.heap.size+1,2,none⟩ (.slice A n c)).setCell ⟨w.heap.size+1,3,none⟩ (.slice A' n' c')):=((Frm.setCell w3 (w.heap.size+1) 1 _).trans (Frm.setCell _ (w.heap.size+1) 2 _)).trans (Frm.setCell _ (w.heap.size+1) 3 _)
   replace bz1:=bz1.frm hf (by omega)
   have ho1:=(ho.keep hf (fun k h1 e=>by have e':k=w.heap.size+1:=e;omega)).less (show w.heap.size+1≤w.heap.size+1+1 by omega)
   replace hw1:=hw1.frm hf (fun k hk e=>by have e':k=w.heap.size+1:=e;omega)
   clear bG ho hf
   generalize ((w3.setCell ⟨w.heap.size+1,1,none⟩ (.int .i64 b.al)).setCell ⟨w.heap.size+1,2,none⟩ (.slice A n c)).setCell ⟨w.heap.size+1,3,none⟩ (.slice A' n' c')=w4 at *
   have bG:=hb4
   clear hb4
   have cG:=bG.cell
   go_upto_region 99 with fail
   refine (zl (a:=b) (ho1.reads) (show (⟨#[]⟩:ByteArray).size≤2000000 by decide)).mono ?_
   rintro e w9 ⟨tx,rfl,htx,hx9⟩
   clear cG
   replace bG:=bG.ext hx9
   replace bz1:=bz1.ext hx9
   replace ho1:=ho1.ext hx9
   replace hw1:=hw1.trans hx9
   have cG:=bG.cell
   have cz:=bz1.cell
   have fz:=bz1.frozen
   cases hne:tx.toList==x.toList
   ·exact yP03a2
   ·have zcr:=zas (Z:=w.heap.size) (K:=w.heap.size+1) hw1 (Nat.le_refl _) (Nat.lt_succ_self _) ho1 (zac hxne (zaC hne htx.out))
    have r4:=zk bz1 rfl (.bool true) (.int .i64 b.al) (.slice A n c) (.slice A' n' c') (.string ⟨#[]⟩)
    go_wp2_with fail
    have c4:=r4.cell
    exact bodyPost_ret (v:=.tuple #[.agg #[.bool true,.int .i64 b.al,.slice A n c,.slice A' n' c',.string ⟨#[]⟩],.bool true]) (by simp [results,Tryz.results11,go_sem,c4]) rfl zcr.out
 ·have hx0:=zaN he
  have hhf:zbG x ⟨#[104,111,108,100,115,32]⟩=false:=by
   cases h:zbG x ⟨#[104,111,108,100,115,32]⟩
   ·rfl
   ·have:=pre_yes (x:=x) (P:=zH) rfl rfl h
    rw [hx0] at this
    cases this
  have hff:zbG x ⟨#[102,97,105,108,115,32]⟩=false:=by
   cases h:zbG x ⟨#[102,97,105,108,115,32]⟩
   ·rfl
   ·have:=pre_yes (x:=x) (P:=zW) rfl rfl h
    rw [hx0] at this
    cases this
  unfold RetCp at HH HF
  rw [hhf] at HH
  rw [hff] at HF
  have zcr:=zas (Z:=w.heap.size) (K:=w.heap.size+1) (A:=none) (n:=0) (c:=0) (A':=none) (n':=0) (c':=0) hw1 (Nat.le_refl _) (Nat.lt_succ_self _) (zq _ _) (pars_empty hx0)
  have cz:=bz1.cell
  have fz:=bz1.frozen
  have r4:=zk bz1 rfl (.bool false) (.int .i64 0) (.slice none 0 0) (.slice none 0 0) (.string ⟨#[]⟩)
  go_wp2_with fail
  refine (HH.out _).mono ?_
  rintro e w' ⟨rfl,rfl⟩
  go_wp2_with fail
  refine (HF.out _).mono ?_
  rintro e w' ⟨rfl,rfl⟩
  exact yP03c1
end Go.Proofs.YtfcjhpodichpjaaGreatDoor
namespace Go.Proofs.YtfcjhpodichpjaaGreatDoor
open Go Go.ChangeShapes Go.WideShapes Go.ChangeAt Go.RowKit Go.Deep
theorem arg_string {H:Type} {enc:TypeId × Value→H} {w:World} {spare:Nat→Bool} {held:Bool} {r:Reach} {b0:Nat} {v:Value} {d:DataW H} {p:List MemPlace}(hv:Value.okWide Tryz.prog w r b0 9 v)(h:DataW.Trod enc Tryz.prog w 0 spare held 9 v d p) :
  ∃ s:ByteArray,v=.string s∧s.size≤9223372036854775807:=by
 obtain⟨s,rfl⟩:=okWide_string Tryz.underlying9 hv
 obtain⟨fuel,hf⟩:=h
 obtain⟨s',e,_,hs⟩:=DataW.trod_string Tryz.underlying9 hf
 simp [Value.cells] at e
 subst e
 exact⟨s,rfl,by unfold maxLen at hs;omega⟩
end Go.Proofs.YtfcjhpodichpjaaGreatDoor
