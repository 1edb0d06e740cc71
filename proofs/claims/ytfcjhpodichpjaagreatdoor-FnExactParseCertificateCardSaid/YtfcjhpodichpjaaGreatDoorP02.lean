/- spec.FormatA -/
import Derived.Deep.DeepCutAuto
import Derived.BigQuiet
import Derived.Deep.RegionHeld3
import Derived.StillTailTactics
import Derived.Test.YtfcjhpodichpjaaGreatDoorP01
import Derived.Lib.LaidTab
import Derived.LaidMore
import Derived.ProofKit
import Derived.Stop.Joined
import Derived.Stop.LaidErr
import Derived.Lib.TrailingZeros
import Derived.Shelf.Spec.TrailingZeros
import Derived.Lib.SliceRun
import Derived.Deep.AppendLies
import Derived.Laws.Strings
import Derived.Shelf.RegionOpenPlain
import Derived.Deep.LoopGhost
import Derived.Sort.WalkB12
import Derived.Lib.SlicesMore
import Derived.Laws.BytesArg
set_option maxHeartbeats 4000000
set_option maxRecDepth 100000
namespace Go.Proofs.YtfcjhpodichpjaaGreatDoor
open Go Go.RowKit
theorem zbd {a:Aut}(h:zc a=true):∃ al:Nat,a.al=al∧al<64∧1≤a.next.length∧a.next.length≤12∧a.acc.length=a.next.length∧∀ l∈a.next,l.length=(zg al 6).length∧∀ q∈l,0≤q∧q<a.next.length:=by
 simp only [zc,Bool.and_eq_true,decide_eq_true_eq,List.all_eq_true,rowB] at h
 obtain⟨h1,h2,h3,h4⟩:=h
 refine⟨a.al.toNat,by omega,by omega,h2.1,h2.2,h3,fun l hl=>⟨(h4 l hl).1,fun q hq=>(h4 l hl).2 q hq⟩⟩
def zbZ (L:List UInt8) (w:World) (e:Ending) (w':World):Prop:=∃ t:ByteArray,e=.returned (.string t)∧Hid (t.data.toList=L)∧Ext w w'
theorem zaE {t:ByteArray} {L:List UInt8}(h:t.data.toList=L):t.size=L.length:=by
 rw [← h,Array.length_toList]
 rfl
theorem zaf {t u:ByteArray} {L M:List UInt8}(h:t.data.toList=L) (g:u.data.toList=M):(t++u).data.toList=L++M:=by
 rw [ByteArray.data_append,Array.toList_append,h,g]
theorem tx_num (x:Nat):(strOfNums [(x:Int)]).data.toList=[UInt8.ofNat x]:=by simp [strOfNums]
theorem spec_l1TextX {l:Nat} {w:World}(h1:l<6):Calls Tryz.prog 111 #[.int .i64 l] w (zbZ [UInt8.ofNat (97+l)] w):=by
 have hc:=conv_one w
 have hw:IntKind.u8.wrap (97+(l:Int))=((97+l:Nat):Int):=by rw [IntKind.wrap_u8];omega
 go_enter Tryz.func111,Tryz.ntmps111
 go_wp2
 go_ret
 exact⟨_,rfl,za (by first|exact tx_num _|(rw [hw];exact tx_num _)),(Ext.refl _).alloc _⟩
theorem alX_take {ls:List Nat} {k l:Nat}(h:ls[k]?=some l):(ls.take (k+1)).map (fun l=>UInt8.ofNat (97+l))=(ls.take k).map (fun l=>UInt8.ofNat (97+l))++[UInt8.ofNat (97+l)]:=by
 rw [List.take_add_one,h,List.map_append]
 rfl
theorem zJ {a:Nat} {w:World}(ha:a<64) :
  Calls Tryz.prog 57 #[.int .i64 a] w (zbZ (alX a) w):=by
 have hsm:Sm a:=by unfold Sm;omega
 have hd:=za (show decide (0≤(a:Int)∧(a:Int)≤63)=true by simp;omega)
 by_cases h0:a=0
 ·subst h0
  rw [show ((0:Nat):Int)=0 from rfl]
  have hd0:=za (show decide ((0:Int)≤0∧(0:Int)≤63)=true by decide)
  go_enter Tryz.func57,Tryz.ntmps57
  go_wp2_with (go_at_call 59;refine (zn _ _).mono ?_;rw [hd0.out];rintro e w' ⟨rfl,rfl⟩)
  go_ret
  exact⟨_,rfl,za rfl,Ext.refl _⟩
 ·have h0':((a:Int)==0)=false:=by simp;omega
  have hal:=za (show alX a=(zg a 6).map (fun l=>UInt8.ofNat (97+l)) by unfold alX;rw [if_neg h0])
  go_enter Tryz.func57,Tryz.ntmps57
  go_wp2_with fail
  refine (zn _ _).mono ?_
  rw [hd.out]
  rintro e w' ⟨rfl,rfl⟩
  go_wp2_with fail
  refine (zU a hsm _).mono ?_
  rintro e w1 ⟨B,d,rfl,zcs,hx1⟩
  have hl6:=zh a 6
  have hlm:=za (fun k (hk:k∈zg a 6)=>(zax.1 hk).1)
  have hrd:=Reads.of_own zcs
  clear zcs
  generalize zg a 6=ls at *
  go_wp2_with fail
  go_loopw [3,5] (fun v i wr=>∃ k:Nat,k≤ls.length∧i=.int .i64 k∧∃ s:ByteArray,v=.string s∧s.size≤k∧Hid (s.data.toList=(ls.take k).map (fun l=>UInt8.ofNat (97+l)))∧Ext w1 wr) (fun _ i _=>ls.length - (intOf i).toNat)
  case atStart=>exact⟨0,Nat.zero_le _,rfl,_,rfl,Nat.le_refl _,za rfl,Ext.refl _⟩
  case round =>
   obtain⟨k,hk,rfl,s,rfl,hs,hst0,zcq⟩:=hrel
   by_cases hlt:k<ls.length
   ·obtain⟨ad,l,rfl,_,_,hl,hlc⟩:=(hrd.ext zcq).nat hlt
    have hl6':=hlm.out l (List.mem_of_getElem? hl.out)
    go_wp2_with fail
    refine (spec_l1TextX (l:=l) (by omega)).mono ?_
    rintro e w2 ⟨t,rfl,ht,hx2⟩
    have ht1:t.size=1:=zaE ht.out
    have hst:s.size+t.size≤7:=by omega
    go_wp2_with fail
    go_roundw
    case rel=>exact⟨k+1,by omega,by go_num,_,rfl,by rw [ByteArray.size_append];omega,za (by rw [alX_take hl.out];exact zaf hst0.out ht.out),zcq.trans hx2⟩
    case measure=>simp [intOf];omega
   ·obtain rfl:k=ls.length:=by omega
    go_wp2_with fail
    go_ret
    exact⟨s,rfl,za (by rw [hst0.out,hal.out,List.take_length]),hx1.trans zcq⟩
theorem spec_l19DecX {n:Nat} {w:World}(hn:n<100) :
  Calls Tryz.prog 58 #[.int .i64 n] w (zbZ (Lib.decDigits n) w):=by
 have hn1:(n:Int)<100:=by omega
 have Hn:=za hn
 go_enter Tryz.func58,Tryz.ntmps58
 go_wp2_with fail
 go_loopw [0,3] (fun n' v wr=>∃ (m:Nat) (s:ByteArray),n'=.int .i64 m∧v=.string s∧(m<100∧s.size=0∨m<10∧s.size≤1)∧Hid (m=n∧s.data.toList=[]∨9<n∧m=n / 10∧s.data.toList=[UInt8.ofNat (48+n % 10)])∧Ext w wr) (fun n' _ _=>(intOf n').toNat)
 case atStart=>exact⟨n,_,rfl,rfl,Or.inl ⟨hn,rfl⟩,za (Or.inl ⟨rfl,rfl⟩),Ext.refl _⟩
 case round =>
  obtain⟨m,s,rfl,rfl,hms,hmn,zcq⟩:=hrel
  have hm100:m<100:=by omega
  have hc:=conv_one wr
  have hso:=size_one
  by_cases hlt:9<m
  ·have hs0:s.size=0:=by omega
   have hdiv:=za (Int.natCast_ediv m 10)
   have hm9:(9:Int)<(m:Int):=by omega
   have hs1:s.size≤1:=by omega
   have Hs0:=za hs0
   have hmn2:Hid (m=n∧s.data.toList=[]):=za (by
    rcases hmn.out with h|⟨h1,h2,-⟩
    ·exact h
    ·have:=Hn.out
     omega)
   clear hms hs0 hmn
   have hw:IntKind.u8.wrap (48+(m:Int) % 10)=((48+m % 10:Nat):Int):=by rw [IntKind.wrap_u8];omega
   go_wp2_with fail
   go_roundw
   case rel=>exact⟨m / 10,_,by rw [hdiv.out];rfl,rfl,Or.inr ⟨by omega,by rw [ByteArray.size_append,size_one,Hs0.out];omega⟩,za (Or.inr ⟨by have:=hmn2.out.1;omega,by rw [hmn2.out.1],by
    rw [← hmn2.out.1]
    refine (zaf (L:=[UInt8.ofNat (48+m % 10)]) ?_ hmn2.out.2).trans (List.append_nil _)
    first|exact tx_num _|(rw [hw];exact tx_num _)⟩),zcq.alloc _⟩
   case measure=>simp [intOf];omega
  ·have hm9:(m:Int)≤9:=by omega
   have hs1:s.size≤1:=by omega
   clear hms
   have hw:IntKind.u8.wrap (48+(m:Int))=((48+m:Nat):Int):=by rw [IntKind.wrap_u8];omega
   have Hlt:=za (show m<10 by omega)
   go_wp2_with fail
   go_ret
   refine⟨_,rfl,za ?_,zcq.alloc _⟩
   have h1:∀ (M:List UInt8),s.data.toList=M→((strOfNums [((48+m:Nat):Int)])++s).data.toList=UInt8.ofNat (48+m) :: M:=fun M h=>zaf (tx_num _) h
   have h2:((strOfNums [((48+m:Nat):Int)])++s).data.toList=Lib.decDigits n:=by
    rcases hmn.out with ⟨rfl,h⟩|⟨g1,rfl,h⟩
    ·rw [h1 _ h,Lib.decDigits_one Hlt.out]
    ·rw [h1 _ h,Lib.decDigits_two (by omega) Hn.out]
   first|exact h2|(rw [hw];exact h2)
theorem joinX_take {r:List Nat} {j x:Nat}(h:r[j]?=some x):zv (r.take (j+1))=zv (r.take j)++(if 0<j then [44] else [])++Lib.decDigits x:=by
 cases r with
 |nil=>simp at h
 |cons y r =>
  cases j with
  |zero =>
   simp only [List.getElem?_cons_zero,Option.some.injEq] at h
   subst h
   simp [zv,keyL]
  |succ j =>
   simp only [List.getElem?_cons_succ] at h
   rw [List.take_succ_cons,List.take_succ_cons,List.take_add_one,h]
   show keyL _ _ (r.take j++[x])=keyL _ _ _++_++_
   rw [keyL_snoc]
   simp
theorem zbS {a:Aut} {k:Nat} {l:List Int} {b:Bool}(hl:a.next[k]?=some l)(hb:a.acc[k]?=some b):((zO a).take (k+1)).flatMap (32 :: ·)=((zO a).take k).flatMap (32 :: ·)++32 :: zbR b l:=by
 have h:(zO a)[k]?=some (zbR b l):=by
  unfold zO
  rw [List.getElem?_map,(List.getElem?_zip_eq_some (z:=(l,b))).2 ⟨hl,hb⟩]
  rfl
 rw [List.take_add_one,h,List.flatMap_append]
 simp
theorem zG {lo hi:Nat} {A:Option Addr} {n c:Nat} {A':Option Addr} {n' c':Nat} {a:Aut} {w:World}(h:zz w lo hi A n A' n' a) :
  Calls Tryz.prog 26 #[.agg #[.int .i64 a.al,.slice A n c,.slice A' n' c']] w (zbZ (zV a) w):=by
 have HV:=za (fun W (hW:Ext w W)=>zP lo hi A n c A' n' c' a W ⟨h.1.ext hW,h.2.1,h.2.2.ext hW⟩)
 cases h1:zc a
 ·have H1:=za h1
  have HX:=za (show zV a=[] by unfold zV;rw [h1];rfl)
  clear h1 h
  go_enter Tryz.func26,Tryz.ntmps26
  go_wp2_with (go_at_call 27;refine (HV.out _ ((Ext.refl _).alloc _)).mono ?_;rw [H1.out];rintro e w1 ⟨rfl,hx⟩)
  go_ret
  exact⟨_,rfl,za HX.out.symm,((Ext.refl _).alloc _).trans hx⟩
 ·have HX:=za (show zV a=alX a.al.toNat++(zO a).flatMap (32 :: ·) by unfold zV;rw [h1];rfl)
  have Hsm:=za (ze h1)
  obtain⟨al,ha,ha2,hn1,hn2,hac,hrows⟩:=zbd h1
  have H1:=za h1
  have Hn:=za h.n1
  have Hn':=za h.n2
  have Ha:=za ha
  have Hrows:=za hrows
  have HS:=za (fun W (hW:Ext w W)=>h.1.ext hW)
  have HB:=za (fun W (hW:Ext w W)=>h.2.2.ext hW)
  have e1:n=n':=by have:=h.n1;have:=h.n2;omega
  subst e1
  have hnn:n≤12:=by have:=h.n1;omega
  clear h1 ha hn1 hn2 hac hrows h
  go_enter Tryz.func26,Tryz.ntmps26
  go_wp2_with fail
  refine (HV.out _ ((Ext.refl _).alloc _)).mono ?_
  rw [H1.out]
  rintro e w1 ⟨rfl,hx⟩
  have b1:=zw hx
  rw [Ha.out] at b1
  have hw1:=((Ext.refl w).alloc _).trans hx
  have cb:=b1.cells
  have hr1:=Ext.refl w1
  clear hx
  go_wp2_with fail
  refine (zJ ha2).mono ?_
  rintro e w2 ⟨t2,rfl,ht2,hx2⟩
  have hts:t2.size≤6:=by
   rw [zaE ht2.out]
   unfold alX
   split
   ·simp
   ·rw [List.length_map]
    exact zh al 6
  have hat:al=a.al.toNat:=by have:=Ha.out;omega
  rw [hat] at ht2
  clear hat
  go_wp2_with fail
  go_loopw [3,4] (fun v i wr=>∃ (k:Nat) (t:ByteArray),k≤n∧i=.int .i64 k∧v=.string t∧t.size≤20+100*k∧Hid (t.data.toList=alX a.al.toNat++((zO a).take k).flatMap (32 :: ·))∧Ext w1 wr) (fun _ i _=>n - (intOf i).toNat)
  case atStart=>exact⟨0,t2,Nat.zero_le _,rfl,rfl,by omega,za (by rw [ht2.out];simp),hx2⟩
  case round =>
   clear hx2 ht2 hr1 hts
   obtain⟨k,t,hk,rfl,rfl,ht,htx,zcq⟩:=hrel
   have cb0:=cb wr zcq
   by_cases hlt:k<n
   ·obtain⟨ad,Ak,ck,l,rfl,_,_,hl,hc0,hrk⟩:=(HS.out wr (hw1.trans zcq)).row hlt
    obtain⟨ad',x,rfl,_,_,hbx,hb0⟩:=(HB.out wr (hw1.trans zcq)).bool hlt
    have hq:=za (Hrows.out l (List.mem_of_getElem? hl.out))
    have hl6:l.length≤6:=by have:=hq.out.1;have:=zh al 6;omega
    have Hrk:=za (fun W (hW:Ext wr W)=>hrk.ext hW)
    have Hcr:=za (fun W (hW:Ext wr W)=>hW.cell_some hc0)
    have Hcb:=za (fun W (hW:Ext wr W)=>cb W (zcq.trans hW))
    have Htk:=za (zbS hl.out hbx.out)
    have hww:=Ext.refl wr
    clear hrk
    go_upto_if 24 with fail
    go_cut [5] (fun s5 wx=>∃ m:ByteArray,s5=.string m∧m.size=2∧Hid (m.data.toList=[32,if x then 43 else 45])∧Ext wr wx)
    case first =>
     cases x
     ·go_wp2_with fail
      go_meet
      exact⟨{ data:=#[32,45] },rfl,rfl,za rfl,hww⟩
     ·go_wp2_with fail
      go_meet
      exact⟨{ data:=#[32,43] },rfl,rfl,za rfl,hww⟩
    case rest =>
     clear hc0 hb0 cb0 hww
     obtain⟨m,rfl,hm2,hmx,hwc⟩:=hcut
     obtain⟨wK,hwK⟩:∃ wK,wK=wr:=⟨_,rfl⟩
     rw [← hwK] at Hrk Hcr Hcb hwc zcq
     clear hwK
     have q0:¬ 9223372036854775807<t.size+m.size:=by omega
     have hsz:(t++m).size=t.size+2:=by rw [ByteArray.size_append,hm2]
     have htm:=za (zaf htx.out hmx.out)
     go_upto_region 11 with fail
     generalize t++m=t1 at *
     clear q0
     go_wp2_with fail
     go_loopw [3,6] (fun v jv wr=>∃ (j:Nat) (t:ByteArray),j≤l.length∧jv=.int .i64 j∧v=.string t∧t.size≤22+100*k+10*j∧Hid (t.data.toList=(alX a.al.toNat++((zO a).take k).flatMap (32 :: ·)++[32,if x then 43 else 45])++zv ((l.map Int.toNat).take j))∧Ext wK wr) (fun _ jv _=>l.length - (intOf jv).toNat)
     case atStart=>exact⟨0,t1,Nat.zero_le _,rfl,rfl,by omega,za (by rw [htm.out];simp [zv]),hwc⟩
     case round =>
      clear hwc
      obtain⟨j,t2,hj,rfl,rfl,ht2,htx2,hwx⟩:=hrel
      have cb0:=Hcb.out wr hwx
      have hc0:=Hcr.out wr hwx
      by_cases hjl:j<l.length
      ·obtain⟨ad2,q,rfl,-,-,hql,hcq⟩:=(Hrk.out wr hwx).int hjl
       obtain⟨hq0,hq1⟩:=hq.out.2 q (List.mem_of_getElem? hql.out)
       obtain⟨u,rfl⟩:∃ u:Nat,q=u:=⟨q.toNat,by omega⟩
       have hu:u<100:=by have:=Hn.out;omega
       have Hjt:=za (joinX_take (r:=l.map Int.toNat) (j:=j) (x:=u) (by rw [List.getElem?_map,hql.out];rfl))
       clear hq0 hq1
       go_upto_if 39 with fail
       go_cut [3] (fun s3 wx=>∃ m:ByteArray,s3=.string m∧m.size≤t2.size+1∧Hid (m.data.toList=t2.data.toList++(if 0<j then [44] else []))∧wx=wr)
       case first =>
        by_cases hj0:0<j
        ·have hj0':((j:Int)>0):=by omega
         have q1:¬ 9223372036854775807<t2.size+1:=by omega
         go_wp2_with fail
         go_meet
         exact⟨_,rfl,by rw [ByteArray.size_append];exact Nat.le_refl _,za (by rw [if_pos hj0];exact zaf rfl rfl),rfl⟩
        ·have hj0':¬ ((j:Int)>0):=by omega
         go_wp2_with fail
         go_meet
         exact⟨t2,rfl,by omega,za (by rw [if_neg hj0,List.append_nil]),rfl⟩
       case rest =>
        obtain⟨m3,rfl,hm3,hmx3,rfl⟩:=hcut
        go_wp2_with fail
        refine (spec_l19DecX (n:=u) hu).mono ?_
        rintro e w4 ⟨t4,rfl,ht4,hx4⟩
        have ht42:t4.size≤2:=by rw [zaE ht4.out];exact dig_len hu
        have q2:¬ 9223372036854775807<m3.size+t4.size:=by omega
        go_wp2_with fail
        go_roundw
        case rel=>exact⟨j+1,_,by omega,by go_num,rfl,by rw [ByteArray.size_append];omega,za (by rw [zaf hmx3.out ht4.out,htx2.out,Hjt.out];simp only [List.append_assoc]),hwx.trans hx4⟩
        case measure=>simp [intOf];omega
      ·obtain rfl:j=l.length:=by omega
       go_wp2_with fail
       go_roundw
       case rel=>exact⟨k+1,t2,by omega,by go_num,rfl,by omega,za (by
        have e:(l.map Int.toNat).take l.length=l.map Int.toNat:=List.take_of_length_le (by simp)
        rw [htx2.out,Htk.out,e]
        unfold zbR
        simp),zcq.trans hwx⟩
       case measure=>simp [intOf];omega
   ·obtain rfl:n=k:=by omega
    go_wp2_with fail
    go_ret
    exact⟨t,rfl,za (by
     rw [htx.out,HX.out,List.take_of_length_le]
     unfold zO
     rw [List.length_map,List.length_zip]
     have:=Hn.out
     omega),hw1.trans zcq⟩
end Go.Proofs.YtfcjhpodichpjaaGreatDoor
namespace Go.Proofs.YtfcjhpodichpjaaGreatDoor
open Go Go.RowKit Go.Lib Go.Shelf
theorem zbP (y:ByteArray) (w:World):Calls Tryz.prog 155 #[.string y,.string ⟨#[44]⟩] w fun e w'=>e=.returned (.int .i64 (Lib.index y.data.toList [44]))∧w'=w:=by
 have h:=Any.strings_Index_one { zbi with } y 44 w
 rw [Lib.index_one]
 exact h
theorem lib_Split {s:ByteArray} {w:World}(hs:s.size≤2000000):Calls Tryz.prog 64 #[.string s,.string ⟨#[32]⟩] w (RetCut 32 s w):=by
 have hle:=Lib.countB_le ⟨#[32]⟩ (by decide) s.size s (Nat.le_refl _)
 have hlen:=Lib.splitB_all ⟨#[32]⟩ (by decide) 0 _ s rfl
 have hC:=Any.strings_Count_one { zbi with } s 32 w
 rw [show ((Lib.countByte s.data.toList 32:Nat):Int)=(Lib.countB s ⟨#[32]⟩:Nat) by
  show _=((Lib.count s.data.toList [32]:Nat):Int)
  rw [Lib.count_one]
  rfl] at hC
 have hg:=Any.strings_genSplit_core { zbi with } laySplit9 s ⟨#[32]⟩ 0 (-1) (Lib.countB s ⟨#[32]⟩+1) w (by omega) (by decide) (by decide)
  (fun x c hx=>by
   have h:=Any.strings_Index_one { zbi with } x 32 (w.alloc (.cells c (zaj.t 9)))
   rw [← Lib.index_one] at h
   exact h) hC (by decide) (by decide) (by rw [if_pos (by decide)];omega)
 rw [Nat.add_sub_cancel,hlen] at hg
 have e2:Lib.cellsOf (Lib.splitB ⟨#[32]⟩ 0 (Lib.countB s ⟨#[32]⟩) s) (Lib.countB s ⟨#[32]⟩+1)=((Lib.splitB ⟨#[32]⟩ 0 (Lib.countB s ⟨#[32]⟩) s).map Value.string).toArray:=by rw [← hlen];exact Lib.cellsOf_full _
 rw [e2] at hg
 change Calls Tryz.prog 114 _ _ _ at hg
 have Hcut:=za (split_bytes 32 s)
 have Hg:=za hg
 clear hg hC e2
 generalize Lib.splitB ⟨#[32]⟩ 0 (Lib.countB s ⟨#[32]⟩) s=l at *
 generalize Lib.countB s ⟨#[32]⟩=cn at *
 have Hl:=za hlen
 have hcn:cn≤s.size:=hle
 clear hlen hle
 go_enter Tryz.func64,Tryz.ntmps64
 go_wp2_with (go_at_call 114;refine Hg.out.mono ?_;rintro e w' ⟨rfl,rfl⟩)
 go_ret
 refine⟨_,_,_,l,rfl,Hl.out.symm,by omega,?_,by omega,Hcut,(Ext.refl _).alloc _⟩
 exact World.ownsRow_lit (base:=w.heap.size) (e:=9) (size:=1) w (l.map Value.string).toArray (cn+1) (Nat.le_refl _) (by unfold maxLen;omega) (by simp [Hl.out])
def Sent (w:World):Prop:=(∃ v,w.cell? ⟨2,0,none⟩=some v∧(v=.nilIface∨∃ t p,v=.iface t p))∧∃ v,w.cell? ⟨3,0,none⟩=some v∧(v=.nilIface∨∃ t p,v=.iface t p)
theorem Sent.ext {w w':World}(h:Sent w)(hx:Ext w w'):Sent w':=by
 obtain⟨⟨u,hu,hu'⟩,⟨v,hv,hv'⟩⟩:=h
 exact⟨⟨u,hx.cell_some hu,hu'⟩,⟨v,hx.cell_some hv,hv'⟩⟩
def RetAt (s:ByteArray) (w:World) (e:Ending) (w':World):Prop:=
 ((∃ v:Int,e=.returned (.tuple #[.int .i64 v,.nilIface])∧Hid (Lib.atoiAll s.data.toList=.ok v))∨(∃ (v:Int) (t:TypeId) (p:Value),e=.returned (.tuple #[.int .i64 v,.iface t p])∧Hid (∀ v,Lib.atoiAll s.data.toList≠.ok v)))∧Ext w w'
theorem lib_Atoi {s:ByteArray} {w:World}(hs:s.size≤2000000)(hE:Sent w):Calls Tryz.prog 116 #[.string s] w (RetAt s w):=by
 obtain⟨⟨u,hu,hu'⟩,⟨v,hv,hv'⟩⟩:=hE
 cases h:Lib.atoiAll s.data.toList with
 |ok n =>
  have hc:=Any.strconv_Atoi_ok layAtoi s (by omega) n h w
  change Calls Tryz.prog 116 _ _ _ at hc
  refine hc.mono ?_
  rintro e w' ⟨rfl,hw⟩
  refine⟨.inl ⟨n,rfl,za h⟩,?_⟩
  rcases hw with rfl|⟨t,rfl⟩
  ·exact Ext.refl _
  ·exact Ext.of_below (Lib.bytesWorld_below _ _ _)
 |_ =>
  first
  |(have hc:=Any.strconv_Atoi_syntax layAtoi s (by omega) h u w hu hu'
    change Calls Tryz.prog 116 _ _ _ at hc
    refine hc.mono ?_
    rintro e w' ⟨N,rfl,-,-,hb⟩
    exact⟨.inr ⟨_,_,_,rfl,za (fun v e=>by rw [h] at e;cases e)⟩,Ext.of_below hb⟩)
  |(have hc:=Any.strconv_Atoi_range layAtoi s (by omega) h v w hv hv'
    change Calls Tryz.prog 116 _ _ _ at hc
    refine hc.mono ?_
    rintro e w' ⟨N,rfl,-,-,hb⟩
    exact⟨.inr ⟨_,_,_,rfl,za (fun v e=>by rw [h] at e;cases e)⟩,Ext.of_below hb⟩)
end Go.Proofs.YtfcjhpodichpjaaGreatDoor
namespace Go.Proofs.YtfcjhpodichpjaaGreatDoor
open Go Go.RowKit
theorem err_star : "*" ++ "errors.errorString" = "*errors.errorString" := by decide
theorem err_row (u : TypeId) (h : Tryz.prog.typeName? 3 u = some "*errors.errorString") : u = 268 :=
 typeName_ptr_named (nm := "errors.errorString") (by rw [err_star]; kernel_rfl) (by kernel_rfl) (by decide) u (by rw [err_star]; exact h)
theorem sent_one {W : World} {text : List UInt8} {n : String} {g : Nat} {rest : List (String × DataW Unit)} (h : laidMet Tryz.prog ((n, .iface "*errors.errorString" (.ptr (.agg [.lit (.string text)]))) :: rest) W) (hg : Tryz.prog.globalNamed n = some g) (ht : (Tryz.prog.globals[g]?).map (·.type) = some 122) :
  ∃ v,W.cell? ⟨g,0,none⟩=some v∧(v=.nilIface∨∃ t p,v=.iface t p):=by
 obtain⟨a,s,hv,-,-,-⟩:=laid_sentinel h hg ht Tryz.underlying122 err_row Tryz.underlying268 Tryz.underlying270 rfl rfl Tryz.underlying9 (by kernel_rfl) (by kernel_rfl)
 exact⟨_,by simpa using World.var?_cell hg hv 0,.inr ⟨_,_,rfl⟩⟩
theorem sent_of {W : World} {rest : List (String × DataW Unit)} (h : laidMet Tryz.prog (("strconv.ErrRange", Rows.laid_strconv_ErrRange) :: ("strconv.ErrSyntax", Rows.laid_strconv_ErrSyntax) :: rest) W) : Sent W :=
 ⟨sent_one (laidMet.tail h) (g:=2) (by kernel_rfl) (by kernel_rfl),sent_one h (g:=3) (by kernel_rfl) (by kernel_rfl)⟩
def zbx:Op→Bool
 |.makeFunc _ _ _ | .move _ | .assign _ | .pick _ _ _ | .binOp _ _ _ _ _ | .unOp _ _ _ | .fieldAddr _ _ _ | .field _ _ _ | .extract _ _ | .build _ _=>true
 |_=>false
def zad:Op→Bool
 |.makeFunc _ _ _=>true
 |o=>quietOp o
inductive zaq where
 |nil:zaq
 |one:Nat→zaq→zaq
 |two:Nat→zaq→Nat→zaq→zaq
 |three:Nat→zaq→Nat→zaq→Nat→zaq→zaq
def zaq.of:List Nat→zaq
 |[]=>.nil
 |i :: r=>.one i (zaq.of r)
def zS (l:List Oper) (T:List Nat):zaq→Array Bool→Bool
 |.nil,listed=>(Region.ready .any l.toArray listed).isEmpty
 |.one i rest,listed =>
  (match l[i]? with
   |some o=>if zad o.op then Region.free .any l.toArray listed i&&(Region.ready .any l.toArray listed).contains i&&!T.contains i&&(zbx o.op || T.all fun t=>below l l.length t i)
    else Region.ready .any l.toArray listed==[i]
   |none=>false)&&zS l T rest (listed.setIfInBounds i true)
 |.two i r j r',listed=>(i<l.length&&j<l.length&&Region.ready .any l.toArray listed==[i,j])&&(zS l T r (listed.setIfInBounds i true)&&zS l T r' (listed.setIfInBounds j true))
 |.three i r j r' k r'',listed=>(i<l.length&&j<l.length&&k<l.length&&Region.ready .any l.toArray listed==[i,j,k])&&(zS l T r (listed.setIfInBounds i true)&&zS l T r' (listed.setIfInBounds j true)&&zS l T r'' (listed.setIfInBounds k true))
def zm (P:Program) (l:List Oper) (T:List Nat) (Q:Exit→Act→World→Prop) (S:World→Prop):zaq→Act→World→Prop
 |.nil,a,w=>Q .normal a w
 |.one i rest,a,w=>match l[i]? with
  |some o=>if zad o.op then ∃ v,YieldsIf P l.toArray (if zbx o.op then fun _=>True else S) o v a∧zm P l T Q S rest (a.put o.dst v) w
   else wpOp P l.toArray Q i (fun a' w'=>(T.contains i=false→S w')∧zm P l T Q S rest a' w') a w
  |none=>False
 |.two i r j r',a,w=>wpOp P l.toArray Q i (fun a' w'=>(T.contains i=false→S w')∧zm P l T Q S r a' w') a w∧wpOp P l.toArray Q j (fun a' w'=>(T.contains j=false→S w')∧zm P l T Q S r' a' w') a w
 |.three i r j r' k r'',a,w=>wpOp P l.toArray Q i (fun a' w'=>(T.contains i=false→S w')∧zm P l T Q S r a' w') a w∧wpOp P l.toArray Q j (fun a' w'=>(T.contains j=false→S w')∧zm P l T Q S r' a' w') a w∧wpOp P l.toArray Q k (fun a' w'=>(T.contains k=false→S w')∧zm P l T Q S r'' a' w') a w
def zaq.len:zaq→Nat
 |.nil=>0
 |.one _ r=>r.len+1
 |.two _ r _ _=>r.len+1
 |.three _ r _ _ _ _=>r.len+1
def zaq.even:zaq→Bool
 |.nil=>true
 |.one _ r=>r.even
 |.two _ r _ r'=>r.len==r'.len&&(r.even&&r'.even)
 |.three _ r _ r' _ r''=>(r.len==r'.len&&r.len==r''.len)&&(r.even&&r'.even&&r''.even)
section
variable {P:Program} {l:List Oper} {Q:Exit→Act→World→Prop} {S:World→Prop} {T:List Nat}
theorem zy (hs:Region.noSelect l.toArray=true)(hQ:∀ (c:List PanicEntry) (a:Act) (d:Tmp) (v:Value) (w:World),Q (.panic c) (a.put (some d) v) w→Q (.panic c) a w) :
  ∀ (ord:zaq) (listed:Array Bool) (a:Act) (w:World),listed.size=l.length→Clo l listed→ord.even=true→zS l T ord listed=true→(zbC T listed∨S w)→zm P l T Q S ord a w →
   wpAnyL P .any l.toArray Q (fun listed w=>zbC T listed∨S w) ord.len listed a w
 |.nil,listed,a,w,_,_,_,hok,_,h=>by
  simp only [zS,List.isEmpty_iff] at hok
  exact⟨hok,h⟩
 |.one i rest,listed,a,w,hsz,hc,hev,hok,hS,h=>by
  cases ho:l[i]? with
  |none=>simp [zS,ho] at hok
  |some o =>
   have hil:i<l.length:=(List.getElem?_eq_some_iff.1 ho).1
   simp only [zS,ho,Bool.and_eq_true] at hok
   simp only [zm,ho] at h
   by_cases hq:zad o.op=true
   ·rw [if_pos hq] at hok h
    simp only [Bool.and_eq_true] at hok
    obtain⟨⟨⟨⟨hf,hrd⟩,hnT⟩,hpure⟩,hrest⟩:=hok
    obtain⟨v,hy,hr⟩:=h
    have hmem:i∈Region.ready .any l.toArray listed:=by simpa using hrd
    have hnT':i∉T:=by simpa using hnT
    have hset:∀ listed:Array Bool,zbC T (listed.setIfInBounds i true)↔zbC T listed:=fun listed=>by
     constructor
     ·rintro ⟨t,ht,hl⟩
      refine⟨t,ht,?_⟩
      rwa [getD_set_ne false (by rintro rfl;exact hnT' ht)] at hl
     ·rintro ⟨t,ht,hl⟩
      exact⟨t,ht,getD_set_true hl⟩
    refine wpAnyL_first (G:=fun listed=>Clo l listed∧listed.size=l.length) (by simpa using ho) (Region.noSelect_spec hs)
     (fun c a w h=>by cases hd:o.dst with|none=>rw [hd] at h;exact h|some d=>rw [hd] at h;exact hQ c a d v w h)
     (fun li j hj hg=>⟨zR hj hg.1,by simpa using hg.2⟩) ?_ (fun li w h=>h.imp (fun x=>(hset li).2 x) id) (fun li w _ h=>h.imp (fun x=>(hset li).1 x) id)
     rest.len listed a w ⟨hc,hsz⟩ (Region.free_spec (by simpa using ho) hf) hmem hy hS ?_
    ·intro li w' hg hun h
     by_cases hp:zbx o.op=true
     ·rw [if_pos hp];trivial
     ·rw [if_neg hp]
      rcases h with ⟨t,ht,hl⟩|h
      ·exfalso
       simp only [hp,Bool.false_or] at hpure
       have hb:=List.all_eq_true.1 hpure t ht
       have h1:=zbL hg.1 _ _ _ hb hl
       have h2:i<li.size:=by rw [hg.2];exact hil
       simp [h2] at hun h1
       rw [h1] at hun;cases hun
      ·exact h
    ·exact zy hs hQ rest _ _ _ (by simpa using hsz) (zR hmem hc) hev hrest (hS.imp (fun x=>(hset _).2 x) id) hr
   ·rw [if_neg hq] at hok h
    have hready:Region.ready .any l.toArray listed=[i]:=by simpa using hok.1
    have hmem:i∈Region.ready .any l.toArray listed:=by rw [hready];simp
    refine⟨fun h0=>(by rw [h0] at hready;cases hready),fun j hj=>?_⟩
    rw [hready] at hj
    rw [List.mem_singleton.1 hj]
    refine wpOp_mono (fun a' w' h=>?_) h
    have hS':zbC T (listed.setIfInBounds i true)∨S w':=by
     cases hT:T.contains i
     ·exact Or.inr (h.1 hT)
     ·refine Or.inl ⟨i,by simpa using hT,?_⟩
      have:i<listed.size:=by omega
      simp [this]
    exact⟨hS',zy hs hQ rest _ _ _ (by simpa using hsz) (zR hmem hc) hev hok.2 hS' h.2⟩
 |.two i r j r',listed,a,w,hsz,hc,hev,hok,hS,h=>by
  simp only [zaq.even,Bool.and_eq_true,beq_iff_eq] at hev
  simp only [zS,Bool.and_eq_true,decide_eq_true_eq,beq_iff_eq] at hok
  simp only [zm] at h
  obtain⟨⟨⟨hi,hj⟩,hready⟩,hok1,hok2⟩:=hok
  have hlen:(zaq.two i r j r').len=r.len+1:=rfl
  rw [hlen]
  have hm:∀ k,k∈Region.ready .any l.toArray listed↔k=i∨k=j:=fun k=>by rw [hready];simp
  have hS':∀ k w',k<l.length→(T.contains k=false→S w')→zbC T (listed.setIfInBounds k true)∨S w':=fun k w' hk hx=>by
   cases hT:T.contains k
   ·exact Or.inr (hx hT)
   ·refine Or.inl ⟨k,by simpa using hT,?_⟩
    have:k<listed.size:=by omega
    simp [this]
  refine⟨fun h0=>(by rw [h0] at hready;cases hready),fun k hk=>?_⟩
  rcases (hm k).1 hk with hk' | hk'
  ·rw [hk'] at hk ⊢
   refine wpOp_mono (fun a' w' h=>?_) h.1
   exact⟨hS' _ _ hi h.1,zy hs hQ r _ _ _ (by simpa using hsz) (zR hk hc) hev.2.1 hok1 (hS' _ _ hi h.1) h.2⟩
  ·rw [hk'] at hk ⊢
   refine wpOp_mono (fun a' w' h=>?_) h.2
   have:=zy hs hQ r' _ _ _ (by simpa using hsz) (zR hk hc) hev.2.2 hok2 (hS' _ _ hj h.1) h.2
   rw [← hev.1] at this
   exact⟨hS' _ _ hj h.1,this⟩
 |.three i r j r' k r'',listed,a,w,hsz,hc,hev,hok,hS,h=>by
  simp only [zaq.even,Bool.and_eq_true,beq_iff_eq] at hev
  simp only [zS,Bool.and_eq_true,decide_eq_true_eq,beq_iff_eq] at hok
  simp only [zm] at h
  obtain⟨⟨⟨⟨hi,hj⟩,hk⟩,hready⟩,⟨hok1,hok2⟩,hok3⟩:=hok
  obtain⟨⟨e1,e2⟩,⟨v1,v2⟩,v3⟩:=hev
  have hlen:(zaq.three i r j r' k r'').len=r.len+1:=rfl
  rw [hlen]
  have hm:∀ x,x∈Region.ready .any l.toArray listed↔x=i∨x=j∨x=k:=fun x=>by rw [hready];simp
  have hS':∀ k w',k<l.length→(T.contains k=false→S w')→zbC T (listed.setIfInBounds k true)∨S w':=fun k w' hk hx=>by
   cases hT:T.contains k
   ·exact Or.inr (hx hT)
   ·refine Or.inl ⟨k,by simpa using hT,?_⟩
    have:k<listed.size:=by omega
    simp [this]
  refine⟨fun h0=>(by rw [h0] at hready;cases hready),fun x hx=>?_⟩
  rcases (hm x).1 hx with hx' | hx' | hx'
  ·rw [hx'] at hx ⊢
   refine wpOp_mono (fun a' w' h=>?_) h.1
   exact⟨hS' _ _ hi h.1,zy hs hQ r _ _ _ (by simpa using hsz) (zR hx hc) v1 hok1 (hS' _ _ hi h.1) h.2⟩
  ·rw [hx'] at hx ⊢
   refine wpOp_mono (fun a' w' h=>?_) h.2.1
   have:=zy hs hQ r' _ _ _ (by simpa using hsz) (zR hx hc) v2 hok2 (hS' _ _ hj h.1) h.2
   rw [← e1] at this
   exact⟨hS' _ _ hj h.1,this⟩
  ·rw [hx'] at hx ⊢
   refine wpOp_mono (fun a' w' h=>?_) h.2.2
   have:=zy hs hQ r'' _ _ _ (by simpa using hsz) (zR hx hc) v3 hok3 (hS' _ _ hk h.1) h.2
   rw [← e2] at this
   exact⟨hS' _ _ hk h.1,this⟩
theorem zbF {id:Nat} {a:Act} {w:World} (S:World→Prop) (T:List Nat) (ord:zaq)(hm:P.follows .mixedOrders=true)(hlen:ord.len=l.length)(hev:ord.even=true)(hs:Region.noSelect l.toArray=true)(hok:zS l T ord (Array.replicate l.length false)=true)
  (hQ:∀ (c:List PanicEntry) (a:Act) (d:Tmp) (v:Value) (w:World),Q (.panic c) (a.put (some d) v) w→Q (.panic c) a w) (hS:S w.drew) (h:zm P l T Q S ord a w.drew):(Code.region id l.toArray true).wp P Q a w:=by
 refine wp_region_any hm ?_
 have:=zbX _ _ _ _ (zy hs hQ ord _ a w.drew (by simp) (clo_start l) hev hok (Or.inr hS) h)
 rw [hlen] at this
 simpa using this
theorem useq_nil {a:Act} {w:World}(h:Q .normal a w):zm P l T Q S .nil a w:=h
theorem useq_pure {i:Nat} {rest:zaq} {o:Oper} {v:Value} {a:Act} {w:World}(ho:l[i]?=some o)(hq:zad o.op=true) (_hp:zbx o.op=true)(hw:Region.wanted o (yielded l.toArray a.tmps)=true)
  (hy:∀ W,(execOp a.eval o).run P W=.ok (.value v) W) (h:zm P l T Q S rest (a.put o.dst v) w):zm P l T Q S (.one i rest) a w:=by
 simp only [zm,ho,hq,if_true]
 exact⟨v,.inl ⟨hw,fun W _=>hy W⟩,h⟩
theorem useq_read {i:Nat} {rest:zaq} {o:Oper} {v:Value} {a:Act} {w:World}(ho:l[i]?=some o)(hq:zad o.op=true)(hp:zbx o.op=false)(hw:Region.wanted o (yielded l.toArray a.tmps)=true)
  (hy:∀ W,S W→(execOp a.eval o).run P W=.ok (.value v) W) (h:zm P l T Q S rest (a.put o.dst v) w):zm P l T Q S (.one i rest) a w:=by
 simp only [zm,ho,hq,hp,if_true]
 exact⟨v,.inl ⟨hw,hy⟩,h⟩
theorem useq_skip {i:Nat} {rest:zaq} {o:Oper} {a:Act} {w:World}(ho:l[i]?=some o)(hw:Region.wanted o (yielded l.toArray a.tmps)=false)
  (hS:S w) (h:zm P l T Q S rest (a.put o.dst undef) w):zm P l T Q S (.one i rest) a w:=by
 simp only [zm,ho]
 split
 ·exact⟨undef,.inr ⟨hw,rfl⟩,h⟩
 ·unfold wpOp
  simp only [List.getElem?_toArray,ho,hw,Bool.false_eq_true,if_false]
  exact⟨fun _=>hS,h⟩
theorem useq_step {i:Nat} {rest:zaq} {o:Oper} {a:Act} {w:World}
  (h:∀ K:Act→World→Prop,Shut (∀ a w,S w→zm P l T Q S rest a w→K a w)→o.wp P a w K Q) (ho:l[i]?=some o:=by rfl) (hq:zad o.op=false:=by rfl) (hw:Region.wanted o (yielded l.toArray a.tmps)=true:=by rfl):zm P l T Q S (.one i rest) a w:=by
 simp only [zm,ho,hq]
 unfold wpOp
 simp only [List.getElem?_toArray,ho,hw,if_true]
 exact .inl (h _ fun a w hS hW=>⟨fun _=>hS,hW⟩)
theorem zaR {i:Nat} {rest:zaq} {o:Oper} {a:Act} {w:World}
  (h:∀ K:Act→World→Prop,Shut (∀ a w,zm P l T Q S rest a w→K a w)→o.wp P a w K Q) (ho:l[i]?=some o:=by rfl) (hq:zad o.op=false:=by rfl) (hT:T.contains i=true:=by rfl) (hw:Region.wanted o (yielded l.toArray a.tmps)=true:=by rfl):zm P l T Q S (.one i rest) a w:=by
 simp only [zm,ho,hq]
 unfold wpOp
 simp only [List.getElem?_toArray,ho,hw,if_true]
 exact .inl (h _ fun a w hW=>⟨fun hn=>absurd (hn.symm.trans hT) (by decide),hW⟩)
end
theorem uQ {A B:Prop}(h:B) (k:Bx B→A:=by
 intro h0
 repeat (first|(refine useq_skip rfl rfl (by assumption) ?_;simp only [Act.put,List.setIfInBounds_toArray,List.set_cons_zero,List.set_cons_succ])|(refine useq_pure (v:=?_) rfl rfl rfl rfl (fun X=>?_) ?_;rotate_left;(focus (go_simp<;>with_reducible rfl));simp only [Act.put,List.setIfInBounds_toArray,List.set_cons_zero,List.set_cons_succ])|(refine useq_read (v:=?_) rfl rfl rfl rfl (fun X hX=>?_) ?_;rotate_left;(focus (go_simp<;>with_reducible rfl));simp only [Act.put,List.setIfInBounds_toArray,List.set_cons_zero,List.set_cons_succ]))
 exact h0.out):A:=k ⟨h⟩
theorem uR {P:Program} {l:List Oper} {Q:Exit→Act→World→Prop} {id:Nat} {a:Act} {w:World} (S:World→Prop) (T:List Nat) (ord:zaq)(h:zm P l T Q S ord a w.drew)(hm:P.follows .mixedOrders=true:=by kernel_rfl)(hlen:ord.len=l.length:=by kernel_rfl)(hev:ord.even=true:=by kernel_rfl)(hs:Region.noSelect l.toArray=true:=by kernel_rfl)(hok:zS l T ord (Array.replicate l.length false)=true:=by kernel_rfl)
  (hQ:∀ (c:List PanicEntry) (a:Act) (d:Tmp) (v:Value) (w:World),Q (.panic c) (a.put (some d) v) w→Q (.panic c) a w:=by exact fun _ _ _ _ _ h=>h) (hS:S w.drew:=by first|assumption|exact (Ext.refl _).drew|(refine Ext.drew ?_;assumption)):(Code.region id l.toArray true).wp P Q a w:=
 zbF S T ord hm hlen hev hs hok hQ hS h
theorem fillA_frm (W:World) (Z:Nat) (u0 u1 u2:Value):Frm (fun k=>k=Z) W (((W.setCell ⟨Z,0,none⟩ u0).setCell ⟨Z,1,none⟩ u1).setCell ⟨Z,2,none⟩ u2):=
 ((Frm.setCell W Z 0 u0).trans (Frm.setCell _ Z 1 u1)).trans (Frm.setCell _ Z 2 u2)
theorem zs {w:World} {Z:Nat} {cs:Array Value} {t:TypeId}(h:Blk w Z t cs)(hc:cs.size=3) (u0 u1 u2:Value):Blk (((w.setCell ⟨Z,0,none⟩ u0).setCell ⟨Z,1,none⟩ u1).setCell ⟨Z,2,none⟩ u2) Z t #[u0,u1,u2]:=by
 obtain⟨l⟩:=cs
 match l,hc with
 |[a,b,c],_=>simpa using ((h.set_ 0 u0).set_ 1 u1).set_ 2 u2
theorem zt {w:World} {base:Nat} {e t:TypeId} {size n G:Nat} {v:Value} {xs:List Value} {cs:Array Value}(h:w.ownsRow base e size v n xs)(hB:Blk w G t cs)(hne:e≠t) {b:Nat}(hv:v.ownBlock=some b):b≠G:=by
 rintro rfl
 rcases h.2 with ⟨rfl,_⟩|⟨g,cap,cur,rfl,_,hh,_⟩
 ·simp [Value.ownBlock] at hv
 ·have hg:g=b:=by simpa [Value.ownBlock] using hv
  subst hg
  unfold Blk at hB
  rw [hh] at hB
  injection hB with hB
  injection hB with _ ht
  exact absurd ht hne
theorem own_cap {w:World} {base:Nat} {e:TypeId} {size n c:Nat} {A:Option Addr} {xs:List Value}(h:w.ownsRow base e size (.slice A n c) n xs):n≤c:=by
 rcases h.2 with ⟨hv,h0⟩|⟨g,cap,cur,hv,_,_,hnc,_⟩
 ·omega
 ·injection hv with _ _ h3
  omega
theorem zf.snoc2 {w:World} {base N:Nat} {rows:List Value} {ls:List (List Int)} {row:Value} {l:List Int}(h:zf w base rows ls)(hlow:∀ (i:Nat) (r:Value) (b:Nat),rows[i]?=some r→r.ownBlock=some b→b<N)(hN:base≤N)(hrow:w.ownsRow N 3 1 row l.length (ints l)) :
  zf w base (rows++[row]) (ls++[l]):=by
 have hlen:=h.1
 refine⟨by simp [hlen],fun i r m hr hm=>?_,fun i j ri rj b hri hrj hij hbi=>?_⟩
 ·rcases Nat.lt_trichotomy i rows.length with hi|hi|hi
  ·rw [List.getElem?_append_left hi] at hr
   rw [List.getElem?_append_left (by omega)] at hm
   exact h.2.1 i r m hr hm
  ·rw [List.getElem?_append_right (by omega),hi,Nat.sub_self] at hr
   rw [List.getElem?_append_right (by omega),hi,hlen,Nat.sub_self] at hm
   simp at hr hm
   subst hr;subst hm
   exact zab hrow hN
  ·rw [List.getElem?_eq_none (by simp;omega)] at hr;cases hr
 ·have new:∀ b,row.ownBlock=some b→N≤b:=fun b hb=>(hrow.lt b hb).1
  have hi:i≤rows.length:=by have:=(List.getElem?_eq_some_iff.1 hri).1;simp at this;omega
  have hj:j≤rows.length:=by have:=(List.getElem?_eq_some_iff.1 hrj).1;simp at this;omega
  rcases Nat.lt_or_eq_of_le hi with hi|hi<;>rcases Nat.lt_or_eq_of_le hj with hj|hj
  ·rw [List.getElem?_append_left hi] at hri
   rw [List.getElem?_append_left hj] at hrj
   exact h.2.2 i j ri rj b hri hrj hij hbi
  ·rw [List.getElem?_append_left hi] at hri
   subst hj
   simp at hrj
   subst hrj
   intro hc
   have h1:=hlow i ri b hri hbi
   have h2:=new b hc
   omega
  ·rw [List.getElem?_append_left hj] at hrj
   subst hi
   simp at hri
   subst hri
   intro hc
   have h1:=hlow j rj b hrj hc
   have h2:=new b hbi
   omega
  ·omega
structure Gro (w0 W:World) (G:Nat) (al:Int) (v:Value) (rows:List Value) (ls:List (List Int)) (vA:Value) (acc:List Bool):Prop where
 blk:Blk W G 26 #[.int .i64 al,v,vA]
 nx:W.ownsRow w0.heap.size 74 1 v ls.length rows
 rows:zf W w0.heap.size rows ls
 acc:W.ownsRow w0.heap.size 4 1 vA acc.length (zD acc)
 ext:Ext w0 W
 hG:w0.heap.size≤G
section
variable {w0 W W':World} {G N:Nat} {al:Int} {v vA:Value} {rows:List Value} {ls:List (List Int)} {acc:List Bool}
theorem Gro.more (h:Gro w0 W G al v rows ls vA acc)(hx:Ext W W'):Gro w0 W' G al v rows ls vA acc:=⟨h.blk.ext hx,zo h.nx hx,h.rows.ext hx,zo h.acc hx,h.ext.trans hx,h.hG⟩
theorem Gro.low (h:Gro w0 W G al v rows ls vA acc):∀ (i:Nat) (r:Value) (b:Nat),rows[i]?=some r→r.ownBlock=some b→b<W.heap.size:=fun i r b hr hb=>by
 obtain⟨l,_,ho⟩:=h.rows.row hr
 exact (ho.lt b hb).2
theorem Gro.pushRow {row:Value} {l:List Int} {g cap K:Nat}(h:Gro w0 W G al v rows ls vA acc)(hlow:∀ (i:Nat) (r:Value) (b:Nat),rows[i]?=some r→r.ownBlock=some b→b<K)(hK:w0.heap.size≤K)(hrow:W.ownsRow K 3 1 row l.length (ints l))
  (zco:W'.ownsRow w0.heap.size 74 1 (.slice (some ⟨g,0,none⟩) (ls.length+1) cap) (ls.length+1) (rows++[row]))
  (hg:W.grownBy W' v.ownBlock) (hat:v.ownBlock=some g∨g=W.heap.size+1) :
  Hid (W'.cell? ⟨G,1,none⟩=some v)∧W'.frozen? ⟨G,1,none⟩=false∧Gro w0 (W'.setCell ⟨G,1,none⟩ (.slice (some ⟨g,0,none⟩) (ls.length+1) cap)) G al (.slice (some ⟨g,0,none⟩) (ls.length+1) cap) (rows++[row]) (ls++[l]) vA acc:=by
 have hGG:=h.hG
 have hB:Blk W' G 26 #[.int .i64 al,v,vA]:=(hg.block G h.blk.lt (fun e=>zt h.nx h.blk (by decide) e.symm rfl)).trans h.blk
 have hgG:g≠G:=by
  rcases hat with h1|h1
  ·exact zt h.nx h.blk (by decide) h1
  ·have:=h.blk.lt;omega
 have hfr:Frm (fun k=>v.ownBlock=some k) W W':=Frm.of_grown hg
 have hdr:=h.ext.grown hg (fun k hk=>(h.nx.lt k hk).1)
 have hr1:=h.rows.snoc2 hlow hK hrow
 have hr2:zf W' w0.heap.size (rows++[row]) (ls++[l]):=hr1.frm hfr (fun i r b hr hb hS=>by
  obtain⟨l',_,ho⟩:=hr1.row hr
  exact zX ho h.nx (by decide) hb hS)
 have zcp:W'.ownsRow w0.heap.size 4 1 vA acc.length (zD acc):=zi h.acc hfr (fun b hb hS=>zX h.acc h.nx (by decide) hb hS)
 have hset:=Frm.setCell W' G 1 (.slice (some ⟨g,0,none⟩) (ls.length+1) cap)
 refine⟨hB.cell 1,hB.frozen 1,⟨by simpa using hB.set_ 1 _,?_,?_,?_,hdr.setCell (p:=⟨G,1,none⟩) hGG _,hGG⟩⟩
 ·rw [List.length_append,List.length_singleton]
  exact zi zco hset (fun b hv hS=>by
   have:g=b:=by simpa [Value.ownBlock] using hv
   omega)
 ·refine hr2.frm hset (fun i r b hr hb hS=>?_)
  obtain⟨l',_,ho⟩:=hr2.row hr
  exact zt ho hB (by decide) hb hS
 ·exact zi zcp hset (fun b hb hS=>zt zcp hB (by decide) hb hS)
theorem Gro.pushAcc {x:Bool} {g cap:Nat}(h:Gro w0 W G al v rows ls vA acc)
  (zco:W'.ownsRow w0.heap.size 4 1 (.slice (some ⟨g,0,none⟩) (acc.length+1) cap) (acc.length+1) (zD acc++[.bool x]))
  (hg:W.grownBy W' vA.ownBlock) (hat:vA.ownBlock=some g∨g=W.heap.size+1) :
  Hid (W'.cell? ⟨G,2,none⟩=some vA)∧W'.frozen? ⟨G,2,none⟩=false∧Gro w0 (W'.setCell ⟨G,2,none⟩ (.slice (some ⟨g,0,none⟩) (acc.length+1) cap)) G al v rows ls (.slice (some ⟨g,0,none⟩) (acc.length+1) cap) (acc++[x]):=by
 have hGG:=h.hG
 have hB:Blk W' G 26 #[.int .i64 al,v,vA]:=(hg.block G h.blk.lt (fun e=>zt h.acc h.blk (by decide) e.symm rfl)).trans h.blk
 have hgG:g≠G:=by
  rcases hat with h1|h1
  ·exact zt h.acc h.blk (by decide) h1
  ·have:=h.blk.lt;omega
 have hfr:Frm (fun k=>vA.ownBlock=some k) W W':=Frm.of_grown hg
 have hdr:=h.ext.grown hg (fun k hk=>(h.acc.lt k hk).1)
 have hn:W'.ownsRow w0.heap.size 74 1 v ls.length rows:=zi h.nx hfr (fun b hb hS=>zX h.nx h.acc (by decide) hb hS)
 have hr2:zf W' w0.heap.size rows ls:=h.rows.frm hfr (fun i r b hr hb hS=>by
  obtain⟨l',_,ho⟩:=h.rows.row hr
  exact zX ho h.acc (by decide) hb hS)
 have hset:=Frm.setCell W' G 2 (.slice (some ⟨g,0,none⟩) (acc.length+1) cap)
 refine⟨hB.cell 2,hB.frozen 2,⟨by simpa using hB.set_ 2 _,zi hn hset (fun b hb hS=>zt hn hB (by decide) hb hS),hr2.frm hset (fun i r b hr hb hS=>?_),?_,hdr.setCell (p:=⟨G,2,none⟩) hGG _,hGG⟩⟩
 ·obtain⟨l',_,ho⟩:=hr2.row hr
  exact zt ho hB (by decide) hb hS
 ·rw [List.length_append,List.length_singleton,show zD (acc++[x])=zD acc++[.bool x] by simp [zD]]
  exact zi zco hset (fun b hv hS=>by
   have:g=b:=by simpa [Value.ownBlock] using hv
   omega)
theorem Gro.fin {w W2:World} {n n' c c':Nat} {A A':Option Addr}(h:Gro w0 W G al (.slice A n c) rows ls (.slice A' n' c') acc)(hx:Ext w w0)(hF:Frm (fun k=>w.heap.size≤k∧k<w0.heap.size) W W2) :
  zA W2 w.heap.size A n c A' n' c' ⟨al,ls,acc⟩∧n=ls.length∧n'=acc.length:=by
 have hn:n=ls.length:=by
  rcases h.nx.2 with ⟨h1,h2⟩|⟨_,_,_,h1,_⟩
  ·simp at h1;omega
  ·simp at h1;exact h1.2.1
 have hn':n'=acc.length:=by
  rcases h.acc.2 with ⟨h1,h2⟩|⟨_,_,_,h1,_⟩
  ·simp at h1;omega
  ·simp at h1;exact h1.2.1
 refine⟨⟨⟨rows,?_,?_⟩,hn,?_,hn'⟩,hn,hn'⟩
 ·exact zab (zaP h.nx hF (fun b h1 e=>by omega)) hx.size
 ·exact (h.rows.keep hF (fun b h1 e=>by omega)).less hx.size
 ·have ho:=zab (zaP h.acc hF (fun b h1 e=>by omega)) hx.size
  rw [← hn'] at ho;exact ho
end
def marks (k n:Nat):List Nat:=(List.range n).map (k+·)
theorem zbf (k n:Nat):(marks k n).length=n:=by simp [marks]
theorem marks_get {k n i:Nat}(h:i<n):(marks k n)[i]?=some (k+i):=by simp [marks,h]
theorem zN {w:World} {base:Nat} {e:TypeId} {size n c:Nat} {A:Option Addr} {xs:List Value}(h:w.ownsRow base e size (.slice A n c) n xs)(hn:0<n):∃ g,A=some ⟨g,0,none⟩∧base≤g∧g<w.heap.size:=by
 rcases h.2 with ⟨_,h0⟩|⟨g,cap,cur,hv,hg,hh,_⟩
 ·omega
 ·injection hv with h1 h2 h3
  exact⟨g,h1,hg,(Array.getElem?_eq_some_iff.1 hh).1⟩
def blk (A:Option Addr) (b:Nat):Prop:=∃ a,A=some a∧a.block=b
theorem markIntS_any {base:Nat} {A:Option Addr} {n c:Nat} {xs:List Value} {k:Nat} {w:World}(h:w.ownsRow base 3 1 (.slice A n c) n xs)(hk:k+n≤4611686018427387904) :
  Calls Tryz.prog 148 #[.slice A n c,.int .i64 k] w fun e w'=>e=.returned (.int .i64 (k+n:Nat))∧w'.ownsRow base 3 1 (.slice A n c) n (zbg (marks k n))∧Frm (blk A) w w':=by
 have hlen:=za h.1
 go_enter Tryz.func148,Tryz.ntmps148
 go_wp2
 go_loopw [1,5] (fun v i wr=>∃ j:Nat,j≤n∧i=.int .i64 j∧v=.int .i64 (k+j:Nat)∧∃ rest:List Value,Hid (rest.length=n - j)∧wr.ownsRow base 3 1 (.slice A n c) n (zbg (marks k j)++rest)∧Frm (blk A) w wr) (fun _ i _=>n - (intOf i).toNat)
 case atStart=>exact⟨0,Nat.zero_le _,rfl,rfl,xs,by unfold Hid;rw [hlen.out];omega,by simpa [zbg,marks] using h,Frm.refl _ _⟩
 case round =>
  obtain⟨j,hj,rfl,rfl,rest,hrest,zco,hf⟩:=hrel
  by_cases hlt:j<n
  ·obtain⟨g,rfl,hg,_⟩:=zN zco (by omega)
   obtain⟨o0,g0⟩:=zcj zco j (by omega)
   have f0:=zco.frozenAt j
   have hst:=zco.stored j (.int .i64 (k+j:Nat))
   have hset:(zbg (marks k j)++rest).set j (.int .i64 ((k+j:Nat):Int))=zbg (marks k (j+1))++rest.drop 1:=by
    have hl:(zbg (marks k j)).length=j:=by rw [nats_length,zbf]
    match rest,hrest.out with
    |[],hr=>simp at hr;omega
    |x :: r,_ =>
     rw [List.set_append_right _ _ (by omega),hl,Nat.sub_self,marks,marks,List.range_succ,List.map_append,nats_append]
     simp [zbg]
   rw [hset] at hst
   have h1:(k:Int)+(j:Int)≤4611686018427387904:=by omega
   clear hset
   go_wp2
   go_roundw
   case rel=>exact⟨j+1,by omega,by go_num,by go_num,rest.drop 1,by have:=hrest.out;unfold Hid;rw [List.length_drop];omega,hst.1,hf.cell (p:=⟨g,j,none⟩) ⟨⟨g,0,none⟩,rfl,rfl⟩ _⟩
   case measure=>simp [intOf];omega
  ·obtain rfl:n=j:=by omega
   obtain rfl:rest=[]:=List.eq_nil_of_length_eq_zero (by have:=hrest.out;omega)
   go_wp2
   go_ret
   exact⟨rfl,by simpa using zco,hf⟩
theorem heldIntS_any {lo hi:Nat} {A:Option Addr} {n c:Nat} {k:Nat} {w:World}(h:Reads w lo hi 1 A n (zbg (marks k n)))(hk:k+n≤4611686018427387904) :
  Calls Tryz.prog 149 #[.slice A n c,.int .i64 k] w fun e w'=>e=.returned (.int .i64 (k+n:Nat))∧w=w':=by
 have hn:=h.len
 go_enter Tryz.func149,Tryz.ntmps149
 go_wp2
 go_loop [1,5] (fun v i=>∃ j:Nat,j≤n∧i=.int .i64 j∧v=.int .i64 (k+j:Nat)) (fun _ i=>n - (intOf i).toNat)
 case atStart=>exact⟨0,Nat.zero_le _,rfl,rfl⟩
 case round =>
  obtain⟨j,hj,rfl,rfl⟩:=hrel
  by_cases hlt:j<n
  ·obtain⟨ad,u,rfl,_,_,hu,hc⟩:=h.one hlt
   have hu':u=.int .i64 (k+j:Nat):=by
    have:=hu.out
    simp only [zbg,List.getElem?_map,marks_get hlt,Option.map_some,Option.some.injEq] at this
    exact this.symm
   subst hu'
   have hne:((k:Int)+(j:Int) != (k:Int)+(j:Int))=false:=by simp
   go_wp2
   go_round
   case rel=>exact⟨j+1,by omega,by go_num,by go_num⟩
   case measure=>simp [intOf];omega
  ·obtain rfl:n=j:=by omega
   go_wp2
   go_ret
   exact⟨rfl,rfl⟩
def mk1 (k n:Nat):List Int:=(marks k n).map fun n:Nat=>(n:Int)
def mkL (k:Nat):List (List Int)→List (List Int)
 |[]=>[]
 |l :: r=>mk1 k l.length :: mkL (k+l.length) r
def mkBs (k n:Nat):List Bool:=(List.range n).map fun j=>(k+j) % 3==0
def mkA (k:Nat) (a:Aut):Aut:=⟨a.al,mkL k a.next,mkBs (k+tot a.next) a.acc.length⟩
theorem tot_cons (l:List Int) (r:List (List Int)):tot (l :: r)=l.length+tot r:=by simp [tot]
theorem zbQ (k n:Nat):(mk1 k n).length=n:=by simp [mk1,zbf]
theorem mk1_nats (k n:Nat):zbg (marks k n)=ints (mk1 k n):=by simp [mk1,zbg,ints]
theorem zap (k:Nat) (ls:List (List Int)):(mkL k ls).length=ls.length:=by
 induction ls generalizing k with
 |nil=>rfl
 |cons l r ih=>simp [mkL,ih]
theorem mkL_get {k j:Nat} {ls:List (List Int)} {l:List Int}(h:ls[j]?=some l):(mkL k ls)[j]?=some (mk1 (k+tot (ls.take j)) l.length):=by
 induction ls generalizing k j with
 |nil=>simp at h
 |cons a r ih =>
  cases j with
  |zero=>simp at h;subst h;simp [mkL,tot]
  |succ j =>
   have:=ih (k:=k+a.length) (j:=j) (by simpa using h)
   rw [mkL,List.getElem?_cons_succ,this,List.take_succ_cons,tot_cons,Nat.add_assoc]
theorem zay (k n:Nat):(mkBs k n).length=n:=by simp [mkBs]
theorem mkBs_get {k n j:Nat}(h:j<n):(mkBs k n)[j]?=some ((k+j) % 3==0):=by simp [mkBs,h]
theorem zf.set_ {w w':World} {base j:Nat} {rows:List Value} {ls:List (List Int)} {A:Option Addr} {c:Nat} {l:List Int}(h:zf w base rows ls)(hr:rows[j]?=some (.slice A l.length c))
  (hf:Frm (blk A) w w') (zco:w'.ownsRow base 3 1 (.slice A l.length c) l.length (ints l)):zf w' base rows (ls.set j l):=by
 have hj:j<rows.length:=(List.getElem?_eq_some_iff.1 hr).1
 refine⟨by simp [h.1],fun i row m hi hm=>?_,h.2.2⟩
 by_cases hij:i=j
 ·subst hij
  rw [hr] at hi
  obtain rfl:=Option.some.inj hi
  rw [List.getElem?_set_self (by rw [← h.1];exact hj)] at hm
  obtain rfl:=Option.some.inj hm
  exact zco
 ·rw [List.getElem?_set_ne (fun e=>hij e.symm)] at hm
  refine zi (h.2.1 i row m hi hm) hf (fun b hb hS=>?_)
  obtain⟨ad,rfl,rfl⟩:=hS
  exact h.2.2 i j row _ ad.block hi hr hij hb rfl
def OwnLLh (w:World) (base hi:Nat) (v:Value) (ls:List (List Int)):Prop:=
 ∃ rows,w.ownsRow base 74 1 v ls.length rows∧zf w base rows ls∧∀ (i:Nat) (row:Value) (b:Nat),rows[i]?=some row→row.ownBlock=some b→b<hi
def AutH (w:World) (base hi:Nat) (A:Option Addr) (n c:Nat) (A':Option Addr) (n' c':Nat) (a:Aut):Prop:=
 OwnLLh w base hi (.slice A n c) a.next∧(∀ b,(Value.slice A n c).ownBlock=some b→b<hi)∧n=a.next.length∧w.ownsRow base 4 1 (.slice A' n' c') n' (zD a.acc)∧(∀ b,(Value.slice A' n' c').ownBlock=some b→b<hi)∧n'=a.acc.length
section
variable {w w':World} {base hi n c n' c':Nat} {A A':Option Addr} {a:Aut}
theorem zA.high (h:zA w base A n c A' n' c' a):AutH w base w.heap.size A n c A' n' c' a:=by
 obtain⟨⟨rows,h1,h2⟩,h3,h4,h5⟩:=h
 exact⟨⟨rows,h1,h2,fun i row b hr hb=>by
  obtain⟨l,_,ho⟩:=h2.row hr
  exact (ho.lt b hb).2⟩,fun b hb=>(h1.lt b hb).2,h3,h4,fun b hb=>(h4.lt b hb).2,h5⟩
theorem AutH.own (h:AutH w base hi A n c A' n' c' a):zA w base A n c A' n' c' a:=by
 obtain⟨⟨rows,h1,h2,_⟩,_,h3,h4,_,h5⟩:=h
 exact⟨⟨rows,h1,h2⟩,h3,h4,h5⟩
theorem AutH.frm {S:Nat→Prop}(h:AutH w base hi A n c A' n' c' a)(hb:Frm S w w')(hS:∀ b,base≤b→b<hi→¬ S b):AutH w' base hi A n c A' n' c' a:=by
 obtain⟨⟨rows,h1,h2,h6⟩,h7,h3,h4,h8,h5⟩:=h
 exact⟨⟨rows,zi h1 hb (fun b hb=>hS b (h1.lt b hb).1 (h7 b hb)),h2.frm hb (fun i row b hr hb=>by
  obtain⟨l,_,ho⟩:=h2.row hr
  exact hS b (ho.lt b hb).1 (h6 i row b hr hb)),h6⟩,h7,h3,zi h4 hb (fun b hb=>hS b (h4.lt b hb).1 (h8 b hb)),h8,h5⟩
theorem AutH.ext (h:AutH w base hi A n c A' n' c' a)(hb:Ext w w'):AutH w' base hi A n c A' n' c' a:=h.frm hb (fun _ _ _ h=>h)
end
def rblk (rows:List Value) (b:Nat):Prop:=∃ (i:Nat) (row:Value),rows[i]?=some row∧row.ownBlock=some b
theorem set_mid {α:Type} {l:List α} {j:Nat} {x:α}(hl:j<l.length):(∀ i,i<j→(l.set j x)[i]?=l[i]?)∧(l.set j x)[j]?=some x∧∀ i,j<i→(l.set j x)[i]?=l[i]?:=
 ⟨fun i hi=>List.getElem?_set_ne (by omega),List.getElem?_set_self hl,fun i hi=>List.getElem?_set_ne (by omega)⟩
theorem zci {base:Nat} {A:Option Addr} {n c:Nat} {ls:List (List Int)} {rows:List Value} {k:Nat} {w:World}(hv:w.ownsRow base 74 1 (.slice A n c) n rows)(hrows:zf w base rows ls)(hk:k+tot ls≤4611686018427387904) :
  Calls Tryz.prog 101 #[.slice A n c,.int .i64 k] w fun e w'=>e=.returned (.int .i64 (k+tot ls:Nat))∧w'.ownsRow base 74 1 (.slice A n c) n rows∧zf w' base rows (mkL k ls)∧Frm (rblk rows) w w':=by
 have hn9:=(Reads.of_own hv).len
 have hnr:=za (show rows.length=n by have:=hv.1;omega)
 have hln:=za (show ls.length=n by have:=hrows.1;have:=hnr.out;omega)
 have htake:=za (fun j=>zbD ls j)
 go_enter Tryz.func101,Tryz.ntmps101
 go_wp2
 go_loopw [1,5] (fun v i wr=>∃ (j t:Nat) (cur:List (List Int)),j≤n∧i=.int .i64 j∧v=.int .i64 (k+t:Nat)∧Hid (t=tot (ls.take j))∧k+t≤4611686018427387904∧wr.ownsRow base 74 1 (.slice A n c) n rows∧zf wr base rows cur∧Hid ((∀ i,i<j→cur[i]?=(mkL k ls)[i]?)∧∀ i,j≤i→cur[i]?=ls[i]?)∧Frm (rblk rows) w wr) (fun _ i _=>n - (intOf i).toNat)
 case atStart=>exact⟨0,0,ls,Nat.zero_le _,rfl,rfl,za (by simp [tot]),by omega,hv,hrows,za ⟨fun i hi=>absurd hi (by omega),fun i _=>rfl⟩,Frm.refl _ _⟩
 case round =>
  obtain⟨j,t,cur,hj,rfl,rfl,ht,hkt,hvr,hrr,hcur,hf⟩:=hrel
  clear hv hrows
  by_cases hlt:j<n
  ·obtain⟨ad,u,rfl,_,_,hu,hc⟩:=(Reads.of_own hvr).one hlt
   obtain⟨l,hl,hrow⟩:=hrr.row hu.out
   obtain⟨Ak,ck,rfl⟩:=zr hrow
   have hlj:=za (show ls[j]?=some l by rw [← hcur.out.2 j (Nat.le_refl _)];exact hl)
   have htj:=za (show tot (ls.take (j+1))=t+l.length by rw [zaQ hlj.out,ht.out])
   have hle:k+t+l.length≤4611686018427387904:=by have:=htake.out (j+1);have:=htj.out;omega
   have hcl:=za (show cur.length=n by have:=hrr.1;have:=hnr.out;omega)
   go_wp2_with (go_at_call 148;refine (markIntS_any (k:=k+t) hrow hle).mono ?_;rintro e w2 ⟨rfl,zct,hf2⟩)
   rw [mk1_nats] at zct
   have hlen2:(mk1 (k+t) l.length).length=l.length:=zbQ _ _
   have hset:=hrr.set_ (l:=mk1 (k+t) l.length) (by rw [hlen2];exact hu.out) hf2 (by rw [hlen2];exact zct)
   have hfw:Frm (rblk rows) wr w2:=hf2.mono (fun b _ hb=>by
    obtain⟨a,rfl,rfl⟩:=hb
    exact⟨j,_,hu.out,rfl⟩)
   have hvr2:=zi hvr hf2 (fun b hb hS=>by
    obtain⟨a,rfl,rfl⟩:=hS
    exact zX hrow hvr (by decide) rfl hb)
   go_roundw
   case rel =>
    refine⟨j+1,t+l.length,_,by omega,by go_num,by go_num,za (by rw [htj.out]),by omega,hvr2,hset,za ?_,hf.trans hfw⟩
    obtain⟨s1,s2,s3⟩:=set_mid (x:=mk1 (k+t) l.length) (show j<cur.length by rw [hcl.out];exact hlt)
    refine⟨fun i hi=>?_,fun i hi=>?_⟩
    ·rcases Nat.lt_or_ge i j with h1|h1
     ·rw [s1 i h1,hcur.out.1 i h1]
     ·obtain rfl:i=j:=by omega
      rw [s2,mkL_get hlj.out,← ht.out]
    ·rw [s3 i (by omega),hcur.out.2 i (by omega)]
   case measure=>simp [intOf];omega
  ·obtain rfl:n=j:=by omega
   have hcl:=za (show cur.length=n by have:=hrr.1;have:=hnr.out;omega)
   have zcr:cur=mkL k ls:=by
    apply List.ext_getElem?
    intro i
    rcases Nat.lt_or_ge i n with h1|h1
    ·exact hcur.out.1 i h1
    ·rw [List.getElem?_eq_none (by rw [hcl.out];exact h1),List.getElem?_eq_none (by rw [zap,hln.out];exact h1)]
   have htt:=za (show t=tot ls by rw [ht.out,List.take_of_length_le (by rw [hln.out];exact Nat.le_refl _)])
   rw [zcr] at hrr
   go_wp2
   go_ret
   exact⟨zaA (by have:=htt.out;omega),hvr,hrr,hf⟩
theorem mod3 (k j:Nat):(((k:Int)+(j:Int)) % 3==0)=((k+j) % 3==0):=by
 by_cases h:(k+j) % 3=0
 ·have h2:((k:Int)+(j:Int)) % 3=0:=by omega
  rw [beq_iff_eq.2 h,beq_iff_eq.2 h2]
 ·have h2:¬ ((k:Int)+(j:Int)) % 3=0:=by omega
  rw [beq_eq_false_iff_ne.2 h,beq_eq_false_iff_ne.2 h2]
theorem zch {base:Nat} {A:Option Addr} {n c:Nat} {xs:List Value} {k:Nat} {w:World}(h:w.ownsRow base 4 1 (.slice A n c) n xs)(hk:k+n≤4611686018427387904) :
  Calls Tryz.prog 102 #[.slice A n c,.int .i64 k] w fun e w'=>e=.returned (.int .i64 (k+n:Nat))∧w'.ownsRow base 4 1 (.slice A n c) n (zD (mkBs k n))∧Frm (blk A) w w':=by
 have hlen:=za h.1
 go_enter Tryz.func102,Tryz.ntmps102
 go_wp2
 go_loopw [1,5] (fun v i wr=>∃ j:Nat,j≤n∧i=.int .i64 j∧v=.int .i64 (k+j:Nat)∧∃ rest:List Value,Hid (rest.length=n - j)∧wr.ownsRow base 4 1 (.slice A n c) n (zD (mkBs k j)++rest)∧Frm (blk A) w wr) (fun _ i _=>n - (intOf i).toNat)
 case atStart=>exact⟨0,Nat.zero_le _,rfl,rfl,xs,by unfold Hid;rw [hlen.out];omega,by simpa [zD,mkBs] using h,Frm.refl _ _⟩
 case round =>
  obtain⟨j,hj,rfl,rfl,rest,hrest,zco,hf⟩:=hrel
  by_cases hlt:j<n
  ·obtain⟨g,rfl,hg,_⟩:=zN zco (by omega)
   obtain⟨o0,g0⟩:=zcj zco j (by omega)
   have f0:=zco.frozenAt j
   have hst:=zco.stored j (.bool ((k+j) % 3==0))
   have hset:(zD (mkBs k j)++rest).set j (.bool ((k+j) % 3==0))=zD (mkBs k (j+1))++rest.drop 1:=by
    have hl:(zD (mkBs k j)).length=j:=by rw [zag,zay]
    match rest,hrest.out with
    |[],hr=>simp at hr;omega
    |x :: r,_ =>
     rw [List.set_append_right _ _ (by omega),hl,Nat.sub_self,mkBs,mkBs,List.range_succ,List.map_append]
     simp [zD]
   rw [hset] at hst
   have hst1:=za hst
   have hm3:=mod3 k j
   have h1:(k:Int)+(j:Int)≤4611686018427387904:=by omega
   have h0:0≤(k:Int)+(j:Int):=by omega
   clear hset hst
   rw [← hm3] at hst1
   clear hm3
   go_wp2
   go_roundw
   case rel=>exact⟨j+1,by omega,by go_num,by go_num,rest.drop 1,by have:=hrest.out;unfold Hid;rw [List.length_drop];omega,hst1.out.1,hf.cell (p:=⟨g,j,none⟩) ⟨⟨g,0,none⟩,rfl,rfl⟩ _⟩
   case measure=>simp [intOf];omega
  ·obtain rfl:n=j:=by omega
   obtain rfl:rest=[]:=List.eq_nil_of_length_eq_zero (by have:=hrest.out;omega)
   go_wp2
   go_ret
   exact⟨rfl,by simpa using zco,hf⟩
theorem zcc {lo hi:Nat} {A:Option Addr} {n c:Nat} {k:Nat} {w:World}(h:Reads w lo hi 1 A n (zD (mkBs k n)))(hk:k+n≤4611686018427387904) :
  Calls Tryz.prog 104 #[.slice A n c,.int .i64 k] w fun e w'=>e=.returned (.int .i64 (k+n:Nat))∧w=w':=by
 have hn:=h.len
 go_enter Tryz.func104,Tryz.ntmps104
 go_wp2
 go_loop [1,5] (fun v i=>∃ j:Nat,j≤n∧i=.int .i64 j∧v=.int .i64 (k+j:Nat)) (fun _ i=>n - (intOf i).toNat)
 case atStart=>exact⟨0,Nat.zero_le _,rfl,rfl⟩
 case round =>
  obtain⟨j,hj,rfl,rfl⟩:=hrel
  by_cases hlt:j<n
  ·obtain⟨ad,x,rfl,_,_,hx,hc⟩:=h.bool hlt
   obtain rfl:x=((k+j) % 3==0):=by
    have:=hx.out
    rw [mkBs_get hlt] at this
    exact (Option.some.inj this).symm
   rw [← mod3 k j] at hc
   have h1:(k:Int)+(j:Int)≤4611686018427387904:=by omega
   have h0:0≤(k:Int)+(j:Int):=by omega
   have hne:((((k:Int)+(j:Int)) % 3==0) != (((k:Int)+(j:Int)) % 3==0))=false:=by simp
   go_wp2
   go_round
   case rel=>exact⟨j+1,by omega,by go_num,by go_num⟩
   case measure=>simp [intOf];omega
  ·obtain rfl:n=j:=by omega
   go_wp2
   go_ret
   exact⟨rfl,rfl⟩
theorem zcd {lo hi:Nat} {A:Option Addr} {n c:Nat} {ls:List (List Int)} {k:Nat} {w:World}(h:zu w lo hi A n (mkL k ls))(hk:k+tot ls≤4611686018427387904) :
  Calls Tryz.prog 103 #[.slice A n c,.int .i64 k] w fun e w'=>e=.returned (.int .i64 (k+tot ls:Nat))∧w=w':=by
 have hn9:=h.len
 have hln:=za (show ls.length=n by rw [h.1,zap])
 have htake:=za (fun j=>zbD ls j)
 go_enter Tryz.func103,Tryz.ntmps103
 go_wp2
 go_loop [1,5] (fun v i=>∃ j t:Nat,j≤n∧i=.int .i64 j∧v=.int .i64 (k+t:Nat)∧Hid (t=tot (ls.take j))∧k+t≤4611686018427387904) (fun _ i=>n - (intOf i).toNat)
 case atStart=>exact⟨0,0,Nat.zero_le _,rfl,rfl,za (by simp [tot]),by omega⟩
 case round =>
  obtain⟨j,t,hj,rfl,rfl,ht,hkt⟩:=hrel
  by_cases hlt:j<n
  ·obtain⟨l,hl⟩:∃ l,Hid (ls[j]?=some l):=⟨_,za (List.getElem?_eq_getElem (by rw [hln.out];exact hlt))⟩
   obtain⟨ad,Ak,ck,m,rfl,_,_,hm,hc0,hrk⟩:=h.row hlt
   obtain rfl:m=mk1 (k+t) l.length:=by
    have:=hm.out
    rw [mkL_get hl.out,← ht.out] at this
    exact (Option.some.inj this).symm
   rw [zbQ] at hc0 hrk
   rw [← mk1_nats] at hrk
   have htj:=za (show tot (ls.take (j+1))=t+l.length by rw [zaQ hl.out,ht.out])
   have hle:k+t+l.length≤4611686018427387904:=by have:=htake.out (j+1);have:=htj.out;omega
   have hlt0:¬ (((k+t+l.length:Nat):Int)<0):=by omega
   go_wp2_with (go_at_call 149;refine (heldIntS_any (k:=k+t) hrk hle).mono ?_;rintro e w2 ⟨rfl,rfl⟩)
   go_round
   case rel=>exact⟨j+1,t+l.length,by omega,by go_num,by go_num,za (by rw [htj.out]),by omega⟩
   case measure=>simp [intOf];omega
  ·obtain rfl:n=j:=by omega
   have htt:=za (show t=tot ls by rw [ht.out,List.take_of_length_le (by rw [hln.out];exact Nat.le_refl _)])
   go_wp2
   go_ret
   exact⟨zaA (by have:=htt.out;omega),rfl⟩
def cntA (a:Aut):Nat:=tot a.next+a.acc.length
theorem zaY {base hi:Nat} {A:Option Addr} {n c:Nat} {A':Option Addr} {n' c':Nat} {a:Aut} {al:Int} {k:Nat} {w:World}(h:AutH w base hi A n c A' n' c' a)(hk:k+cntA a≤4611686018427387904) :
  Calls Tryz.prog 49 #[.agg #[.int .i64 al,.slice A n c,.slice A' n' c'],.int .i64 k] w fun e w'=>e=.returned (.int .i64 (k+cntA a:Nat))∧AutH w' base hi A n c A' n' c' (mkA k a)∧Frm (fun b=>base≤b∧b<hi) w w':=by
 unfold cntA at hk
 obtain⟨⟨rows,h1,h2,h6⟩,h7,h3,h4,h8,h5⟩:=h
 rw [← h3] at h1
 have hx:=(Ext.refl w).alloc (.cells #[.int .i64 al,.slice A n c,.slice A' n' c'] 26)
 have h1':=zo h1 hx
 have h2':=h2.ext hx
 have h4':=zo h4 hx
 have H6:=za h6
 have H7:=za h7
 have H8:=za h8
 have H3:=za h3
 have H5:=za h5
 have H2:=za h2'
 have hcn:=za (show cntA a=tot a.next+a.acc.length from rfl)
 have hn'l:=(Reads.of_own h4).len
 clear h1 h2 h4 h6 h7 h8 h3 h5
 go_enter Tryz.func49,Tryz.ntmps49
 go_wp2_with fail
 refine (zci (k:=k) h1' H2.out (by omega)).mono ?_
 rintro e w2 ⟨rfl,hv2,hr2,hf2⟩
 have h4'':=zi h4' hf2 (fun b hb hS=>by
  obtain⟨i,row,hi,hrb⟩:=hS
  obtain⟨l,_,ho⟩:=H2.out.row hi
  exact zX ho h4' (by decide) hrb hb)
 have hbx:=(Blk.new w 26 #[.int .i64 al,.slice A n c,.slice A' n' c']).frm hf2 (fun hS=>by
  obtain⟨i,row,hi,hrb⟩:=hS
  obtain⟨l,_,ho⟩:=H2.out.row hi
  exact zt ho (Blk.new w 26 #[.int .i64 al,.slice A n c,.slice A' n' c']) (by decide) hrb rfl)
 have cb:=hbx.cell
 have HR2:=za hr2
 have Hf2:=za hf2
 clear hr2 hf2
 have hk2:k+tot a.next+n'≤4611686018427387904:=by have:=H5.out;omega
 go_wp2_with fail
 refine (zch (k:=k+tot a.next) h4'' hk2).mono ?_
 rintro e w3 ⟨rfl,hb3,hf3⟩
 go_wp2_with fail
 go_ret
 have hfA:Frm (blk A') w2 w3:=hf3
 refine⟨zaA (by have:=hcn.out;have:=H5.out;omega),⟨⟨rows,?_,?_,H6.out⟩,H7.out,?_,?_,H8.out,?_⟩,?_⟩
 ·rw [show (mkA k a).next.length=n by rw [H3.out];exact zap _ _]
  exact zi hv2 hf3 (fun b hb hS=>by
   obtain⟨ad,rfl,rfl⟩:=hS
   exact zX h4'' hv2 (by decide) rfl hb)
 ·exact HR2.out.frm hf3 (fun i row b hr hb hS=>by
   obtain⟨ad,rfl,rfl⟩:=hS
   obtain⟨l,_,ho⟩:=HR2.out.row hr
   exact zX ho h4'' (by decide) hb rfl)
 ·rw [H3.out];exact (zap _ _).symm
 ·have:(mkA k a).acc=mkBs (k+tot a.next) n':=by rw [H5.out];rfl
  rw [this]
  exact hb3
 ·rw [H5.out];exact (zay _ _).symm
 ·refine ((hx.toFrm).trans (Hf2.out.mono fun b _ hS=>?_)).trans (hf3.mono fun b _ hS=>?_)
  ·obtain⟨i,row,hi,hrb⟩:=hS
   obtain⟨l,_,ho⟩:=H2.out.row hi
   exact⟨(ho.lt b hrb).1,H6.out i row b hi hrb⟩
  ·obtain⟨ad,rfl,rfl⟩:=hS
   exact⟨(h4''.lt ad.block rfl).1,H8.out ad.block rfl⟩
theorem zaW {lo hi:Nat} {A:Option Addr} {n c:Nat} {A':Option Addr} {n' c':Nat} {a:Aut} {al:Int} {k:Nat} {w:World}(h:zz w lo hi A n A' n' (mkA k a))(hk:k+cntA a≤4611686018427387904) :
  Calls Tryz.prog 50 #[.agg #[.int .i64 al,.slice A n c,.slice A' n' c'],.int .i64 k] w fun e w'=>e=.returned (.int .i64 (k+cntA a:Nat))∧Ext w w':=by
 have hcn:=za (show cntA a=tot a.next+a.acc.length from rfl)
 unfold cntA at hk
 have hx:=(Ext.refl w).alloc (.cells #[.int .i64 al,.slice A n c,.slice A' n' c'] 26)
 have h1:zu (w.alloc (.cells #[.int .i64 al,.slice A n c,.slice A' n' c'] 26)) lo hi A n (mkL k a.next):=h.1.ext hx
 have hn':=za (show n'=a.acc.length by rw [h.2.1];exact zay _ _)
 have h2:Reads (w.alloc (.cells #[.int .i64 al,.slice A n c,.slice A' n' c'] 26)) lo hi 1 A' n' (zD (mkBs (k+tot a.next) n')):=by
  have:=h.2.2.ext hx
  rw [hn'.out]
  rw [hn'.out] at this
  exact this
 have hk2:k+tot a.next+n'≤4611686018427387904:=by have:=hn'.out;omega
 have hk0:¬ (((k+tot a.next:Nat):Int)<0):=by omega
 have hk1:¬ (((k+tot a.next+n':Nat):Int)<0):=by omega
 clear h
 go_enter Tryz.func50,Tryz.ntmps50
 go_wp2_with fail
 refine (zcd (k:=k) h1 (by omega)).mono ?_
 rintro e w2 ⟨rfl,rfl⟩
 go_wp2_with fail
 refine (zcc (k:=k+tot a.next) h2 hk2).mono ?_
 rintro e w2 ⟨rfl,rfl⟩
 go_wp2_with fail
 go_ret
 exact⟨zaA (by have:=hcn.out;have:=hn'.out;omega),hx⟩
theorem Reads.str {w:World} {lo hi n k:Nat} {A:Option Addr} {l:List ByteArray}(h:Reads w lo hi 1 A n (zbj l))(hk:k<n):∃ ad x,A=some ad∧lo≤ad.block∧ad.block<hi∧Hid (l[k]?=some x)∧w.cell? (ad.add k)=some (.string x):=by
 obtain⟨ad,u,e,h1,h2,hu,hc⟩:=h.one hk
 have:=hu.out
 simp only [zbj,List.getElem?_map,Option.map_eq_some_iff] at this
 obtain⟨x,hx,rfl⟩:=this
 exact⟨ad,x,e,h1,h2,hx,hc⟩
theorem dig_form {n:Nat}(hn:n<100) {s:ByteArray}(h:s.data.toList=Lib.decDigits n):∃ d:List Nat,d.length=s.size∧1≤d.length∧d.length≤2∧(∀ (k:Nat)(hk:k<s.size),∃ x,d[k]?=some x∧x<10∧s[k].toNat=48+x)∧d.foldl (fun a x=>a*10+x) 0=n∧(1<d.length→d[0]?≠some 0):=by
 have hs:s.size=(Lib.decDigits n).length:=by rw [← h,Array.length_toList];rfl
 by_cases h1:n<10
 ·rw [Lib.decDigits_one h1] at h hs
  refine⟨[n],by rw [hs];rfl,by simp,by simp,fun k hk=>?_,by simp,by simp⟩
  have hk0:k=0:=by simp at hs;omega
  subst hk0
  have hb:=zQ s 0 hk
  rw [h] at hb
  refine⟨n,rfl,h1,?_⟩
  rw [← Option.some.inj hb]
  simp
  omega
 ·rw [Lib.decDigits_two h1 hn] at h hs
  refine⟨[n / 10,n % 10],by rw [hs];rfl,by simp,by simp,fun k hk=>?_,by simp;omega,by simp;omega⟩
  have hb:=zQ s k hk
  rw [h] at hb
  rcases Nat.lt_or_ge k 1 with g|g
  ·have hk0:k=0:=by omega
   subst hk0
   refine⟨n / 10,rfl,by omega,?_⟩
   rw [← Option.some.inj hb]
   simp
   omega
  ·have hk0:k=1:=by simp at hs;omega
   subst hk0
   refine⟨n % 10,rfl,by omega,?_⟩
   rw [← Option.some.inj hb]
   simp
   omega
theorem yP02a4 {P:Prop}(h:P:=by
 obtain rfl:k=s.size:=by omega
 obtain rfl:m=n:=by rw [hv.out,← Hs.out.2,List.take_length,Hf.out]
 go_wp2_with fail
 go_ret2
 exact⟨rfl,rfl⟩
 ):P:=h
theorem spec_l19NumD {n:Nat}(hn:n<100) {s:ByteArray} {w:World}(h:s.data.toList=Lib.decDigits n) :
  Calls Tryz.prog 120 #[.string s] w fun e w'=>e=.returned (.tuple #[.int .i64 n,.bool true])∧w=w':=by
 obtain⟨d,d1,d2,d3,d4,d5,d6⟩:=dig_form hn h
 have Hd:=za d4
 have Hf:=za d5
 have h0':0<s.size:=by omega
 obtain⟨x0,e0,l0,b0⟩:=d4 0 h0'
 have hm:((s[0].toNat:Int)==45)=false:=by rw [beq_eq_false_iff_ne];omega
 have z1':((s.size:Int)==0)=false:=by rw [beq_eq_false_iff_ne];omega
 have z2':(s.size:Int)≤17:=by omega
 have z3':((s[0].toNat:Int)==48)=true→(s.size:Int)≤1:=by
  intro h
  have h':(s[0].toNat:Int)=48:=eq_of_beq h
  rcases Nat.lt_or_ge 1 d.length with g|g
  ·exact absurd (by rw [e0];congr 1;omega) (d6 g)
  ·omega
 have Hs:=za (show s.size≤2∧d.length=s.size from ⟨by omega,d1⟩)
 clear h d1 d2 d3 d4 d5 d6 e0 l0 b0
 have key:∀ (b:Bool),((s[0].toNat:Int)==48)=b→Calls Tryz.prog 120 #[.string s] w fun e w'=>e=.returned (.tuple #[.int .i64 n,.bool true])∧w=w':=by
  intro b hb0
  cases b
  ·clear z3'
   go_enter Tryz.func120,Tryz.ntmps120
   go_wp2_with fail
   go_loop [5,6] (fun v i=>∃ (k m:Nat),k≤s.size∧i=.int .i64 k∧v=.int .i64 m∧(k=0∧m=0∨k=1∧m≤9∨k=2∧m≤99)∧Hid (m=(d.take k).foldl (fun a x=>a*10+x) 0)) (fun _ i=>s.size - (intOf i).toNat)
   case atStart=>exact⟨0,0,Nat.zero_le _,rfl,rfl,.inl ⟨rfl,rfl⟩,za rfl⟩
   case round =>
    obtain⟨k,m,hk,rfl,rfl,hkm,hv⟩:=hrel
    by_cases hlt:k<s.size
    ·obtain⟨x,e1,l1,b1⟩:=Hd.out k hlt
     have E1:=za e1
     have hm9:m≤9∧k≤1∧(k=0→m=0):=by have:=Hs.out.1;omega
     clear e1
     have c0:¬ (s[k].toNat:Int)<48:=by omega
     have c1:¬ 57<(s[k].toNat:Int):=by omega
     go_wp2_with fail
     go_round
     case rel=>exact⟨k+1,m*10+x,by omega,by go_num,by go_num,by omega,za (by rw [List.take_add_one,E1.out,List.foldl_append,← hv.out];rfl)⟩
     case measure=>simp [intOf];omega
    ·exact yP02a4
  ·have z4':=z3' hb0
   clear z3'
   go_enter Tryz.func120,Tryz.ntmps120
   go_wp2_with fail
   go_loop [5,6] (fun v i=>∃ (k m:Nat),k≤s.size∧i=.int .i64 k∧v=.int .i64 m∧(k=0∧m=0∨k=1∧m≤9∨k=2∧m≤99)∧Hid (m=(d.take k).foldl (fun a x=>a*10+x) 0)) (fun _ i=>s.size - (intOf i).toNat)
   case atStart=>exact⟨0,0,Nat.zero_le _,rfl,rfl,.inl ⟨rfl,rfl⟩,za rfl⟩
   case round =>
    obtain⟨k,m,hk,rfl,rfl,hkm,hv⟩:=hrel
    by_cases hlt:k<s.size
    ·obtain⟨x,e1,l1,b1⟩:=Hd.out k hlt
     have E1:=za e1
     have hm9:m≤9∧k≤1∧(k=0→m=0):=by have:=Hs.out.1;omega
     clear e1
     have c0:¬ (s[k].toNat:Int)<48:=by omega
     have c1:¬ 57<(s[k].toNat:Int):=by omega
     go_wp2_with fail
     go_round
     case rel=>exact⟨k+1,m*10+x,by omega,by go_num,by go_num,by omega,za (by rw [List.take_add_one,E1.out,List.foldl_append,← hv.out];rfl)⟩
     case measure=>simp [intOf];omega
    ·exact yP02a4
 exact key _ rfl
theorem spec_l19NumL {s:ByteArray} {w:World}(h:18<s.size)(hs:s.size≤2000000) :
  Calls Tryz.prog 120 #[.string s] w fun e w'=>e=.returned (.tuple #[.int .i64 0,.bool false])∧w=w':=by
 have h0':0<s.size:=by omega
 cases hm:((s[0].toNat:Int)==45)
 ·have z1':((s.size:Int)==0)=false:=by rw [beq_eq_false_iff_ne];omega
  have z2':(17:Int)<(s.size:Int):=by omega
  go_enter Tryz.func120,Tryz.ntmps120
  go_wp2
  go_ret2
  exact⟨rfl,rfl⟩
 ·obtain⟨y,hy⟩:∃ y,s.extract 1 s.size=y:=⟨_,rfl⟩
  have hyl:y.size=s.size - 1:=by rw [← hy,ByteArray.size_extract];omega
  have hyb:y.size≤2000000:=by omega
  have z1':((y.size:Int)==0)=false:=by rw [beq_eq_false_iff_ne];omega
  have z2':(17:Int)<(y.size:Int):=by omega
  have h01:(1:Int)≤(s.size:Int):=by omega
  clear hyl h
  go_enter Tryz.func120,Tryz.ntmps120
  go_wp2
  go_ret2
  exact⟨rfl,rfl⟩
def RetNumX (s:ByteArray) (w:World) (e:Ending) (w':World):Prop:=∃ (x:Int) (ok:Bool),e=.returned (.tuple #[.int .i64 x,.bool ok])∧w=w'∧Hid (∀ n<100,s.data.toList=Lib.decDigits n→ok=true∧x=n)
theorem spec_l19NumX {s:ByteArray} {w:World}(hs:s.size≤2000000) :
  Calls Tryz.prog 120 #[.string s] w (RetNumX s w):=by
 by_cases h:∃ n<100,s.data.toList=Lib.decDigits n
 ·obtain⟨n,hn,h⟩:=h
  refine (spec_l19NumD hn h).mono ?_
  rintro e w' ⟨rfl,rfl⟩
  exact⟨n,true,rfl,rfl,za fun m hm h2=>⟨rfl,by rw [dig_inj hn hm (h.symm.trans h2)]⟩⟩
 ·by_cases hl:18<s.size
  ·refine (spec_l19NumL hl hs).mono ?_
   rintro e w' ⟨rfl,rfl⟩
   exact⟨0,false,rfl,rfl,za fun m hm h2=>absurd ⟨m,hm,h2⟩ h⟩
  ·refine (spec_l19Num (s:=s) (by omega)).mono ?_
   rintro e w' ⟨x,ok,rfl,rfl⟩
   exact⟨x,ok,rfl,rfl,za fun m hm h2=>absurd ⟨m,hm,h2⟩ h⟩
def JoinOf (s:ByteArray) (ok:Bool) (l:List Int):Prop:=∀ r:List Nat,(∀ x∈r,x<100)→zv r=s.data.toList→ok=true∧l=r.map fun x:Nat=>(x:Int)
def RetIntsX (s:ByteArray) (w:World) (e:Ending) (w':World):Prop:=∃ (A:Option Addr) (n c:Nat) (l:List Int) (ok:Bool),e=.returned (.tuple #[.slice A n c,.bool ok])∧n=l.length∧w'.ownsRow w.heap.size 3 1 (.slice A n c) n (ints l)∧n≤s.size+1∧Hid (JoinOf s ok l)∧Ext w w'
theorem zbv {s:ByteArray} {l:List ByteArray}(h:l.map (fun x=>x.data.toList)=zC 44 s.data.toList)(hne:s.data.toList≠[]) {r:List Nat}(hr:∀ x∈r,x<100)(hj:zv r=s.data.toList):l.map (fun x=>x.data.toList)=r.map Lib.decDigits:=by
 cases r with
 |nil=>exact absurd hj.symm hne
 |cons x r=>rw [h,← hj,join_cut (hr x (by simp)) (fun y hy=>hr y (by simp [hy]))]
theorem zbO {s:ByteArray} {l:List ByteArray}(h:l.map (fun x=>x.data.toList)=zC 44 s.data.toList)(hne:s.data.toList≠[]) {r:List Nat}(hr:∀ x∈r,x<100)(hj:zv r=s.data.toList) {k:Nat} {y:ByteArray}(hy:l[k]?=some y):∃ x,r[k]?=some x∧x<100∧y.data.toList=Lib.decDigits x:=by
 have e:=congrArg (fun z:List (List UInt8)=>z[k]?) (zbv h hne hr hj)
 simp only [List.getElem?_map,hy,Option.map_some] at e
 cases hx:r[k]? with
 |none=>rw [hx] at e;cases e
 |some x =>
  rw [hx] at e
  exact⟨x,rfl,hr x (List.mem_of_getElem? hx),Option.some.inj e⟩
theorem join_size {s:ByteArray} {l:List ByteArray}(h:l.map (fun x=>x.data.toList)=zC 44 s.data.toList)(hne:s.data.toList≠[]) {r:List Nat}(hr:∀ x∈r,x<100)(hj:zv r=s.data.toList):r.length=l.length:=by
 have:=congrArg List.length (zbv h hne hr hj)
 simpa using this.symm
theorem zaZ {s:ByteArray} {c:UInt8} {l:List ByteArray}(h:l.map (fun x=>x.data.toList)=zC c s.data.toList):∀ x∈l,x.size≤s.size:=by
 have key:∀ (u:List UInt8),∀ x∈zC c u,x.length≤u.length:=by
  intro u
  induction u with
  |nil=>intro x hx;simp [zC] at hx;simp [hx]
  |cons b t ih =>
   intro x hx
   rw [zC] at hx
   split at hx
   ·rcases List.mem_cons.1 hx with rfl|hx
    ·simp
    ·have:=ih x hx;simp;omega
   ·split at hx
    ·rw [List.mem_singleton.1 hx];simp
    ·rename_i h2 r2 hcut
     rw [hcut] at ih
     rcases List.mem_cons.1 hx with rfl|hx
     ·have:=ih h2 (by simp);simp;omega
     ·have:=ih x (by simp [hx]);simp;omega
 intro x hx
 have:=key s.data.toList x.data.toList (by rw [← h];exact List.mem_map_of_mem hx)
 simpa using this
theorem zak {s:ByteArray}(h:s.toList.isEmpty=false):s.data.toList≠[]:=by
 rw [ByteArray.toList_eq] at h
 intro e
 rw [e] at h
 cases h
theorem zaN {s:ByteArray}(h:s.toList.isEmpty=true):s.data.toList=[]:=by
 rw [ByteArray.toList_eq] at h
 exact List.isEmpty_iff.1 h
theorem zcm {s:ByteArray} {w:World}(hs:s.size≤2000000) :
  Calls Tryz.prog 80 #[.string s] w (RetIntsX s w):=by
 have h0:=World.ownsRow_lit (base:=w.heap.size) (e:=3) (size:=1) w #[] 0 (Nat.le_refl _) (by unfold maxLen;omega) rfl
 have hx1:=(Ext.refl w).alloc (.cells #[] 3)
 go_enter Tryz.func80,Tryz.ntmps80
 go_upto_region 2 with fail
 obtain⟨K,hK⟩:∃ K,Hid (K=w.heap.size):=⟨_,za rfl⟩
 rw [← hK.out] at h0 ⊢
 generalize w.alloc (.cells #[] 3)=w1 at *
 cases he:s.toList.isEmpty
 ·have Hne:=za (zak he)
  go_wp2_with fail
  refine (zcl (s:=s) (by omega)).mono ?_
  rintro e w2 ⟨B,m,d,l,rfl,hml,-,zct,hm,hcut,hx2⟩
  have hw2:=hx1.trans hx2
  have h02:=zo h0 hx2
  have Hlx:=za (zaZ hcut.out)
  have Hml:=za hml
  have HP:=za (fun (r:List Nat) (hr:∀ x∈r,x<100) (hj:zv r=s.data.toList) (k:Nat) (y:ByteArray) (hy:l[k]?=some y)=>zbO hcut.out Hne.out hr hj hy)
  have HZ:=za (fun (r:List Nat) (hr:∀ x∈r,x<100) (hj:zv r=s.data.toList)=>join_size hcut.out Hne.out hr hj)
  have hm1:m≤s.size+1:=hm
  clear hml h0 he hm hcut
  go_wp2_with fail
  go_loopw [4,6] (fun v iv wr=>∃ (k:Nat) (ls:List Int),k≤m∧iv=.int .i64 (k:Nat)∧wr.ownsRow K 3 1 v k (ints ls)∧Hid (ls.length=k)∧Hid (∀ r:List Nat,(∀ x∈r,x<100)→zv r=s.data.toList→ls=(r.take k).map fun x:Nat=>(x:Int))∧wr.ownsRow w1.heap.size 9 1 (.slice B m d) m (zbj l)∧Ext w wr) (fun _ iv _=>m - (intOf iv).toNat)
  case atStart=>exact⟨0,[],Nat.zero_le _,rfl,h02,za rfl,za (fun r _ _=>rfl),zct,hw2⟩
  case round =>
   clear h02 zct hw2 hx2
   obtain⟨k,ls,hk,rfl,hv,hll,hj,hstr,hw⟩:=hrel
   obtain⟨A5,c5,rfl⟩:=zr hv
   by_cases hlt:k<m
   ·obtain⟨gB,rfl,-,-⟩:=zN hstr (by omega)
    obtain⟨ad,xk,hae,-,-,hxk,hck⟩:=(Reads.of_own hstr).str hlt
    obtain rfl:=Option.some.inj hae
    rw [zK,Nat.zero_add] at hck
    have hbk:=za (Hlx.out xk (List.mem_of_getElem? hxk.out))
    have Hxk:=za hxk.out
    go_wp2_with fail
    refine (spec_l19NumX (s:=xk) (by have:=hbk.out;omega)).mono ?_
    rintro e w3 ⟨x,ok,rfl,rfl,hX⟩
    cases ok
    ·go_wp2_with fail
     exact bodyPost_ret (v:=.tuple #[.slice none 0 0,.bool false]) (by simp [results,Tryz.results80,go_sem]) rfl ⟨none,0,0,[],false,rfl,rfl,World.ownsRow_nil _ _ _ _,by omega,za (fun r hr h=>by
      obtain⟨x',h1,h2,h3⟩:=HP.out r hr h k xk Hxk.out
      exact absurd (hX.out x' h2 h3).1 (by decide)),hw⟩
    ·have hsz:=hw.size
     go_wp2_with (at_builtin;refine zam w wr rfl _ _ _ rfl 3 _ 1 8 Tryz.underlying74 zbh rfl (by decide) (.slice A5 k c5) k (ints ls) _ _ rfl rfl hsz (by rw [← hK.out];exact hv) rfl (by simp [Value.oneCell']) (by unfold maxLen;omega) (by omega) ?_;intro g5 cap5 w5 zcv hg5 hat5 hlt5)
     go_roundw
     case rel=>exact⟨k+1,ls++[x],by omega,by go_num,by rw [hK.out];simpa [ints] using zcv,za (by have:=hll.out;simp;omega),za (fun r hr h=>by
      obtain⟨x',h1,h2,h3⟩:=HP.out r hr h k xk Hxk.out
      rw [hj.out r hr h,List.take_add_one,h1,(hX.out x' h2 h3).2,List.map_append]
      rfl),zi hstr (Frm.of_grown hg5) (fun b hb hS=>zX hstr hv (by decide) hb hS),hw.grown hg5 (fun j hj=>by have:=(hv.lt j hj).1;have:=hK.out;omega)⟩
     case measure=>simp [intOf];omega
   ·obtain rfl:k=m:=by omega
    go_wp2_with fail
    exact bodyPost_ret (v:=.tuple #[.slice A5 k c5,.bool true]) (by simp [results,Tryz.results80,go_sem]) rfl ⟨A5,k,c5,ls,true,rfl,hll.out.symm,by rw [← hK.out];exact hv,hm1,za (fun r hr h=>⟨rfl,by
     rw [hj.out r hr h,List.take_of_length_le]
     have:=HZ.out r hr h
     have:=Hml.out
     omega⟩),hw⟩
 ·have He:=za (zaN he)
  go_wp2_with fail
  exact bodyPost_ret (v:=.tuple #[.slice (some ⟨K,0,none⟩) 0 0,.bool true]) (by simp [results,Tryz.results80,go_sem]) rfl ⟨some ⟨w.heap.size,0,none⟩,0,0,[],true,by rw [hK.out],rfl,by rw [hK.out] at h0;exact h0,by omega,za (fun r hr h=>⟨rfl,by rw [join_nil hr (h.trans He.out)];rfl⟩),hx1⟩
def RetAlX (x:ByteArray) (w:World) (e:Ending) (w':World):Prop:=∃ (a:Nat) (ok:Bool),e=.returned (.tuple #[.int .i64 a,.bool ok])∧a<64∧Hid (ok=true∧alX a=x.data.toList∨ok=false∧a=0∧∀ n<64,alX n≠x.data.toList)∧Ext w w'
theorem zaB {x:ByteArray} {w:World} :
  Calls Tryz.prog 79 #[.string x] w (RetAlX x w):=by
 go_enter Tryz.func79,Tryz.ntmps79
 go_wp2_with fail
 go_loopw [4] (fun i wr=>∃ k:Nat,k≤64∧i=.int .i64 k∧Hid (∀ n<k,alX n≠x.data.toList)∧Ext w wr) (fun i _=>64 - (intOf i).toNat)
 case atStart=>exact⟨0,Nat.zero_le _,rfl,za (fun n hn=>by omega),Ext.refl _⟩
 case round =>
  obtain⟨k,hk,rfl,hno,zcq⟩:=hrel
  by_cases hlt:k<64
  ·go_wp2_with fail
   refine (zJ hlt).mono ?_
   rintro e w2 ⟨t,rfl,ht,hx2⟩
   cases hxt:t.toList==x.toList
   ·have hne:=za (show alX k≠x.data.toList by
     rw [ByteArray.toList_eq,ByteArray.toList_eq,ht.out] at hxt
     exact fun h=>by rw [h] at hxt;simp at hxt)
    go_wp2_with fail
    go_roundw
    case rel=>exact⟨k+1,by omega,by go_num,za (fun n hn=>by
     by_cases h:n=k
     ·rw [h];exact hne.out
     ·exact hno.out n (by omega)),zcq.trans hx2⟩
    case measure=>simp [intOf];omega
   ·have heq:=za (show alX k=x.data.toList by
     rw [ByteArray.toList_eq,ByteArray.toList_eq,ht.out] at hxt
     exact eq_of_beq hxt)
    go_wp2_with fail
    go_ret2
    exact⟨k,true,rfl,hlt,za (.inl ⟨rfl,heq.out⟩),zcq.trans hx2⟩
  ·obtain rfl:k=64:=by omega
   go_wp2_with fail
   go_ret2
   exact⟨0,false,rfl,by omega,za (.inr ⟨rfl,rfl,hno.out⟩),zcq⟩
def ParsX (x:ByteArray) (ok:Bool) (b:Aut):Prop:=ok=true∧zc b=true∧zV b=x.data.toList∨ok=false∧b=⟨0,[],[]⟩∧∀ a,zc a=true→zV a≠x.data.toList
def RetPX (x:ByteArray) (w:World) (e:Ending) (w':World):Prop:=
 ∃ (b:Aut) (A:Option Addr) (n c:Nat) (A':Option Addr) (n' c':Nat) (ok:Bool),e=.returned (.tuple #[.agg #[.int .i64 b.al,.slice A n c,.slice A' n' c'],.bool ok])∧zA w' w.heap.size A n c A' n' c' b∧Hid (ParsX x ok b)∧Ext w w'
theorem zae {x:ByteArray} {w W:World} {Z:Nat}(hd:Ext w W)(hZ:w.heap.size≤Z)(hn:∀ a,zc a=true→zV a≠x.data.toList) :
  RetPX x w (.returned (.tuple #[.agg #[.int .i64 0,.slice none 0 0,.slice none 0 0],.bool false])) (((W.setCell ⟨Z,0,none⟩ (.int .i64 0)).setCell ⟨Z,1,none⟩ (.slice none 0 0)).setCell ⟨Z,2,none⟩ (.slice none 0 0)):=
 ⟨⟨0,[],[]⟩,none,0,0,none,0,0,false,rfl,⟨⟨[],World.ownsRow_nil _ _ _ _,zf.nil _ _⟩,rfl,World.ownsRow_nil _ _ _ _,rfl⟩,za (.inr ⟨rfl,rfl,hn⟩),((hd.setCell (p:=⟨Z,0,none⟩) hZ _).setCell (p:=⟨Z,1,none⟩) hZ _).setCell (p:=⟨Z,2,none⟩) hZ _⟩
theorem zbb {x:ByteArray} {l:List ByteArray}(h:l.map (fun x=>x.data.toList)=zC 32 x.data.toList) {a:Aut}(ha:zc a=true)(he:zV a=x.data.toList):l.map (fun x=>x.data.toList)=alX a.al.toNat :: zO a:=by
 rw [h,← he,txt_cut ha]
theorem txt_first {x x0:ByteArray} {l:List ByteArray}(h:l.map (fun x=>x.data.toList)=zC 32 x.data.toList)(h0:l[0]?=some x0) {a:Aut}(ha:zc a=true)(he:zV a=x.data.toList):x0.data.toList=alX a.al.toNat:=by
 have e:=congrArg (fun z:List (List UInt8)=>z[0]?) (zbb h ha he)
 simp only [List.getElem?_map,h0,Option.map_some,List.getElem?_cons_zero,Option.some.injEq] at e
 exact e
theorem txt_row {x y:ByteArray} {l:List ByteArray}(h:l.map (fun x=>x.data.toList)=zC 32 x.data.toList) {i:Nat}(hi:1≤i)(h0:l[i]?=some y) {a:Aut}(ha:zc a=true)(he:zV a=x.data.toList):∃ r b,a.next[i - 1]?=some r∧a.acc[i - 1]?=some b∧RowS r∧y.data.toList=zbR b r:=by
 have e:=congrArg (fun z:List (List UInt8)=>z[i]?) (zbb h ha he)
 obtain⟨j,rfl⟩:∃ j,i=j+1:=⟨i - 1,by omega⟩
 simp only [List.getElem?_map,h0,Option.map_some,List.getElem?_cons_succ] at e
 unfold zO at e
 rw [List.getElem?_map] at e
 cases hz:(a.next.zip a.acc)[j]? with
 |none=>rw [hz] at e;cases e
 |some p =>
  rw [hz] at e
  obtain⟨h1,h2⟩:=List.getElem?_zip_eq_some.1 hz
  refine⟨p.1,p.2,h1,h2,((ze ha).2.2.2.2.2 p.1 (List.mem_of_getElem? h1)).1,Option.some.inj e⟩
theorem txt_count {x:ByteArray} {l:List ByteArray}(h:l.map (fun x=>x.data.toList)=zC 32 x.data.toList) {a:Aut}(ha:zc a=true)(he:zV a=x.data.toList):l.length=a.next.length+1:=by
 have:=congrArg List.length (zbb h ha he)
 have h3:=(ze ha).2.2.1
 simp only [List.length_map,List.length_cons,zO,List.length_zip] at this
 omega
theorem first_ne {x x0:ByteArray} {l:List ByteArray}(h:l.map (fun x=>x.data.toList)=zC 32 x.data.toList)(h0:l[0]?=some x0)(hx0:x0.data.toList≠[]):x.data.toList≠[]:=by
 intro e
 rw [e] at h
 have e2:=congrArg (fun z:List (List UInt8)=>z[0]?) h
 simp only [List.getElem?_map,h0,Option.map_some,zC,List.getElem?_cons_zero,Option.some.injEq] at e2
 exact hx0 e2
theorem rest_list {s:ByteArray} {b:UInt8} {r:List UInt8}(h:s.data.toList=b :: r):(s.extract 1 s.size).data.toList=r:=by
 have hs:s.size=r.length+1:=by
  have:=congrArg List.length h
  simpa using this
 rw [zE,h,hs]
 simp
theorem head_sign {s:ByteArray} {b:Bool} {r:List UInt8}(h:s.data.toList=(if b then 43 else 45) :: r)(h0:0<s.size):((s[0].toNat:Int)==43)=b:=by
 have hb:=zQ s 0 h0
 rw [h] at hb
 simp only [List.getElem?_cons_zero,Option.some.injEq] at hb
 rw [← hb]
 cases b<;>rfl
theorem cast_row {r:List Int}(h:RowS r):(r.map Int.toNat).map (fun x:Nat=>(x:Int))=r:=by
 rw [List.map_map]
 refine (List.map_congr_left fun q hq=>?_).trans (List.map_id r)
 have:=h q hq
 show ((q.toNat:Nat):Int)=q
 omega
theorem yP02a2 {P:Prop}(h:P:=by
 go_wp2_with fail
 have hfb:=zs bz4 rfl (.int .i64 0) (.slice none 0 0) (.slice none 0 0)
 have cf:=hfb.cell
 exact bodyPost_ret (v:=.tuple #[.agg #[.int .i64 0,.slice none 0 0,.slice none 0 0],.bool false]) (by simp [results,Tryz.results38,go_sem,cf]) rfl hno4.out
 ):P:=h
theorem yP02a3 {P:Prop}(h:P:=by
 have cf:=hfb.cell
 exact bodyPost_ret (v:=.tuple #[.agg #[.int .i64 0,.slice none 0 0,.slice none 0 0],.bool false]) (by simp [results,Tryz.results38,go_sem,cf]) rfl hno.out
 ):P:=h
theorem zat {x:ByteArray} {w:World}(hx:x.size≤2000000) :
  Calls Tryz.prog 38 #[.string x] w (RetPX x w):=by
 go_enter Tryz.func38,Tryz.ntmps38
 have hx0:=(Ext.refl w).alloc (.cells #[.int .i64 0,.slice none 0 0,.slice none 0 0] 26)
 have bz:=Blk.new w 26 #[.int .i64 0,.slice none 0 0,.slice none 0 0]
 have hz0:=bz.lt
 go_wp2_with fail
 generalize w.alloc (.cells #[.int .i64 0,.slice none 0 0,.slice none 0 0] 26)=w0 at *
 refine (zck (s:=x) (by omega)).mono ?_
 rintro e w1 ⟨B,m,d,l,rfl,hml,hm0,zcs,hm,hcut,hx1⟩
 have Hlx:=za (zaZ hcut.out)
 have Hml:=za hml
 have Hcount:=za (fun a ha he=>txt_count hcut.out (a:=a) ha he)
 have hmx:m≤2000001:=by omega
 clear hml
 obtain⟨gB,rfl,hgB,-⟩:=zN zcs hm0
 obtain⟨ad,x0,hae,-,-,hx0',hc0⟩:=(Reads.of_own zcs).str (k:=0) hm0
 obtain rfl:=Option.some.inj hae
 rw [zK,Nat.add_zero] at hc0
 have hm0':(0:Int)<(m:Int):=by omega
 have Hfirst:=za (fun a ha he=>txt_first hcut.out hx0'.out (a:=a) ha he)
 have Hne0:=za (fun h=>first_ne hcut.out hx0'.out h)
 have Hrow:=za (fun (i:Nat) (hi:1≤i) (y:ByteArray) (h0:l[i]?=some y) a ha he=>txt_row hcut.out hi h0 (a:=a) ha he)
 clear hcut
 go_wp2_with fail
 refine (zaB (x:=x0)).mono ?_
 rintro e w2 ⟨al,ok1,rfl,ha,hal1,hx2⟩
 have hw2:=hx1.trans hx2
 have bz2:=bz.ext hw2
 have cz2:=bz2.cell
 have fz2:=bz2.frozen
 cases ok1
 ·have hno:=za (zae (x:=x) (Z:=w.heap.size) (hx0.trans hw2) (Nat.le_refl _) (fun a ha he=>by
   rcases hal1.out with h|⟨-,-,h⟩
   ·exact absurd h.1 (by decide)
   ·exact h _ (ze ha).2.1 (Hfirst.out a ha he).symm))
  go_wp2_with fail
  have hfb:=zs bz2 rfl (.int .i64 0) (.slice none 0 0) (.slice none 0 0)
  exact yP02a3
 ·have hal2:alX al=x0.data.toList:=by
   rcases hal1.out with h|h
   ·exact h.2
   ·exact absurd h.1 (by decide)
  have Hne:=za (Hne0.out (by rw [← hal2];exact al_ne ha))
  have Hal:=za (fun (a:Aut) (h:zc a=true) (he:zV a=x.data.toList)=>show a.al=(al:Int) from by
   have h1:=al_inj ha (ze h).2.1 (hal2.trans (Hfirst.out a h he))
   have:=(ze h).1
   omega)
  clear hal1 hal2
  have bG:=Blk.new w2 26 #[.int .i64 al,.slice none 0 0,.slice none 0 0]
  have hx3:=(Ext.refl w2).alloc (.cells #[.int .i64 al,.slice none 0 0,.slice none 0 0] 26)
  have hs2:=hw2.size
  have zct:=zo zcs hx2
  go_upto_region 6 with fail
  have zcu:=zo zct hx3
  have zcp:Gro w0 (w2.alloc (.cells #[.int .i64 al,.slice none 0 0,.slice none 0 0] 26)) w2.heap.size al (.slice none 0 0) [] [] (.slice none 0 0) []:=⟨bG,World.ownsRow_nil _ _ _ _,zf.nil _ _,World.ownsRow_nil _ _ _ _,hw2.trans hx3,hs2⟩
  generalize w2.alloc (.cells #[.int .i64 al,.slice none 0 0,.slice none 0 0] 26)=w3 at *
  generalize w2.heap.size=G at *
  clear cz2 fz2 hc0 zct
  go_wp2_with fail
  go_loopw [8] (fun iv wr=>∃ (i:Nat) (v:Value) (rows:List Value) (ls:List (List Int)) (vA:Value) (acc:List Bool),1≤i∧i≤m∧iv=.int .i64 (i:Nat)∧Gro w0 wr G al v rows ls vA acc∧Hid (ls.length≤i - 1)∧Hid (acc.length=ls.length)∧Hid (∀ a,zc a=true→zV a=x.data.toList→ls=a.next.take (i - 1)∧acc=a.acc.take (i - 1))∧wr.ownsRow w0.heap.size 9 1 (.slice (some ⟨gB,0,none⟩) m d) m (zbj l)) (fun iv _=>m - (intOf iv).toNat)
  case atStart=>exact⟨1,_,_,[],_,[],Nat.le_refl _,hm0,rfl,zcp,za (Nat.zero_le _),za rfl,za (fun a _ _=>⟨rfl,rfl⟩),zcu⟩
  case round =>
   clear zcp zcu
   obtain⟨i,v,rows,ls,vA,acc,hi1,hi,rfl,zcp,hln,hal,htk,hstr⟩:=hrel
   have bz3:=bz.ext zcp.ext
   by_cases hlt:i<m
   ·obtain⟨ad,xk,hae,-,-,hxk,hck⟩:=(Reads.of_own hstr).str hlt
    obtain rfl:=Option.some.inj hae
    rw [zK,Nat.zero_add] at hck
    have hbk:=Hlx.out xk (List.mem_of_getElem? hxk.out)
    have HR:=za (Hrow.out i hi1 xk hxk.out)
    cases he:xk.toList.isEmpty
    ·have Hxne:=za (zak he)
     have h1k:1≤xk.size:=by
      rcases Nat.eq_zero_or_pos xk.size with h0|h0
      ·rw [ByteArray.toList_eq] at he
       have e2:xk.data.toList.length=xk.size:=rfl
       rw [List.eq_nil_of_length_eq_zero (e2.trans h0)] at he
       cases he
      ·exact h0
     have h1k':(1:Int)≤(xk.size:Int):=by omega
     have hex:(xk.extract 1 xk.size).size≤x.size:=by rw [ByteArray.size_extract];omega
     have HJ:=za (fun (a:Aut) (ha:zc a=true) (he:zV a=x.data.toList)=>show ∃ r b,a.next[i - 1]?=some r∧a.acc[i - 1]?=some b∧RowS r∧zv (r.map Int.toNat)=(xk.extract 1 xk.size).data.toList∧xk.data.toList=zbR b r from by
      obtain⟨r,b,h1,h2,h3,h4⟩:=HR.out a ha he
      exact⟨r,b,h1,h2,h3,(rest_list h4).symm,h4⟩)
     go_wp2_with fail
     refine (zcm (s:=xk.extract 1 xk.size) (by omega)).mono ?_
     rintro e w4 ⟨Ar,nr,cr,lr,ok,rfl,hnr,hor,hnb,hjo,hx4⟩
     cases ok
     ·have hno4:=za (zae (x:=x) (Z:=w.heap.size) ((hx0.trans zcp.ext).trans hx4) (Nat.le_refl _) (fun a ha he=>by
       obtain⟨r,b,h1,h2,h3,h4,-⟩:=HJ.out a ha he
       exact absurd (hjo.out _ h3.nat h4).1 (by decide)))
      have bz4:=bz3.ext hx4
      have cz:=bz4.cell
      have fz:=bz4.frozen
      exact yP02a2
     ·subst hnr
      have HL:=za (fun (a:Aut) (ha:zc a=true) (he:zV a=x.data.toList)=>show ∃ b,a.next[i - 1]?=some lr∧a.acc[i - 1]?=some b∧xk.data.toList=zbR b lr from by
       obtain⟨r,b,h1,h2,h3,h4,h5⟩:=HJ.out a ha he
       have e:lr=r:=(hjo.out _ h3.nat h4).2.trans (cast_row h3)
       subst e
       exact⟨b,h1,h2,h5⟩)
      have hlow:=za zcp.low
      have hs1:=za zcp.ext.size
      have hacc4:=zcp.more hx4
      have hstr4:=zo hstr hx4
      have cG:=hacc4.blk.cell
      have hs4:=hacc4.ext.size
      have hlm:ls.length≤2000001:=by have:=hln.out;omega
      have Hxk:=za hxk.out
      clear zcp hstr hck hjo HJ
      go_upto_region 15 with (at_builtin;refine zam w0 w4 rfl _ _ _ rfl 74 _ 1 24 Tryz.underlying23 info_ints rfl (by decide) v ls.length rows _ _ rfl rfl hs4 hacc4.nx rfl (zbm _ _ _) (by unfold maxLen;omega) (by omega) ?_;intro g5 cap5 w6 hown6 hg6 hat6 hlt6;obtain⟨q1,q2,q3⟩:=hacc4.pushRow hlow.out hs1.out hor hown6 hg6 hat6;have q1':=q1.out;have hstr6:=(zi hstr4 (Frm.of_grown hg6) (fun b hb hS=>zX hstr4 hacc4.nx (by decide) hb hS)))
      have hstr7:=zi hstr6 (Frm.setCell w6 G 1 (.slice (some ⟨g5,0,none⟩) (ls.length+1) cap5)) (fun b hb hS=>by
       have hB6:Blk w6 G 26 #[.int .i64 al,v,vA]:=(hg6.block G hacc4.blk.lt (fun e=>zt hacc4.nx hacc4.blk (by decide) e.symm rfl)).trans hacc4.blk
       exact zt hstr6 hB6 (by decide) hb hS)
      have hln7:=za (show (ls++[lr]).length≤i by have:=hln.out;simp;omega)
      have hal7:=za (show acc.length+1=(ls++[lr]).length by have:=hal.out;simp;omega)
      have htk7:=za (fun (a:Aut) (ha:zc a=true) (he:zV a=x.data.toList)=>show ls++[lr]=a.next.take i∧acc=a.acc.take (i - 1)∧∃ b,a.acc[i - 1]?=some b∧xk.data.toList=zbR b lr from by
       obtain⟨h1,h2⟩:=htk.out a ha he
       obtain⟨b,h3,h4,h5⟩:=HL.out a ha he
       have e:i=(i - 1)+1:=by omega
       refine⟨?_,h2,b,h4,h5⟩
       rw [e,List.take_add_one,← h1,h3]
       rfl)
      clear q1 q1' q2 hown6 hg6 hat6 hlt6 hstr6 hstr4 hacc4 cG hln hal htk hor HL
      generalize ls++[lr]=ls7 at *
      generalize rows++[.slice Ar lr.length cr]=rows7 at *
      generalize w6.setCell ⟨G,1,none⟩ (.slice (some ⟨g5,0,none⟩) (ls.length+1) cap5)=w7 at *
      generalize Value.slice (some ⟨g5,0,none⟩) (ls.length+1) cap5=v7 at *
      obtain⟨ad7,xk7,hae7,-,-,hxk7,hck7⟩:=(Reads.of_own hstr7).str hlt
      obtain rfl:=Option.some.inj hae7
      rw [zK,Nat.zero_add] at hck7
      obtain rfl:xk7=xk:=Option.some.inj (hxk7.out.symm.trans Hxk.out)
      have cG:∀ W,Ext w7 W→∀ q,W.cell? ⟨G,q,none⟩=#[Value.int .i64 al,v7,vA][q]?:=fun W hW=>(q3.blk.ext hW).cell
      have cS:∀ W,Ext w7 W→W.cell? ⟨gB,i,none⟩=some (.string xk7):=fun W hW=>hW.cell_some hck7
      have h0k:0<xk7.size:=by omega
      have h0k':(0:Int)<(xk7.size:Int):=by omega
      have hb0:=zT xk7 0 h0k
      have Hsig:=za (fun (b:Bool) (h:xk7.data.toList=zbR b lr)=>head_sign h h0k)
      obtain⟨bb,hbb⟩:∃ bb,((xk7[0].toNat:Int)==43)=bb:=⟨_,rfl⟩
      rw [hbb] at Hsig
      have hww:=Ext.refl w7
      clear hck7 hxk7 Hxk
      refine uR (fun X=>Ext w7 X) [9,11] (zaq.of [0,1,2,3,4,5,6,7,8,9,10,11]) ?_
      refine uQ ?_
      have hxd:=hww.drew
      refine useq_step fun K hK=>?_;go_simp
      refine hK.out _ _ (hxd.alloc _) ?_
      refine pT ?_
      refine zaR fun K hK=>?_
      have hs7:=q3.ext.size
      have q3d:=q3.more hxd
      have hal8:acc.length≤2000001:=by have:=hal7.out;have:=hln7.out;omega
      have hstr8:=zo hstr7 hxd
      refine wp_push w0 w7.drew _ _ _ rfl 4 _ 1 1 Tryz.underlying24 info_bool rfl (by decide) vA acc.length (zD acc) _ _ rfl rfl q3d.ext.size q3d.acc rfl (by simp [Value.oneCell']) (by unfold maxLen;omega) (by omega) ?_
      intro g8 cap8 w8 hown8 hg8 hat8 hlt8
      refine hK.out _ _ ?_
      refine pT ?_
      refine uQ ?_
      obtain⟨p1,p2,p3⟩:=q3d.pushAcc (x:=bb) (W':=w8) hown8 hg8 hat8
      have p1':=p1.out
      have hstr9:=zi hstr8 (Frm.of_grown hg8) (fun b hb hS=>zX hstr8 q3d.acc (by decide) hb hS)
      have hstr10:=zi hstr9 (Frm.setCell w8 G 2 (.slice (some ⟨g8,0,none⟩) (acc.length+1) cap8)) (fun b hb hS=>by
       have hB8:Blk w8 G 26 #[.int .i64 al,v7,vA]:=(hg8.block G q3d.blk.lt (fun e=>zt q3d.acc q3d.blk (by decide) e.symm rfl)).trans q3d.blk
       exact zt hstr9 hB8 (by decide) hb hS)
      refine zaR fun K hK=>?_
      go_simp
      refine hK.out _ _ ?_
      refine useq_nil ?_
      go_wp2_with fail
      go_roundw
      case rel=>exact⟨i+1,_,_,ls7,_,acc++[bb],by omega,by omega,by go_num,p3,za (by have:=hln7.out;omega),za (by have:=hal7.out;simp;omega),za (fun a ha he=>by
       obtain⟨h1,h2,b,h3,h4⟩:=htk7.out a ha he
       refine⟨h1,?_⟩
       have e:i+1 - 1=(i - 1)+1:=by omega
       rw [e,List.take_add_one,← h2,h3,Hsig.out b h4]
       rfl),hstr10⟩
      case measure=>simp [intOf];omega
    ·have cz:=bz3.cell
     have fz:=bz3.frozen
     have hno:=za (zae (x:=x) (Z:=w.heap.size) (hx0.trans zcp.ext) (Nat.le_refl _) (fun a ha h=>by
      obtain⟨r,b,-,-,-,h4⟩:=HR.out a ha h
      rw [zaN he] at h4
      cases h4))
     go_wp2_with fail
     have hfb:=zs bz3 rfl (.int .i64 0) (.slice none 0 0) (.slice none 0 0)
     exact yP02a3
   ·obtain⟨A5,c5,rfl⟩:=zr zcp.nx
    obtain⟨B5,d5,rfl⟩:=zr zcp.acc
    have hat:zz wr w0.heap.size wr.heap.size A5 ls.length B5 acc.length (⟨al,ls,acc⟩:Aut):=⟨zaH.reads ⟨rows,zcp.nx,zcp.rows⟩ rfl,rfl,Reads.of_own zcp.acc⟩
    have cG:=zcp.blk.cell
    have HE:=za (fun (a:Aut) (ha:zc a=true) (he:zV a=x.data.toList)=>show (⟨al,ls,acc⟩:Aut)=a from by
     obtain⟨h1,h2⟩:=htk.out a ha he
     have h3:=Hcount.out a ha he
     have h4:=Hal.out a ha he
     have h5:=Hml.out
     have h6:=(ze ha).2.2.1
     rw [List.take_of_length_le (by omega)] at h1 h2
     cases a
     simp only [Aut.mk.injEq]
     exact⟨h4.symm,h1,h2⟩)
    go_wp2_with fail
    refine (zG (a:=⟨al,ls,acc⟩) hat).mono ?_
    rintro e w4 ⟨tx,rfl,htx,hx4⟩
    have hacc4:=zcp.more hx4
    have bz4:=bz3.ext hx4
    have cz:=bz4.cell
    have fz:=bz4.frozen
    have cG4:=hacc4.blk.cell
    clear cG
    cases hne:tx.toList==x.toList
    ·have hno4:=za (zae (x:=x) (Z:=w.heap.size) ((hx0.trans zcp.ext).trans hx4) (Nat.le_refl _) (fun a ha he=>by
      have e:=HE.out a ha he
      rw [ByteArray.toList_eq,ByteArray.toList_eq,htx.out,e,he] at hne
      simp at hne))
     exact yP02a2
    ·have hyes:=za (show ParsX x true ⟨al,ls,acc⟩ from by
      have h1:zV ⟨al,ls,acc⟩=x.data.toList:=by
       rw [ByteArray.toList_eq,ByteArray.toList_eq,htx.out] at hne
       exact eq_of_beq hne
      refine .inl ⟨rfl,?_,h1⟩
      cases hv:zc (⟨al,ls,acc⟩:Aut) with
      |true=>rfl
      |false =>
       unfold zV at h1
       rw [hv] at h1
       exact absurd h1.symm Hne.out)
     have hF:=fillA_frm w4 w.heap.size (.int .i64 al) (.slice A5 ls.length c5) (.slice B5 acc.length d5)
     obtain⟨f1,-,-⟩:=hacc4.fin hx0 (hF.mono (fun k _ hk=>by have hk':k=w.heap.size:=hk;omega))
     have f2:=zs bz4 rfl (.int .i64 al) (.slice A5 ls.length c5) (.slice B5 acc.length d5)
     have f3:=(hx0.trans hacc4.ext).frm hF (fun k hk e=>by omega)
     go_wp2_with fail
     have cf:=f2.cell
     exact bodyPost_ret (v:=.tuple #[.agg #[.int .i64 al,.slice A5 ls.length c5,.slice B5 acc.length d5],.bool true]) (by simp [results,Tryz.results38,go_sem,cf]) rfl ⟨⟨al,ls,acc⟩,A5,_,c5,B5,_,d5,true,rfl,f1,hyes,f3⟩
def zbY (x:ByteArray) (ok hd:Bool) (a:Aut) (t:ByteArray):Prop:=
 ok=true∧zd hd a t=true∧zba hd a t=x.data.toList∨ok=false∧hd=false∧a=⟨0,[],[]⟩∧t=⟨#[]⟩∧∀ hd' a' t',zd hd' a' t'=true→zba hd' a' t'≠x.data.toList
theorem zbY.same {x:ByteArray} {ok ok' hd hd':Bool} {a a':Aut} {t t':ByteArray}(h:zbY x ok hd a t) (g:zbY x ok' hd' a' t'):ok=ok'∧hd=hd'∧a=a'∧t=t':=by
 rcases h with ⟨h1,h2,h3⟩|⟨h1,h2,h3,h4,h5⟩<;>rcases g with ⟨g1,g2,g3⟩|⟨g1,g2,g3,g4,g5⟩
 ·obtain⟨e1,e2,e3⟩:=cert_inj h2 g2 (h3.trans g3.symm)
  exact⟨h1.trans g1.symm,e1,e2,e3⟩
 ·exact absurd h3 (g5 _ _ _ h2)
 ·exact absurd g3 (h5 _ _ _ g2)
 ·exact⟨h1.trans g1.symm,h2.trans g2.symm,h3.trans g3.symm,h4.trans g4.symm⟩
theorem zac {x:ByteArray} {hd:Bool} {a:Aut} {t:ByteArray}(hx:x.data.toList≠[])(h:zba hd a t=x.data.toList):zbY x true hd a t:=by
 refine .inl ⟨rfl,?_,h⟩
 cases hv:zd hd a t with
 |true=>rfl
 |false =>
  unfold zba at h
  rw [hv] at h
  exact absurd h.symm hx
theorem zaz {x:ByteArray} {hd:Bool} {a:Aut} {t:ByteArray}(hc:∀ hd' a' t',zd hd' a' t'=true→zba hd' a' t'=x.data.toList→hd=hd'∧a=a'∧t=t')(h:zba hd a t≠x.data.toList):zbY x false false ⟨0,[],[]⟩ ⟨#[]⟩:=
 .inr ⟨rfl,rfl,rfl,rfl,fun hd' a' t' hv he=>h (by
  obtain⟨e1,e2,e3⟩:=hc hd' a' t' hv he
  rw [e1,e2,e3]
  exact he)⟩
theorem pars_empty {x:ByteArray}(hx:x.data.toList=[]):zbY x false false ⟨0,[],[]⟩ ⟨#[]⟩:=
 .inr ⟨rfl,rfl,rfl,rfl,fun _ _ _ hv he=>cert_ne hv (he.trans hx)⟩
theorem empty_ba {t:ByteArray}(h:t.toList.isEmpty=true):t=⟨#[]⟩:=empty_eq h (by rw [ByteArray.toList_eq];rfl)
theorem zbN {x r:ByteArray} {ok:Bool} {b:Aut}(hx:x.data.toList=zH++r.data.toList)(hp:ParsX r ok b):∀ hd' a' t',zd hd' a' t'=true→zba hd' a' t'=x.data.toList→true=hd'∧b=a'∧(⟨#[]⟩:ByteArray)=t':=by
 intro hd a t hv he
 unfold zba at he
 rw [if_pos hv,hx] at he
 cases hd
 ·simp [zH,zW] at he
 ·simp only [if_true] at he
  have e:=List.append_cancel_left he
  simp only [zd,if_true,Bool.and_eq_true] at hv
  refine⟨rfl,?_,(empty_ba hv.2).symm⟩
  rcases hp with ⟨-,h2,h3⟩|⟨-,-,h3⟩
  ·exact txt_inj h2 hv.1 (h3.trans e.symm)
  ·exact absurd e (h3 a hv.1)
theorem zbM {x:ByteArray}(hx:∀ r,x.data.toList≠zH++r) {hd:Bool} {a:Aut} {t:ByteArray}(hv:zd hd a t=true)(he:zba hd a t=x.data.toList):hd=false∧a=⟨0,[],[]⟩∧zbc t=true∧x.data.toList=zW++zaF t:=by
 unfold zba at he
 rw [if_pos hv] at he
 cases hd
 ·simp only [Bool.false_eq_true,if_false] at he
  simp only [zd,Bool.false_eq_true,if_false,Bool.and_eq_true] at hv
  exact⟨rfl,none_eq hv.1,hv.2,he.symm⟩
 ·simp only [if_true] at he
  exact absurd he.symm (hx _)
theorem word_of {t r:ByteArray}(hw:zbc t=true)(h:r.data.toList=zaF t):t=if r.data.toList=[45] then ⟨#[]⟩ else r:=by
 unfold zaF at h
 split at h
 ·rename_i he
  rw [if_pos h]
  exact empty_ba he
 ·rename_i he
  have hne:¬ r.data.toList=[45]:=by rw [h];exact zbE hw
  rw [if_neg hne]
  cases t
  cases r
  exact congrArg ByteArray.mk (Array.toList_inj.1 h.symm)
theorem zao {x r t:ByteArray}(hx:∀ r,x.data.toList≠zH++r)(hr:∀ l,x.data.toList=zW++l→r.data.toList=l)(ht:t=if r.data.toList=[45] then ⟨#[]⟩ else r):∀ hd' a' t',zd hd' a' t'=true→zba hd' a' t'=x.data.toList→false=hd'∧(⟨0,[],[]⟩:Aut)=a'∧t=t':=by
 intro hd a t' hv he
 obtain⟨h1,h2,h3,h4⟩:=zbM hx hv he
 exact⟨h1.symm,h2.symm,ht.trans (word_of h3 (hr _ h4)).symm⟩
theorem word_ne (t:ByteArray):zaF t≠[]:=by
 unfold zaF
 split
 ·simp
 ·rename_i h
  rw [ByteArray.toList_eq] at h
  intro e
  rw [e] at h
  exact h rfl
theorem txtC_len {hd:Bool} {a:Aut} {t:ByteArray}(hv:zd hd a t=true):7≤(zba hd a t).length:=by
 unfold zba
 rw [if_pos hv]
 cases hd
 ·have h:=List.length_pos_iff.2 (word_ne t)
  simp only [Bool.false_eq_true,if_false,List.length_append,zW,List.length_cons,List.length_nil]
  omega
 ·simp only [zd,if_true,Bool.and_eq_true] at hv
  have h:=List.length_pos_iff.2 (txt_ne hv.1)
  simp only [if_true,List.length_append,zH,List.length_cons,List.length_nil]
  omega
theorem pars_short {x:ByteArray}(hx:x.size<7):zbY x false false ⟨0,[],[]⟩ ⟨#[]⟩:=
 .inr ⟨rfl,rfl,rfl,rfl,fun _ _ _ hv he=>by
  have h:=txtC_len hv
  rw [he,Array.length_toList] at h
  have:x.data.size=x.size:=rfl
  omega⟩
theorem zbr {α β:Type} {f:α→List β} {k:Nat}:∀ {l:List α},(∀ x∈l,(f x).length≤k)→(l.flatMap f).length≤l.length*k
 |[],_=>by simp
 |x :: l,h=>by
  have h1:=h x (by simp)
  have h2:=zbr (f:=f) (k:=k) (l:=l) (fun y hy=>h y (by simp [hy]))
  rw [List.flatMap_cons,List.length_append,List.length_cons,Nat.succ_mul]
  omega
theorem alX_len (al:Nat):(alX al).length≤6:=by
 unfold alX
 split
 ·simp
 ·rw [List.length_map]
  exact zh al 6
theorem zbu {r:List Nat}(hr:∀ x∈r,x<100):(zv r).length≤3*r.length:=by
 cases r with
 |nil=>simp [zv]
 |cons x r =>
  have h1:=dig_len (hr x (by simp))
  have h2:=zbr (f:=fun y=>44 :: Lib.decDigits y) (k:=3) (l:=r) (fun y hy=>by
   have:=dig_len (hr y (by simp [hy]))
   simp only [List.length_cons]
   omega)
  unfold zv keyL
  rw [List.length_append,List.length_cons]
  omega
theorem row_len {b:Bool} {r:List Int}(hr:RowS r)(h6:r.length≤6):(zbR b r).length≤19:=by
 have:=zbu hr.nat
 rw [List.length_map] at this
 unfold zbR
 rw [List.length_cons]
 omega
theorem txtA_len (a:Aut):(zV a).length≤300:=by
 unfold zV
 split
 ·rename_i h
  obtain⟨-,-,h2,h3,-,h5⟩:=ze h
  have h1:=alX_len a.al.toNat
  have h4:=zbr (f:=fun x=>(32:UInt8) :: x) (k:=20) (l:=zO a) (fun x hx=>by
   obtain⟨p,hp,rfl⟩:=List.mem_map.1 hx
   have h6:=h5 p.1 (List.of_mem_zip hp).1
   have:=row_len (b:=p.2) h6.1 h6.2
   simp only [List.length_cons]
   omega)
  have h6:(zO a).length≤12:=by
   unfold zO
   rw [List.length_map,List.length_zip]
   omega
  have:(zO a).length*20≤12*20:=Nat.mul_le_mul_right 20 h6
  rw [List.length_append]
  omega
 ·simp
theorem txtC_no {hd:Bool} {a:Aut} {s:ByteArray}(h:zd hd a s=false):zba hd a s=[]:=by
 unfold zba
 rw [h]
 rfl
theorem txtC_holds {a:Aut} {s:ByteArray}(h:zd true a s=true):zba true a s=zH++zV a:=by
 unfold zba
 rw [if_pos h]
 rfl
theorem zbU {a:Aut} {s:ByteArray}(h:zd false a s=true):zba false a s=zW++zaF s:=by
 unfold zba
 rw [if_pos h]
 rfl
theorem zbV {s:ByteArray}(h:s.toList.isEmpty=true):zaF s=[45]:=by
 unfold zaF
 rw [h]
 rfl
theorem zbW {s:ByteArray}(h:s.toList.isEmpty=false):zaF s=s.data.toList:=by
 unfold zaF
 rw [h]
 rfl
theorem zp {lo hi:Nat} {A:Option Addr} {n c:Nat} {A':Option Addr} {n' c':Nat} {hd:Bool} {a:Aut} {s:ByteArray} {w:World}(h:zz w lo hi A n A' n' a)(hs:s.size≤2000000) :
  Calls Tryz.prog 9 #[.agg #[.bool hd,.int .i64 a.al,.slice A n c,.slice A' n' c',.string s]] w (zbZ (zba hd a s) w):=by
 have HV:=za (fun W (hW:Ext w W)=>zal _ _ _ _ c _ _ c' hd _ s W (h.ext hW) (by omega))
 have HF:=za (fun W (hW:Ext w W)=>zG (c:=c) (c':=c') (h.ext hW))
 have Hl:=za (txtA_len a)
 cases hv:zd hd a s
 ·rw [hv] at HV
  have H0:=za (txtC_no hv)
  clear h hv
  go_enter Tryz.func9,Tryz.ntmps9
  go_wp2_with (go_at_call 10;refine (HV.out _ ((Ext.refl _).alloc _)).mono ?_;rintro e w1 ⟨rfl,hx⟩)
  go_ret
  exact⟨_,rfl,za H0.out.symm,((Ext.refl _).alloc _).trans hx⟩
 ·rw [hv] at HV
  cases hd
  ·have H0:=za (zbU hv)
   clear h hv
   cases he:s.toList.isEmpty
   ·rw [zbW he] at H0
    have q0:¬ 9223372036854775807<6+s.size:=by omega
    go_enter Tryz.func9,Tryz.ntmps9
    go_wp2_with fail
    refine (HV.out _ ((Ext.refl _).alloc _)).mono ?_
    rintro e w1 ⟨rfl,hx⟩
    have b1:=zw hx
    have cb:=b1.cell
    have hw1:=((Ext.refl w).alloc _).trans hx
    go_wp2_with fail
    go_ret
    exact⟨_,rfl,za (by rw [H0.out];exact zaf rfl rfl),hw1⟩
   ·rw [zbV he] at H0
    go_enter Tryz.func9,Tryz.ntmps9
    go_wp2_with fail
    refine (HV.out _ ((Ext.refl _).alloc _)).mono ?_
    rintro e w1 ⟨rfl,hx⟩
    have b1:=zw hx
    have cb:=b1.cell
    have hw1:=((Ext.refl w).alloc _).trans hx
    go_wp2_with fail
    go_ret
    exact⟨_,rfl,za (by rw [H0.out];rfl),hw1⟩
  ·have H0:=za (txtC_holds hv)
   clear h hv
   go_enter Tryz.func9,Tryz.ntmps9
   go_wp2_with fail
   refine (HV.out _ ((Ext.refl _).alloc _)).mono ?_
   rintro e w1 ⟨rfl,hx⟩
   have b1:=zw hx
   have cb:=b1.cell
   have hw1:=((Ext.refl w).alloc _).trans hx
   go_wp2_with fail
   refine (HF.out _ hw1).mono ?_
   rintro e w2 ⟨t2,rfl,ht2,hx2⟩
   have hts:t2.size≤300:=by rw [zaE ht2.out];exact Hl.out
   have q0:¬ 9223372036854775807<6+t2.size:=by omega
   go_wp2_with fail
   go_ret
   exact⟨_,rfl,za (by rw [H0.out];exact zaf rfl ht2.out),hw1.trans hx2⟩
def certEq (hd:Bool) (a:Aut) (s:ByteArray) (hd':Bool) (b:Aut) (s':ByteArray):Bool:=(hd==hd')&&(autEq a b&&s.toList==s'.toList)
theorem zaT (lo hi lo' hi':Nat) (A:Option Addr) (n c:Nat) (A':Option Addr) (n' c':Nat)(hd:Bool) (s:ByteArray) (B:Option Addr) (m d:Nat) (B':Option Addr) (m' d':Nat)(hd':Bool) (s':ByteArray) (a b:Aut) (w:World)
  (h:zz w lo hi A n A' n' a) (h':zz w lo' hi' B m B' m' b) :
  Calls Tryz.prog 18 #[.agg #[.bool hd,.int .i64 a.al,.slice A n c,.slice A' n' c',.string s],.agg #[.bool hd',.int .i64 b.al,.slice B m d,.slice B' m' d',.string s']] w fun e w'=>e=.returned (.bool (certEq hd a s hd' b s'))∧Ext w w':=by
 have hR:=fun W (hW:Ext w W)=>h.ext hW
 have HR:=za hR
 have hR':=fun W (hW:Ext w W)=>h'.ext hW
 have HR':=za hR'
 clear hR hR'
 cases h0:hd==hd'
 ·go_enter Tryz.func18,Tryz.ntmps18
  go_wp2
  go_ret
  exact⟨zb (by rw [certEq,h0];simp),((Ext.refl _).alloc _).alloc _⟩
 ·cases h1:autEq a b
  all_goals
   have H1:=za h1
   clear h1
   go_enter Tryz.func18,Tryz.ntmps18
   go_wp2_with (go_at_call 48;refine (zbp _ _ _ _ _ _ _ _ _ _ _ _ _ _ _ _ _ _ _ (HR.out _ ?_) (HR'.out _ ?_)).mono ?_;exact ((Ext.refl _).alloc _).alloc _;exact ((Ext.refl _).alloc _).alloc _;rw [H1.out];rintro e w2 ⟨rfl,hext2⟩;obtain⟨b1,b2⟩:=zZ hext2;have c1:=b1.cell;have c2:=b2.cell)
   all_goals go_ret
   all_goals exact⟨zb (by rw [certEq,H1.out,h0];simp_all),(((Ext.refl _).alloc _).alloc _).trans hext2⟩
theorem eqCertificate_same {lo hi lo' hi':Nat} {A:Option Addr} {n c:Nat} {A':Option Addr} {n' c':Nat} {B:Option Addr} {m d:Nat} {B':Option Addr} {m' d':Nat} {hd:Bool} {s:ByteArray} {a:Aut} {w:World}
  (h:zz w lo hi A n A' n' a) (h':zz w lo' hi' B m B' m' a) :
  Calls Tryz.prog 18 #[.agg #[.bool hd,.int .i64 a.al,.slice A n c,.slice A' n' c',.string s],.agg #[.bool hd,.int .i64 a.al,.slice B m d,.slice B' m' d',.string s]] w fun e w'=>e=.returned (.bool true)∧Ext w w':=by
 refine (zaT _ _ _ _ _ _ _ _ _ _ _ _ _ _ _ _ _ _ _ _ _ _ _ h h').mono ?_
 rintro e w' ⟨rfl,hx⟩
 exact⟨by simp [certEq,autEq_self],hx⟩
theorem markCertificate_any {base hi:Nat} {A:Option Addr} {n c:Nat} {A':Option Addr} {n' c':Nat} {a:Aut} {hd:Bool} {al:Int} {s:ByteArray} {k:Nat} {w:World}(h:AutH w base hi A n c A' n' c' a)(hk:k+cntA a≤4611686018427387904) :
  Calls Tryz.prog 19 #[.agg #[.bool hd,.int .i64 al,.slice A n c,.slice A' n' c',.string s],.int .i64 k] w fun e w'=>e=.returned (.int .i64 (k+cntA a:Nat))∧AutH w' base hi A n c A' n' c' (mkA k a)∧Frm (fun b=>base≤b∧b<hi) w w':=by
 have hx:=(Ext.refl w).alloc (.cells #[.bool hd,.int .i64 al,.slice A n c,.slice A' n' c',.string s] 28)
 have h':=h.ext hx
 clear h
 go_enter Tryz.func19,Tryz.ntmps19
 go_wp2_with fail
 refine (zaY h' hk).mono ?_
 rintro e w2 ⟨rfl,h2,hf⟩
 go_wp2_with fail
 go_ret
 exact⟨rfl,h2,hx.toFrm.trans hf⟩
theorem heldCertificate_any {lo hi:Nat} {A:Option Addr} {n c:Nat} {A':Option Addr} {n' c':Nat} {a:Aut} {hd:Bool} {al:Int} {s:ByteArray} {k:Nat} {w:World}(h:zz w lo hi A n A' n' (mkA k a))(hk:k+cntA a≤4611686018427387904) :
  Calls Tryz.prog 20 #[.agg #[.bool hd,.int .i64 al,.slice A n c,.slice A' n' c',.string s],.int .i64 k] w fun e w'=>e=.returned (.int .i64 (k+cntA a:Nat))∧Ext w w':=by
 have hx:=(Ext.refl w).alloc (.cells #[.bool hd,.int .i64 al,.slice A n c,.slice A' n' c',.string s] 28)
 have h':=h.ext hx
 have hk0:¬ (((k+cntA a:Nat):Int)<0):=by omega
 clear h
 go_enter Tryz.func20,Tryz.ntmps20
 go_wp2_with fail
 refine (zaW h' hk).mono ?_
 rintro e w2 ⟨rfl,hx2⟩
 go_wp2_with fail
 go_ret
 exact⟨rfl,hx.trans hx2⟩
theorem fill5_frm (W:World) (Z:Nat) (u0 u1 u2 u3 u4:Value):Frm (fun k=>k=Z) W (((((W.setCell ⟨Z,0,none⟩ u0).setCell ⟨Z,1,none⟩ u1).setCell ⟨Z,2,none⟩ u2).setCell ⟨Z,3,none⟩ u3).setCell ⟨Z,4,none⟩ u4):=
 ((((Frm.setCell W Z 0 u0).trans (Frm.setCell _ Z 1 u1)).trans (Frm.setCell _ Z 2 u2)).trans (Frm.setCell _ Z 3 u3)).trans (Frm.setCell _ Z 4 u4)
theorem zk {w:World} {Z:Nat} {cs:Array Value} {t:TypeId}(h:Blk w Z t cs)(hc:cs.size=5) (u0 u1 u2 u3 u4:Value):Blk (((((w.setCell ⟨Z,0,none⟩ u0).setCell ⟨Z,1,none⟩ u1).setCell ⟨Z,2,none⟩ u2).setCell ⟨Z,3,none⟩ u3).setCell ⟨Z,4,none⟩ u4) Z t #[u0,u1,u2,u3,u4]:=by
 obtain⟨l⟩:=cs
 match l,hc with
 |[a,b,c,d,e],_=>simpa using ((((h.set_ 0 u0).set_ 1 u1).set_ 2 u2).set_ 3 u3).set_ 4 u4
def aut0:Aut:=⟨0,[],[]⟩
theorem zq (w:World) (base:Nat):zA w base none 0 0 none 0 0 aut0:=⟨⟨[],World.ownsRow_nil _ _ _ _,zf.nil _ _⟩,rfl,World.ownsRow_nil _ _ _ _,rfl⟩
def RetPC (x:ByteArray) (w:World) (e:Ending) (w':World):Prop:=
 ∃ (ok hd:Bool) (a:Aut) (A:Option Addr) (n c:Nat) (A':Option Addr) (n' c':Nat) (t:ByteArray),e=.returned (.tuple #[.agg #[.bool hd,.int .i64 a.al,.slice A n c,.slice A' n' c',.string t],.bool ok])∧zA w' w.heap.size A n c A' n' c' a∧Hid (zbY x ok hd a t)∧Ext w w'
theorem zas {x:ByteArray} {ok hd:Bool} {a:Aut} {A:Option Addr} {n c:Nat} {A':Option Addr} {n' c':Nat} {t:ByteArray} {w W:World} {Z K:Nat}(hx:Ext w W)(hZ:w.heap.size≤Z)(hK:Z<K)(ho:zA W K A n c A' n' c' a)(hp:zbY x ok hd a t) :
  Hid (RetPC x w (.returned (.tuple #[.agg #[.bool hd,.int .i64 a.al,.slice A n c,.slice A' n' c',.string t],.bool ok])) (((((W.setCell ⟨Z,0,none⟩ (.bool hd)).setCell ⟨Z,1,none⟩ (.int .i64 a.al)).setCell ⟨Z,2,none⟩ (.slice A n c)).setCell ⟨Z,3,none⟩ (.slice A' n' c')).setCell ⟨Z,4,none⟩ (.string t))):=by
 have hf:=fill5_frm W Z (.bool hd) (.int .i64 a.al) (.slice A n c) (.slice A' n' c') (.string t)
 exact za ⟨ok,hd,a,A,n,c,A',n',c',t,rfl,(ho.keep hf (fun b h1 e=>by have e':b=Z:=e;omega)).less (by omega),za hp,hx.frm hf (fun k hk e=>by have e':k=Z:=e;omega)⟩
theorem zaC {t x:ByteArray} {L:List UInt8}(h:(t.toList==x.toList)=true)(ht:t.data.toList=L):L=x.data.toList:=by
 rw [ByteArray.toList_eq,ByteArray.toList_eq,ht] at h
 exact eq_of_beq h
theorem zaD {t x:ByteArray} {L:List UInt8}(h:(t.toList==x.toList)=false)(ht:t.data.toList=L):L≠x.data.toList:=by
 intro e
 rw [ByteArray.toList_eq,ByteArray.toList_eq,ht,e] at h
 simp at h
theorem six_rest {x:ByteArray} {P l:List UInt8}(hP:P.length=6)(h:x.data.toList=P++l):(x.extract 6 x.size).data.toList=l:=by
 have e:x.data.toList.length=x.size:=rfl
 rw [zE,List.take_of_length_le (by rw [List.length_drop,e];omega),h,← hP,List.drop_left]
theorem six_head {x:ByteArray} {P l:List UInt8}(hP:P.length=6)(h:x.data.toList=P++l):(x.extract 0 6).data.toList=P:=by
 rw [zE,h,List.drop_zero,Nat.sub_zero,← hP,List.take_left]
theorem six_join {x:ByteArray} {P:List UInt8}(h:(x.extract 0 6).data.toList=P):x.data.toList=P++(x.extract 6 x.size).data.toList:=by
 have e:x.data.toList.length=x.size:=rfl
 rw [← h,zE,zE,List.drop_zero,Nat.sub_zero,List.take_of_length_le (l:=x.data.toList.drop 6) (by rw [List.length_drop,e];omega),List.take_append_drop]
theorem yP02b1 {P:Prop}(h:P:=by
 go_wp2_with fail
 have c4:=r4.cell
 exact bodyPost_ret (v:=.tuple #[.agg #[.bool false,.int .i64 0,.slice none 0 0,.slice none 0 0,.string ⟨#[]⟩],.bool false]) (by simp [results,Tryz.results14,go_sem,c4]) rfl zcr.out
 ):P:=h
theorem yP02a1 {P:Prop}(h:P:=by
 have zcr:=zas (Z:=w.heap.size) (K:=w.heap.size+1) (A:=none) (n:=0) (c:=0) (A':=none) (n':=0) (c':=0) hw1 (Nat.le_refl _) (Nat.lt_succ_self _) (zq _ _) (zaz hcand.out (zaD hne htx.out))
 have r4:=zk bz1 rfl (.bool false) (.int .i64 0) (.slice none 0 0) (.slice none 0 0) (.string ⟨#[]⟩)
 exact yP02b1
 ):P:=h
theorem spec_ParseCertificateX {x:ByteArray} {w:World}(hx:x.size≤2000000) :
  Calls Tryz.prog 14 #[.string x] w (RetPC x w):=by
 have hx0:=(Ext.refl w).alloc (.cells #[.bool false,.int .i64 0,.slice none 0 0,.slice none 0 0,.string ⟨#[]⟩] 28)
 have bz:=Blk.new w 28 #[.bool false,.int .i64 0,.slice none 0 0,.slice none 0 0,.string ⟨#[]⟩]
 have hs0:(w.alloc (.cells #[.bool false,.int .i64 0,.slice none 0 0,.slice none 0 0,.string ⟨#[]⟩] 28)).heap.size=w.heap.size+1:=by simp
 go_enter Tryz.func14,Tryz.ntmps14
 go_upto_region 1 with fail
 generalize w.alloc (.cells #[.bool false,.int .i64 0,.slice none 0 0,.slice none 0 0,.string ⟨#[]⟩] 28)=w0 at *
 by_cases h7:x.size<7
 ·have h7':(x.size:Int)<7:=by omega
  have zcr:=zas (Z:=w.heap.size) (A:=none) (n:=0) (c:=0) (A':=none) (n':=0) (c':=0) hx0 (Nat.le_refl _) (Nat.lt_succ_self _) (zq _ _) (pars_short h7)
  have cz:=bz.cell
  have fz:=bz.frozen
  have r4:=zk bz rfl (.bool false) (.int .i64 0) (.slice none 0 0) (.slice none 0 0) (.string ⟨#[]⟩)
  exact yP02b1
 ·have h7':(7:Int)≤(x.size:Int):=by omega
  have h6':(6:Int)≤(x.size:Int):=by omega
  have hxne:x.data.toList≠[]:=fun e=>by
   have e2:x.data.toList.length=x.size:=rfl
   rw [e,List.length_nil] at e2
   omega
  clear h7
  have hr:(x.extract 6 x.size).size≤2000000:=by rw [ByteArray.size_extract];omega
  cases hh:(x.extract 0 6).toList==[104,111,108,100,115,32]
  ·have hnh:∀ r,x.data.toList≠zH++r:=fun r e=>by
    rw [ByteArray.toList_eq,six_head rfl e] at hh
    simp [zH] at hh
   have hrr:∀ l,x.data.toList=zW++l→(x.extract 6 x.size).data.toList=l:=fun l e=>six_rest rfl e
   have bG:=Blk.new w0 28 #[.bool false,.int .i64 0,.slice none 0 0,.slice none 0 0,.string ⟨#[]⟩]
   have hxa:=(Ext.refl w0).alloc (.cells #[.bool false,.int .i64 0,.slice none 0 0,.slice none 0 0,.string ⟨#[]⟩] 28)
   have bz1:=bz.ext hxa
   have hw1:=hx0.trans hxa
   rw [hs0] at bG
   cases hdd:(x.extract 6 x.size).toList==[45]
   ·have hcand:=za (zao (t:=x.extract 6 x.size) hnh hrr (by
     rw [if_neg]
     intro e
     rw [ByteArray.toList_eq,e] at hdd
     simp at hdd))
    clear bG hxa bz1 hw1
    have bG:=Blk.new w0 28 #[.bool false,.int .i64 0,.slice none 0 0,.slice none 0 0,.string (x.extract 6 x.size)]
    have hxa:=(Ext.refl w0).alloc (.cells #[.bool false,.int .i64 0,.slice none 0 0,.slice none 0 0,.string (x.extract 6 x.size)] 28)
    have bz1:=bz.ext hxa
    have hw1:=hx0.trans hxa
    rw [hs0] at bG
    go_upto_region 9 with fail
    clear hxa hnh hrr hdd hh
    generalize w0.alloc (.cells #[.bool false,.int .i64 0,.slice none 0 0,.slice none 0 0,.string (x.extract 6 x.size)] 28)=w1 at *
    generalize x.extract 6 x.size=t at *
    have ho1:=zq w1 (w.heap.size+1)
    have cG:=bG.cell
    go_upto_region 99 with fail
    refine (zp (a:=⟨0,[],[]⟩) (ho1.reads) hr).mono ?_
    rintro e w9 ⟨tx,rfl,htx,hx9⟩
    clear cG
    replace bG:=bG.ext hx9
    replace bz1:=bz1.ext hx9
    replace ho1:=ho1.ext hx9
    replace hw1:=hw1.trans hx9
    have cG:=bG.cell
    have cz:=bz1.cell
    have fz:=bz1.frozen
    cases hne:tx.toList==x.toList
    ·exact yP02a1
    ·have zcr:=zas (Z:=w.heap.size) (K:=w.heap.size+1) hw1 (Nat.le_refl _) (Nat.lt_succ_self _) ho1 (zac hxne (zaC hne htx.out))
     have r4:=zk bz1 rfl (.bool false) (.int .i64 0) (.slice none 0 0) (.slice none 0 0) (.string t)
     go_wp2_with fail
     have c4:=r4.cell
     exact bodyPost_ret (v:=.tuple #[.agg #[.bool false,.int .i64 0,.slice none 0 0,.slice none 0 0,.string t],.bool true]) (by simp [results,Tryz.results14,go_sem,c4]) rfl zcr.out
   ·have hcand:=za (zao (t:=⟨#[]⟩) hnh hrr (by
     rw [if_pos]
     rw [ByteArray.toList_eq] at hdd
     exact eq_of_beq hdd))
    go_upto_region 9 with fail
    clear hxa hnh hrr hdd hh
    generalize w0.alloc (.cells #[.bool false,.int .i64 0,.slice none 0 0,.slice none 0 0,.string ⟨#[]⟩] 28)=w1 at *
    have ho1:=zq w1 (w.heap.size+1)
    have cG:=bG.cell
    go_upto_region 99 with fail
    refine (zp (a:=⟨0,[],[]⟩) (ho1.reads) (show (⟨#[]⟩:ByteArray).size≤2000000 by decide)).mono ?_
    rintro e w9 ⟨tx,rfl,htx,hx9⟩
    clear cG
    replace bG:=bG.ext hx9
    replace bz1:=bz1.ext hx9
    replace ho1:=ho1.ext hx9
    replace hw1:=hw1.trans hx9
    have cG:=bG.cell
    have cz:=bz1.cell
    have fz:=bz1.frozen
    cases hne:tx.toList==x.toList
    ·exact yP02a1
    ·have zcr:=zas (Z:=w.heap.size) (K:=w.heap.size+1) hw1 (Nat.le_refl _) (Nat.lt_succ_self _) ho1 (zac hxne (zaC hne htx.out))
     have r4:=zk bz1 rfl (.bool false) (.int .i64 0) (.slice none 0 0) (.slice none 0 0) (.string ⟨#[]⟩)
     go_wp2_with fail
     have c4:=r4.cell
     exact bodyPost_ret (v:=.tuple #[.agg #[.bool false,.int .i64 0,.slice none 0 0,.slice none 0 0,.string ⟨#[]⟩],.bool true]) (by simp [results,Tryz.results14,go_sem,c4]) rfl zcr.out
  ·have hjoin:x.data.toList=zH++(x.extract 6 x.size).data.toList:=six_join (by
    rw [ByteArray.toList_eq] at hh
    exact eq_of_beq hh)
   have bG:=Blk.new w0 28 #[.bool true,.int .i64 0,.slice none 0 0,.slice none 0 0,.string ⟨#[]⟩]
   have hxa:=(Ext.refl w0).alloc (.cells #[.bool true,.int .i64 0,.slice none 0 0,.slice none 0 0,.string ⟨#[]⟩] 28)
   have bz1:=bz.ext hxa
   have hw1:=hx0.trans hxa
   have hs1:(w0.alloc (.cells #[.bool true,.int .i64 0,.slice none 0 0,.slice none 0 0,.string ⟨#[]⟩] 28)).heap.size=w.heap.size+1+1:=by simp [hs0]
   rw [hs0] at bG
   have cG:=bG.cell
   go_upto_region 99 with fail
   refine (zat (x:=x.extract 6 x.size) hr).mono ?_
   rintro e w2 ⟨b,A,n,c,A',n',c',ok,rfl,ho,hp,hx2⟩
   rw [hs1] at ho
   have hcand:=za (zbN hjoin hp.out)
   clear cG hh hjoin hp
   replace bG:=bG.ext hx2
   replace bz1:=bz1.ext hx2
   replace hw1:=hw1.trans hx2
   generalize w0.alloc (.cells #[.bool true,.int .i64 0,.slice none 0 0,.slice none 0 0,.string ⟨#[]⟩] 28)=wq at *
   clear hx2 hs1 hxa
   have hxb:=(Ext.refl w2).alloc (.cells #[.int .i64 b.al,.slice A n c,.slice A' n' c'] 26)
   have bb:=Blk.new w2 26 #[.int .i64 b.al,.slice A n c,.slice A' n' c']
   have hlt2:=bG.lt
   replace bG:=bG.ext hxb
   replace bz1:=bz1.ext hxb
   replace hw1:=hw1.trans hxb
   replace ho:=ho.ext hxb
   go_upto_region 6 with fail
   clear hxb
   generalize w2.alloc (.cells #[.int .i64 b.al,.slice A n c,.slice A' n' c'] 26)=w3 at *
   have cG:=bG.cell
   have fG:=bG.frozen
   have cb:=bb.cell
   go_upto_region 9 with fail
   clear cG fG cb
   have hb4:Blk (((w3.setCell ⟨w.heap.size+1,1,none⟩ (.int .i64 b.al)).setCell ⟨w.heap.size+1,2,none⟩ (.slice A n c)).setCell ⟨w.heap.size+1,3,none⟩ (.slice A' n' c')) (w.heap.size+1) 28 #[.bool true,.int .i64 b.al,.slice A n c,.slice A' n' c',.string ⟨#[]⟩]:=by
    simpa using ((bG.set_ 1 (.int .i64 b.al)).set_ 2 (.slice A n c)).set_ 3 (.slice A' n' c')
   have hf:Frm (fun k=>k=w.heap.size+1) w3 (((w3.setCell ⟨w.heap.size+1,1,none⟩ (.int .i64 b.al)).setCell ⟨w.heap.size+1,2,none⟩ (.slice A n c)).setCell ⟨w.heap.size+1,3,none⟩ (.slice A' n' c')):=((Frm.setCell w3 (w.heap.size+1) 1 _).trans (Frm.setCell _ (w.heap.size+1) 2 _)).trans (Frm.setCell _ (w.heap.size+1) 3 _)
   replace bz1:=bz1.frm hf (by omega)
   have ho1:=(ho.keep hf (fun k h1 e=>by have e':k=w.heap.size+1:=e;omega)).less (show w.heap.size+1≤w.heap.size+1+1 by omega)
   replace hw1:=hw1.frm hf (fun k hk e=>by have e':k=w.heap.size+1:=e;omega)
   clear bG ho hf bb
   generalize ((w3.setCell ⟨w.heap.size+1,1,none⟩ (.int .i64 b.al)).setCell ⟨w.heap.size+1,2,none⟩ (.slice A n c)).setCell ⟨w.heap.size+1,3,none⟩ (.slice A' n' c')=w1 at *
   have bG:=hb4
   clear hb4
   have cG:=bG.cell
   go_upto_region 99 with fail
   refine (zp (a:=b) (ho1.reads) (show (⟨#[]⟩:ByteArray).size≤2000000 by decide)).mono ?_
   rintro e w9 ⟨tx,rfl,htx,hx9⟩
   clear cG
   replace bG:=bG.ext hx9
   replace bz1:=bz1.ext hx9
   replace ho1:=ho1.ext hx9
   replace hw1:=hw1.trans hx9
   have cG:=bG.cell
   have cz:=bz1.cell
   have fz:=bz1.frozen
   cases hne:tx.toList==x.toList
   ·exact yP02a1
   ·have zcr:=zas (Z:=w.heap.size) (K:=w.heap.size+1) hw1 (Nat.le_refl _) (Nat.lt_succ_self _) ho1 (zac hxne (zaC hne htx.out))
    have r4:=zk bz1 rfl (.bool true) (.int .i64 b.al) (.slice A n c) (.slice A' n' c') (.string ⟨#[]⟩)
    go_wp2_with fail
    have c4:=r4.cell
    exact bodyPost_ret (v:=.tuple #[.agg #[.bool true,.int .i64 b.al,.slice A n c,.slice A' n' c',.string ⟨#[]⟩],.bool true]) (by simp [results,Tryz.results14,go_sem,c4]) rfl zcr.out
end Go.Proofs.YtfcjhpodichpjaaGreatDoor
namespace Go.Proofs.YtfcjhpodichpjaaGreatDoor
open Go Go.RowKit Go.Lib Go.Sort
abbrev enc8 (n:Int):Value:=.int .u8 n
end Go.Proofs.YtfcjhpodichpjaaGreatDoor
namespace Go.Proofs.YtfcjhpodichpjaaGreatDoor
open Go Go.RowKit
theorem zbI {l:Nat}(hl:l<6) (w:World):Calls Tryz.prog 105 #[.int .i64 (l:Nat)] w fun e w'=>e=.returned (.int .u8 ((97+l:Nat):Nat))∧w=w':=by
 go_enter Tryz.func105,Tryz.ntmps105
 go_wp2
 go_ret
 exact⟨by rw [show (((97+l:Nat):Nat):Int)=97+(l:Int) by omega];rfl,rfl⟩
theorem info_u8:(Tryz.prog.info? 5).map (fun i=>(i.zero,i.size,i.bytes))=some (some (.int .u8 0),1,1):=by kernel_rfl
def lbs (o:List Nat):List Int:=o.map fun l=>((97+l:Nat):Int)
def u8s (l:List Int):List Value:=l.map enc8
theorem Holds.own8 {w:World} {base g n cap:Nat} {e:TypeId} {l:List Int}(h:w.ownsRow base e 1 (.slice (some ⟨g,0,none⟩) n cap) n (u8s l)):Sort.Holds enc8 w g 0 l.toArray:=by
 intro j hj
 have hj':j<l.length:=by simpa using hj
 have hn:=h.1
 simp only [u8s,List.length_map] at hn
 refine⟨?_,by rw [Nat.zero_add];exact h.frozenAt j⟩
 rw [Nat.zero_add,h.cellAt j (by omega)]
 simp [u8s,hj']
theorem u8_row:Tryz.prog.underlying 22=some (.slice 5):=by kernel_rfl
theorem u8_und:Tryz.prog.underlying 5=some (.int .u8):=by kernel_rfl
theorem str_und:Tryz.prog.underlying 9=some .string:=by kernel_rfl
end Go.Proofs.YtfcjhpodichpjaaGreatDoor
