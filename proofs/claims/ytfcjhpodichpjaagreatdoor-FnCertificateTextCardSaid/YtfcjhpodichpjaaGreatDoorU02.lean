/- impl.answers -/
import Derived.Test.YtfcjhpodichpjaaGreatDoorU01
import Derived.Laws.BytesArg
import Derived.Deep.RegionHeld3
import Derived.StillTailTactics
import Derived.BigQuiet
import Derived.Deep.DeepCutAuto
import Derived.Lib.LaidTab
import Derived.LaidMore
import Derived.ProofKit
import Derived.Stop.Joined
import Derived.Stop.LaidErr
import Derived.Lib.TrailingZeros
import Derived.Shelf.Spec.TrailingZeros
import Derived.Deep.AppendLies
import Derived.Lib.SliceRun
set_option maxHeartbeats 4000000
set_option maxRecDepth 100000
namespace Go.Proofs.YtfcjhpodichpjaaGreatDoor
open Go Go.RowKit
theorem Reads.nat {w:World} {lo hi n k:Nat} {A:Option Addr} {l:List Nat}(h:Reads w lo hi 1 A n (zaK l))(hk:k<n):∃ ad x,A=some ad∧lo≤ad.block∧ad.block<hi∧Hid (l[k]?=some x)∧w.cell? (ad.add k)=some (.int .i64 (x:Nat)):=by
 have e:zaK l=ints (l.map fun n:Nat=>(n:Int)):=by simp [zaK,ints]
 rw [e] at h
 obtain⟨ad,x,ha,hl,hh,hx,hc⟩:=h.int hk
 have hx':=hx.out
 rw [List.getElem?_map] at hx'
 cases hq:l[k]? with
 |none=>rw [hq] at hx';simp at hx'
 |some q =>
  rw [hq] at hx'
  simp at hx'
  exact⟨ad,q,ha,hl,hh,rfl,by rw [hc,hx']⟩
def RetStr (L:Nat) (w:World) (e:Ending) (w':World):Prop:=∃ s:ByteArray,e=.returned (.string s)∧s.size≤L∧Ext w w'
theorem zed (w:World) (x:Int):(convert 22 9 (.slice (some ⟨w.heap.size,0,none⟩) 1 1)).run Tryz.prog (w.alloc (.cells #[.int .u8 x] 5))=.ok (.string (strOfNums [x])) (w.alloc (.cells #[.int .u8 x] 5)):=
 run_convert_bytes_arg _ _ 5 Tryz.underlying22 Tryz.underlying5 w.heap.size 0 1 1 [x] rfl (fun i hi=>by
  obtain rfl:i=0:=by omega
  rw [(Blk.new w 5 #[.int .u8 x]).cell];rfl) _ Tryz.underlying9
theorem zbZ (x:Int):(strOfNums [x]).size=1:=by simp [strOfNums];rfl
theorem zcA {l:Int} {w:World}(h0:0≤l)(h1:l<6) :
  Calls Tryz.prog 111 #[.int .i64 l] w (RetStr 1 w):=by
 have hc:=zed w
 go_enter Tryz.func111,Tryz.ntmps111
 go_wp2
 go_ret
 exact⟨_,rfl,Nat.le_of_eq (zbZ _),(Ext.refl _).alloc _⟩
theorem zaZ {a:Nat} {w:World}(ha:a<64) :
  Calls Tryz.prog 57 #[.int .i64 a] w (RetStr 6 w):=by
 have hsm:Sm a:=by unfold Sm;omega
 have hd:=za (show decide (0≤(a:Int)∧(a:Int)≤63)=true by simp;omega)
 by_cases h0:a=0
 ·subst h0
  rw [show ((0:Nat):Int)=0 from rfl]
  have hd0:=za (show decide ((0:Int)≤0∧(0:Int)≤63)=true by decide)
  go_enter Tryz.func57,Tryz.ntmps57
  go_wp2_with (go_at_call 59;refine (zC _ _).mono ?_;rw [hd0.out];rintro e w' ⟨rfl,rfl⟩)
  go_ret
  exact⟨_,rfl,by decide,Ext.refl _⟩
 ·have h0':((a:Int)==0)=false:=by simp;omega
  go_enter Tryz.func57,Tryz.ntmps57
  go_wp2_with fail
  refine (zC _ _).mono ?_
  rw [hd.out]
  rintro e w' ⟨rfl,rfl⟩
  go_wp2_with fail
  refine (zJ a hsm _).mono ?_
  rintro e w1 ⟨B,d,rfl,zhS,hx1⟩
  have hl6:=zq a 6
  have hlm:=za (fun k (hk:k∈letters a 6)=>(zaH.1 hk).1)
  have hrd:=Reads.of_own zhS
  clear zhS
  generalize letters a 6=ls at *
  go_wp2_with fail
  go_loopw [3,5] (fun v i wr=>∃ k:Nat,k≤ls.length∧i=.int .i64 k∧∃ s:ByteArray,v=.string s∧s.size≤k∧Ext w1 wr) (fun _ i _=>ls.length - (intOf i).toNat)
  case atStart=>exact⟨0,Nat.zero_le _,rfl,_,rfl,Nat.le_refl _,Ext.refl _⟩
  case round =>
   obtain⟨k,hk,rfl,s,rfl,hs,zhL⟩:=hrel
   by_cases hlt:k<ls.length
   ·obtain⟨ad,l,rfl,_,_,hl,hlc⟩:=(hrd.ext zhL).nat hlt
    have hl6':=hlm.out l (List.mem_of_getElem? hl.out)
    go_wp2_with fail
    refine (zcA (l:=(l:Int)) (by omega) (by omega)).mono ?_
    rintro e w2 ⟨t,rfl,ht,hx2⟩
    have hst:s.size+t.size≤7:=by omega
    go_wp2_with fail
    go_roundw
    case rel=>exact⟨k+1,by omega,by go_num,_,rfl,by rw [ByteArray.size_append];omega,zhL.trans hx2⟩
    case measure=>simp [intOf];omega
   ·obtain rfl:k=ls.length:=by omega
    go_wp2_with fail
    go_ret
    exact⟨s,rfl,by omega,hx1.trans zhL⟩
def RetAl (w:World) (e:Ending) (w':World):Prop:=∃ (a:Nat) (ok:Bool),e=.returned (.tuple #[.int .i64 a,.bool ok])∧a<64∧Ext w w'
theorem zca {x:ByteArray} {w:World} :
  Calls Tryz.prog 79 #[.string x] w (RetAl w):=by
 go_enter Tryz.func79,Tryz.ntmps79
 go_wp2_with fail
 go_loopw [4] (fun i wr=>∃ k:Nat,k≤64∧i=.int .i64 k∧Ext w wr) (fun i _=>64 - (intOf i).toNat)
 case atStart=>exact⟨0,Nat.zero_le _,rfl,Ext.refl _⟩
 case round =>
  obtain⟨k,hk,rfl,zhL⟩:=hrel
  by_cases hlt:k<64
  ·go_wp2_with fail
   refine (zaZ hlt).mono ?_
   rintro e w2 ⟨t,rfl,ht,hx2⟩
   cases hxt:t.toList==x.toList
   ·go_wp2_with fail
    go_roundw
    case rel=>exact⟨k+1,by omega,by go_num,zhL.trans hx2⟩
    case measure=>simp [intOf];omega
   ·go_wp2_with fail
    go_ret2
    exact⟨k,true,rfl,hlt,zhL.trans hx2⟩
  ·obtain rfl:k=64:=by omega
   go_wp2_with fail
   go_ret2
   exact⟨0,false,rfl,by omega,zhL⟩
theorem zcz {n:Nat} {w:World}(hn:n<100) :
  Calls Tryz.prog 58 #[.int .i64 n] w (RetStr 2 w):=by
 have hn1:(n:Int)<100:=by omega
 go_enter Tryz.func58,Tryz.ntmps58
 go_wp2_with fail
 go_loopw [0,3] (fun n' v wr=>∃ (m:Nat) (s:ByteArray),n'=.int .i64 m∧v=.string s∧(m<100∧s.size=0∨m<10∧s.size≤1)∧Ext w wr) (fun n' _ _=>(intOf n').toNat)
 case atStart=>exact⟨n,_,rfl,rfl,Or.inl ⟨hn,rfl⟩,Ext.refl _⟩
 case round =>
  obtain⟨m,s,rfl,rfl,hms,zhL⟩:=hrel
  have hm100:m<100:=by omega
  have hc:=zed wr
  have hso:=zbZ
  by_cases hlt:9<m
  ·have hs0:s.size=0:=by omega
   have hdiv:=za (Int.natCast_ediv m 10)
   have hm9:(9:Int)<(m:Int):=by omega
   have hs1:s.size≤1:=by omega
   have Hs0:=za hs0
   clear hms hs0
   go_wp2_with fail
   go_roundw
   case rel=>exact⟨m / 10,_,by rw [hdiv.out];rfl,rfl,Or.inr ⟨by omega,by rw [ByteArray.size_append,zbZ,Hs0.out];omega⟩,zhL.alloc _⟩
   case measure=>simp [intOf];omega
  ·have hm9:(m:Int)≤9:=by omega
   have hs1:s.size≤1:=by omega
   clear hms
   go_wp2_with fail
   go_ret
   exact⟨_,rfl,by rw [ByteArray.size_append,zbZ];omega,zhL.alloc _⟩
def RetNumS (w:World) (e:Ending) (w':World):Prop:=∃ (n:Int) (ok:Bool),e=.returned (.tuple #[.int .i64 n,.bool ok])∧w=w'
theorem zbR {s:ByteArray} {w:World}(hs:s.size≤1000000) :
  Calls Tryz.prog 120 #[.string s] w (RetNumS w):=by
 by_cases h0:s.size=0
 ·have h0':¬ 0<s.size:=by omega
  go_enter Tryz.func120,Tryz.ntmps120
  go_wp2
  go_ret2
  exact⟨0,false,rfl,rfl⟩
 have h0':0<s.size:=by omega
 cases hm:((s[0].toNat:Int)==45)
 ·have hq0:0<s.size:=h0'
  by_cases z0:s.size=0
  ·go_enter Tryz.func120,Tryz.ntmps120
   go_wp2
   go_ret2
   exact⟨0,false,rfl,rfl⟩
  have z1:0<s.size:=by omega
  have z1':((s.size:Int)==0)=false:=by rw [beq_eq_false_iff_ne];omega
  by_cases z2:17<s.size
  ·have z2':(17:Int)<(s.size:Int):=by omega
   go_enter Tryz.func120,Tryz.ntmps120
   go_wp2
   go_ret2
   exact⟨0,false,rfl,rfl⟩
  have z2':(s.size:Int)≤17:=by omega
  cases z3:((s[0].toNat:Int)==48)
  ·go_enter Tryz.func120,Tryz.ntmps120
   go_wp2_with fail
   go_loop [5,6] (fun v i=>∃ (k:Nat) (n:Int),k≤s.size∧i=.int .i64 k∧v=.int .i64 n) (fun _ i=>s.size - (intOf i).toNat)
   case atStart=>exact⟨0,0,Nat.zero_le _,rfl,rfl⟩
   case round =>
    obtain⟨k,n,hk,rfl,rfl⟩:=hrel
    by_cases hlt:k<s.size
    ·have hb:=zaP s k hlt
     by_cases c0:(s[k].toNat:Int)<48
     ·go_wp2_with fail
      go_ret2
      exact⟨0,false,rfl,rfl⟩
     ·by_cases c1:57<(s[k].toNat:Int)
      ·go_wp2_with fail
       go_ret2
       exact⟨0,false,rfl,rfl⟩
      ·go_wp2_with fail
       go_round
       case rel=>exact⟨k+1,_,by omega,by go_num,rfl⟩
       case measure=>simp [intOf];omega
    ·obtain rfl:k=s.size:=by omega
     go_wp2_with fail
     go_ret2
     exact⟨_,true,rfl,rfl⟩
  ·by_cases z4:1<s.size
   ·have z4':(1:Int)<(s.size:Int):=by omega
    go_enter Tryz.func120,Tryz.ntmps120
    go_wp2
    go_ret2
    exact⟨0,false,rfl,rfl⟩
   ·have z4':(s.size:Int)≤1:=by omega
    go_enter Tryz.func120,Tryz.ntmps120
    go_wp2_with fail
    go_loop [5,6] (fun v i=>∃ (k:Nat) (n:Int),k≤s.size∧i=.int .i64 k∧v=.int .i64 n) (fun _ i=>s.size - (intOf i).toNat)
    case atStart=>exact⟨0,0,Nat.zero_le _,rfl,rfl⟩
    case round =>
     obtain⟨k,n,hk,rfl,rfl⟩:=hrel
     by_cases hlt:k<s.size
     ·have hb:=zaP s k hlt
      by_cases c0:(s[k].toNat:Int)<48
      ·go_wp2_with fail
       go_ret2
       exact⟨0,false,rfl,rfl⟩
      ·by_cases c1:57<(s[k].toNat:Int)
       ·go_wp2_with fail
        go_ret2
        exact⟨0,false,rfl,rfl⟩
       ·go_wp2_with fail
        go_round
        case rel=>exact⟨k+1,_,by omega,by go_num,rfl⟩
        case measure=>simp [intOf];omega
     ·obtain rfl:k=s.size:=by omega
      go_wp2_with fail
      go_ret2
      exact⟨_,true,rfl,rfl⟩
 ·obtain⟨y,hy⟩:∃ y,s.extract 1 s.size=y:=⟨_,rfl⟩
  have hyl:y.size=s.size - 1:=by rw [← hy,ByteArray.size_extract];omega
  have hyb:y.size≤1000000:=by omega
  have Hyl:=za hyl
  clear hyl
  have h01:(1:Int)≤(s.size:Int):=by omega
  by_cases z0:y.size=0
  ·go_enter Tryz.func120,Tryz.ntmps120
   go_wp2
   go_ret2
   exact⟨0,false,rfl,rfl⟩
  have z1:0<y.size:=by omega
  have z1':((y.size:Int)==0)=false:=by rw [beq_eq_false_iff_ne];omega
  by_cases z2:17<y.size
  ·have z2':(17:Int)<(y.size:Int):=by omega
   go_enter Tryz.func120,Tryz.ntmps120
   go_wp2
   go_ret2
   exact⟨0,false,rfl,rfl⟩
  have z2':(y.size:Int)≤17:=by omega
  cases z3:((y[0].toNat:Int)==48)
  ·go_enter Tryz.func120,Tryz.ntmps120
   go_wp2_with fail
   go_loop [5,6] (fun v i=>∃ (k:Nat) (n:Int),k≤y.size∧i=.int .i64 k∧v=.int .i64 n) (fun _ i=>y.size - (intOf i).toNat)
   case atStart=>exact⟨0,0,Nat.zero_le _,rfl,rfl⟩
   case round =>
    obtain⟨k,n,hk,rfl,rfl⟩:=hrel
    by_cases hlt:k<y.size
    ·have hb:=zaP y k hlt
     by_cases c0:(y[k].toNat:Int)<48
     ·go_wp2_with fail
      go_ret2
      exact⟨0,false,rfl,rfl⟩
     ·by_cases c1:57<(y[k].toNat:Int)
      ·go_wp2_with fail
       go_ret2
       exact⟨0,false,rfl,rfl⟩
      ·go_wp2_with fail
       go_round
       case rel=>exact⟨k+1,_,by omega,by go_num,rfl⟩
       case measure=>simp [intOf];omega
    ·obtain rfl:k=y.size:=by omega
     go_wp2_with fail
     go_ret2
     exact⟨_,true,rfl,rfl⟩
  ·by_cases z4:1<y.size
   ·have z4':(1:Int)<(y.size:Int):=by omega
    go_enter Tryz.func120,Tryz.ntmps120
    go_wp2
    go_ret2
    exact⟨0,false,rfl,rfl⟩
   ·have z4':(y.size:Int)≤1:=by omega
    go_enter Tryz.func120,Tryz.ntmps120
    go_wp2
    go_ret2
    exact⟨0,false,rfl,rfl⟩
theorem zi:(Tryz.prog.info? 9).map (fun i=>(i.zero,i.size,i.bytes))=some (some (.string ⟨#[]⟩),1,16):=by kernel_rfl
def RetStrs (L N:Nat) (w:World) (e:Ending) (w':World):Prop:=∃ (A:Option Addr) (n c:Nat) (l:List ByteArray),e=.returned (.slice A n c)∧n=l.length∧w'.ownsRow w.heap.size 9 1 (.slice A n c) n (zF l)∧(∀ x∈l,x.size≤L)∧n≤N∧Ext w w'
theorem zaD (x:ByteArray):∀ u∈(#[Value.string x]:Array Value).toList,u.oneCell'=true:=by simp [Value.oneCell']
theorem spec_l19Cut {s:ByteArray} {w:World}(hs:s.size≤1000000) :
  Calls Tryz.prog 78 #[.string s,.int .u8 32] w (RetStrs s.size (s.size+1) w):=by
 go_enter Tryz.func78,Tryz.ntmps78
 go_wp2_with fail
 go_loopw [5,6,7] (fun v f i wr=>∃ (k m:Nat) (l:List ByteArray),k≤s.size+1∧i=.int .i64 k∧m≤k∧f=.int .i64 m∧l.length≤k∧wr.ownsRow w.heap.size 9 1 v l.length (zF l)∧Hid (∀ x∈l,x.size≤s.size)∧Ext w wr) (fun _ _ i _=>s.size+1 - (intOf i).toNat)
 case atStart=>exact⟨0,0,[],Nat.zero_le _,rfl,Nat.le_refl _,rfl,Nat.le_refl _,World.ownsRow_lit w #[] 0 (Nat.le_refl _) (by unfold maxLen;omega) rfl,(fun x hx=>by cases hx),(Ext.refl _).alloc _⟩
 case round =>
  obtain⟨k,m,l,hk,rfl,hm,rfl,hl,zhJ,hlx,zhL⟩:=hrel
  by_cases hle:k≤s.size
  ·have hle':(k:Int)≤(s.size:Int):=by omega
   have hm':(m:Int)≤(k:Int):=by omega
   have hex:=za (show (s.extract m k).size≤s.size by rw [ByteArray.size_extract];omega)
   have hall:=za (show ∀ x∈l++[s.extract m k],x.size≤s.size from fun x hx=>by
    rcases List.mem_append.1 hx with h1|h1
    ·exact hlx.out x h1
    ·rw [List.mem_singleton.1 h1];exact hex.out)
   by_cases he:k=s.size
   ·have heq:((k:Int)==(s.size:Int))=true:=by simp [he]
    have He:=za he
    clear he
    go_wp2_with (at_builtin;refine zI w wr rfl _ _ _ rfl 9 _ 1 16 Tryz.underlying61 zi rfl (by decide) u5 _ _ _ _ rfl rfl zhL zhJ rfl (zaD _) (by unfold maxLen;omega) (by omega) ?_;intro v' w1 hext1 zhS hg1 hat1)
    go_roundw
    case rel=>exact⟨k+1,k+1,l++[s.extract m k],by omega,by go_num,by omega,by go_num,by simp;omega,by simpa [zF] using zhS,hall.out,by assumption⟩
    case measure=>simp [intOf];omega
   ·have heq:((k:Int)==(s.size:Int))=false:=by rw [beq_eq_false_iff_ne];omega
    have hlt:k<s.size:=by omega
    have hb:=zaP s k hlt
    cases hc:((s[k].toNat:Int)==32)
    ·go_wp2_with fail
     go_roundw
     case rel=>exact⟨k+1,m,l,by omega,by go_num,by omega,rfl,by omega,zhJ,hlx,zhL⟩
     case measure=>simp [intOf];omega
    ·go_wp2_with (at_builtin;refine zI w wr rfl _ _ _ rfl 9 _ 1 16 Tryz.underlying61 zi rfl (by decide) u5 _ _ _ _ rfl rfl zhL zhJ rfl (zaD _) (by unfold maxLen;omega) (by omega) ?_;intro v' w1 hext1 zhS hg1 hat1)
     go_roundw
     case rel=>exact⟨k+1,k+1,l++[s.extract m k],by omega,by go_num,by omega,by go_num,by simp;omega,by simpa [zF] using zhS,hall.out,by assumption⟩
     case measure=>simp [intOf];omega
  ·obtain rfl:k=s.size+1:=by omega
   obtain⟨A,c,rfl⟩:=zf zhJ
   go_wp2_with fail
   go_ret
   exact⟨A,_,c,l,rfl,rfl,zhJ,hlx.out,by omega,zhL⟩
def RetEdgeS (w:World) (e:Ending) (w':World):Prop:=∃ (x:Edg) (ok:Bool),e=.returned (.tuple #[.agg #[.int .i64 x.fr,.int .i64 x.le,.int .i64 x.ta],.bool ok])∧Ext w w'
theorem spec_l2Parse {s:ByteArray} {w:World}(hs:s.size≤1000000) :
  Calls Tryz.prog 121 #[.string s] w (RetEdgeS w):=by
 have hx1:=(Ext.refl w).alloc (.cells #[.int .i64 0,.int .i64 0,.int .i64 0] 103)
 have hbz:=Blk.new w 103 #[.int .i64 0,.int .i64 0,.int .i64 0]
 go_enter Tryz.func121,Tryz.ntmps121
 go_wp2_with fail
 generalize w.alloc (.cells #[.int .i64 0,.int .i64 0,.int .i64 0] 103)=w1 at *
 go_loop [4] (fun i=>∃ k:Nat,k≤s.size∧i=.int .i64 k) (fun i=>s.size - (intOf i).toNat)
 case atStart=>exact⟨0,Nat.zero_le _,rfl⟩
 case round =>
  obtain⟨k,hk,rfl⟩:=hrel
  have cz:=hbz.cell
  have fz:=hbz.frozen
  by_cases hlt:k<s.size
  ·have hb:=zaP s k hlt
   by_cases c0:(97:Int)≤(s[k].toNat:Int)
   ·by_cases c1:(s[k].toNat:Int)≤102
    ·have he1:=za (show (s.extract 0 k).size≤1000000 by rw [ByteArray.size_extract];omega)
     have he2:=za (show (s.extract (k+1) s.size).size≤1000000 by rw [ByteArray.size_extract];omega)
     have hk1:(k:Int)+1≤(s.size:Int):=by omega
     go_wp2_with fail
     refine (zbR he1.out).mono ?_
     rintro e w2 ⟨n1,ok1,rfl,rfl⟩
     go_wp2_with fail
     refine (zbR he2.out).mono ?_
     rintro e w2 ⟨n2,ok2,rfl,rfl⟩
     go_wp2_with fail
     refine (zaI s k hlt _).mono ?_
     rintro e w2 ⟨rfl,rfl⟩
     have zhM:∀ u0 u1 u2,Ext w (((w1.setCell ⟨w.heap.size,0,none⟩ u0).setCell ⟨w.heap.size,1,none⟩ u1).setCell ⟨w.heap.size,2,none⟩ u2):=fun u0 u1 u2=>((hx1.setCell (Nat.le_refl _) u0).setCell (Nat.le_refl _) u1).setCell (Nat.le_refl _) u2
     have Hfin:=za zhM
     clear zhM
     cases ok1
     ·go_wp2_with fail
      exact bodyPost_ret (v:=.tuple #[.agg #[.int .i64 n1,.int .i64 ((s[k].toNat:Int) - 97),.int .i64 n2],.bool false]) (by simp [results,Tryz.results121,go_sem,cz]) rfl ⟨⟨n1,(s[k].toNat:Int) - 97,n2⟩,false,rfl,Hfin.out _ _ _⟩
     ·go_wp2_with fail
      exact bodyPost_ret (v:=.tuple #[.agg #[.int .i64 n1,.int .i64 ((s[k].toNat:Int) - 97),.int .i64 n2],.bool ok2]) (by simp [results,Tryz.results121,go_sem,cz]) rfl ⟨⟨n1,(s[k].toNat:Int) - 97,n2⟩,ok2,rfl,Hfin.out _ _ _⟩
    ·go_wp2_with fail
     go_round
     case rel=>exact⟨k+1,by omega,by go_num⟩
     case measure=>simp [intOf];omega
   ·go_wp2_with fail
    go_round
    case rel=>exact⟨k+1,by omega,by go_num⟩
    case measure=>simp [intOf];omega
  ·obtain rfl:k=s.size:=by omega
   go_wp2_with fail
   refine bodyPost_ret (v:=.tuple #[.agg #[.int .i64 0,.int .i64 0,.int .i64 0],.bool false]) (by simp [results,Tryz.results121,go_sem,cz]) rfl ⟨⟨0,0,0⟩,false,rfl,?_⟩
   exact ((hx1.setCell (p:=⟨w.heap.size,0,none⟩) (Nat.le_refl _) _).setCell (p:=⟨w.heap.size,1,none⟩) (Nat.le_refl _) _).setCell (p:=⟨w.heap.size,2,none⟩) (Nat.le_refl _) _
def RetCut (c:UInt8) (s:ByteArray) (w:World) (e:Ending) (w':World):Prop:=∃ (A:Option Addr) (n d:Nat) (l:List ByteArray),e=.returned (.slice A n d)∧n=l.length∧0<n∧w'.ownsRow w.heap.size 9 1 (.slice A n d) n (zF l)∧n≤s.size+1∧Hid (l.map (fun x=>x.data.toList)=zbh c s.data.toList)∧Ext w w'
theorem zbt {s:ByteArray} {m k:Nat}:(s.extract m k).data.toList=(s.data.toList.drop m).take (k - m):=by
 rw [ByteArray.data_extract,Array.toList_extract]
theorem cut_step {c:UInt8} {s:ByteArray} {l:List ByteArray} {m k:Nat}(hm:m≤k)(hk:k<s.size)(hc:s[k]=c)(hn:∀ j,m≤j→j<k→s.data.toList[j]?≠some c)
  (h:l.map (fun x=>x.data.toList)++zbh c (s.data.toList.drop m)=zbh c s.data.toList):(l++[s.extract m k]).map (fun x=>x.data.toList)++zbh c (s.data.toList.drop (k+1))=zbh c s.data.toList:=by
 have hb:=zaB s k hk
 rw [hc] at hb
 have e:s.data.toList.drop m=(s.extract m k).data.toList++c :: s.data.toList.drop (k+1):=by
  rw [zbt]
  have e1:(s.data.toList.drop m).drop (k - m)=c :: s.data.toList.drop (k+1):=by
   rw [List.drop_drop,show m+(k - m)=k by omega]
   rw [List.drop_eq_getElem?_toList_append,hb]
   rfl
  rw [← e1,List.take_append_drop]
 have hni:c∉(s.extract m k).data.toList:=by
  rw [zbt]
  intro hmem
  obtain⟨j,hj⟩:=List.mem_iff_getElem?.1 hmem
  rw [List.getElem?_take] at hj
  split at hj
  ·rw [List.getElem?_drop] at hj
   exact hn (m+j) (by omega) (by omega) hj
  ·cases hj
 rw [← h,e,zee hni,List.map_append,List.append_assoc]
 rfl
theorem cut_last {c:UInt8} {s:ByteArray} {l:List ByteArray} {m k:Nat}(hk:k=s.size)(hm:m≤k)(hn:∀ j,m≤j→j<k→s.data.toList[j]?≠some c)
  (h:l.map (fun x=>x.data.toList)++zbh c (s.data.toList.drop m)=zbh c s.data.toList):(l++[s.extract m k]).map (fun x=>x.data.toList)=zbh c s.data.toList:=by
 subst hk
 have e:s.data.toList.drop m=(s.extract m s.size).data.toList:=by
  rw [zbt,List.take_of_length_le]
  rw [List.length_drop,Array.length_toList]
  exact Nat.le_refl _
 have hni:c∉s.data.toList.drop m:=by
  intro hmem
  obtain⟨j,hj⟩:=List.mem_iff_getElem?.1 hmem
  rw [List.getElem?_drop] at hj
  have:m+j<s.data.toList.length:=(List.getElem?_eq_some_iff.1 hj).1
  rw [Array.length_toList] at this
  exact hn (m+j) (by omega) this hj
 rw [← h,zcL hni,List.map_append,e]
 rfl
theorem cut_miss {c:UInt8} {s:ByteArray} {m k:Nat}(hk:k<s.size)(hc:((s[k].toNat:Int)==(c.toNat:Int))=false)(hn:∀ j,m≤j→j<k→s.data.toList[j]?≠some c):∀ j,m≤j→j<k+1→s.data.toList[j]?≠some c:=by
 intro j h1 h2 h3
 by_cases hj:j=k
 ·subst hj
  rw [zaB s j hk] at h3
  rw [Option.some.inj h3] at hc
  simp at hc
 ·exact hn j h1 (by omega) h3
theorem cut_hit {c b:UInt8}(h:((b.toNat:Int)==(c.toNat:Int))=true):b=c:=by
 have h1:b.toNat=c.toNat:=Int.ofNat.inj (eq_of_beq h)
 exact UInt8.toNat_inj.1 h1
theorem yU02a1 {P:Prop}(h:P:=by
 have heq:((k:Int)==(s.size:Int))=true:=by simp [he]
 have He:=za he
 have hlast:=za (cut_last he hm hCut.out.2 hCut.out.1)
 clear he
 go_wp2_with (at_builtin;refine zI w wr rfl _ _ _ rfl 9 _ 1 16 Tryz.underlying61 zi rfl (by decide) u5 _ _ _ _ rfl rfl zhL zhJ rfl (zaD _) (by unfold maxLen;omega) (by omega) ?_;intro v' w1 hext1 zhS hg1 hat1)
 go_roundw
 case rel=>exact⟨k+1,k+1,l++[s.extract m k],by omega,by go_num,by omega,by go_num,by simp;omega,by simpa [zF] using zhS,za (fun _=>⟨by simp,hlast.out⟩),za (fun hh=>absurd hh (by have:=He.out;omega)),by assumption⟩
 case measure=>simp [intOf];omega
 ):P:=h
theorem yU02a2 {P:Prop}(h:P:=by
 go_wp2_with (at_builtin;refine zI w wr rfl _ _ _ rfl 9 _ 1 16 Tryz.underlying61 zi rfl (by decide) u5 _ _ _ _ rfl rfl zhL zhJ rfl (zaD _) (by unfold maxLen;omega) (by omega) ?_;intro v' w1 hext1 zhS hg1 hat1)
 go_roundw
 case rel=>exact⟨k+1,k+1,l++[s.extract m k],by omega,by go_num,by omega,by go_num,by simp;omega,by simpa [zF] using zhS,za (fun hh=>absurd hh (by omega)),za (fun _=>⟨hstep.out,fun j h1 h2=>by omega⟩),by assumption⟩
 case measure=>simp [intOf];omega
 ):P:=h
theorem yU02a3 {P:Prop}(h:P:=by
 go_wp2_with fail
 go_roundw
 case rel=>exact⟨k+1,m,l,by omega,by go_num,by omega,rfl,by omega,zhJ,za (fun hh=>absurd hh (by omega)),za (fun _=>⟨hCut.out.1,hmiss.out⟩),zhL⟩
 case measure=>simp [intOf];omega
 ):P:=h
theorem yU02a4 {P:Prop}(h:P:=by
 obtain rfl:k=s.size+1:=by omega
 obtain⟨A,c,rfl⟩:=zf zhJ
 go_wp2_with fail
 go_ret
 exact⟨A,_,c,l,rfl,rfl,(zhM.out (by omega)).1,zhJ,hl,za (zhM.out (by omega)).2,zhL⟩
 ):P:=h
theorem zhv {s:ByteArray} {w:World}(hs:s.size≤2000000) :
  Calls Tryz.prog 78 #[.string s,.int .u8 44] w (RetCut 44 s w):=by
 go_enter Tryz.func78,Tryz.ntmps78
 go_wp2_with fail
 go_loopw [5,6,7] (fun v f i wr=>∃ (k m:Nat) (l:List ByteArray),k≤s.size+1∧i=.int .i64 k∧m≤k∧f=.int .i64 m∧l.length≤k∧wr.ownsRow w.heap.size 9 1 v l.length (zF l)∧Hid (s.size<k→0<l.length∧l.map (fun x=>x.data.toList)=zbh 44 s.data.toList)∧Hid (k≤s.size→l.map (fun x=>x.data.toList)++zbh 44 (s.data.toList.drop m)=zbh 44 s.data.toList∧∀ j,m≤j→j<k→s.data.toList[j]?≠some 44)∧Ext w wr) (fun _ _ i _=>s.size+1 - (intOf i).toNat)
 case atStart=>exact⟨0,0,[],Nat.zero_le _,rfl,Nat.le_refl _,rfl,Nat.le_refl _,World.ownsRow_lit w #[] 0 (Nat.le_refl _) (by unfold maxLen;omega) rfl,za (fun hh=>absurd hh (by omega)),za (fun _=>⟨rfl,fun j h1 h2=>by omega⟩),(Ext.refl _).alloc _⟩
 case round =>
  obtain⟨k,m,l,hk,rfl,hm,rfl,hl,zhJ,zhM,hcut,zhL⟩:=hrel
  by_cases hle:k≤s.size
  ·have hle':(k:Int)≤(s.size:Int):=by omega
   have hm':(m:Int)≤(k:Int):=by omega
   have hCut:=za (hcut.out hle)
   clear hcut zhM
   by_cases he:k=s.size
   ·exact yU02a1
   ·have heq:((k:Int)==(s.size:Int))=false:=by rw [beq_eq_false_iff_ne];omega
    have hlt:k<s.size:=by omega
    have hb:=zaP s k hlt
    cases hc:((s[k].toNat:Int)==44)
    ·have hmiss:=za (cut_miss (c:=44) hlt hc hCut.out.2)
     exact yU02a3
    ·have hstep:=za (cut_step (c:=44) hm hlt (cut_hit hc) hCut.out.2 hCut.out.1)
     exact yU02a2
  ·exact yU02a4
theorem zhu {s:ByteArray} {w:World}(hs:s.size≤2000000) :
  Calls Tryz.prog 78 #[.string s,.int .u8 32] w (RetCut 32 s w):=by
 go_enter Tryz.func78,Tryz.ntmps78
 go_wp2_with fail
 go_loopw [5,6,7] (fun v f i wr=>∃ (k m:Nat) (l:List ByteArray),k≤s.size+1∧i=.int .i64 k∧m≤k∧f=.int .i64 m∧l.length≤k∧wr.ownsRow w.heap.size 9 1 v l.length (zF l)∧Hid (s.size<k→0<l.length∧l.map (fun x=>x.data.toList)=zbh 32 s.data.toList)∧Hid (k≤s.size→l.map (fun x=>x.data.toList)++zbh 32 (s.data.toList.drop m)=zbh 32 s.data.toList∧∀ j,m≤j→j<k→s.data.toList[j]?≠some 32)∧Ext w wr) (fun _ _ i _=>s.size+1 - (intOf i).toNat)
 case atStart=>exact⟨0,0,[],Nat.zero_le _,rfl,Nat.le_refl _,rfl,Nat.le_refl _,World.ownsRow_lit w #[] 0 (Nat.le_refl _) (by unfold maxLen;omega) rfl,za (fun hh=>absurd hh (by omega)),za (fun _=>⟨rfl,fun j h1 h2=>by omega⟩),(Ext.refl _).alloc _⟩
 case round =>
  obtain⟨k,m,l,hk,rfl,hm,rfl,hl,zhJ,zhM,hcut,zhL⟩:=hrel
  by_cases hle:k≤s.size
  ·have hle':(k:Int)≤(s.size:Int):=by omega
   have hm':(m:Int)≤(k:Int):=by omega
   have hCut:=za (hcut.out hle)
   clear hcut zhM
   by_cases he:k=s.size
   ·exact yU02a1
   ·have heq:((k:Int)==(s.size:Int))=false:=by rw [beq_eq_false_iff_ne];omega
    have hlt:k<s.size:=by omega
    have hb:=zaP s k hlt
    cases hc:((s[k].toNat:Int)==32)
    ·have hmiss:=za (cut_miss (c:=32) hlt hc hCut.out.2)
     exact yU02a3
    ·have hstep:=za (cut_step (c:=32) hm hlt (cut_hit hc) hCut.out.2 hCut.out.1)
     exact yU02a2
  ·exact yU02a4
theorem wrap_pow2 {t:Nat}(ht:t<32):wrap64 ((2:Int) ^ t)=((2 ^ t:Nat):Int):=by
 have hp:=(Sm.bit ht).lt
 have e:(2:Int) ^ t=((2 ^ t:Nat):Int):=by simp
 rw [e]
 generalize (2:Nat) ^ t=p at *
 unfold wrap64
 omega
theorem zeE (n:Nat)(hn:n<32) (w:World) :
  Calls Tryz.prog 203 #[.int .i64 n] w fun e w'=>e=.returned (.int .i64 (2 ^ n:Nat))∧w=w':=by
 have hu:IntKind.u64.wrap (n:Int)=n:=by rw [IntKind.wrap_u64];omega
 have h64:(n:Int)≤64:=by omega
 have hw:=za (wrap_pow2 hn)
 go_enter Tryz.func203,Tryz.ntmps203
 go_wp2
 go_ret
 exact⟨zan (by rw [← hw.out]),rfl⟩
def zbS (es:List Edg) (set:Nat) (l:Int):Nat:=es.foldl (fun m e=>if e.le=l∧set.testBit e.fr.toNat=true then m|||2 ^ e.ta.toNat else m) 0
theorem stepB_snoc (es:List Edg) (e:Edg) (set:Nat) (l:Int):zbS (es++[e]) set l=if e.le=l∧set.testBit e.fr.toNat=true then zbS es set l|||2 ^ e.ta.toNat else zbS es set l:=by simp [zbS]
theorem zfV (es:List Edg) (set:Nat) (l:Int) (k:Nat):(zbS es set l).testBit k=true↔∃ e∈es,(e.le=l∧set.testBit e.fr.toNat=true)∧e.ta.toNat=k:=by
 have:=foldl_bit es (fun e=>e.le=l∧set.testBit e.fr.toNat=true) 0 k
 simpa [zbS] using this
theorem zhB {n:Nat} {es:List Edg}(h:Few n es) (set:Nat) (l:Int):zbS es set l<2 ^ n:=by
 apply Nat.lt_pow_two_of_testBit
 intro k hk
 rw [Bool.eq_false_iff]
 intro hb
 obtain⟨e,he,_,h3⟩:=(zfV es set l k).1 hb
 have:=h e he
 omega
theorem zdU {lo hi:Nat} {A:Option Addr} {n c:Nat} {s:Sys} {set:Nat} {l:Int} {k0:Nat} {w:World}(h:zah w lo hi A n s)(hf:Few k0 s.edges)(hk0:k0≤16)(hset:Sm set) :
  Calls Tryz.prog 241 #[.agg #[.int .i64 s.al,.int .i64 s.st,.slice A n c],.int .i64 set,.int .i64 l] w fun e w'=>e=.returned (.int .i64 (zbS s.edges set l:Nat))∧Ext w w':=by
 have hn:=h.2.len
 have hL:=za h.1
 have HR:=za (fun W (hW:Ext w W)=>h.2.ext hW)
 have Hf:=za hf
 clear hf
 go_enter Tryz.func241,Tryz.ntmps241
 go_wp2
 go_loopw [7,8] (fun v i wr=>∃ k:Nat,k≤n∧i=.int .i64 k∧∃ y:Nat,v=.int .i64 y∧Sm y∧Hid (y=zbS (s.edges.take k) set l)∧Ext w wr∧Ext (w.alloc (.cells #[.int .i64 s.al,.int .i64 s.st,.slice A n c] 39)) wr) (fun _ i _=>n - (intOf i).toNat)
 case atStart=>exact⟨0,Nat.zero_le _,rfl,0,rfl,by unfold Sm;omega,rfl,(Ext.refl _).alloc _,Ext.refl _⟩
 case round =>
  obtain⟨k,hk,rfl,y,rfl,hy,hyo,zhL,hexb⟩:=hrel
  have cb:=fun j=>zct (j:=j) hexb
  by_cases hlt:k<n
  ·obtain⟨b,o,x,rfl,_,_,hx,c0,c1,c2⟩:=(HR.out wr zhL).edge hlt
   obtain⟨⟨f0,f1⟩,⟨g0,g1⟩,⟨t0,t1⟩⟩:=Hf.out x (List.mem_of_getElem? hx.out)
   have Htk:=za (show s.edges.take (k+1)=s.edges.take k++[x] by rw [List.take_add_one,hx.out];rfl)
   obtain⟨f,hfe⟩:∃ f:Nat,x.fr=f:=⟨x.fr.toNat,by omega⟩
   obtain⟨t,hte⟩:∃ t:Nat,x.ta=t:=⟨x.ta.toNat,by omega⟩
   rw [hfe] at c0 f0 f1
   rw [hte] at c2 t0 t1
   have hs1:=za (stepB_snoc (s.edges.take k) x set l)
   by_cases hle:x.le=l
   ·have hle':(x.le==l)=true:=by simp [hle]
    have Hle:=za hle
    clear hle
    cases hb:set.testBit f
    ·have Hb:=za hb
     clear hb
     go_wp2_with (go_at_call 112;refine (zaa set f hset _ (by omega)).mono ?_;rw [Hb.out];rintro e w' ⟨rfl,rfl⟩)
     go_roundw
     case rel=>exact⟨k+1,by omega,by go_num,y,rfl,hy,by unfold Hid;rw [Htk.out,hs1.out,if_neg (by rintro ⟨_,h2⟩;rw [hfe] at h2;simp [Hb.out] at h2)];exact hyo.out,zhL,hexb⟩
     case measure=>simp [intOf];omega
    ·have Hb:=za hb
     clear hb
     have hor:=za (show bits .or .i64 (y:Nat) ((2:Int) ^ t)=((y|||2 ^ t:Nat):Int) by have:=zcr hy (Sm.bit (n:=t) (by omega));rw [show (((2:Nat) ^ t:Nat):Int)=(2:Int) ^ t by simp] at this;exact this)
     go_wp2_with (first
      |(go_at_call 112;refine (zaa set f hset _ (by omega)).mono ?_;rw [Hb.out];rintro e w' ⟨rfl,rfl⟩)
      |(go_at_call 203;refine (zeE t (by omega) _).mono ?_;rintro e w' ⟨rfl,rfl⟩))
     go_roundw
     case rel=>exact⟨k+1,by omega,by go_num,y|||2 ^ t,by rw [hor.out],hy.or (Sm.bit (by omega)),by unfold Hid;rw [Htk.out,hs1.out,if_pos ⟨Hle.out,by rw [hfe];simpa using Hb.out⟩,← hyo.out,hte];rfl,zhL,hexb⟩
     case measure=>simp [intOf];omega
   ·have hle':(x.le==l)=false:=by simp [hle]
    have Hle:=za hle
    clear hle
    go_wp2
    go_roundw
    case rel=>exact⟨k+1,by omega,by go_num,y,rfl,hy,by unfold Hid;rw [Htk.out,hs1.out,if_neg (by rintro ⟨h2,_⟩;exact Hle.out h2)];exact hyo.out,zhL,hexb⟩
    case measure=>simp [intOf];omega
  ·obtain rfl:n=k:=by omega
   go_wp2
   go_ret
   exact⟨zan (by rw [hyo.out,hL.out,List.take_length]),zhL⟩
theorem zfh (R:List Nat) (i v:Nat):zaK (R.set i v)=(zaK R).set i (.int .i64 (v:Nat)):=by simp [zaK,List.map_set]
def ltE (a b:Edg):Bool:=if a.fr=b.fr then if a.le=b.le then decide (a.ta<b.ta) else decide (a.le<b.le) else decide (a.fr<b.fr)
def edgB (al:Nat) (st:Int) (e:Edg):Bool:=(decide (0≤e.fr)&&decide (e.fr<st))&&((decide (0≤e.ta)&&decide (e.ta<st))&&(decide (e.le<6)&&hasB al e.le))
def zcM (al:Nat) (st:Int) (l:List Edg) (k:Nat):Bool:=
 match l[k]? with
 |some e=>edgB al st e&&(decide (k=0) || match l[k - 1]? with
  |some p=>ltE p e
  |none=>false)
 |none=>false
def zr (s:Sys):Bool:=
 decide (0≤s.al∧s.al≤63)&&(decide (1≤s.st∧s.st≤16)&&(List.range s.edges.length).all (zcM s.al.toNat s.st s.edges))
theorem zcC {al:Nat} {st:Int} {e:Edg} {w:World}(hsm:Sm al) :
  Calls Tryz.prog 139 #[.int .i64 al,.int .i64 st,.agg #[.int .i64 e.fr,.int .i64 e.le,.int .i64 e.ta]] w fun r w'=>r=.returned (.bool (edgB al st e))∧Ext w w':=by
 have Hv:=za (show edgB al st e=((decide (0≤e.fr)&&decide (e.fr<st))&&((decide (0≤e.ta)&&decide (e.ta<st))&&(decide (e.le<6)&&hasB al e.le))) from rfl)
 by_cases h0:e.fr<0
 ·go_enter Tryz.func139,Tryz.ntmps139
  go_wp2
  go_ret
  exact⟨zm (by rw [Hv.out];simp;omega),(Ext.refl _).alloc _⟩
 ·by_cases h1:st≤e.fr
  ·go_enter Tryz.func139,Tryz.ntmps139
   go_wp2
   go_ret
   exact⟨zm (by rw [Hv.out];simp;omega),(Ext.refl _).alloc _⟩
  ·by_cases h2:e.ta<0
   ·go_enter Tryz.func139,Tryz.ntmps139
    go_wp2
    go_ret
    exact⟨zm (by rw [Hv.out];simp;omega),(Ext.refl _).alloc _⟩
   ·by_cases h3:st≤e.ta
    ·go_enter Tryz.func139,Tryz.ntmps139
     go_wp2
     go_ret
     exact⟨zm (by rw [Hv.out];simp;omega),(Ext.refl _).alloc _⟩
    ·by_cases h4:0≤e.le
     ·by_cases h5:e.le<6
      ·obtain⟨le,hle⟩:∃ le:Nat,Hid (e.le=le):=⟨e.le.toNat,by unfold Hid;omega⟩
       have hl6:(le:Int)<6:=by have:=hle.out;omega
       clear h4 h5
       rw [hle.out]
       go_enter Tryz.func139,Tryz.ntmps139
       go_wp2_with (go_at_call 112;refine (zaa al le hsm _ (by omega)).mono ?_;rintro r w' ⟨rfl,rfl⟩)
       go_ret
       exact⟨zm (by rw [Hv.out,hle.out,decide_eq_true (show 0≤e.fr by omega),decide_eq_true (show e.fr<st by omega),decide_eq_true (show 0≤e.ta by omega),decide_eq_true (show e.ta<st by omega),decide_eq_true hl6];simp [hasB]),(Ext.refl _).alloc _⟩
      ·go_enter Tryz.func139,Tryz.ntmps139
       go_wp2_with fail
       go_ret
       exact⟨zm (by rw [Hv.out];simp;omega),(Ext.refl _).alloc _⟩
     ·go_enter Tryz.func139,Tryz.ntmps139
      go_wp2_with fail
      go_ret
      exact⟨zm (by rw [Hv.out];simp [hasB];omega),(Ext.refl _).alloc _⟩
theorem zcB {a b:Edg} {w:World} :
  Calls Tryz.prog 123 #[.agg #[.int .i64 a.fr,.int .i64 a.le,.int .i64 a.ta],.agg #[.int .i64 b.fr,.int .i64 b.le,.int .i64 b.ta]] w fun e w'=>e=.returned (.bool (ltE a b))∧Ext w w':=by
 have Hv:=za (show ltE a b=if a.fr=b.fr then if a.le=b.le then decide (a.ta<b.ta) else decide (a.le<b.le) else decide (a.fr<b.fr) from rfl)
 have hx:Ext w ((w.alloc (.cells #[Value.int .i64 a.fr,.int .i64 a.le,.int .i64 a.ta] 103)).alloc (.cells #[Value.int .i64 b.fr,.int .i64 b.le,.int .i64 b.ta] 103)):=((Ext.refl _).alloc _).alloc _
 have Hx:=za hx
 clear hx
 by_cases h0:a.fr=b.fr
 ·have n0:(a.fr != b.fr)=false:=by simp [h0]
  have H0:=za h0
  clear h0
  by_cases h1:a.le=b.le
  ·have n1:(a.le != b.le)=false:=by simp [h1]
   have H1:=za h1
   clear h1
   go_enter Tryz.func123,Tryz.ntmps123
   go_wp2
   go_ret
   exact⟨zm (by rw [Hv.out,if_pos H0.out,if_pos H1.out]),Hx.out⟩
  ·have n1:(a.le != b.le)=true:=by simp [h1]
   go_enter Tryz.func123,Tryz.ntmps123
   go_wp2
   go_ret
   exact⟨zm (by rw [Hv.out,if_pos H0.out,if_neg h1]),Hx.out⟩
 ·have n0:(a.fr != b.fr)=true:=by simp [h0]
  go_enter Tryz.func123,Tryz.ntmps123
  go_wp2
  go_ret
  exact⟨zm (by rw [Hv.out,if_neg h0]),Hx.out⟩
theorem zS {lo hi:Nat} {A:Option Addr} {n c:Nat} {s:Sys} {w:World}(h:zah w lo hi A n s) :
  Calls Tryz.prog 94 #[.agg #[.int .i64 s.al,.int .i64 s.st,.slice A n c]] w fun e w'=>e=.returned (.bool (zr s))∧Ext w w':=by
 have Hv:=za (show zr s=(decide (0≤s.al∧s.al≤63)&&(decide (1≤s.st∧s.st≤16)&&(List.range n).all (zcM s.al.toNat s.st s.edges))) by unfold zr;rw [← h.1])
 have hn:=h.2.len
 by_cases hal:0≤s.al∧s.al≤63
 ·by_cases hst:1≤s.st∧s.st≤16
  ·obtain⟨al,hal'⟩:∃ al:Nat,Hid (s.al=al):=⟨s.al.toNat,by unfold Hid;omega⟩
   have hsm:Sm al:=by have:=hal'.out;unfold Sm;omega
   have hd:=za (show decide (0≤(al:Int)∧(al:Int)≤63)=true by have:=hal'.out;simp;omega)
   rw [hal'.out]
   rw [hal'.out,Int.toNat_natCast] at Hv
   clear hal
   have hd1:decide (s.st<1)=false:=by simp;omega
   have hd2:decide (16<s.st)=false:=by simp;omega
   obtain⟨st,hst',hs1,hs2⟩:∃ st:Int,Hid (s.st=st)∧1≤st∧st≤16:=⟨s.st,za rfl,hst.1,hst.2⟩
   rw [hst'.out] at hd1 hd2 Hv ⊢
   clear hst
   have hR:=fun W (hW:Ext w W)=>h.2.ext hW
   have HR:=za hR
   clear hR
   go_enter Tryz.func94,Tryz.ntmps94
   go_wp2_with (go_at_call 59;refine (zC _ _).mono ?_;rw [hd.out];rintro e w' ⟨rfl,rfl⟩)
   go_loopw [3] (fun i wr=>∃ k:Nat,k≤n∧i=.int .i64 k∧Hid (((List.range n).take k).all (zcM al st s.edges)=true)∧Ext (w.alloc (.cells #[Value.int .i64 al,.int .i64 st,Value.slice A n c] 39)) wr)
    (fun i _=>n - (intOf i).toNat)
   case atStart=>exact⟨0,Nat.zero_le _,rfl,rfl,Ext.refl _⟩
   case round =>
    obtain⟨k,hk,rfl,hall,zhL⟩:=hrel
    have hbx:=zct zhL
    by_cases hlt:k<n
    ·obtain⟨b,o,e,rfl,hlo,hhi,he,c0,c1,c2⟩:=(HR.out wr (((Ext.refl _).alloc _).trans zhL)).edge hlt
     go_wp2_with fail
     clear hbx
     have e0:∀ X,Ext wr X→∀ j,X.cell? ⟨w.heap.size,j,none⟩=#[Value.int .i64 al,.int .i64 st,Value.slice (some ⟨b,o,none⟩) n c][j]?:=fun X hX=>zct (zhL.trans hX)
     have q0:∀ X,Ext wr X→X.cell? ⟨b,o+k*3,none⟩=some (.int .i64 e.fr):=fun X hX=>hX.cell_some c0
     have q1:∀ X,Ext wr X→X.cell? ⟨b,o+k*3+1,none⟩=some (.int .i64 e.le):=fun X hX=>hX.cell_some c1
     have q2:∀ X,Ext wr X→X.cell? ⟨b,o+k*3+2,none⟩=some (.int .i64 e.ta):=fun X hX=>hX.cell_some c2
     have hr:=Ext.refl wr
     clear c0 c1 c2
     have zhM:∀ X,Ext wr X→Ext w X:=fun X hX=>(((Ext.refl _).alloc _).trans zhL).trans hX
     have Hfin:=za zhM
     clear zhM
     have hk0':(0:Int)≤(k:Int):=by omega
     have hk1':(k:Int)<(n:Int):=by omega
     have hge:(List.range n)[k]?=some k:=by rw [List.getElem?_range hlt]
     have Hge:=za hge
     clear hge
     cases hA':edgB al st e
     ·have hA:=za hA'
      clear hA'
      refine zbp (fun X=>Ext wr X) [0,1,2,3,4,5,6,7,8,9,10,11,12,13,14,15,16,17,18,19,20,21,22,23,24,25,26,27,28,29] (by kernel_rfl) rfl (by kernel_rfl) (by kernel_rfl) (fun _ _ _ _ _ h=>h) ((Ext.refl _).drew) (fun hS=>?_)
      refine sQ ?_
      refine zdk (fun K hK=>?_)
      go_simp
      refine (zcC (e:=e) hsm).mono ?_
      rw [hA.out];rintro r w2 ⟨rfl,hx2⟩
      refine hK.out _ _ (Ext.trans (by assumption) hx2) (fun hS=>?_)
      refine pT ?_
      refine sQ ?_
      refine zfJ ?_
      go_wp2_with fail
      go_ret
      exact⟨zm (by rw [Hv.out,zaL Hge.out (by rw [zcM,he.out];dsimp only;rw [hA.out];simp)];simp),Hfin.out _ (by assumption)⟩
     ·have hA:=za hA'
      clear hA'
      by_cases hk0:k=0
      ·subst hk0
       simp only [Nat.zero_mul,Nat.add_zero] at q0 q1 q2
       refine zbp (fun X=>Ext wr X) [0,1,2,3,4,5,6,7,8,9,10,11,12,13,14,15,16,17,18,19,20,21,22,23,24,25,26,27,28,29] (by kernel_rfl) rfl (by kernel_rfl) (by kernel_rfl) (fun _ _ _ _ _ h=>h) ((Ext.refl _).drew) (fun hS=>?_)
       refine sQ ?_
       refine zdk (fun K hK=>?_)
       go_simp
       refine (zcC (e:=e) hsm).mono ?_
       rw [hA.out];rintro r w2 ⟨rfl,hx2⟩
       refine hK.out _ _ (Ext.trans (by assumption) hx2) (fun hS=>?_)
       refine pT ?_
       refine sQ ?_
       refine zfJ ?_
       go_wp2_with fail
       go_roundw
       case rel=>exact⟨0+1,by omega,by go_num,zbU Hge.out hall.out (by rw [zcM,he.out];dsimp only;rw [hA.out];simp),zhL.trans (by assumption)⟩
       case measure=>simp [intOf];omega
      ·obtain⟨j,rfl⟩:∃ j,k=j+1:=⟨k - 1,by omega⟩
       have hp:s.edges[j]?=some (s.edges[j]'(by have:=h.1;omega)):=List.getElem?_eq_getElem _
       generalize s.edges[j]'(by have:=h.1;omega)=p at hp
       have Hp:=za hp
       clear hp
       have hpc:=(HR.out wr (((Ext.refl _).alloc _).trans zhL)).edge2 Hp.out
       have p0:∀ X,Ext wr X→X.cell? ⟨b,o+j*3,none⟩=some (.int .i64 p.fr):=fun X hX=>hX.cell_some hpc.1
       have p1:∀ X,Ext wr X→X.cell? ⟨b,o+j*3+1,none⟩=some (.int .i64 p.le):=fun X hX=>hX.cell_some hpc.2.1
       have p2:∀ X,Ext wr X→X.cell? ⟨b,o+j*3+2,none⟩=some (.int .i64 p.ta):=fun X hX=>hX.cell_some hpc.2.2
       clear hpc
       have hk1:decide ((0:Int)<(j:Int)+1)=true:=decide_eq_true (by omega)
       have hw1:IntKind.i64.wrap ((j:Int)+1 - 1)=(j:Int):=by rw [IntKind.wrap_i64];omega
       have hw2:IntKind.i64.wrap (j:Int)=(j:Int):=by rw [IntKind.wrap_i64];omega
       have hj0:(0:Int)≤(j:Int):=by omega
       have hj1:(j:Int)<(n:Int):=by omega
       have hj2:(0:Int)≤(j:Int)+1:=by omega
       have hj3:(j:Int)+1<(n:Int):=by omega
       have hj4:((j:Int)+1).toNat=j+1:=by omega
       cases hnl':ltE p e
       ·have hnl:=za hnl'
        clear hnl'
        refine zbp (fun X=>Ext wr X) [0,1,2,3,4,5,6,7,8,9,10,11,12,13,14,15,16,17,18,19,20,21,22,23,24,25,26,27,28,29] (by kernel_rfl) rfl (by kernel_rfl) (by kernel_rfl) (fun _ _ _ _ _ h=>h) ((Ext.refl _).drew) (fun hS=>?_)
        refine sQ ?_
        refine zdk (fun K hK=>?_)
        go_simp
        refine (zcC (e:=e) hsm).mono ?_
        rw [hA.out];rintro r w2 ⟨rfl,hx2⟩
        refine hK.out _ _ (Ext.trans (by assumption) hx2) (fun hS=>?_)
        refine pT ?_
        refine sQ ?_
        refine zdk (fun K hK=>?_)
        go_simp
        refine (zcB (a:=p) (b:=e)).mono ?_
        rw [hnl.out];rintro r w3 ⟨rfl,hx3⟩
        refine hK.out _ _ (Ext.trans (by assumption) hx3) (fun hS=>?_)
        refine pT ?_
        refine sQ ?_
        refine zfJ ?_
        go_wp2_with fail
        go_ret
        exact⟨zm (by rw [Hv.out,zaL Hge.out (by rw [zcM,he.out];dsimp only;rw [Nat.add_sub_cancel,Hp.out];simp [hnl.out])];simp),Hfin.out _ (by assumption)⟩
       ·have hnl:=za hnl'
        clear hnl'
        refine zbp (fun X=>Ext wr X) [0,1,2,3,4,5,6,7,8,9,10,11,12,13,14,15,16,17,18,19,20,21,22,23,24,25,26,27,28,29] (by kernel_rfl) rfl (by kernel_rfl) (by kernel_rfl) (fun _ _ _ _ _ h=>h) ((Ext.refl _).drew) (fun hS=>?_)
        refine sQ ?_
        refine zdk (fun K hK=>?_)
        go_simp
        refine (zcC (e:=e) hsm).mono ?_
        rw [hA.out];rintro r w2 ⟨rfl,hx2⟩
        refine hK.out _ _ (Ext.trans (by assumption) hx2) (fun hS=>?_)
        refine pT ?_
        refine sQ ?_
        refine zdk (fun K hK=>?_)
        go_simp
        refine (zcB (a:=p) (b:=e)).mono ?_
        rw [hnl.out];rintro r w3 ⟨rfl,hx3⟩
        refine hK.out _ _ (Ext.trans (by assumption) hx3) (fun hS=>?_)
        refine pT ?_
        refine sQ ?_
        refine zfJ ?_
        go_wp2_with fail
        go_roundw
        case rel=>exact⟨j+1+1,by omega,by go_num,zbU Hge.out hall.out (by rw [zcM,he.out];dsimp only;rw [Nat.add_sub_cancel,Hp.out,hA.out];simp [hnl.out]),zhL.trans (by assumption)⟩
        case measure=>simp [intOf];omega
    ·obtain rfl:k=n:=by omega
     go_wp2
     go_ret
     exact⟨zm (by rw [Hv.out,zdH (by simp) hall.out,hd.out];simp;omega),((Ext.refl _).alloc _).trans zhL⟩
  ·go_enter Tryz.func94,Tryz.ntmps94
   have hd:=za (show decide (0≤s.al∧s.al≤63)=true by simp;omega)
   go_wp2_with (go_at_call 59;refine (zC _ _).mono ?_;rw [hd.out];rintro e w' ⟨rfl,rfl⟩)
   all_goals go_ret
   all_goals exact⟨zm (by rw [Hv.out];simp [hst]),(Ext.refl _).alloc _⟩
 ·go_enter Tryz.func94,Tryz.ntmps94
  have hd:=za (show decide (0≤s.al∧s.al≤63)=false by simp;omega)
  go_wp2_with (go_at_call 59;refine (zC _ _).mono ?_;rw [hd.out];rintro e w' ⟨rfl,rfl⟩)
  go_ret
  exact⟨zm (by rw [Hv.out];simp;omega),(Ext.refl _).alloc _⟩
theorem zdb {s:Sys}(h:zr s=true):∃ p:Nat,s.st=p∧1≤p∧p≤16∧Few p s.edges:=by
 simp only [zr,Bool.and_eq_true,decide_eq_true_eq,List.all_eq_true,List.mem_range] at h
 obtain⟨_,⟨h1,h2⟩,h3⟩:=h
 refine⟨s.st.toNat,by omega,by omega,by omega,fun e he=>?_⟩
 obtain⟨k,hk⟩:=List.getElem?_of_mem he
 have:=h3 k (List.getElem?_eq_some_iff.1 hk).1
 rw [zcM,hk] at this
 simp only [Bool.and_eq_true,edgB,decide_eq_true_eq,hasB] at this
 omega
def RetFmt (s:Sys) (w:World) (e:Ending) (w':World):Prop:=∃ t:ByteArray,e=.returned (.string t)∧(zr s=false→t.size=0)∧Ext w w'
theorem valid_al {s:Sys}(h:zr s=true):∃ a:Nat,s.al=a∧a<64:=by
 simp only [zr,Bool.and_eq_true,decide_eq_true_eq] at h
 exact⟨s.al.toNat,by omega,by omega⟩
theorem zeC {lo hi:Nat} {A:Option Addr} {n c:Nat} {s:Sys} {w:World}(h:zah w lo hi A n s)(hn:n≤1000000) :
  Calls Tryz.prog 122 #[.agg #[.int .i64 s.al,.int .i64 s.st,.slice A n c]] w (RetFmt s w):=by
 have HS:=za (fun W (hW:Ext w W)=>h.ext hW)
 clear h
 cases h1:zr s
 ·have H1:=za h1
  clear h1
  go_enter Tryz.func122,Tryz.ntmps122
  go_wp2_with (go_at_call 94;refine (zS (HS.out _ ((Ext.refl _).alloc _))).mono ?_;rw [H1.out];rintro e w1 ⟨rfl,hx⟩)
  go_ret
  exact⟨_,rfl,fun _=>rfl,((Ext.refl _).alloc _).trans hx⟩
 ·obtain⟨p,hp,hp1,hp2,hf⟩:=zdb h1
  obtain⟨a,ha,ha2⟩:=valid_al h1
  have H1:=za h1
  have Hf:=za hf
  have Hp:=za hp
  have Ha:=za ha
  clear h1 hf hp ha
  go_enter Tryz.func122,Tryz.ntmps122
  go_wp2_with fail
  refine (zS (HS.out _ ((Ext.refl _).alloc _))).mono ?_
  rw [H1.out]
  rintro e w1 ⟨rfl,hx⟩
  have b1:=zav hx
  rw [Ha.out,Hp.out] at b1
  have hw1:=((Ext.refl w).alloc _).trans hx
  have cb:=b1.cells
  go_wp2_with fail
  refine tR (fun X=>Ext w1 X) [] (Ord.of [0,1,4,5,2,3,6,7,8]) ?_
  refine tQ ?_
  refine zG fun K hK=>?_;go_simp
  refine (zaZ ha2).mono ?_
  rintro e w2 ⟨t2,rfl,ht2,hx2⟩
  have hx12:=((Ext.refl w1).drew).trans hx2
  have q1:¬ 9223372036854775807<t2.size+1:=by omega
  refine hK.out _ _ hx12 ?_
  refine pT ?_
  refine tQ ?_
  refine zG fun K hK=>?_;go_simp
  refine (zcz (n:=p) (by omega)).mono ?_
  rintro e w3 ⟨t3,rfl,ht3,hx3⟩
  have hx13:=hx12.trans hx3
  have q2:¬ 9223372036854775807<t2.size+1+t3.size:=by omega
  refine hK.out _ _ hx13 ?_
  refine pT ?_
  refine tQ ?_
  refine zay ?_
  obtain⟨t4,ht4⟩:∃ t4:ByteArray,t4=t2++{ data:=#[32] }++t3:=⟨_,rfl⟩
  have hs4:t4.size≤20:=by rw [ht4,ByteArray.size_append,ByteArray.size_append];show t2.size+1+t3.size≤20;omega
  rw [← ht4]
  clear ht4 q1 q2 ht2 ht3 hx2 hx3 hx12
  have hext0:=hx13
  go_wp2_with fail
  go_loopw [3,4] (fun v i wr=>∃ (k:Nat) (t:ByteArray),k≤n∧i=.int .i64 k∧v=.string t∧t.size≤20+20*k∧Ext w1 wr) (fun _ i _=>n - (intOf i).toNat)
  case atStart=>exact⟨0,t4,Nat.zero_le _,rfl,rfl,hs4,hext0⟩
  case round =>
   clear hext0 hx13 hs4
   obtain⟨k,t,hk,rfl,rfl,ht,zhL⟩:=hrel
   have cb0:=cb wr zhL
   by_cases hlt:k<n
   ·obtain⟨b,o,x,rfl,_,_,hx0,c0,c1,c2⟩:=(HS.out wr (hw1.trans zhL)).2.edge hlt
    obtain⟨⟨f0,f1⟩,⟨g0,g1⟩,⟨t0,t1⟩⟩:=Hf.out x (List.mem_of_getElem? hx0.out)
    obtain⟨u,hue⟩:∃ u:Nat,x.fr=u:=⟨x.fr.toNat,by omega⟩
    obtain⟨v,hve⟩:∃ v:Nat,x.ta=v:=⟨x.ta.toNat,by omega⟩
    rw [hue] at c0 f0 f1
    rw [hve] at c2 t0 t1
    clear hue hve
    go_wp2_with fail
    have hxq:=(Ext.refl wr).alloc (.cells #[.int .i64 u,.int .i64 x.le,.int .i64 v] 103)
    have hbq:=Blk.new wr 103 #[.int .i64 u,.int .i64 x.le,.int .i64 v]
    generalize wr.alloc (.cells #[.int .i64 u,.int .i64 x.le,.int .i64 v] 103)=wq at *
    have cq:=hbq.cells
    have q0:¬ 9223372036854775807<t.size+1:=by omega
    refine tR (fun X=>Ext wq X) [] (Ord.of [0,1,2,3,6,7,10,11,4,5,8,9,12,13,14]) ?_
    refine tQ ?_
    refine zG fun K hK=>?_;go_simp
    refine (zcz (n:=u) (by omega)).mono ?_
    rintro e w2 ⟨t2,rfl,ht2,hx2⟩
    have hy2:=((Ext.refl wq).drew).trans hx2
    have q1:¬ 9223372036854775807<t.size+1+t2.size:=by omega
    refine hK.out _ _ hy2 ?_
    refine pT ?_
    refine tQ ?_
    refine zG fun K hK=>?_;go_simp
    refine (zcA (l:=x.le) g0 g1).mono ?_
    rintro e w3 ⟨t3,rfl,ht3,hx3⟩
    have hy3:=hy2.trans hx3
    have q2:¬ 9223372036854775807<t.size+1+t2.size+t3.size:=by omega
    refine hK.out _ _ hy3 ?_
    refine pT ?_
    refine tQ ?_
    refine zG fun K hK=>?_;go_simp
    refine (zcz (n:=v) (by omega)).mono ?_
    rintro e w5 ⟨t5,rfl,ht5,hx5⟩
    have hy5:=hy3.trans hx5
    have q3:¬ 9223372036854775807<t.size+1+t2.size+t3.size+t5.size:=by omega
    refine hK.out _ _ hy5 ?_
    refine pT ?_
    refine tQ ?_
    refine zay ?_
    have hs6:(t++{ data:=#[32] }++t2++t3++t5).size≤20+20*(k+1):=by
     simp only [ByteArray.size_append]
     show t.size+1+t2.size+t3.size+t5.size≤_
     omega
    clear q0 q1 q2 q3
    go_wp2_with fail
    go_roundw
    case rel=>exact⟨k+1,_,by omega,by go_num,rfl,hs6,(zhL.trans hxq).trans hy5⟩
    case measure=>simp [intOf];omega
   ·obtain rfl:n=k:=by omega
    go_wp2_with fail
    go_ret
    have hv:=H1.out
    exact⟨t,rfl,fun h=>absurd (hv.symm.trans h) (by decide),hw1.trans zhL⟩
theorem zcK {a:Aut}(h:zh a=true):∃ al:Nat,a.al=al∧al<64∧1≤a.next.length∧a.next.length≤12∧a.acc.length=a.next.length∧∀ l∈a.next,l.length=(letters al 6).length∧∀ q∈l,0≤q∧q<a.next.length:=by
 simp only [zh,Bool.and_eq_true,decide_eq_true_eq,List.all_eq_true,zhk] at h
 obtain⟨h1,h2,h3,h4⟩:=h
 refine⟨a.al.toNat,by omega,by omega,h2.1,h2.2,h3,fun l hl=>⟨(h4 l hl).1,fun q hq=>(h4 l hl).2 q hq⟩⟩
def RetFmtA (a:Aut) (w:World) (e:Ending) (w':World):Prop:=∃ t:ByteArray,e=.returned (.string t)∧(zh a=false→t.size=0)∧Ext w w'
theorem zdt {lo hi:Nat} {A:Option Addr} {n c:Nat} {A':Option Addr} {n' c':Nat} {a:Aut} {w:World}(h:zM w lo hi A n A' n' a) :
  Calls Tryz.prog 26 #[.agg #[.int .i64 a.al,.slice A n c,.slice A' n' c']] w (RetFmtA a w):=by
 have HV:=za (fun W (hW:Ext w W)=>zE lo hi A n c A' n' c' a W ⟨h.1.ext hW,h.2.1,h.2.2.ext hW⟩)
 cases h1:zh a
 ·have H1:=za h1
  clear h1 h
  go_enter Tryz.func26,Tryz.ntmps26
  go_wp2_with (go_at_call 27;refine (HV.out _ ((Ext.refl _).alloc _)).mono ?_;rw [H1.out];rintro e w1 ⟨rfl,hx⟩)
  go_ret
  exact⟨_,rfl,fun _=>rfl,((Ext.refl _).alloc _).trans hx⟩
 ·obtain⟨al,ha,ha2,hn1,hn2,hac,hrows⟩:=zcK h1
  have H1:=za h1
  have Hn:=za h.n1
  have Hn':=za h.n2
  have Ha:=za ha
  have Hrows:=za hrows
  have HS:=za (fun W (hW:Ext w W)=>h.1.ext hW)
  have HB:=za (fun W (hW:Ext w W)=>h.2.2.ext hW)
  have e1:n=n':=by have:=h.n1;have:=h.n2;omega
  subst e1
  have hnn:n≤12:=by have:=h.n1;omega
  clear h1 ha hn1 hn2 hac hrows h
  go_enter Tryz.func26,Tryz.ntmps26
  go_wp2_with fail
  refine (HV.out _ ((Ext.refl _).alloc _)).mono ?_
  rw [H1.out]
  rintro e w1 ⟨rfl,hx⟩
  have b1:=zav hx
  rw [Ha.out] at b1
  have hw1:=((Ext.refl w).alloc _).trans hx
  have cb:=b1.cells
  have hr1:=Ext.refl w1
  clear hx
  go_wp2_with fail
  refine (zaZ ha2).mono ?_
  rintro e w2 ⟨t2,rfl,ht2,hx2⟩
  go_wp2_with fail
  go_loopw [3,4] (fun v i wr=>∃ (k:Nat) (t:ByteArray),k≤n∧i=.int .i64 k∧v=.string t∧t.size≤20+100*k∧Ext w1 wr) (fun _ i _=>n - (intOf i).toNat)
  case atStart=>exact⟨0,t2,Nat.zero_le _,rfl,rfl,by omega,hx2⟩
  case round =>
   clear hx2 ht2 hr1
   obtain⟨k,t,hk,rfl,rfl,ht,zhL⟩:=hrel
   have cb0:=cb wr zhL
   by_cases hlt:k<n
   ·obtain⟨ad,Ak,ck,l,rfl,_,_,hl,hc0,hrk⟩:=(HS.out wr (hw1.trans zhL)).row hlt
    obtain⟨ad',x,rfl,_,_,-,hb0⟩:=(HB.out wr (hw1.trans zhL)).bool hlt
    have hq:=za (Hrows.out l (List.mem_of_getElem? hl.out))
    have hl6:l.length≤6:=by have:=hq.out.1;have:=zq al 6;omega
    have Hrk:=za (fun W (hW:Ext wr W)=>hrk.ext hW)
    have Hcr:=za (fun W (hW:Ext wr W)=>hW.cell_some hc0)
    have Hcb:=za (fun W (hW:Ext wr W)=>cb W (zhL.trans hW))
    have hww:=Ext.refl wr
    clear hrk
    go_upto_if 24 with fail
    go_cut [5] (fun s5 wx=>∃ m:ByteArray,s5=.string m∧m.size=2∧Ext wr wx)
    case first =>
     cases x
     ·go_wp2_with fail
      go_meet
      exact⟨{ data:=#[32,45] },rfl,rfl,hww⟩
     ·go_wp2_with fail
      go_meet
      exact⟨{ data:=#[32,43] },rfl,rfl,hww⟩
    case rest =>
     clear hc0 hb0 cb0 hww
     obtain⟨m,rfl,hm2,hwc⟩:=hcut
     obtain⟨wK,hwK⟩:∃ wK,wK=wr:=⟨_,rfl⟩
     rw [← hwK] at Hrk Hcr Hcb hwc zhL
     clear hwK
     have q0:¬ 9223372036854775807<t.size+m.size:=by omega
     have hsz:(t++m).size=t.size+2:=by rw [ByteArray.size_append,hm2]
     go_upto_region 11 with fail
     generalize t++m=t1 at *
     clear q0
     go_wp2_with fail
     go_loopw [3,6] (fun v jv wr=>∃ (j:Nat) (t:ByteArray),j≤l.length∧jv=.int .i64 j∧v=.string t∧t.size≤22+100*k+10*j∧Ext wK wr) (fun _ jv _=>l.length - (intOf jv).toNat)
     case atStart=>exact⟨0,t1,Nat.zero_le _,rfl,rfl,by omega,hwc⟩
     case round =>
      clear hwc
      obtain⟨j,t2,hj,rfl,rfl,ht2,hwx⟩:=hrel
      have cb0:=Hcb.out wr hwx
      have hc0:=Hcr.out wr hwx
      by_cases hjl:j<l.length
      ·obtain⟨ad2,q,rfl,-,-,hql,hcq⟩:=(Hrk.out wr hwx).int hjl
       obtain⟨hq0,hq1⟩:=hq.out.2 q (List.mem_of_getElem? hql.out)
       obtain⟨u,rfl⟩:∃ u:Nat,q=u:=⟨q.toNat,by omega⟩
       have hu:u<100:=by have:=Hn.out;omega
       clear hq0 hq1
       go_upto_if 39 with fail
       go_cut [3] (fun s3 wx=>∃ m:ByteArray,s3=.string m∧m.size≤t2.size+1∧wx=wr)
       case first =>
        by_cases hj0:0<j
        ·have hj0':((j:Int)>0):=by omega
         have q1:¬ 9223372036854775807<t2.size+1:=by omega
         go_wp2_with fail
         go_meet
         exact⟨_,rfl,by rw [ByteArray.size_append];exact Nat.le_refl _,rfl⟩
        ·have hj0':¬ ((j:Int)>0):=by omega
         go_wp2_with fail
         go_meet
         exact⟨t2,rfl,by omega,rfl⟩
       case rest =>
        obtain⟨m3,rfl,hm3,rfl⟩:=hcut
        go_wp2_with fail
        refine (zcz (n:=u) hu).mono ?_
        rintro e w4 ⟨t4,rfl,ht4,hx4⟩
        have q2:¬ 9223372036854775807<m3.size+t4.size:=by omega
        go_wp2_with fail
        go_roundw
        case rel=>exact⟨j+1,_,by omega,by go_num,rfl,by rw [ByteArray.size_append];omega,hwx.trans hx4⟩
        case measure=>simp [intOf];omega
      ·obtain rfl:j=l.length:=by omega
       go_wp2_with fail
       go_roundw
       case rel=>exact⟨k+1,t2,by omega,by go_num,rfl,by omega,zhL.trans hwx⟩
       case measure=>simp [intOf];omega
   ·obtain rfl:n=k:=by omega
    go_wp2_with fail
    go_ret
    have hv:=H1.out
    exact⟨t,rfl,fun h=>absurd (hv.symm.trans h) (by decide),hw1.trans zhL⟩
def zgO (L:List UInt8) (w:World) (e:Ending) (w':World):Prop:=∃ t:ByteArray,e=.returned (.string t)∧Hid (t.data.toList=L)∧Ext w w'
theorem zcZ {t:ByteArray} {L:List UInt8}(h:t.data.toList=L):t.size=L.length:=by
 rw [← h,Array.length_toList]
 rfl
theorem zcG {t u:ByteArray} {L M:List UInt8}(h:t.data.toList=L) (g:u.data.toList=M):(t++u).data.toList=L++M:=by
 rw [ByteArray.data_append,Array.toList_append,h,g]
theorem tx_eq {t u:ByteArray}(h:t.data.toList=u.data.toList):t=u:=by
 cases t
 cases u
 exact congrArg ByteArray.mk (Array.toList_inj.1 h)
theorem tx_num (x:Nat):(strOfNums [(x:Int)]).data.toList=[UInt8.ofNat x]:=by simp [strOfNums]
theorem spec_l1TextX {l:Nat} {w:World}(h1:l<6):Calls Tryz.prog 111 #[.int .i64 l] w (zgO [UInt8.ofNat (97+l)] w):=by
 have hc:=zed w
 have hw:IntKind.u8.wrap (97+(l:Int))=((97+l:Nat):Int):=by rw [IntKind.wrap_u8];omega
 go_enter Tryz.func111,Tryz.ntmps111
 go_wp2
 go_ret
 exact⟨_,rfl,za (by first|exact tx_num _|(rw [hw];exact tx_num _)),(Ext.refl _).alloc _⟩
theorem alX_take {ls:List Nat} {k l:Nat}(h:ls[k]?=some l):(ls.take (k+1)).map (fun l=>UInt8.ofNat (97+l))=(ls.take k).map (fun l=>UInt8.ofNat (97+l))++[UInt8.ofNat (97+l)]:=by
 rw [List.take_add_one,h,List.map_append]
 rfl
theorem zbH {a:Nat} {w:World}(ha:a<64) :
  Calls Tryz.prog 57 #[.int .i64 a] w (zgO (alX a) w):=by
 have hsm:Sm a:=by unfold Sm;omega
 have hd:=za (show decide (0≤(a:Int)∧(a:Int)≤63)=true by simp;omega)
 by_cases h0:a=0
 ·subst h0
  rw [show ((0:Nat):Int)=0 from rfl]
  have hd0:=za (show decide ((0:Int)≤0∧(0:Int)≤63)=true by decide)
  go_enter Tryz.func57,Tryz.ntmps57
  go_wp2_with (go_at_call 59;refine (zC _ _).mono ?_;rw [hd0.out];rintro e w' ⟨rfl,rfl⟩)
  go_ret
  exact⟨_,rfl,za rfl,Ext.refl _⟩
 ·have h0':((a:Int)==0)=false:=by simp;omega
  have hal:=za (show alX a=(letters a 6).map (fun l=>UInt8.ofNat (97+l)) by unfold alX;rw [if_neg h0])
  go_enter Tryz.func57,Tryz.ntmps57
  go_wp2_with fail
  refine (zC _ _).mono ?_
  rw [hd.out]
  rintro e w' ⟨rfl,rfl⟩
  go_wp2_with fail
  refine (zJ a hsm _).mono ?_
  rintro e w1 ⟨B,d,rfl,zhS,hx1⟩
  have hl6:=zq a 6
  have hlm:=za (fun k (hk:k∈letters a 6)=>(zaH.1 hk).1)
  have hrd:=Reads.of_own zhS
  clear zhS
  generalize letters a 6=ls at *
  go_wp2_with fail
  go_loopw [3,5] (fun v i wr=>∃ k:Nat,k≤ls.length∧i=.int .i64 k∧∃ s:ByteArray,v=.string s∧s.size≤k∧Hid (s.data.toList=(ls.take k).map (fun l=>UInt8.ofNat (97+l)))∧Ext w1 wr) (fun _ i _=>ls.length - (intOf i).toNat)
  case atStart=>exact⟨0,Nat.zero_le _,rfl,_,rfl,Nat.le_refl _,za rfl,Ext.refl _⟩
  case round =>
   obtain⟨k,hk,rfl,s,rfl,hs,hst0,zhL⟩:=hrel
   by_cases hlt:k<ls.length
   ·obtain⟨ad,l,rfl,_,_,hl,hlc⟩:=(hrd.ext zhL).nat hlt
    have hl6':=hlm.out l (List.mem_of_getElem? hl.out)
    go_wp2_with fail
    refine (spec_l1TextX (l:=l) (by omega)).mono ?_
    rintro e w2 ⟨t,rfl,ht,hx2⟩
    have ht1:t.size=1:=zcZ ht.out
    have hst:s.size+t.size≤7:=by omega
    go_wp2_with fail
    go_roundw
    case rel=>exact⟨k+1,by omega,by go_num,_,rfl,by rw [ByteArray.size_append];omega,za (by rw [alX_take hl.out];exact zcG hst0.out ht.out),zhL.trans hx2⟩
    case measure=>simp [intOf];omega
   ·obtain rfl:k=ls.length:=by omega
    go_wp2_with fail
    go_ret
    exact⟨s,rfl,za (by rw [hst0.out,hal.out,List.take_length]),hx1.trans zhL⟩
theorem spec_l19DecX {n:Nat} {w:World}(hn:n<100) :
  Calls Tryz.prog 58 #[.int .i64 n] w (zgO (Lib.decDigits n) w):=by
 have hn1:(n:Int)<100:=by omega
 have Hn:=za hn
 go_enter Tryz.func58,Tryz.ntmps58
 go_wp2_with fail
 go_loopw [0,3] (fun n' v wr=>∃ (m:Nat) (s:ByteArray),n'=.int .i64 m∧v=.string s∧(m<100∧s.size=0∨m<10∧s.size≤1)∧Hid (m=n∧s.data.toList=[]∨9<n∧m=n / 10∧s.data.toList=[UInt8.ofNat (48+n % 10)])∧Ext w wr) (fun n' _ _=>(intOf n').toNat)
 case atStart=>exact⟨n,_,rfl,rfl,Or.inl ⟨hn,rfl⟩,za (Or.inl ⟨rfl,rfl⟩),Ext.refl _⟩
 case round =>
  obtain⟨m,s,rfl,rfl,hms,hmn,zhL⟩:=hrel
  have hm100:m<100:=by omega
  have hc:=zed wr
  have hso:=zbZ
  by_cases hlt:9<m
  ·have hs0:s.size=0:=by omega
   have hdiv:=za (Int.natCast_ediv m 10)
   have hm9:(9:Int)<(m:Int):=by omega
   have hs1:s.size≤1:=by omega
   have Hs0:=za hs0
   have hmn2:Hid (m=n∧s.data.toList=[]):=za (by
    rcases hmn.out with h|⟨h1,h2,-⟩
    ·exact h
    ·have:=Hn.out
     omega)
   clear hms hs0 hmn
   have hw:IntKind.u8.wrap (48+(m:Int) % 10)=((48+m % 10:Nat):Int):=by rw [IntKind.wrap_u8];omega
   go_wp2_with fail
   go_roundw
   case rel=>exact⟨m / 10,_,by rw [hdiv.out];rfl,rfl,Or.inr ⟨by omega,by rw [ByteArray.size_append,zbZ,Hs0.out];omega⟩,za (Or.inr ⟨by have:=hmn2.out.1;omega,by rw [hmn2.out.1],by
    rw [← hmn2.out.1]
    refine (zcG (L:=[UInt8.ofNat (48+m % 10)]) ?_ hmn2.out.2).trans (List.append_nil _)
    first|exact tx_num _|(rw [hw];exact tx_num _)⟩),zhL.alloc _⟩
   case measure=>simp [intOf];omega
  ·have hm9:(m:Int)≤9:=by omega
   have hs1:s.size≤1:=by omega
   clear hms
   have hw:IntKind.u8.wrap (48+(m:Int))=((48+m:Nat):Int):=by rw [IntKind.wrap_u8];omega
   have Hlt:=za (show m<10 by omega)
   go_wp2_with fail
   go_ret
   refine⟨_,rfl,za ?_,zhL.alloc _⟩
   have h1:∀ (M:List UInt8),s.data.toList=M→((strOfNums [((48+m:Nat):Int)])++s).data.toList=UInt8.ofNat (48+m) :: M:=fun M h=>zcG (tx_num _) h
   have h2:((strOfNums [((48+m:Nat):Int)])++s).data.toList=Lib.decDigits n:=by
    rcases hmn.out with ⟨rfl,h⟩|⟨g1,rfl,h⟩
    ·rw [h1 _ h,Lib.decDigits_one Hlt.out]
    ·rw [h1 _ h,Lib.decDigits_two (by omega) Hn.out]
   first|exact h2|(rw [hw];exact h2)
theorem joinX_take {r:List Nat} {j x:Nat}(h:r[j]?=some x):zaQ (r.take (j+1))=zaQ (r.take j)++(if 0<j then [44] else [])++Lib.decDigits x:=by
 cases r with
 |nil=>simp at h
 |cons y r =>
  cases j with
  |zero =>
   simp only [List.getElem?_cons_zero,Option.some.injEq] at h
   subst h
   simp [zaQ,keyL]
  |succ j =>
   simp only [List.getElem?_cons_succ] at h
   rw [List.take_succ_cons,List.take_succ_cons,List.take_add_one,h]
   show keyL _ _ (r.take j++[x])=keyL _ _ _++_++_
   rw [keyL_snoc]
   simp
theorem zgH {a:Aut} {k:Nat} {l:List Int} {b:Bool}(hl:a.next[k]?=some l)(hb:a.acc[k]?=some b):((zbO a).take (k+1)).flatMap (32 :: ·)=((zbO a).take k).flatMap (32 :: ·)++32 :: zgG b l:=by
 have h:(zbO a)[k]?=some (zgG b l):=by
  unfold zbO
  rw [List.getElem?_map,(List.getElem?_zip_eq_some (z:=(l,b))).2 ⟨hl,hb⟩]
  rfl
 rw [List.take_add_one,h,List.flatMap_append]
 simp
theorem zbz {lo hi:Nat} {A:Option Addr} {n c:Nat} {A':Option Addr} {n' c':Nat} {a:Aut} {w:World}(h:zM w lo hi A n A' n' a) :
  Calls Tryz.prog 26 #[.agg #[.int .i64 a.al,.slice A n c,.slice A' n' c']] w (zgO (zcd a) w):=by
 have HV:=za (fun W (hW:Ext w W)=>zE lo hi A n c A' n' c' a W ⟨h.1.ext hW,h.2.1,h.2.2.ext hW⟩)
 cases h1:zh a
 ·have H1:=za h1
  have HX:=za (show zcd a=[] by unfold zcd;rw [h1];rfl)
  clear h1 h
  go_enter Tryz.func26,Tryz.ntmps26
  go_wp2_with (go_at_call 27;refine (HV.out _ ((Ext.refl _).alloc _)).mono ?_;rw [H1.out];rintro e w1 ⟨rfl,hx⟩)
  go_ret
  exact⟨_,rfl,za HX.out.symm,((Ext.refl _).alloc _).trans hx⟩
 ·have HX:=za (show zcd a=alX a.al.toNat++(zbO a).flatMap (32 :: ·) by unfold zcd;rw [h1];rfl)
  have Hsm:=za (zN h1)
  obtain⟨al,ha,ha2,hn1,hn2,hac,hrows⟩:=zcK h1
  have H1:=za h1
  have Hn:=za h.n1
  have Hn':=za h.n2
  have Ha:=za ha
  have Hrows:=za hrows
  have HS:=za (fun W (hW:Ext w W)=>h.1.ext hW)
  have HB:=za (fun W (hW:Ext w W)=>h.2.2.ext hW)
  have e1:n=n':=by have:=h.n1;have:=h.n2;omega
  subst e1
  have hnn:n≤12:=by have:=h.n1;omega
  clear h1 ha hn1 hn2 hac hrows h
  go_enter Tryz.func26,Tryz.ntmps26
  go_wp2_with fail
  refine (HV.out _ ((Ext.refl _).alloc _)).mono ?_
  rw [H1.out]
  rintro e w1 ⟨rfl,hx⟩
  have b1:=zav hx
  rw [Ha.out] at b1
  have hw1:=((Ext.refl w).alloc _).trans hx
  have cb:=b1.cells
  have hr1:=Ext.refl w1
  clear hx
  go_wp2_with fail
  refine (zbH ha2).mono ?_
  rintro e w2 ⟨t2,rfl,ht2,hx2⟩
  have hts:t2.size≤6:=by
   rw [zcZ ht2.out]
   unfold alX
   split
   ·simp
   ·rw [List.length_map]
    exact zq al 6
  have hat:al=a.al.toNat:=by have:=Ha.out;omega
  rw [hat] at ht2
  clear hat
  go_wp2_with fail
  go_loopw [3,4] (fun v i wr=>∃ (k:Nat) (t:ByteArray),k≤n∧i=.int .i64 k∧v=.string t∧t.size≤20+100*k∧Hid (t.data.toList=alX a.al.toNat++((zbO a).take k).flatMap (32 :: ·))∧Ext w1 wr) (fun _ i _=>n - (intOf i).toNat)
  case atStart=>exact⟨0,t2,Nat.zero_le _,rfl,rfl,by omega,za (by rw [ht2.out];simp),hx2⟩
  case round =>
   clear hx2 ht2 hr1 hts
   obtain⟨k,t,hk,rfl,rfl,ht,htx,zhL⟩:=hrel
   have cb0:=cb wr zhL
   by_cases hlt:k<n
   ·obtain⟨ad,Ak,ck,l,rfl,_,_,hl,hc0,hrk⟩:=(HS.out wr (hw1.trans zhL)).row hlt
    obtain⟨ad',x,rfl,_,_,hbx,hb0⟩:=(HB.out wr (hw1.trans zhL)).bool hlt
    have hq:=za (Hrows.out l (List.mem_of_getElem? hl.out))
    have hl6:l.length≤6:=by have:=hq.out.1;have:=zq al 6;omega
    have Hrk:=za (fun W (hW:Ext wr W)=>hrk.ext hW)
    have Hcr:=za (fun W (hW:Ext wr W)=>hW.cell_some hc0)
    have Hcb:=za (fun W (hW:Ext wr W)=>cb W (zhL.trans hW))
    have Htk:=za (zgH hl.out hbx.out)
    have hww:=Ext.refl wr
    clear hrk
    go_upto_if 24 with fail
    go_cut [5] (fun s5 wx=>∃ m:ByteArray,s5=.string m∧m.size=2∧Hid (m.data.toList=[32,if x then 43 else 45])∧Ext wr wx)
    case first =>
     cases x
     ·go_wp2_with fail
      go_meet
      exact⟨{ data:=#[32,45] },rfl,rfl,za rfl,hww⟩
     ·go_wp2_with fail
      go_meet
      exact⟨{ data:=#[32,43] },rfl,rfl,za rfl,hww⟩
    case rest =>
     clear hc0 hb0 cb0 hww
     obtain⟨m,rfl,hm2,hmx,hwc⟩:=hcut
     obtain⟨wK,hwK⟩:∃ wK,wK=wr:=⟨_,rfl⟩
     rw [← hwK] at Hrk Hcr Hcb hwc zhL
     clear hwK
     have q0:¬ 9223372036854775807<t.size+m.size:=by omega
     have hsz:(t++m).size=t.size+2:=by rw [ByteArray.size_append,hm2]
     have htm:=za (zcG htx.out hmx.out)
     go_upto_region 11 with fail
     generalize t++m=t1 at *
     clear q0
     go_wp2_with fail
     go_loopw [3,6] (fun v jv wr=>∃ (j:Nat) (t:ByteArray),j≤l.length∧jv=.int .i64 j∧v=.string t∧t.size≤22+100*k+10*j∧Hid (t.data.toList=(alX a.al.toNat++((zbO a).take k).flatMap (32 :: ·)++[32,if x then 43 else 45])++zaQ ((l.map Int.toNat).take j))∧Ext wK wr) (fun _ jv _=>l.length - (intOf jv).toNat)
     case atStart=>exact⟨0,t1,Nat.zero_le _,rfl,rfl,by omega,za (by rw [htm.out];simp [zaQ]),hwc⟩
     case round =>
      clear hwc
      obtain⟨j,t2,hj,rfl,rfl,ht2,htx2,hwx⟩:=hrel
      have cb0:=Hcb.out wr hwx
      have hc0:=Hcr.out wr hwx
      by_cases hjl:j<l.length
      ·obtain⟨ad2,q,rfl,-,-,hql,hcq⟩:=(Hrk.out wr hwx).int hjl
       obtain⟨hq0,hq1⟩:=hq.out.2 q (List.mem_of_getElem? hql.out)
       obtain⟨u,rfl⟩:∃ u:Nat,q=u:=⟨q.toNat,by omega⟩
       have hu:u<100:=by have:=Hn.out;omega
       have Hjt:=za (joinX_take (r:=l.map Int.toNat) (j:=j) (x:=u) (by rw [List.getElem?_map,hql.out];rfl))
       clear hq0 hq1
       go_upto_if 39 with fail
       go_cut [3] (fun s3 wx=>∃ m:ByteArray,s3=.string m∧m.size≤t2.size+1∧Hid (m.data.toList=t2.data.toList++(if 0<j then [44] else []))∧wx=wr)
       case first =>
        by_cases hj0:0<j
        ·have hj0':((j:Int)>0):=by omega
         have q1:¬ 9223372036854775807<t2.size+1:=by omega
         go_wp2_with fail
         go_meet
         exact⟨_,rfl,by rw [ByteArray.size_append];exact Nat.le_refl _,za (by rw [if_pos hj0];exact zcG rfl rfl),rfl⟩
        ·have hj0':¬ ((j:Int)>0):=by omega
         go_wp2_with fail
         go_meet
         exact⟨t2,rfl,by omega,za (by rw [if_neg hj0,List.append_nil]),rfl⟩
       case rest =>
        obtain⟨m3,rfl,hm3,hmx3,rfl⟩:=hcut
        go_wp2_with fail
        refine (spec_l19DecX (n:=u) hu).mono ?_
        rintro e w4 ⟨t4,rfl,ht4,hx4⟩
        have ht42:t4.size≤2:=by rw [zcZ ht4.out];exact dig_len hu
        have q2:¬ 9223372036854775807<m3.size+t4.size:=by omega
        go_wp2_with fail
        go_roundw
        case rel=>exact⟨j+1,_,by omega,by go_num,rfl,by rw [ByteArray.size_append];omega,za (by rw [zcG hmx3.out ht4.out,htx2.out,Hjt.out];simp only [List.append_assoc]),hwx.trans hx4⟩
        case measure=>simp [intOf];omega
      ·obtain rfl:j=l.length:=by omega
       go_wp2_with fail
       go_roundw
       case rel=>exact⟨k+1,t2,by omega,by go_num,rfl,by omega,za (by
        have e:(l.map Int.toNat).take l.length=l.map Int.toNat:=List.take_of_length_le (by simp)
        rw [htx2.out,Htk.out,e]
        unfold zgG
        simp),zhL.trans hwx⟩
       case measure=>simp [intOf];omega
   ·obtain rfl:n=k:=by omega
    go_wp2_with fail
    go_ret
    exact⟨t,rfl,za (by
     rw [htx.out,HX.out,List.take_of_length_le]
     unfold zbO
     rw [List.length_map,List.length_zip]
     have:=Hn.out
     omega),hw1.trans zhL⟩
end Go.Proofs.YtfcjhpodichpjaaGreatDoor
namespace Go.Proofs.YtfcjhpodichpjaaGreatDoor
open Go Go.RowKit Go.Lib Go.Shelf
theorem zgB (y:ByteArray) (w:World):Calls Tryz.prog 155 #[.string y,.string ⟨#[44]⟩] w fun e w'=>e=.returned (.int .i64 (Lib.index y.data.toList [44]))∧w'=w:=by
 have h:=Any.strings_Index_one { zff with } y 44 w
 rw [Lib.index_one]
 exact h
theorem lib_Split {s:ByteArray} {w:World}(hs:s.size≤2000000):Calls Tryz.prog 64 #[.string s,.string ⟨#[32]⟩] w (RetCut 32 s w):=by
 have hle:=Lib.countB_le ⟨#[32]⟩ (by decide) s.size s (Nat.le_refl _)
 have hlen:=Lib.splitB_all ⟨#[32]⟩ (by decide) 0 _ s rfl
 have hC:=Any.strings_Count_one { zff with } s 32 w
 rw [show ((Lib.countByte s.data.toList 32:Nat):Int)=(Lib.countB s ⟨#[32]⟩:Nat) by
  show _=((Lib.count s.data.toList [32]:Nat):Int)
  rw [Lib.count_one]
  rfl] at hC
 have hg:=Any.strings_genSplit_core { zff with } laySplit9 s ⟨#[32]⟩ 0 (-1) (Lib.countB s ⟨#[32]⟩+1) w (by omega) (by decide) (by decide)
  (fun x c hx=>by
   have h:=Any.strings_Index_one { zff with } x 32 (w.alloc (.cells c (zcO.t 9)))
   rw [← Lib.index_one] at h
   exact h) hC (by decide) (by decide) (by rw [if_pos (by decide)];omega)
 rw [Nat.add_sub_cancel,hlen] at hg
 have e2:Lib.cellsOf (Lib.splitB ⟨#[32]⟩ 0 (Lib.countB s ⟨#[32]⟩) s) (Lib.countB s ⟨#[32]⟩+1)=((Lib.splitB ⟨#[32]⟩ 0 (Lib.countB s ⟨#[32]⟩) s).map Value.string).toArray:=by rw [← hlen];exact Lib.cellsOf_full _
 rw [e2] at hg
 change Calls Tryz.prog 114 _ _ _ at hg
 have Hcut:=za (split_bytes 32 s)
 have Hg:=za hg
 clear hg hC e2
 generalize Lib.splitB ⟨#[32]⟩ 0 (Lib.countB s ⟨#[32]⟩) s=l at *
 generalize Lib.countB s ⟨#[32]⟩=cn at *
 have Hl:=za hlen
 have hcn:cn≤s.size:=hle
 clear hlen hle
 go_enter Tryz.func64,Tryz.ntmps64
 go_wp2_with (go_at_call 114;refine Hg.out.mono ?_;rintro e w' ⟨rfl,rfl⟩)
 go_ret
 refine⟨_,_,_,l,rfl,Hl.out.symm,by omega,?_,by omega,Hcut,(Ext.refl _).alloc _⟩
 exact World.ownsRow_lit (base:=w.heap.size) (e:=9) (size:=1) w (l.map Value.string).toArray (cn+1) (Nat.le_refl _) (by unfold maxLen;omega) (by simp [Hl.out])
def Sent (w:World):Prop:=(∃ v,w.cell? ⟨2,0,none⟩=some v∧(v=.nilIface∨∃ t p,v=.iface t p))∧∃ v,w.cell? ⟨3,0,none⟩=some v∧(v=.nilIface∨∃ t p,v=.iface t p)
theorem Sent.ext {w w':World}(h:Sent w)(hx:Ext w w'):Sent w':=by
 obtain⟨⟨u,hu,hu'⟩,⟨v,hv,hv'⟩⟩:=h
 exact⟨⟨u,hx.cell_some hu,hu'⟩,⟨v,hx.cell_some hv,hv'⟩⟩
def RetAt (s:ByteArray) (w:World) (e:Ending) (w':World):Prop:=
 ((∃ v:Int,e=.returned (.tuple #[.int .i64 v,.nilIface])∧Hid (Lib.atoiAll s.data.toList=.ok v))∨(∃ (v:Int) (t:TypeId) (p:Value),e=.returned (.tuple #[.int .i64 v,.iface t p])∧Hid (∀ v,Lib.atoiAll s.data.toList≠.ok v)))∧Ext w w'
theorem lib_Atoi {s:ByteArray} {w:World}(hs:s.size≤2000000)(hE:Sent w):Calls Tryz.prog 116 #[.string s] w (RetAt s w):=by
 obtain⟨⟨u,hu,hu'⟩,⟨v,hv,hv'⟩⟩:=hE
 cases h:Lib.atoiAll s.data.toList with
 |ok n =>
  have hc:=Any.strconv_Atoi_ok layAtoi s (by omega) n h w
  change Calls Tryz.prog 116 _ _ _ at hc
  refine hc.mono ?_
  rintro e w' ⟨rfl,hw⟩
  refine⟨.inl ⟨n,rfl,za h⟩,?_⟩
  rcases hw with rfl|⟨t,rfl⟩
  ·exact Ext.refl _
  ·exact Ext.of_below (Lib.bytesWorld_below _ _ _)
 |_ =>
  first
  |(have hc:=Any.strconv_Atoi_syntax layAtoi s (by omega) h u w hu hu'
    change Calls Tryz.prog 116 _ _ _ at hc
    refine hc.mono ?_
    rintro e w' ⟨N,rfl,-,-,hb⟩
    exact⟨.inr ⟨_,_,_,rfl,za (fun v e=>by rw [h] at e;cases e)⟩,Ext.of_below hb⟩)
  |(have hc:=Any.strconv_Atoi_range layAtoi s (by omega) h v w hv hv'
    change Calls Tryz.prog 116 _ _ _ at hc
    refine hc.mono ?_
    rintro e w' ⟨N,rfl,-,-,hb⟩
    exact⟨.inr ⟨_,_,_,rfl,za (fun v e=>by rw [h] at e;cases e)⟩,Ext.of_below hb⟩)
end Go.Proofs.YtfcjhpodichpjaaGreatDoor
namespace Go.Proofs.YtfcjhpodichpjaaGreatDoor
open Go Go.RowKit
theorem err_star : "*" ++ "errors.errorString" = "*errors.errorString" := by decide
theorem err_row (u : TypeId) (h : Tryz.prog.typeName? 3 u = some "*errors.errorString") : u = 268 :=
 typeName_ptr_named (nm := "errors.errorString") (by rw [err_star]; kernel_rfl) (by kernel_rfl) (by decide) u (by rw [err_star]; exact h)
theorem sent_one {W : World} {text : List UInt8} {n : String} {g : Nat} {rest : List (String × DataW Unit)} (h : laidMet Tryz.prog ((n, .iface "*errors.errorString" (.ptr (.agg [.lit (.string text)]))) :: rest) W) (hg : Tryz.prog.globalNamed n = some g) (ht : (Tryz.prog.globals[g]?).map (·.type) = some 122) :
  ∃ v,W.cell? ⟨g,0,none⟩=some v∧(v=.nilIface∨∃ t p,v=.iface t p):=by
 obtain⟨a,s,hv,-,-,-⟩:=laid_sentinel h hg ht Tryz.underlying122 err_row Tryz.underlying268 Tryz.underlying270 rfl rfl Tryz.underlying9 (by kernel_rfl) (by kernel_rfl)
 exact⟨_,by simpa using World.var?_cell hg hv 0,.inr ⟨_,_,rfl⟩⟩
theorem sent_of {W : World} {rest : List (String × DataW Unit)} (h : laidMet Tryz.prog (("strconv.ErrRange", Rows.laid_strconv_ErrRange) :: ("strconv.ErrSyntax", Rows.laid_strconv_ErrSyntax) :: rest) W) : Sent W :=
 ⟨sent_one (laidMet.tail h) (g:=2) (by kernel_rfl) (by kernel_rfl),sent_one h (g:=3) (by kernel_rfl) (by kernel_rfl)⟩
section
variable {P:Program} (w:World)
theorem zhn (base:Nat) (t ty e:TypeId) (i:TypeInfo) (size:Nat)(ht:P.underlying t=some (.slice e))(hi:P.info? e=some i)
  (v:Value) (n:Nat) (xs:List Value) (zhJ:w.ownsRow base e size v n xs) (c:Nat):(Builtin.append_ #[t,t] ty #[v,.slice none 0 c]).run P w=.ok v w:=by
 rcases zhJ.2 with ⟨rfl,rfl⟩|⟨g,cap,cur,rfl,_,_,hnc,_⟩
 ·simp [Builtin.append_,run_underlying ht,sizeOf,typeInfo,hi,Builtin.lenOf,Builtin.firstCells]
 ·simp [Builtin.append_,run_underlying ht,sizeOf,typeInfo,hi,Builtin.lenOf,Builtin.firstCells,hnc,storeCells]
theorem zo {o:Oper} {a:Act} {K:Act→World→Prop} {Q:Exit→Act→World→Prop} (s x:Operand) (t:TypeId)
  (ho:o.op=.call { callee:=.builtin .append,args:=#[s,x],argTypes:=#[t,t] })
  (base:Nat) (e:TypeId) (z:Value) (size bytes:Nat) (ht:P.underlying t=some (.slice e)) (hi:(P.info? e).map (fun i=>(i.zero,i.size,i.bytes))=some (some z,size,bytes)) (hzs:z.cells.size=size) (hsz:0<size)
  (v:Value) (n:Nat) (xs:List Value) (hs:a.eval s=v) (zhJ:w.ownsRow base e size v n xs)
  (lo hi':Nat) (A:Option Addr) (m c:Nat) (news:List Value) (hx:a.eval x=.slice A m c) (hr:Reads w lo hi' size A m news) (h1:∀ u∈news,u.oneCell'=true)
  (h63:n+m≤maxLen) (hbytes:(n+m)*bytes≤140737488355328) (hbase:base≤w.heap.size)
  (h:∀ v' w',w'.ownsRow base e size v' (n+m) (xs++news)→w.grownBy w' v.ownBlock→(v'.ownBlock=v.ownBlock∨v'.ownBlock=some w.heap.size)→K (a.put o.dst v') w'):o.wp P a w K Q:=by
 obtain⟨i,hi0,hz0,hz1,hz2⟩:=info_parts hi
 have hrun:∃ v' w',(Builtin.append_ #[t,t] o.type #[v,.slice A m c]).run P w=.ok v' w'∧w'.ownsRow base e size v' (n+m) (xs++news)∧w.grownBy w' v.ownBlock∧(v'.ownBlock=v.ownBlock∨v'.ownBlock=some w.heap.size):=by
  by_cases h0:m=0
  ·subst h0
   obtain rfl:news=[]:=List.eq_nil_of_length_eq_zero (by simpa using hr.1)
   cases A with
   |none=>exact⟨v,w,zhn w base t o.type e i size ht hi0 v n xs zhJ c,by simpa using zhJ,World.grownBy.refl w _,.inl rfl⟩
   |some ad =>
    obtain⟨v',w',h2,h3,h4,_,h5⟩:=run_append_own_at (P:=P) w base t o.type e i z size bytes ht hi0 hz0 hz1 hz2 hzs hsz v n xs zhJ ad 0 c [] (by simp) (fun j u hu=>by simp at hu) h1 h63 hbytes hbase
    exact⟨v',w',h2,h3,h4,h5⟩
  ·obtain⟨ad,rfl,_,_,hc⟩:=hr.2.2 (by omega)
   obtain⟨v',w',h2,h3,h4,_,h5⟩:=run_append_own_at (P:=P) w base t o.type e i z size bytes ht hi0 hz0 hz1 hz2 hzs hsz v n xs zhJ ad m c news hr.1 hc h1 h63 hbytes hbase
   exact⟨v',w',h2,h3,h4,h5⟩
 obtain⟨v',w',h2,h3,h4,h5⟩:=hrun
 unfold Oper.wp execOp
 simp only [ho,resolve,invoke,builtin,Sem.run_bind,Sem.run_pure,Result.andThen_ok,List.map_toArray,List.map_cons,List.map_nil,hs,hx,h2]
 exact h v' w' h3 h4 h5
end
theorem zhc (l:List Int):∀ u∈ints l,u.oneCell'=true:=by
 intro u hu
 obtain⟨x,_,rfl⟩:=List.mem_map.1 hu
 rfl
theorem zfr (l:List Bool):∀ u∈zas l,u.oneCell'=true:=by
 intro u hu
 obtain⟨x,_,rfl⟩:=List.mem_map.1 hu
 rfl
def zfH:Op→Bool
 |.makeFunc _ _ _ | .move _ | .assign _ | .pick _ _ _ | .binOp _ _ _ _ _ | .unOp _ _ _ | .fieldAddr _ _ _ | .field _ _ _ | .extract _ _ | .build _ _=>true
 |_=>false
def zcx:Op→Bool
 |.makeFunc _ _ _=>true
 |o=>zbr o
inductive zK where
 |nil:zK
 |one:Nat→zK→zK
 |two:Nat→zK→Nat→zK→zK
 |three:Nat→zK→Nat→zK→Nat→zK→zK
def zK.of:List Nat→zK
 |[]=>.nil
 |i :: r=>.one i (zK.of r)
def zK.app:List Nat→zK→zK
 |[],o=>o
 |i :: r,o=>.one i (zK.app r o)
def zbX (l:List Oper) (T:List Nat):zK→Array Bool→Bool
 |.nil,listed=>(Region.ready .any l.toArray listed).isEmpty
 |.one i rest,listed =>
  (match l[i]? with
   |some o=>if zcx o.op then Region.free .any l.toArray listed i&&(Region.ready .any l.toArray listed).contains i&&!T.contains i&&(zfH o.op || T.all fun t=>below l l.length t i)
    else Region.ready .any l.toArray listed==[i]
   |none=>false)&&zbX l T rest (listed.setIfInBounds i true)
 |.two i r j r',listed=>(i<l.length&&j<l.length&&Region.ready .any l.toArray listed==[i,j])&&(zbX l T r (listed.setIfInBounds i true)&&zbX l T r' (listed.setIfInBounds j true))
 |.three i r j r' k r'',listed=>(i<l.length&&j<l.length&&k<l.length&&Region.ready .any l.toArray listed==[i,j,k])&&(zbX l T r (listed.setIfInBounds i true)&&zbX l T r' (listed.setIfInBounds j true)&&zbX l T r'' (listed.setIfInBounds k true))
def zae (P:Program) (l:List Oper) (T:List Nat) (Q:Exit→Act→World→Prop) (S:World→Prop):zK→Act→World→Prop
 |.nil,a,w=>Q .normal a w
 |.one i rest,a,w=>match l[i]? with
  |some o=>if zcx o.op then ∃ v,YieldsIf P l.toArray (if zfH o.op then fun _=>True else S) o v a∧zae P l T Q S rest (a.put o.dst v) w
   else wpOp P l.toArray Q i (fun a' w'=>(T.contains i=false→S w')∧zae P l T Q S rest a' w') a w
  |none=>False
 |.two i r j r',a,w=>wpOp P l.toArray Q i (fun a' w'=>(T.contains i=false→S w')∧zae P l T Q S r a' w') a w∧wpOp P l.toArray Q j (fun a' w'=>(T.contains j=false→S w')∧zae P l T Q S r' a' w') a w
 |.three i r j r' k r'',a,w=>wpOp P l.toArray Q i (fun a' w'=>(T.contains i=false→S w')∧zae P l T Q S r a' w') a w∧wpOp P l.toArray Q j (fun a' w'=>(T.contains j=false→S w')∧zae P l T Q S r' a' w') a w∧wpOp P l.toArray Q k (fun a' w'=>(T.contains k=false→S w')∧zae P l T Q S r'' a' w') a w
def zK.len:zK→Nat
 |.nil=>0
 |.one _ r=>r.len+1
 |.two _ r _ _=>r.len+1
 |.three _ r _ _ _ _=>r.len+1
def zK.even:zK→Bool
 |.nil=>true
 |.one _ r=>r.even
 |.two _ r _ r'=>r.len==r'.len&&(r.even&&r'.even)
 |.three _ r _ r' _ r''=>(r.len==r'.len&&r.len==r''.len)&&(r.even&&r'.even&&r''.even)
section
variable {P:Program} {l:List Oper} {Q:Exit→Act→World→Prop} {S:World→Prop} {T:List Nat}
theorem zbb (hs:Region.noSelect l.toArray=true)(hQ:∀ (c:List PanicEntry) (a:Act) (d:Tmp) (v:Value) (w:World),Q (.panic c) (a.put (some d) v) w→Q (.panic c) a w) :
  ∀ (ord:zK) (listed:Array Bool) (a:Act) (w:World),listed.size=l.length→Clo l listed→ord.even=true→zbX l T ord listed=true→(zcn T listed∨S w)→zae P l T Q S ord a w →
   wpAnyL P .any l.toArray Q (fun listed w=>zcn T listed∨S w) ord.len listed a w
 |.nil,listed,a,w,_,_,_,hok,_,h=>by
  simp only [zbX,List.isEmpty_iff] at hok
  exact⟨hok,h⟩
 |.one i rest,listed,a,w,hsz,hc,hev,hok,hS,h=>by
  cases ho:l[i]? with
  |none=>simp [zbX,ho] at hok
  |some o =>
   have hil:i<l.length:=(List.getElem?_eq_some_iff.1 ho).1
   simp only [zbX,ho,Bool.and_eq_true] at hok
   simp only [zae,ho] at h
   by_cases hq:zcx o.op=true
   ·rw [if_pos hq] at hok h
    simp only [Bool.and_eq_true] at hok
    obtain⟨⟨⟨⟨hf,hrd⟩,hnT⟩,hpure⟩,hrest⟩:=hok
    obtain⟨v,hy,hr⟩:=h
    have hmem:i∈Region.ready .any l.toArray listed:=by simpa using hrd
    have hnT':i∉T:=by simpa using hnT
    have hset:∀ listed:Array Bool,zcn T (listed.setIfInBounds i true)↔zcn T listed:=fun listed=>by
     constructor
     ·rintro ⟨t,ht,hl⟩
      refine⟨t,ht,?_⟩
      rwa [getD_set_ne false (by rintro rfl;exact hnT' ht)] at hl
     ·rintro ⟨t,ht,hl⟩
      exact⟨t,ht,getD_set_true hl⟩
    refine wpAnyL_first (G:=fun listed=>Clo l listed∧listed.size=l.length) (by simpa using ho) (Region.noSelect_spec hs)
     (fun c a w h=>by cases hd:o.dst with|none=>rw [hd] at h;exact h|some d=>rw [hd] at h;exact hQ c a d v w h)
     (fun li j hj hg=>⟨zaM hj hg.1,by simpa using hg.2⟩) ?_ (fun li w h=>h.imp (fun x=>(hset li).2 x) id) (fun li w _ h=>h.imp (fun x=>(hset li).1 x) id)
     rest.len listed a w ⟨hc,hsz⟩ (Region.free_spec (by simpa using ho) hf) hmem hy hS ?_
    ·intro li w' hg hun h
     by_cases hp:zfH o.op=true
     ·rw [if_pos hp];trivial
     ·rw [if_neg hp]
      rcases h with ⟨t,ht,hl⟩|h
      ·exfalso
       simp only [hp,Bool.false_or] at hpure
       have hb:=List.all_eq_true.1 hpure t ht
       have h1:=zeu hg.1 _ _ _ hb hl
       have h2:i<li.size:=by rw [hg.2];exact hil
       simp [h2] at hun h1
       rw [h1] at hun;cases hun
      ·exact h
    ·exact zbb hs hQ rest _ _ _ (by simpa using hsz) (zaM hmem hc) hev hrest (hS.imp (fun x=>(hset _).2 x) id) hr
   ·rw [if_neg hq] at hok h
    have hready:Region.ready .any l.toArray listed=[i]:=by simpa using hok.1
    have hmem:i∈Region.ready .any l.toArray listed:=by rw [hready];simp
    refine⟨fun h0=>(by rw [h0] at hready;cases hready),fun j hj=>?_⟩
    rw [hready] at hj
    rw [List.mem_singleton.1 hj]
    refine wpOp_mono (fun a' w' h=>?_) h
    have hS':zcn T (listed.setIfInBounds i true)∨S w':=by
     cases hT:T.contains i
     ·exact Or.inr (h.1 hT)
     ·refine Or.inl ⟨i,by simpa using hT,?_⟩
      have:i<listed.size:=by omega
      simp [this]
    exact⟨hS',zbb hs hQ rest _ _ _ (by simpa using hsz) (zaM hmem hc) hev hok.2 hS' h.2⟩
 |.two i r j r',listed,a,w,hsz,hc,hev,hok,hS,h=>by
  simp only [zK.even,Bool.and_eq_true,beq_iff_eq] at hev
  simp only [zbX,Bool.and_eq_true,decide_eq_true_eq,beq_iff_eq] at hok
  simp only [zae] at h
  obtain⟨⟨⟨hi,hj⟩,hready⟩,hok1,hok2⟩:=hok
  have hlen:(zK.two i r j r').len=r.len+1:=rfl
  rw [hlen]
  have hm:∀ k,k∈Region.ready .any l.toArray listed↔k=i∨k=j:=fun k=>by rw [hready];simp
  have hS':∀ k w',k<l.length→(T.contains k=false→S w')→zcn T (listed.setIfInBounds k true)∨S w':=fun k w' hk hx=>by
   cases hT:T.contains k
   ·exact Or.inr (hx hT)
   ·refine Or.inl ⟨k,by simpa using hT,?_⟩
    have:k<listed.size:=by omega
    simp [this]
  refine⟨fun h0=>(by rw [h0] at hready;cases hready),fun k hk=>?_⟩
  rcases (hm k).1 hk with hk' | hk'
  ·rw [hk'] at hk ⊢
   refine wpOp_mono (fun a' w' h=>?_) h.1
   exact⟨hS' _ _ hi h.1,zbb hs hQ r _ _ _ (by simpa using hsz) (zaM hk hc) hev.2.1 hok1 (hS' _ _ hi h.1) h.2⟩
  ·rw [hk'] at hk ⊢
   refine wpOp_mono (fun a' w' h=>?_) h.2
   have:=zbb hs hQ r' _ _ _ (by simpa using hsz) (zaM hk hc) hev.2.2 hok2 (hS' _ _ hj h.1) h.2
   rw [← hev.1] at this
   exact⟨hS' _ _ hj h.1,this⟩
 |.three i r j r' k r'',listed,a,w,hsz,hc,hev,hok,hS,h=>by
  simp only [zK.even,Bool.and_eq_true,beq_iff_eq] at hev
  simp only [zbX,Bool.and_eq_true,decide_eq_true_eq,beq_iff_eq] at hok
  simp only [zae] at h
  obtain⟨⟨⟨⟨hi,hj⟩,hk⟩,hready⟩,⟨hok1,hok2⟩,hok3⟩:=hok
  obtain⟨⟨e1,e2⟩,⟨v1,v2⟩,v3⟩:=hev
  have hlen:(zK.three i r j r' k r'').len=r.len+1:=rfl
  rw [hlen]
  have hm:∀ x,x∈Region.ready .any l.toArray listed↔x=i∨x=j∨x=k:=fun x=>by rw [hready];simp
  have hS':∀ k w',k<l.length→(T.contains k=false→S w')→zcn T (listed.setIfInBounds k true)∨S w':=fun k w' hk hx=>by
   cases hT:T.contains k
   ·exact Or.inr (hx hT)
   ·refine Or.inl ⟨k,by simpa using hT,?_⟩
    have:k<listed.size:=by omega
    simp [this]
  refine⟨fun h0=>(by rw [h0] at hready;cases hready),fun x hx=>?_⟩
  rcases (hm x).1 hx with hx' | hx' | hx'
  ·rw [hx'] at hx ⊢
   refine wpOp_mono (fun a' w' h=>?_) h.1
   exact⟨hS' _ _ hi h.1,zbb hs hQ r _ _ _ (by simpa using hsz) (zaM hx hc) v1 hok1 (hS' _ _ hi h.1) h.2⟩
  ·rw [hx'] at hx ⊢
   refine wpOp_mono (fun a' w' h=>?_) h.2.1
   have:=zbb hs hQ r' _ _ _ (by simpa using hsz) (zaM hx hc) v2 hok2 (hS' _ _ hj h.1) h.2
   rw [← e1] at this
   exact⟨hS' _ _ hj h.1,this⟩
  ·rw [hx'] at hx ⊢
   refine wpOp_mono (fun a' w' h=>?_) h.2.2
   have:=zbb hs hQ r'' _ _ _ (by simpa using hsz) (zaM hx hc) v3 hok3 (hS' _ _ hk h.1) h.2
   rw [← e2] at this
   exact⟨hS' _ _ hk h.1,this⟩
theorem zaJ {id:Nat} {a:Act} {w:World} (S:World→Prop) (T:List Nat) (ord:zK)(hm:P.follows .mixedOrders=true)(hlen:ord.len=l.length)(hev:ord.even=true)(hs:Region.noSelect l.toArray=true)(hok:zbX l T ord (Array.replicate l.length false)=true)
  (hQ:∀ (c:List PanicEntry) (a:Act) (d:Tmp) (v:Value) (w:World),Q (.panic c) (a.put (some d) v) w→Q (.panic c) a w) (hS:S w.drew) (h:zae P l T Q S ord a w.drew):(Code.region id l.toArray true).wp P Q a w:=by
 refine wp_region_any hm ?_
 have:=zeH _ _ _ _ (zbb hs hQ ord _ a w.drew (by simp) (clo_start l) hev hok (Or.inr hS) h)
 rw [hlen] at this
 simpa using this
theorem zj {a:Act} {w:World}(h:Q .normal a w):zae P l T Q S .nil a w:=h
theorem useq_pure {i:Nat} {rest:zK} {o:Oper} {v:Value} {a:Act} {w:World}(ho:l[i]?=some o)(hq:zcx o.op=true) (_hp:zfH o.op=true)(hw:Region.wanted o (yielded l.toArray a.tmps)=true)
  (hy:∀ W,(execOp a.eval o).run P W=.ok (.value v) W) (h:zae P l T Q S rest (a.put o.dst v) w):zae P l T Q S (.one i rest) a w:=by
 simp only [zae,ho,hq,if_true]
 exact⟨v,.inl ⟨hw,fun W _=>hy W⟩,h⟩
theorem zbn {i:Nat} {rest:zK} {o:Oper} {v:Value} {a:Act} {w:World}(ho:l[i]?=some o)(hq:zcx o.op=true)(hp:zfH o.op=false)(hw:Region.wanted o (yielded l.toArray a.tmps)=true)
  (hy:∀ W,S W→(execOp a.eval o).run P W=.ok (.value v) W) (h:zae P l T Q S rest (a.put o.dst v) w):zae P l T Q S (.one i rest) a w:=by
 simp only [zae,ho,hq,hp,if_true]
 exact⟨v,.inl ⟨hw,hy⟩,h⟩
theorem useq_skip {i:Nat} {rest:zK} {o:Oper} {a:Act} {w:World}(ho:l[i]?=some o)(hw:Region.wanted o (yielded l.toArray a.tmps)=false)
  (hS:S w) (h:zae P l T Q S rest (a.put o.dst undef) w):zae P l T Q S (.one i rest) a w:=by
 simp only [zae,ho]
 split
 ·exact⟨undef,.inr ⟨hw,rfl⟩,h⟩
 ·unfold wpOp
  simp only [List.getElem?_toArray,ho,hw,Bool.false_eq_true,if_false]
  exact⟨fun _=>hS,h⟩
theorem zb {i:Nat} {rest:zK} {o:Oper} {a:Act} {w:World}
  (h:∀ K:Act→World→Prop,Shut (∀ a w,S w→zae P l T Q S rest a w→K a w)→o.wp P a w K Q) (ho:l[i]?=some o:=by rfl) (hq:zcx o.op=false:=by rfl) (hw:Region.wanted o (yielded l.toArray a.tmps)=true:=by rfl):zae P l T Q S (.one i rest) a w:=by
 simp only [zae,ho,hq]
 unfold wpOp
 simp only [List.getElem?_toArray,ho,hw,if_true]
 exact .inl (h _ fun a w hS hW=>⟨fun _=>hS,hW⟩)
theorem zg {i:Nat} {rest:zK} {o:Oper} {a:Act} {w:World}
  (h:∀ K:Act→World→Prop,Shut (∀ a w,zae P l T Q S rest a w→K a w)→o.wp P a w K Q) (ho:l[i]?=some o:=by rfl) (hq:zcx o.op=false:=by rfl) (hT:T.contains i=true:=by rfl) (hw:Region.wanted o (yielded l.toArray a.tmps)=true:=by rfl):zae P l T Q S (.one i rest) a w:=by
 simp only [zae,ho,hq]
 unfold wpOp
 simp only [List.getElem?_toArray,ho,hw,if_true]
 exact .inl (h _ fun a w hW=>⟨fun hn=>absurd (hn.symm.trans hT) (by decide),hW⟩)
end
section
variable {P:Program} {l:List Oper} {Q:Exit→Act→World→Prop} {S:World→Prop} {T:List Nat}
theorem zD {i j:Nat} {r r':zK} {o o':Oper} {a:Act} {w:World}
  (h1:∀ K:Act→World→Prop,Shut (∀ a w,S w→zae P l T Q S r a w→K a w)→o.wp P a w K Q) (h2:∀ K:Act→World→Prop,Shut (∀ a w,S w→zae P l T Q S r' a w→K a w)→o'.wp P a w K Q) (ho:l[i]?=some o:=by rfl) (ho':l[j]?=some o':=by rfl) (hw:Region.wanted o (yielded l.toArray a.tmps)=true:=by rfl) (hw':Region.wanted o' (yielded l.toArray a.tmps)=true:=by rfl):zae P l T Q S (.two i r j r') a w:=by
 constructor
 ·unfold wpOp
  simp only [List.getElem?_toArray,ho,hw,if_true]
  exact .inl (h1 _ fun a w hS hW=>⟨fun _=>hS,hW⟩)
 ·unfold wpOp
  simp only [List.getElem?_toArray,ho',hw',if_true]
  exact .inl (h2 _ fun a w hS hW=>⟨fun _=>hS,hW⟩)
theorem zdl {i j k:Nat} {r r' r'':zK} {o o' o'':Oper} {a:Act} {w:World}
  (h1:∀ K:Act→World→Prop,Shut (∀ a w,S w→zae P l T Q S r a w→K a w)→o.wp P a w K Q) (h2:∀ K:Act→World→Prop,Shut (∀ a w,S w→zae P l T Q S r' a w→K a w)→o'.wp P a w K Q) (h3:∀ K:Act→World→Prop,Shut (∀ a w,S w→zae P l T Q S r'' a w→K a w)→o''.wp P a w K Q) (ho:l[i]?=some o:=by rfl) (ho':l[j]?=some o':=by rfl) (ho'':l[k]?=some o'':=by rfl) (hw:Region.wanted o (yielded l.toArray a.tmps)=true:=by rfl) (hw':Region.wanted o' (yielded l.toArray a.tmps)=true:=by rfl) (hw'':Region.wanted o'' (yielded l.toArray a.tmps)=true:=by rfl):zae P l T Q S (.three i r j r' k r'') a w:=by
 refine⟨?_,?_,?_⟩
 ·unfold wpOp
  simp only [List.getElem?_toArray,ho,hw,if_true]
  exact .inl (h1 _ fun a w hS hW=>⟨fun _=>hS,hW⟩)
 ·unfold wpOp
  simp only [List.getElem?_toArray,ho',hw',if_true]
  exact .inl (h2 _ fun a w hS hW=>⟨fun _=>hS,hW⟩)
 ·unfold wpOp
  simp only [List.getElem?_toArray,ho'',hw'',if_true]
  exact .inl (h3 _ fun a w hS hW=>⟨fun _=>hS,hW⟩)
end
theorem uQ {A B:Prop}(h:B) (k:Bx B→A:=by
 intro h0
 repeat (first|(refine useq_skip rfl rfl (by assumption) ?_;simp only [Act.put,List.setIfInBounds_toArray,List.set_cons_zero,List.set_cons_succ])|(refine useq_pure (v:=?_) rfl rfl rfl rfl (fun X=>?_) ?_;rotate_left;(focus (go_simp<;>with_reducible rfl));simp only [Act.put,List.setIfInBounds_toArray,List.set_cons_zero,List.set_cons_succ])|(refine zbn (v:=?_) rfl rfl rfl rfl (fun X hX=>?_) ?_;rotate_left;(focus (go_simp<;>with_reducible rfl));simp only [Act.put,List.setIfInBounds_toArray,List.set_cons_zero,List.set_cons_succ]))
 exact h0.out):A:=k ⟨h⟩
theorem uR {P:Program} {l:List Oper} {Q:Exit→Act→World→Prop} {id:Nat} {a:Act} {w:World} (S:World→Prop) (T:List Nat) (ord:zK)(h:zae P l T Q S ord a w.drew)(hm:P.follows .mixedOrders=true:=by kernel_rfl)(hlen:ord.len=l.length:=by kernel_rfl)(hev:ord.even=true:=by kernel_rfl)(hs:Region.noSelect l.toArray=true:=by kernel_rfl)(hok:zbX l T ord (Array.replicate l.length false)=true:=by kernel_rfl)
  (hQ:∀ (c:List PanicEntry) (a:Act) (d:Tmp) (v:Value) (w:World),Q (.panic c) (a.put (some d) v) w→Q (.panic c) a w:=by exact fun _ _ _ _ _ h=>h) (hS:S w.drew:=by first|assumption|exact (Ext.refl _).drew|(refine Ext.drew ?_;assumption)):(Code.region id l.toArray true).wp P Q a w:=
 zaJ S T ord hm hlen hev hs hok hQ hS h
theorem zaj (W:World) (Z:Nat) (u0 u1 u2:Value):Frm (fun k=>k=Z) W (((W.setCell ⟨Z,0,none⟩ u0).setCell ⟨Z,1,none⟩ u1).setCell ⟨Z,2,none⟩ u2):=
 ((Frm.setCell W Z 0 u0).trans (Frm.setCell _ Z 1 u1)).trans (Frm.setCell _ Z 2 u2)
theorem zL {w:World} {Z:Nat} {cs:Array Value} {t:TypeId}(h:Blk w Z t cs)(hc:cs.size=3) (u0 u1 u2:Value):Blk (((w.setCell ⟨Z,0,none⟩ u0).setCell ⟨Z,1,none⟩ u1).setCell ⟨Z,2,none⟩ u2) Z t #[u0,u1,u2]:=by
 obtain⟨l⟩:=cs
 match l,hc with
 |[a,b,c],_=>simpa using ((h.set_ 0 u0).set_ 1 u1).set_ 2 u2
theorem zk {w:World} {base:Nat} {e t:TypeId} {size n G:Nat} {v:Value} {xs:List Value} {cs:Array Value}(h:w.ownsRow base e size v n xs)(hB:Blk w G t cs)(hne:e≠t) {b:Nat}(hv:v.ownBlock=some b):b≠G:=by
 rintro rfl
 rcases h.2 with ⟨rfl,_⟩|⟨g,cap,cur,rfl,_,hh,_⟩
 ·simp [Value.ownBlock] at hv
 ·have hg:g=b:=by simpa [Value.ownBlock] using hv
  subst hg
  unfold Blk at hB
  rw [hh] at hB
  injection hB with hB
  injection hB with _ ht
  exact absurd ht hne
structure Gra (w0 W:World) (G:Nat) (al:Int) (v:Value) (ls:List (List Int)) (vA:Value) (acc:List Bool):Prop where
 blk:Blk W G 26 #[.int .i64 al,v,vA]
 own:zdm W w0.heap.size v ls
 acc:W.ownsRow w0.heap.size 4 1 vA acc.length (zas acc)
 ext:Ext w0 W
 hG:w0.heap.size≤G
section
variable {w0 W W':World} {G:Nat} {al:Int} {v vA:Value} {ls:List (List Int)} {acc:List Bool}
theorem Gra.ext_ (h:Gra w0 W G al v ls vA acc)(hb:Ext W W'):Gra w0 W' G al v ls vA acc:=⟨h.blk.ext hb,h.own.ext hb,ze h.acc hb,h.ext.trans hb,h.hG⟩
theorem Gra.push {W1:World} {rows:List Value} {row:Value} {l:List Int} {g cap:Nat}(h:Gra w0 W G al v ls vA acc)(hrows:zy W w0.heap.size rows ls)(hv:W.ownsRow w0.heap.size 74 1 v ls.length rows)
  (hx:Ext W W1) (hrow:W1.ownsRow W.heap.size 3 1 row l.length (ints l))
  (zhJ:W'.ownsRow w0.heap.size 74 1 (.slice (some ⟨g,0,none⟩) (ls.length+1) cap) (ls.length+1) (rows++[row]))
  (hg:W1.grownBy W' v.ownBlock) (hat:v.ownBlock=some g∨g=W1.heap.size+1) :
  Hid (W'.cell? ⟨G,1,none⟩=some v)∧W'.frozen? ⟨G,1,none⟩=false∧Gra w0 (W'.setCell ⟨G,1,none⟩ (.slice (some ⟨g,0,none⟩) (ls.length+1) cap)) G al (.slice (some ⟨g,0,none⟩) (ls.length+1) cap) (ls++[l]) vA acc:=by
 have hB1:=h.blk.ext hx
 have hv1:=ze hv hx
 have hB:Blk W' G 26 #[.int .i64 al,v,vA]:=(hg.block G hB1.lt (fun e=>zk hv1 hB1 (by decide) e.symm rfl)).trans hB1
 have hgG:g≠G:=by
  rcases hat with h1|h1
  ·exact zk hv1 hB1 (by decide) h1
  ·have:=hB1.lt;omega
 have hx':Ext w0 W':=(h.ext.trans hx).grown hg (fun k hk=>(hv1.lt k hk).1)
 have hr1:=hrows.snoc hx (h.ext.size) hrow
 have hfr:Frm (fun k=>v.ownBlock=some k) W1 W':=Frm.of_grown hg
 have hr2:zy W' w0.heap.size (rows++[row]) (ls++[l]):=hr1.frm hfr (fun i r b hr hb hS=>by
  obtain⟨l',_,ho⟩:=hr1.row hr
  exact zaq ho hv1 (by decide) hb hS)
 have zhK:W'.ownsRow w0.heap.size 4 1 vA acc.length (zas acc):=zd (ze h.acc hx) hfr (fun b hb hS=>zaq (ze h.acc hx) hv1 (by decide) hb hS)
 have hset:=Frm.setCell W' G 1 (.slice (some ⟨g,0,none⟩) (ls.length+1) cap)
 refine⟨hB.cell 1,hB.frozen 1,⟨by simpa using hB.set_ 1 _,⟨rows++[row],?_,?_⟩,?_,hx'.setCell (p:=⟨G,1,none⟩) h.hG _,h.hG⟩⟩
 ·rw [List.length_append,List.length_singleton]
  exact zd zhJ hset (fun b hv hS=>by
   have:g=b:=by simpa [Value.ownBlock] using hv
   omega)
 ·refine hr2.frm hset (fun i r b hr hb hS=>?_)
  obtain⟨l',_,ho⟩:=hr2.row hr
  exact zk ho hB (by decide) hb hS
 ·exact zd zhK hset (fun b hb hS=>zk zhK hB (by decide) hb hS)
end
def Good (s:Sys):Prop:=∃ a p:Nat,s.al=a∧a<64∧s.st=p∧1≤p∧p≤16∧Few p s.edges
def zbd (w:World) (R:Nat) (A:Option Addr) (n:Nat) (s:Sys):Prop:=
 n=s.edges.length∧n≤9223372036854775807∧(0<n→∃ (g o:Nat) (cs:Array Value),A=some ⟨g,o,none⟩∧R<g∧w.heap[g]?=some (.cells cs 103 (0,0))∧∀ j u,(zB s.edges)[j]?=some u→w.cell? ⟨g,o+j,none⟩=some u)
theorem zbd.at_ {w:World} {R n:Nat} {A:Option Addr} {s:Sys}(h:zbd w R A n s):zah w (R+1) w.heap.size A n s:=by
 refine⟨h.1,by rw [zaU,← h.1],h.2.1,fun h0=>?_⟩
 obtain⟨g,o,cs,e,hR,hh,hc⟩:=h.2.2 h0
 exact⟨⟨g,o,none⟩,e,hR,(Array.getElem?_eq_some_iff.1 hh).1,fun j u hu=>by rw [zH];exact hc j u hu⟩
theorem zbd.frm {S:Nat→Prop} {w w':World} {R n:Nat} {A:Option Addr} {s:Sys}(h:zbd w R A n s)(hb:Frm S w w')(hS:∀ k,S k→R<k→∀ cs,w.heap[k]?≠some (.cells cs 103 (0,0))):zbd w' R A n s:=by
 refine⟨h.1,h.2.1,fun h0=>?_⟩
 obtain⟨g,o,cs,e,hR,hh,hc⟩:=h.2.2 h0
 have hlt:=(Array.getElem?_eq_some_iff.1 hh).1
 have hn:¬ S g:=fun hs=>hS g hs hR cs hh
 exact⟨g,o,cs,e,hR,(hb.block g hlt hn).trans hh,fun j u hu=>(World.cell?_of_block (w:=w) (hb.block g hlt hn)).trans (hc j u hu)⟩
theorem zbd.ext {w w':World} {R n:Nat} {A:Option Addr} {s:Sys}(h:zbd w R A n s)(hb:Ext w w'):zbd w' R A n s:=h.frm (S:=fun _=>False) hb (fun _ hk=>hk.elim)
theorem zbd.dr {w w':World} {R n:Nat} {A:Option Addr} {s:Sys}(h:zbd w R A n s)(hb:Dr R w w'):zbd w' R A n s:=h.frm hb (fun k hk hR=>by omega)
theorem zbd.far {w w':World} {R n Z:Nat} {A:Option Addr} {s:Sys} {cs:Array Value} {t:TypeId}(h:zbd w R A n s)(hB:Blk w Z t cs)(ht:t≠103)(hb:Frm (fun k=>k=Z) w w'):zbd w' R A n s:=h.frm hb (fun k hk _ cs' hh=>by
 subst hk
 unfold Blk at hB
 rw [hB] at hh
 injection hh with hh
 injection hh with _ h2
 exact ht h2)
theorem zbd.own {w:World} {R base n c:Nat} {A:Option Addr} {s:Sys}(h:w.ownsRow base 103 3 (.slice A n c) n (zB s.edges))(hR:R<base):zbd w R A n s:=by
 have hl:n=s.edges.length:=by have:=h.1;rw [zaU] at this;omega
 refine⟨hl,(Reads.of_own h).len,fun h0=>?_⟩
 rcases h.2 with ⟨_,h1⟩|⟨g,cap,cur,hv,hb,hh,_⟩
 ·omega
 ·have hA:A=some ⟨g,0,none⟩:=by injection hv
  subst hA
  exact⟨g,0,cur,rfl,by omega,hh,fun j u hu=>by
   have:=h.cells (g:=g) rfl j u hu
   rwa [zH] at this⟩
theorem zhh {w:World} {base:Nat} {e:TypeId} {size n c:Nat} {A:Option Addr} {xs:List Value}(h:w.ownsRow base e size (.slice A n c) n xs):n≤c:=by
 rcases h.2 with ⟨hv,h0⟩|⟨g,cap,cur,hv,_,_,hnc,_⟩
 ·omega
 ·injection hv with _ _ h3
  omega
def RetG (R M L:Nat) (w:World) (e:Ending) (w':World):Prop:=
 ∃ (s:Sys) (A:Option Addr) (n c:Nat),e=.returned (.agg #[.int .i64 s.al,.int .i64 s.st,.slice A n c])∧zbd w' R A n s∧Good s∧(n≤L∧n≤c)∧Rd w' R M∧Dr R w w'
def RetA (R M L:Nat) (w:World) (e:Ending) (w':World):Prop:=
 ∃ (s:Sys) (A:Option Addr) (n c:Nat),e=.returned (.agg #[.int .i64 s.al,.int .i64 s.st,.slice A n c])∧zbd w' R A n s∧(n≤L∧n≤c)∧Rd w' R M∧Dr R w w'
structure Acc (w0 wB W:World) (R G M:Nat) (al st:Int) (v:Value) (es:List Edg):Prop where
 blk:Blk W G 39 #[.int .i64 al,.int .i64 st,v]
 own:W.ownsRow wB.heap.size 103 3 v es.length (zB es)
 rd:Rd W R M
 dr:Dr R w0 W
 fr:Frm (fun k=>k=R∨k=G) wB W
 hR:R<w0.heap.size
 hB:w0.heap.size≤wB.heap.size
 hG:w0.heap.size≤G
section
variable {w0 wB W W':World} {R G M N:Nat} {al st:Int} {v:Value} {es:List Edg}
theorem Acc.more (h:Acc w0 wB W R G M al st v es)(hM:M≤N):Acc w0 wB W R G N al st v es:={ h with rd:=h.rd.more hM }
theorem Acc.ext (h:Acc w0 wB W R G M al st v es)(hb:Ext W W'):Acc w0 wB W' R G M al st v es:=⟨h.blk.ext hb,ze h.own hb,h.rd.ext hb,h.dr.ext hb,h.fr.ext hb,h.hR,h.hB,h.hG⟩
theorem Acc.drawn (h:Acc w0 wB W R G M al st v es)(hb:Dr R W W')(hr:Rd W' R N):Acc w0 wB W' R G N al st v es:=
 ⟨h.blk.dr hb (by have:=h.hR;have:=h.hG;omega),zd h.own hb (fun b hv hS=>by have:=(h.own.lt b hv).1;have:=h.hR;have:=h.hB;omega),hr,h.dr.trans hb,h.fr.trans (hb.mono fun k _ hk=>Or.inl hk),h.hR,h.hB,h.hG⟩
theorem Acc.far (h:Acc w0 wB W R G M al st v es) {b:Nat}(hv:v.ownBlock=some b):b≠G:=by
 rintro rfl
 have hB:=h.blk
 rcases h.own.2 with ⟨rfl,_⟩|⟨g,cap,cur,rfl,_,hh,_⟩
 ·simp [Value.ownBlock] at hv
 ·have hg:g=b:=by simpa [Value.ownBlock] using hv
  subst hg
  unfold Blk at hB
  rw [hh] at hB
  injection hB with hB
  injection hB with _ ht
  exact absurd ht (by decide)
theorem Acc.setAl (h:Acc w0 wB W R G M al st v es) (x:Int):Acc w0 wB (W.setCell ⟨G,0,none⟩ (.int .i64 x)) R G M x st v es:=
 ⟨by simpa using h.blk.set_ 0 _,zd h.own (Frm.setCell W G 0 _) (fun b hv hS=>h.far hv hS),h.rd.frm (Frm.setCell W G 0 _) (fun k hk hS=>by have:=h.hR;have:=h.hG;omega),h.dr.setNew h.hG _,h.fr.cell (Or.inr rfl) _,h.hR,h.hB,h.hG⟩
theorem Acc.push {g cap:Nat} {e:Edg}(h:Acc w0 wB W R G M al st v es) (zhJ:W'.ownsRow wB.heap.size 103 3 (.slice (some ⟨g,0,none⟩) (es.length+1) cap) (es.length+1) (zB es++[.int .i64 e.fr,.int .i64 e.le,.int .i64 e.ta]))
  (hg:W.grownBy W' v.ownBlock) (hat:v.ownBlock=some g∨g=W.heap.size+1) :
  Hid (W'.cell? ⟨G,2,none⟩=some v)∧W'.frozen? ⟨G,2,none⟩=false∧Acc w0 wB (W'.setCell ⟨G,2,none⟩ (.slice (some ⟨g,0,none⟩) (es.length+1) cap)) R G M al st (.slice (some ⟨g,0,none⟩) (es.length+1) cap) (es++[e]):=by
 have hB:Blk W' G 39 #[.int .i64 al,.int .i64 st,v]:=(hg.block G h.blk.lt (fun e=>h.far e.symm rfl)).trans h.blk
 have hgG:g≠G:=by
  rcases hat with h1|h1
  ·exact h.far h1
  ·have:=h.blk.lt;omega
 have hd:Dr R w0 W':=h.dr.grown hg (fun k hk=>Nat.le_trans h.hB (h.own.lt k hk).1)
 have hr:Rd W' R M:=h.rd.frm (Frm.of_grown hg) (fun k hk hS=>by have:=(h.own.lt k hS).1;have:=h.hR;have:=h.hB;omega)
 have hf:Frm (fun k=>k=R∨k=G) wB W':=
  ⟨hg.os.trans h.fr.os,hg.tape.trans h.fr.tape,hg.output.trans h.fr.output,Nat.le_trans h.fr.size hg.size,
   fun k hk hn=>(hg.block k (Nat.lt_of_lt_of_le hk h.fr.size) (fun e=>by have:=(h.own.lt k e.symm).1;omega)).trans (h.fr.block k hk hn)⟩
 refine⟨hB.cell 2,hB.frozen 2,⟨by simpa using hB.set_ 2 _,?_,hr.frm (Frm.setCell W' G 2 _) (fun k hk hS=>by have:=h.hR;have:=h.hG;omega),hd.setNew h.hG _,hf.cell (Or.inr rfl) _,h.hR,h.hB,h.hG⟩⟩
 have:=zd zhJ (Frm.setCell W' G 2 (.slice (some ⟨g,0,none⟩) (es.length+1) cap)) (fun b hv hS=>by
  have:g=b:=by simpa [Value.ownBlock] using hv
  omega)
 rw [zbB]
 simpa [zB] using this
theorem Acc.reads {A:Option Addr} {n c:Nat}(h:Acc w0 wB W R G M al st (.slice A n c) es):n=es.length∧zah W wB.heap.size W.heap.size A n ⟨al,st,es⟩:=by
 have hn:n=es.length:=by
  rcases h.own.2 with ⟨hv,h0⟩|⟨g,cap,cur,hv,_⟩
  ·injection hv with _ h2 _;omega
  ·injection hv
 have ho:=h.own
 rw [← hn] at ho
 exact⟨hn,hn,Reads.of_own ho⟩
theorem Acc.form (h:Acc w0 wB W R G M al st v es):∃ A n c,v=.slice A n c:=by
 obtain⟨A,c,e⟩:=zf h.own
 exact⟨A,_,c,e⟩
theorem Acc.old (h:Acc w0 wB W R G M al st v es) {lo hi size n:Nat} {A:Option Addr} {xs:List Value}(hx:Reads wB lo hi size A n xs)(h1:∀ k,lo≤k→k<hi→k≠R∧k≠G):Reads W lo hi size A n xs:=
 hx.frm h.fr (fun k a b hS=>by have:=h1 k a b;omega)
end
theorem zef (W:World) (Z:Nat) (u0 u1 u2:Value):Frm (fun k=>k=Z) W (((W.setCell ⟨Z,0,none⟩ u0).setCell ⟨Z,1,none⟩ u1).setCell ⟨Z,2,none⟩ u2):=
 ((Frm.setCell W Z 0 u0).trans (Frm.setCell _ Z 1 u1)).trans (Frm.setCell _ Z 2 u2)
theorem Acc.fin {w0 wB W:World} {R G M Z:Nat} {al st:Int} {A:Option Addr} {n c:Nat} {es:List Edg}(h:Acc w0 wB W R G M al st (.slice A n c) es)(hZ:w0.heap.size≤Z)(hZ2:Z<wB.heap.size) (u0 u1 u2:Value) :
  zbd (((W.setCell ⟨Z,0,none⟩ u0).setCell ⟨Z,1,none⟩ u1).setCell ⟨Z,2,none⟩ u2) R A n ⟨al,st,es⟩ ∧
  Rd (((W.setCell ⟨Z,0,none⟩ u0).setCell ⟨Z,1,none⟩ u1).setCell ⟨Z,2,none⟩ u2) R M∧Dr R w0 (((W.setCell ⟨Z,0,none⟩ u0).setCell ⟨Z,1,none⟩ u1).setCell ⟨Z,2,none⟩ u2):=by
 have hf:=zef W Z u0 u1 u2
 obtain⟨hn,_⟩:=h.reads
 have hR:=h.hR
 have hB:=h.hB
 have ho:=h.own
 rw [← hn] at ho
 refine⟨zbd.own (s:=⟨al,st,es⟩) (zd ho hf (fun b hv hS=>by have:=(h.own.lt b hv).1;omega)) (by omega),h.rd.frm hf (fun k h1 h2=>by omega),?_⟩
 exact ((h.dr.setNew (p:=⟨Z,0,none⟩) hZ u0).setNew (p:=⟨Z,1,none⟩) hZ u1).setNew (p:=⟨Z,2,none⟩) hZ u2
theorem zy.snoc2 {w:World} {base N:Nat} {rows:List Value} {ls:List (List Int)} {row:Value} {l:List Int}(h:zy w base rows ls)(hlow:∀ (i:Nat) (r:Value) (b:Nat),rows[i]?=some r→r.ownBlock=some b→b<N)(hN:base≤N)(hrow:w.ownsRow N 3 1 row l.length (ints l)) :
  zy w base (rows++[row]) (ls++[l]):=by
 have hlen:=h.1
 refine⟨by simp [hlen],fun i r m hr hm=>?_,fun i j ri rj b hri hrj hij hbi=>?_⟩
 ·rcases Nat.lt_trichotomy i rows.length with hi|hi|hi
  ·rw [List.getElem?_append_left hi] at hr
   rw [List.getElem?_append_left (by omega)] at hm
   exact h.2.1 i r m hr hm
  ·rw [List.getElem?_append_right (by omega),hi,Nat.sub_self] at hr
   rw [List.getElem?_append_right (by omega),hi,hlen,Nat.sub_self] at hm
   simp at hr hm
   subst hr;subst hm
   exact zl hrow hN
  ·rw [List.getElem?_eq_none (by simp;omega)] at hr;cases hr
 ·have new:∀ b,row.ownBlock=some b→N≤b:=fun b hb=>(hrow.lt b hb).1
  have hi:i≤rows.length:=by have:=(List.getElem?_eq_some_iff.1 hri).1;simp at this;omega
  have hj:j≤rows.length:=by have:=(List.getElem?_eq_some_iff.1 hrj).1;simp at this;omega
  rcases Nat.lt_or_eq_of_le hi with hi|hi<;>rcases Nat.lt_or_eq_of_le hj with hj|hj
  ·rw [List.getElem?_append_left hi] at hri
   rw [List.getElem?_append_left hj] at hrj
   exact h.2.2 i j ri rj b hri hrj hij hbi
  ·rw [List.getElem?_append_left hi] at hri
   subst hj
   simp at hrj
   subst hrj
   intro hc
   have h1:=hlow i ri b hri hbi
   have h2:=new b hc
   omega
  ·rw [List.getElem?_append_left hj] at hrj
   subst hi
   simp at hri
   subst hri
   intro hc
   have h1:=hlow j rj b hrj hc
   have h2:=new b hbi
   omega
  ·omega
def zeU (R M:Nat) (sh:Aut→Prop) (w:World) (e:Ending) (w':World):Prop:=
 ∃ (a:Aut) (A:Option Addr) (n c:Nat) (A':Option Addr) (n' c':Nat),e=.returned (.agg #[.int .i64 a.al,.slice A n c,.slice A' n' c'])∧zO w' w.heap.size A n c A' n' c' a∧Hid (sh a)∧Rd w' R M∧Dr R w w'
structure zaW (w0 W:World) (R G M:Nat) (al:Int) (v:Value) (rows:List Value) (ls:List (List Int)) (vA:Value) (acc:List Bool):Prop where
 blk:Blk W G 26 #[.int .i64 al,v,vA]
 nx:W.ownsRow w0.heap.size 74 1 v ls.length rows
 rows:zy W w0.heap.size rows ls
 acc:W.ownsRow w0.heap.size 4 1 vA acc.length (zas acc)
 rd:Rd W R M
 dr:Dr R w0 W
 hR:R<w0.heap.size
 hG:w0.heap.size≤G
section
variable {w0 W W':World} {R G M N:Nat} {al:Int} {v vA:Value} {rows:List Value} {ls:List (List Int)} {acc:List Bool}
theorem zaW.drawn (h:zaW w0 W R G M al v rows ls vA acc)(hd:Dr R W W')(hr:Rd W' R N):zaW w0 W' R G N al v rows ls vA acc:=
 ⟨h.blk.dr hd (by have:=h.hR;have:=h.hG;omega),zaN h.nx hd (fun b h1 e=>by have:=h.hR;omega),h.rows.keep hd (fun b h1 e=>by have:=h.hR;omega),zaN h.acc hd (fun b h1 e=>by have:=h.hR;omega),hr,h.dr.trans hd,h.hR,h.hG⟩
theorem zaW.ext (h:zaW w0 W R G M al v rows ls vA acc)(hx:Ext W W'):zaW w0 W' R G M al v rows ls vA acc:=h.drawn (Ext.dr hx) (h.rd.ext hx)
theorem zaW.more (h:zaW w0 W R G M al v rows ls vA acc)(hM:M≤N):zaW w0 W R G N al v rows ls vA acc:={ h with rd:=h.rd.more hM }
theorem zaW.low (h:zaW w0 W R G M al v rows ls vA acc):∀ (i:Nat) (r:Value) (b:Nat),rows[i]?=some r→r.ownBlock=some b→b<W.heap.size:=fun i r b hr hb=>by
 obtain⟨l,_,ho⟩:=h.rows.row hr
 exact (ho.lt b hb).2
theorem zaW.grown (h:zaW w0 W R G M al v rows ls vA acc) {v0:Value} {e:TypeId} {size k:Nat} {xs:List Value}(ho:W.ownsRow w0.heap.size e size v0 k xs)(hg:W.grownBy W' v0.ownBlock):Dr R w0 W'∧Rd W' R M:=by
 have hRG:=h.hR
 refine⟨h.dr.grown hg (fun k hk=>(ho.lt k hk).1),h.rd.frm (Frm.of_grown hg) (fun k hk hS=>by have:=(ho.lt k hS).1;omega)⟩
theorem zaW.pushRow {row:Value} {l:List Int} {g cap K:Nat}(h:zaW w0 W R G M al v rows ls vA acc)(hlow:∀ (i:Nat) (r:Value) (b:Nat),rows[i]?=some r→r.ownBlock=some b→b<K)(hK:w0.heap.size≤K)(hrow:W.ownsRow K 3 1 row l.length (ints l))
  (zhJ:W'.ownsRow w0.heap.size 74 1 (.slice (some ⟨g,0,none⟩) (ls.length+1) cap) (ls.length+1) (rows++[row]))
  (hg:W.grownBy W' v.ownBlock) (hat:v.ownBlock=some g∨g=W.heap.size+1) :
  Hid (W'.cell? ⟨G,1,none⟩=some v)∧W'.frozen? ⟨G,1,none⟩=false∧zaW w0 (W'.setCell ⟨G,1,none⟩ (.slice (some ⟨g,0,none⟩) (ls.length+1) cap)) R G M al (.slice (some ⟨g,0,none⟩) (ls.length+1) cap) (rows++[row]) (ls++[l]) vA acc:=by
 have hRG:=h.hR;have hGG:=h.hG
 have hB:Blk W' G 26 #[.int .i64 al,v,vA]:=(hg.block G h.blk.lt (fun e=>zk h.nx h.blk (by decide) e.symm rfl)).trans h.blk
 have hgG:g≠G:=by
  rcases hat with h1|h1
  ·exact zk h.nx h.blk (by decide) h1
  ·have:=h.blk.lt;omega
 have hfr:Frm (fun k=>v.ownBlock=some k) W W':=Frm.of_grown hg
 obtain⟨hdr,hrd⟩:=h.grown h.nx hg
 have hr1:=h.rows.snoc2 hlow hK hrow
 have hr2:zy W' w0.heap.size (rows++[row]) (ls++[l]):=hr1.frm hfr (fun i r b hr hb hS=>by
  obtain⟨l',_,ho⟩:=hr1.row hr
  exact zaq ho h.nx (by decide) hb hS)
 have zhK:W'.ownsRow w0.heap.size 4 1 vA acc.length (zas acc):=zd h.acc hfr (fun b hb hS=>zaq h.acc h.nx (by decide) hb hS)
 have hset:=Frm.setCell W' G 1 (.slice (some ⟨g,0,none⟩) (ls.length+1) cap)
 refine⟨hB.cell 1,hB.frozen 1,⟨by simpa using hB.set_ 1 _,?_,?_,?_,hrd.frm hset (fun k hk e=>by omega),hdr.setNew (p:=⟨G,1,none⟩) hGG _,hRG,hGG⟩⟩
 ·rw [List.length_append,List.length_singleton]
  exact zd zhJ hset (fun b hv hS=>by
   have:g=b:=by simpa [Value.ownBlock] using hv
   omega)
 ·refine hr2.frm hset (fun i r b hr hb hS=>?_)
  obtain⟨l',_,ho⟩:=hr2.row hr
  exact zk ho hB (by decide) hb hS
 ·exact zd zhK hset (fun b hb hS=>zk zhK hB (by decide) hb hS)
theorem zaW.pushAcc {x:Bool} {g cap:Nat}(h:zaW w0 W R G M al v rows ls vA acc)
  (zhJ:W'.ownsRow w0.heap.size 4 1 (.slice (some ⟨g,0,none⟩) (acc.length+1) cap) (acc.length+1) (zas acc++[.bool x]))
  (hg:W.grownBy W' vA.ownBlock) (hat:vA.ownBlock=some g∨g=W.heap.size+1) :
  Hid (W'.cell? ⟨G,2,none⟩=some vA)∧W'.frozen? ⟨G,2,none⟩=false∧zaW w0 (W'.setCell ⟨G,2,none⟩ (.slice (some ⟨g,0,none⟩) (acc.length+1) cap)) R G M al v rows ls (.slice (some ⟨g,0,none⟩) (acc.length+1) cap) (acc++[x]):=by
 have hRG:=h.hR;have hGG:=h.hG
 have hB:Blk W' G 26 #[.int .i64 al,v,vA]:=(hg.block G h.blk.lt (fun e=>zk h.acc h.blk (by decide) e.symm rfl)).trans h.blk
 have hgG:g≠G:=by
  rcases hat with h1|h1
  ·exact zk h.acc h.blk (by decide) h1
  ·have:=h.blk.lt;omega
 have hfr:Frm (fun k=>vA.ownBlock=some k) W W':=Frm.of_grown hg
 obtain⟨hdr,hrd⟩:=h.grown h.acc hg
 have hn:W'.ownsRow w0.heap.size 74 1 v ls.length rows:=zd h.nx hfr (fun b hb hS=>zaq h.nx h.acc (by decide) hb hS)
 have hr2:zy W' w0.heap.size rows ls:=h.rows.frm hfr (fun i r b hr hb hS=>by
  obtain⟨l',_,ho⟩:=h.rows.row hr
  exact zaq ho h.acc (by decide) hb hS)
 have hset:=Frm.setCell W' G 2 (.slice (some ⟨g,0,none⟩) (acc.length+1) cap)
 refine⟨hB.cell 2,hB.frozen 2,⟨by simpa using hB.set_ 2 _,zd hn hset (fun b hb hS=>zk hn hB (by decide) hb hS),hr2.frm hset (fun i r b hr hb hS=>?_),?_,hrd.frm hset (fun k hk e=>by omega),hdr.setNew (p:=⟨G,2,none⟩) hGG _,hRG,hGG⟩⟩
 ·obtain⟨l',_,ho⟩:=hr2.row hr
  exact zk ho hB (by decide) hb hS
 ·rw [List.length_append,List.length_singleton,show zas (acc++[x])=zas acc++[.bool x] by simp [zas]]
  exact zd zhJ hset (fun b hv hS=>by
   have:g=b:=by simpa [Value.ownBlock] using hv
   omega)
theorem zaW.side {v0:Value} {K k:Nat} {xs:List Value}(h:zaW w0 W R G M al v rows ls vA acc)(hlow:∀ (i:Nat) (r:Value) (b:Nat),rows[i]?=some r→r.ownBlock=some b→b<K)(hK:w0.heap.size≤K)(ho:W.ownsRow K 3 1 v0 k xs)(hg:W.grownBy W' v0.ownBlock):zaW w0 W' R G M al v rows ls vA acc:=by
 have ho':=zl ho hK
 obtain⟨hdr,hrd⟩:=h.grown ho' hg
 have hfr:Frm (fun k=>v0.ownBlock=some k) W W':=Frm.of_grown hg
 exact⟨h.blk.frm hfr (fun e=>zk ho h.blk (by decide) e rfl),zd h.nx hfr (fun b hb hS=>zaq ho h.nx (by decide) hS hb),h.rows.frm hfr (fun i r b hr hb hS=>by have:=hlow i r b hr hb;have:=(ho.lt b hS).1;omega),
  zd h.acc hfr (fun b hb hS=>zaq ho h.acc (by decide) hS hb),hrd,hdr,h.hR,h.hG⟩
theorem zaW.fin {w:World} {Z n n' c c':Nat} {A A':Option Addr} {cs:Array Value} {t:TypeId} {sh:Aut→Prop}(h:zaW w0 W R G M al (.slice A n c) rows ls (.slice A' n' c') acc)(hx:Ext w w0) (bz:Blk w0 Z t cs)(hc:cs.size=3)(hRw:R<w.heap.size)(hZ:w.heap.size≤Z)(hZ':Z<w0.heap.size)(hM:M≤N)(hsh:sh ⟨al,ls,acc⟩) :
  Hid (zeU R N sh w (.returned (.agg #[.int .i64 al,.slice A n c,.slice A' n' c'])) (((W.setCell ⟨Z,0,none⟩ (.int .i64 al)).setCell ⟨Z,1,none⟩ (.slice A n c)).setCell ⟨Z,2,none⟩ (.slice A' n' c'))) ∧
  Blk (((W.setCell ⟨Z,0,none⟩ (.int .i64 al)).setCell ⟨Z,1,none⟩ (.slice A n c)).setCell ⟨Z,2,none⟩ (.slice A' n' c')) Z t #[.int .i64 al,.slice A n c,.slice A' n' c']:=by
 have hb:=bz.dr h.dr (by omega)
 have hf:=zaj W Z (.int .i64 al) (.slice A n c) (.slice A' n' c')
 have hn:n=ls.length:=by
  rcases h.nx.2 with ⟨h1,h2⟩|⟨_,_,_,h1,_⟩
  ·simp at h1;omega
  ·simp at h1;exact h1.2.1
 have hn':n'=acc.length:=by
  rcases h.acc.2 with ⟨h1,h2⟩|⟨_,_,_,h1,_⟩
  ·simp at h1;omega
  ·simp at h1;exact h1.2.1
 refine⟨za ⟨⟨al,ls,acc⟩,A,n,c,A',n',c',rfl,⟨⟨rows,?_,?_⟩,hn,?_,hn'⟩,za hsh,?_,?_⟩,zL hb hc _ _ _⟩
 ·exact zl (zaN h.nx hf (fun b h1 e=>by omega)) hx.size
 ·exact (h.rows.keep hf (fun b h1 e=>by omega)).less hx.size
 ·have ho:=zl (zaN h.acc hf (fun b h1 e=>by omega)) hx.size
  rw [← hn'] at ho;exact ho
 ·exact (h.rd.more hM).frm hf (fun k hk e=>by omega)
 ·exact (((hx.dr.trans h.dr).setNew (p:=⟨Z,0,none⟩) hZ _).setNew (p:=⟨Z,1,none⟩) hZ _).setNew (p:=⟨Z,2,none⟩) hZ _
end
theorem zfe {p:Nat} {es:List Edg} {e:Edg}(h:Few p es)(he:(0≤e.fr∧e.fr<p)∧(0≤e.le∧e.le<6)∧(0≤e.ta∧e.ta<p)):Few p (es++[e]):=fun x hx=>by
 rcases List.mem_append.1 hx with h1|h1
 ·exact h x h1
 ·rw [List.mem_singleton.1 h1];exact he
theorem few_nil (p:Nat):Few p []:=fun x hx=>by cases hx
theorem zcD {R M a p:Nat} {few:Int} {w:World}(h:Rd w R M)(hM:M≤900000000)(ha:a<64)(hp1:1≤p)(hp:p≤16) :
  Calls Tryz.prog 159 #[.pointer (some ⟨R,0,none⟩),.int .i64 a,.int .i64 p,.int .i64 few] w (RetG R (M+20000) 20000 w):=by
 have hsm:Sm a:=by unfold Sm;omega
 have hRl:=h.lt
 go_enter Tryz.func159,Tryz.ntmps159
 go_wp2_with fail
 refine (zJ a hsm _).mono ?_
 rintro e w1 ⟨B,d,rfl,zhS,hx1⟩
 obtain⟨bz,bG⟩:=zR hx1
 have hw1:=(((Ext.refl w).alloc _).alloc _).trans hx1
 have hl6:=zq a 6
 have hlm:=za (fun k (hk:k∈letters a 6)=>(zaH.1 hk).1)
 have hrd1:=(Reads.of_own zhS).more (lo':=w.heap.size+2) (hi':=w1.heap.size) (by simp) (Nat.le_refl _)
 have zhK:Acc w w1 w1 R (w.heap.size+1) M a p (.slice none 0 0) []:=⟨bG,World.ownsRow_nil _ _ _ _,h.ext hw1,hw1.dr,Frm.refl _ _,hRl,hw1.size,by omega⟩
 have bz1:Blk w1 w.heap.size 39 #[.int .i64 0,.int .i64 0,.slice none 0 0]:=bz
 clear zhS bG hx1 bz
 generalize letters a 6=ls at *
 have hz1:=hw1.size
 go_wp2_with fail
 go_loopw [11] (fun i wr=>∃ k:Nat,k≤p∧i=.int .i64 k∧∃ (v:Value) (es:List Edg),Acc w w1 wr R (w.heap.size+1) (M+k*1000) a p v es∧es.length≤k*1000∧Hid (Few p es)) (fun i _=>p - (intOf i).toNat)
 case atStart=>exact⟨0,Nat.zero_le _,rfl,_,[],zhK.more (Nat.le_add_right _ _),Nat.zero_le _,few_nil p⟩
 case round =>
  clear zhK
  obtain⟨k,hk,rfl,v,es,zhK,hel,hfew⟩:=hrel
  by_cases hlt:k<p
  ·go_wp2_with fail
   go_loopw [12] (fun i wr=>∃ j:Nat,j≤ls.length∧i=.int .i64 j∧∃ (v:Value) (es:List Edg),Acc w w1 wr R (w.heap.size+1) (M+k*1000+j*100) a p v es∧es.length≤k*1000+j*100∧Hid (Few p es)) (fun i _=>ls.length - (intOf i).toNat)
   case atStart=>exact⟨0,Nat.zero_le _,rfl,v,es,zhK.more (Nat.le_add_right _ _),Nat.le_trans hel (Nat.le_add_right _ _),hfew⟩
   case round =>
    clear zhK hel hfew
    obtain⟨j,hj,rfl,v,es,zhK,hel,hfew⟩:=hrel
    by_cases hlj:j<ls.length
    ·go_wp2_with fail
     go_loopw [13] (fun i wr=>∃ x:Nat,x≤p∧i=.int .i64 x∧∃ (v:Value) (es:List Edg),Acc w w1 wr R (w.heap.size+1) (M+k*1000+j*100+x) a p v es∧es.length≤k*1000+j*100+x∧Hid (Few p es)) (fun i _=>p - (intOf i).toNat)
     case atStart=>exact⟨0,Nat.zero_le _,rfl,v,es,zhK.more (Nat.le_add_right _ _),Nat.le_trans hel (Nat.le_add_right _ _),hfew⟩
     case round =>
      clear zhK hel hfew
      obtain⟨x,hx,rfl,v,es,zhK,hel,hfew⟩:=hrel
      by_cases hlx:x<p
      ·go_wp2_with fail
       refine (zv zhK.rd (by omega)).mono ?_
       rintro e w2 ⟨y,rfl,_,_,hr2,hd2⟩
       have hacc2:=zhK.drawn hd2 hr2
       obtain⟨ad,l,rfl,_,hadhi,hl,hlc⟩:=(hacc2.old hrd1 (by omega)).nat hlj
       have hl6':=hlm.out l (List.mem_of_getElem? hl.out)
       by_cases hy:y=0
       ·subst hy
        have cG:∀ W,Ext w2 W→∀ q,W.cell? ⟨w.heap.size+1,q,none⟩=#[Value.int .i64 a,.int .i64 p,v][q]?:=fun W hW=>(hacc2.blk.ext hW).cell
        have cL:∀ W,Ext w2 W→W.cell? (ad.add j)=some (.int .i64 (l:Nat)):=fun W hW=>hW.cell_some hlc
        have hj0:(0:Int)≤(j:Int):=by omega
        have hj1:(j:Int)<(ls.length:Int):=by omega
        go_wp2_with fail
        refine tR (fun X=>Ext w2 X) [10,12] (Ord.of [0,1,2,3,4,5,6,7,8,9,10,11,12]) ?_
        refine tQ ?_
        refine zG fun K hK=>?_;go_simp
        refine hK.out _ _ ((Ext.refl _).drew.alloc _) ?_
        refine pT ?_
        refine zal fun K hK=>?_
        refine zaC w1 w2.drew _ _ _ rfl 103 _ 3 24 Tryz.underlying37 zci rfl (by decide) v es.length (zB es) _ _ rfl rfl hacc2.fr.size hacc2.own rfl (by simp [Value.oneCell']) (by unfold maxLen;omega) (by omega) ?_
        intro g cap w3 zhU hg3 hat3 hlt3
        refine hK.out _ _ ?_
        refine pT ?_
        refine tQ ?_
        obtain⟨h1,h2,h3⟩:=(hacc2.ext ((Ext.refl _).drew)).push (e:=⟨k,l,x⟩) (W':=w3) zhU hg3 hat3
        have h1':=h1.out
        refine zal fun K hK=>?_
        go_simp
        refine hK.out _ _ ?_
        refine zay ?_
        go_wp2_with fail
        go_roundw
        case rel=>exact⟨x+1,by omega,by go_num,_,_,h3.more (by omega),by simp;omega,zfe hfew.out (by simp;omega)⟩
        case measure=>simp [intOf];omega
       ·have hy':((y:Int)==0)=false:=by simp;omega
        go_wp2_with fail
        go_roundw
        case rel=>exact⟨x+1,by omega,by go_num,v,es,hacc2.more (by omega),by omega,hfew⟩
        case measure=>simp [intOf];omega
      ·obtain rfl:p=x:=by omega
       have e1:es.length≤k*1000+(j+1)*100:=by omega
       have e2:M+k*1000+j*100+p≤M+k*1000+(j+1)*100:=by omega
       go_wp2_with fail
       go_roundw
       case rel=>exact⟨j+1,by omega,by go_num,v,es,zhK.more e2,e1,hfew⟩
       case measure=>simp [intOf];omega
    ·obtain rfl:j=ls.length:=by omega
     have e1:es.length≤(k+1)*1000:=by omega
     have e2:M+k*1000+ls.length*100≤M+(k+1)*1000:=by omega
     go_wp2_with fail
     go_roundw
     case rel=>exact⟨k+1,by omega,by go_num,v,es,zhK.more e2,e1,hfew⟩
     case measure=>simp [intOf];omega
  ·obtain rfl:p=k:=by omega
   obtain⟨A,n,c,rfl⟩:=zhK.form
   obtain⟨rfl,_⟩:=zhK.reads
   have hcap:=zhh zhK.own
   have cG:=zhK.blk.cell
   have bz2:=bz1.frm zhK.fr (by omega)
   have cz:=bz2.cell
   have hzz:=bz1.lt
   have fz:=bz2.frozen
   obtain⟨f1,f2,f3⟩:=zhK.fin (Z:=w.heap.size) (Nat.le_refl _) (by omega) (.int .i64 a) (.int .i64 p) (.slice A es.length c)
   have Hfin:=za (show RetG R (M+20000) 20000 w (.returned (.agg #[.int .i64 a,.int .i64 p,.slice A es.length c])) _ from ⟨⟨a,p,es⟩,A,es.length,c,rfl,f1,⟨a,p,rfl,ha,rfl,hp1,hp,hfew.out⟩,by omega,f2.more (by omega),f3⟩)
   clear bz1 hrd1 hlm f1 f2 f3
   go_wp2_with fail
   exact bodyPost_ret (v:=.agg #[.int .i64 a,.int .i64 p,.slice A es.length c]) (by simp [results,Tryz.results159,go_sem,cz]) rfl Hfin.out
def shA (al p k:Nat) (a:Aut):Prop:=a.al=al∧a.next.length=p∧a.acc.length=p∧∀ l∈a.next,l.length=k
theorem zep {R M a p:Nat} {w:World}(h:Rd w R M)(hM:M≤900000000)(ha:a<64)(hp:p≤16) :
  Calls Tryz.prog 129 #[.pointer (some ⟨R,0,none⟩),.int .i64 a,.int .i64 p] w (zeU R (M+400) (shA a p (letters a 6).length) w):=by
 have hsm:Sm a:=by unfold Sm;omega
 have hRl:=h.lt
 go_enter Tryz.func129,Tryz.ntmps129
 have hxz:=(Ext.refl w).alloc (.cells #[.int .i64 0,.slice none 0 0,.slice none 0 0] 26)
 have bz:=Blk.new w 26 #[.int .i64 0,.slice none 0 0,.slice none 0 0]
 have hxG:=(Ext.refl (w.alloc (.cells #[.int .i64 0,.slice none 0 0,.slice none 0 0] 26))).alloc (.cells #[.int .i64 a,.slice none 0 0,.slice none 0 0] 26)
 have bG:=Blk.new (w.alloc (.cells #[.int .i64 0,.slice none 0 0,.slice none 0 0] 26)) 26 #[.int .i64 a,.slice none 0 0,.slice none 0 0]
 have hz1:=bz.lt
 have hsz:(w.alloc (.cells #[.int .i64 0,.slice none 0 0,.slice none 0 0] 26)).heap.size=w.heap.size+1:=by simp
 rw [hsz] at bG
 go_upto_region 2 with fail
 generalize (w.alloc (.cells #[.int .i64 0,.slice none 0 0,.slice none 0 0] 26)).alloc (.cells #[.int .i64 a,.slice none 0 0,.slice none 0 0] 26)=w2 at *
 generalize w.alloc (.cells #[.int .i64 0,.slice none 0 0,.slice none 0 0] 26)=w1 at *
 go_wp2_with fail
 refine (zJ a hsm _).mono ?_
 rintro e w3 ⟨B,d,rfl,-,hx3⟩
 have zhK:zaW w1 w3 R (w.heap.size+1) M a (.slice none 0 0) [] [] (.slice none 0 0) []:=⟨bG.ext hx3,World.ownsRow_nil _ _ _ _,zy.nil _ _,World.ownsRow_nil _ _ _ _,h.ext ((hxz.trans hxG).trans hx3),(hxG.trans hx3).dr,by omega,by omega⟩
 have hl6:=zq a 6
 clear bG hx3 hxG
 generalize (letters a 6).length=k at *
 go_wp2_with fail
 go_loopw [9] (fun iv wr=>∃ (i:Nat) (v:Value) (rows:List Value) (ls:List (List Int)) (vA:Value) (acc:List Bool),i≤p∧iv=.int .i64 (i:Nat)∧zaW w1 wr R (w.heap.size+1) (M+i*20) a v rows ls vA acc∧ls.length=i∧acc.length=i∧Hid (∀ l∈ls,l.length=k)) (fun iv _=>p - (intOf iv).toNat)
 case atStart=>exact⟨0,_,[],[],_,[],Nat.zero_le _,rfl,zhK,rfl,rfl,za (fun l hl=>by simp at hl)⟩
 case round =>
  clear zhK
  obtain⟨i,v,rows,ls,vA,acc,hi,rfl,zhK,hll,hla,hlk⟩:=hrel
  by_cases hip:i<p
  ·have hlow:=za zhK.low
   have hK:=za (show w1.heap.size≤wr.heap.size from zhK.dr.size)
   have h0:=World.ownsRow_made (base:=wr.heap.size) (e:=3) (size:=1) wr #[] 0 (Nat.le_refl _) (Nat.zero_le _) rfl
   have hx0:=(Ext.refl wr).alloc (.cells #[] 3)
   have hacc0:=zhK.ext hx0
   go_upto_region 7 with fail
   clear zhK
   obtain⟨wK,hwK⟩:∃ wK,wK=wr:=⟨_,rfl⟩
   rw [← hwK] at h0 hlow hK hacc0 hx0 ⊢
   clear hwK
   generalize wK.alloc (.cells #[] 3)=w4 at *
   go_wp2_with fail
   go_loopw [10,11] (fun rv jv wr=>∃ (j:Nat) (l:List Int),j≤k∧jv=.int .i64 (j:Nat)∧zaW w1 wr R (w.heap.size+1) (M+i*20+j) a v rows ls vA acc∧l.length=j∧wr.ownsRow wK.heap.size 3 1 rv j (ints l)∧Hid (wK.heap.size≤wr.heap.size)) (fun _ jv _=>k - (intOf jv).toNat)
   case atStart=>exact⟨0,[],Nat.zero_le _,rfl,hacc0,rfl,h0,za hx0.size⟩
   case round =>
    clear hacc0 h0
    obtain⟨j,l,hj,rfl,zhK,hlj,hrow,hsK⟩:=hrel
    by_cases hjk:j<k
    ·obtain⟨AR,cR,rfl⟩:=zf hrow
     go_wp2_with fail
     refine (zv zhK.rd (by omega)).mono ?_
     rintro e w5 ⟨y,rfl,-,-,hr5,hd5⟩
     have hacc5:=zhK.drawn hd5 hr5
     have hrow5:=zaN hrow hd5 (fun b h1 e=>by have:=zhK.dr.size;have:=zhK.hR;have:=hK.out;omega)
     have hs5:wK.heap.size≤w5.heap.size:=Nat.le_trans hsK.out hd5.size
     have hl':=za hlj
     clear hlj zhK hrow
     go_wp2_with (at_builtin;refine zab wK w5 rfl _ _ _ rfl 3 _ 1 8 Tryz.underlying74 zac rfl (by decide) (.slice AR j cR) j (ints l) _ _ rfl rfl hs5 hrow5 rfl (by simp [Value.oneCell']) (by unfold maxLen;omega) (by omega) ?_;intro g5 cap5 w6 hown6 hg6 hat6 hlt6)
     go_roundw
     case rel=>exact⟨j+1,l++[(y:Int)],by omega,by go_num,(hacc5.side hlow.out hK.out hrow5 hg6).more (by omega),by simp [hl'.out],by simpa [ints] using hown6,za (Nat.le_trans hs5 hg6.size)⟩
     case measure=>simp [intOf];omega
    ·obtain rfl:j=k:=by omega
     obtain⟨AR,cR,rfl⟩:=zf hrow
     have cG:=zhK.blk.cell
     have hs1:=zhK.dr.size
     have hrow':wr.ownsRow wK.heap.size 3 1 (.slice AR j cR) l.length (ints l):=by rw [hlj];exact hrow
     go_upto_region 12 with (at_builtin;refine zab w1 wr rfl _ _ _ rfl 74 _ 1 24 Tryz.underlying23 zbj rfl (by decide) v ls.length rows _ _ rfl rfl hs1 zhK.nx rfl (zat _ _ _) (by unfold maxLen;omega) (by omega) ?_;intro g5 cap5 w6 hown6 hg6 hat6 hlt6;obtain⟨q1,q2,q3⟩:=zhK.pushRow hlow.out hK.out hrow' hown6 hg6 hat6;have q1':=q1.out)
     rw [hll] at q3
     clear q1 q1' q2 hown6 hg6 hat6 hlt6 hrow hrow' cG zhK
     have hlk7:=za (show ∀ l'∈ls++[l],l'.length=j from fun l' hl'=>by
      rcases List.mem_append.1 hl' with h1|h1
      ·exact hlk.out l' h1
      ·rw [List.mem_singleton.1 h1];exact hlj)
     have hll7:(ls++[l]).length=i+1:=by simp [hll]
     clear hlj hll
     generalize ls++[l]=ls7 at *
     generalize rows++[.slice AR j cR]=rows7 at *
     generalize w6.setCell ⟨w.heap.size+1,1,none⟩ (.slice (some ⟨g5,0,none⟩) (i+1) cap5)=w7 at *
     generalize Value.slice (some ⟨g5,0,none⟩) (i+1) cap5=v7 at *
     have cG:∀ W,Dr R w7 W→∀ q,W.cell? ⟨w.heap.size+1,q,none⟩=#[Value.int .i64 a,v7,vA][q]?:=fun W hW=>(q3.blk.dr hW (by omega)).cell
     refine tR (fun X=>Dr R w7 X) [6,8] (Ord.of [0,1,2,3,4,5,6,7,8]) ?_
     refine tQ ?_
     refine zG fun K hK=>?_;go_simp
     refine (zv (n:=3) (q3.rd.ext ((Ext.refl _).drew)) (by omega)).mono ?_
     rintro e w8 ⟨z,rfl,-,-,hr8,hd8⟩
     have hd78:Dr R w7 w8:=((Dr.refl R w7).drew).trans hd8
     have hacc8:=q3.drawn hd78 hr8
     refine hK.out _ _ hd78 ?_
     refine pT ?_
     refine tQ ?_
     refine zG fun K hK=>?_;go_simp
     refine hK.out _ _ (hd78.alloc _) ?_
     refine pT ?_
     refine zal fun K hK=>?_
     trace_state
     refine zaC w1 w8 _ _ _ rfl 4 _ 1 1 Tryz.underlying24 zaG rfl (by decide) vA acc.length (zas acc) _ _ rfl rfl hacc8.dr.size hacc8.acc rfl (by simp [Value.oneCell']) (by unfold maxLen;omega) (by omega) ?_
     intro g9 cap9 w9 hown9 hg9 hat9 hlt9
     refine hK.out _ _ ?_
     refine pT ?_
     refine tQ ?_
     obtain⟨p1,p2,p3⟩:=hacc8.pushAcc (x:=decide (0<z)) (W':=w9) hown9 hg9 hat9
     have p1':=p1.out
     rw [hla] at p3
     refine zal fun K hK=>?_
     go_simp
     refine hK.out _ _ ?_
     refine zay ?_
     go_wp2_with fail
     go_roundw
     case rel=>exact⟨i+1,_,_,_,_,_,by omega,by go_num,p3.more (by omega),hll7,by simp [hla],hlk7⟩
     case measure=>simp [intOf];omega
  ·obtain rfl:i=p:=by omega
   obtain⟨A5,c5,rfl⟩:=zf zhK.nx
   obtain⟨B5,d5,rfl⟩:=zf zhK.acc
   obtain⟨f1,f2⟩:=zhK.fin (N:=M+400) (sh:=shA a i k) hxz bz rfl hRl (Nat.le_refl _) hz1 (by omega) ⟨rfl,hll,hla,hlk.out⟩
   rw [hll,hla] at f1 f2
   have cG:=zhK.blk.cell
   have bz5:=bz.dr zhK.dr (by omega)
   have cZ:=bz5.cell
   have fZ:=bz5.frozen
   go_wp2_with fail
   have cf:=f2.cell
   exact bodyPost_ret (v:=.agg #[.int .i64 a,.slice A5 i c5,.slice B5 i d5]) (by simp [results,Tryz.results129,go_sem,cf]) rfl f1.out
theorem zP {w:World} {base:Nat} {e:TypeId} {size n c:Nat} {A:Option Addr} {xs:List Value}(h:w.ownsRow base e size (.slice A n c) n xs)(hn:0<n):∃ g,A=some ⟨g,0,none⟩∧base≤g∧g<w.heap.size:=by
 rcases h.2 with ⟨_,h0⟩|⟨g,cap,cur,hv,hg,hh,_⟩
 ·omega
 ·injection hv with h1 h2 h3
  exact⟨g,h1,hg,(Array.getElem?_eq_some_iff.1 hh).1⟩
def blk (A:Option Addr) (b:Nat):Prop:=∃ a,A=some a∧a.block=b
theorem tot_cons (l:List Int) (r:List (List Int)):tot (l :: r)=l.length+tot r:=by simp [tot]
theorem zy.set_ {w w':World} {base j:Nat} {rows:List Value} {ls:List (List Int)} {A:Option Addr} {c:Nat} {l:List Int}(h:zy w base rows ls)(hr:rows[j]?=some (.slice A l.length c))
  (hf:Frm (blk A) w w') (zhJ:w'.ownsRow base 3 1 (.slice A l.length c) l.length (ints l)):zy w' base rows (ls.set j l):=by
 have hj:j<rows.length:=(List.getElem?_eq_some_iff.1 hr).1
 refine⟨by simp [h.1],fun i row m hi hm=>?_,h.2.2⟩
 by_cases hij:i=j
 ·subst hij
  rw [hr] at hi
  obtain rfl:=Option.some.inj hi
  rw [List.getElem?_set_self (by rw [← h.1];exact hj)] at hm
  obtain rfl:=Option.some.inj hm
  exact zhJ
 ·rw [List.getElem?_set_ne (fun e=>hij e.symm)] at hm
  refine zd (h.2.1 i row m hi hm) hf (fun b hb hS=>?_)
  obtain⟨ad,rfl,rfl⟩:=hS
  exact h.2.2 i j row _ ad.block hi hr hij hb rfl
end Go.Proofs.YtfcjhpodichpjaaGreatDoor
