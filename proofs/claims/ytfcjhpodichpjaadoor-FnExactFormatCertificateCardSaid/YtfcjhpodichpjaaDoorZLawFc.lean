/- The law FnEx -/
import Derived.Test.YtfcjhpodichpjaaDoorU01
import Derived.Test.YtfcjhpodichpjaaDoorU02
set_option maxHeartbeats 400000
namespace Go.Proofs.YtfcjhpodichpjaaDoor
open Go Go.RowKit
theorem certEq_self' (hd:Bool) (a:Aut) (s:ByteArray):certEq hd a s hd a s=true:=by simp [certEq,autEq_self]
theorem law_FormatCertificate {lo hi:Nat} {A:Option Addr} {n c:Nat} {A':Option Addr} {n' c':Nat} {hd:Bool} {a:Aut} {s:ByteArray} {w:World}(h:zn w lo hi A n A' n' a)(hs:s.size≤9223372036854775807) :
  Calls Tryd.prog 3 #[.agg #[.bool hd,.int .i64 a.al,.slice A n c,.slice A' n' c',.string s]] w fun e w'=>e=.returned (.bool true)∧Ext w w':=by
 have hR:=fun W (hW:Ext w W)=>h.ext hW
 have HR:=zb hR
 clear hR
 by_cases hneg:leftOf 1048576 (a.size+s.size)<0
 ·go_enter Tryd.func3,Tryd.ntmps3
  go_wp2_with fail
  refine (szCertificate_any _ _ _ _ _ _ _ _ _ _ _ _ _ (HR.out _ ?_) hs (by omega) (by omega)).mono ?_
  ·exact (Ext.refl _).alloc _
  rintro e w1 ⟨rfl,hx1⟩
  go_wp2_with fail
  go_ret
  exact⟨rfl,((Ext.refl _).alloc _).trans hx1⟩
 ·have hsz:a.size≤1048576:=by unfold leftOf at hneg;split at hneg<;>omega
  have hsx:s.size≤1048576:=by unfold leftOf at hneg;split at hneg<;>omega
  have hce:=zb (certEq_self' hd a s)
  go_enter Tryd.func3,Tryd.ntmps3
  go_wp2_with fail
  refine (szCertificate_any _ _ _ _ _ _ _ _ _ _ _ _ _ (HR.out _ ?_) hs (by omega) (by omega)).mono ?_
  ·exact (Ext.refl _).alloc _
  rintro e w1 ⟨rfl,hx1⟩
  have hw1:=((Ext.refl w).alloc _).trans hx1
  have hbx:∀ W,Ext w1 W→∀ j,W.cell? ⟨w.heap.size,j,none⟩=#[Value.bool hd,.int .i64 a.al,.slice A n c,.slice A' n' c',.string s][j]?:=fun W hW=>zH (hx1.trans hW)
  have hr1:=Ext.refl w1
  go_wp2_with fail
  refine (toCertificate_any _ _ _ _ _ _ _ _ _ _ _ _ (HR.out _ hw1) hsz).mono ?_
  rintro e w2 ⟨B,m,d,B',m',d',rfl,zaJ,hx2⟩
  go_wp2_with fail
  refine (zaD zaJ.reads (Nat.le_trans hsx (by omega))).mono ?_
  rintro e w3 ⟨t3,rfl,ht3,hx3⟩
  have hr3:=(hr1.trans hx2).trans hx3
  go_wp2_with fail
  refine (toCertificate_any _ _ _ _ _ _ _ _ _ _ _ _ (HR.out _ (hw1.trans hr3)) hsz).mono ?_
  rintro e w4 ⟨C,p,q,C',p',q',rfl,hown4,hx4⟩
  go_wp2_with fail
  refine (zax (hown4.reads.ext ((Ext.refl _).alloc _)) (Nat.le_trans hsx (by omega))).mono ?_
  rintro e w5 ⟨t5,rfl,ht5,hx5⟩
  obtain rfl:t5=t3:=tx_eq (ht5.out.trans ht3.out.symm)
  have hr5:=hr3.trans (hx4.trans (((Ext.refl _).alloc _).trans hx5))
  have hby:∀ W,Ext w5 W→∀ j,W.cell? ⟨w4.heap.size,j,none⟩=#[Value.bool hd,.int .i64 a.al,.slice C p q,.slice C' p' q',.string s][j]?:=fun W hW=>zH (hx5.trans hW)
  have hbx':∀ W,Ext w5 W→∀ j,W.cell? ⟨w.heap.size,j,none⟩=#[Value.bool hd,.int .i64 a.al,.slice A n c,.slice A' n' c',.string s][j]?:=fun W hW=>hbx W (hr5.trans hW)
  have hre4:=fun W (hW:Ext w5 W)=>hown4.reads.ext ((((Ext.refl _).alloc _).trans hx5).trans hW)
  have Hre4:=zb hre4
  have hR5:=fun W (hW:Ext w5 W)=>HR.out W ((hw1.trans hr5).trans hW)
  have HR5:=zb hR5
  clear hbx hre4 hR5
  have hr:=Ext.refl w5
  go_wp2_with fail
  go_region_held3 (fun W=>Ext w5 W) (first|assumption|(refine Ext.drew ?_;assumption)|(refine Ext.trans ?_ (by assumption);assumption)|(refine Ext.trans ?_ (by assumption);refine Ext.drew ?_;assumption)) (first|(go_at_call 7;refine (toCertificate_any _ _ _ _ _ _ _ _ _ _ _ _ (HR5.out _ ?_) hsz).mono ?_;(first|assumption|(refine Ext.drew ?_;assumption));rintro e w6 ⟨D,x,y,D',x',y',rfl,hown6,hx6⟩)|(go_at_call 9;refine (eqCertificate_any _ _ _ _ _ _ _ _ _ _ _ _ _ _ _ _ _ _ _ _ _ _ _ (Hre4.out _ (by assumption)) hown6.reads).mono ?_;rw [hce.out];rintro e w7 ⟨rfl,hx7⟩))
  go_wp2_with fail
  go_ret
  exact⟨rfl,(hw1.trans hr5).trans (by assumption)⟩
end Go.Proofs.YtfcjhpodichpjaaDoor
