/- Validity of systems. | Validity of systems, the reference's own. | Bisimilar, Simulates and SimilarStates of the program and of the reference, walked: both compute the greatest relation. | The laws' own marks: numbers written into what was returned, and asked for later; walked. | BisimClasses of the program and of the reference, walked. | Plain: the greatest relation of a system to itself is an order, with both an equivalence; classes are its classes. No program in sight. | Plain: a valid system's edges rise; a system without its unreachable states is bisimilar to it. No program in sight. | -/
import Derived.Test.YtndhahednhnnbaaGreatDoorH01
import Derived.BigQuiet
import Derived.Deep.RegionHeld3
import Derived.Deep.DeepCutAuto
import Derived.Deep.CutBlock
namespace Go.Proofs.YtndhahednhnnbaaGreatDoor
open Go Go.RowKit
set_option maxHeartbeats 4000000
theorem zX {al st:Int} {A:Option Addr} {n c:Nat} {q:Int} {w:World} :
  Calls Tryz.prog 103 #[.agg #[.int .i64 al,.int .i64 st,.slice A n c],.int .i64 q] w fun e w'=>e=.returned (.bool (decide (0≤q)&&decide (q<st)))∧Ext w w':=by
 by_cases h0:0≤q
 all_goals
  go_enter Tryz.func103,Tryz.ntmps103
  go_wp2
  go_ret
  exact⟨zk (by simp;try omega),(Ext.refl _).alloc _⟩
def edgB (al:Nat) (st:Int) (e:Edg):Bool:=(decide (0≤e.fr)&&decide (e.fr<st))&&((decide (0≤e.ta)&&decide (e.ta<st))&&(decide (e.le<6)&&hasB al e.le))
def zaM (al:Nat) (st:Int) (l:List Edg) (k:Nat):Bool:=
 match l[k]? with
 |some e=>edgB al st e&&(decide (k=0) || match l[k - 1]? with
  |some p=>ltE p e
  |none=>false)
 |none=>false
def zj (s:Sys):Bool:=
 decide (0≤s.al∧s.al≤63)&&(decide (1≤s.st∧s.st≤16)&&(List.range s.edges.length).all (zaM s.al.toNat s.st s.edges))
theorem zaL {lo hi:Nat} {A:Option Addr} {n c:Nat} {s:Sys} {w:World}(h:zQ w lo hi A n s) :
  Calls Tryz.prog 52 #[.agg #[.int .i64 s.al,.int .i64 s.st,.slice A n c]] w fun e w'=>e=.returned (.bool (zj s))∧Ext w w':=by
 have Hv:=hide (show zj s=(decide (0≤s.al∧s.al≤63)&&(decide (1≤s.st∧s.st≤16)&&(List.range n).all (zaM s.al.toNat s.st s.edges))) by unfold zj;rw [← h.1])
 have hn:=h.2.len
 by_cases hal:0≤s.al∧s.al≤63
 ·by_cases hst:1≤s.st∧s.st≤16
  ·obtain⟨al,hal'⟩:∃ al:Nat,Hid (s.al=al):=⟨s.al.toNat,by unfold Hid;omega⟩
   have hsm:Sm al:=by have:=hal'.out;unfold Sm;omega
   have hd:=hide (show decide (0≤(al:Int)∧(al:Int)≤63)=true by have:=hal'.out;simp;omega)
   rw [hal'.out]
   rw [hal'.out,Int.toNat_natCast] at Hv
   clear hal
   have hd1:decide (s.st<1)=false:=by simp;omega
   have hd2:decide (16<s.st)=false:=by simp;omega
   obtain⟨st,hst',hs1,hs2⟩:∃ st:Int,Hid (s.st=st)∧1≤st∧st≤16:=⟨s.st,hide rfl,hst.1,hst.2⟩
   rw [hst'.out] at hd1 hd2 Hv ⊢
   clear hst
   have hR:=fun W (hW:Ext w W)=>h.2.ext hW
   have HR:=hide hR
   clear hR
   go_enter Tryz.func52,Tryz.ntmps52
   go_wp2_with (go_at_call 49;refine (zaq _ _).mono ?_;rw [hd.out];rintro e w' ⟨rfl,rfl⟩)
   go_loopw [22] (fun i wr=>∃ k:Nat,k≤n∧i=.int .i64 k∧Hid (((List.range n).take k).all (zaM al st s.edges)=true)∧Ext (w.alloc (.cells #[Value.int .i64 al,.int .i64 st,Value.slice A n c] 39)) wr)
    (fun i _=>n - (intOf i).toNat)
   case atStart=>exact⟨0,Nat.zero_le _,rfl,rfl,Ext.refl _⟩
   case round =>
    obtain⟨k,hk,rfl,hall,hext⟩:=hrel
    by_cases hlt:k<n
    ·obtain⟨b,o,e,rfl,hlo,hhi,he,c0,c1,c2⟩:=(HR.out wr (((Ext.refl _).alloc _).trans hext)).edge hlt
     have hbx:=zbA hext
     go_wp2_with fail
     obtain⟨W,hW⟩:∃ W:World,W=wr.alloc (.cells #[Value.int .i64 e.fr,.int .i64 e.le,.int .i64 e.ta] 126):=⟨_,rfl⟩
     have hx:Ext wr W:=by rw [hW];exact (Ext.refl _).alloc _
     have h1:=zbu (show Ext (wr.alloc (.cells #[Value.int .i64 e.fr,.int .i64 e.le,.int .i64 e.ta] 126)) W by rw [hW];exact Ext.refl _)
     have e0:∀ X,Ext W X→∀ j,X.cell? ⟨w.heap.size,j,none⟩=#[Value.int .i64 al,.int .i64 st,Value.slice (some ⟨b,o,none⟩) n c][j]?:=fun X hX=>zbA ((hext.trans hx).trans hX)
     have e1:∀ X,Ext W X→∀ j,X.cell? ⟨wr.heap.size,j,none⟩=#[Value.int .i64 e.fr,.int .i64 e.le,.int .i64 e.ta][j]?:=fun X hX=>(h1.ext hX).cell
     rw [← hW]
     have hr:=Ext.refl W
     clear hW h1 hbx c0 c1 c2
     have hfin:∀ X,Ext W X→Ext w X:=fun X hX=>((((Ext.refl _).alloc _).trans hext).trans hx).trans hX
     have Hfin:=hide hfin
     clear hfin
     have hge:(List.range n)[k]?=some k:=by rw [List.getElem?_range hlt]
     have Hge:=hide hge
     clear hge
     cases hA:(decide (0≤e.fr)&&decide (e.fr<st))
     ·have HA:=hide hA
      clear hA
      have hA:=HA;clear HA
      refine zU (fun X=>Ext W X) [0,1,2,3,4,5,6,7,8,9,10,11,12,13,14,15,16,17,18,19,20,21,22,23,24,25,26,27,28,29,30,31,32,33,34,35,36,37,38,39] (by kernel_rfl) rfl (by kernel_rfl) (by kernel_rfl) (fun _ _ _ _ _ h=>h) ((Ext.refl _).drew) (fun hS=>?_)
      repeat (first|(refine zG rfl rfl (by assumption) ?_;simp only [Act.put,List.setIfInBounds_toArray,List.set_cons_zero,List.set_cons_succ])|(refine zC (v:=?_) rfl rfl rfl (fun X hX=>?_) (by assumption) ?_;rotate_left;(focus (go_simp<;>with_reducible rfl));simp only [Act.put,List.setIfInBounds_toArray,List.set_cons_zero,List.set_cons_succ]))
      refine zT rfl rfl rfl (fun K hK=>?_)
      go_simp
      refine (zX).mono ?_
      rw [hA.out];rintro r w2 ⟨rfl,hx2⟩
      refine hK.out _ _ (Ext.trans (by assumption) hx2) (fun hS=>?_)
      try simp only [Act.put,List.setIfInBounds_toArray,List.set_cons_zero,List.set_cons_succ]
      repeat (first|(refine zG rfl rfl (by assumption) ?_;simp only [Act.put,List.setIfInBounds_toArray,List.set_cons_zero,List.set_cons_succ])|(refine zC (v:=?_) rfl rfl rfl (fun X hX=>?_) (by assumption) ?_;rotate_left;(focus (go_simp<;>with_reducible rfl));simp only [Act.put,List.setIfInBounds_toArray,List.set_cons_zero,List.set_cons_succ]))
      refine zbK ?_
      go_wp2_with fail
      go_ret
      exact⟨zk (by rw [Hv.out,zaw Hge.out (by rw [zaM,he.out];dsimp only;rw [edgB,hA.out];simp)];simp),Hfin.out _ (by assumption)⟩
     ·have HA:=hide hA
      clear hA
      have hA:=HA;clear HA
      cases hB:(decide (0≤e.ta)&&decide (e.ta<st))
      ·have HB:=hide hB
       clear hB
       have hB:=HB;clear HB
       refine zU (fun X=>Ext W X) [0,1,2,3,4,5,6,7,8,9,10,11,12,13,14,15,16,17,18,19,20,21,22,23,24,25,26,27,28,29,30,31,32,33,34,35,36,37,38,39] (by kernel_rfl) rfl (by kernel_rfl) (by kernel_rfl) (fun _ _ _ _ _ h=>h) ((Ext.refl _).drew) (fun hS=>?_)
       repeat (first|(refine zG rfl rfl (by assumption) ?_;simp only [Act.put,List.setIfInBounds_toArray,List.set_cons_zero,List.set_cons_succ])|(refine zC (v:=?_) rfl rfl rfl (fun X hX=>?_) (by assumption) ?_;rotate_left;(focus (go_simp<;>with_reducible rfl));simp only [Act.put,List.setIfInBounds_toArray,List.set_cons_zero,List.set_cons_succ]))
       refine zT rfl rfl rfl (fun K hK=>?_)
       go_simp
       refine (zX).mono ?_
       rw [hA.out];rintro r w2 ⟨rfl,hx2⟩
       refine hK.out _ _ (Ext.trans (by assumption) hx2) (fun hS=>?_)
       try simp only [Act.put,List.setIfInBounds_toArray,List.set_cons_zero,List.set_cons_succ]
       repeat (first|(refine zG rfl rfl (by assumption) ?_;simp only [Act.put,List.setIfInBounds_toArray,List.set_cons_zero,List.set_cons_succ])|(refine zC (v:=?_) rfl rfl rfl (fun X hX=>?_) (by assumption) ?_;rotate_left;(focus (go_simp<;>with_reducible rfl));simp only [Act.put,List.setIfInBounds_toArray,List.set_cons_zero,List.set_cons_succ]))
       refine zT rfl rfl rfl (fun K hK=>?_)
       go_simp
       refine (zX).mono ?_
       rw [hB.out];rintro r w3 ⟨rfl,hx3⟩
       refine hK.out _ _ (Ext.trans (by assumption) hx3) (fun hS=>?_)
       try simp only [Act.put,List.setIfInBounds_toArray,List.set_cons_zero,List.set_cons_succ]
       repeat (first|(refine zG rfl rfl (by assumption) ?_;simp only [Act.put,List.setIfInBounds_toArray,List.set_cons_zero,List.set_cons_succ])|(refine zC (v:=?_) rfl rfl rfl (fun X hX=>?_) (by assumption) ?_;rotate_left;(focus (go_simp<;>with_reducible rfl));simp only [Act.put,List.setIfInBounds_toArray,List.set_cons_zero,List.set_cons_succ]))
       refine zbK ?_
       go_wp2_with fail
       go_ret
       exact⟨zk (by rw [Hv.out,zaw Hge.out (by rw [zaM,he.out];dsimp only;rw [edgB,hA.out,hB.out];simp)];simp),Hfin.out _ (by assumption)⟩
      ·have HB:=hide hB
       clear hB
       have hB:=HB;clear HB
       by_cases hle:6≤e.le
       ·have hL:decide (6≤e.le)=true:=by simp;omega
        refine zU (fun X=>Ext W X) [0,1,2,3,4,5,6,7,8,9,10,11,12,13,14,15,16,17,18,19,20,21,22,23,24,25,26,27,28,29,30,31,32,33,34,35,36,37,38,39] (by kernel_rfl) rfl (by kernel_rfl) (by kernel_rfl) (fun _ _ _ _ _ h=>h) ((Ext.refl _).drew) (fun hS=>?_)
        repeat (first|(refine zG rfl rfl (by assumption) ?_;simp only [Act.put,List.setIfInBounds_toArray,List.set_cons_zero,List.set_cons_succ])|(refine zC (v:=?_) rfl rfl rfl (fun X hX=>?_) (by assumption) ?_;rotate_left;(focus (go_simp<;>with_reducible rfl));simp only [Act.put,List.setIfInBounds_toArray,List.set_cons_zero,List.set_cons_succ]))
        refine zT rfl rfl rfl (fun K hK=>?_)
        go_simp
        refine (zX).mono ?_
        rw [hA.out];rintro r w2 ⟨rfl,hx2⟩
        refine hK.out _ _ (Ext.trans (by assumption) hx2) (fun hS=>?_)
        try simp only [Act.put,List.setIfInBounds_toArray,List.set_cons_zero,List.set_cons_succ]
        repeat (first|(refine zG rfl rfl (by assumption) ?_;simp only [Act.put,List.setIfInBounds_toArray,List.set_cons_zero,List.set_cons_succ])|(refine zC (v:=?_) rfl rfl rfl (fun X hX=>?_) (by assumption) ?_;rotate_left;(focus (go_simp<;>with_reducible rfl));simp only [Act.put,List.setIfInBounds_toArray,List.set_cons_zero,List.set_cons_succ]))
        refine zT rfl rfl rfl (fun K hK=>?_)
        go_simp
        refine (zX).mono ?_
        rw [hB.out];rintro r w3 ⟨rfl,hx3⟩
        refine hK.out _ _ (Ext.trans (by assumption) hx3) (fun hS=>?_)
        try simp only [Act.put,List.setIfInBounds_toArray,List.set_cons_zero,List.set_cons_succ]
        repeat (first|(refine zG rfl rfl (by assumption) ?_;simp only [Act.put,List.setIfInBounds_toArray,List.set_cons_zero,List.set_cons_succ])|(refine zC (v:=?_) rfl rfl rfl (fun X hX=>?_) (by assumption) ?_;rotate_left;(focus (go_simp<;>with_reducible rfl));simp only [Act.put,List.setIfInBounds_toArray,List.set_cons_zero,List.set_cons_succ]))
        refine zbK ?_
        go_wp2_with fail
        go_ret
        exact⟨zk (by rw [Hv.out,zaw Hge.out (by rw [zaM,he.out];dsimp only;rw [edgB,hA.out,hB.out];simp;omega)];simp),Hfin.out _ (by assumption)⟩
       ·have hL:decide (6≤e.le)=false:=by simp;omega
        have hlt6:=hide (show decide (e.le<6)=true by simp;omega)
        cases hC:hasB al e.le
        ·have HC:=hide hC
         clear hC
         have hC:=HC;clear HC
         refine zU (fun X=>Ext W X) [0,1,2,3,4,5,6,7,8,9,10,11,12,13,14,15,16,17,18,19,20,21,22,23,24,25,26,27,28,29,30,31,32,33,34,35,36,37,38,39] (by kernel_rfl) rfl (by kernel_rfl) (by kernel_rfl) (fun _ _ _ _ _ h=>h) ((Ext.refl _).drew) (fun hS=>?_)
         repeat (first|(refine zG rfl rfl (by assumption) ?_;simp only [Act.put,List.setIfInBounds_toArray,List.set_cons_zero,List.set_cons_succ])|(refine zC (v:=?_) rfl rfl rfl (fun X hX=>?_) (by assumption) ?_;rotate_left;(focus (go_simp<;>with_reducible rfl));simp only [Act.put,List.setIfInBounds_toArray,List.set_cons_zero,List.set_cons_succ]))
         refine zT rfl rfl rfl (fun K hK=>?_)
         go_simp
         refine (zX).mono ?_
         rw [hA.out];rintro r w2 ⟨rfl,hx2⟩
         refine hK.out _ _ (Ext.trans (by assumption) hx2) (fun hS=>?_)
         try simp only [Act.put,List.setIfInBounds_toArray,List.set_cons_zero,List.set_cons_succ]
         repeat (first|(refine zG rfl rfl (by assumption) ?_;simp only [Act.put,List.setIfInBounds_toArray,List.set_cons_zero,List.set_cons_succ])|(refine zC (v:=?_) rfl rfl rfl (fun X hX=>?_) (by assumption) ?_;rotate_left;(focus (go_simp<;>with_reducible rfl));simp only [Act.put,List.setIfInBounds_toArray,List.set_cons_zero,List.set_cons_succ]))
         refine zT rfl rfl rfl (fun K hK=>?_)
         go_simp
         refine (zX).mono ?_
         rw [hB.out];rintro r w3 ⟨rfl,hx3⟩
         refine hK.out _ _ (Ext.trans (by assumption) hx3) (fun hS=>?_)
         try simp only [Act.put,List.setIfInBounds_toArray,List.set_cons_zero,List.set_cons_succ]
         repeat (first|(refine zG rfl rfl (by assumption) ?_;simp only [Act.put,List.setIfInBounds_toArray,List.set_cons_zero,List.set_cons_succ])|(refine zC (v:=?_) rfl rfl rfl (fun X hX=>?_) (by assumption) ?_;rotate_left;(focus (go_simp<;>with_reducible rfl));simp only [Act.put,List.setIfInBounds_toArray,List.set_cons_zero,List.set_cons_succ]))
         refine zT rfl rfl rfl (fun K hK=>?_)
         go_simp
         refine (zdn _ _ hsm _).mono ?_
         rw [hC.out];rintro r w4 ⟨rfl,rfl⟩
         refine hK.out _ _ (by assumption) (fun hS=>?_)
         try simp only [Act.put,List.setIfInBounds_toArray,List.set_cons_zero,List.set_cons_succ]
         repeat (first|(refine zG rfl rfl (by assumption) ?_;simp only [Act.put,List.setIfInBounds_toArray,List.set_cons_zero,List.set_cons_succ])|(refine zC (v:=?_) rfl rfl rfl (fun X hX=>?_) (by assumption) ?_;rotate_left;(focus (go_simp<;>with_reducible rfl));simp only [Act.put,List.setIfInBounds_toArray,List.set_cons_zero,List.set_cons_succ]))
         refine zbK ?_
         go_wp2_with fail
         go_ret
         exact⟨zk (by rw [Hv.out,zaw Hge.out (by rw [zaM,he.out];dsimp only;rw [edgB,hA.out,hB.out,hC.out];simp)];simp),Hfin.out _ (by assumption)⟩
        ·have HC:=hide hC
         clear hC
         have hC:=HC;clear HC
         have hedg:=hide (show edgB al st e=true by rw [edgB,hA.out,hB.out,hC.out,hlt6.out];rfl)
         by_cases hk0:k=0
         ·subst hk0
          refine zU (fun X=>Ext W X) [0,1,2,3,4,5,6,7,8,9,10,11,12,13,14,15,16,17,18,19,20,21,22,23,24,25,26,27,28,29,30,31,32,33,34,35,36,37,38,39] (by kernel_rfl) rfl (by kernel_rfl) (by kernel_rfl) (fun _ _ _ _ _ h=>h) ((Ext.refl _).drew) (fun hS=>?_)
          repeat (first|(refine zG rfl rfl (by assumption) ?_;simp only [Act.put,List.setIfInBounds_toArray,List.set_cons_zero,List.set_cons_succ])|(refine zC (v:=?_) rfl rfl rfl (fun X hX=>?_) (by assumption) ?_;rotate_left;(focus (go_simp<;>with_reducible rfl));simp only [Act.put,List.setIfInBounds_toArray,List.set_cons_zero,List.set_cons_succ]))
          refine zT rfl rfl rfl (fun K hK=>?_)
          go_simp
          refine (zX).mono ?_
          rw [hA.out];rintro r w2 ⟨rfl,hx2⟩
          refine hK.out _ _ (Ext.trans (by assumption) hx2) (fun hS=>?_)
          try simp only [Act.put,List.setIfInBounds_toArray,List.set_cons_zero,List.set_cons_succ]
          repeat (first|(refine zG rfl rfl (by assumption) ?_;simp only [Act.put,List.setIfInBounds_toArray,List.set_cons_zero,List.set_cons_succ])|(refine zC (v:=?_) rfl rfl rfl (fun X hX=>?_) (by assumption) ?_;rotate_left;(focus (go_simp<;>with_reducible rfl));simp only [Act.put,List.setIfInBounds_toArray,List.set_cons_zero,List.set_cons_succ]))
          refine zT rfl rfl rfl (fun K hK=>?_)
          go_simp
          refine (zX).mono ?_
          rw [hB.out];rintro r w3 ⟨rfl,hx3⟩
          refine hK.out _ _ (Ext.trans (by assumption) hx3) (fun hS=>?_)
          try simp only [Act.put,List.setIfInBounds_toArray,List.set_cons_zero,List.set_cons_succ]
          repeat (first|(refine zG rfl rfl (by assumption) ?_;simp only [Act.put,List.setIfInBounds_toArray,List.set_cons_zero,List.set_cons_succ])|(refine zC (v:=?_) rfl rfl rfl (fun X hX=>?_) (by assumption) ?_;rotate_left;(focus (go_simp<;>with_reducible rfl));simp only [Act.put,List.setIfInBounds_toArray,List.set_cons_zero,List.set_cons_succ]))
          refine zT rfl rfl rfl (fun K hK=>?_)
          go_simp
          refine (zdn _ _ hsm _).mono ?_
          rw [hC.out];rintro r w4 ⟨rfl,rfl⟩
          refine hK.out _ _ (by assumption) (fun hS=>?_)
          try simp only [Act.put,List.setIfInBounds_toArray,List.set_cons_zero,List.set_cons_succ]
          repeat (first|(refine zG rfl rfl (by assumption) ?_;simp only [Act.put,List.setIfInBounds_toArray,List.set_cons_zero,List.set_cons_succ])|(refine zC (v:=?_) rfl rfl rfl (fun X hX=>?_) (by assumption) ?_;rotate_left;(focus (go_simp<;>with_reducible rfl));simp only [Act.put,List.setIfInBounds_toArray,List.set_cons_zero,List.set_cons_succ]))
          refine zbK ?_
          go_wp2_with fail
          go_roundw
          case rel=>exact⟨0+1,by omega,by go_num,zbN Hge.out hall.out (by rw [zaM,he.out];dsimp only;rw [hedg.out];simp),(hext.trans hx).trans (by assumption)⟩
          case measure=>simp [intOf];omega
         ·obtain⟨j,rfl⟩:∃ j,k=j+1:=⟨k - 1,by omega⟩
          have hp:s.edges[j]?=some (s.edges[j]'(by have:=h.1;omega)):=List.getElem?_eq_getElem _
          generalize s.edges[j]'(by have:=h.1;omega)=p at hp
          have Hp:=hide hp
          clear hp
          have hpc:=(HR.out wr (((Ext.refl _).alloc _).trans hext)).edge2 Hp.out
          have p0:∀ X,Ext W X→X.cell? ⟨b,o+j*3,none⟩=some (.int .i64 p.fr):=fun X hX=>(hx.trans hX).cell_some hpc.1
          have p1:∀ X,Ext W X→X.cell? ⟨b,o+j*3+1,none⟩=some (.int .i64 p.le):=fun X hX=>(hx.trans hX).cell_some hpc.2.1
          have p2:∀ X,Ext W X→X.cell? ⟨b,o+j*3+2,none⟩=some (.int .i64 p.ta):=fun X hX=>(hx.trans hX).cell_some hpc.2.2
          clear hpc
          have hk1:decide ((0:Int)<(j:Int)+1)=true:=decide_eq_true (by omega)
          have hw1:IntKind.i64.wrap ((j:Int)+1 - 1)=(j:Int):=by rw [IntKind.wrap_i64];omega
          have hw2:IntKind.i64.wrap (j:Int)=(j:Int):=by rw [IntKind.wrap_i64];omega
          have hj0:(0:Int)≤(j:Int):=by omega
          have hj1:(j:Int)<(n:Int):=by omega
          have hpl:=cmpE_lt p e
          have Hpl:=hide hpl
          clear hpl
          by_cases hc:0≤cmpE p e
          ·have hcd:decide (0≤cmpE p e)=true:=by simpa using hc
           have hnl:=hide (show ltE p e=false by rw [Bool.eq_false_iff];intro hh;have:=Hpl.out.2 hh;omega)
           refine zU (fun X=>Ext W X) [0,1,2,3,4,5,6,7,8,9,10,11,12,13,14,15,16,17,18,19,20,21,22,23,24,25,26,27,28,29,30,31,32,33,34,35,36,37,38,39] (by kernel_rfl) rfl (by kernel_rfl) (by kernel_rfl) (fun _ _ _ _ _ h=>h) ((Ext.refl _).drew) (fun hS=>?_)
           repeat (first|(refine zG rfl rfl (by assumption) ?_;simp only [Act.put,List.setIfInBounds_toArray,List.set_cons_zero,List.set_cons_succ])|(refine zC (v:=?_) rfl rfl rfl (fun X hX=>?_) (by assumption) ?_;rotate_left;(focus (go_simp<;>with_reducible rfl));simp only [Act.put,List.setIfInBounds_toArray,List.set_cons_zero,List.set_cons_succ]))
           refine zT rfl rfl rfl (fun K hK=>?_)
           go_simp
           refine (zX).mono ?_
           rw [hA.out];rintro r w2 ⟨rfl,hx2⟩
           refine hK.out _ _ (Ext.trans (by assumption) hx2) (fun hS=>?_)
           try simp only [Act.put,List.setIfInBounds_toArray,List.set_cons_zero,List.set_cons_succ]
           repeat (first|(refine zG rfl rfl (by assumption) ?_;simp only [Act.put,List.setIfInBounds_toArray,List.set_cons_zero,List.set_cons_succ])|(refine zC (v:=?_) rfl rfl rfl (fun X hX=>?_) (by assumption) ?_;rotate_left;(focus (go_simp<;>with_reducible rfl));simp only [Act.put,List.setIfInBounds_toArray,List.set_cons_zero,List.set_cons_succ]))
           refine zT rfl rfl rfl (fun K hK=>?_)
           go_simp
           refine (zX).mono ?_
           rw [hB.out];rintro r w3 ⟨rfl,hx3⟩
           refine hK.out _ _ (Ext.trans (by assumption) hx3) (fun hS=>?_)
           try simp only [Act.put,List.setIfInBounds_toArray,List.set_cons_zero,List.set_cons_succ]
           repeat (first|(refine zG rfl rfl (by assumption) ?_;simp only [Act.put,List.setIfInBounds_toArray,List.set_cons_zero,List.set_cons_succ])|(refine zC (v:=?_) rfl rfl rfl (fun X hX=>?_) (by assumption) ?_;rotate_left;(focus (go_simp<;>with_reducible rfl));simp only [Act.put,List.setIfInBounds_toArray,List.set_cons_zero,List.set_cons_succ]))
           refine zT rfl rfl rfl (fun K hK=>?_)
           go_simp
           refine (zdn _ _ hsm _).mono ?_
           rw [hC.out];rintro r w4 ⟨rfl,rfl⟩
           refine hK.out _ _ (by assumption) (fun hS=>?_)
           try simp only [Act.put,List.setIfInBounds_toArray,List.set_cons_zero,List.set_cons_succ]
           repeat (first|(refine zG rfl rfl (by assumption) ?_;simp only [Act.put,List.setIfInBounds_toArray,List.set_cons_zero,List.set_cons_succ])|(refine zC (v:=?_) rfl rfl rfl (fun X hX=>?_) (by assumption) ?_;rotate_left;(focus (go_simp<;>with_reducible rfl));simp only [Act.put,List.setIfInBounds_toArray,List.set_cons_zero,List.set_cons_succ]))
           refine zT rfl rfl rfl (fun K hK=>?_)
           go_simp
           refine (zcu (a:=p) (b:=e)).mono ?_
           rintro r w5 ⟨rfl,hx5⟩
           refine hK.out _ _ (Ext.trans (by assumption) hx5) (fun hS=>?_)
           try simp only [Act.put,List.setIfInBounds_toArray,List.set_cons_zero,List.set_cons_succ]
           repeat (first|(refine zG rfl rfl (by assumption) ?_;simp only [Act.put,List.setIfInBounds_toArray,List.set_cons_zero,List.set_cons_succ])|(refine zC (v:=?_) rfl rfl rfl (fun X hX=>?_) (by assumption) ?_;rotate_left;(focus (go_simp<;>with_reducible rfl));simp only [Act.put,List.setIfInBounds_toArray,List.set_cons_zero,List.set_cons_succ]))
           refine zbK ?_
           go_wp2_with fail
           go_ret
           exact⟨zk (by rw [Hv.out,zaw Hge.out (by rw [zaM,he.out];dsimp only;rw [Nat.add_sub_cancel,Hp.out];simp [hnl.out])];simp),Hfin.out _ (by assumption)⟩
          ·have hcd:decide (0≤cmpE p e)=false:=by simp;omega
           have hnl:=hide (show ltE p e=true from Hpl.out.1 (by omega))
           refine zU (fun X=>Ext W X) [0,1,2,3,4,5,6,7,8,9,10,11,12,13,14,15,16,17,18,19,20,21,22,23,24,25,26,27,28,29,30,31,32,33,34,35,36,37,38,39] (by kernel_rfl) rfl (by kernel_rfl) (by kernel_rfl) (fun _ _ _ _ _ h=>h) ((Ext.refl _).drew) (fun hS=>?_)
           repeat (first|(refine zG rfl rfl (by assumption) ?_;simp only [Act.put,List.setIfInBounds_toArray,List.set_cons_zero,List.set_cons_succ])|(refine zC (v:=?_) rfl rfl rfl (fun X hX=>?_) (by assumption) ?_;rotate_left;(focus (go_simp<;>with_reducible rfl));simp only [Act.put,List.setIfInBounds_toArray,List.set_cons_zero,List.set_cons_succ]))
           refine zT rfl rfl rfl (fun K hK=>?_)
           go_simp
           refine (zX).mono ?_
           rw [hA.out];rintro r w2 ⟨rfl,hx2⟩
           refine hK.out _ _ (Ext.trans (by assumption) hx2) (fun hS=>?_)
           try simp only [Act.put,List.setIfInBounds_toArray,List.set_cons_zero,List.set_cons_succ]
           repeat (first|(refine zG rfl rfl (by assumption) ?_;simp only [Act.put,List.setIfInBounds_toArray,List.set_cons_zero,List.set_cons_succ])|(refine zC (v:=?_) rfl rfl rfl (fun X hX=>?_) (by assumption) ?_;rotate_left;(focus (go_simp<;>with_reducible rfl));simp only [Act.put,List.setIfInBounds_toArray,List.set_cons_zero,List.set_cons_succ]))
           refine zT rfl rfl rfl (fun K hK=>?_)
           go_simp
           refine (zX).mono ?_
           rw [hB.out];rintro r w3 ⟨rfl,hx3⟩
           refine hK.out _ _ (Ext.trans (by assumption) hx3) (fun hS=>?_)
           try simp only [Act.put,List.setIfInBounds_toArray,List.set_cons_zero,List.set_cons_succ]
           repeat (first|(refine zG rfl rfl (by assumption) ?_;simp only [Act.put,List.setIfInBounds_toArray,List.set_cons_zero,List.set_cons_succ])|(refine zC (v:=?_) rfl rfl rfl (fun X hX=>?_) (by assumption) ?_;rotate_left;(focus (go_simp<;>with_reducible rfl));simp only [Act.put,List.setIfInBounds_toArray,List.set_cons_zero,List.set_cons_succ]))
           refine zT rfl rfl rfl (fun K hK=>?_)
           go_simp
           refine (zdn _ _ hsm _).mono ?_
           rw [hC.out];rintro r w4 ⟨rfl,rfl⟩
           refine hK.out _ _ (by assumption) (fun hS=>?_)
           try simp only [Act.put,List.setIfInBounds_toArray,List.set_cons_zero,List.set_cons_succ]
           repeat (first|(refine zG rfl rfl (by assumption) ?_;simp only [Act.put,List.setIfInBounds_toArray,List.set_cons_zero,List.set_cons_succ])|(refine zC (v:=?_) rfl rfl rfl (fun X hX=>?_) (by assumption) ?_;rotate_left;(focus (go_simp<;>with_reducible rfl));simp only [Act.put,List.setIfInBounds_toArray,List.set_cons_zero,List.set_cons_succ]))
           refine zT rfl rfl rfl (fun K hK=>?_)
           go_simp
           refine (zcu (a:=p) (b:=e)).mono ?_
           rintro r w5 ⟨rfl,hx5⟩
           refine hK.out _ _ (Ext.trans (by assumption) hx5) (fun hS=>?_)
           try simp only [Act.put,List.setIfInBounds_toArray,List.set_cons_zero,List.set_cons_succ]
           repeat (first|(refine zG rfl rfl (by assumption) ?_;simp only [Act.put,List.setIfInBounds_toArray,List.set_cons_zero,List.set_cons_succ])|(refine zC (v:=?_) rfl rfl rfl (fun X hX=>?_) (by assumption) ?_;rotate_left;(focus (go_simp<;>with_reducible rfl));simp only [Act.put,List.setIfInBounds_toArray,List.set_cons_zero,List.set_cons_succ]))
           refine zbK ?_
           go_wp2_with fail
           go_roundw
           case rel=>exact⟨j+1+1,by omega,by go_num,zbN Hge.out hall.out (by rw [zaM,he.out];dsimp only;rw [Nat.add_sub_cancel,Hp.out,hedg.out];simp [hnl.out]),(hext.trans hx).trans (by assumption)⟩
           case measure=>simp [intOf];omega
    ·obtain rfl:k=n:=by omega
     go_wp2
     go_ret
     exact⟨zk (by rw [Hv.out,zdE (by simp) hall.out,hd.out];simp;omega),((Ext.refl _).alloc _).trans hext⟩
  ·go_enter Tryz.func52,Tryz.ntmps52
   have hd:=hide (show decide (0≤s.al∧s.al≤63)=true by simp;omega)
   go_wp2_with (go_at_call 49;refine (zaq _ _).mono ?_;rw [hd.out];rintro e w' ⟨rfl,rfl⟩)
   all_goals go_ret
   all_goals exact⟨zk (by rw [Hv.out];simp [hst]),(Ext.refl _).alloc _⟩
 ·go_enter Tryz.func52,Tryz.ntmps52
  have hd:=hide (show decide (0≤s.al∧s.al≤63)=false by simp;omega)
  go_wp2_with (go_at_call 49;refine (zaq _ _).mono ?_;rw [hd.out];rintro e w' ⟨rfl,rfl⟩)
  go_ret
  exact⟨zk (by rw [Hv.out];simp;omega),(Ext.refl _).alloc _⟩
set_option maxHeartbeats 4000000
theorem zcR {al:Nat} {st:Int} {e:Edg} {w:World}(hsm:Sm al) :
  Calls Tryz.prog 175 #[.int .i64 al,.int .i64 st,.agg #[.int .i64 e.fr,.int .i64 e.le,.int .i64 e.ta]] w fun r w'=>r=.returned (.bool (edgB al st e))∧Ext w w':=by
 have Hv:=hide (show edgB al st e=((decide (0≤e.fr)&&decide (e.fr<st))&&((decide (0≤e.ta)&&decide (e.ta<st))&&(decide (e.le<6)&&hasB al e.le))) from rfl)
 by_cases h0:e.fr<0
 ·go_enter Tryz.func175,Tryz.ntmps175
  go_wp2
  go_ret
  exact⟨zk (by rw [Hv.out];simp;omega),(Ext.refl _).alloc _⟩
 ·by_cases h1:st≤e.fr
  ·go_enter Tryz.func175,Tryz.ntmps175
   go_wp2
   go_ret
   exact⟨zk (by rw [Hv.out];simp;omega),(Ext.refl _).alloc _⟩
  ·by_cases h2:e.ta<0
   ·go_enter Tryz.func175,Tryz.ntmps175
    go_wp2
    go_ret
    exact⟨zk (by rw [Hv.out];simp;omega),(Ext.refl _).alloc _⟩
   ·by_cases h3:st≤e.ta
    ·go_enter Tryz.func175,Tryz.ntmps175
     go_wp2
     go_ret
     exact⟨zk (by rw [Hv.out];simp;omega),(Ext.refl _).alloc _⟩
    ·by_cases h4:0≤e.le
     ·by_cases h5:e.le<6
      ·obtain⟨le,hle⟩:∃ le:Nat,Hid (e.le=le):=⟨e.le.toNat,by unfold Hid;omega⟩
       have hl6:(le:Int)<6:=by have:=hle.out;omega
       clear h4 h5
       rw [hle.out]
       go_enter Tryz.func175,Tryz.ntmps175
       go_wp2_with (go_at_call 147;refine (zad al le hsm _ (by omega)).mono ?_;rintro r w' ⟨rfl,rfl⟩)
       go_ret
       exact⟨zk (by rw [Hv.out,hle.out,decide_eq_true (show 0≤e.fr by omega),decide_eq_true (show e.fr<st by omega),decide_eq_true (show 0≤e.ta by omega),decide_eq_true (show e.ta<st by omega),decide_eq_true hl6];simp [hasB]),(Ext.refl _).alloc _⟩
      ·go_enter Tryz.func175,Tryz.ntmps175
       go_wp2_with fail
       go_ret
       exact⟨zk (by rw [Hv.out];simp;omega),(Ext.refl _).alloc _⟩
     ·go_enter Tryz.func175,Tryz.ntmps175
      go_wp2_with fail
      go_ret
      exact⟨zk (by rw [Hv.out];simp [hasB];omega),(Ext.refl _).alloc _⟩
theorem zcQ {a b:Edg} {w:World} :
  Calls Tryz.prog 173 #[.agg #[.int .i64 a.fr,.int .i64 a.le,.int .i64 a.ta],.agg #[.int .i64 b.fr,.int .i64 b.le,.int .i64 b.ta]] w fun e w'=>e=.returned (.bool (ltE a b))∧Ext w w':=by
 have Hv:=hide (show ltE a b=if a.fr=b.fr then if a.le=b.le then decide (a.ta<b.ta) else decide (a.le<b.le) else decide (a.fr<b.fr) from rfl)
 have hx:Ext w ((w.alloc (.cells #[Value.int .i64 a.fr,.int .i64 a.le,.int .i64 a.ta] 126)).alloc (.cells #[Value.int .i64 b.fr,.int .i64 b.le,.int .i64 b.ta] 126)):=((Ext.refl _).alloc _).alloc _
 have Hx:=hide hx
 clear hx
 by_cases h0:a.fr=b.fr
 ·have n0:(a.fr != b.fr)=false:=by simp [h0]
  have H0:=hide h0
  clear h0
  by_cases h1:a.le=b.le
  ·have n1:(a.le != b.le)=false:=by simp [h1]
   have H1:=hide h1
   clear h1
   go_enter Tryz.func173,Tryz.ntmps173
   go_wp2
   go_ret
   exact⟨zk (by rw [Hv.out,if_pos H0.out,if_pos H1.out]),Hx.out⟩
  ·have n1:(a.le != b.le)=true:=by simp [h1]
   go_enter Tryz.func173,Tryz.ntmps173
   go_wp2
   go_ret
   exact⟨zk (by rw [Hv.out,if_pos H0.out,if_neg h1]),Hx.out⟩
 ·have n0:(a.fr != b.fr)=true:=by simp [h0]
  go_enter Tryz.func173,Tryz.ntmps173
  go_wp2
  go_ret
  exact⟨zk (by rw [Hv.out,if_neg h0]),Hx.out⟩
theorem zaf {lo hi:Nat} {A:Option Addr} {n c:Nat} {s:Sys} {w:World}(h:zQ w lo hi A n s) :
  Calls Tryz.prog 112 #[.agg #[.int .i64 s.al,.int .i64 s.st,.slice A n c]] w fun e w'=>e=.returned (.bool (zj s))∧Ext w w':=by
 have Hv:=hide (show zj s=(decide (0≤s.al∧s.al≤63)&&(decide (1≤s.st∧s.st≤16)&&(List.range n).all (zaM s.al.toNat s.st s.edges))) by unfold zj;rw [← h.1])
 have hn:=h.2.len
 by_cases hal:0≤s.al∧s.al≤63
 ·by_cases hst:1≤s.st∧s.st≤16
  ·obtain⟨al,hal'⟩:∃ al:Nat,Hid (s.al=al):=⟨s.al.toNat,by unfold Hid;omega⟩
   have hsm:Sm al:=by have:=hal'.out;unfold Sm;omega
   have hd:=hide (show decide (0≤(al:Int)∧(al:Int)≤63)=true by have:=hal'.out;simp;omega)
   rw [hal'.out]
   rw [hal'.out,Int.toNat_natCast] at Hv
   clear hal
   have hd1:decide (s.st<1)=false:=by simp;omega
   have hd2:decide (16<s.st)=false:=by simp;omega
   obtain⟨st,hst',hs1,hs2⟩:∃ st:Int,Hid (s.st=st)∧1≤st∧st≤16:=⟨s.st,hide rfl,hst.1,hst.2⟩
   rw [hst'.out] at hd1 hd2 Hv ⊢
   clear hst
   have hR:=fun W (hW:Ext w W)=>h.2.ext hW
   have HR:=hide hR
   clear hR
   go_enter Tryz.func112,Tryz.ntmps112
   go_wp2_with (go_at_call 96;refine (zM _ _).mono ?_;rw [hd.out];rintro e w' ⟨rfl,rfl⟩)
   go_loopw [3] (fun i wr=>∃ k:Nat,k≤n∧i=.int .i64 k∧Hid (((List.range n).take k).all (zaM al st s.edges)=true)∧Ext (w.alloc (.cells #[Value.int .i64 al,.int .i64 st,Value.slice A n c] 39)) wr)
    (fun i _=>n - (intOf i).toNat)
   case atStart=>exact⟨0,Nat.zero_le _,rfl,rfl,Ext.refl _⟩
   case round =>
    obtain⟨k,hk,rfl,hall,hext⟩:=hrel
    have hbx:=zbA hext
    by_cases hlt:k<n
    ·obtain⟨b,o,e,rfl,hlo,hhi,he,c0,c1,c2⟩:=(HR.out wr (((Ext.refl _).alloc _).trans hext)).edge hlt
     go_wp2_with fail
     clear hbx
     have e0:∀ X,Ext wr X→∀ j,X.cell? ⟨w.heap.size,j,none⟩=#[Value.int .i64 al,.int .i64 st,Value.slice (some ⟨b,o,none⟩) n c][j]?:=fun X hX=>zbA (hext.trans hX)
     have q0:∀ X,Ext wr X→X.cell? ⟨b,o+k*3,none⟩=some (.int .i64 e.fr):=fun X hX=>hX.cell_some c0
     have q1:∀ X,Ext wr X→X.cell? ⟨b,o+k*3+1,none⟩=some (.int .i64 e.le):=fun X hX=>hX.cell_some c1
     have q2:∀ X,Ext wr X→X.cell? ⟨b,o+k*3+2,none⟩=some (.int .i64 e.ta):=fun X hX=>hX.cell_some c2
     have hr:=Ext.refl wr
     clear c0 c1 c2
     have hfin:∀ X,Ext wr X→Ext w X:=fun X hX=>(((Ext.refl _).alloc _).trans hext).trans hX
     have Hfin:=hide hfin
     clear hfin
     have hk0':(0:Int)≤(k:Int):=by omega
     have hk1':(k:Int)<(n:Int):=by omega
     have hge:(List.range n)[k]?=some k:=by rw [List.getElem?_range hlt]
     have Hge:=hide hge
     clear hge
     cases hA':edgB al st e
     ·have hA:=hide hA'
      clear hA'
      refine zU (fun X=>Ext wr X) [0,1,2,3,4,5,6,7,8,9,10,11,12,13,14,15,16,17,18,19,20,21,22,23,24,25,26,27,28,29] (by kernel_rfl) rfl (by kernel_rfl) (by kernel_rfl) (fun _ _ _ _ _ h=>h) ((Ext.refl _).drew) (fun hS=>?_)
      repeat (first|(refine zG rfl rfl (by assumption) ?_;simp only [Act.put,List.setIfInBounds_toArray,List.set_cons_zero,List.set_cons_succ])|(refine zC (v:=?_) rfl rfl rfl (fun X hX=>?_) (by assumption) ?_;rotate_left;(focus (go_simp<;>with_reducible rfl));simp only [Act.put,List.setIfInBounds_toArray,List.set_cons_zero,List.set_cons_succ]))
      refine zT rfl rfl rfl (fun K hK=>?_)
      go_simp
      refine (zcR (e:=e) hsm).mono ?_
      rw [hA.out];rintro r w2 ⟨rfl,hx2⟩
      refine hK.out _ _ (Ext.trans (by assumption) hx2) (fun hS=>?_)
      try simp only [Act.put,List.setIfInBounds_toArray,List.set_cons_zero,List.set_cons_succ]
      repeat (first|(refine zG rfl rfl (by assumption) ?_;simp only [Act.put,List.setIfInBounds_toArray,List.set_cons_zero,List.set_cons_succ])|(refine zC (v:=?_) rfl rfl rfl (fun X hX=>?_) (by assumption) ?_;rotate_left;(focus (go_simp<;>with_reducible rfl));simp only [Act.put,List.setIfInBounds_toArray,List.set_cons_zero,List.set_cons_succ]))
      refine zbK ?_
      go_wp2_with fail
      go_ret
      exact⟨zk (by rw [Hv.out,zaw Hge.out (by rw [zaM,he.out];dsimp only;rw [hA.out];simp)];simp),Hfin.out _ (by assumption)⟩
     ·have hA:=hide hA'
      clear hA'
      by_cases hk0:k=0
      ·subst hk0
       simp only [Nat.zero_mul,Nat.add_zero] at q0 q1 q2
       refine zU (fun X=>Ext wr X) [0,1,2,3,4,5,6,7,8,9,10,11,12,13,14,15,16,17,18,19,20,21,22,23,24,25,26,27,28,29] (by kernel_rfl) rfl (by kernel_rfl) (by kernel_rfl) (fun _ _ _ _ _ h=>h) ((Ext.refl _).drew) (fun hS=>?_)
       repeat (first|(refine zG rfl rfl (by assumption) ?_;simp only [Act.put,List.setIfInBounds_toArray,List.set_cons_zero,List.set_cons_succ])|(refine zC (v:=?_) rfl rfl rfl (fun X hX=>?_) (by assumption) ?_;rotate_left;(focus (go_simp<;>with_reducible rfl));simp only [Act.put,List.setIfInBounds_toArray,List.set_cons_zero,List.set_cons_succ]))
       refine zT rfl rfl rfl (fun K hK=>?_)
       go_simp
       refine (zcR (e:=e) hsm).mono ?_
       rw [hA.out];rintro r w2 ⟨rfl,hx2⟩
       refine hK.out _ _ (Ext.trans (by assumption) hx2) (fun hS=>?_)
       try simp only [Act.put,List.setIfInBounds_toArray,List.set_cons_zero,List.set_cons_succ]
       repeat (first|(refine zG rfl rfl (by assumption) ?_;simp only [Act.put,List.setIfInBounds_toArray,List.set_cons_zero,List.set_cons_succ])|(refine zC (v:=?_) rfl rfl rfl (fun X hX=>?_) (by assumption) ?_;rotate_left;(focus (go_simp<;>with_reducible rfl));simp only [Act.put,List.setIfInBounds_toArray,List.set_cons_zero,List.set_cons_succ]))
       refine zbK ?_
       go_wp2_with fail
       go_roundw
       case rel=>exact⟨0+1,by omega,by go_num,zbN Hge.out hall.out (by rw [zaM,he.out];dsimp only;rw [hA.out];simp),hext.trans (by assumption)⟩
       case measure=>simp [intOf];omega
      ·obtain⟨j,rfl⟩:∃ j,k=j+1:=⟨k - 1,by omega⟩
       have hp:s.edges[j]?=some (s.edges[j]'(by have:=h.1;omega)):=List.getElem?_eq_getElem _
       generalize s.edges[j]'(by have:=h.1;omega)=p at hp
       have Hp:=hide hp
       clear hp
       have hpc:=(HR.out wr (((Ext.refl _).alloc _).trans hext)).edge2 Hp.out
       have p0:∀ X,Ext wr X→X.cell? ⟨b,o+j*3,none⟩=some (.int .i64 p.fr):=fun X hX=>hX.cell_some hpc.1
       have p1:∀ X,Ext wr X→X.cell? ⟨b,o+j*3+1,none⟩=some (.int .i64 p.le):=fun X hX=>hX.cell_some hpc.2.1
       have p2:∀ X,Ext wr X→X.cell? ⟨b,o+j*3+2,none⟩=some (.int .i64 p.ta):=fun X hX=>hX.cell_some hpc.2.2
       clear hpc
       have hk1:decide ((0:Int)<(j:Int)+1)=true:=decide_eq_true (by omega)
       have hw1:IntKind.i64.wrap ((j:Int)+1 - 1)=(j:Int):=by rw [IntKind.wrap_i64];omega
       have hw2:IntKind.i64.wrap (j:Int)=(j:Int):=by rw [IntKind.wrap_i64];omega
       have hj0:(0:Int)≤(j:Int):=by omega
       have hj1:(j:Int)<(n:Int):=by omega
       have hj2:(0:Int)≤(j:Int)+1:=by omega
       have hj3:(j:Int)+1<(n:Int):=by omega
       have hj4:((j:Int)+1).toNat=j+1:=by omega
       cases hnl':ltE p e
       ·have hnl:=hide hnl'
        clear hnl'
        refine zU (fun X=>Ext wr X) [0,1,2,3,4,5,6,7,8,9,10,11,12,13,14,15,16,17,18,19,20,21,22,23,24,25,26,27,28,29] (by kernel_rfl) rfl (by kernel_rfl) (by kernel_rfl) (fun _ _ _ _ _ h=>h) ((Ext.refl _).drew) (fun hS=>?_)
        repeat (first|(refine zG rfl rfl (by assumption) ?_;simp only [Act.put,List.setIfInBounds_toArray,List.set_cons_zero,List.set_cons_succ])|(refine zC (v:=?_) rfl rfl rfl (fun X hX=>?_) (by assumption) ?_;rotate_left;(focus (go_simp<;>with_reducible rfl));simp only [Act.put,List.setIfInBounds_toArray,List.set_cons_zero,List.set_cons_succ]))
        refine zT rfl rfl rfl (fun K hK=>?_)
        go_simp
        refine (zcR (e:=e) hsm).mono ?_
        rw [hA.out];rintro r w2 ⟨rfl,hx2⟩
        refine hK.out _ _ (Ext.trans (by assumption) hx2) (fun hS=>?_)
        try simp only [Act.put,List.setIfInBounds_toArray,List.set_cons_zero,List.set_cons_succ]
        repeat (first|(refine zG rfl rfl (by assumption) ?_;simp only [Act.put,List.setIfInBounds_toArray,List.set_cons_zero,List.set_cons_succ])|(refine zC (v:=?_) rfl rfl rfl (fun X hX=>?_) (by assumption) ?_;rotate_left;(focus (go_simp<;>with_reducible rfl));simp only [Act.put,List.setIfInBounds_toArray,List.set_cons_zero,List.set_cons_succ]))
        refine zT rfl rfl rfl (fun K hK=>?_)
        go_simp
        refine (zcQ (a:=p) (b:=e)).mono ?_
        rw [hnl.out];rintro r w3 ⟨rfl,hx3⟩
        refine hK.out _ _ (Ext.trans (by assumption) hx3) (fun hS=>?_)
        try simp only [Act.put,List.setIfInBounds_toArray,List.set_cons_zero,List.set_cons_succ]
        repeat (first|(refine zG rfl rfl (by assumption) ?_;simp only [Act.put,List.setIfInBounds_toArray,List.set_cons_zero,List.set_cons_succ])|(refine zC (v:=?_) rfl rfl rfl (fun X hX=>?_) (by assumption) ?_;rotate_left;(focus (go_simp<;>with_reducible rfl));simp only [Act.put,List.setIfInBounds_toArray,List.set_cons_zero,List.set_cons_succ]))
        refine zbK ?_
        go_wp2_with fail
        go_ret
        exact⟨zk (by rw [Hv.out,zaw Hge.out (by rw [zaM,he.out];dsimp only;rw [Nat.add_sub_cancel,Hp.out];simp [hnl.out])];simp),Hfin.out _ (by assumption)⟩
       ·have hnl:=hide hnl'
        clear hnl'
        refine zU (fun X=>Ext wr X) [0,1,2,3,4,5,6,7,8,9,10,11,12,13,14,15,16,17,18,19,20,21,22,23,24,25,26,27,28,29] (by kernel_rfl) rfl (by kernel_rfl) (by kernel_rfl) (fun _ _ _ _ _ h=>h) ((Ext.refl _).drew) (fun hS=>?_)
        repeat (first|(refine zG rfl rfl (by assumption) ?_;simp only [Act.put,List.setIfInBounds_toArray,List.set_cons_zero,List.set_cons_succ])|(refine zC (v:=?_) rfl rfl rfl (fun X hX=>?_) (by assumption) ?_;rotate_left;(focus (go_simp<;>with_reducible rfl));simp only [Act.put,List.setIfInBounds_toArray,List.set_cons_zero,List.set_cons_succ]))
        refine zT rfl rfl rfl (fun K hK=>?_)
        go_simp
        refine (zcR (e:=e) hsm).mono ?_
        rw [hA.out];rintro r w2 ⟨rfl,hx2⟩
        refine hK.out _ _ (Ext.trans (by assumption) hx2) (fun hS=>?_)
        try simp only [Act.put,List.setIfInBounds_toArray,List.set_cons_zero,List.set_cons_succ]
        repeat (first|(refine zG rfl rfl (by assumption) ?_;simp only [Act.put,List.setIfInBounds_toArray,List.set_cons_zero,List.set_cons_succ])|(refine zC (v:=?_) rfl rfl rfl (fun X hX=>?_) (by assumption) ?_;rotate_left;(focus (go_simp<;>with_reducible rfl));simp only [Act.put,List.setIfInBounds_toArray,List.set_cons_zero,List.set_cons_succ]))
        refine zT rfl rfl rfl (fun K hK=>?_)
        go_simp
        refine (zcQ (a:=p) (b:=e)).mono ?_
        rw [hnl.out];rintro r w3 ⟨rfl,hx3⟩
        refine hK.out _ _ (Ext.trans (by assumption) hx3) (fun hS=>?_)
        try simp only [Act.put,List.setIfInBounds_toArray,List.set_cons_zero,List.set_cons_succ]
        repeat (first|(refine zG rfl rfl (by assumption) ?_;simp only [Act.put,List.setIfInBounds_toArray,List.set_cons_zero,List.set_cons_succ])|(refine zC (v:=?_) rfl rfl rfl (fun X hX=>?_) (by assumption) ?_;rotate_left;(focus (go_simp<;>with_reducible rfl));simp only [Act.put,List.setIfInBounds_toArray,List.set_cons_zero,List.set_cons_succ]))
        refine zbK ?_
        go_wp2_with fail
        go_roundw
        case rel=>exact⟨j+1+1,by omega,by go_num,zbN Hge.out hall.out (by rw [zaM,he.out];dsimp only;rw [Nat.add_sub_cancel,Hp.out,hA.out];simp [hnl.out]),hext.trans (by assumption)⟩
        case measure=>simp [intOf];omega
    ·obtain rfl:k=n:=by omega
     go_wp2
     go_ret
     exact⟨zk (by rw [Hv.out,zdE (by simp) hall.out,hd.out];simp;omega),((Ext.refl _).alloc _).trans hext⟩
  ·go_enter Tryz.func112,Tryz.ntmps112
   have hd:=hide (show decide (0≤s.al∧s.al≤63)=true by simp;omega)
   go_wp2_with (go_at_call 96;refine (zM _ _).mono ?_;rw [hd.out];rintro e w' ⟨rfl,rfl⟩)
   all_goals go_ret
   all_goals exact⟨zk (by rw [Hv.out];simp [hst]),(Ext.refl _).alloc _⟩
 ·go_enter Tryz.func112,Tryz.ntmps112
  have hd:=hide (show decide (0≤s.al∧s.al≤63)=false by simp;omega)
  go_wp2_with (go_at_call 96;refine (zM _ _).mono ?_;rw [hd.out];rintro e w' ⟨rfl,rfl⟩)
  go_ret
  exact⟨zk (by rw [Hv.out];simp;omega),(Ext.refl _).alloc _⟩
set_option maxHeartbeats 400000
theorem zcE {s:Sys}(h:zj s=true):∃ p:Nat,s.st=p∧1≤p∧p≤16∧Few p s.edges:=by
 simp only [zj,Bool.and_eq_true,decide_eq_true_eq,List.all_eq_true,List.mem_range] at h
 obtain⟨_,⟨h1,h2⟩,h3⟩:=h
 refine⟨s.st.toNat,by omega,by omega,by omega,fun e he=>?_⟩
 obtain⟨k,hk⟩:=List.getElem?_of_mem he
 have:=h3 k (List.getElem?_eq_some_iff.1 hk).1
 rw [zaM,hk] at this
 simp only [Bool.and_eq_true,edgB,decide_eq_true_eq,hasB] at this
 omega
set_option maxHeartbeats 400000
theorem zai {w:World} {base:Nat} {e:TypeId} {size n c:Nat} {A:Option Addr} {xs:List Value}(h:w.ownsRow base e size (.slice A n c) n xs)(hn:0<n):∃ g,A=some ⟨g,0,none⟩∧base≤g∧g<w.heap.size:=by
 rcases h.2 with ⟨_,h0⟩|⟨g,cap,cur,hv,hg,hh,_⟩
 ·omega
 ·injection hv with h1 h2 h3
  exact⟨g,h1,hg,(Array.getElem?_eq_some_iff.1 hh).1⟩
def blk (A:Option Addr) (b:Nat):Prop:=∃ a,A=some a∧a.block=b
set_option maxHeartbeats 1000000
def lst (x:Nat):Nat:=(letters x 32).headD 0
def clsOf (R:List Nat):Nat→List Nat × Nat
 |0=>([],0)
 |k+1=>if lst (R.getD k 0)=k then ((clsOf R k).1++[(clsOf R k).2],(clsOf R k).2+1) else ((clsOf R k).1++[(clsOf R k).1.getD (lst (R.getD k 0)) 0],(clsOf R k).2)
def cl (R:List Nat) (i:Nat):Nat:=(clsOf R (i+1)).1.getD i 0
theorem ltE_trans {a b c:Edg}(h:ltE a b=true)(h':ltE b c=true):ltE a c=true:=by
 unfold ltE at *
 (repeat' split at h)<;>(repeat' split at h')<;>(repeat' split)<;>simp only [decide_eq_true_eq] at*<;> omega
theorem ltE_iff {a b:Edg}:ltE a b=true↔a.fr<b.fr∨a.fr=b.fr∧(a.le<b.le∨a.le=b.le∧a.ta<b.ta):=by
 unfold ltE
 (repeat' split)<;>simp only [decide_eq_true_eq]<;>omega
def Rising (es:List Edg):Prop:=∀ (a b:Nat) (x y:Edg),es[a]?=some x→es[b]?=some y→a<b→ltE x y=true
theorem rising_of {es:List Edg}(h:∀ k x y,es[k]?=some x→es[k+1]?=some y→ltE x y=true):Rising es:=by
 intro a b x y hx hy hab
 induction b generalizing y with
 |zero=>omega
 |succ b ih =>
  have hb:=(List.getElem?_eq_some_iff.1 hy).1
  obtain⟨z,hz⟩:∃ z,es[b]?=some z:=⟨_,List.getElem?_eq_getElem (by omega)⟩
  have h1:=h b z y hz hy
  rcases Nat.lt_or_ge a b with h2|h2
  ·exact ltE_trans (ih z hz h2) h1
  ·obtain rfl:a=b:=by omega
   rw [hx] at hz
   obtain rfl:=Option.some.inj hz
   exact h1
theorem valid_iff {s:Sys}:zj s=true↔(0≤s.al∧s.al≤63)∧(1≤s.st∧s.st≤16)∧(∀ e∈s.edges,edgB s.al.toNat s.st e=true)∧Rising s.edges:=by
 simp only [zj,Bool.and_eq_true,decide_eq_true_eq,List.all_eq_true,List.mem_range]
 constructor
 ·rintro ⟨h1,h2,h3⟩
  refine⟨h1,h2,fun e he=>?_,rising_of fun k x y hx hy=>?_⟩
  ·obtain⟨k,hk⟩:=List.getElem?_of_mem he
   have:=h3 k (List.getElem?_eq_some_iff.1 hk).1
   rw [zaM,hk] at this
   simp only [Bool.and_eq_true] at this
   exact this.1
  ·have:=h3 (k+1) (List.getElem?_eq_some_iff.1 hy).1
   unfold zaM at this
   rw [hy] at this
   simp only [Nat.add_sub_cancel,hx,Bool.and_eq_true,Bool.or_eq_true,decide_eq_true_eq] at this
   rcases this.2 with h|h
   ·omega
   ·exact h
 ·rintro ⟨h1,h2,h3,h4⟩
  refine⟨h1,h2,fun k hk=>?_⟩
  have hx:s.edges[k]?=some s.edges[k]:=List.getElem?_eq_getElem hk
  unfold zaM
  rw [hx]
  simp only [Bool.and_eq_true,Bool.or_eq_true,decide_eq_true_eq]
  refine⟨h3 _ (List.getElem_mem hk),?_⟩
  cases k with
  |zero=>exact Or.inl rfl
  |succ k =>
   have hy:s.edges[k]?=some s.edges[k]:=List.getElem?_eq_getElem (by omega)
   simp only [Nat.add_sub_cancel,hy]
   exact Or.inr (h4 k (k+1) _ _ hy hx (by omega))
def ALAt (w:World) (lo hi:Nat) (A:Option Addr) (n:Nat) (us:List Aut):Prop:=
 n=us.length∧∃ cells,Reads w lo hi 3 A n cells∧∀ (k:Nat) (a:Aut),us[k]?=some a→∃ (B:Option Addr) (m c:Nat) (B':Option Addr) (m' c':Nat),cells[k*3]?=some (.int .i64 a.al)∧cells[k*3+1]?=some (.slice B m c)∧cells[k*3+2]?=some (.slice B' m' c')∧zF w lo hi B m B' m' a
section
variable {w w':World} {lo hi n k:Nat} {A:Option Addr} {us:List Aut}
theorem ALAt.ext (h:ALAt w lo hi A n us)(hb:Ext w w'):ALAt w' lo hi A n us:=by
 obtain⟨e,cells,hr,hx⟩:=h
 refine⟨e,cells,hr.ext hb,fun k s hs=>?_⟩
 obtain⟨B,m,c,B',m',c',h0,h1,h2,h3⟩:=hx k s hs
 exact⟨B,m,c,B',m',c',h0,h1,h2,h3.ext hb⟩
theorem ALAt.len (h:ALAt w lo hi A n us):n≤9223372036854775807:=by
 obtain⟨_,cells,hr,_⟩:=h
 exact hr.len
theorem ALAt.aut (h:ALAt w lo hi A n us)(hk:k<n):∃ b o a B m c B' m' c',A=some ⟨b,o,none⟩∧Hid (us[k]?=some a)∧w.cell? ⟨b,o+k*3,none⟩=some (.int .i64 a.al)∧w.cell? ⟨b,o+k*3+1,none⟩=some (.slice B m c)∧w.cell? ⟨b,o+k*3+2,none⟩=some (.slice B' m' c')∧zF w lo hi B m B' m' a:=by
 obtain⟨e,cells,hr,hx⟩:=h
 have h0:us[0]?=some (us[0]'(by omega)):=List.getElem?_eq_getElem _
 obtain⟨_,_,_,_,_,_,z0,_⟩:=hx 0 _ h0
 rw [Nat.zero_mul] at z0
 obtain⟨b,o,rfl,hl,hb,hc⟩:=zgt hr (by omega) z0
 have hs:us[k]?=some (us[k]'(by omega)):=List.getElem?_eq_getElem _
 obtain⟨B,m,c,B',m',c',h0,h1,h2,h3⟩:=hx k _ hs
 exact⟨b,o,_,B,m,c,B',m',c',rfl,hs,hc _ _ h0,by rw [Nat.add_assoc];exact hc _ _ h1,by rw [Nat.add_assoc];exact hc _ _ h2,h3⟩
end
structure zdU (w:World) (PA:Option Addr) (pn:Nat) (AA:Option Addr) (an:Nat) (ss:List Sys) (us:List Aut):Prop where
 sys:∃ lo hi,SLAt w lo hi PA pn ss
 aut:∃ lo hi,ALAt w lo hi AA an us
theorem zdU.ext {w w':World} {PA AA:Option Addr} {pn an:Nat} {ss:List Sys} {us:List Aut}(h:zdU w PA pn AA an ss us)(hx:Ext w w'):zdU w' PA pn AA an ss us:=by
 obtain⟨⟨lo,hi,h1⟩,lo',hi',h2⟩:=h
 exact⟨⟨lo,hi,h1.ext hx⟩,lo',hi',h2.ext hx⟩
def mems (ss:List Sys) (us:List Aut):List Mem:=ss.map sMem++us.map aMem
def szs (ss:List Sys) (us:List Aut):List Nat:=ss.map (fun s=>s.st.toNat)++us.map fun a=>a.next.length
theorem zei (ss:List Sys) (us:List Aut):(mems ss us).map Prod.fst=szs ss us:=by
 simp [mems,szs,sMem,aMem,Function.comp_def]
structure zcF (ss:List Sys) (us:List Aut):Prop where
 sys:∀ s∈ss,zj s=true
 aut:∀ a∈us,zg a=true
 few:ss.length≤3
 few':us.length≤2
theorem zci {s:Sys}(h:zj s=true):Sml s:=by
 obtain⟨h1,h2,h3,h4⟩:=valid_iff.1 h
 obtain⟨p,hp,_,_,hf⟩:=zcE h
 refine⟨h2.1,h2.2,?_,h1.1,h1.2⟩
 rw [hp]
 exact hf
theorem zcF.ok {ss:List Sys} {us:List Aut}(h:zcF ss us):∀ m∈mems ss us,zdt m:=by
 intro m hm
 rcases List.mem_append.1 hm with h1|h1
 ·obtain⟨s,hs,rfl⟩:=List.mem_map.1 h1
  exact zdQ (zci (h.sys s hs))
 ·obtain⟨a,ha,rfl⟩:=List.mem_map.1 h1
  exact zbs (h.aut a ha)
theorem prodS_le {l:List Nat} {b:Nat}(h:∀ x∈l,x≤b):zaj l≤b ^ l.length:=by
 induction l with
 |nil=>simp [zaj]
 |cons x r ih =>
  rw [zaj,List.length_cons,Nat.pow_succ,Nat.mul_comm]
  exact Nat.mul_le_mul (ih fun y hy=>h y (by simp [hy])) (h x (by simp))
theorem zcF.le16 {ss:List Sys} {us:List Aut}(h:zcF ss us):∀ x∈szs ss us,1≤x∧x≤16:=by
 intro x hx
 rcases List.mem_append.1 hx with h1|h1
 ·obtain⟨s,hs,rfl⟩:=List.mem_map.1 h1
  have hh:=zci (h.sys s hs)
  have:=hh.1;have:=hh.2.1
  omega
 ·obtain⟨a,ha,rfl⟩:=List.mem_map.1 h1
  have:=(zi (h.aut a ha)).2.1
  omega
theorem zcF.len {ss:List Sys} {us:List Aut}(h:zcF ss us):(szs ss us).length≤5:=by
 have:=h.few;have:=h.few'
 simp [szs];omega
theorem zcF.total {ss:List Sys} {us:List Aut}(h:zcF ss us) (l:List Nat)(hl:l.Sublist (szs ss us)):1≤zaj l∧zaj l≤1048576:=by
 refine⟨prodS_pos fun x hx=>(h.le16 x (hl.subset hx)).1,?_⟩
 have h1:=prodS_le (l:=l) (b:=16) fun x hx=>(h.le16 x (hl.subset hx)).2
 have h2:=hl.length_le
 have h3:=h.len
 calc zaj l≤16 ^ l.length:=h1
  _≤16 ^ 5:=Nat.pow_le_pow_right (by omega) (by omega)
  _=1048576:=by decide
set_option maxHeartbeats 1000000
theorem place_succ (a k:Nat):place a (k+1)=place a k+if a.testBit k then 1 else 0:=by
 unfold place
 rw [zaR,List.length_append]
 cases a.testBit k<;>simp
theorem spec_l1Place (a l:Nat)(ha:Sm a)(hl:l≤6) (w:World) :
  Calls Tryz.prog 217 #[.int .i64 a,.int .i64 l] w fun e w'=>e=.returned (.int .i64 (place a l:Nat))∧w=w':=by
 go_enter Tryz.func217,Tryz.ntmps217
 go_wp2
 go_loop [5,6] (fun v i=>∃ k y:Nat,k≤l∧i=.int .i64 k∧v=.int .i64 y∧y≤k∧Hid (y=place a k)) (fun _ i=>l - (intOf i).toNat)
 case atStart=>exact⟨0,0,Nat.zero_le _,rfl,rfl,Nat.le_refl _,rfl⟩
 case round =>
  obtain⟨k,y,hk,rfl,rfl,hy,hyo⟩:=hrel
  by_cases hlt:k<l
  ·cases hb:a.testBit k
   all_goals
    have Hb:=hide hb
    have Hs:=hide (place_succ a k)
    clear hb
    go_wp2_with (go_at_call 147;refine (zad a k ha _ (by omega)).mono ?_;rw [Hb.out];rintro e w' ⟨rfl,rfl⟩)
    go_round
    case rel=>first|exact⟨k+1,y,by omega,by go_num,rfl,by omega,by unfold Hid;rw [Hs.out,Hb.out,← hyo.out];rfl⟩|exact⟨k+1,y+1,by omega,by go_num,by go_num,by omega,by unfold Hid;rw [Hs.out,Hb.out,← hyo.out];rfl⟩
    case measure=>simp [intOf];omega
  ·obtain rfl:l=k:=by omega
   go_wp2
   go_ret
   exact⟨zE (by rw [hyo.out]),rfl⟩
theorem zcA {lo hi:Nat} {B:Option Addr} {m d:Nat} {B':Option Addr} {m' d':Nat} {a:Aut} {q l:Nat} {w:World}(h:zF w lo hi B m B' m' a)(hv:zg a=true)(hq:q<a.next.length)(hl:l<6) :
  Calls Tryz.prog 198 #[.agg #[.int .i64 a.al,.slice B m d,.slice B' m' d'],.int .i64 q,.int .i64 l] w fun e w'=>e=.returned (.int .i64 (aGo a q l:Nat))∧Ext w w':=by
 obtain⟨⟨al0,al1⟩,_,_,hrows⟩:=zi hv
 obtain⟨al,hal⟩:∃ al:Nat,Hid (a.al=al):=⟨a.al.toNat,by unfold Hid;omega⟩
 have hsm:Sm al:=by have:=hal.out;unfold Sm;omega
 have htn:a.al.toNat=al:=by have:=hal.out;omega
 have Hn:=hide h.n1
 have HN:=hide (fun W (hW:Ext w W)=>h.1.ext hW)
 have hqm:q<m:=by rw [h.n1];exact hq
 have hG:=hide (show aGo a q l=if al.testBit l then ((a.next.getD q []).getD (place al l) 0).toNat else q by unfold aGo;rw [htn])
 have hrow:a.next[q]?=some a.next[q]:=List.getElem?_eq_getElem hq
 obtain⟨hr1,hr2⟩:=hrows q _ hrow
 rw [htn] at hr1
 have Hrow:=hide hrow
 have Hr2:=hide hr2
 have Hr1:=hide hr1
 have hlm:=h.1.len
 clear hr1 hr2 hrow htn hrows h
 generalize a.next[q]=row at *
 cases hb:al.testBit l
 ·have Hb:=hide hb
  clear hb
  rw [hal.out]
  clear al0 al1
  go_enter Tryz.func198,Tryz.ntmps198
  go_wp2_with (go_at_call 147;refine (zad al l hsm _ (by omega)).mono ?_;rw [Hb.out];rintro e w' ⟨rfl,rfl⟩)
  go_ret
  exact⟨zE (by rw [hG.out,Hb.out];rfl),(Ext.refl _).alloc _⟩
 ·have hp:=hide (place_lt hl hb)
  have Hb:=hide hb
  clear hb
  rw [hal.out]
  clear al0 al1
  have hpr:place al l<row.length:=by rw [Hr1.out];exact hp.out
  obtain⟨x,hx⟩:∃ x,Hid (row[place al l]?=some x):=⟨_,List.getElem?_eq_getElem hpr⟩
  obtain⟨x0,x1⟩:=Hr2.out x (List.mem_of_getElem? hx.out)
  obtain⟨y,rfl⟩:∃ y:Nat,x=y:=⟨x.toNat,by omega⟩
  have hfin:=hide (show aGo a q l=y by rw [hG.out,Hb.out,if_pos rfl];simp only [List.getD_eq_getElem?_getD,Hrow.out,Option.getD_some,hx.out];rfl)
  go_enter Tryz.func198,Tryz.ntmps198
  go_wp2_with (go_at_call 147;refine (zad al l hsm _ (by omega)).mono ?_;rw [Hb.out];rintro e w' ⟨rfl,rfl⟩)
  have hw1:Ext w (w.alloc (.cells #[.int .i64 al,.slice B m d,.slice B' m' d'] 27)):=(Ext.refl w).alloc _
  have hb1:=Blk.new w 27 #[.int .i64 al,.slice B m d,.slice B' m' d']
  generalize w.alloc (.cells #[.int .i64 al,.slice B m d,.slice B' m' d'] 27)=w1 at *
  obtain⟨ad,Ak,ck,l',rfl,_,_,hl',hc,hrd⟩:=(HN.out w1 hw1).row hqm
  obtain rfl:row=l':=by have h1:=Hrow.out;have h2:=hl'.out;rw [h1] at h2;exact Option.some.inj h2
  have hpc:∀ W,Ext w1 W→∃ ad',Ak=some ad'∧W.cell? (ad'.add (place al l))=some (.int .i64 (y:Nat)):=fun W hW=>by
   obtain⟨ad',z,e,_,_,hz,hcz⟩:=(hrd.ext hW).int hpr
   have h1:=hx.out;have h2:=hz.out
   rw [h1] at h2
   obtain rfl:=Option.some.inj h2
   exact⟨ad',e,hcz⟩
  obtain⟨ad',rfl,_⟩:=hpc w1 (Ext.refl _)
  have c2:∀ W,Ext w1 W→W.cell? (ad'.add (place al l))=some (.int .i64 (y:Nat)):=fun W hW=>by
   obtain⟨ad2,e,h⟩:=hpc W hW
   injection e with e
   subst e
   exact h
  have c1:∀ W,Ext w1 W→W.cell? (ad.add q)=some (.slice (some ad') row.length ck):=fun W hW=>hW.cell_some hc
  have c0:=hb1.cells
  clear hpc hc hrd
  have hpi:(place al l:Int)<(row.length:Int):=by omega
  have hrr:=Ext.refl w1
  generalize hpp:place al l=pl at *
  have Hpp:=hide hpp
  clear hpp
  go_wp2_with fail
  go_region_held3 (fun W=>Ext w1 W) (first|assumption|(refine Ext.drew ?_;assumption)|(refine Ext.trans ?_ (by assumption);assumption)|(refine Ext.trans ?_ (by assumption);refine Ext.drew ?_;assumption)) ((go_at_call 217;refine (spec_l1Place al l hsm (by omega) _).mono ?_;rw [Hpp.out];rintro e w' ⟨rfl,rfl⟩))
  go_wp2
  go_ret
  exact⟨zE (by rw [hfin.out]),hw1.trans (by assumption)⟩
abbrev Lay (α:Type):=World→Nat→Nat→Value→α→Prop
structure Lay.Ok {α:Type} (P:Lay α):Prop where
 frm:∀ {S:Nat→Prop} {W W':World} {lo hi:Nat} {r:Value} {x:α},P W lo hi r x→Frm S W W'→(∀ k,lo≤k→k<hi→¬ S k)→P W' lo hi r x
 more:∀ {W:World} {lo hi lo' hi':Nat} {r:Value} {x:α},P W lo hi r x→lo'≤lo→hi≤hi'→P W lo' hi' r x
def NatP:Lay Nat:=fun _ _ _ r n=>r=.int .i64 (n:Nat)
theorem NatP.ok:Lay.Ok NatP:=⟨fun h _ _=>h,fun h _ _=>h⟩
def Lst {α:Type} (P:Lay α) (W:World) (lo hi:Nat) (A:Option Addr) (xs:List α):Prop:=
 ∃ rows,Reads W lo hi 1 A xs.length rows∧∀ (i:Nat) (r:Value) (x:α),rows[i]?=some r→xs[i]?=some x→P W lo hi r x
def LstP {α:Type} (P:Lay α):Lay (List α):=fun W lo hi r xs=>∃ A c,r=.slice A xs.length c∧Lst P W lo hi A xs
section
variable {α:Type} {P:Lay α} {W W':World} {lo hi:Nat} {A:Option Addr} {xs:List α}
theorem Lst.frm (hP:Lay.Ok P) {S:Nat→Prop}(h:Lst P W lo hi A xs)(hx:Frm S W W')(hS:∀ k,lo≤k→k<hi→¬ S k):Lst P W' lo hi A xs:=by
 obtain⟨rows,h1,h2⟩:=h
 exact⟨rows,h1.frm hx hS,fun i r x hr hx'=>hP.frm (h2 i r x hr hx') hx hS⟩
theorem Lst.ext (hP:Lay.Ok P)(h:Lst P W lo hi A xs)(hx:Ext W W'):Lst P W' lo hi A xs:=h.frm hP hx (fun _ _ _ h=>h)
theorem Lst.more (hP:Lay.Ok P) {lo' hi':Nat}(h:Lst P W lo hi A xs)(h1:lo'≤lo)(h2:hi≤hi'):Lst P W lo' hi' A xs:=by
 obtain⟨rows,h3,h4⟩:=h
 exact⟨rows,h3.more h1 h2,fun i r x hr hx'=>hP.more (h4 i r x hr hx') h1 h2⟩
theorem LstP.ok (hP:Lay.Ok P):Lay.Ok (LstP P):=by
 refine⟨fun h hx hS=>?_,fun h h1 h2=>?_⟩
 ·obtain⟨A,c,e,h⟩:=h
  exact⟨A,c,e,h.frm hP hx hS⟩
 ·obtain⟨A,c,e,h⟩:=h
  exact⟨A,c,e,h.more hP h1 h2⟩
theorem Lst.len (h:Lst P W lo hi A xs):xs.length≤9223372036854775807:=by
 obtain⟨rows,h1,_⟩:=h
 exact h1.len
theorem Lst.get {k:Nat}(h:Lst P W lo hi A xs)(hk:k<xs.length):∃ b o r x,A=some ⟨b,o,none⟩∧lo≤b∧b<hi∧Hid (xs[k]?=some x)∧W.cell? ⟨b,o+k,none⟩=some r∧P W lo hi r x:=by
 obtain⟨rows,h1,h2⟩:=h
 have hl:=h1.length
 rw [Nat.mul_one] at hl
 obtain⟨ad,e,h3,h4,h5⟩:=h1.at_ hk
 have hr0:rows[0]?=some (rows[0]'(by omega)):=List.getElem?_eq_getElem _
 have hrk:rows[k]?=some (rows[k]'(by omega)):=List.getElem?_eq_getElem _
 have hs:=zcq (h5 0 _ hr0)
 have hc:=h5 k _ hrk
 rw [hs,zO] at hc
 exact⟨ad.block,ad.off,_,_,by rw [e,← hs],h3,h4,List.getElem?_eq_getElem hk,hc,h2 k _ _ hrk (List.getElem?_eq_getElem hk)⟩
theorem Lst.get2 {k b o:Nat} {x:α}(h:Lst P W lo hi (some ⟨b,o,none⟩) xs)(hx:xs[k]?=some x):∃ r,W.cell? ⟨b,o+k,none⟩=some r∧P W lo hi r x:=by
 obtain⟨b',o',r,y,e,_,_,hy,hc,hp⟩:=h.get (List.getElem?_eq_some_iff.1 hx).1
 injection e with e
 injection e with e1 e2
 subst e1;subst e2
 rw [hx] at hy
 have:=Option.some.inj hy.out
 subst this
 exact⟨r,hc,hp⟩
end
theorem Lst.of_nats {W:World} {lo hi:Nat} {A:Option Addr} {xs:List Nat}(h:Reads W lo hi 1 A xs.length (nats xs)):Lst NatP W lo hi A xs:=⟨nats xs,h,fun i r x hr hx=>by
 simp only [nats,List.getElem?_map,hx,Option.map_some] at hr
 exact (Option.some.inj hr).symm⟩
theorem Lst.own_nats {W:World} {base c:Nat} {A:Option Addr} {xs:List Nat}(h:W.ownsRow base 3 1 (.slice A xs.length c) xs.length (nats xs)):Lst NatP W base W.heap.size A xs:=Lst.of_nats (Reads.of_own h)
theorem Lst.num {W:World} {lo hi k:Nat} {A:Option Addr} {xs:List Nat}(h:Lst NatP W lo hi A xs)(hk:k<xs.length):∃ b o x,A=some ⟨b,o,none⟩∧lo≤b∧b<hi∧Hid (xs[k]?=some x)∧W.cell? ⟨b,o+k,none⟩=some (.int .i64 (x:Nat)):=by
 obtain⟨b,o,r,x,e,h1,h2,h3,h4,h5⟩:=h.get hk
 exact⟨b,o,x,e,h1,h2,h3,by rw [h4,h5]⟩
theorem Lst.num2 {W:World} {lo hi k b o x:Nat} {xs:List Nat}(h:Lst NatP W lo hi (some ⟨b,o,none⟩) xs)(hx:xs[k]?=some x):W.cell? ⟨b,o+k,none⟩=some (.int .i64 (x:Nat)):=by
 obtain⟨r,h1,h2⟩:=h.get2 hx
 rw [h1,h2]
def Grl {α:Type} (P:Lay α) (W:World) (base:Nat) (e:TypeId) (v:Value) (xs:List α):Prop:=
 ∃ rows:List Value,W.ownsRow base e 1 v xs.length rows∧∀ (i:Nat) (r:Value) (x:α),rows[i]?=some r→xs[i]?=some x→∃ lo hi,base≤lo∧hi≤W.heap.size∧P W lo hi r x∧∀ b,v.ownBlock=some b→b<lo∨hi≤b
section
variable {α:Type} {P:Lay α} {W W':World} {base:Nat} {e:TypeId} {v:Value} {xs:List α}
theorem Grl.form (h:Grl P W base e v xs):∃ A c,v=.slice A xs.length c:=by
 obtain⟨rows,h1,_⟩:=h
 exact zh h1
theorem Grl.lst (hP:Lay.Ok P) {A:Option Addr} {n c:Nat}(h:Grl P W base e (.slice A n c) xs):Lst P W base W.heap.size A xs:=by
 obtain⟨rows,h1,h2⟩:=h
 have hn:n=xs.length:=by
  obtain⟨A',c',hh⟩:=zh h1
  injection hh
 subst hn
 refine⟨rows,Reads.of_own h1,fun i r x hr hx=>?_⟩
 obtain⟨lo,hi,h3,h4,h5,_⟩:=h2 i r x hr hx
 exact hP.more h5 h3 h4
theorem Grl.push (hP:Lay.Ok P) {W1:World} {rows:List Value} {v' r:Value} {x:α} {lo hi:Nat}(h2:∀ (i:Nat) (r:Value) (x:α),rows[i]?=some r→xs[i]?=some x→∃ lo hi,base≤lo∧hi≤W.heap.size∧P W lo hi r x∧∀ b,v.ownBlock=some b→b<lo∨hi≤b)(h1:W.ownsRow base e 1 v xs.length rows)
  (hx:Ext W W1) (hr:P W1 lo hi r x) (hlo:W.heap.size≤lo) (hb:base≤lo) (hhi:hi≤W1.heap.size) (hown:W'.ownsRow base e 1 v' (xs.length+1) (rows++[r])) (hg:W1.grownBy W' v.ownBlock) (hat:v'.ownBlock=v.ownBlock∨v'.ownBlock=some (W1.heap.size+1)):Grl P W' base e v' (xs++[x]):=by
 have hlen:rows.length=xs.length:=by have:=zeB h1;omega
 have hfr:Frm (fun k=>v.ownBlock=some k) W1 W':=Frm.of_grown hg
 refine⟨rows++[r],by rw [List.length_append,List.length_singleton];exact hown,fun i s y hs hy=>?_⟩
 rcases Nat.lt_trichotomy i rows.length with hi' | hi' | hi'
 ·rw [List.getElem?_append_left hi'] at hs
  rw [List.getElem?_append_left (by omega)] at hy
  obtain⟨lo',hi'',h3,h4,h5,h6⟩:=h2 i s y hs hy
  refine⟨lo',hi'',h3,Nat.le_trans h4 (Nat.le_trans hx.size hfr.size),hP.frm (hP.frm h5 hx (fun _ _ _ h=>h)) hfr (fun k hk1 hk2 hk=>by have:=h6 k hk;omega),fun b hb'=>?_⟩
  rcases hat with h7|h7
  ·rw [h7] at hb';exact h6 b hb'
  ·rw [h7] at hb'
   have:=Option.some.inj hb'
   have:=hx.size
   omega
 ·rw [List.getElem?_append_right (by omega),hi',Nat.sub_self] at hs
  rw [List.getElem?_append_right (by omega),hi',hlen,Nat.sub_self] at hy
  simp at hs hy
  subst hs;subst hy
  refine⟨lo,hi,hb,Nat.le_trans hhi hfr.size,hP.frm hr hfr (fun k hk1 hk2 hk=>by have:=(h1.lt k hk).2;omega),fun b hb'=>?_⟩
  rcases hat with h7|h7
  ·rw [h7] at hb'
   have:=(h1.lt b hb').2
   omega
  ·rw [h7] at hb'
   have:=Option.some.inj hb'
   omega
 ·rw [List.getElem?_eq_none (by simp;omega)] at hs;cases hs
theorem Grl.push2 (hP:Lay.Ok P) {W1:World} {rows:List Value} {r:Value} {x:α} {lo hi g cap:Nat}(h2:∀ (i:Nat) (r:Value) (x:α),rows[i]?=some r→xs[i]?=some x→∃ lo hi,base≤lo∧hi≤W.heap.size∧P W lo hi r x∧∀ b,v.ownBlock=some b→b<lo∨hi≤b)(h1:W.ownsRow base e 1 v xs.length rows)
  (hx:Ext W W1) (hr:P W1 lo hi r x) (hlo:W.heap.size≤lo) (hb:base≤lo) (hhi:hi≤W1.heap.size) (hown:W'.ownsRow base e 1 (.slice (some ⟨g,0,none⟩) (xs.length+1) cap) (xs.length+1) (rows++[r])) (hg:W1.grownBy W' v.ownBlock) (hat:v.ownBlock=some g∨g=W1.heap.size+1):Grl P W' base e (.slice (some ⟨g,0,none⟩) (xs.length+1) cap) (xs++[x]):=
 Grl.push hP h2 h1 hx hr hlo hb hhi hown hg (by
  rcases hat with h|h
  ·exact Or.inl h.symm
  ·exact Or.inr (by rw [h];rfl))
end
section
variable {P:Program} {ops:Array Oper} {Q:Exit→Act→World→Prop} {md:Region.Mode} {S:Array Bool→World→Prop}
def wpAnyL (P:Program) (md:Region.Mode) (ops:Array Oper) (Q:Exit→Act→World→Prop) (S:Array Bool→World→Prop):Nat→Array Bool→Act→World→Prop
 |0,listed,a,w=>Region.ready md ops listed=[]∧Q .normal a w
 |fuel+1,listed,a,w =>
  (Region.ready md ops listed=[]→Q .normal a w) ∧
  ∀ i∈Region.ready md ops listed,wpOp P ops Q i (fun a' w'=>S (listed.setIfInBounds i true) w'∧wpAnyL P md ops Q S fuel (listed.setIfInBounds i true) a' w') a w
theorem zeI:∀ (fuel:Nat) (listed:Array Bool) (a:Act) (w:World),wpAnyL P md ops Q S fuel listed a w→wpAny P md ops Q fuel listed a w
 |0,_,_,_,h=>h
 |fuel+1,_,_,_,h=>⟨h.1,fun i hi=>wpOp_mono (fun a' w' h'=>zeI fuel _ a' w' h'.2) (h.2 i hi)⟩
theorem wpAnyL_first {i:Nat} {oi:Oper} {v:Value} {Si:World→Prop} {G:Array Bool→Prop}(hi:ops[i]?=some oi)(hsel:∀ (j:Nat) (o:Oper) cs b,ops[j]?=some o→o.op≠.select cs b)
  (hQ:∀ c a w,Q (.panic c) (a.put oi.dst v) w→Q (.panic c) a w)
  (hG:∀ listed j,j∈Region.ready md ops listed→G listed→G (listed.setIfInBounds j true))
  (hSi:∀ listed w,G listed→listed.getD i true=false→S listed w→Si w)
  (hup:∀ listed w,S listed w→S (listed.setIfInBounds i true) w) (hdn:∀ listed w,listed.getD i true=false→S (listed.setIfInBounds i true) w→S listed w) :
  ∀ (fuel:Nat) (listed:Array Bool) (a:Act) (w:World),G listed →
   (∀ j oj,ops[j]?=some oj→j≠i→listed.getD j true=false→(∀ e∈oj.after,Region.binds md e=true→e.on≠i)→oi.apart ops oj=true) →
   i∈Region.ready md ops listed→YieldsIf P ops Si oi v a→S listed w →
   wpAnyL P md ops Q S fuel (listed.setIfInBounds i true) (a.put oi.dst v) w→wpAnyL P md ops Q S (fuel+1) listed a w:=by
 intro fuel
 induction fuel with
 |zero =>
  intro listed a w hg _ hr hy hS H
  refine⟨fun h=>(by rw [h] at hr;cases hr),fun j hj=>?_⟩
  by_cases hji:j=i
  ·subst hji;exact hy.wpOp hi (hSi _ _ hg (mem_ready.1 hr).1 hS) ⟨hup _ _ hS,H⟩
  ·have:=ready_mono hj hji
   rw [H.1] at this
   cases this
 |succ fuel ih =>
  intro listed a w hg hfree hr hy hS H
  refine⟨fun h=>(by rw [h] at hr;cases hr),fun j hj=>?_⟩
  by_cases hji:j=i
  ·subst hji;exact hy.wpOp hi (hSi _ _ hg (mem_ready.1 hr).1 hS) ⟨hup _ _ hS,H⟩
  ·have h1:=H.2 j (ready_mono hj hji)
   obtain⟨hjun,oj,hoj,hall⟩:=mem_ready.1 hj
   have hnot:∀ e∈oj.after,Region.binds md e=true→e.on≠i:=fun e he hb heq=>by
    have h1:=hall e he hb
    have h0:=(mem_ready.1 hr).1
    rw [heq] at h1
    rcases Nat.lt_or_ge i listed.size with h' | h'
    ·simp [h'] at h0 h1;rw [h0] at h1;cases h1
    ·simp [Array.getElem?_eq_none h'] at h1
   have h2:=wpOp_putIf hoj (hfree j oj hoj hji hjun hnot) (fun cs b=>hsel i oi cs b hi) (fun cs b=>hsel j oj cs b hoj) hQ hy h1
   have hfree':∀ k ok,ops[k]?=some ok→k≠i→(listed.setIfInBounds j true).getD k true=false →
     (∀ e∈ok.after,Region.binds md e=true→e.on≠i)→oi.apart ops ok=true:=fun k ok hk hki hun hno=>by
    refine hfree k ok hk hki ?_ hno
    by_cases hjk:j=k
    ·subst hjk;exact hjun
    ·rw [getD_set_ne true hjk] at hun;exact hun
   have hiun:(listed.setIfInBounds j true).getD i true=false:=by
    rw [getD_set_ne true hji];exact (mem_ready.1 hr).1
   refine wpOp_mono (fun a' w' h3=>?_) h2
   have h4:S (listed.setIfInBounds j true) w':=hdn _ _ hiun (by rw [Array.setIfInBounds_comm _ _ hji];exact h3.2.1)
   refine⟨h4,ih (listed.setIfInBounds j true) a' w' (hG _ _ hj hg) hfree' (ready_mono hr (Ne.symm hji)) h3.1 h4 ?_⟩
   rw [Array.setIfInBounds_comm _ _ hji]
   exact h3.2.2
end
def Clo (l:List Oper) (listed:Array Bool):Prop:=∀ j,listed.getD j false=true→∀ o,l[j]?=some o→∀ e∈o.after,Region.binds .any e=true→listed.getD e.on false=true
def below (l:List Oper):Nat→Nat→Nat→Bool
 |0,_,_=>false
 |f+1,t,i=>match l[t]? with
  |some o=>o.after.any fun e=>Region.binds .any e&&(e.on==i || below l f e.on i)
  |none=>false
theorem zew {l:List Oper} {listed:Array Bool}(hc:Clo l listed):∀ (f t i:Nat),below l f t i=true→listed.getD t false=true→listed.getD i false=true
 |0,_,_,h,_=>by simp [below] at h
 |f+1,t,i,h,ht=>by
  unfold below at h
  cases ho:l[t]? with
  |none=>simp [ho] at h
  |some o =>
   simp only [ho] at h
   obtain⟨e,he,hb⟩:=Array.any_eq_true'.1 h
   simp only [Bool.and_eq_true,Bool.or_eq_true,beq_iff_eq] at hb
   have h1:=hc t ht o ho e he hb.1
   rcases hb.2 with h2|h2
   ·rw [← h2];exact h1
   ·exact zew hc f e.on i h2 h1
theorem zaV {l:List Oper} {listed:Array Bool} {j:Nat}(hj:j∈Region.ready .any l.toArray listed)(h:Clo l listed):Clo l (listed.setIfInBounds j true):=by
 intro k hk o ho e he hb
 by_cases hkj:j=k
 ·subst hkj
  obtain⟨_,o',ho',hall⟩:=mem_ready.1 hj
  have:o'=o:=by
   have h1:l[j]?=some o':=by simpa using ho'
   rw [ho] at h1
   exact (Option.some.inj h1).symm
  subst this
  exact getD_set_true (hall e he hb)
 ·rw [getD_set_ne false hkj] at hk
  exact getD_set_true (h k hk o ho e he hb)
def pureOp:Op→Bool
 |.move _ | .assign _ | .pick _ _ _ | .binOp _ _ _ _ _ | .unOp _ _ _ | .fieldAddr _ _ _ | .field _ _ _ | .extract _ _ | .build _ _=>true
 |_=>false
inductive Ord where
 |nil:Ord
 |one:Nat→Ord→Ord
 |two:Nat→Ord→Nat→Ord→Ord
def Ord.of:List Nat→Ord
 |[]=>.nil
 |i :: r=>.one i (Ord.of r)
def Ord.app:List Nat→Ord→Ord
 |[],o=>o
 |i :: r,o=>.one i (Ord.app r o)
def zdz (l:List Oper) (T:List Nat):Ord→Array Bool→Bool
 |.nil,listed=>(Region.ready .any l.toArray listed).isEmpty
 |.one i rest,listed =>
  (match l[i]? with
   |some o=>if zbC o.op then Region.free .any l.toArray listed i&&(Region.ready .any l.toArray listed).contains i&&!T.contains i&&(pureOp o.op || T.all fun t=>below l l.length t i)
    else Region.ready .any l.toArray listed==[i]
   |none=>false)&&zdz l T rest (listed.setIfInBounds i true)
 |.two i r j r',listed=>(i<l.length&&j<l.length&&Region.ready .any l.toArray listed==[i,j])&&(zdz l T r (listed.setIfInBounds i true)&&zdz l T r' (listed.setIfInBounds j true))
def zaB (P:Program) (l:List Oper) (T:List Nat) (Q:Exit→Act→World→Prop) (S:World→Prop):Ord→Act→World→Prop
 |.nil,a,w=>Q .normal a w
 |.one i rest,a,w=>match l[i]? with
  |some o=>if zbC o.op then ∃ v,YieldsIf P l.toArray (if pureOp o.op then fun _=>True else S) o v a∧zaB P l T Q S rest (a.put o.dst v) w
   else wpOp P l.toArray Q i (fun a' w'=>(T.contains i=false→S w')∧zaB P l T Q S rest a' w') a w
  |none=>False
 |.two i r j r',a,w=>wpOp P l.toArray Q i (fun a' w'=>(T.contains i=false→S w')∧zaB P l T Q S r a' w') a w∧wpOp P l.toArray Q j (fun a' w'=>(T.contains j=false→S w')∧zaB P l T Q S r' a' w') a w
def Ord.len:Ord→Nat
 |.nil=>0
 |.one _ r=>r.len+1
 |.two _ r _ r'=>(if r.len=r'.len then r.len else 0)+1
def Ord.even:Ord→Bool
 |.nil=>true
 |.one _ r=>r.even
 |.two _ r _ r'=>r.len==r'.len&&(r.even&&r'.even)
section
variable {P:Program} {l:List Oper} {Q:Exit→Act→World→Prop} {S:World→Prop} {T:List Nat}
def zcB (T:List Nat) (listed:Array Bool):Prop:=∃ t∈T,listed.getD t false=true
theorem zcy (hs:Region.noSelect l.toArray=true)(hQ:∀ (c:List PanicEntry) (a:Act) (d:Tmp) (v:Value) (w:World),Q (.panic c) (a.put (some d) v) w→Q (.panic c) a w) :
  ∀ (ord:Ord) (listed:Array Bool) (a:Act) (w:World),listed.size=l.length→Clo l listed→ord.even=true→zdz l T ord listed=true→(zcB T listed∨S w)→zaB P l T Q S ord a w →
   wpAnyL P .any l.toArray Q (fun listed w=>zcB T listed∨S w) ord.len listed a w
 |.nil,listed,a,w,_,_,_,hok,_,h=>by
  simp only [zdz,List.isEmpty_iff] at hok
  exact⟨hok,h⟩
 |.one i rest,listed,a,w,hsz,hc,hev,hok,hS,h=>by
  cases ho:l[i]? with
  |none=>simp [zdz,ho] at hok
  |some o =>
   have hil:i<l.length:=(List.getElem?_eq_some_iff.1 ho).1
   simp only [zdz,ho,Bool.and_eq_true] at hok
   simp only [zaB,ho] at h
   by_cases hq:zbC o.op=true
   ·rw [if_pos hq] at hok h
    simp only [Bool.and_eq_true] at hok
    obtain⟨⟨⟨⟨hf,hrd⟩,hnT⟩,hpure⟩,hrest⟩:=hok
    obtain⟨v,hy,hr⟩:=h
    have hmem:i∈Region.ready .any l.toArray listed:=by simpa using hrd
    have hnT':i∉T:=by simpa using hnT
    have hset:∀ listed:Array Bool,zcB T (listed.setIfInBounds i true)↔zcB T listed:=fun listed=>by
     constructor
     ·rintro ⟨t,ht,hl⟩
      refine⟨t,ht,?_⟩
      rwa [getD_set_ne false (by rintro rfl;exact hnT' ht)] at hl
     ·rintro ⟨t,ht,hl⟩
      exact⟨t,ht,getD_set_true hl⟩
    refine wpAnyL_first (G:=fun listed=>Clo l listed∧listed.size=l.length) (by simpa using ho) (Region.noSelect_spec hs)
     (fun c a w h=>by cases hd:o.dst with|none=>rw [hd] at h;exact h|some d=>rw [hd] at h;exact hQ c a d v w h)
     (fun li j hj hg=>⟨zaV hj hg.1,by simpa using hg.2⟩) ?_ (fun li w h=>h.imp (fun x=>(hset li).2 x) id) (fun li w _ h=>h.imp (fun x=>(hset li).1 x) id)
     rest.len listed a w ⟨hc,hsz⟩ (Region.free_spec (by simpa using ho) hf) hmem hy hS ?_
    ·intro li w' hg hun h
     by_cases hp:pureOp o.op=true
     ·rw [if_pos hp];trivial
     ·rw [if_neg hp]
      rcases h with ⟨t,ht,hl⟩|h
      ·exfalso
       simp only [hp,Bool.false_or] at hpure
       have hb:=List.all_eq_true.1 hpure t ht
       have h1:=zew hg.1 _ _ _ hb hl
       have h2:i<li.size:=by rw [hg.2];exact hil
       simp [h2] at hun h1
       rw [h1] at hun;cases hun
      ·exact h
    ·exact zcy hs hQ rest _ _ _ (by simpa using hsz) (zaV hmem hc) hev hrest (hS.imp (fun x=>(hset _).2 x) id) hr
   ·rw [if_neg hq] at hok h
    have hready:Region.ready .any l.toArray listed=[i]:=by simpa using hok.1
    have hmem:i∈Region.ready .any l.toArray listed:=by rw [hready];simp
    refine⟨fun h0=>(by rw [h0] at hready;cases hready),fun j hj=>?_⟩
    rw [hready] at hj
    rw [List.mem_singleton.1 hj]
    refine wpOp_mono (fun a' w' h=>?_) h
    have hS':zcB T (listed.setIfInBounds i true)∨S w':=by
     cases hT:T.contains i
     ·exact Or.inr (h.1 hT)
     ·refine Or.inl ⟨i,by simpa using hT,?_⟩
      have:i<listed.size:=by omega
      simp [this]
    exact⟨hS',zcy hs hQ rest _ _ _ (by simpa using hsz) (zaV hmem hc) hev hok.2 hS' h.2⟩
 |.two i r j r',listed,a,w,hsz,hc,hev,hok,hS,h=>by
  simp only [Ord.even,Bool.and_eq_true,beq_iff_eq] at hev
  simp only [zdz,Bool.and_eq_true,decide_eq_true_eq,beq_iff_eq] at hok
  simp only [zaB] at h
  obtain⟨⟨⟨hi,hj⟩,hready⟩,hok1,hok2⟩:=hok
  have hlen:(Ord.two i r j r').len=r.len+1:=by simp [Ord.len,hev.1]
  rw [hlen]
  have hm:∀ k,k∈Region.ready .any l.toArray listed↔k=i∨k=j:=fun k=>by rw [hready];simp
  have hS':∀ k w',k<l.length→(T.contains k=false→S w')→zcB T (listed.setIfInBounds k true)∨S w':=fun k w' hk hx=>by
   cases hT:T.contains k
   ·exact Or.inr (hx hT)
   ·refine Or.inl ⟨k,by simpa using hT,?_⟩
    have:k<listed.size:=by omega
    simp [this]
  refine⟨fun h0=>(by rw [h0] at hready;cases hready),fun k hk=>?_⟩
  rcases (hm k).1 hk with hk' | hk'
  ·rw [hk'] at hk ⊢
   refine wpOp_mono (fun a' w' h=>?_) h.1
   exact⟨hS' _ _ hi h.1,zcy hs hQ r _ _ _ (by simpa using hsz) (zaV hk hc) hev.2.1 hok1 (hS' _ _ hi h.1) h.2⟩
  ·rw [hk'] at hk ⊢
   refine wpOp_mono (fun a' w' h=>?_) h.2
   have:=zcy hs hQ r' _ _ _ (by simpa using hsz) (zaV hk hc) hev.2.2 hok2 (hS' _ _ hj h.1) h.2
   rw [← hev.1] at this
   exact⟨hS' _ _ hj h.1,this⟩
theorem clo_start (l:List Oper):Clo l (Array.replicate l.length false):=by
 intro j hj
 exfalso
 rcases Nat.lt_or_ge j l.length with h|h
 ·simp [h] at hj
 ·simp [Nat.not_lt.2 h] at hj
theorem zgm {id:Nat} {a:Act} {w:World} (S:World→Prop) (T:List Nat) (ord:Ord)(hm:P.follows .mixedOrders=true)(hlen:ord.len=l.length)(hev:ord.even=true)(hs:Region.noSelect l.toArray=true)(hok:zdz l T ord (Array.replicate l.length false)=true)
  (hQ:∀ (c:List PanicEntry) (a:Act) (d:Tmp) (v:Value) (w:World),Q (.panic c) (a.put (some d) v) w→Q (.panic c) a w) (hS:S w.drew) (h:zaB P l T Q S ord a w.drew):(Code.region id l.toArray true).wp P Q a w:=by
 refine wp_region_any hm ?_
 have:=zeI _ _ _ _ (zcy hs hQ ord _ a w.drew (by simp) (clo_start l) hev hok (Or.inr hS) h)
 rw [hlen] at this
 simpa using this
theorem zag {a:Act} {w:World}(h:Q .normal a w):zaB P l T Q S .nil a w:=h
theorem tseq_pure {i:Nat} {rest:Ord} {o:Oper} {v:Value} {a:Act} {w:World}(ho:l[i]?=some o)(hq:zbC o.op=true) (_hp:pureOp o.op=true)(hw:Region.wanted o (yielded l.toArray a.tmps)=true)
  (hy:∀ W,(execOp a.eval o).run P W=.ok (.value v) W) (h:zaB P l T Q S rest (a.put o.dst v) w):zaB P l T Q S (.one i rest) a w:=by
 simp only [zaB,ho,hq,if_true]
 exact⟨v,.inl ⟨hw,fun W _=>hy W⟩,h⟩
theorem tseq_read {i:Nat} {rest:Ord} {o:Oper} {v:Value} {a:Act} {w:World}(ho:l[i]?=some o)(hq:zbC o.op=true)(hp:pureOp o.op=false)(hw:Region.wanted o (yielded l.toArray a.tmps)=true)
  (hy:∀ W,S W→(execOp a.eval o).run P W=.ok (.value v) W) (h:zaB P l T Q S rest (a.put o.dst v) w):zaB P l T Q S (.one i rest) a w:=by
 simp only [zaB,ho,hq,hp,if_true]
 exact⟨v,.inl ⟨hw,hy⟩,h⟩
theorem yH02a2 {P:Prop}(h:P:=by
 split
 ·exact⟨undef,.inr ⟨hw,rfl⟩,h⟩
 ·unfold wpOp
  simp only [List.getElem?_toArray,ho,hw,Bool.false_eq_true,if_false]
  exact⟨fun _=>hS,h⟩
 ):P:=h
theorem tseq_skip {i:Nat} {rest:Ord} {o:Oper} {a:Act} {w:World}(ho:l[i]?=some o)(hw:Region.wanted o (yielded l.toArray a.tmps)=false)
  (hS:S w) (h:zaB P l T Q S rest (a.put o.dst undef) w):zaB P l T Q S (.one i rest) a w:=by
 simp only [zaB,ho]
 exact yH02a2
theorem zA {i:Nat} {rest:Ord} {o:Oper} {a:Act} {w:World}(ho:l[i]?=some o)(hq:zbC o.op=false)(hw:Region.wanted o (yielded l.toArray a.tmps)=true)
  (h:∀ K:Act→World→Prop,Shut (∀ a w,S w→zaB P l T Q S rest a w→K a w)→o.wp P a w K Q):zaB P l T Q S (.one i rest) a w:=by
 simp only [zaB,ho,hq]
 unfold wpOp
 simp only [List.getElem?_toArray,ho,hw,if_true]
 exact .inl (h _ fun a w hS hW=>⟨fun _=>hS,hW⟩)
theorem zN {i:Nat} {rest:Ord} {o:Oper} {a:Act} {w:World}(ho:l[i]?=some o)(hq:zbC o.op=false)(hT:T.contains i=true)(hw:Region.wanted o (yielded l.toArray a.tmps)=true)
  (h:∀ K:Act→World→Prop,Shut (∀ a w,zaB P l T Q S rest a w→K a w)→o.wp P a w K Q):zaB P l T Q S (.one i rest) a w:=by
 simp only [zaB,ho,hq]
 unfold wpOp
 simp only [List.getElem?_toArray,ho,hw,if_true]
 exact .inl (h _ fun a w hW=>⟨fun hn=>absurd (hn.symm.trans hT) (by decide),hW⟩)
end
section
variable {P:Program} {l:List Oper} {Q:Exit→Act→World→Prop} {S:World→Prop} {T:List Nat}
theorem yH02a1 {P:Prop}(h:P:=by
 constructor
 ·unfold wpOp
  simp only [List.getElem?_toArray,ho,hw,if_true]
  exact .inl (h1 _ fun a w hS hW=>⟨fun _=>hS,hW⟩)
 ·unfold wpOp
  simp only [List.getElem?_toArray,ho',hw',if_true]
  exact .inl (h2 _ fun a w hS hW=>⟨fun _=>hS,hW⟩)
 ):P:=h
theorem zet {i j:Nat} {r r':Ord} {o o':Oper} {a:Act} {w:World}(ho:l[i]?=some o)(ho':l[j]?=some o')(hw:Region.wanted o (yielded l.toArray a.tmps)=true)(hw':Region.wanted o' (yielded l.toArray a.tmps)=true)
  (h1:∀ K:Act→World→Prop,Shut (∀ a w,S w→zaB P l T Q S r a w→K a w)→o.wp P a w K Q) (h2:∀ K:Act→World→Prop,Shut (∀ a w,S w→zaB P l T Q S r' a w→K a w)→o'.wp P a w K Q):zaB P l T Q S (.two i r j r') a w:=by
 exact yH02a1
end
theorem zaG {P:Program} (wb w:World) {o:Oper} {a:Act} {K:Act→World→Prop} {Q:Exit→Act→World→Prop} (s x:Operand) (t:TypeId)
  (ho:o.op=.call { callee:=.builtin .append,args:=#[s,x],argTypes:=#[t,t] })
  (e:TypeId) (z:Value) (size bytes:Nat) (ht:P.underlying t=some (.slice e)) (hi:(P.info? e).map (fun i=>(i.zero,i.size,i.bytes))=some (some z,size,bytes)) (hzs:z.cells.size=size) (hsz:0<size)
  (v:Value) (n:Nat) (xs:List Value) (us:Array Value) (e':TypeId) (hs:a.eval s=v) (hx:a.eval x=.slice (some ⟨w.heap.size,0,none⟩) 1 1)
  (hext:wb.heap.size≤w.heap.size) (hown:w.ownsRow wb.heap.size e size v n xs) (hus:us.size=size) (h1:∀ u∈us.toList,u.oneCell'=true)
  (h63:n+1≤maxLen) (hbytes:(n+1)*bytes≤140737488355328)
  (h:∀ g cap w',w'.ownsRow wb.heap.size e size (.slice (some ⟨g,0,none⟩) (n+1) cap) (n+1) (xs++us.toList)→w.grownBy w' v.ownBlock→(v.ownBlock=some g∨g=w.heap.size+1)→g<w'.heap.size→K (a.put o.dst (.slice (some ⟨g,0,none⟩) (n+1) cap)) w') :
  o.wp P a (w.alloc (.cells us e')) K Q:=by
 obtain⟨i,hi0,hz0,hz1,hz2⟩:=info_parts hi
 refine wp_append_lies (w.alloc (.cells us e')) s x t ho wb.heap.size e i z size bytes ht hi0 hz0 hz1 hz2 hzs hsz v n xs hs (hown.alloc _) ⟨w.heap.size,0,none⟩ 1 1 us.toList hx (by simpa using hus) ?_ h1 (by omega) h63 hbytes (by simp;omega) (w.heap.size+1) (by simp) ?_
 ·intro j u hu
  rw [zO,Nat.zero_add,(Blk.new w e' us).cell]
  simpa using hu
 ·intro g cap w' hown' hg hat hlt
  have hg':w.grownBy w' v.ownBlock:=⟨hg.os,hg.tape,hg.output,Nat.le_trans (by simp) hg.size,fun k hk hne=>(hg.block k (by simp;omega) hne).trans (Below.heap_alloc w _ k hk)⟩
  exact h g cap w' hown' hg' hat hlt
theorem zam {P:Program} (wb w:World) {ops:Array Oper} {rest:List Oper} {o:Oper} {a:Act} {Q:Exit→Act→World→Prop}(hgd:o.guard=none) (s x:Operand) (t:TypeId)
  (ho:o.op=.call { callee:=.builtin .append,args:=#[s,x],argTypes:=#[t,t] })
  (e:TypeId) (z:Value) (size bytes:Nat) (ht:P.underlying t=some (.slice e)) (hi:(P.info? e).map (fun i=>(i.zero,i.size,i.bytes))=some (some z,size,bytes)) (hzs:z.cells.size=size) (hsz:0<size)
  (v:Value) (n:Nat) (xs:List Value) (us:Array Value) (e':TypeId) (hs:a.eval s=v) (hx:a.eval x=.slice (some ⟨w.heap.size,0,none⟩) 1 1)
  (hext:wb.heap.size≤w.heap.size) (hown:w.ownsRow wb.heap.size e size v n xs) (hus:us.size=size) (h1:∀ u∈us.toList,u.oneCell'=true)
  (h63:n+1≤maxLen) (hbytes:(n+1)*bytes≤140737488355328)
  (h:∀ g cap w',w'.ownsRow wb.heap.size e size (.slice (some ⟨g,0,none⟩) (n+1) cap) (n+1) (xs++us.toList)→w.grownBy w' v.ownBlock→(v.ownBlock=some g∨g=w.heap.size+1)→g<w'.heap.size→wpList P ops Q rest (a.put o.dst (.slice (some ⟨g,0,none⟩) (n+1) cap)) w') :
  wpList P ops Q (o :: rest) a (w.alloc (.cells us e')):=
 wpList_plain hgd fun _ hK=>zaG wb w s x t ho e z size bytes ht hi hzs hsz v n xs us e' hs hx hext hown hus h1 h63 hbytes fun g cap w' h2 h3 h4 h5=>hK _ _ (h g cap w' h2 h3 h4 h5)
theorem tQ {A B:Prop}(h:B) (k:Bx B→A:=by
 intro h0
 repeat (first|(refine tseq_skip rfl rfl (by assumption) ?_;simp only [Act.put,List.setIfInBounds_toArray,List.set_cons_zero,List.set_cons_succ])|(refine tseq_pure (v:=?_) rfl rfl rfl rfl (fun X=>?_) ?_;rotate_left;(focus (go_simp<;>with_reducible rfl));simp only [Act.put,List.setIfInBounds_toArray,List.set_cons_zero,List.set_cons_succ])|(refine tseq_read (v:=?_) rfl rfl rfl rfl (fun X hX=>?_) ?_;rotate_left;(focus (go_simp<;>with_reducible rfl));simp only [Act.put,List.setIfInBounds_toArray,List.set_cons_zero,List.set_cons_succ]))
 exact h0.out):A:=k ⟨h⟩
theorem tR {P:Program} {l:List Oper} {Q:Exit→Act→World→Prop} {id:Nat} {a:Act} {w:World} (S:World→Prop) (T:List Nat) (ord:Ord)(h:zaB P l T Q S ord a w.drew)(hm:P.follows .mixedOrders=true:=by kernel_rfl)(hlen:ord.len=l.length:=by rfl)(hev:ord.even=true:=by kernel_rfl)(hs:Region.noSelect l.toArray=true:=by kernel_rfl)(hok:zdz l T ord (Array.replicate l.length false)=true:=by kernel_rfl)
  (hQ:∀ (c:List PanicEntry) (a:Act) (d:Tmp) (v:Value) (w:World),Q (.panic c) (a.put (some d) v) w→Q (.panic c) a w:=by exact fun _ _ _ _ _ h=>h) (hS:S w.drew:=by first|assumption|exact (Ext.refl _).drew|exact (Dr.refl _ _).drew|(refine Ext.drew ?_;assumption)):(Code.region id l.toArray true).wp P Q a w:=
 zgm S T ord hm hlen hev hs hok hQ hS h
def zfF:Op→Bool
 |.makeFunc _ _ _ | .move _ | .assign _ | .pick _ _ _ | .binOp _ _ _ _ _ | .unOp _ _ _ | .fieldAddr _ _ _ | .field _ _ _ | .extract _ _ | .build _ _=>true
 |_=>false
def zcM:Op→Bool
 |.makeFunc _ _ _=>true
 |o=>zbC o
inductive OrdU where
 |nil:OrdU
 |one:Nat→OrdU→OrdU
 |two:Nat→OrdU→Nat→OrdU→OrdU
 |three:Nat→OrdU→Nat→OrdU→Nat→OrdU→OrdU
def OrdU.of:List Nat→OrdU
 |[]=>.nil
 |i :: r=>.one i (OrdU.of r)
def OrdU.app:List Nat→OrdU→OrdU
 |[],o=>o
 |i :: r,o=>.one i (OrdU.app r o)
def zce (l:List Oper) (T:List Nat):OrdU→Array Bool→Bool
 |.nil,listed=>(Region.ready .any l.toArray listed).isEmpty
 |.one i rest,listed =>
  (match l[i]? with
   |some o=>if zcM o.op then Region.free .any l.toArray listed i&&(Region.ready .any l.toArray listed).contains i&&!T.contains i&&(zfF o.op || T.all fun t=>below l l.length t i)
    else Region.ready .any l.toArray listed==[i]
   |none=>false)&&zce l T rest (listed.setIfInBounds i true)
 |.two i r j r',listed=>(i<l.length&&j<l.length&&Region.ready .any l.toArray listed==[i,j])&&(zce l T r (listed.setIfInBounds i true)&&zce l T r' (listed.setIfInBounds j true))
 |.three i r j r' k r'',listed=>(i<l.length&&j<l.length&&k<l.length&&Region.ready .any l.toArray listed==[i,j,k])&&(zce l T r (listed.setIfInBounds i true)&&zce l T r' (listed.setIfInBounds j true)&&zce l T r'' (listed.setIfInBounds k true))
def zal (P:Program) (l:List Oper) (T:List Nat) (Q:Exit→Act→World→Prop) (S:World→Prop):OrdU→Act→World→Prop
 |.nil,a,w=>Q .normal a w
 |.one i rest,a,w=>match l[i]? with
  |some o=>if zcM o.op then ∃ v,YieldsIf P l.toArray (if zfF o.op then fun _=>True else S) o v a∧zal P l T Q S rest (a.put o.dst v) w
   else wpOp P l.toArray Q i (fun a' w'=>(T.contains i=false→S w')∧zal P l T Q S rest a' w') a w
  |none=>False
 |.two i r j r',a,w=>wpOp P l.toArray Q i (fun a' w'=>(T.contains i=false→S w')∧zal P l T Q S r a' w') a w∧wpOp P l.toArray Q j (fun a' w'=>(T.contains j=false→S w')∧zal P l T Q S r' a' w') a w
 |.three i r j r' k r'',a,w=>wpOp P l.toArray Q i (fun a' w'=>(T.contains i=false→S w')∧zal P l T Q S r a' w') a w∧wpOp P l.toArray Q j (fun a' w'=>(T.contains j=false→S w')∧zal P l T Q S r' a' w') a w∧wpOp P l.toArray Q k (fun a' w'=>(T.contains k=false→S w')∧zal P l T Q S r'' a' w') a w
def OrdU.len:OrdU→Nat
 |.nil=>0
 |.one _ r=>r.len+1
 |.two _ r _ _=>r.len+1
 |.three _ r _ _ _ _=>r.len+1
def OrdU.even:OrdU→Bool
 |.nil=>true
 |.one _ r=>r.even
 |.two _ r _ r'=>r.len==r'.len&&(r.even&&r'.even)
 |.three _ r _ r' _ r''=>(r.len==r'.len&&r.len==r''.len)&&(r.even&&r'.even&&r''.even)
section
variable {P:Program} {l:List Oper} {Q:Exit→Act→World→Prop} {S:World→Prop} {T:List Nat}
theorem zbo (hs:Region.noSelect l.toArray=true)(hQ:∀ (c:List PanicEntry) (a:Act) (d:Tmp) (v:Value) (w:World),Q (.panic c) (a.put (some d) v) w→Q (.panic c) a w) :
  ∀ (ord:OrdU) (listed:Array Bool) (a:Act) (w:World),listed.size=l.length→Clo l listed→ord.even=true→zce l T ord listed=true→(zcB T listed∨S w)→zal P l T Q S ord a w →
   wpAnyL P .any l.toArray Q (fun listed w=>zcB T listed∨S w) ord.len listed a w
 |.nil,listed,a,w,_,_,_,hok,_,h=>by
  simp only [zce,List.isEmpty_iff] at hok
  exact⟨hok,h⟩
 |.one i rest,listed,a,w,hsz,hc,hev,hok,hS,h=>by
  cases ho:l[i]? with
  |none=>simp [zce,ho] at hok
  |some o =>
   have hil:i<l.length:=(List.getElem?_eq_some_iff.1 ho).1
   simp only [zce,ho,Bool.and_eq_true] at hok
   simp only [zal,ho] at h
   by_cases hq:zcM o.op=true
   ·rw [if_pos hq] at hok h
    simp only [Bool.and_eq_true] at hok
    obtain⟨⟨⟨⟨hf,hrd⟩,hnT⟩,hpure⟩,hrest⟩:=hok
    obtain⟨v,hy,hr⟩:=h
    have hmem:i∈Region.ready .any l.toArray listed:=by simpa using hrd
    have hnT':i∉T:=by simpa using hnT
    have hset:∀ listed:Array Bool,zcB T (listed.setIfInBounds i true)↔zcB T listed:=fun listed=>by
     constructor
     ·rintro ⟨t,ht,hl⟩
      refine⟨t,ht,?_⟩
      rwa [getD_set_ne false (by rintro rfl;exact hnT' ht)] at hl
     ·rintro ⟨t,ht,hl⟩
      exact⟨t,ht,getD_set_true hl⟩
    refine wpAnyL_first (G:=fun listed=>Clo l listed∧listed.size=l.length) (by simpa using ho) (Region.noSelect_spec hs)
     (fun c a w h=>by cases hd:o.dst with|none=>rw [hd] at h;exact h|some d=>rw [hd] at h;exact hQ c a d v w h)
     (fun li j hj hg=>⟨zaV hj hg.1,by simpa using hg.2⟩) ?_ (fun li w h=>h.imp (fun x=>(hset li).2 x) id) (fun li w _ h=>h.imp (fun x=>(hset li).1 x) id)
     rest.len listed a w ⟨hc,hsz⟩ (Region.free_spec (by simpa using ho) hf) hmem hy hS ?_
    ·intro li w' hg hun h
     by_cases hp:zfF o.op=true
     ·rw [if_pos hp];trivial
     ·rw [if_neg hp]
      rcases h with ⟨t,ht,hl⟩|h
      ·exfalso
       simp only [hp,Bool.false_or] at hpure
       have hb:=List.all_eq_true.1 hpure t ht
       have h1:=zew hg.1 _ _ _ hb hl
       have h2:i<li.size:=by rw [hg.2];exact hil
       simp [h2] at hun h1
       rw [h1] at hun;cases hun
      ·exact h
    ·exact zbo hs hQ rest _ _ _ (by simpa using hsz) (zaV hmem hc) hev hrest (hS.imp (fun x=>(hset _).2 x) id) hr
   ·rw [if_neg hq] at hok h
    have hready:Region.ready .any l.toArray listed=[i]:=by simpa using hok.1
    have hmem:i∈Region.ready .any l.toArray listed:=by rw [hready];simp
    refine⟨fun h0=>(by rw [h0] at hready;cases hready),fun j hj=>?_⟩
    rw [hready] at hj
    rw [List.mem_singleton.1 hj]
    refine wpOp_mono (fun a' w' h=>?_) h
    have hS':zcB T (listed.setIfInBounds i true)∨S w':=by
     cases hT:T.contains i
     ·exact Or.inr (h.1 hT)
     ·refine Or.inl ⟨i,by simpa using hT,?_⟩
      have:i<listed.size:=by omega
      simp [this]
    exact⟨hS',zbo hs hQ rest _ _ _ (by simpa using hsz) (zaV hmem hc) hev hok.2 hS' h.2⟩
 |.two i r j r',listed,a,w,hsz,hc,hev,hok,hS,h=>by
  simp only [OrdU.even,Bool.and_eq_true,beq_iff_eq] at hev
  simp only [zce,Bool.and_eq_true,decide_eq_true_eq,beq_iff_eq] at hok
  simp only [zal] at h
  obtain⟨⟨⟨hi,hj⟩,hready⟩,hok1,hok2⟩:=hok
  have hlen:(OrdU.two i r j r').len=r.len+1:=rfl
  rw [hlen]
  have hm:∀ k,k∈Region.ready .any l.toArray listed↔k=i∨k=j:=fun k=>by rw [hready];simp
  have hS':∀ k w',k<l.length→(T.contains k=false→S w')→zcB T (listed.setIfInBounds k true)∨S w':=fun k w' hk hx=>by
   cases hT:T.contains k
   ·exact Or.inr (hx hT)
   ·refine Or.inl ⟨k,by simpa using hT,?_⟩
    have:k<listed.size:=by omega
    simp [this]
  refine⟨fun h0=>(by rw [h0] at hready;cases hready),fun k hk=>?_⟩
  rcases (hm k).1 hk with hk' | hk'
  ·rw [hk'] at hk ⊢
   refine wpOp_mono (fun a' w' h=>?_) h.1
   exact⟨hS' _ _ hi h.1,zbo hs hQ r _ _ _ (by simpa using hsz) (zaV hk hc) hev.2.1 hok1 (hS' _ _ hi h.1) h.2⟩
  ·rw [hk'] at hk ⊢
   refine wpOp_mono (fun a' w' h=>?_) h.2
   have:=zbo hs hQ r' _ _ _ (by simpa using hsz) (zaV hk hc) hev.2.2 hok2 (hS' _ _ hj h.1) h.2
   rw [← hev.1] at this
   exact⟨hS' _ _ hj h.1,this⟩
 |.three i r j r' k r'',listed,a,w,hsz,hc,hev,hok,hS,h=>by
  simp only [OrdU.even,Bool.and_eq_true,beq_iff_eq] at hev
  simp only [zce,Bool.and_eq_true,decide_eq_true_eq,beq_iff_eq] at hok
  simp only [zal] at h
  obtain⟨⟨⟨⟨hi,hj⟩,hk⟩,hready⟩,⟨hok1,hok2⟩,hok3⟩:=hok
  obtain⟨⟨e1,e2⟩,⟨v1,v2⟩,v3⟩:=hev
  have hlen:(OrdU.three i r j r' k r'').len=r.len+1:=rfl
  rw [hlen]
  have hm:∀ x,x∈Region.ready .any l.toArray listed↔x=i∨x=j∨x=k:=fun x=>by rw [hready];simp
  have hS':∀ k w',k<l.length→(T.contains k=false→S w')→zcB T (listed.setIfInBounds k true)∨S w':=fun k w' hk hx=>by
   cases hT:T.contains k
   ·exact Or.inr (hx hT)
   ·refine Or.inl ⟨k,by simpa using hT,?_⟩
    have:k<listed.size:=by omega
    simp [this]
  refine⟨fun h0=>(by rw [h0] at hready;cases hready),fun x hx=>?_⟩
  rcases (hm x).1 hx with hx' | hx' | hx'
  ·rw [hx'] at hx ⊢
   refine wpOp_mono (fun a' w' h=>?_) h.1
   exact⟨hS' _ _ hi h.1,zbo hs hQ r _ _ _ (by simpa using hsz) (zaV hx hc) v1 hok1 (hS' _ _ hi h.1) h.2⟩
  ·rw [hx'] at hx ⊢
   refine wpOp_mono (fun a' w' h=>?_) h.2.1
   have:=zbo hs hQ r' _ _ _ (by simpa using hsz) (zaV hx hc) v2 hok2 (hS' _ _ hj h.1) h.2
   rw [← e1] at this
   exact⟨hS' _ _ hj h.1,this⟩
  ·rw [hx'] at hx ⊢
   refine wpOp_mono (fun a' w' h=>?_) h.2.2
   have:=zbo hs hQ r'' _ _ _ (by simpa using hsz) (zaV hx hc) v3 hok3 (hS' _ _ hk h.1) h.2
   rw [← e2] at this
   exact⟨hS' _ _ hk h.1,this⟩
theorem zaH {id:Nat} {a:Act} {w:World} (S:World→Prop) (T:List Nat) (ord:OrdU)(hm:P.follows .mixedOrders=true)(hlen:ord.len=l.length)(hev:ord.even=true)(hs:Region.noSelect l.toArray=true)(hok:zce l T ord (Array.replicate l.length false)=true)
  (hQ:∀ (c:List PanicEntry) (a:Act) (d:Tmp) (v:Value) (w:World),Q (.panic c) (a.put (some d) v) w→Q (.panic c) a w) (hS:S w.drew) (h:zal P l T Q S ord a w.drew):(Code.region id l.toArray true).wp P Q a w:=by
 refine wp_region_any hm ?_
 have:=zeI _ _ _ _ (zbo hs hQ ord _ a w.drew (by simp) (clo_start l) hev hok (Or.inr hS) h)
 rw [hlen] at this
 simpa using this
theorem zd {a:Act} {w:World}(h:Q .normal a w):zal P l T Q S .nil a w:=h
theorem useq_pure {i:Nat} {rest:OrdU} {o:Oper} {v:Value} {a:Act} {w:World}(ho:l[i]?=some o)(hq:zcM o.op=true) (_hp:zfF o.op=true)(hw:Region.wanted o (yielded l.toArray a.tmps)=true)
  (hy:∀ W,(execOp a.eval o).run P W=.ok (.value v) W) (h:zal P l T Q S rest (a.put o.dst v) w):zal P l T Q S (.one i rest) a w:=by
 simp only [zal,ho,hq,if_true]
 exact⟨v,.inl ⟨hw,fun W _=>hy W⟩,h⟩
theorem zby {i:Nat} {rest:OrdU} {o:Oper} {v:Value} {a:Act} {w:World}(ho:l[i]?=some o)(hq:zcM o.op=true)(hp:zfF o.op=false)(hw:Region.wanted o (yielded l.toArray a.tmps)=true)
  (hy:∀ W,S W→(execOp a.eval o).run P W=.ok (.value v) W) (h:zal P l T Q S rest (a.put o.dst v) w):zal P l T Q S (.one i rest) a w:=by
 simp only [zal,ho,hq,hp,if_true]
 exact⟨v,.inl ⟨hw,hy⟩,h⟩
theorem useq_skip {i:Nat} {rest:OrdU} {o:Oper} {a:Act} {w:World}(ho:l[i]?=some o)(hw:Region.wanted o (yielded l.toArray a.tmps)=false)
  (hS:S w) (h:zal P l T Q S rest (a.put o.dst undef) w):zal P l T Q S (.one i rest) a w:=by
 simp only [zal,ho]
 exact yH02a2
theorem zb {i:Nat} {rest:OrdU} {o:Oper} {a:Act} {w:World}(ho:l[i]?=some o)(hq:zcM o.op=false)(hw:Region.wanted o (yielded l.toArray a.tmps)=true)
  (h:∀ K:Act→World→Prop,Shut (∀ a w,S w→zal P l T Q S rest a w→K a w)→o.wp P a w K Q):zal P l T Q S (.one i rest) a w:=by
 simp only [zal,ho,hq]
 unfold wpOp
 simp only [List.getElem?_toArray,ho,hw,if_true]
 exact .inl (h _ fun a w hS hW=>⟨fun _=>hS,hW⟩)
theorem za {i:Nat} {rest:OrdU} {o:Oper} {a:Act} {w:World}(ho:l[i]?=some o)(hq:zcM o.op=false)(hT:T.contains i=true)(hw:Region.wanted o (yielded l.toArray a.tmps)=true)
  (h:∀ K:Act→World→Prop,Shut (∀ a w,zal P l T Q S rest a w→K a w)→o.wp P a w K Q):zal P l T Q S (.one i rest) a w:=by
 simp only [zal,ho,hq]
 unfold wpOp
 simp only [List.getElem?_toArray,ho,hw,if_true]
 exact .inl (h _ fun a w hW=>⟨fun hn=>absurd (hn.symm.trans hT) (by decide),hW⟩)
end
section
variable {P:Program} {l:List Oper} {Q:Exit→Act→World→Prop} {S:World→Prop} {T:List Nat}
theorem zl {i j:Nat} {r r':OrdU} {o o':Oper} {a:Act} {w:World}(ho:l[i]?=some o)(ho':l[j]?=some o')(hw:Region.wanted o (yielded l.toArray a.tmps)=true)(hw':Region.wanted o' (yielded l.toArray a.tmps)=true)
  (h1:∀ K:Act→World→Prop,Shut (∀ a w,S w→zal P l T Q S r a w→K a w)→o.wp P a w K Q) (h2:∀ K:Act→World→Prop,Shut (∀ a w,S w→zal P l T Q S r' a w→K a w)→o'.wp P a w K Q):zal P l T Q S (.two i r j r') a w:=by
 exact yH02a1
theorem zav {i j k:Nat} {r r' r'':OrdU} {o o' o'':Oper} {a:Act} {w:World}(ho:l[i]?=some o)(ho':l[j]?=some o')(ho'':l[k]?=some o'')(hw:Region.wanted o (yielded l.toArray a.tmps)=true)(hw':Region.wanted o' (yielded l.toArray a.tmps)=true)(hw'':Region.wanted o'' (yielded l.toArray a.tmps)=true)
  (h1:∀ K:Act→World→Prop,Shut (∀ a w,S w→zal P l T Q S r a w→K a w)→o.wp P a w K Q) (h2:∀ K:Act→World→Prop,Shut (∀ a w,S w→zal P l T Q S r' a w→K a w)→o'.wp P a w K Q) (h3:∀ K:Act→World→Prop,Shut (∀ a w,S w→zal P l T Q S r'' a w→K a w)→o''.wp P a w K Q):zal P l T Q S (.three i r j r' k r'') a w:=by
 refine⟨?_,?_,?_⟩
 ·unfold wpOp
  simp only [List.getElem?_toArray,ho,hw,if_true]
  exact .inl (h1 _ fun a w hS hW=>⟨fun _=>hS,hW⟩)
 ·unfold wpOp
  simp only [List.getElem?_toArray,ho',hw',if_true]
  exact .inl (h2 _ fun a w hS hW=>⟨fun _=>hS,hW⟩)
 ·unfold wpOp
  simp only [List.getElem?_toArray,ho'',hw'',if_true]
  exact .inl (h3 _ fun a w hS hW=>⟨fun _=>hS,hW⟩)
end
theorem uQ {A B:Prop}(h:B) (k:Bx B→A:=by
 intro h0
 repeat (first|(refine useq_skip rfl rfl (by assumption) ?_;simp only [Act.put,List.setIfInBounds_toArray,List.set_cons_zero,List.set_cons_succ])|(refine useq_pure (v:=?_) rfl rfl rfl rfl (fun X=>?_) ?_;rotate_left;(focus (go_simp<;>with_reducible rfl));simp only [Act.put,List.setIfInBounds_toArray,List.set_cons_zero,List.set_cons_succ])|(refine zby (v:=?_) rfl rfl rfl rfl (fun X hX=>?_) ?_;rotate_left;(focus (go_simp<;>with_reducible rfl));simp only [Act.put,List.setIfInBounds_toArray,List.set_cons_zero,List.set_cons_succ]))
 exact h0.out):A:=k ⟨h⟩
theorem uR {P:Program} {l:List Oper} {Q:Exit→Act→World→Prop} {id:Nat} {a:Act} {w:World} (S:World→Prop) (T:List Nat) (ord:OrdU)(h:zal P l T Q S ord a w.drew)(hm:P.follows .mixedOrders=true:=by kernel_rfl)(hlen:ord.len=l.length:=by kernel_rfl)(hev:ord.even=true:=by kernel_rfl)(hs:Region.noSelect l.toArray=true:=by kernel_rfl)(hok:zce l T ord (Array.replicate l.length false)=true:=by kernel_rfl)
  (hQ:∀ (c:List PanicEntry) (a:Act) (d:Tmp) (v:Value) (w:World),Q (.panic c) (a.put (some d) v) w→Q (.panic c) a w:=by exact fun _ _ _ _ _ h=>h) (hS:S w.drew:=by first|assumption|exact (Ext.refl _).drew|(refine Ext.drew ?_;assumption)):(Code.region id l.toArray true).wp P Q a w:=
 zaH S T ord hm hlen hev hs hok hQ hS h
set_option maxHeartbeats 2000000
theorem info_pmov:(Tryz.prog.info? 142).map (fun i=>(i.zero,i.size,i.bytes))=some (some (.pointer none),1,8):=by kernel_rfl
def ptrs (bs:List Nat):List Value:=bs.map fun b=>.pointer (some ⟨b,0,none⟩)
def MovL (w:World) (bs:List Nat) (ss:List Sys):Prop:=bs.length=ss.length∧∀ (i b:Nat) (s:Sys),bs[i]?=some b→ss[i]?=some s→MovB w b s.edges
theorem MovL.ext {w w':World} {bs:List Nat} {ss:List Sys}(h:MovL w bs ss)(hx:Ext w w'):MovL w' bs ss:=⟨h.1,fun i b s hb hs=>(h.2 i b s hb hs).ext hx⟩
theorem MovL.snoc {w w':World} {bs:List Nat} {ss:List Sys} {b:Nat} {s:Sys}(h:MovL w bs ss)(hx:Ext w w')(hb:MovB w' b s.edges):MovL w' (bs++[b]) (ss++[s]):=by
 have hl:=h.1
 refine⟨by simp [hl],fun i b' s' hb' hs'=>?_⟩
 rcases Nat.lt_trichotomy i bs.length with hi|hi|hi
 ·rw [List.getElem?_append_left hi] at hb'
  rw [List.getElem?_append_left (by omega)] at hs'
  exact (h.2 i b' s' hb' hs').ext hx
 ·rw [List.getElem?_append_right (by omega),hi,Nat.sub_self] at hb'
  rw [List.getElem?_append_right (by omega),hi,hl,Nat.sub_self] at hs'
  simp at hb' hs'
  subst hb';subst hs'
  exact hb
 ·rw [List.getElem?_eq_none (by simp;omega)] at hb'
  cases hb'
theorem MovL.frm {S:Nat→Prop} {w w':World} {bs:List Nat} {ss:List Sys}(h:MovL w bs ss)(hx:Frm S w w')(hS:∀ (b:Nat) (cs:Array Value),Blk w b 194 cs→¬ S b):MovL w' bs ss:=
 ⟨h.1,fun i b s hb hs=>by
  obtain⟨cs,hB,hc⟩:=h.2 i b s hb hs
  exact⟨cs,hB.frm hx (hS b cs hB),hc⟩⟩
structure PtAt (w:World) (lo hi:Nat) (A:Option Addr) (k lo' hi':Nat) (M:Option Addr) (ss:List Sys):Prop where
 sys:SLAt w lo hi A k ss
 mov:∃ bs,Reads w lo' hi' 1 M k (ptrs bs)∧MovL w bs ss
theorem PtAt.ext {w w':World} {lo hi k lo' hi':Nat} {A M:Option Addr} {ss:List Sys}(h:PtAt w lo hi A k lo' hi' M ss)(hx:Ext w w'):PtAt w' lo hi A k lo' hi' M ss:=by
 obtain⟨bs,hr,hb⟩:=h.mov
 exact⟨h.sys.ext hx,bs,hr.ext hx,hb.ext hx⟩
structure Grp (w0 W:World) (G:Nat) (a v:Value) (bs:List Nat) (ss:List Sys):Prop where
 blk:Blk W G 182 #[a,v]
 own:W.ownsRow w0.heap.size 142 1 v bs.length (ptrs bs)
 mov:MovL W bs ss
 ext:Ext w0 W
 hG:w0.heap.size≤G
theorem Grp.ext_ {w0 W W':World} {G:Nat} {a v:Value} {bs:List Nat} {ss:List Sys}(h:Grp w0 W G a v bs ss)(hb:Ext W W'):Grp w0 W' G a v bs ss:=⟨h.blk.ext hb,zf h.own hb,h.mov.ext hb,h.ext.trans hb,h.hG⟩
theorem zdq {w:World} {base:Nat} {e t:TypeId} {size n G:Nat} {v:Value} {xs:List Value} {cs:Array Value}(h:w.ownsRow base e size v n xs)(hB:Blk w G t cs)(hne:e≠t) {b:Nat}(hv:v.ownBlock=some b):b≠G:=by
 rintro rfl
 rcases h.2 with ⟨rfl,_⟩|⟨g,cap,cur,rfl,_,hh,_⟩
 ·simp [Value.ownBlock] at hv
 ·have hg:g=b:=by simpa [Value.ownBlock] using hv
  subst hg
  unfold Blk at hB
  rw [hh] at hB
  injection hB with hB
  injection hB with _ ht
  exact absurd ht hne
theorem Grp.push {w0 W W':World} {G:Nat} {a v:Value} {bs:List Nat} {ss:List Sys} {b g cap:Nat} {s:Sys}(h:Grp w0 W G a v bs ss)(hb:MovB W b s.edges)
  (hown:W'.ownsRow w0.heap.size 142 1 (.slice (some ⟨g,0,none⟩) (bs.length+1) cap) (bs.length+1) (ptrs bs++[.pointer (some ⟨b,0,none⟩)]))
  (hg:W.grownBy W' v.ownBlock) (hat:v.ownBlock=some g∨g=W.heap.size+1) :
  Hid (W'.cell? ⟨G,1,none⟩=some v)∧W'.frozen? ⟨G,1,none⟩=false∧Grp w0 (W'.setCell ⟨G,1,none⟩ (.slice (some ⟨g,0,none⟩) (bs.length+1) cap)) G a (.slice (some ⟨g,0,none⟩) (bs.length+1) cap) (bs++[b]) (ss++[s]):=by
 have hB:Blk W' G 182 #[a,v]:=(hg.block G h.blk.lt (fun e=>zdq h.own h.blk (by decide) e.symm rfl)).trans h.blk
 have hgG:g≠G:=by
  rcases hat with h1|h1
  ·exact zdq h.own h.blk (by decide) h1
  ·have:=h.blk.lt;omega
 have hx:Ext w0 W':=h.ext.grown hg (fun k hk=>(h.own.lt k hk).1)
 have hset:=Frm.setCell W' G 1 (.slice (some ⟨g,0,none⟩) (bs.length+1) cap)
 have hfr:Frm (fun k=>v.ownBlock=some k) W W':=Frm.of_grown hg
 have hm1:MovL W' (bs++[b]) (ss++[s]):=(h.mov.snoc (Ext.refl W) hb).frm hfr (fun c cs hc hS=>zdq h.own hc (by decide) hS rfl)
 refine⟨hB.cell 1,hB.frozen 1,⟨by simpa using hB.set_ 1 _,?_,hm1.frm hset (fun c cs hc hS=>?_),hx.setCell (p:=⟨G,1,none⟩) h.hG _,h.hG⟩⟩
 ·rw [List.length_append,List.length_singleton,show ptrs (bs++[b])=ptrs bs++[.pointer (some ⟨b,0,none⟩)] by simp [ptrs]]
  exact ze hown hset (fun c hv hS=>by
   have:g=c:=by simpa [Value.ownBlock] using hv
   omega)
 ·subst hS
  unfold Blk at hc hB
  rw [hc] at hB
  injection hB with hB
  injection hB with _ ht
  exact absurd ht (by decide)
set_option maxRecDepth 100000 in
theorem zeg {lo hi:Nat} {A:Option Addr} {n c:Nat} {ss:List Sys} {w:World}(h:SLAt w lo hi A n ss)(hf:∀ s∈ss,Few 16 s.edges)(hn4:n≤1000) :
  Calls Tryz.prog 163 #[.slice A n c] w fun e w'=>∃ M d,e=.returned (.agg #[.slice A n c,.slice M n d])∧PtAt w' lo hi A n w.heap.size w'.heap.size M ss∧Ext w w':=by
 have HS:=hide (fun W (hW:Ext w W)=>h.ext hW)
 have hL:=hide h.1
 have Hf:=hide hf
 have hlen:=h.len
 clear hf
 go_enter Tryz.func163,Tryz.ntmps163
 obtain⟨bz,bG⟩:=zR (Ext.refl ((w.alloc (.cells #[.slice none 0 0,.slice none 0 0] 182)).alloc (.cells #[.slice A n c,.slice none 0 0] 182)))
 have hw2:Ext w ((w.alloc (.cells #[.slice none 0 0,.slice none 0 0] 182)).alloc (.cells #[.slice A n c,.slice none 0 0] 182)):=((Ext.refl w).alloc _).alloc _
 go_upto_region 2 with fail
 have hsz1:w.heap.size≤(w.alloc (.cells #[.slice none 0 0,.slice none 0 0] 182)).heap.size:=by simp
 have hsz2:(w.alloc (.cells #[.slice none 0 0,.slice none 0 0] 182)).heap.size=w.heap.size+1:=by simp
 have hgr:Grp (w.alloc (.cells #[.slice none 0 0,.slice none 0 0] 182)) ((w.alloc (.cells #[.slice none 0 0,.slice none 0 0] 182)).alloc (.cells #[.slice A n c,.slice none 0 0] 182)) (w.heap.size+1) (.slice A n c) (.slice none 0 0) [] []:=
  ⟨bG,World.ownsRow_nil _ _ _ _,⟨rfl,fun i b s hb=>by simp at hb⟩,(Ext.refl _).alloc _,by rw [hsz2];exact Nat.le_refl _⟩
 clear bG
 generalize (w.alloc (.cells #[.slice none 0 0,.slice none 0 0] 182)).alloc (.cells #[.slice A n c,.slice none 0 0] 182)=w2 at *
 generalize w.alloc (.cells #[.slice none 0 0,.slice none 0 0] 182)=w1 at *
 go_wp2_with fail
 go_loopw [10] (fun i wr=>∃ (k:Nat) (v:Value) (bs:List Nat),k≤n∧i=.int .i64 k∧Grp w1 wr (w.heap.size+1) (.slice A n c) v bs (ss.take k)∧Hid (bs.length=k)∧Blk wr w.heap.size 182 #[.slice none 0 0,.slice none 0 0]∧Ext w wr) (fun i _=>n - (intOf i).toNat)
 case atStart=>exact⟨0,_,[],Nat.zero_le _,rfl,by simpa using hgr,hide rfl,bz,hw2⟩
 case round =>
  clear hgr bz hw2 w2
  obtain⟨k,v,bs,hk,rfl,hgr,hbl,bz,hw⟩:=hrel
  by_cases hlt:k<n
  ·obtain⟨g,o,s,B,m,c',rfl,_,_,hs,c0,c1,c2,hsx⟩:=(HS.out wr hw).sys hlt
   have hfs:=hide (Hf.out s (List.mem_of_getElem? hs.out))
   have Htk:=hide (show ss.take (k+1)=ss.take k++[s] by rw [List.take_add_one,hs.out];rfl)
   have hx3:=(Ext.refl wr).alloc (.cells #[.int .i64 s.al,.int .i64 s.st,.slice B m c'] 39)
   have hbx:=Blk.new wr 39 #[.int .i64 s.al,.int .i64 s.st,.slice B m c']
   have hgr3:=hgr.ext_ hx3
   have hw3:=hw.trans hx3
   have bz3:=bz.ext hx3
   have hsx3:=hsx.ext hx3
   clear hgr
   go_upto_region 5 with fail
   clear c0 c1 c2
   generalize wr.alloc (.cells #[.int .i64 s.al,.int .i64 s.st,.slice B m c'] 39)=w3 at *
   have c5:=hbx.cells
   have cG:∀ W,Ext w3 W→∀ q,W.cell? ⟨w.heap.size+1,q,none⟩=#[Value.slice (some ⟨g,o,none⟩) n c,v][q]?:=fun W hW=>(hgr3.blk.ext hW).cell
   have hww:=Ext.refl w3
   refine uR (fun X=>Ext w3 X) [5,7] (OrdU.of [0,1,2,3,4,5,6,7]) ?_
   refine uQ ?_
   (refine zb rfl rfl rfl (fun K hK=>?_);go_simp)
   refine (impl_movesOf (hsx3.ext hww.drew) hfs.out).mono ?_
   rintro e w4 ⟨b,rfl,hb1,hmv,hx4⟩
   have hww4:=hww.drew.trans hx4
   refine hK.out _ _ hww4 ?_
   refine pT ?_
   refine uQ ?_
   (refine zb rfl rfl rfl (fun K hK=>?_);go_simp)
   refine hK.out _ _ (hww4.alloc _) ?_
   refine pT ?_
   (refine za rfl rfl rfl rfl (fun K hK=>?_))
   refine zaG w1 w4 _ _ _ rfl 142 _ 1 8 Tryz.underlying180 info_pmov rfl (by decide) v bs.length (ptrs bs) _ _ rfl rfl (hgr3.ext.trans hww4).size (zf hgr3.own hww4) rfl (by simp [Value.oneCell']) (by unfold maxLen;have:=hbl.out;omega) (by have:=hbl.out;omega) ?_
   intro g5 cap5 w5 hown5 hg5 hat5 hlt5
   refine hK.out _ _ ?_
   refine pT ?_
   refine uQ ?_
   obtain⟨p1,p2,p3⟩:=(hgr3.ext_ hww4).push (s:=s) hmv (W':=w5) hown5 hg5 hat5
   have p1':=p1.out
   have bz5:Blk w5 w.heap.size 182 #[.slice none 0 0,.slice none 0 0]:=(hg5.block _ (bz3.ext hww4).lt (fun e=>zdq (zf hgr3.own hww4) (bz3.ext hww4) (by decide) e.symm rfl)).trans (bz3.ext hww4)
   have hw5:Ext w w5:=(hw3.trans hww4).grown hg5 (fun q hq=>by have:=(zf hgr3.own hww4).lt q hq;omega)
   have bz6:=bz5.far (p:=⟨w.heap.size+1,1,none⟩) (by simp) (.slice (some ⟨g5,0,none⟩) (bs.length+1) cap5)
   have hw6:=hw5.setCell (p:=⟨w.heap.size+1,1,none⟩) (by simp) (.slice (some ⟨g5,0,none⟩) (bs.length+1) cap5)
   (refine za rfl rfl rfl rfl (fun K hK=>?_))
   go_simp
   refine hK.out _ _ ?_
   refine zd ?_
   go_wp2_with fail
   go_roundw
   case rel=>exact⟨k+1,_,bs++[b],by omega,by go_num,by rw [Htk.out];exact p3,hide (by rw [List.length_append,hbl.out];rfl),bz6,hw6⟩
   case measure=>simp [intOf];omega
  ·obtain rfl:n=k:=by omega
   obtain⟨M,d,rfl⟩:∃ M d,v=.slice M n d:=by
    have ho:=hgr.own
    rw [hbl.out] at ho
    exact zh ho
   have cG:=hgr.blk.cell
   have cZ:=bz.cell
   have fZ:=bz.frozen
   have hfl:Frm (fun k=>k=w.heap.size) wr ((wr.setCell ⟨w.heap.size,0,none⟩ (.slice A n c)).setCell ⟨w.heap.size,1,none⟩ (.slice M n d)):=(Frm.setCell wr _ 0 _).trans (Frm.setCell _ _ 1 _)
   have hbf:Blk ((wr.setCell ⟨w.heap.size,0,none⟩ (.slice A n c)).setCell ⟨w.heap.size,1,none⟩ (.slice M n d)) w.heap.size 182 #[.slice A n c,.slice M n d]:=by simpa using (bz.set_ 0 (.slice A n c)).set_ 1 (.slice M n d)
   have hxf:=hw.frm hfl (fun k hk e=>by omega)
   have hfin:=hide (show ∃ M' d',Ending.returned (.agg #[.slice A n c,.slice M n d])=.returned (.agg #[.slice A n c,.slice M' n d'])∧PtAt ((wr.setCell ⟨w.heap.size,0,none⟩ (.slice A n c)).setCell ⟨w.heap.size,1,none⟩ (.slice M n d)) lo hi A n w.heap.size ((wr.setCell ⟨w.heap.size,0,none⟩ (.slice A n c)).setCell ⟨w.heap.size,1,none⟩ (.slice M n d)).heap.size M' ss∧Ext w ((wr.setCell ⟨w.heap.size,0,none⟩ (.slice A n c)).setCell ⟨w.heap.size,1,none⟩ (.slice M n d)) from by
    refine⟨M,d,rfl,⟨HS.out _ hxf,bs,?_,?_⟩,hxf⟩
    ·have ho:=zay hgr.own hfl (fun b h1 e=>by omega)
     rw [hbl.out] at ho
     exact (Reads.of_own ho).more (by omega) (Nat.le_refl _)
    ·have hm:=hgr.mov
     rw [List.take_of_length_le (by have:=hL.out;omega)] at hm
     exact hm.frm hfl (fun b cs hc hS=>by
      subst hS
      unfold Blk at hc bz
      rw [hc] at bz
      injection bz with bz
      injection bz with _ ht
      exact absurd ht (by decide)))
   go_wp2_with fail
   generalize (wr.setCell ⟨w.heap.size,0,none⟩ (.slice A n c)).setCell ⟨w.heap.size,1,none⟩ (.slice M n d)=wf at *
   have cf:=hbf.cell
   exact bodyPost_ret (v:=.agg #[.slice A n c,.slice M n d]) (by simp [results,Tryz.results163,go_sem,cf]) rfl hfin.out
set_option maxHeartbeats 2000000
theorem zdb (l:List Nat) (x:Nat):nats (l++[x])=nats l++[.int .i64 (x:Nat)]:=by simp [nats]
theorem spec_l4Sizes {PA AA:Option Addr} {pn pc an ac:Nat} {sv:Value} {L K G:Int} {ss:List Sys} {us:List Aut} {w:World}(h:zdU w PA pn AA an ss us)(hok:zcF ss us) :
  Calls Tryz.prog 188 #[.agg #[.slice PA pn pc,.slice AA an ac,sv,.int .i64 L,.int .i64 K,.int .i64 G]] w (zbr w (szs ss us)):=by
 have HN:=hide (fun W (hW:Ext w W)=>h.ext hW)
 have hpn:Hid (pn=ss.length):=by obtain⟨_,_,h1⟩:=h.sys;exact h1.1
 have han:Hid (an=us.length):=by obtain⟨_,_,h1⟩:=h.aut;exact h1.1
 have hp3:pn≤3:=by rw [hpn.out];exact hok.few
 have ha2:an≤2:=by rw [han.out];exact hok.few'
 have Hok:=hide hok
 clear h hok
 go_enter Tryz.func188,Tryz.ntmps188
 have hw1:Ext w (w.alloc (.cells #[.slice PA pn pc,.slice AA an ac,sv,.int .i64 L,.int .i64 K,.int .i64 G] 166)):=(Ext.refl w).alloc _
 have hb1:=Blk.new w 166 #[.slice PA pn pc,.slice AA an ac,sv,.int .i64 L,.int .i64 K,.int .i64 G]
 go_wp2
 go_loopw [3,4] (fun v i wr=>∃ k:Nat,k≤pn∧i=.int .i64 k∧wr.ownsRow w.heap.size 3 1 v k (nats ((ss.take k).map fun s=>s.st.toNat))∧Ext w wr∧Blk wr w.heap.size 166 #[.slice PA pn pc,.slice AA an ac,sv,.int .i64 L,.int .i64 K,.int .i64 G])
  (fun _ i _=>pn - (intOf i).toNat)
 case atStart=>exact⟨0,Nat.zero_le _,rfl,(by have h0:=World.ownsRow_lit (base:=w.heap.size) (e:=3) (size:=1) (w.alloc (.cells #[.slice PA pn pc,.slice AA an ac,sv,.int .i64 L,.int .i64 K,.int .i64 G] 166)) #[] 0 (by simp) (by unfold maxLen;omega) rfl;simpa [nats] using h0),hw1.alloc _,hb1.ext ((Ext.refl _).alloc _)⟩
 case round =>
  obtain⟨k,hk,rfl,hown,hext,hbx⟩:=hrel
  have c0:=hbx.cell
  by_cases hlt:k<pn
  ·obtain⟨lo,hi,hsl⟩:=(HN.out wr hext).sys
   obtain⟨b,o,s,B,q,d,rfl,hlo,hhi,hs,e0,e1,e2,hsy⟩:=hsl.sys hlt
   have hss:=zci (Hok.out.sys s (List.mem_of_getElem? hs.out))
   obtain⟨p,hp⟩:∃ p:Nat,Hid (s.st=p):=⟨s.st.toNat,by have:=hss.1;unfold Hid;omega⟩
   rw [hp.out] at e1
   have Htk:=hide (show (ss.take (k+1)).map (fun s=>s.st.toNat)=(ss.take k).map (fun s=>s.st.toNat)++[p] by rw [List.take_add_one,hs.out];simp [hp.out])
   clear hss hsl hsy
   go_wp2_with (at_builtin;refine zP w wr rfl _ _ _ rfl 3 _ 1 8 Tryz.underlying71 zY rfl (by decide) u3 _ _ _ _ rfl rfl hext hown rfl (zaZ _) (by unfold maxLen;omega) (by omega) ?_;intro v' w1 hext1 hown1 hg1 hat1)
   have hbx1:Blk w1 w.heap.size 166 #[.slice (some ⟨b,o,none⟩) pn pc,.slice AA an ac,sv,.int .i64 L,.int .i64 K,.int .i64 G]:=(hg1.block _ hbx.lt (fun e=>zdq hown hbx (by decide) e.symm rfl)).trans hbx
   go_roundw
   case rel=>exact⟨k+1,by omega,by go_num,by rw [Htk.out,zdb];exact hown1,hext1,hbx1⟩
   case measure=>simp [intOf];omega
  ·obtain rfl:pn=k:=by omega
   have hown0:wr.ownsRow w.heap.size 3 1 u3 pn (nats (ss.map fun s=>s.st.toNat)):=by rw [List.take_of_length_le (by have:=hpn.out;omega)] at hown;exact hown
   clear hown
   go_wp2
   go_loopw [3,5] (fun v i wr=>∃ k:Nat,k≤an∧i=.int .i64 k∧wr.ownsRow w.heap.size 3 1 v (pn+k) (nats (ss.map (fun s=>s.st.toNat)++(us.take k).map fun a=>a.next.length))∧Ext w wr∧Blk wr w.heap.size 166 #[.slice PA pn pc,.slice AA an ac,sv,.int .i64 L,.int .i64 K,.int .i64 G])
    (fun _ i _=>an - (intOf i).toNat)
   case atStart=>exact⟨0,Nat.zero_le _,rfl,by simpa using hown0,hext,hbx⟩
   case round =>
    clear hown0 hext hbx c0
    obtain⟨k,hk,rfl,hown,hext,hbx⟩:=hrel
    have c0:=hbx.cell
    by_cases hlt:k<an
    ·obtain⟨lo,hi,hsl⟩:=(HN.out wr hext).aut
     obtain⟨b,o,a,B,m,c,B',m',c',rfl,hs,e0,e1,e2,hat⟩:=hsl.aut hlt
     have hm:=hide hat.n1
     have hm12:m≤12:=by have:=(zi (Hok.out.aut a (List.mem_of_getElem? hs.out))).2.1;rw [← hm.out] at this;omega
     have Htk:=hide (show ss.map (fun s=>s.st.toNat)++(us.take (k+1)).map (fun a=>a.next.length)=(ss.map (fun s=>s.st.toNat)++(us.take k).map (fun a=>a.next.length))++[m] by rw [List.take_add_one,hs.out];simp [hm.out])
     clear hsl hat
     go_wp2_with (at_builtin;refine zP w wr rfl _ _ _ rfl 3 _ 1 8 Tryz.underlying71 zY rfl (by decide) u3 _ _ _ _ rfl rfl hext hown rfl (zaZ _) (by unfold maxLen;omega) (by omega) ?_;intro v' w1 hext1 hown1 hg1 hat1)
     have hbx1:Blk w1 w.heap.size 166 #[.slice PA pn pc,.slice (some ⟨b,o,none⟩) an ac,sv,.int .i64 L,.int .i64 K,.int .i64 G]:=(hg1.block _ hbx.lt (fun e=>zdq hown hbx (by decide) e.symm rfl)).trans hbx
     go_roundw
     case rel=>exact⟨k+1,by omega,by go_num,by rw [Htk.out,zdb];exact hown1,hext1,hbx1⟩
     case measure=>simp [intOf];omega
    ·obtain rfl:an=k:=by omega
     have hown0:wr.ownsRow w.heap.size 3 1 u3 (pn+an) (nats (szs ss us)):=by rw [List.take_of_length_le (by have:=han.out;omega)] at hown;exact hown
     have hle:pn+an=(szs ss us).length:=by have:=zeB hown0;simp [nats] at this;omega
     rw [hle] at hown0
     obtain⟨A5,c5,rfl⟩:=zh hown0
     clear hown
     go_wp2
     go_ret
     exact⟨_,_,rfl,hown0,hext⟩
theorem zgV {A B:Option Addr} {c d:Nat} {lo hi lo' hi':Nat} {sz st:List Nat} {w:World}(h:Lst NatP w lo hi A sz)(h':Lst NatP w lo' hi' B st)(hl:sz.length=st.length)(hb:∀ k,k≤sz.length→encF 0 (sz.take k) (st.take k)≤1048576)(hz:∀ x∈sz,x≤16)(hs:∀ x∈st,x≤16) :
  Calls Tryz.prog 193 #[.slice A sz.length c,.slice B st.length d] w fun e w'=>e=.returned (.int .i64 (encF 0 sz st:Nat))∧Ext w w':=by
 have HA:=hide (fun W (hW:Ext w W)=>h.ext NatP.ok hW)
 have HB:=hide (fun W (hW:Ext w W)=>h'.ext NatP.ok hW)
 have Hb:=hide hb
 have Hz:=hide hz
 have Hs:=hide hs
 have hlen:=h.len
 have hn:∃ n:Nat,Hid (sz.length=n)∧Hid (st.length=n):=⟨sz.length,rfl,hl.symm⟩
 obtain⟨n,hn1,hn2⟩:=hn
 rw [hn1.out] at hlen
 rw [hn1.out,hn2.out]
 clear hb hz hs hl h h'
 go_enter Tryz.func193,Tryz.ntmps193
 go_wp2
 go_loopw [5,6] (fun v i wr=>∃ k y:Nat,k≤n∧i=.int .i64 k∧v=.int .i64 y∧Hid (y=encF 0 (sz.take k) (st.take k))∧y≤1048576∧Ext w wr) (fun _ i _=>n - (intOf i).toNat)
 case atStart=>exact⟨0,0,Nat.zero_le _,rfl,rfl,rfl,by omega,Ext.refl _⟩
 case round =>
  obtain⟨k,y,hk,rfl,rfl,hy,hym,hx⟩:=hrel
  by_cases hlt:k<n
  ·obtain⟨b,o,s,rfl,_,_,hs,hc⟩:=(HA.out wr hx).num (show k<sz.length by rw [hn1.out];exact hlt)
   obtain⟨b',o',t,rfl,_,_,ht,hc'⟩:=(HB.out wr hx).num (show k<st.length by rw [hn2.out];exact hlt)
   have hs16:=Hz.out s (List.mem_of_getElem? hs.out)
   have ht16:=Hs.out t (List.mem_of_getElem? ht.out)
   have c1:∀ W,Ext wr W→W.cell? ⟨b,o+k,none⟩=some (.int .i64 (s:Nat)):=fun W hW=>hW.cell_some hc
   have c2:∀ W,Ext wr W→W.cell? ⟨b',o'+k,none⟩=some (.int .i64 (t:Nat)):=fun W hW=>hW.cell_some hc'
   have hst:=hide (show encF 0 (sz.take (k+1)) (st.take (k+1))=y*s+t by
    have key:∀ (k acc:Nat) (sz st:List Nat),sz[k]?=some s→st[k]?=some t→encF acc (sz.take (k+1)) (st.take (k+1))=encF acc (sz.take k) (st.take k)*s+t:=by
     intro k
     induction k with
     |zero =>
      intro acc sz st h1 h2
      cases sz<;>cases st<;>simp at h1 h2
      subst h1;subst h2
      simp [encF]
     |succ k ih =>
      intro acc sz st h1 h2
      cases sz<;>cases st<;>simp at h1 h2
      simpa [encF] using ih _ _ _ h1 h2
    rw [key k 0 sz st hs.out ht.out,hy.out])
   have hbd:=Hb.out (k+1) (by rw [hn1.out];omega)
   rw [hst.out] at hbd
   have hmul:y*s≤1048576:=by omega
   obtain⟨ys,hys⟩:∃ z:Nat,Hid (y*s=z):=⟨_,rfl⟩
   have hysi:(y:Int)*(s:Int)=(ys:Int):=by rw [← hys.out];exact (Int.natCast_mul y s).symm
   rw [hys.out] at hmul hbd hst
   have hrr:=Ext.refl wr
   clear hc hc'
   go_wp2_with fail
   go_quiet (fail)
   go_wp2_with fail
   go_roundw
   case rel=>exact⟨k+1,ys+t,by omega,by go_num,by go_num,by unfold Hid;rw [hst.out],hbd,hx.drewN _⟩
   case measure=>simp [intOf];omega
  ·obtain rfl:n=k:=by omega
   have hfin:=hide (show y=encF 0 sz st by rw [hy.out,List.take_of_length_le (by rw [hn1.out];exact Nat.le_refl _),List.take_of_length_le (by rw [hn2.out];exact Nat.le_refl _)])
   go_wp2
   go_ret
   exact⟨zE (by rw [hfin.out]),hx⟩
set_option maxHeartbeats 2000000
def decV (sz:List Nat) (x k:Nat):List Nat:=List.replicate k 0++dec (sz.drop k) x
theorem decV_set {sz:List Nat} {x k s:Nat}(h:sz[k]?=some s):(nats (decV sz x (k+1))).set k (.int .i64 ((x / zaj (sz.drop (k+1)) % s:Nat):Int))=nats (decV sz x k):=by
 have hd:sz.drop k=s :: sz.drop (k+1):=by
  obtain⟨hk,rfl⟩:=List.getElem?_eq_some_iff.1 h
  exact List.drop_eq_getElem_cons hk
 unfold decV nats
 rw [hd,dec,List.replicate_succ',List.append_assoc,List.map_append,List.map_append,List.set_append_right _ _ (by simp)]
 simp
theorem zes {A:Option Addr} {c n y0:Nat} {lo hi:Nat} {sz:List Nat} {w:World}(h:Lst NatP w lo hi A sz)(hn:sz.length=n)(hn5:n≤1000)(hz:∀ x∈sz,1≤x∧x≤16)(hy:y0≤4611686018427387904) :
  Calls Tryz.prog 191 #[.slice A n c,.int .i64 y0] w (zbr w (dec sz y0)):=by
 have HA:=hide (fun W (hW:Ext w W)=>h.ext NatP.ok hW)
 have Hz:=hide hz
 have Hn:=hide hn
 clear hz h hn
 go_enter Tryz.func191,Tryz.ntmps191
 go_wp2_with (at_make;refine zbE w w rfl _ _ 71 rfl 3 _ 1 8 Tryz.underlying71 zY _ _ n rfl rfl (Ext.refl _) (by omega) (by unfold maxLen;omega) ?_;intro w3 hw3 hown3 hx23 hsz3)
 generalize hg:w.heap.size=g at *
 have Hg:=hide hg
 clear hg hx23 hsz3
 go_loopw [1,6] (fun v i wr=>∃ k y:Nat,k≤n∧i=.int .i64 ((k:Int) - 1)∧v=.int .i64 y∧y≤4611686018427387904∧Hid (y=y0 / zaj (sz.drop k))∧wr.ownsRow g 3 1 (.slice (some ⟨g,0,none⟩) n n) n (nats (decV sz y0 k))∧Ext w wr) (fun _ i _=>(intOf i+1).toNat)
 case atStart=>exact⟨n,y0,Nat.le_refl _,by go_num,rfl,hy,by unfold Hid;rw [List.drop_of_length_le (by have:=Hn.out;omega)];simp [zaj],by rw [decV,List.drop_of_length_le (by have:=Hn.out;omega)];simpa [nats,dec,Value.cells,toList_madeCells_one] using hown3,hw3⟩
 case round =>
  clear hown3 hw3
  obtain⟨k,y,hk,rfl,rfl,hym,hyo,hown,hx⟩:=hrel
  by_cases hlt:0<k
  ·obtain⟨j,rfl⟩:∃ j,k=j+1:=⟨k - 1,by omega⟩
   obtain⟨b,o,s,rfl,_,_,hs,hc⟩:=(HA.out wr hx).num (show j<sz.length by have:=Hn.out;omega)
   obtain⟨s1,s16⟩:=Hz.out s (List.mem_of_getElem? hs.out)
   obtain⟨o0,g0⟩:=zaN hown j (by omega)
   have f0:=hown.frozenAt j
   have hmd:(y:Int) % (s:Int)=((y % s:Nat):Int):=(Int.natCast_emod y s).symm
   have hdv:(y:Int) / (s:Int)=((y / s:Nat):Int):=(Int.natCast_ediv y s).symm
   have hst:=hown.stored j (.int .i64 ((y % s:Nat):Int))
   rw [hyo.out,decV_set hs.out,← hyo.out] at hst
   have hdr:=hide (show y / s=y0 / zaj (sz.drop j) by
    rw [hyo.out,Nat.div_div_eq_div_mul,List.drop_eq_getElem_cons (show j<sz.length by have:=Hn.out;omega),zaj]
    have:sz[j]'(by have:=Hn.out;omega)=s:=by
     obtain⟨h1,h2⟩:=List.getElem?_eq_some_iff.1 hs.out
     exact h2
    rw [this,Nat.mul_comm])
   have hle:y / s≤4611686018427387904:=Nat.le_trans (Nat.div_le_self _ _) hym
   have hs0:¬ (s=0):=by omega
   have hgw:w.heap.size≤g:=by have:=Hg.out;omega
   have hj1:((j+1:Nat):Int) - 1=(j:Int):=by omega
   rw [hj1]
   have hc2:=(HA.out _ (hx.setCell (p:=⟨g,j,none⟩) hgw (.int .i64 ((y % s:Nat):Int)))).num2 hs.out
   generalize y % s=ym at *
   generalize y / s=yd at *
   go_wp2
   go_roundw
   case rel=>exact⟨j,yd,by omega,rfl,rfl,hle,hdr,hst.1,hx.setCell (p:=⟨g,j,none⟩) hgw _⟩
   case measure=>simp [intOf]
  ·obtain rfl:k=0:=by omega
   have hlen:=zcs sz y0
   have hfin:=hide (show wr.ownsRow w.heap.size 3 1 (.slice (some ⟨g,0,none⟩) (dec sz y0).length n) (dec sz y0).length (nats (dec sz y0)) by
    rw [hlen,Hn.out,Hg.out]
    simpa [decV] using hown)
   have hln:(dec sz y0).length=n:=by have:=Hn.out;omega
   go_wp2
   go_ret
   exact⟨some ⟨g,0,none⟩,n,by rw [hln];rfl,hfin.out,hx⟩
theorem spec_l4In {A:Option Addr} {c n:Nat} {lo hi x:Nat} {xs:List Nat} {w:World}(h:Lst NatP w lo hi A xs)(hn:xs.length=n) :
  Calls Tryz.prog 214 #[.slice A n c,.int .i64 x] w fun e w'=>e=.returned (.bool (decide (x∈xs)))∧w=w':=by
 have Hn:=hide hn
 have hlen:=h.len
 rw [hn] at hlen
 clear hn
 go_enter Tryz.func214,Tryz.ntmps214
 go_wp2
 go_loop [5] (fun i=>∃ k:Nat,k≤n∧i=.int .i64 k∧Hid (∀ (j z:Nat),j<k→xs[j]?=some z→z≠x)) (fun i=>n - (intOf i).toNat)
 case atStart=>exact⟨0,Nat.zero_le _,rfl,(show Hid _ from fun j z hj=>by omega)⟩
 case round =>
  obtain⟨k,hk,rfl,hno⟩:=hrel
  by_cases hlt:k<n
  ·obtain⟨b,o,z,rfl,_,_,hz,hc⟩:=h.num (show k<xs.length by rw [Hn.out];exact hlt)
   by_cases hzx:z=x
   ·subst hzx
    have hm:=hide (List.mem_of_getElem? hz.out)
    go_wp2
    go_ret
    exact⟨zk (by rw [decide_eq_true hm.out]),rfl⟩
   ·have hne:((z:Int)==(x:Int))=false:=by simp;omega
    go_wp2
    go_round
    case rel=>exact⟨k+1,by omega,by go_num,(show Hid _ from fun j y hj hy=>by
     by_cases e:j=k
     ·subst e
      have:=hz.out
      rw [hy] at this
      injection this with this
      subst this
      exact hzx
     ·exact hno.out j y (by omega) hy)⟩
    case measure=>simp [intOf];omega
  ·obtain rfl:n=k:=by omega
   have hm:=hide (show ¬ x∈xs from fun hx=>by
    obtain⟨j,hj⟩:=List.getElem?_of_mem hx
    exact hno.out j x (by have:=(List.getElem?_eq_some_iff.1 hj).1;rw [Hn.out] at this;exact this) hj rfl)
   go_wp2
   go_ret
   exact⟨zk (by rw [decide_eq_false hm.out]),rfl⟩
def accB (a:Aut) (q:Nat):Bool:=a.acc.getD q false
theorem zfQ {PA AA:Option Addr} {pn pc an ac:Nat} {sv:Value} {L K G:Int} {ss:List Sys} {us:List Aut} {w:World} {SA:Option Addr} {sn sc lo hi i q:Nat} {st:List Nat} {a:Aut}(h:zdU w PA pn AA an ss us)(h':Lst NatP w lo hi SA st)(hsn:st.length=sn)(hi:us[i]?=some a)(hq:st[pn+i]?=some q)(hqa:q<a.acc.length) :
  Calls Tryz.prog 212 #[.agg #[.slice PA pn pc,.slice AA an ac,sv,.int .i64 L,.int .i64 K,.int .i64 G],.slice SA sn sc,.int .i64 i] w fun e w'=>e=.returned (.bool (accB a q))∧Ext w w':=by
 have hia:i<an:=by obtain⟨_,_,h1⟩:=h.aut;rw [h1.1];exact (List.getElem?_eq_some_iff.1 hi).1
 have hsq:pn+i<sn:=by rw [← hsn];exact (List.getElem?_eq_some_iff.1 hq).1
 obtain⟨lo',hi',hal⟩:=h.aut
 have hlen:=hal.len
 have hlen':pn≤9223372036854775807:=by obtain⟨_,_,h1⟩:=h.sys;exact h1.len
 have hlen2:=h'.len
 rw [hsn] at hlen2
 obtain⟨b,o,a',B,m,c,B',m',c',rfl,ha',e0,e1,e2,hat⟩:=hal.aut hia
 obtain rfl:a=a':=by have:=ha'.out;rw [hi] at this;exact Option.some.inj this
 obtain⟨bs,os,q',rfl,_,_,hq',hc⟩:=h'.num (show pn+i<st.length by rw [hsn];exact hsq)
 obtain rfl:q=q':=by have:=hq'.out;rw [hq] at this;exact Option.some.inj this
 have hm':q<m':=by rw [hat.n2];exact hqa
 obtain⟨ad,x,rfl,_,_,hx,hcx⟩:=hat.2.2.bool hm'
 have hfin:=hide (show accB a q=x by unfold accB;rw [List.getD_eq_getElem?_getD,hx.out];rfl)
 have hml:=hat.2.2.len
 have hw1:Ext w (w.alloc (.cells #[.slice PA pn pc,.slice (some ⟨b,o,none⟩) an ac,sv,.int .i64 L,.int .i64 K,.int .i64 G] 166)):=(Ext.refl w).alloc _
 have hb1:=Blk.new w 166 #[.slice PA pn pc,.slice (some ⟨b,o,none⟩) an ac,sv,.int .i64 L,.int .i64 K,.int .i64 G]
 have c1:∀ W,Ext w W→W.cell? ⟨b,o+i*3+2,none⟩=some (.slice (some ad) m' c'):=fun W hW=>hW.cell_some e2
 have c2:∀ W,Ext w W→W.cell? ⟨bs,os+(pn+i),none⟩=some (.int .i64 (q:Nat)):=fun W hW=>hW.cell_some hc
 have c3:∀ W,Ext w W→W.cell? (ad.add q)=some (.bool x):=fun W hW=>hW.cell_some hcx
 clear hal hat h h' e0 e1 e2 hc hcx hx hq' ha' hi hq hqa
 go_enter Tryz.func212,Tryz.ntmps212
 go_wp2_with fail
 generalize w.alloc (.cells #[.slice PA pn pc,.slice (some ⟨b,o,none⟩) an ac,sv,.int .i64 L,.int .i64 K,.int .i64 G] 166)=w1 at *
 have c0:=hb1.cell
 have c1:=c1 w1 hw1
 have c2:=c2 w1 hw1
 have c3:=c3 w1 hw1
 have hpi:(pn:Int)+(i:Int)<(sn:Int):=by omega
 have hii:(i:Int)<(an:Int):=by omega
 have hqi:(q:Int)<(m':Int):=by omega
 go_quiet (fail)
 go_wp2_with fail
 go_ret
 exact⟨zk (by rw [hfin.out]),hw1.drewN _⟩
end Go.Proofs.YtndhahednhnnbaaGreatDoor
