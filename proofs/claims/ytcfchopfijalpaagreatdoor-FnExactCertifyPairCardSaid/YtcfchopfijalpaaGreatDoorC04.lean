/- spec.l4Near -/
import Derived.Test.YtcfchopfijalpaaGreatDoorC03
import Derived.IntWalk
import Derived.Test.YtcfchopfijalpaaGreatDoorC01
import Derived.Test.YtcfchopfijalpaaGreatDoorC02
import Derived.Laws.BytesArg
import Derived.Deep.DeepCutAuto
import Derived.Deep.CutBlock
import Derived.Deep.AppendLies
set_option maxHeartbeats 8000000
set_option maxRecDepth 100000
namespace Go.Proofs.YtcfchopfijalpaaGreatDoor
open Go Go.RowKit
def IntP:Lay Int:=fun _ _ _ r n=>r=.int .i64 n
theorem IntP.ok:Lay.Ok IntP:=⟨fun h _ _=>h,fun h _ _=>h⟩
theorem Lst.of_ints {W:World} {lo hi:Nat} {A:Option Addr} {xs:List Int}(h:Reads W lo hi 1 A xs.length (ints xs)):Lst IntP W lo hi A xs:=⟨ints xs,h,fun i r x hr hx=>by
 simp only [ints,List.getElem?_map,hx,Option.map_some] at hr
 exact (Option.some.inj hr).symm⟩
theorem Lst.int {W:World} {lo hi k:Nat} {A:Option Addr} {xs:List Int}(h:Lst IntP W lo hi A xs)(hk:k<xs.length):∃ b o x,A=some ⟨b,o,none⟩∧lo≤b∧b<hi∧Hid (xs[k]?=some x)∧W.cell? ⟨b,o+k,none⟩=some (.int .i64 x):=by
 obtain⟨b,o,r,x,e,h1,h2,h3,h4,h5⟩:=h.get hk
 exact⟨b,o,x,e,h1,h2,h3,by rw [h4,h5]⟩
def nearL (rows:List (List Nat)) (ds:List Int) (k:Int):Bool:=rows.any fun ys=>ys.any fun y=>ds.getD y (-1)==k
theorem near_row {d:Nat→Nat→List Nat} {L:List Nat} {ds:List Int} {k x:Nat}:nearL (L.map fun l=>d x l) ds (k:Int)=zio d L ds k x:=by
 unfold nearL zio
 rw [List.any_map]
 rfl
theorem any_stop {α:Type} {l:List α} {p:α→Bool} {k:Nat} {x:α}(h:l[k]?=some x)(hp:p x=true):l.any p=true:=List.any_eq_true.2 ⟨x,List.mem_of_getElem? h,hp⟩
theorem any_step {α:Type} {l:List α} {p:α→Bool} {k:Nat} {x:α}(h:l[k]?=some x)(hk:(l.take k).any p=false)(hp:p x=false):(l.take (k+1)).any p=false:=by
 rw [List.take_add_one,h]
 simp [hk,hp]
theorem spec_l4Near {lo hi lo' hi' r n c c':Nat} {A B:Option Addr} {rows:List (List Nat)} {ds:List Int} {k:Int} {w:World}(h:Lst (LstP zbb) w lo hi A rows)(h':Lst IntP w lo' hi' B ds)(hr:rows.length=r)(hn:ds.length=n)(hb:∀ ys∈rows,∀ y∈ys,y<n) :
  Calls Tryz.prog 268 #[.slice A r c,.slice B n c',.int .i64 k] w fun e w'=>e=.returned (.bool (nearL rows ds k))∧w=w':=by
 have Hb:=za hb
 have Hr:=za hr
 have Hn:=za hn
 have hl1:=h.len
 have hl2:=h'.len
 rw [hr] at hl1
 rw [hn] at hl2
 clear hb hr hn
 go_enter Tryz.func268,Tryz.ntmps268
 go_wp2
 go_loop [7,8] (fun i _=>∃ a:Nat,i=.int .i64 a∧a≤r∧Hid ((rows.take a).any (fun ys=>ys.any fun y=>ds.getD y (-1)==k)=false)) (fun i _=>r - (intOf i).toNat)
 case atStart=>exact⟨0,rfl,Nat.zero_le _,rfl⟩
 case round =>
  obtain⟨a,rfl,ha,hno⟩:=hrel
  by_cases hlt:a<r
  ·obtain⟨b,o,v,ys,rfl,_,_,hys,hc,A',ca,rfl,hy⟩:=h.get (show a<rows.length by rw [Hr.out];exact hlt)
   have hly:=hy.len
   go_wp2
   go_loop [8] (fun i=>∃ j:Nat,i=.int .i64 j∧j≤ys.length∧Hid ((ys.take j).any (fun y=>ds.getD y (-1)==k)=false)) (fun i=>ys.length - (intOf i).toNat)
   case atStart=>exact⟨0,rfl,Nat.zero_le _,rfl⟩
   case round =>
    obtain⟨j,rfl,hj,hno2⟩:=hrel
    by_cases hlj:j<ys.length
    ·obtain⟨b2,o2,y,rfl,_,_,hyy,hc2⟩:=hy.num hlj
     have hyn:=Hb.out ys (List.mem_of_getElem? hys.out) y (List.mem_of_getElem? hyy.out)
     obtain⟨b3,o3,v,rfl,_,_,hv,hc3⟩:=h'.int (show y<ds.length by rw [Hn.out];exact hyn)
     have hgd:=za (show ds.getD y (-1)=v by rw [List.getD_eq_getElem?_getD,hv.out];rfl)
     by_cases hvk:v=k
     ·subst hvk
      have hres:=za (show nearL rows ds v=true from any_stop hys.out (any_stop hyy.out (by rw [hgd.out];simp)))
      go_wp2
      go_ret
      exact⟨zj (by rw [hres.out]),rfl⟩
     ·have hne:(v==k)=false:=by simp;omega
      have hst:=za (any_step (p:=fun y=>ds.getD y (-1)==k) hyy.out hno2.out (show (ds.getD y (-1)==k)=false by rw [hgd.out];exact hne))
      go_wp2
      go_round
      case rel=>exact⟨j+1,by go_num,by omega,hst⟩
      case measure=>simp [intOf];omega
    ·obtain rfl:j=ys.length:=by omega
     rw [List.take_length] at hno2
     have hst:=za (any_step (p:=fun ys=>ys.any fun y=>ds.getD y (-1)==k) hys.out hno.out hno2.out)
     go_wp2
     go_round
     case rel=>exact⟨a+1,by go_num,by omega,hst⟩
     case measure=>simp [intOf];omega
  ·obtain rfl:a=r:=by omega
   have hres:=za (show nearL rows ds k=false by
    have:=hno.out
    rw [List.take_of_length_le (by rw [Hr.out];exact Nat.le_refl _)] at this
    exact this)
   go_wp2
   go_ret
   exact⟨zj (by rw [hres.out]),rfl⟩
theorem zbr.known {d:Nat→Nat→List Nat} {L:List Nat} {goal:Nat→Bool} {N k i:Nat} {ds:List Int} {v:Int}(h:zbr d L goal N k i ds)(hv:ds[i]?=some v)(h0:0≤v):¬ Mn d L goal k i:=fun hm=>by
 have h1:=h.2 i v hv
 rw [if_neg (by omega)] at h1
 rcases h1 with ⟨h2,_⟩|⟨n,h2,_,h3⟩
 ·omega
 ·have:=h3.uniq hm
  omega
theorem zbr.neg {d:Nat→Nat→List Nat} {L:List Nat} {goal:Nat→Bool} {N k i:Nat} {ds:List Int} {x:Nat} {v:Int}(h:zbr d L goal N k i ds)(hv:ds[x]?=some v)(h0:v<0):v = -1:=by
 rcases h.2 x v hv with ⟨h2,_⟩|⟨n,_,h2,_⟩
 ·exact h2
 ·omega
def RetDs (d:Nat→Nat→List Nat) (L:List Nat) (goal:Nat→Bool) (N base gd cap:Nat) (w:World) (e:Ending) (w':World):Prop:=
 e=.returned (.tuple #[])∧∃ ds',Hid (DsFin d L goal N ds')∧w'.ownsRow base 3 1 (.slice (some ⟨gd,0,none⟩) N cap) N (ints ds')∧Frm (fun k=>k=gd) w w'
theorem spec_l4Dist {lo hi N base gd cap c:Nat} {A:Option Addr} {d:Nat→Nat→List Nat} {L:List Nat} {goal:Nat→Bool} {ds:List Int} {w:World}(h:Lst P3 w lo hi A (mvs d L N))(hg:gd<lo∨hi≤gd) (ziJ:w.ownsRow base 3 1 (.slice (some ⟨gd,0,none⟩) N cap) N (ints ds))(hds:zbr d L goal N 1 0 ds)(hN:N≤1048576)(hd:∀ x l,x<N→l∈L→∀ y∈d x l,y<N) :
  Calls Tryz.prog 216 #[.slice A N c,.slice (some ⟨gd,0,none⟩) N cap] w (RetDs d L goal N base gd cap w):=by
 have HM:=za (fun W (hW:Frm (fun k=>k=gd) w W)=>h.frm P3.ok hW (fun k h1 h2 e=>by omega))
 have Hd:=za hd
 have Hown:=za ziJ
 have Hds:=za hds
 clear h hd ziJ hds
 go_enter Tryz.func216,Tryz.ntmps216
 go_wp2
 go_loopw [4,5,6] (fun m v _ wr=>∃ (k:Nat) (ds:List Int) (mb:Bool),m=.bool mb∧v=.int .i64 ((k:Int)+1)∧k≤N+1∧Hid (if mb=true then zbr d L goal N (k+1) 0 ds∧k+ds.count (-1)≤N else DsFin d L goal N ds)∧wr.ownsRow base 3 1 (.slice (some ⟨gd,0,none⟩) N cap) N (ints ds)∧Frm (fun k=>k=gd) w wr) (fun _ v _ _=>N+3 - (intOf v).toNat)
 case atStart=>exact⟨0,ds,true,rfl,rfl,by omega,(show Hid _ from by
  rw [if_pos rfl]
  refine⟨Hds.out,?_⟩
  have:=List.count_le_length (l:=ds) (a:=(-1:Int))
  rw [Hds.out.1] at this
  omega),Hown.out,Frm.refl _ _⟩
 case round =>
  clear Hown Hds
  clear ds
  obtain⟨k,ds,mb,rfl,rfl,hk,hst,ziJ,hfr⟩:=hrel
  cases mb
  ·have ziM:=za (show RetDs d L goal N base gd cap w (.returned (.tuple #[])) wr from ⟨rfl,ds,(show DsFin d L goal N ds by have:=hst.out;simpa using this),ziJ,hfr⟩)
   clear ziJ
   go_wp2
   exact bodyPost_ret (v:=.tuple #[]) (by simp [results,Tryz.results216,go_sem]) rfl ziM.out
  ·obtain⟨hmid,hcnt⟩:zbr d L goal N (k+1) 0 ds∧k+ds.count (-1)≤N:=by have:=hst.out;simpa using this
   have Hmid:=za hmid
   clear hst hmid
   obtain⟨c0,hc0⟩:∃ c0,Hid (ds.count (-1)=c0):=⟨_,rfl⟩
   rw [hc0.out] at hcnt
   go_wp2
   go_loopw [4,6] (fun m i wr=>∃ (i':Nat) (ds:List Int) (mb:Bool),m=.bool mb∧i=.int .i64 i'∧i'≤N∧Hid (zbr d L goal N (k+1) i' ds∧ds.count (-1)+(if mb=true then 1 else 0)≤c0∧(mb=false→∀ x,x<i'→¬ Mn d L goal (k+1) x))∧wr.ownsRow base 3 1 (.slice (some ⟨gd,0,none⟩) N cap) N (ints ds)∧Frm (fun k=>k=gd) w wr) (fun _ i _=>N - (intOf i).toNat)
   case atStart=>exact⟨0,ds,false,rfl,rfl,Nat.zero_le _,(show Hid _ from ⟨Hmid.out,by rw [hc0.out];simp,fun _ x hx=>by omega⟩),ziJ,hfr⟩
   case round =>
    clear Hmid ziJ hfr hc0
    clear ds
    obtain⟨i,ds,mb,rfl,rfl,hi,hst,ziJ,hfr⟩:=hrel
    by_cases hlt:i<N
    ·have hlen:ds.length=N:=hst.out.1.1
     obtain⟨bi,oi,v,hA,_,_,hv,hcv⟩:=(Lst.of_ints (xs:=ds) (by rw [hlen];exact Reads.of_own ziJ)).int (show i<ds.length by omega)
     obtain⟨rfl,rfl⟩:gd=bi∧0=oi:=by injection hA with e;injection e with e1 e2;exact⟨e1,e2⟩
     rw [Nat.zero_add] at hcv
     clear hA
     by_cases hv0:v<0
     ·have hv1:=hst.out.1.neg hv.out hv0
      subst hv1
      obtain⟨bm,om,r,row,rfl,_,_,hrow,hcm,Ar,cr,rfl,hrw⟩:=(HM.out wr hfr).get (show i<(mvs d L N).length by rw [zdd];exact hlt)
      have hrw0:=za (show row=L.map fun l=>d i l by
       have h1:=hrow.out
       rw [mvs,List.getElem?_map,List.getElem?_range hlt] at h1
       exact (Option.some.inj h1).symm)
      have hnear:=za (show nearL row ds (k:Int)=zio d L ds k i by rw [hrw0.out];exact near_row)
      have hlst:=Lst.of_ints (xs:=ds) (by rw [hlen];exact Reads.of_own ziJ)
      have HC:=za (spec_l4Near (c:=cr) (c':=cap) (k:=(k:Int)) hrw hlst rfl hlen (fun ys hys y hy=>by
       rw [hrw0.out] at hys
       obtain⟨l,hl,rfl⟩:=List.mem_map.1 hys
       exact Hd.out i l hlt hl y hy))
      have hkk:(k:Int)+1 - 1=(k:Int):=by omega
      cases hnb:zio d L ds k i
      ·have hnl:=za (hnear.out.trans hnb)
       have Hnb:=za hnb
       clear hnb hrw hlst
       have hst2:=za (show zbr d L goal N (k+1) (i+1) ds∧ds.count (-1)+(if mb=true then 1 else 0)≤c0∧(mb=false→∀ x,x<i+1→¬ Mn d L goal (k+1) x) from
        ⟨hst.out.1.keep Hd.out hv.out hv0 Hnb.out,hst.out.2.1,fun hm x hx=>by
         by_cases e:x=i
         ·subst e
          intro hM
          rw [(hst.out.1.near Hd.out hv.out hv0).2 hM] at Hnb
          exact absurd Hnb.out (by decide)
         ·exact hst.out.2.2 hm x (by omega)⟩)
       go_wp2_with (go_at_call 268;with_reducible refine HC.out.mono ?_;rw [hnl.out];rintro e w4 ⟨rfl,rfl⟩)
       go_roundw
       case rel=>exact⟨i+1,ds,mb,rfl,by go_num,by omega,hst2,ziJ,hfr⟩
       case measure=>simp [intOf];omega
      ·have hnl:=za (hnear.out.trans hnb)
       have Hnb:=za hnb
       clear hnb hrw hlst
       have hst2:=za (show zbr d L goal N (k+1) (i+1) (ds.set i ((k+1:Nat):Int))∧(ds.set i ((k+1:Nat):Int)).count (-1)+(if true=true then 1 else 0)≤c0∧(true=false→∀ x,x<i+1→¬ Mn d L goal (k+1) x) from
        ⟨hst.out.1.put Hd.out hv.out hv0 Hnb.out,by
         have h1:=set_count (u:=((k+1:Nat):Int)) hv.out rfl (by omega)
         have h2:=hst.out.2.1
         simp only [if_true]
         cases mb
         ·simp at h2;omega
         ·simp at h2;omega,fun h=>by cases h⟩)
       have f0:=ziJ.frozenAt i
       have hss:=ziJ.stored i (.int .i64 ((k:Int)+1))
       have hset:(ints ds).set i (.int .i64 ((k:Int)+1))=ints (ds.set i ((k+1:Nat):Int)):=by
        rw [ints,ints,List.map_set];rfl
       rw [hset] at hss
       clear hset
       go_wp2_with (go_at_call 268;with_reducible refine HC.out.mono ?_;rw [hnl.out];rintro e w4 ⟨rfl,rfl⟩)
       go_roundw
       case rel=>exact⟨i+1,_,true,rfl,by go_num,by omega,hst2,hss.1,hfr.cell (p:=⟨gd,i,none⟩) rfl _⟩
       case measure=>simp [intOf];omega
     ·have hst2:=za (show zbr d L goal N (k+1) (i+1) ds∧ds.count (-1)+(if mb=true then 1 else 0)≤c0∧(mb=false→∀ x,x<i+1→¬ Mn d L goal (k+1) x) from
       ⟨hst.out.1.skip hv.out (by omega),hst.out.2.1,fun hm x hx=>by
        by_cases e:x=i
        ·subst e
         exact hst.out.1.known hv.out (by omega)
        ·exact hst.out.2.2 hm x (by omega)⟩)
      go_wp2
      go_roundw
      case rel=>exact⟨i+1,ds,mb,rfl,by go_num,by omega,hst2,ziJ,hfr⟩
      case measure=>simp [intOf];omega
    ·obtain rfl:N=i:=by omega
     have ziM:=za (show if mb=true then zbr d L goal N (k+1+1) 0 ds∧k+1+ds.count (-1)≤N else DsFin d L goal N ds by
      obtain⟨h1,h2,h3⟩:=hst.out
      cases mb
      ·rw [if_neg (by decide)]
       exact h1.fin Hd.out (h3 rfl)
      ·rw [if_pos rfl]
       refine⟨h1.round_,?_⟩
       simp at h2
       omega)
     have hk1:k+1≤N+1:=by omega
     go_wp2
     go_roundw
     case rel=>exact⟨k+1,ds,mb,rfl,by go_num,hk1,ziM,ziJ,hfr⟩
     case measure=>simp [intOf];omega
def zL (l:List ByteArray):List Value:=l.map Value.string
theorem zaD (l:List ByteArray):(zL l).length=l.length:=by simp [zL]
theorem conv_one (w:World) (x:Int):(convert 62 9 (.slice (some ⟨w.heap.size,0,none⟩) 1 1)).run Tryz.prog (w.alloc (.cells #[.int .u8 x] 5))=.ok (.string (strOfNums [x])) (w.alloc (.cells #[.int .u8 x] 5)):=
 run_convert_bytes_arg _ _ 5 Tryz.underlying62 Tryz.underlying5 w.heap.size 0 1 1 [x] rfl (fun i hi=>by
  obtain rfl:i=0:=by omega
  rw [(Blk.new w 5 #[.int .u8 x]).cell];rfl) _ Tryz.underlying9
theorem size_one (x:Int):(strOfNums [x]).size=1:=by simp [strOfNums];rfl
theorem lbs_snoc (v:List Nat) (l:Nat):lbs (v++[l])=lbs v++[((97+l:Nat):Int)]:=by simp [lbs]
theorem zfU (a b:List Int):strOfNums (a++b)=strOfNums a++strOfNums b:=by
 apply ByteArray.ext
 simp [strOfNums,ByteArray.data_append]
def wstr (v:List Nat):ByteArray:=strOfNums (lbs v)
theorem wstr_snoc (v:List Nat) (l:Nat):wstr (v++[l])=wstr v++strOfNums [((97+l:Nat):Int)]:=by rw [wstr,lbs_snoc,zfU];rfl
theorem zgV (v:List Nat):(wstr v).size=v.length:=by rw [wstr,strOfNums_size];simp [lbs]
theorem zek {l:Nat} {w:World}(h1:l<6) :
  Calls Tryz.prog 135 #[.int .i64 l] w fun e w'=>e=.returned (.string (strOfNums [((97+l:Nat):Int)]))∧Ext w w':=by
 have hc:=conv_one w
 have hw:IntKind.u8.wrap (97+(l:Int))=((97+l:Nat):Int):=by rw [IntKind.wrap_u8];omega
 go_enter Tryz.func135,Tryz.ntmps135
 go_wp2
 go_ret
 exact⟨by first|rfl|(rw [hw];rfl)|simp [hw],(Ext.refl _).alloc _⟩
def RetClo (w:World) (d:Nat→Nat→List Nat) (ds:List Int) (at_:List Nat) (l:Nat) (r:Int) (N:Nat) (e:Ending) (w':World):Prop:=
 ∃ nx:List Nat,zbB w nx e w'∧Hid (nx.length≤N∧∀ x,x∈nx↔∃ n∈at_,x∈d n l∧ds[x]?=some r)
theorem ziA {lo hi lo' hi' lo2 hi2 N m c c' c2:Nat} {A B C:Option Addr} {d:Nat→Nat→List Nat} {L:List Nat} {ds:List Int} {at_:List Nat} {k l:Nat} {r:Int} {w:World}(h:Lst P3 w lo hi A (mvs d L N))(h':Lst IntP w lo' hi' B ds)(h2:Lst zbb w lo2 hi2 C at_)(hm:at_.length=m)(hat:∀ n∈at_,n<N)(hl:L[k]?=some l)(hds:ds.length=N)(hN:N≤1048576)(hd:∀ x l,x<N→l∈L→∀ y∈d x l,y<N) :
  Calls Tryz.prog 218 #[.slice A N c,.slice B N c',.slice C m c2,.int .i64 k,.int .i64 r] w (RetClo w d ds at_ l r N):=by
 have HM:=za (fun W (hW:Ext w W)=>h.ext P3.ok hW)
 have HD:=za (fun W (hW:Ext w W)=>h'.ext IntP.ok hW)
 have HA:=za (fun W (hW:Ext w W)=>h2.ext zbb.ok hW)
 have Hd:=za (fun x hx=>hd x l hx (List.mem_of_getElem? hl))
 have Hat:=za hat
 have Hl:=za hl
 have Hm:=za hm
 have Hds:=za hds
 have hml:=h2.len
 rw [hm] at hml
 have hkL:k<L.length:=(List.getElem?_eq_some_iff.1 hl).1
 have hLl:∀ n,n<N→(L.map fun l=>d n l)[k]?=some (d n l):=fun n _=>by rw [List.getElem?_map,hl];rfl
 have HLl:=za hLl
 clear h h' h2 hd hat hl hm hds hLl
 go_enter Tryz.func218,Tryz.ntmps218
 go_upto_region 2 with fail
 have hx0:=(Ext.refl w).alloc (.cells #[] 3)
 have hown0:=World.ownsRow_lit (base:=w.heap.size) (e:=3) (size:=1) w #[] 0 (Nat.le_refl _) (by unfold maxLen;omega) rfl
 generalize hg1:(some ⟨w.heap.size,0,none⟩:Option Addr)=A1 at *
 clear hg1
 generalize w.alloc (.cells #[] 3)=w0 at *
 go_wp2_with fail
 go_loopw [11,12,13,14] (fun v i _ _ wr=>∃ (a:Nat) (nx:List Nat),i=.int .i64 a∧a≤m∧Hid (nx.Nodup∧∀ x,x∈nx↔∃ n∈at_.take a,x∈d n l∧ds[x]?=some r)∧wr.ownsRow w.heap.size 3 1 v nx.length (zS nx)∧Ext w wr) (fun _ i _ _ _=>m - (intOf i).toNat)
 case atStart=>exact⟨0,[],rfl,Nat.zero_le _,(show Hid _ from ⟨by simp,by simp⟩),by simpa [zS] using hown0,hx0⟩
 case round =>
  clear hown0 hx0
  obtain⟨a,nx,rfl,ha,hnx,ziJ,hx⟩:=hrel
  obtain⟨A0,c0,rfl⟩:=zi ziJ
  by_cases hlt:a<m
  ·obtain⟨ba,oa,n,rfl,_,_,hn,hca⟩:=(HA.out w (Ext.refl _)).num (show a<at_.length by rw [Hm.out];exact hlt)
   have hnN:=Hat.out n (List.mem_of_getElem? hn.out)
   obtain⟨bm,om,v,row,rfl,_,_,hrow,hcm,Ar,cr,rfl,hrw⟩:=(HM.out w (Ext.refl _)).get (show n<(mvs d L N).length by rw [zdd];exact hnN)
   have hrw0:=za (show row=L.map fun l=>d n l by
    have h1:=hrow.out
    rw [mvs,List.getElem?_map,List.getElem?_range hnN] at h1
    exact (Option.some.inj h1).symm)
   have hkr:k<row.length:=by rw [hrw0.out,List.length_map];exact hkL
   obtain⟨br,or_,v,ys,rfl,_,_,hys,hcr,Ay,cy,rfl,hyl⟩:=hrw.get hkr
   have hys0:=za (show ys=d n l by
    have h1:=hys.out
    rw [hrw0.out,HLl.out n hnN] at h1
    exact (Option.some.inj h1).symm)
   have hlys:=hyl.len
   have HY:=za (fun W (hW:Ext w W)=>hyl.ext zbb.ok hW)
   have hysN:=za (show ∀ y∈ys,y<N by rw [hys0.out];exact Hd.out n hnN)
   have hsn:=za (show at_.take (a+1)=at_.take a++[n] by rw [List.take_add_one,hn.out];rfl)
   have hca':=hx.cell_some hca
   have hcm':=hx.cell_some hcm
   have hcr':=hx.cell_some hcr
   clear hyl hca hcm hcr hrw
   go_wp2_with fail
   clear hca' hcm' hcr'
   go_loopw [11,14] (fun v i wr2=>∃ (j:Nat) (nx:List Nat),i=.int .i64 j∧j≤ys.length∧Hid (nx.Nodup∧∀ x,x∈nx↔(∃ n∈at_.take a,x∈d n l∧ds[x]?=some r)∨(x∈ys.take j∧ds[x]?=some r))∧wr2.ownsRow w.heap.size 3 1 v nx.length (zS nx)∧Ext w wr2) (fun _ i _=>ys.length - (intOf i).toNat)
   case atStart=>exact⟨0,nx,rfl,Nat.zero_le _,(show Hid _ from ⟨hnx.out.1,fun x=>by rw [hnx.out.2 x];simp⟩),ziJ,hx⟩
   case round =>
    clear ziJ hx hnx
    obtain⟨j,nx,rfl,hj,hnx,ziJ,hx⟩:=hrel
    obtain⟨A0,c0,rfl⟩:=zi ziJ
    by_cases hlj:j<ys.length
    ·obtain⟨by_,oy,y,rfl,_,_,hy,hcy⟩:=(HY.out _ hx).num hlj
     have hyN:=hysN.out y (List.mem_of_getElem? hy.out)
     obtain⟨bd,od,v,rfl,_,_,hv,hcd⟩:=(HD.out _ hx).int (show y<ds.length by rw [Hds.out];exact hyN)
     have htk:=za (show ys.take (j+1)=ys.take j++[y] by rw [List.take_add_one,hy.out];rfl)
     by_cases hvr:v=r
     ·have Hvr:=za (show ds[y]?=some r by rw [hv.out,hvr])
      subst hvr
      have hlst:=Lst.own_nats ziJ
      have HI:=za (spec_l4In (c:=c0) (x:=y) hlst rfl)
      have hnxl:nx.length≤N:=zeu hnx.out.1 fun x hx=>by
       rcases (hnx.out.2 x).1 hx with ⟨_,_,_,h1⟩|⟨_,h1⟩<;>· have:=(List.getElem?_eq_some_iff.1 h1).1;rw [Hds.out] at this;exact this
      by_cases hin:y∈nx
      ·have hdi:=za (show decide (y∈nx)=true by simp [hin])
       have hst:=za (show nx.Nodup∧∀ x,x∈nx↔(∃ n∈at_.take a,x∈d n l∧ds[x]?=some v)∨(x∈ys.take (j+1)∧ds[x]?=some v) from ⟨hnx.out.1,fun x=>by
        rw [hnx.out.2 x,htk.out,List.mem_append,List.mem_singleton]
        constructor
        ·rintro (h|⟨h,h'⟩)
         ·exact Or.inl h
         ·exact Or.inr ⟨Or.inl h,h'⟩
        ·rintro (h|⟨h|h,h'⟩)
         ·exact Or.inl h
         ·exact Or.inr ⟨h,h'⟩
         ·subst h;exact (hnx.out.2 x).1 hin⟩)
       clear hlst hin
       go_wp2_with (go_at_call 269;with_reducible refine HI.out.mono ?_;rw [hdi.out];rintro e w4 ⟨rfl,rfl⟩)
       go_roundw
       case rel=>exact⟨j+1,nx,by go_num,by omega,hst,ziJ,hx⟩
       case measure=>simp [intOf];omega
      ·have hdi:=za (show decide (y∈nx)=false by simp [hin])
       have hst:=za (show (nx++[y]).Nodup∧∀ x,x∈nx++[y]↔(∃ n∈at_.take a,x∈d n l∧ds[x]?=some v)∨(x∈ys.take (j+1)∧ds[x]?=some v) from ⟨List.nodup_append.2 ⟨hnx.out.1,by simp,fun x hx z hz e=>by simp at hz;subst hz;subst e;exact hin hx⟩,fun x=>by
        rw [List.mem_append,List.mem_singleton,hnx.out.2 x,htk.out,List.mem_append,List.mem_singleton]
        constructor
        ·rintro ((h|⟨h,h'⟩)|h)
         ·exact Or.inl h
         ·exact Or.inr ⟨Or.inl h,h'⟩
         ·subst h;exact Or.inr ⟨Or.inr rfl,Hvr.out⟩
        ·rintro (h|⟨h|h,h'⟩)
         ·exact Or.inl (Or.inl h)
         ·exact Or.inl (Or.inr ⟨h,h'⟩)
         ·exact Or.inr h⟩)
       clear hlst hin
       go_wp2_with (first
        |(go_at_call 269;with_reducible refine HI.out.mono ?_;rw [hdi.out];rintro e w4 ⟨rfl,rfl⟩)
        |(at_builtin;refine zak w wr rfl _ _ _ rfl 3 _ 1 8 Tryz.underlying128 zah rfl (by decide) (.slice A0 nx.length c0) _ _ _ _ rfl rfl hx ziJ rfl (zaR _) (by unfold maxLen;omega) (by omega) ?_;intro v' w5 hext5 ziV hg5 hat5))
       go_roundw
       case rel=>exact⟨j+1,nx++[y],by go_num,by omega,hst,by rw [List.length_append,zdG];exact ziV,hext5⟩
       case measure=>simp [intOf];omega
     ·have hne:(v==r)=false:=by simp;omega
      have hst:=za (show nx.Nodup∧∀ x,x∈nx↔(∃ n∈at_.take a,x∈d n l∧ds[x]?=some r)∨(x∈ys.take (j+1)∧ds[x]?=some r) from ⟨hnx.out.1,fun x=>by
       rw [hnx.out.2 x,htk.out,List.mem_append,List.mem_singleton]
       constructor
       ·rintro (h|⟨h,h'⟩)
        ·exact Or.inl h
        ·exact Or.inr ⟨Or.inl h,h'⟩
       ·rintro (h|⟨h|h,h'⟩)
        ·exact Or.inl h
        ·exact Or.inr ⟨h,h'⟩
        ·subst h
         rw [hv.out] at h'
         exact absurd (Option.some.inj h') hvr⟩)
      clear hvr
      go_wp2_with fail
      go_roundw
      case rel=>exact⟨j+1,nx,by go_num,by omega,hst,ziJ,hx⟩
      case measure=>simp [intOf];omega
    ·obtain rfl:j=ys.length:=by omega
     have hst:=za (show nx.Nodup∧∀ x,x∈nx↔∃ n∈at_.take (a+1),x∈d n l∧ds[x]?=some r from ⟨hnx.out.1,fun x=>by
      rw [hnx.out.2 x,List.take_length,hys0.out,hsn.out]
      constructor
      ·rintro (⟨z,h1,h2⟩|⟨h1,h2⟩)
       ·exact⟨z,by simp [h1],h2⟩
       ·exact⟨n,by simp,h1,h2⟩
      ·rintro ⟨z,h1,h2⟩
       rcases List.mem_append.1 h1 with h1|h1
       ·exact Or.inl ⟨z,h1,h2⟩
       ·rw [List.mem_singleton.1 h1] at h2;exact Or.inr h2⟩)
     go_wp2_with fail
     go_roundw
     case rel=>exact⟨a+1,nx,by go_num,by omega,hst,ziJ,hx⟩
     case measure=>simp [intOf];omega
  ·obtain rfl:a=m:=by omega
   have hres:=za (show RetClo w d ds at_ l r N (.returned (.slice A0 nx.length c0)) wr from by
    refine⟨nx,⟨A0,c0,rfl,ziJ,hx⟩,(show Hid _ from ⟨zeu hnx.out.1 fun x hx=>?_,fun x=>?_⟩)⟩
    ·obtain⟨_,_,_,h1⟩:=(hnx.out.2 x).1 hx
     have:=(List.getElem?_eq_some_iff.1 h1).1;rw [Hds.out] at this;exact this
    ·rw [hnx.out.2 x,List.take_of_length_le (by rw [Hm.out];exact Nat.le_refl _)])
   clear ziJ
   go_wp2
   go_ret
   exact hres.out
theorem ziC {PA AA:Option Addr} {pn pc an ac:Nat} {sv mv:Value} {L G:Int} {ss:List Sys} {w:World} {SA:Option Addr} {sn sc lo hi q q':Nat} {st:List Nat} {a p:Aut}(h:zeG w PA pn AA an ss [a,p])(h':Lst zbb w lo hi SA st)(hsn:st.length=sn)(hq:st[pn]?=some q)(hqa:q<a.acc.length)(hq':st[pn+1]?=some q')(hqp:q'<p.acc.length) :
  Calls Tryz.prog 214 #[.agg #[.slice PA pn pc,.slice AA an ac,sv,.int .i64 L,.int .i64 2,.int .i64 G],.slice SA sn sc,mv] w fun e w'=>e=.returned (.bool (zcg a q&&!zcg p q'))∧Ext w w':=by
 have H1:∀ W,Ext w W→Calls Tryz.prog 267 #[.agg #[.slice PA pn pc,.slice AA an ac,sv,.int .i64 L,.int .i64 2,.int .i64 G],.slice SA sn sc,.int .i64 0] W fun e w'=>e=.returned (.bool (zcg a q))∧Ext W w':=
  fun W hW=>zgM (i:=0) (a:=a) (q:=q) (st:=st) (us:=[a,p]) (h.ext hW) (h'.ext zbb.ok hW) hsn (by simp) (by rw [Nat.add_zero];exact hq) hqa
 replace H1:=za H1
 have H2:∀ W,Ext w W→Calls Tryz.prog 267 #[.agg #[.slice PA pn pc,.slice AA an ac,sv,.int .i64 L,.int .i64 2,.int .i64 G],.slice SA sn sc,.int .i64 1] W fun e w'=>e=.returned (.bool (zcg p q'))∧Ext W w':=
  fun W hW=>zgM (i:=1) (a:=p) (q:=q') (st:=st) (us:=[a,p]) (h.ext hW) (h'.ext zbb.ok hW) hsn (by simp) hq' hqp
 replace H2:=za H2
 clear h h' hsn hq hqa hq' hqp
 generalize zcg a q=x at *
 generalize zcg p q'=y at *
 go_enter Tryz.func214,Tryz.ntmps214
 have hw1:Ext w (w.alloc (.cells #[.slice PA pn pc,.slice AA an ac,sv,.int .i64 L,.int .i64 2,.int .i64 G] 168)):=(Ext.refl w).alloc _
 have hb1:=Blk.new w 168 #[.slice PA pn pc,.slice AA an ac,sv,.int .i64 L,.int .i64 2,.int .i64 G]
 cases x
 all_goals
  go_upto_region 1 with fail
  generalize w.alloc (.cells #[.slice PA pn pc,.slice AA an ac,sv,.int .i64 L,.int .i64 2,.int .i64 G] 168)=w1 at *
  have c0:=hb1.cell
  go_wp2_with (first
   |(go_at_call 267;with_reducible refine (H1.out _ hw1).mono ?_;rintro e w2 ⟨rfl,hx2⟩;have hw2:=hw1.trans hx2;have c2:=(hb1.ext hx2).cell)
   |(go_at_call 267;with_reducible refine (H2.out _ hw2).mono ?_;rintro e w3 ⟨rfl,hx3⟩;have hw3:=hw2.trans hx3))
  go_ret
  exact⟨zj (by simp),by first|exact hw3|exact hw2⟩
theorem ziD {PA AA:Option Addr} {pn pc an ac:Nat} {sv mv:Value} {L G:Int} {ss:List Sys} {w:World} {SA:Option Addr} {sn sc lo hi q:Nat} {st:List Nat} {p:Aut}(h:zeG w PA pn AA an ss [p])(h':Lst zbb w lo hi SA st)(hsn:st.length=sn)(hq:st[pn]?=some q)(hqa:q<p.acc.length) :
  Calls Tryz.prog 214 #[.agg #[.slice PA pn pc,.slice AA an ac,sv,.int .i64 L,.int .i64 3,.int .i64 G],.slice SA sn sc,mv] w fun e w'=>e=.returned (.bool (!zcg p q))∧Ext w w':=by
 have H1:∀ W,Ext w W→Calls Tryz.prog 267 #[.agg #[.slice PA pn pc,.slice AA an ac,sv,.int .i64 L,.int .i64 3,.int .i64 G],.slice SA sn sc,.int .i64 0] W fun e w'=>e=.returned (.bool (zcg p q))∧Ext W w':=
  fun W hW=>zgM (i:=0) (a:=p) (q:=q) (st:=st) (us:=[p]) (h.ext hW) (h'.ext zbb.ok hW) hsn (by simp) (by rw [Nat.add_zero];exact hq) hqa
 replace H1:=za H1
 clear h h' hsn hq hqa
 generalize zcg p q=x at *
 go_enter Tryz.func214,Tryz.ntmps214
 have hw1:Ext w (w.alloc (.cells #[.slice PA pn pc,.slice AA an ac,sv,.int .i64 L,.int .i64 3,.int .i64 G] 168)):=(Ext.refl w).alloc _
 have hb1:=Blk.new w 168 #[.slice PA pn pc,.slice AA an ac,sv,.int .i64 L,.int .i64 3,.int .i64 G]
 go_upto_region 1 with fail
 generalize w.alloc (.cells #[.slice PA pn pc,.slice AA an ac,sv,.int .i64 L,.int .i64 3,.int .i64 G] 168)=w1 at *
 have c0:=hb1.cell
 go_wp2_with (go_at_call 267;with_reducible refine (H1.out _ hw1).mono ?_;rintro e w2 ⟨rfl,hx2⟩;have hw2:=hw1.trans hx2)
 go_ret
 exact⟨zj (by simp),hw2⟩
theorem prodS_snoc (l:List Nat) (x:Nat):zag (l++[x])=zag l*x:=by rw [zcO];simp [zag]
theorem encF_zero (sz:List Nat):∀ n,encF 0 sz (List.replicate n 0)=0:=by
 have key:∀ (sz:List Nat) (n:Nat),encF 0 sz (List.replicate n 0)=0:=by
  intro sz
  induction sz with
  |nil=>intro n;cases n<;>rfl
  |cons s r ih =>
   intro n
   cases n with
   |zero=>rfl
   |succ n=>rw [List.replicate_succ,encF,Nat.zero_mul,Nat.zero_add];exact ih n
 exact key sz
def ds0 (goal:Nat→Bool) (k:Nat):List Int:=(List.range k).map fun x=>if goal x then 0 else -1
theorem ds0_get {goal:Nat→Bool} {k x:Nat} {v:Int}(h:(ds0 goal k)[x]?=some v):v=if goal x then 0 else -1:=by
 unfold ds0 at h
 rw [List.getElem?_map,Option.map_eq_some_iff] at h
 obtain⟨y,h1,h2⟩:=h
 have h3:=(List.getElem?_eq_some_iff.1 h1)
 obtain⟨h4,h5⟩:=h3
 rw [List.getElem_range] at h5
 subst h5
 exact h2.symm
theorem zdz {PA AA SA:Option Addr} {pn pc an ac n sc lo hi:Nat} {K G:Int} {L:Nat} {ss:List Sys} {us:List Aut} {goal:Nat→Bool} {w:World}(h:zeG w PA pn AA an ss us)(hok:zdl ss us)(hS:Lst zbb w lo hi SA (List.replicate n 0))(hn:(szs ss us).length=n)(hL:L<64)
  (HF:∀ W,Ext w W→∀ (x:Nat) (A:Option Addr) (l h c:Nat) (mv:Value),x<zB (zaO ss us)→Lst zbb W l h A (dec (szs ss us) x)→Calls Tryz.prog 214 #[.agg #[.slice PA pn pc,.slice AA an ac,.slice SA n sc,.int .i64 L,.int .i64 K,.int .i64 G],.slice A n c,mv] W fun e W'=>e=.returned (.bool (goal x))∧Ext W W') :
  Calls Tryz.prog 137 #[.agg #[.slice PA pn pc,.slice AA an ac,.slice SA n sc,.int .i64 L,.int .i64 K,.int .i64 G]] w (zJ w (pnx (zaO ss us)) [0] goal (letters L 6)):=by
 have hw1:Ext w (w.alloc (.cells #[.slice PA pn pc,.slice AA an ac,.slice SA n sc,.int .i64 L,.int .i64 K,.int .i64 G] 168)):=(Ext.refl w).alloc _
 have hb1:=Blk.new w 168 #[.slice PA pn pc,.slice AA an ac,.slice SA n sc,.int .i64 L,.int .i64 K,.int .i64 G]
 have HN:=za (fun W (hW:Ext w W)=>h.ext hW)
 have HST:=za (fun W (hW:Ext w W)=>hS.ext zbb.ok hW)
 have HFo:=za HF
 have Hok:=za hok
 have Hn:=za hn
 have hn5:n≤5:=by rw [← hn];exact hok.len
 have Hz:=za hok.le16
 have Htot:=za (fun k=>hok.total ((szs ss us).take k) (List.take_sublist _ _))
 have hLs:Sm L:=by unfold Sm;omega
 obtain⟨N,hNe⟩:∃ N:Nat,Hid (zag (szs ss us)=N):=⟨_,rfl⟩
 have hN1:1≤N∧N≤1048576:=by rw [← hNe.out];exact hok.total _ (List.Sublist.refl _)
 have HNm:=za (show zB (zaO ss us)=N by unfold zB;rw [zeY];exact hNe.out)
 obtain⟨hN0,hNM⟩:=hN1
 have Hd:=za (show ∀ x l,x<N→l∈letters L 6→∀ y∈pnx (zaO ss us) x l,y<N from fun x l _ hl y hy=>by rw [← HNm.out];exact zhF hok.ok (zz.1 hl).1 y hy)
 have Hrise:=za (show Rise (letters L 6) from ⟨fun l hl=>(zz.1 hl).1,fun a b x y hx hy hab=>by
  have:=List.pairwise_iff_getElem.1 (zhB L 6) a b (List.getElem?_eq_some_iff.1 hx).1 (List.getElem?_eq_some_iff.1 hy).1 hab
  rw [(List.getElem?_eq_some_iff.1 hx).2,(List.getElem?_eq_some_iff.1 hy).2] at this
  exact this⟩)
 clear h hok hS hn HF
 generalize hdd:pnx (zaO ss us)=d at *
 have Hdd:=za hdd
 clear hdd
 generalize hLL:letters L 6=LL at *
 have HLL:=za hLL
 clear hLL
 go_enter Tryz.func137,Tryz.ntmps137
 go_upto_region 1 with fail
 generalize w.alloc (.cells #[.slice PA pn pc,.slice AA an ac,.slice SA n sc,.int .i64 L,.int .i64 K,.int .i64 G] 168)=w1 at *
 have c0:=hb1.cell
 go_upto_region 2 with (go_at_call 212;go_loud (refine (spec_l4Sizes (HN.out _ hw1) Hok.out).mono ?_);rintro e w2 ⟨Az,cz,rfl,ziT,hx2⟩)
 rw [Hn.out] at ziT
 rw [Hn.out]
 have HSz:=za (fun W (hW:Ext w2 W)=>(Lst.own_nats (xs:=szs ss us) (c:=cz) (A:=Az) (by rw [Hn.out];exact ziT)).ext zbb.ok hW)
 have hw2:=hw1.trans hx2
 have hb2:=hb1.ext hx2
 clear ziT c0
 go_wp2_with fail
 go_loopw [5,6] (fun v i wr=>∃ k y:Nat,i=.int .i64 k∧v=.int .i64 y∧k≤n∧y≤1048576∧Hid (y=zag ((szs ss us).take k))∧wr=w2) (fun _ i _=>n - (intOf i).toNat)
 case atStart=>exact⟨0,1,rfl,rfl,Nat.zero_le _,by omega,rfl,rfl⟩
 case round =>
  obtain⟨k,y,rfl,rfl,hk,hy,hyo,rfl⟩:=hrel
  by_cases hlt:k<n
  ·obtain⟨bz,oz,z,rfl,_,_,hz,hc⟩:=(HSz.out _ (Ext.refl _)).num (show k<(szs ss us).length by rw [Hn.out];exact hlt)
   have hst:=za (show y*z=zag ((szs ss us).take (k+1)) by rw [List.take_add_one,hz.out,Option.toList_some,prodS_snoc,hyo.out])
   have hle:y*z≤1048576:=by rw [hst.out];exact (Htot.out (k+1)).2
   obtain⟨yz,hyz⟩:∃ q:Nat,Hid (y*z=q):=⟨_,rfl⟩
   have hyzi:(y:Int)*(z:Int)=(yz:Int):=by rw [← hyz.out];exact (Int.natCast_mul y z).symm
   rw [hyz.out] at hle hst
   go_wp2_with fail
   go_roundw
   case rel=>exact⟨k+1,yz,by go_num,by go_num,by omega,hle,hst,by first|rfl|trivial⟩
   case measure=>simp [intOf];omega
  ·obtain rfl:n=k:=by omega
   obtain rfl:y=N:=by rw [hyo.out,List.take_of_length_le (by rw [Hn.out];exact Nat.le_refl _)];exact hNe.out
   clear hyo hy
   have c0:=hb2.cell
   have HM0:=za (show Calls Tryz.prog 213 #[.agg #[.slice PA pn pc,.slice AA an ac,.slice SA n sc,.int .i64 L,.int .i64 K,.int .i64 G],.slice Az n cz,.int .i64 (y:Nat)] wr (RetMv wr (mvs d LL y)) from by
    have:=spec_l4Moves (pc:=pc) (ac:=ac) (sv:=.slice SA n sc) (K:=K) (G:=G) (N:=y) (sc:=cz) (HN.out _ hw2) Hok.out (HSz.out _ (Ext.refl _)) Hn.out hL hNM
    rw [Hdd.out,HLL.out] at this
    exact this)
   go_upto_region 8 with (go_at_call 213;refine HM0.out.mono ?_;rintro e w3 ⟨Am,cm,rfl,hlm,hx3⟩)
   rw [zdd]
   have hw3:=hw2.trans hx3
   have hb3:=hb2.ext hx3
   have HM:=za (fun W (hW:Ext w3 W)=>hlm.ext P3.ok hW)
   clear hlm HM0 c0
   go_upto_region 9 with (at_make;refine zar w3 w3 rfl _ _ 128 rfl 3 _ 1 8 Tryz.underlying128 zah _ _ y rfl rfl (Ext.refl _) (by omega) (by unfold maxLen;omega) ?_;intro w4 hw34 hown4 hx34 hsz4)
   have hown4':w4.ownsRow w3.heap.size 3 1 (.slice (some ⟨w3.heap.size,0,none⟩) y y) y (ints (ds0 goal 0++List.replicate y 0)):=by simpa [ints,ds0,Value.cells,toList_madeCells_one] using hown4
   clear hown4
   obtain⟨gd,hgd⟩:∃ gd,Hid (w3.heap.size=gd):=⟨_,rfl⟩
   rw [hgd.out] at hown4'
   rw [hgd.out]
   clear hx34 hsz4
   have hsz3:w3.heap.size≤gd:=by have:=hgd.out;omega
   go_wp2_with fail
   go_loopw [9] (fun i wr=>∃ k:Nat,i=.int .i64 k∧k≤y∧wr.ownsRow gd 3 1 (.slice (some ⟨gd,0,none⟩) y y) y (ints (ds0 goal k++List.replicate (y - k) 0))∧Ext w3 wr) (fun i _=>y - (intOf i).toNat)
   case atStart=>exact⟨0,rfl,Nat.zero_le _,hown4',hw34⟩
   case round =>
    clear hown4' hw34
    obtain⟨k,rfl,hk,ziJ,hx⟩:=hrel
    by_cases hlt:k<y
    ·obtain⟨o0,g0⟩:=zau ziJ k (by omega)
     have f0:=ziJ.frozenAt k
     have hss:=ziJ.stored k (.int .i64 (-1))
     have hsz:k<(ints (ds0 goal k++List.replicate (y - k) 0)).length:=by rw [zcS ziJ];omega
     have hset:(ints (ds0 goal k++List.replicate (y - k) 0)).set k (.int .i64 (-1))=ints (ds0 goal k++(-1) :: List.replicate (y - k - 1) 0):=by
      rw [ints,ints,← List.map_set]
      congr 1
      rw [List.set_append_right _ _ (by simp [ds0]),show (ds0 goal k).length=k by simp [ds0],Nat.sub_self]
      obtain⟨m,hm⟩:∃ m,y - k=m+1:=⟨y - k - 1,by omega⟩
      rw [hm];rfl
     rw [hset] at hss
     have ziS:=hss.1
     have hx1:Ext w3 (wr.setCell ⟨gd,k,none⟩ (.int .i64 (-1))):=hx.setCell (p:=⟨gd,k,none⟩) hsz3 _
     clear hss hset ziJ
     go_upto_region 13 with fail
     clear g0 f0
     have Hsz:=za hsz
     clear hsz
     generalize wr.setCell ⟨gd,k,none⟩ (.int .i64 (-1))=w5 at *
     obtain⟨bm,om,v,row,rfl,_,_,_,hcm,Ar,cr,rfl,_⟩:=(HM.out w5 hx1).get (show k<(mvs d LL y).length by rw [zdd];exact hlt)
     have hw5:=hw3.trans hx1
     have CB:∀ W,Ext w5 W→∀ j,W.cell? ⟨w.heap.size,j,none⟩=#[Value.slice PA pn pc,.slice AA an ac,.slice SA n sc,.int .i64 L,.int .i64 K,.int .i64 G][j]?:=fun W hW=>((hb3.ext hx1).ext hW).cell
     have CM:∀ W,Ext w5 W→W.cell? ⟨bm,om+k,none⟩=some (.slice Ar row.length cr):=fun W hW=>hW.cell_some hcm
     have CD:=za (fun W (hW:Ext w5 W)=>zfh (c:=cz) (y0:=k) (HSz.out W ((hx3.trans hx1).trans hW)) Hn.out (by omega) Hz.out (by omega))
     have hki:(k:Int)<(y:Int):=by omega
     have hww:=Ext.refl w5
     clear hcm
     refine uR (fun X=>Ext w5 X) [8] (zu.of [0,1,2,4,5,6,7,3,8]) ?_
     refine uQ ?_
     refine ze fun K hK=>?_;go_simp
     refine (CD.out _ hww.drew).mono ?_
     rintro e w6 ⟨A6,c6,rfl,hown6,hx6⟩
     have hl6:(dec (szs ss us) k).length=n:=by rw [zcY];exact Hn.out
     have hL6:=Lst.own_nats hown6
     rw [hl6]
     have hww6:=hww.drew.trans hx6
     refine hK.out _ _ hww6 ?_
     refine pT ?_
     refine uQ ?_
     have HFk:=za (fun mv=>HFo.out w6 (hw5.trans hww6) k A6 _ _ c6 mv (by rw [HNm.out];exact hlt) hL6)
     have hown6':=zh ziS hww6
     have hx36:=hx1.trans hww6
     clear CD CB CM hww hown6 hL6 hx6 ziS
     cases hgk:goal k
     ·have Hgk:=za hgk
      clear hgk
      refine zb fun K hK=>?_
      go_simp
      refine (HFk.out _).mono ?_
      rw [Hgk.out]
      rintro e w7 ⟨rfl,hx7⟩
      refine hK.out _ _ ?_
      refine pT ?_
      refine uQ ?_
      refine zf ?_
      have ziM:=zh hown6' hx7
      rw [show ds0 goal k++(-1) :: List.replicate (y - k - 1) 0=ds0 goal (k+1)++List.replicate (y - (k+1)) 0 by
       rw [ds0,ds0,List.range_succ,List.map_append];simp [Hgk.out,Nat.sub_sub]] at ziM
      go_wp2_with fail
      go_roundw
      case rel=>exact⟨k+1,by go_num,by omega,ziM,hx36.trans hx7⟩
      case measure=>simp [intOf];omega
     ·have Hgk:=za hgk
      clear hgk
      refine zb fun K hK=>?_
      go_simp
      refine (HFk.out _).mono ?_
      rw [Hgk.out]
      rintro e w7 ⟨rfl,hx7⟩
      refine hK.out _ _ ?_
      refine pT ?_
      refine uQ ?_
      refine zf ?_
      have hown7:=zh hown6' hx7
      have hx37:=hx36.trans hx7
      obtain⟨o1,g1⟩:=zau hown7 k (by omega)
      have f1:=hown7.frozenAt k
      have hss:=hown7.stored k (.int .i64 0)
      have hset:(ints (ds0 goal k++(-1) :: List.replicate (y - k - 1) 0)).set k (.int .i64 0)=ints (ds0 goal (k+1)++List.replicate (y - (k+1)) 0):=by
       rw [ints,ints,← List.map_set]
       congr 1
       rw [List.set_append_right _ _ (by simp [ds0]),show (ds0 goal k).length=k by simp [ds0],Nat.sub_self,ds0,ds0,List.range_succ,List.map_append]
       simp [Hgk.out,Nat.sub_sub]
      rw [hset] at hss
      have ziM:=hss.1
      have hx38:Ext w3 (w7.setCell ⟨gd,k,none⟩ (.int .i64 0)):=hx37.setCell (p:=⟨gd,k,none⟩) hsz3 _
      clear hss hset
      go_wp2_with fail
      go_roundw
      case rel=>exact⟨k+1,by go_num,by omega,ziM,hx38⟩
      case measure=>simp [intOf];omega
    ·obtain rfl:y=k:=by omega
     rw [Nat.sub_self,List.replicate_zero,List.append_nil] at ziJ
     have hD0:=za (zbr.init (d:=d) (L:=LL) (goal:=goal) (N:=y) (ds:=ds0 goal y) (by simp [ds0]) (fun x v hv=>ds0_get hv))
     have hdist:=za (spec_l4Dist (c:=cm) (cap:=y) (d:=d) (L:=LL) (goal:=goal) (HM.out wr hx) (Or.inr hsz3) ziJ hD0.out hNM Hd.out)
     clear ziJ
     go_upto_region 16 with (go_at_call 216;refine hdist.out.mono ?_;rintro e w6 ⟨rfl,ds,hfinD,hown6,hfr6⟩)
     have hx6:Ext w3 w6:=hx.frm hfr6 (fun k hk e=>by omega)
     clear hdist hx hfr6
     have HD:=za (fun W (hW:Ext w6 W)=>(Lst.of_ints (xs:=ds) (A:=some ⟨gd,0,none⟩) (by rw [hfinD.out.1];exact Reads.of_own hown6)).ext IntP.ok hW)
     have hdl:Hid (ds.length=y):=hfinD.out.1
     clear hown6
     have hw6:=hw3.trans hx6
     have c6:=(hb3.ext hx6).cell
     have HE:=za (show Calls Tryz.prog 217 #[.slice Az n cz,.slice SA n sc] w6 fun e w'=>e=.returned (.int .i64 0)∧Ext w6 w' from by
      have:=ziB (c:=cz) (d:=sc) (HSz.out w6 (hx3.trans hx6)) (HST.out w6 hw6) (by rw [List.length_replicate];exact Hn.out) (fun k _=>by rw [List.take_replicate,encF_zero];omega) (fun x hx=>(Hz.out x hx).2) (fun x hx=>by rw [(List.mem_replicate.1 hx).2];omega)
      rw [Hn.out,List.length_replicate,encF_zero] at this
      exact this)
     go_upto_region 17 with (go_at_call 217;refine HE.out.mono ?_;rintro e w7 ⟨rfl,hx7⟩)
     have hx68:=hx7.alloc (.cells #[.int .i64 0] 3)
     have hb8:=Blk.new w7 3 #[.int .i64 0]
     have hat8:Lst zbb (w7.alloc (.cells #[.int .i64 0] 3)) w7.heap.size (w7.alloc (.cells #[.int .i64 0] 3)).heap.size (some ⟨w7.heap.size,0,none⟩) [0]:=Lst.of_nats ⟨rfl,by simp,fun _=>⟨_,rfl,Nat.le_refl _,by simp,fun j u hu=>by
      rw [zaE,Nat.zero_add,hb8.cell]
      cases j with
      |zero=>simpa [zS] using hu
      |succ j=>simp [zS] at hu⟩⟩
     clear hx7 hb8 HE c6
     generalize hga:w7.heap.size=ga at *
     clear hga
     generalize w7.alloc (.cells #[.int .i64 0] 3)=w8 at *
     have c8:=(hb3.ext (hx6.trans hx68)).cell
     have HLt:=za (show Calls Tryz.prog 131 #[.int .i64 (L:Nat)] w8 (zbB w8 LL) from by
      have:=zaC L hLs w8
      rw [HLL.out] at this
      exact this)
     go_upto_region 18 with (go_at_call 131;refine HLt.out.mono ?_;rintro e w9 ⟨AL,cL,rfl,hown9,hx9⟩)
     have hx69:=hx68.trans hx9
     have HL:=za (fun W (hW:Ext w9 W)=>(Lst.own_nats hown9).ext zbb.ok hW)
     have hat9:=hat8.ext zbb.ok hx9
     clear hown9 hat8 c8 HLt hx9 hx68
     obtain⟨bd,od,v0,hA,_,_,hv0,hc0⟩:=(HD.out w9 hx69).int (show 0<ds.length by rw [hdl.out];omega)
     obtain⟨rfl,rfl⟩:gd=bd∧0=od:=by injection hA with e;injection e with e1 e2;exact⟨e1,e2⟩
     rw [Nat.zero_add] at hc0
     have hca:=hat9.num2 (k:=0) (x:=0) rfl
     rw [Nat.zero_add] at hca
     clear hA
     rcases hfinD.out.2 0 v0 hv0.out with ⟨rfl,hno⟩|⟨r0,rfl,hM⟩
     ·have hres:=za (show zJ w d [0] goal LL (.returned (.tuple #[.string ByteArray.empty,.bool false])) w9 from ⟨hw6.trans hx69,Or.inr ⟨rfl,lost_of hno⟩⟩)
      go_wp2_with fail
      go_loopw [10,12,13,14,15] (fun _ o v _ _ wr=>o=.string ByteArray.empty∧v=.int .i64 (-1)∧wr=w9) (fun _ _ _ _ _ _=>0)
      case atStart=>exact⟨rfl,rfl,rfl⟩
      case round =>
       obtain⟨rfl,rfl,rfl⟩:=hrel
       go_wp2
       go_ret2
       exact hres.out
     ·have hr0:=hM.lt (by omega) Hd.out
      have HG:=za (zdv.begin_ hM)
      clear hM
      go_wp2_with fail
      go_loopw [10,12,13,14,15] (fun a o v _ _ wr=>∃ (r:Nat) (at_ vw:List Nat) (A:Option Addr) (c lo hi:Nat),a=.slice A at_.length c∧o=.string (wstr vw)∧v=.int .i64 (r:Nat)∧Hid (zdv d LL goal [0] at_ vw r)∧Lst zbb wr lo hi A at_∧vw.length+r=r0∧Ext w9 wr) (fun _ _ v _ _ _=>(intOf v).toNat)
      case atStart=>exact⟨r0,[0],[],_,_,_,_,rfl,rfl,rfl,HG,hat9,by simp,Ext.refl _⟩
      case round =>
       clear HG hat9 hca hc0 hv0
       obtain⟨r,at_,vw,Aa,ca,la,ha,rfl,rfl,rfl,hG,hat,hlen,hx⟩:=hrel
       have h6:=za (fun l hl=>Hrise.out.1 l hl)
       have hws:=zgV vw
       by_cases hr:0<r
       ·obtain⟨q,rfl⟩:∃ q,r=q+1:=⟨r - 1,by omega⟩
        obtain⟨K0,l0,hK0,x0,n0,hn0,hx0,hM0⟩:=hG.out.exists_
        have hK0l:=(List.getElem?_eq_some_iff.1 hK0).1
        have hatN:=za (fun n (hn:n∈at_)=>(goes_congr (d:=d) (d':=d) (L:=LL) (start:=[0]) (N:=y) (fun x hx=>by simp at hx;omega) (fun x l hx hl=>⟨fun _=>Iff.rfl,Hd.out x l hx hl⟩) hG.out.letters).2 (hG.out.goes n hn).1)
        have hval:=za (fun (n:Nat) (hn:n∈at_) (l:Nat) (hl:l∈LL) (x:Nat) (hx:x∈d n l)=>hfinD.out.val (n:=q) (Hd.out n l (hatN.out n hn) hl x hx))
        have HK0:=za (show ∃ n∈at_,x0∈d n l0∧ds[x0]?=some (q:Int) from ⟨n0,hn0,hx0,(hval.out n0 hn0 l0 (List.mem_of_getElem? hK0) x0 hx0).2 hM0⟩)
        have HK0':=za hK0
        clear hK0 hx0 hM0 hn0
        have hLm:LL.length≤6:=by rw [← HLL.out];exact zI L 6
        have CC:=za (fun W (hW:Ext wr W) (k l:Nat) (hl:LL[k]?=some l)=>ziA (c:=cm) (c':=y) (c2:=ca) (r:=(q:Int)) (HM.out W (hx6.trans ((hx69.trans hx).trans hW))) (HD.out W ((hx69.trans hx).trans hW)) (hat.ext zbb.ok hW) rfl hatN.out hl hdl.out hNM Hd.out)
        obtain⟨l1,hl1⟩:∃ l1,Hid (LL[0]?=some l1):=⟨_,za (List.getElem?_eq_getElem (by omega))⟩
        have hq1:((q+1:Nat):Int) - 1=(q:Int):=by omega
        go_upto_region 24 with (go_at_call 218;refine (CC.out wr (Ext.refl _) 0 l1 hl1.out).mono ?_;rintro e w10 ⟨nx,⟨A10,c10,rfl,hown10,hx10⟩,hnx⟩)
        have hln10:=Lst.own_nats hown10
        clear hown10
        go_wp2_with fail
        go_loopw [14,15] (fun k v wr2=>∃ (kk l:Nat) (nx:List Nat) (A:Option Addr) (c lo hi:Nat),k=.int .i64 kk∧v=.slice A nx.length c∧Lst zbb wr2 lo hi A nx∧kk≤K0∧Hid (LL[kk]?=some l∧(∀ x,x∈nx↔∃ n∈at_,x∈d n l∧ds[x]?=some (q:Int))∧∀ (j m:Nat),j<kk→LL[j]?=some m→∀ n∈at_,∀ x∈d n m,ds[x]?≠some (q:Int))∧Ext wr wr2) (fun k _ _=>LL.length - (intOf k).toNat)
        case atStart=>exact⟨0,l1,nx,_,_,_,_,rfl,rfl,hln10,Nat.zero_le _,(show Hid _ from ⟨hl1.out,hnx.out.2,fun j m hj=>by omega⟩),hx10⟩
        case round =>
         clear hln10 hnx hx10
         obtain⟨kk,l,nx,An,cn,ln,hn_,rfl,rfl,hln,hkk,hst,hx2⟩:=hrel
         have hlnx:=hln.len
         by_cases hz0:nx.length=0
         ·have hkK:kk<K0:=by
           rcases Nat.lt_or_ge kk K0 with h1|h1
           ·exact h1
           ·exfalso
            obtain rfl:kk=K0:=by omega
            obtain⟨n,h2,h3,h4⟩:=HK0.out
            have h5:=hst.out.1
            rw [HK0'.out] at h5
            obtain rfl:=Option.some.inj h5
            have:=(hst.out.2.1 x0).2 ⟨n,h2,h3,h4⟩
            rw [List.eq_nil_of_length_eq_zero hz0] at this
            cases this
          obtain⟨l2,hl2⟩:∃ l2,Hid (LL[kk+1]?=some l2):=⟨_,za (List.getElem?_eq_getElem (by omega))⟩
          have hz1:((nx.length:Int)==0)=true:=by simp [hz0]
          have hcl:=za (CC.out _ hx2 (kk+1) l2 hl2.out)
          have hkc:((kk+1:Nat):Int)=(kk:Int)+1:=by omega
          rw [hkc] at hcl
          go_upto_region 26 with fail
          go_wp2_with (go_at_call 218;refine hcl.out.mono ?_;rintro e w11 ⟨nx2,⟨A11,c11,rfl,hown11,hx11⟩,hnx2⟩)
          have hst2:=za (show LL[kk+1]?=some l2∧(∀ x,x∈nx2↔∃ n∈at_,x∈d n l2∧ds[x]?=some (q:Int))∧∀ (j m:Nat),j<kk+1→LL[j]?=some m→∀ n∈at_,∀ x∈d n m,ds[x]?≠some (q:Int) from ⟨hl2.out,hnx2.out.2,fun j m hj hm n hn x hx=>by
           by_cases e:j=kk
           ·subst e
            have h5:=hst.out.1
            rw [hm] at h5
            obtain rfl:=Option.some.inj h5
            intro h6
            have:=(hst.out.2.1 x).2 ⟨n,hn,hx,h6⟩
            rw [List.eq_nil_of_length_eq_zero hz0] at this
            cases this
           ·exact hst.out.2.2 j m (by omega) hm n hn x hx⟩)
          have hln11:=Lst.own_nats hown11
          have hx211:=hx2.trans hx11
          go_roundw
          case rel=>exact⟨kk+1,l2,nx2,_,_,_,_,by go_num,rfl,hln11,by omega,hst2,hx211⟩
          case measure=>simp [intOf];omega
         ·have hz1:((nx.length:Int)==0)=false:=by rw [beq_eq_false_iff_ne];omega
          have hG2:=za (show zdv d LL goal [0] nx (vw++[l]) q from by
           obtain⟨h1,h2,h3⟩:=hst.out
           refine hG.out.step Hrise.out h1 (fun x=>?_) (fun e=>hz0 (by rw [e];rfl)) (fun j m hj hm n hn x hx=>?_)
           ·rw [h2 x]
            constructor
            ·rintro ⟨n,h4,h5,h6⟩
             exact⟨n,h4,h5,(hval.out n h4 l (List.mem_of_getElem? h1) x h5).1 h6⟩
            ·rintro ⟨n,h4,h5,h6⟩
             exact⟨n,h4,h5,(hval.out n h4 l (List.mem_of_getElem? h1) x h5).2 h6⟩
           ·intro hM
            exact h3 j m hj hm n hn x hx ((hval.out n hn m (List.mem_of_getElem? hm) x hx).2 hM))
          obtain⟨bl,ol,l',rfl,_,_,hl',hcl⟩:=(HL.out _ (hx.trans hx2)).num (show kk<LL.length by omega)
          obtain rfl:l=l':=by have h1:=hl'.out;rw [hst.out.1] at h1;exact Option.some.inj h1
          have hl6:=h6.out l (List.mem_of_getElem? hl'.out)
          have hsum:(wstr vw).size+(strOfNums [((97+l:Nat):Int)]).size≤9223372036854775807:=by rw [hws,size_one];omega
          have hsum2:¬ 9223372036854775807<vw.length+1:=by omega
          have h1s:=size_one ((97+l:Nat):Int)
          have hsn:=za (wstr_snoc vw l)
          have hlen2:(vw++[l]).length+q=r0:=by rw [List.length_append,List.length_singleton];omega
          clear hl'
          go_wp2_with (go_at_call 135;refine (zek hl6).mono ?_;rintro e w12 ⟨rfl,hx12⟩)
          have hx13:=(hx.trans hx2).trans hx12
          have hln12:=hln.ext zbb.ok hx12
          go_roundw
          case rel=>exact⟨q,nx,vw++[l],_,_,_,_,rfl,by rw [hsn.out,Int.natCast_add];rfl,by first|rfl|rw [hq1],hG2,hln12,hlen2,hx13⟩
          case measure=>simp [intOf]
       ·obtain rfl:r=0:=by omega
        have hres:=za (show zJ w d [0] goal LL (.returned (.tuple #[.string (wstr vw),.bool true])) wr from ⟨hw6.trans (hx69.trans hx),Or.inl ⟨vw,rfl,hG.out.fin Hrise.out.1⟩⟩)
        go_wp2
        go_ret2
        exact hres.out
theorem info_row6:(Tryz.prog.info? 179).map (fun i=>(i.zero,i.size,i.bytes))=some (some (.agg (Array.replicate 6 (.int .i64 0))),6,48):=by kernel_rfl
theorem row6_len:(Value.agg (Array.replicate 6 (.int .i64 0))).cells.size=6:=by decide
theorem zgw {a l:Nat}(hb:a.testBit l=true):∀ n,l<n→(letters a n)[place a l]?=some l:=by
 intro n
 induction n with
 |zero=>intro h;omega
 |succ n ih =>
  intro h
  rw [zaW]
  by_cases e:n=l
  ·subst e
   rw [List.getElem?_append_right (by exact Nat.le_refl _)]
   simp [place,hb]
  ·have h1:=ih (by omega)
   rw [List.getElem?_append_left (List.getElem?_eq_some_iff.1 h1).1]
   exact h1
theorem zij {a n k l:Nat}(h:(letters a n)[k]?=some l):place a l=k:=by
 have hm:=zz.1 (List.mem_of_getElem? h)
 have h1:=zgw hm.2 n hm.1
 have hp:=List.pairwise_iff_getElem.1 (show (letters a n).Pairwise (·<·) from List.Pairwise.filter _ List.pairwise_lt_range)
 obtain⟨h2,h3⟩:=List.getElem?_eq_some_iff.1 h
 obtain⟨h4,h5⟩:=List.getElem?_eq_some_iff.1 h1
 rcases Nat.lt_trichotomy (place a l) k with h6|h6|h6
 ·have:=hp _ _ h4 h2 h6;omega
 ·exact h6
 ·have:=hp _ _ h2 h4 h6;omega
def tbC (n:Nat) (f:Nat→Nat→Nat):List Value:=zS ((List.range (n*6)).map fun i=>f (i / 6) (i % 6))
theorem tbC_set {n q l v:Nat} {f g:Nat→Nat→Nat}(hq:q<n)(hl:l<6)(h:∀ a b,a<n→b<6→g a b=if a=q∧b=l then v else f a b):(tbC n f).set (q*6+l) (.int .i64 (v:Nat))=tbC n g:=by
 unfold tbC zS
 rw [List.map_map,List.map_map]
 refine List.ext_getElem? fun i=>?_
 rw [List.getElem?_set]
 simp only [List.length_map,List.length_range,List.getElem?_map]
 by_cases hi:i<n*6
 ·rw [List.getElem?_range hi]
  simp only [Option.map_some,Function.comp]
  rw [h (i / 6) (i % 6) (by omega) (by omega)]
  by_cases e:q*6+l=i
  ·rw [if_pos e,if_pos (by omega),if_pos ⟨by omega,by omega⟩]
  ·rw [if_neg e,if_neg (by omega)]
 ·rw [List.getElem?_eq_none (l:=List.range (n*6)) (by simp;omega)]
  by_cases e:q*6+l=i
  ·omega
  ·rw [if_neg e];rfl
theorem tbC_get {n q l:Nat} {f:Nat→Nat→Nat}(hq:q<n)(hl:l<6):(tbC n f)[q*6+l]?=some (.int .i64 (f q l:Nat)):=by
 unfold tbC zS
 rw [List.getElem?_map,List.getElem?_map,List.getElem?_range (by omega)]
 simp only [Option.map_some]
 rw [show (q*6+l) / 6=q by omega,show (q*6+l) % 6=l by omega]
theorem tbC_congr {n:Nat} {f g:Nat→Nat→Nat}(h:∀ a b,a<n→b<6→f a b=g a b):tbC n f=tbC n g:=by
 unfold tbC
 congr 1
 refine List.map_congr_left fun i hi=>?_
 rw [List.mem_range] at hi
 exact h _ _ (by omega) (by omega)
theorem tb_made (n:Nat):(madeCells (Value.agg (Array.replicate 6 (.int .i64 0))).cells (n*6)).toList=tbC n (fun _ _=>0):=by
 unfold madeCells tbC zS
 simp only [Value.cells,Array.toList_map,Array.toList_range,List.map_map]
 refine List.map_congr_left fun i _=>?_
 simp only [Function.comp,Array.size_replicate]
 rw [getElem!_pos _ _ (by simp;omega),Array.getElem_replicate]
 rfl
def TbAt (w:World) (lo hi:Nat) (A:Option Addr) (a:Aut):Prop:=Reads w lo hi 6 A a.next.length (tbC a.next.length (aGo a))
theorem TbAt.ext {w w':World} {lo hi:Nat} {A:Option Addr} {a:Aut}(h:TbAt w lo hi A a)(hx:Ext w w'):TbAt w' lo hi A a:=Reads.ext h hx
theorem TbAt.at_ {w:World} {lo hi q l:Nat} {A:Option Addr} {a:Aut}(h:TbAt w lo hi A a)(hq:q<a.next.length)(hl:l<6):∃ g o,A=some ⟨g,o,none⟩∧w.cell? ⟨g,o+q*6+l,none⟩=some (.int .i64 (aGo a q l:Nat)):=by
 obtain⟨ad,e,_,_,hc⟩:=Reads.at_ h hq
 have h0:=hc (0*6+0) _ (tbC_get (by omega) (by omega))
 have hs:=zeL h0
 have h1:=hc (q*6+l) _ (tbC_get hq hl)
 rw [hs,zaE,← Nat.add_assoc] at h1
 exact⟨ad.block,ad.off,by rw [e,← hs],h1⟩
def TbO (w:World) (A:Option Addr) (c:Nat) (a:Aut):Prop:=∃ base,w.ownsRow base 179 6 (.slice A a.next.length c) a.next.length (tbC a.next.length (aGo a))
theorem TbO.at_ {w:World} {c:Nat} {A:Option Addr} {a:Aut}(h:TbO w A c a):∃ lo hi,TbAt w lo hi A a:=by
 obtain⟨base,h⟩:=h
 exact⟨_,_,Reads.of_own h⟩
theorem TbO.ext {w w':World} {c:Nat} {A:Option Addr} {a:Aut}(h:TbO w A c a)(hx:Ext w w'):TbO w' A c a:=by
 obtain⟨base,h⟩:=h
 exact⟨base,zh h hx⟩
theorem TbO.set {w:World} {c g:Nat} {A:Option Addr} {a:Aut} {cs:Array Value} {t:TypeId}(h:TbO w A c a)(hg:Blk w g t cs)(ht:179≠t) (v:Value):TbO (w.setCell ⟨g,0,none⟩ v) A c a:=by
 obtain⟨base,h⟩:=h
 exact⟨base,zg h (Frm.setCell w g 0 v) (fun b hb e=>by
  subst e
  rcases h.2 with ⟨h1,_⟩|⟨g',cap,cur,h1,_,hh,_⟩
  ·rw [h1] at hb;simp [Value.ownBlock] at hb
  ·rw [h1] at hb
   have:g'=b:=by simpa [Value.ownBlock] using hb
   subst this
   unfold Blk at hg
   rw [hh] at hg
   injection hg with hg
   injection hg with _ h2
   exact ht h2)⟩
def RetTb (w:World) (a:Aut) (e:Ending) (w':World):Prop:=∃ A c,e=.returned (.slice A a.next.length c)∧TbO w' A c a∧Ext w w'
def RetTb2 (w:World) (a:Aut) (e:Ending) (w':World):Prop:=∃ A c,e=.returned (.slice A a.next.length c)∧(∃ base,w.heap.size≤base∧w'.ownsRow base 179 6 (.slice A a.next.length c) a.next.length (tbC a.next.length (aGo a)))∧Ext w w'
theorem zbG {lo hi:Nat} {B:Option Addr} {m d:Nat} {B':Option Addr} {m' d':Nat} {a:Aut} {w:World}(h:zC w lo hi B m B' m' a)(hv:zk a=true) :
  Calls Tryz.prog 151 #[.agg #[.int .i64 a.al,.slice B m d,.slice B' m' d']] w (RetTb2 w a):=by
 obtain⟨⟨al0,al1⟩,⟨n1,n12⟩,_,hrows⟩:=zl hv
 obtain⟨al,hal⟩:∃ al:Nat,Hid (a.al=al):=⟨a.al.toNat,by unfold Hid;omega⟩
 have hsm:Sm al:=by have:=hal.out;unfold Sm;omega
 have Htn:=za (show a.al.toNat=al by have:=hal.out;omega)
 have Hn:=za h.n1
 have HN:=za (fun W (hW:Ext w W)=>h.1.ext hW)
 have Hrow:=za hrows
 have hm12:m≤12:=by rw [h.n1];exact n12
 have hll:=zI al 6
 clear hrows h n1 n12 hv
 rw [hal.out]
 clear al0 al1
 go_enter Tryz.func151,Tryz.ntmps151
 have hw1:Ext w (w.alloc (.cells #[.int .i64 al,.slice B m d,.slice B' m' d'] 31)):=(Ext.refl w).alloc _
 have hb1:=Blk.new w 31 #[.int .i64 al,.slice B m d,.slice B' m' d']
 go_upto_region 1 with fail
 generalize w.alloc (.cells #[.int .i64 al,.slice B m d,.slice B' m' d'] 31)=w1 at *
 have c1:=hb1.cell
 go_upto_region 2 with (at_make;refine zar w1 w1 rfl _ _ 177 rfl 179 _ 6 48 Tryz.underlying177 info_row6 _ _ m rfl rfl (Ext.refl _) (by omega) (by unfold maxLen;omega) ?_;intro w2 hx12 ziT hx2 hsz2)
 rw [tb_made] at ziT
 have c2:=(hb1.ext hx12).cell
 clear hx2 hsz2
 go_upto_region 3 with (go_at_call 158;refine (zY al hsm _).mono ?_;rintro e w3 ⟨AL,cL,rfl,hownL,hx3⟩)
 have hx13:=hx12.trans hx3
 have ziU:=zh ziT hx3
 have hLL:=Lst.own_nats hownL
 have hsz12:=hx12.size
 have c3:=(hb1.ext hx13).cell
 have hg1:w1.heap.size<w2.heap.size:=by
  have:=(ziT.lt w1.heap.size rfl).2
  exact this
 clear hownL c2 ziT
 generalize hlq:letters al 6=LL at *
 have Hlq:=za hlq
 clear hlq
 go_wp2_with fail
 go_loopw [5,6,7,8,9,20] (fun _ _ _ _ _ i wr=>∃ (q:Nat) (F:Nat→Nat→Nat),i=.int .i64 q∧q≤m∧Hid (∀ x y,x<q→y<6→F x y=aGo a x y)∧wr.ownsRow w1.heap.size 179 6 (.slice (some ⟨w1.heap.size,0,none⟩) m m) m (tbC m F)∧Ext w1 wr∧Lst zbb wr w2.heap.size w3.heap.size AL LL) (fun _ _ _ _ _ i _=>m - (intOf i).toNat)
 case atStart=>exact⟨0,_,rfl,Nat.zero_le _,(show Hid _ from fun x y h=>by omega),ziU,hx13,hLL⟩
 case round =>
  clear ziU hLL c3
  obtain⟨q,F,rfl,hq,hF,ziJ,hx,hLL⟩:=hrel
  by_cases hlt:q<m
  ·obtain⟨ad,Ak,ck,row,rfl,_,_,hrow,hcr,hrd⟩:=(HN.out w1 hw1).row hlt
   obtain⟨hr1,hr2⟩:=Hrow.out q row hrow.out
   rw [Htn.out,Hlq.out] at hr1
   have HR2:=za hr2
   have HR1:=za hr1
   have HRr:=za (fun W (hW:Ext w1 W)=>hrd.ext hW)
   have hcr':=hx.cell_some hcr
   clear hrd hr2 hcr hr1
   go_wp2_with fail
   go_loopw [7,25] (fun _ i wr=>∃ (l:Nat) (F:Nat→Nat→Nat),i=.int .i64 l∧l≤6∧Hid ((∀ x y,x<q→y<6→F x y=aGo a x y)∧∀ y,y<l→F q y=q)∧wr.ownsRow w1.heap.size 179 6 (.slice (some ⟨w1.heap.size,0,none⟩) m m) m (tbC m F)∧Ext w1 wr∧Lst zbb wr w2.heap.size w3.heap.size AL LL) (fun _ i _=>6 - (intOf i).toNat)
   case atStart=>exact⟨0,F,rfl,Nat.zero_le _,(show Hid _ from ⟨hF.out,fun y h=>by omega⟩),ziJ,hx,hLL⟩
   case round =>
    clear ziJ hx hLL hF hcr'
    obtain⟨l,F,rfl,hl,hF,ziJ,hx,hLL⟩:=hrel
    by_cases hl6:l<6
    ·obtain⟨o0,g0⟩:=zau ziJ (q*6+l) (by omega)
     have f0:=ziJ.frozenAt (q*6+l)
     have hss:=ziJ.stored (q*6+l) (.int .i64 (q:Nat))
     rw [tbC_set (g:=fun x y=>if x=q∧y=l then q else F x y) hlt hl6 (fun _ _ _ _=>rfl)] at hss
     have hown':=hss.1
     have hx':Ext w1 (wr.setCell ⟨w1.heap.size,q*6+l,none⟩ (.int .i64 (q:Nat))):=hx.setCell (p:=⟨w1.heap.size,q*6+l,none⟩) (Nat.le_refl _) _
     have hLL':Lst zbb (wr.setCell ⟨w1.heap.size,q*6+l,none⟩ (.int .i64 (q:Nat))) w2.heap.size w3.heap.size AL LL:=hLL.frm zbb.ok (Frm.setCell wr w1.heap.size (q*6+l) _) (fun k h1 h2 e=>by omega)
     have hF':=za (show (∀ x y,x<q→y<6→(if x=q∧y=l then q else F x y)=aGo a x y)∧∀ y,y<l+1→(if q=q∧y=l then q else F q y)=q from ⟨fun x y h1 h2=>by rw [if_neg (by omega)];exact hF.out.1 x y h1 h2,fun y h=>by
      by_cases e:y=l
      ·rw [if_pos ⟨rfl,e⟩]
      ·rw [if_neg (by omega)];exact hF.out.2 y (by omega)⟩)
     clear hss ziJ hLL hx
     go_wp2_with fail
     go_roundw
     case rel=>exact⟨l+1,_,by go_num,by omega,hF',hown',hx',hLL'⟩
     case measure=>simp [intOf];omega
    ·have hl66:=za (show 6≤l by omega)
     go_wp2_with fail
     go_loopw [8,9,37] (fun _ _ i wr=>∃ (k:Nat) (F:Nat→Nat→Nat),i=.int .i64 k∧k≤LL.length∧Hid ((∀ x y,x<q→y<6→F x y=aGo a x y)∧(∀ (j y:Nat),j<k→LL[j]?=some y→F q y=aGo a q y)∧∀ y,y<6→(∀ j,j<k→LL[j]?≠some y)→F q y=q)∧wr.ownsRow w1.heap.size 179 6 (.slice (some ⟨w1.heap.size,0,none⟩) m m) m (tbC m F)∧Ext w1 wr∧Lst zbb wr w2.heap.size w3.heap.size AL LL) (fun _ _ i _=>LL.length - (intOf i).toNat)
     case atStart=>exact⟨0,F,rfl,Nat.zero_le _,(show Hid _ from ⟨hF.out.1,fun j y h=>by omega,fun y h _=>hF.out.2 y (by have:=hl66.out;omega)⟩),ziJ,hx,hLL⟩
     case round =>
      clear ziJ hx hLL hF
      obtain⟨k,F,rfl,hk,hF,ziJ,hx,hLL⟩:=hrel
      by_cases hkl:k<LL.length
      ·obtain⟨bl,ol,l,rfl,_,_,hl,hcl⟩:=hLL.num hkl
       have hl6:l<6:=by
        have:=List.mem_of_getElem? hl.out
        rw [← Hlq.out] at this
        exact (zz.1 this).1
       have hpl:=za (zij (a:=al) (n:=6) (k:=k) (l:=l) (by rw [Hlq.out];exact hl.out))
       have hbit:=za (show al.testBit l=true from by
        have:=List.mem_of_getElem? hl.out
        rw [← Hlq.out] at this
        exact (zz.1 this).2)
       obtain⟨ad',x,rfl,_,_,hxx,hcx⟩:=(HRr.out wr hx).int (show k<row.length by have:=HR1.out;omega)
       obtain⟨x0,x1⟩:=HR2.out x (List.mem_of_getElem? hxx.out)
       obtain⟨v,rfl⟩:∃ v:Nat,x=v:=⟨x.toNat,by omega⟩
       have hv:=za (show aGo a q l=v by
        unfold aGo
        rw [Htn.out,hbit.out,if_pos rfl,hpl.out]
        simp only [List.getD_eq_getElem?_getD,hrow.out,Option.getD_some,hxx.out]
        rfl)
       obtain⟨o0,g0⟩:=zau ziJ (q*6+l) (by omega)
       have f0:=ziJ.frozenAt (q*6+l)
       have hwd:=Ext.refl wr
       have CX:∀ W,Ext wr W→W.cell? (ad'.add k)=some (.int .i64 (v:Nat)):=fun W hW=>hW.cell_some hcx
       have hkr:(k:Int)<(row.length:Int):=by have:=HR1.out;omega
       have hql:(q:Int)<(m:Int):=by omega
       have hl6i:(l:Int)<6:=by omega
       clear hcx
       go_upto_region 14 with fail
       refine uR (fun X=>Ext wr X) [9] (zu.of [0,1,2,3,4,5,6,7,8,9]) ?_
       refine uQ ?_
       have g1:wr.drew.cell? ⟨w1.heap.size,q*6+l,none⟩=some o0:=g0
       have f1:wr.drew.frozen? ⟨w1.heap.size,q*6+l,none⟩=false:=f0
       have ziS:wr.drew.ownsRow w1.heap.size 179 6 (.slice (some ⟨w1.heap.size,0,none⟩) m m) m (tbC m F):=zh ziJ hwd.drew
       have hx1:=hx.drew
       have hLL1:=hLL.ext zbb.ok hwd.drew
       clear CX g0 f0 ziJ hx hLL hwd
       generalize wr.drew=wd at *
       have hss:=ziS.stored (q*6+l) (.int .i64 (v:Nat))
       have hx':Ext w1 (wd.setCell ⟨w1.heap.size,q*6+l,none⟩ (.int .i64 (v:Nat))):=hx1.setCell (p:=⟨w1.heap.size,q*6+l,none⟩) (Nat.le_refl _) _
       have hLL':Lst zbb (wd.setCell ⟨w1.heap.size,q*6+l,none⟩ (.int .i64 (v:Nat))) w2.heap.size w3.heap.size (some ⟨bl,ol,none⟩) LL:=hLL1.frm zbb.ok (Frm.setCell wd w1.heap.size (q*6+l) _) (fun k h1 h2 e=>by omega)
       obtain⟨G2,hG2,hF'⟩:∃ G2:Nat→Nat→Nat,(tbC m F).set (q*6+l) (.int .i64 (v:Nat))=tbC m G2∧Hid ((∀ x y,x<q→y<6→G2 x y=aGo a x y)∧(∀ (j y:Nat),j<k+1→LL[j]?=some y→G2 q y=aGo a q y)∧∀ y,y<6→(∀ j,j<k+1→LL[j]?≠some y)→G2 q y=q):=by
        refine⟨fun x y=>if x=q∧y=l then v else F x y,tbC_set hlt hl6 (fun _ _ _ _=>rfl),⟨fun x y h1 h2=>?_,fun j y hj hy=>?_,fun y h6 hy=>?_⟩⟩
        ·show (if x=q∧y=l then v else F x y)=_
         rw [if_neg (by omega)];exact hF.out.1 x y h1 h2
        ·show (if q=q∧y=l then v else F q y)=_
         by_cases e:y=l
         ·rw [if_pos ⟨rfl,e⟩,e,hv.out]
         ·rw [if_neg (fun h=>e h.2)]
          by_cases e2:j=k
          ·subst e2
           have:=hl.out
           rw [hy] at this
           exact absurd (Option.some.inj this) e
          ·exact hF.out.2.1 j y (by omega) hy
        ·show (if q=q∧y=l then v else F q y)=_
         rw [if_neg (fun h=>hy k (by omega) (by rw [h.2];exact hl.out))]
         exact hF.out.2.2 y h6 (fun j hj=>hy j (by omega))
       rw [hG2] at hss
       have hown':=hss.1
       refine zb fun K hK=>?_
       go_simp
       refine hK.out _ _ ?_
       refine zf ?_
       clear hss ziS hLL1 hx1
       go_wp2_with fail
       go_roundw
       case rel=>exact⟨k+1,G2,by go_num,by omega,hF',hown',hx',hLL'⟩
       case measure=>simp [intOf];omega
      ·obtain rfl:k=LL.length:=by omega
       have hF':=za (show ∀ x y,x<q+1→y<6→F x y=aGo a x y from fun x y h1 h2=>by
        by_cases e:x=q
        ·subst e
         by_cases hb:y∈LL
         ·obtain⟨j,hj⟩:=List.getElem?_of_mem hb
          exact hF.out.2.1 j y (List.getElem?_eq_some_iff.1 hj).1 hj
         ·rw [hF.out.2.2 y h2 (fun j _ hj=>hb (List.mem_of_getElem? hj))]
          unfold aGo
          rw [Htn.out,if_neg]
          intro hbt
          exact hb (by rw [← Hlq.out];exact zz.2 ⟨h2,hbt⟩)
        ·exact hF.out.1 x y (by omega) h2)
       go_wp2_with fail
       go_roundw
       case rel=>exact⟨q+1,F,by go_num,by omega,hF',ziJ,hx,hLL⟩
       case measure=>simp [intOf];omega
  ·obtain rfl:m=q:=by omega
   have hres:=za (show RetTb2 w a (.returned (.slice (some ⟨w1.heap.size,0,none⟩) m m)) wr from by
    refine⟨_,m,by rw [Hn.out],⟨w1.heap.size,hw1.size,?_⟩,hw1.trans hx⟩
    have h1:=ziJ
    rw [Hn.out,tbC_congr (g:=aGo a) (fun x y hx hy=>hF.out x y (by have:=Hn.out;omega) hy)] at h1
    rw [Hn.out]
    exact h1)
   clear ziJ
   go_wp2
   go_ret
   exact hres.out
theorem zcJ {lo hi:Nat} {B:Option Addr} {m d:Nat} {B':Option Addr} {m' d':Nat} {a:Aut} {w:World}(h:zC w lo hi B m B' m' a)(hv:zk a=true) :
  Calls Tryz.prog 151 #[.agg #[.int .i64 a.al,.slice B m d,.slice B' m' d']] w (RetTb w a):=by
 refine (zbG h hv).mono ?_
 rintro e w' ⟨A,c,h1,⟨base,-,h2⟩,h3⟩
 exact⟨A,c,h1,⟨base,h2⟩,h3⟩
section
variable {P:Program} (w:World)
theorem ziv (base:Nat) (t ty e:TypeId) (i:TypeInfo) (size:Nat)(ht:P.underlying t=some (.slice e))(hi:P.info? e=some i)
  (v:Value) (n:Nat) (xs:List Value) (ziJ:w.ownsRow base e size v n xs) (c:Nat):(Builtin.append_ #[t,t] ty #[v,.slice none 0 c]).run P w=.ok v w:=by
 rcases ziJ.2 with ⟨rfl,rfl⟩|⟨g,cap,cur,rfl,_,_,hnc,_⟩
 ·simp [Builtin.append_,run_underlying ht,sizeOf,typeInfo,hi,Builtin.lenOf,Builtin.firstCells]
 ·simp [Builtin.append_,run_underlying ht,sizeOf,typeInfo,hi,Builtin.lenOf,Builtin.firstCells,hnc,storeCells]
theorem zv {o:Oper} {a:Act} {K:Act→World→Prop} {Q:Exit→Act→World→Prop} (s x:Operand) (t:TypeId)
  (ho:o.op=.call { callee:=.builtin .append,args:=#[s,x],argTypes:=#[t,t] })
  (base:Nat) (e:TypeId) (z:Value) (size bytes:Nat) (ht:P.underlying t=some (.slice e)) (hi:(P.info? e).map (fun i=>(i.zero,i.size,i.bytes))=some (some z,size,bytes)) (hzs:z.cells.size=size) (hsz:0<size)
  (v:Value) (n:Nat) (xs:List Value) (hs:a.eval s=v) (ziJ:w.ownsRow base e size v n xs)
  (lo hi':Nat) (A:Option Addr) (m c:Nat) (news:List Value) (hx:a.eval x=.slice A m c) (hr:Reads w lo hi' size A m news) (h1:∀ u∈news,u.oneCell'=true)
  (h63:n+m≤maxLen) (hbytes:(n+m)*bytes≤140737488355328) (hbase:base≤w.heap.size)
  (h:∀ v' w',w'.ownsRow base e size v' (n+m) (xs++news)→w.grownBy w' v.ownBlock→(v'.ownBlock=v.ownBlock∨v'.ownBlock=some w.heap.size)→K (a.put o.dst v') w'):o.wp P a w K Q:=by
 obtain⟨i,hi0,hz0,hz1,hz2⟩:=info_parts hi
 have hrun:∃ v' w',(Builtin.append_ #[t,t] o.type #[v,.slice A m c]).run P w=.ok v' w'∧w'.ownsRow base e size v' (n+m) (xs++news)∧w.grownBy w' v.ownBlock∧(v'.ownBlock=v.ownBlock∨v'.ownBlock=some w.heap.size):=by
  by_cases h0:m=0
  ·subst h0
   obtain rfl:news=[]:=List.eq_nil_of_length_eq_zero (by simpa using hr.1)
   cases A with
   |none=>exact⟨v,w,ziv w base t o.type e i size ht hi0 v n xs ziJ c,by simpa using ziJ,World.grownBy.refl w _,.inl rfl⟩
   |some ad =>
    obtain⟨v',w',h2,h3,h4,_,h5⟩:=run_append_own_at (P:=P) w base t o.type e i z size bytes ht hi0 hz0 hz1 hz2 hzs hsz v n xs ziJ ad 0 c [] (by simp) (fun j u hu=>by simp at hu) h1 h63 hbytes hbase
    exact⟨v',w',h2,h3,h4,h5⟩
  ·obtain⟨ad,rfl,_,_,hc⟩:=hr.2.2 (by omega)
   obtain⟨v',w',h2,h3,h4,_,h5⟩:=run_append_own_at (P:=P) w base t o.type e i z size bytes ht hi0 hz0 hz1 hz2 hzs hsz v n xs ziJ ad m c news hr.1 hc h1 h63 hbytes hbase
   exact⟨v',w',h2,h3,h4,h5⟩
 obtain⟨v',w',h2,h3,h4,h5⟩:=hrun
 unfold Oper.wp execOp
 simp only [ho,resolve,invoke,builtin,Sem.run_bind,Sem.run_pure,Result.andThen_ok,List.map_toArray,List.map_cons,List.map_nil,hs,hx,h2]
 exact h v' w' h3 h4 h5
theorem zcE {ops:Array Oper} {rest:List Oper} {o:Oper} {a:Act} {Q:Exit→Act→World→Prop}(hgd:o.guard=none) (s x:Operand) (t:TypeId)
  (ho:o.op=.call { callee:=.builtin .append,args:=#[s,x],argTypes:=#[t,t] })
  (base:Nat) (e:TypeId) (z:Value) (size bytes:Nat) (ht:P.underlying t=some (.slice e)) (hi:(P.info? e).map (fun i=>(i.zero,i.size,i.bytes))=some (some z,size,bytes)) (hzs:z.cells.size=size) (hsz:0<size)
  (v:Value) (n:Nat) (xs:List Value) (hs:a.eval s=v) (ziJ:w.ownsRow base e size v n xs)
  (lo hi':Nat) (A:Option Addr) (m c:Nat) (news:List Value) (hx:a.eval x=.slice A m c) (hr:Reads w lo hi' size A m news) (h1:∀ u∈news,u.oneCell'=true)
  (h63:n+m≤maxLen) (hbytes:(n+m)*bytes≤140737488355328) (hbase:base≤w.heap.size)
  (h:∀ v' w',w'.ownsRow base e size v' (n+m) (xs++news)→w.grownBy w' v.ownBlock→(v'.ownBlock=v.ownBlock∨v'.ownBlock=some w.heap.size)→wpList P ops Q rest (a.put o.dst v') w'):wpList P ops Q (o :: rest) a w:=
 wpList_plain hgd fun _ hK=>zv w s x t ho base e z size bytes ht hi hzs hsz v n xs hs ziJ lo hi' A m c news hx hr h1 h63 hbytes hbase fun v' w' h2 h3 h4=>hK _ _ (h v' w' h2 h3 h4)
end
theorem nats_oneC (l:List Nat):∀ u∈zS l,u.oneCell'=true:=by
 intro u hu
 obtain⟨x,_,rfl⟩:=List.mem_map.1 hu
 rfl
def RetNx (w:World) (base:Nat) (v:Value) (xs:List Value) (R:List Nat) (e:Ending) (w':World):Prop:=
 ∃ v',e=.returned v'∧w'.ownsRow base 3 1 v' (xs.length+R.length) (xs++zS R)∧Frm (fun b=>v.ownBlock=some b) w w'∧(v'.ownBlock=v.ownBlock∨∃ b,v'.ownBlock=some b∧w.heap.size≤b)
theorem flat_snoc {l:List Nat} {a q:Nat} (f:Nat→List Nat)(h:l[a]?=some q):(l.take (a+1)).flatMap f=(l.take a).flatMap f++f q:=by
 rw [List.take_add_one,h]
 simp
theorem drop_cons {ss:List Sys} {j:Nat} {s:Sys}(h:ss[j]?=some s):ss.drop j=s :: ss.drop (j+1):=by
 obtain⟨hj,rfl⟩:=List.getElem?_eq_some_iff.1 h
 exact List.drop_eq_getElem_cons hj
theorem impl_next {lo hi k c lo' hi' d base n m l:Nat} {A M:Option Addr} {ss:List Sys} {v:Value} {xs:List Value} {w:World}(h:PtAt w lo hi A k lo' hi' M ss)(hs:∀ s∈ss,Sml s)(hk4:k≤4)(hm:m≤4611686018427387904)(hl:l<6)(hT:Tab w)
  (ziJ:w.ownsRow base 3 1 v n xs) (hb:base≤w.heap.size) (hn:n≤1099511627776) :
  Calls Tryz.prog 180 #[.agg #[.slice A k c,.slice M k d],.int .i64 m,.int .i64 l,v] w (RetNx w base v xs (nx ss m l).1):=by
 have HP:=za (fun W (hW:Ext w W)=>h.ext hW)
 have HT:=za (fun W (hW:Ext w W)=>hT.ext hW)
 have HO:=za (fun W (hW:Ext w W)=>zh ziJ hW)
 have Hs:=za hs
 have hks:=za h.sys.1
 have hfx:=za (fun j=>nx_facts (ss:=ss.drop j) (fun s hx=>hs s (List.mem_of_mem_drop hx)) m l)
 have hfl:=za (fun j=>nx_len (ss:=ss.drop j) (fun s hx=>hs s (List.mem_of_mem_drop hx)) m l)
 have h16:=za (show ∀ j,16 ^ (ss.drop j).length≤65536 from fun j=>by
  have:(ss.drop j).length≤4:=by rw [List.length_drop,← h.sys.1];omega
  exact Nat.le_trans (Nat.pow_le_pow_right (by omega) this) (by decide))
 have hxl:=ziJ.1
 clear h hs hT ziJ
 go_enter Tryz.func180,Tryz.ntmps180
 have bp:Blk (w.alloc (.cells #[.slice A k c,.slice M k d] 204)) w.heap.size 204 #[.slice A k c,.slice M k d]:=Blk.new w _ _
 have hx1:=(Ext.refl w).alloc (.cells #[.slice A k c,.slice M k d] 204)
 have h1:=World.ownsRow_lit (base:=w.heap.size) (e:=3) (size:=1) (w.alloc (.cells #[.slice A k c,.slice M k d] 204)) #[.int .i64 0] 1 hx1.size (by decide) rfl
 rw [show (w.alloc (.cells #[.slice A k c,.slice M k d] 204)).heap.size=w.heap.size+1 by simp] at h1
 have hx2:=hx1.alloc (.cells #[.int .i64 0] 3)
 have bp2:=bp.ext ((Ext.refl _).alloc (.cells #[.int .i64 0] 3))
 have cp:=bp2.cell
 go_upto_region 2 with fail
 generalize (w.alloc (.cells #[.slice A k c,.slice M k d] 204)).alloc (.cells #[.int .i64 0] 3)=w2 at *
 go_wp2_with fail
 go_loopw [1,9,10,11] (fun nd rv wt i wr=>∃ (j nd' W:Nat) (R:List Nat),j≤k∧i=.int .i64 ((j:Int) - 1)∧nd=.int .i64 (nd':Nat)∧wt=.int .i64 (W:Nat)∧Hid (nx (ss.drop j) m l=(R,W,nd'))∧wr.ownsRow w.heap.size 3 1 rv R.length (zS R)∧Ext w2 wr) (fun _ _ _ i _=>(intOf i+1).toNat)
 case atStart=>exact⟨k,m,1,[0],Nat.le_refl _,by go_num,rfl,rfl,za (by rw [List.drop_of_length_le (by rw [← hks.out];exact Nat.le_refl _)];rfl),h1,Ext.refl _⟩
 case round =>
  clear h1 cp
  obtain⟨j,nd,W,R,hj,rfl,rfl,rfl,hnx,hR,hxr⟩:=hrel
  have hcp:=bp2.ext hxr
  have cp:=hcp.cell
  by_cases hlt:1≤j
  ·obtain⟨i,rfl⟩:∃ i,j=i+1:=⟨j - 1,by omega⟩
   obtain⟨g,o,s,B,q,c',rfl,_,_,hs,c0,c1,c2,-⟩:=(HP.out wr (hx2.trans hxr)).sys.sys (k:=i) (by omega)
   have hsm:=za (Hs.out s (List.mem_of_getElem? hs.out))
   obtain⟨p,hp⟩:∃ p:Nat,Hid (s.st=p):=⟨s.st.toNat,za (by have:=hsm.out.1;omega)⟩
   have hp1:1≤p∧p≤16:=by have:=hsm.out.1;have:=hsm.out.2.1;have:=hp.out;omega
   obtain⟨al,hal⟩:∃ al:Nat,Hid (s.al=al):=⟨s.al.toNat,za (by have:=hsm.out.2.2.2;omega)⟩
   have hsa:Sm al:=by have:=hsm.out.2.2.2;have:=hal.out;unfold Sm;omega
   rw [hal.out] at c0
   rw [hp.out] at c1
   have hi0:(((i+1:Nat):Int) - 1)=(i:Int):=by omega
   rw [hi0]
   have hF:=hfx.out (i+1)
   have hFl:=hfl.out (i+1)
   have h65:=h16.out (i+1)
   rw [hnx.out] at hF hFl
   obtain⟨hW1,hW2,hRW,hRn,hnd⟩:=hF
   have HRW:=za hRW
   clear hRW hRn
   dsimp only at hW1 hW2 hnd hFl
   obtain⟨T,hT1⟩:∃ T,Hid (cho s (nd % p) l=T):=⟨_,za rfl⟩
   have hTl:T.length≤16:=by
    have:=cho_len hsm.out (i:=nd % p) (l:=l) (by have:=hp.out;have:=Nat.mod_lt nd (show 0<p by omega);omega)
    rw [hT1.out] at this
    have:=hp.out
    omega
   have hTlt:=za (show ∀ q∈T,q<16 from fun q hq=>by
    have:=cho_lt hsm.out (i:=nd % p) (l:=l) (by have:=hp.out;have:=Nat.mod_lt nd (show 0<p by omega);omega) q (by rw [hT1.out];exact hq)
    have:=hp.out
    omega)
   have hmod:((nd:Int)).tmod (p:Int)=((nd % p:Nat):Int):=rfl
   have hdiv:((nd:Int)).tdiv (p:Int)=((nd / p:Nat):Int):=rfl
   have hik:(i:Int)<(k:Int):=by omega
   have hxs:=(Ext.refl wr).alloc (.cells #[.int .i64 al,.int .i64 p,.slice B q c'] 38)
   have bs:=Blk.new wr 38 #[.int .i64 al,.int .i64 p,.slice B q c']
   have hnd9:(nd:Int)≤4611686018427387904:=by omega
   have hpp:((p:Int)==0)=false:=by simp;omega
   go_upto_region 6 with fail
   clear c0 c1 c2 cp
   have cp:=(hcp.ext hxs).cell
   have hcp3:=hcp.ext hxs
   have hR3:=zh hR hxs
   have hxr3:=hxr.trans hxs
   generalize wr.alloc (.cells #[.int .i64 al,.int .i64 p,.slice B q c'] 38)=w3 at *
   generalize wr.heap.size=G3 at *
   have c3:=bs.cell
   go_upto_region 7 with fail
   obtain⟨z,hz'⟩:∃ z:Nat,Hid (nd % p=z):=⟨_,za rfl⟩
   have hz:((nd:Int) % (p:Int))=(z:Int):=by rw [← hz'.out];exact (Int.natCast_emod nd p).symm
   have hzp:z<16:=by have:=Nat.mod_lt nd (show 0<p by omega);have:=hz'.out;omega
   rw [hz]
   rw [hz'.out] at hT1
   have hxz:=(Ext.refl w3).alloc (.cells #[.int .i64 (z:Int)] 3)
   have h4:=World.ownsRow_lit (base:=w.heap.size) (e:=3) (size:=1) w3 #[.int .i64 (z:Int)] 1 (Nat.le_trans (Nat.le_trans hx2.size hxr3.size) (Nat.le_refl _)) (by decide) rfl
   have hcp4:=hcp3.ext hxz
   have bs4:=bs.ext hxz
   have hR4:=zh hR3 hxz
   have hxr4:=hxr3.trans hxz
   clear c3 cp bs hcp3 hR3 hxr3 hR hxr hcp hxs
   generalize w3.alloc (.cells #[.int .i64 (z:Int)] 3)=w4 at *
   generalize w3.heap.size=G4 at *
   have c4:=bs4.cell
   have hHb:hasB al (l:Nat)=al.testBit l:=by simp [hasB]
   go_upto_if 41 with (go_at_call 161;refine (zbp al l hsa _).mono ?_;rw [hHb];rintro e w4 ⟨rfl,rfl⟩)
   go_cut [13] (fun tv wx=>∃ (A':Option Addr) (c2:Nat),tv=.slice A' T.length c2∧Reads wx 0 wx.heap.size 1 A' T.length (zS T)∧Ext w4 wx)
   case first =>
    cases hbt:al.testBit l
    ·have hTz:T=[z]:=by
      rw [← hT1.out,cho,hal.out,Int.toNat_natCast,hbt];rfl
     subst hTz
     go_wp2_with fail
     go_meet
     exact⟨_,_,rfl,(Reads.of_own h4).more (Nat.zero_le _) (Nat.le_refl _),Ext.refl _⟩
    ·have hTz:T=letters (succ s.edges (z:Nat) (l:Nat)) 32:=by
      rw [← hT1.out,cho,hal.out,Int.toNat_natCast,hbt];rfl
     go_upto_region 8 with fail
     clear c4
     obtain⟨mbs,hmr,hmv⟩:=(HP.out _ (hx2.trans hxr4)).mov
     obtain⟨adM,u,rfl,_,_,hu,hcM⟩:=hmr.one (k:=i) (by omega)
     obtain⟨b,hbi,rfl⟩:∃ b,mbs[i]?=some b∧u=.pointer (some ⟨b,0,none⟩):=by
      have:=hu.out
      simp only [ptrs,List.getElem?_map,Option.map_eq_some_iff] at this
      obtain⟨b,h1,h2⟩:=this
      exact⟨b,h1,h2.symm⟩
     have hmb:=(hmv.2 i b s hbi hs.out).at_
     have s16:Few 16 s.edges:=fun e he=>by
      have:=hsm.out.2.2.1 e he
      have:=hp.out
      omega
     have s1:=succ_sm s16 (Nat.le_refl _) (z:Nat) (l:Nat)
     have cP:=hcp4.cells
     have cS:∀ W,Ext w4 W→∀ q',W.cell? ⟨G3,q',none⟩=#[Value.int .i64 al,.int .i64 p,.slice B q c'][q']?:=fun W hW=>(bs4.ext hW).cell
     have cM:∀ W,Ext w4 W→W.cell? (adM.add i)=some (.pointer (some ⟨b,0,none⟩)):=fun W hW=>hW.cell_some hcM
     have cV:∀ W,Ext w4 W→W.cell? ⟨b,z*6+l,none⟩=some (.int .i64 (succ s.edges (z:Nat) (l:Nat):Nat)):=fun W hW=>hW.cell_some (hmb z l hzp hl)
     have hz16:(z:Int)<16:=by omega
     have hl6:(l:Int)<6:=by omega
     have hp0:¬ (p=0):=by omega
     have hTT:=za hTz
     generalize succ s.edges (z:Nat) (l:Nat)=sc at *
     have hww:=Ext.refl w4
     clear hcM hmb hTz
     refine uR (fun X=>Ext w4 X) [14] (zu.of [0,1,2,3,4,5,6,7,8,9,10,11,12,13,14,15]) ?_
     refine uQ ?_
     refine ze fun K hK=>?_;go_simp
     refine hK.out _ _ hww.drew ?_
     refine pT ?_
     refine uQ ?_
     refine ze fun K hK=>?_;go_simp
     refine (impl_members sc s1 _ (HT.out _ (hx2.trans (hxr4.trans hww.drew)))).mono ?_
     rintro e w5 ⟨A5,c5,rfl,ziV,hx5⟩
     have hww5:=hww.drew.trans hx5
     rw [← hTT.out] at ziV ⊢
     refine hK.out _ _ hww5 ?_
     refine pT ?_
     refine uQ ?_
     refine zf ?_
     go_wp2_with fail
     go_meet
     exact⟨_,_,rfl,(Reads.of_own ziV).more (Nat.zero_le _) (Nat.le_refl _),hww5⟩
   case rest =>
    obtain⟨A',c2,rfl,hT5,hx45⟩:=hcut
    have hR5:=zh hR4 hx45
    have bs5:=bs4.ext hx45
    have hxr5:=hxr4.trans hx45
    have hcp5:=hcp4.ext hx45
    clear h4 hR4 bs4 hxr4 hcp4 hx45 c4
    have hTn:=hT5.len
    have HR5:=za hR5
    obtain⟨AR,cR,rfl⟩:=zi hR5
    have hRr:=Reads.of_own hR5
    have hRlen:R.length≤65536:=by omega
    clear hR5
    go_wp2_with fail
    go_loopw [14,59] (fun mv ia wx=>∃ a:Nat,a≤T.length∧ia=.int .i64 (a:Nat)∧wx.ownsRow wc.heap.size 3 1 mv ((T.take a).flatMap fun q=>R.map fun x=>q*W+x).length (zS ((T.take a).flatMap fun q=>R.map fun x=>q*W+x))∧Ext wc wx) (fun _ ia _=>T.length - (intOf ia).toNat)
    case atStart=>exact⟨0,Nat.zero_le _,rfl,World.ownsRow_nil _ _ _ _,Ext.refl _⟩
    case round =>
     obtain⟨a,ha,rfl,hmo,hxw⟩:=hrel
     by_cases hat:a<T.length
     ·obtain⟨adT,qv,rfl,_,_,hqv,hqc⟩:=(hT5.ext hxw).one (k:=a) hat
      obtain⟨q1,hq1,rfl⟩:∃ q1,Hid (T[a]?=some q1)∧qv=.int .i64 (q1:Nat):=by
       have:=hqv.out
       simp only [zS,List.getElem?_map,Option.map_eq_some_iff] at this
       obtain⟨x,h1,h2⟩:=this
       exact⟨x,za h1,h2.symm⟩
      have hq16:=hTlt.out q1 (List.mem_of_getElem? hq1.out)
      have hsn:=za (flat_snoc (fun q=>R.map fun x=>q*W+x) hq1.out)
      have hpl:((T.take a).flatMap fun q=>R.map fun x=>q*W+x).length≤16*65536:=by
       have:∀ L:List Nat,(L.flatMap fun q=>R.map fun x=>q*W+x).length=L.length*R.length:=by
        intro L
        induction L with
        |nil=>simp
        |cons x r ih=>rw [List.flatMap_cons,List.length_append,ih,List.length_map,List.length_cons,Nat.add_mul,Nat.one_mul,Nat.add_comm]
       rw [this,List.length_take]
       exact Nat.mul_le_mul (by omega) hRlen
      generalize (T.take a).flatMap (fun q=>R.map fun x=>q*W+x)=P at *
      go_upto_region 13 with fail
      clear hqc
      go_wp2_with fail
      go_loopw [14,65] (fun mv ib wy=>∃ b:Nat,b≤R.length∧ib=.int .i64 (b:Nat)∧wy.ownsRow wc.heap.size 3 1 mv (P++(R.take b).map fun x=>q1*W+x).length (zS (P++(R.take b).map fun x=>q1*W+x))∧Ext wc wy) (fun _ ib _=>R.length - (intOf ib).toNat)
      case atStart=>exact⟨0,Nat.zero_le _,rfl,by simpa using hmo,hxw⟩
      case round =>
       obtain⟨b,hb',rfl,hmo3,hxy⟩:=hrel
       by_cases hbt:b<R.length
       ·obtain⟨adR,rv,rfl,_,_,hrv,hrc⟩:=(hRr.ext hxy).one (k:=b) hbt
        obtain⟨r1,hr1,rfl⟩:∃ r1,Hid (R[b]?=some r1)∧rv=.int .i64 (r1:Nat):=by
         have:=hrv.out
         simp only [zS,List.getElem?_map,Option.map_eq_some_iff] at this
         obtain⟨x,h1,h2⟩:=this
         exact⟨x,za h1,h2.symm⟩
        have hr16:=HRW.out r1 (List.mem_of_getElem? hr1.out)
        have hmul:q1*W≤16*65536:=Nat.mul_le_mul (by omega) (by omega)
        have hPl:(P++(R.take b).map fun x=>q1*W+x).length≤17*65536:=by
         rw [List.length_append,List.length_map,List.length_take]
         omega
        obtain⟨qw,hqw⟩:∃ qw:Nat,Hid (q1*W=qw):=⟨_,za rfl⟩
        have hqwi:(q1:Int)*(W:Int)=(qw:Int):=by rw [← hqw.out];exact (Int.natCast_mul q1 W).symm
        have hsn3:=za (show (P++(R.take (b+1)).map fun x=>q1*W+x)=(P++(R.take b).map fun x=>q1*W+x)++[qw+r1] by
         rw [List.take_add_one,hr1.out,← hqw.out]
         simp)
        rw [hqw.out] at hmul
        generalize P++(R.take b).map (fun x=>q1*W+x)=P3 at *
        go_wp2_with (at_builtin;refine zak wc wr rfl _ _ _ rfl 3 _ 1 8 Tryz.underlying128 zah rfl (by decide) u14 _ _ _ _ rfl rfl hxy hmo3 rfl (zaR _) (by unfold maxLen;omega) (by omega) ?_;intro v' w1 hext1 ziS hg1 hat1)
        go_roundw
        case rel=>exact⟨b+1,by omega,by go_num,by rw [hsn3.out,List.length_append];simpa [zS] using ziS,hext1⟩
        case measure=>simp [intOf];omega
       ·obtain rfl:b=R.length:=by omega
        rw [List.take_length] at hmo3
        go_wp2_with fail
        go_roundw
        case rel=>exact⟨a+1,by omega,by go_num,by rw [hsn.out];exact hmo3,hxy⟩
        case measure=>simp [intOf];omega
     ·obtain rfl:a=T.length:=by omega
      rw [List.take_length] at hmo
      have c5:=(bs5.ext hxw).cell
      have hdv:((nd:Int) / (p:Int))=((nd / p:Nat):Int):=(Int.natCast_ediv nd p).symm
      have hwp:W*p≤65536*16:=Nat.mul_le_mul (by omega) (by omega)
      obtain⟨wp,hwp'⟩:∃ wp:Nat,Hid (W*p=wp):=⟨_,za rfl⟩
      have hwpi:(W:Int)*(p:Int)=(wp:Int):=by rw [← hwp'.out];exact (Int.natCast_mul W p).symm
      rw [hwp'.out] at hwp
      have hnx2:=za (show nx (ss.drop i) m l=(T.flatMap (fun q=>R.map fun x=>q*W+x),wp,nd / p) by
       rw [drop_cons hs.out,nx,hnx.out,← hwp'.out,← hT1.out]
       have e:s.st.toNat=p:=by have:=hp.out;omega
       rw [e,hz'.out])
      have hp0:¬ (p=0):=by omega
      have hxx:=hxr5.trans hxw
      have hwc:w.heap.size≤wc.heap.size:=Nat.le_trans hx2.size hxr5.size
      have hmo':=zq hmo hwc
      obtain⟨ndp,hndp⟩:∃ y:Nat,Hid (nd / p=y):=⟨_,za rfl⟩
      rw [hndp.out] at hdv hnx2
      have hnle:ndp≤nd:=by rw [← hndp.out];exact Nat.div_le_self _ _
      go_wp2_with fail
      go_roundw
      case rel=>exact⟨i,ndp,wp,_,by omega,by go_num,by go_num,by go_num,hnx2,hmo',hxx⟩
      case measure=>simp [intOf]
  ·obtain rfl:j=0:=by omega
   have hnx0:=za (show (nx ss m l).1=R by
    have:=hnx.out
    rw [List.drop_zero] at this
    rw [this])
   have hlR:=hfl.out 0
   have h65:=h16.out 0
   rw [List.drop_zero,hnx0.out] at hlR
   rw [List.drop_zero] at h65
   have hO:=HO.out wr (hx2.trans hxr)
   have hww:=hx2.trans hxr
   have hxn:xs.length=n:=by omega
   obtain⟨AR,cR,rfl⟩:=zi hR
   have hRr:=Reads.of_own hR
   have hneg:¬ (0≤(((0:Nat):Int) - 1)):=by omega
   go_wp2_with (at_builtin;refine zcE wr rfl _ _ 128 rfl base 3 _ 1 8 Tryz.underlying128 zah rfl (by decide) v n xs rfl hO _ _ AR R.length cR (zS R) rfl hRr (nats_oneC R) (by unfold maxLen;omega) (by omega) (Nat.le_trans hb hww.size) ?_;intro v' w5 ziV hg5 hat5)
   go_ret
   refine⟨v',rfl,by rw [hxn,hnx0.out];exact ziV,hww.toFrm.trans ((Frm.of_grown hg5).mono fun b _ h=>h),?_⟩
   rcases hat5 with h|h
   ·exact .inl h
   ·exact .inr ⟨_,h,hww.size⟩
structure BCaps (w:World) (g8 g10 g11 g12 g13:Nat) (A M UA RA:Option Addr) (k c dm uc rc:Nat) (ss:List Sys) (a p:Aut):Prop where
 h8:Blk w g8 204 #[.slice A k c,.slice M k dm]
 h10:Blk w g10 177 #[.slice UA a.next.length uc]
 h11:Blk w g11 177 #[.slice RA p.next.length rc]
 h12:Blk w g12 3 #[.int .i64 (a.next.length:Nat)]
 h13:Blk w g13 3 #[.int .i64 (p.next.length:Nat)]
 pt:∃ lo hi lo' hi',PtAt w lo hi A k lo' hi' M ss
 tu:∃ lo hi,TbAt w lo hi UA a
 tr:∃ lo hi,TbAt w lo hi RA p
theorem BCaps.ext {w w':World} {g8 g10 g11 g12 g13:Nat} {A M UA RA:Option Addr} {k c dm uc rc:Nat} {ss:List Sys} {a p:Aut}(h:BCaps w g8 g10 g11 g12 g13 A M UA RA k c dm uc rc ss a p)(hx:Ext w w'):BCaps w' g8 g10 g11 g12 g13 A M UA RA k c dm uc rc ss a p:=by
 obtain⟨lo,hi,lo',hi',h1⟩:=h.pt
 obtain⟨lo2,hi2,h2⟩:=h.tu
 obtain⟨lo3,hi3,h3⟩:=h.tr
 exact⟨h.h8.ext hx,h.h10.ext hx,h.h11.ext hx,h.h12.ext hx,h.h13.ext hx,⟨lo,hi,lo',hi',h1.ext hx⟩,⟨lo2,hi2,h2.ext hx⟩,⟨lo3,hi3,h3.ext hx⟩⟩
theorem zdr {ss:List Sys}(h:∀ s∈ss,Sml s):1≤zB (ss.map zdk):=zfd fun m hm=>by
 obtain⟨s,hs,rfl⟩:=List.mem_map.1 hm
 exact zdJ (h s hs)
theorem zcN {ss:List Sys}(h:∀ s∈ss,Sml s):zB (ss.map zdk)≤16 ^ ss.length:=by
 have h1:∀ x∈(ss.map zdk).map Prod.fst,x≤16:=fun x hx=>by
  rw [List.map_map] at hx
  obtain⟨s,hs,rfl⟩:=List.mem_map.1 hx
  have h1:=(h s hs).1;have h2:=(h s hs).2.1
  simp only [Function.comp,zdk]
  omega
 have:=prodS_le h1
 simpa [zB] using this
theorem zhE {A M:Option Addr} {k c dm:Nat} {lo hi lo' hi':Nat} {ss:List Sys} {w:World}(h:PtAt w lo hi A k lo' hi' M ss)(hs:∀ s∈ss,Sml s)(hk:k≤3) :
  Calls Tryz.prog 183 #[.agg #[.slice A k c,.slice M k dm]] w fun e w'=>e=.returned (.int .i64 (zB (ss.map zdk):Nat))∧Ext w w':=by
 have HS:=za (fun W (hW:Ext w W)=>h.sys.ext hW)
 have hL:=za h.sys.1
 have Hs:=za hs
 have hb1:=Blk.new w 204 #[.slice A k c,.slice M k dm]
 have hw1:Ext w (w.alloc (.cells #[.slice A k c,.slice M k dm] 204)):=(Ext.refl w).alloc _
 have Hp:=za (show ∀ j,1≤zB ((ss.take j).map zdk)∧zB ((ss.take j).map zdk)≤4096 from fun j=>by
  have h1:∀ s∈ss.take j,Sml s:=fun s hs'=>hs s (List.mem_of_mem_take hs')
  refine⟨zdr h1,Nat.le_trans (zcN h1) ?_⟩
  have h2:(ss.take j).length≤3:=by rw [List.length_take];have:=h.sys.1;omega
  calc 16 ^ (ss.take j).length≤16 ^ 3:=Nat.pow_le_pow_right (by omega) h2
   _=4096:=by decide)
 clear hs h
 go_enter Tryz.func183,Tryz.ntmps183
 go_upto_region 1 with fail
 generalize w.alloc (.cells #[.slice A k c,.slice M k dm] 204)=w1 at *
 have c1:=hb1.cell
 go_wp2_with fail
 go_loopw [3,5,9] (fun v _ i wr=>∃ j y:Nat,i=.int .i64 j∧j≤k∧v=.int .i64 y∧y≤4096∧Hid (y=zB ((ss.take j).map zdk))∧Ext w wr) (fun _ _ i _=>k - (intOf i).toNat)
 case atStart=>exact⟨0,1,rfl,Nat.zero_le _,rfl,by omega,rfl,hw1⟩
 case round =>
  obtain⟨j,y,rfl,hj,rfl,hy,hyo,hx⟩:=hrel
  by_cases hlt:j<k
  ·obtain⟨b,o,s,B,q,d,rfl,_,_,hs,c0,c1,c2,_⟩:=(HS.out wr hx).sys hlt
   have hss:=Hs.out s (List.mem_of_getElem? hs.out)
   obtain⟨p,hp⟩:∃ p:Nat,Hid (s.st=p):=⟨s.st.toNat,by have:=hss.1;unfold Hid;omega⟩
   have hst:=za (show zB ((ss.take (j+1)).map zdk)=y*p by
    rw [List.take_add_one,hs.out,Option.toList_some,List.map_append,zbw,← hyo.out]
    simp [zB,zag,zdk,hp.out])
   have hle:=(Hp.out (j+1)).2
   rw [hst.out] at hle
   obtain⟨z,hz⟩:∃ z:Nat,Hid (y*p=z):=⟨_,rfl⟩
   have hzi:(y:Int)*(p:Int)=(z:Int):=by rw [← hz.out];exact (Int.natCast_mul y p).symm
   rw [hz.out] at hle hst
   rw [hp.out] at c1
   clear hss
   go_wp2_with fail
   go_roundw
   case rel=>exact⟨j+1,z,by go_num,by omega,by go_num,hle,hst.symm,by first|exact hx.alloc _|exact (hx.alloc _).drew⟩
   case measure=>simp [intOf];omega
  ·obtain rfl:k=j:=by omega
   have ziM:=za (show y=zB (ss.map zdk) by rw [hyo.out,List.take_of_length_le (by have:=hL.out;omega)])
   go_wp2
   go_ret
   exact⟨zG (by rw [ziM.out]),hx⟩
structure GCaps (w:World) (g4 ga g5 g12 g13:Nat) (a p:Aut):Prop where
 h4:Blk w g4 187 #[.pointer (some ⟨ga,0,none⟩)]
 ha:∃ (B:Option Addr) (m d:Nat) (B':Option Addr) (m' d' lo hi:Nat),Blk w ga 31 #[.int .i64 a.al,.slice B m d,.slice B' m' d']∧zC w lo hi B m B' m' a
 h5:∃ (B:Option Addr) (m d:Nat) (B':Option Addr) (m' d' lo hi:Nat),Blk w g5 31 #[.int .i64 p.al,.slice B m d,.slice B' m' d']∧zC w lo hi B m B' m' p
 h12:Blk w g12 3 #[.int .i64 (a.next.length:Nat)]
 h13:Blk w g13 3 #[.int .i64 (p.next.length:Nat)]
theorem GCaps.ext {w w':World} {g4 ga g5 g12 g13:Nat} {a p:Aut}(h:GCaps w g4 ga g5 g12 g13 a p)(hx:Ext w w'):GCaps w' g4 ga g5 g12 g13 a p:=by
 obtain⟨B,m,d,B',m',d',lo,hi,h1,h2⟩:=h.ha
 obtain⟨C,n,c,C',n',c',lo',hi',h3,h4⟩:=h.h5
 exact⟨h.h4.ext hx,⟨B,m,d,B',m',d',lo,hi,h1.ext hx,h2.ext hx⟩,⟨C,n,c,C',n',c',lo',hi',h3.ext hx,h4.ext hx⟩,h.h12.ext hx,h.h13.ext hx⟩
theorem zeK {w:World} {lo hi q:Nat} {B B':Option Addr} {m m':Nat} {a:Aut}(h:zC w lo hi B m B' m' a)(hq:q<m'):∃ ad,B'=some ad∧w.cell? (ad.add q)=some (.bool (zcg a q)):=by
 obtain⟨ad,x,rfl,_,_,hx,hc⟩:=h.2.2.bool hq
 exact⟨ad,rfl,by rw [hc];unfold zcg;rw [List.getD_eq_getElem?_getD,hx.out];rfl⟩
theorem brk_goal {g4 ga g5 g12 g13 x:Nat} {a p:Aut} {w:World}(h:GCaps w g4 ga g5 g12 g13 a p)(hv:zk a=true)(hp:zk p=true)(hx:x≤4611686018427387904) :
  Calls Tryz.prog 181 #[.int .i64 (x:Nat),.pointer (some ⟨g4,0,none⟩),.pointer (some ⟨g13,0,none⟩),.pointer (some ⟨g12,0,none⟩),.pointer (some ⟨g5,0,none⟩)] w fun e w'=>e=.returned (.bool (zcg a (x / p.next.length % a.next.length)&&!zcg p (x % p.next.length)))∧Ext w w':=by
 obtain⟨_,⟨a1,a2⟩,a3,_⟩:=zl hv
 obtain⟨_,⟨p1,p2⟩,p3,_⟩:=zl hp
 obtain⟨B,m,d,B',m',d',lo,hi,ha,hA⟩:=h.ha
 obtain⟨C,n,c,C',n',c',lo',hi',h5,hP⟩:=h.h5
 have hm':=hA.n2
 have hn':=hP.n2
 have h4:=h.h4
 have h12:=h.h12
 have h13:=h.h13
 clear h hv hp
 generalize hNa:a.next.length=N at *
 generalize hNp:p.next.length=Mp at *
 have hN0:x / Mp % N<N:=Nat.mod_lt _ a1
 have hM0:x % Mp<Mp:=Nat.mod_lt _ p1
 obtain⟨ad,rfl,hc1⟩:=zeK hA (q:=x / Mp % N) (by omega)
 obtain⟨ad2,rfl,hc2⟩:=zeK hP (q:=x % Mp) (by omega)
 have hdv:(x:Int) / (Mp:Int)=((x / Mp:Nat):Int):=(Int.natCast_ediv x Mp).symm
 have hmd:((x / Mp:Nat):Int) % (N:Int)=((x / Mp % N:Nat):Int):=(Int.natCast_emod _ N).symm
 have hmd2:(x:Int) % (Mp:Int)=((x % Mp:Nat):Int):=(Int.natCast_emod x Mp).symm
 have hxd:x / Mp≤4611686018427387904:=Nat.le_trans (Nat.div_le_self _ _) hx
 have hN1:¬ (N=0):=by omega
 have hM1:¬ (Mp=0):=by omega
 have hqm:x / Mp % N<m':=by omega
 have hqn:x % Mp<n':=by omega
 have K4:=h4.cell 0
 have Ka:=ha.cell
 have K5:=h5.cell
 have K12:=h12.cell 0
 have K13:=h13.cell 0
 clear h4 h12 h13 ha h5 hA hP hm' hn' a3 p3 hNa hNp hN0 hM0 a1 a2 p1 p2
 generalize x / Mp % N=q1 at *
 generalize x % Mp=q2 at *
 generalize x / Mp=xd at *
 have hq1:(q1:Int)<(m':Int):=by omega
 have hq2:(q2:Int)<(n':Int):=by omega
 generalize zcg a q1=b1 at *
 generalize zcg p q2=b2 at *
 cases b1
 all_goals
  go_enter Tryz.func181,Tryz.ntmps181
  go_wp2_with fail
  go_quiet (fail)
  go_wp2_with fail
  go_ret
  exact⟨zj (by simp),(Ext.refl _).drewN _⟩
def zbC (ss:List Sys) (a p:Aut) (x l:Nat):List Nat:=(nx ss (x / p.next.length / a.next.length) l).1.map fun y=>y*a.next.length*p.next.length+(aGo a (x / p.next.length % a.next.length) l*p.next.length+aGo p (x % p.next.length) l)
theorem zcF (ss:List Sys) (a p:Aut):zbC ss a p=pnx (zaO ss [a,p]):=by
 funext x l
 rw [zbC,zaO,List.map_cons,List.map_cons,List.map_nil,pnx_under]
theorem mix_set {xs R:List Nat} {f:Nat→Nat} {j r:Nat}(hr:R[j]?=some r):(zS (xs++(R.take j).map f++R.drop j)).set (xs.length+j) (.int .i64 (f r:Nat))=zS (xs++(R.take (j+1)).map f++R.drop (j+1)):=by
 have hj:=(List.getElem?_eq_some_iff.1 hr).1
 have hd:R.drop j=r :: R.drop (j+1):=by
  have:=(List.getElem?_eq_some_iff.1 hr).2
  rw [← this]
  exact List.drop_eq_getElem_cons hj
 unfold zS
 rw [← List.map_set]
 congr 1
 rw [List.take_add_one,hr,Option.toList_some,List.map_append,hd,List.set_append_right _ _ (by simp;omega)]
 have:xs.length+j - (xs++(R.take j).map f).length=0:=by simp;omega
 rw [this]
 simp
theorem mix_get {xs R:List Nat} {f:Nat→Nat} {j r:Nat}(hr:R[j]?=some r):(zS (xs++(R.take j).map f++R.drop j))[xs.length+j]?=some (.int .i64 (r:Nat)):=by
 have hj:=(List.getElem?_eq_some_iff.1 hr).1
 unfold zS
 rw [List.getElem?_map,List.getElem?_append_right (by simp;omega)]
 have:xs.length+j - (xs++(R.take j).map f).length=0:=by simp;omega
 rw [this,List.getElem?_drop,Nat.add_zero,hr]
 rfl
def RetBrk (w:World) (base:Nat) (v:Value) (ys:List Nat) (e:Ending) (w':World):Prop:=∃ A' c',e=.returned (.slice A' ys.length c')∧w'.ownsRow base 3 1 (.slice A' ys.length c') ys.length (zS ys)∧Frm (fun b=>v.ownBlock=some b) w w'
theorem brk_next {w0 w:World} {g8 g10 g11 g12 g13 base x l m c c0 k dm uc rc:Nat} {A M UA RA Ao:Option Addr} {ss:List Sys} {a p:Aut} {xs:List Nat}(h:BCaps w0 g8 g10 g11 g12 g13 A M UA RA k c dm uc rc ss a p)(hT:Tab w0)(hw:Ext w0 w)(hs:∀ s∈ss,Sml s)(hk:k≤3)(hv:zk a=true)(hp:zk p=true)
  (hx:x<zB (zaO ss [a,p])) (hl:l<6) (hb0:w0.heap.size≤base) (hb:base≤w.heap.size) (hm:m≤1099511627776) (ziJ:w.ownsRow base 3 1 (.slice Ao m c0) m (zS xs)) :
  Calls Tryz.prog 179 #[.int .i64 (x:Nat),.int .i64 (l:Nat),.slice Ao m c0,.pointer (some ⟨g10,0,none⟩),.pointer (some ⟨g13,0,none⟩),.pointer (some ⟨g12,0,none⟩),.pointer (some ⟨g11,0,none⟩),.pointer (some ⟨g8,0,none⟩)] w (RetBrk w base (.slice Ao m c0) (xs++zbC ss a p x l)):=by
 obtain⟨_,⟨a1,a2⟩,_,_⟩:=zl hv
 obtain⟨_,⟨p1,p2⟩,_,_⟩:=zl hp
 have hgu:=za (fun q (hq:q<a.next.length)=>zcV hv hq hl)
 have hgp:=za (fun q (hq:q<p.next.length)=>zcV hp hq hl)
 have hN4:zB (zaO ss [a,p])≤4096*144:=by
  have h1:zaO ss [a,p]=ss.map zdk++[zbf a,zbf p]:=rfl
  rw [h1,zbw]
  have h2:=zcN hs
  obtain⟨lo,hi,lo',hi',h3⟩:=h.pt
  have h4:16 ^ ss.length≤4096:=by
   calc 16 ^ ss.length≤16 ^ 3:=Nat.pow_le_pow_right (by omega) (by have:=h3.sys.1;omega)
    _=4096:=by decide
  have h5:zB [zbf a,zbf p]≤144:=by
   simp only [zB,zag,zbf,List.map_cons,List.map_nil,Nat.mul_one]
   exact Nat.mul_le_mul a2 p2
  exact Nat.mul_le_mul (Nat.le_trans h2 h4) h5
 have hmemlt:=za (fun y hy=>zhF (ms:=zaO ss [a,p]) (x:=x) (fun mm hmm=>by
  rcases List.mem_append.1 hmm with h1|h1
  ·obtain⟨s,hs',rfl⟩:=List.mem_map.1 h1
   exact zdJ (hs s hs')
  ·obtain⟨b,hb',rfl⟩:=List.mem_map.1 h1
   simp at hb'
   rcases hb' with rfl|rfl
   ·exact zbg hv
   ·exact zbg hp) hl y hy)
 have hnxl:=za (nx_len hs (x / p.next.length / a.next.length) l)
 have hDe:=za (show zbC ss a p x l=(nx ss (x / p.next.length / a.next.length) l).1.map fun y=>y*a.next.length*p.next.length+(aGo a (x / p.next.length % a.next.length) l*p.next.length+aGo p (x % p.next.length) l) from rfl)
 have Hlt:=za (show ∀ y∈zbC ss a p x l,y<589824 from fun y hy=>by
  rw [zcF] at hy
  have:=hmemlt.out y hy
  omega)
 have HC:=za (fun W (hW:Ext w0 W)=>h.ext hW)
 have hpt:∃ lo hi lo' hi',∀ W,Ext w0 W→PtAt W lo hi A k lo' hi' M ss:=by
  obtain⟨lo,hi,lo',hi',h3⟩:=h.pt
  exact⟨lo,hi,lo',hi',fun W hW=>h3.ext hW⟩
 obtain⟨lo,hi,lo',hi',hpt⟩:=hpt
 have Hpt:=za hpt
 have HT:=za (fun W (hW:Ext w0 W)=>hT.ext hW)
 have Hs:=za hs
 clear h hT hs hv hp hmemlt hpt
 obtain⟨N,hN⟩:∃ N,Hid (a.next.length=N):=⟨_,rfl⟩
 obtain⟨Mp,hMp⟩:∃ Mp,Hid (p.next.length=Mp):=⟨_,rfl⟩
 rw [hN.out] at a1 a2 hgu hnxl hDe
 rw [hMp.out] at p1 p2 hgp hnxl hDe
 have hN0:x / Mp % N<N:=Nat.mod_lt _ a1
 have hM0:x % Mp<Mp:=Nat.mod_lt _ p1
 have hu:=hgu.out _ hN0
 have hr:=hgp.out _ hM0
 obtain⟨ug,uo,rfl,hcu⟩:∃ g o,UA=some ⟨g,o,none⟩∧∀ W,Ext w0 W→W.cell? ⟨g,o+x / Mp % N*6+l,none⟩=some (.int .i64 (aGo a (x / Mp % N) l:Nat)):=by
  obtain⟨l1,h1,htb⟩:=(HC.out w0 (Ext.refl _)).tu
  obtain⟨g,o,e,hc⟩:=htb.at_ (q:=x / Mp % N) (by rw [hN.out];exact hN0) hl
  exact⟨g,o,e,fun W hW=>hW.cell_some hc⟩
 obtain⟨rg,ro,rfl,hcr⟩:∃ g o,RA=some ⟨g,o,none⟩∧∀ W,Ext w0 W→W.cell? ⟨g,o+x % Mp*6+l,none⟩=some (.int .i64 (aGo p (x % Mp) l:Nat)):=by
  obtain⟨l1,h1,htb⟩:=(HC.out w0 (Ext.refl _)).tr
  obtain⟨g,o,e,hc⟩:=htb.at_ (q:=x % Mp) (by rw [hMp.out];exact hM0) hl
  exact⟨g,o,e,fun W hW=>hW.cell_some hc⟩
 have hdv:(x:Int) / (Mp:Int)=((x / Mp:Nat):Int):=(Int.natCast_ediv x Mp).symm
 have hdv2:((x / Mp:Nat):Int) / (N:Int)=((x / Mp / N:Nat):Int):=(Int.natCast_ediv _ N).symm
 have hmd:((x / Mp:Nat):Int) % (N:Int)=((x / Mp % N:Nat):Int):=(Int.natCast_emod _ N).symm
 have hmd2:(x:Int) % (Mp:Int)=((x % Mp:Nat):Int):=(Int.natCast_emod x Mp).symm
 have hxs:x≤589824:=by omega
 have hxd:x / Mp≤589824:=Nat.le_trans (Nat.div_le_self _ _) hxs
 have hxe:x / Mp / N≤589824:=Nat.le_trans (Nat.div_le_self _ _) hxd
 have hN1:¬ (N=0):=by omega
 have hM1:¬ (Mp=0):=by omega
 have hmulu:aGo a (x / Mp % N) l*Mp≤12*12:=Nat.mul_le_mul (by omega) (by omega)
 obtain⟨rest,hrest⟩:∃ z:Nat,Hid (aGo a (x / Mp % N) l*Mp+aGo p (x % Mp) l=z):=⟨_,rfl⟩
 obtain⟨um,hum⟩:∃ z:Nat,Hid (aGo a (x / Mp % N) l*Mp=z):=⟨_,rfl⟩
 have hummi:((aGo a (x / Mp % N) l:Nat):Int)*(Mp:Int)=(um:Int):=by rw [← hum.out];exact (Int.natCast_mul _ Mp).symm
 rw [hum.out] at hmulu
 have hrest2:rest=um+aGo p (x % Mp) l:=by rw [← hrest.out,hum.out]
 have Hrest2:=za hrest2
 clear hrest2
 rw [hrest.out] at hDe
 generalize aGo a (x / Mp % N) l=au at *
 generalize aGo p (x % Mp) l=ap at *
 generalize x / Mp % N=q1 at *
 generalize x % Mp=q2 at *
 generalize hxE:x / Mp / N=xe at *
 have HxE:=za hxE
 clear hxE
 generalize x / Mp=xd at *
 clear hgu hgp hrest hum
 have hq1:(q1:Int)<(N:Int):=by omega
 have hq2:(q2:Int)<(Mp:Int):=by omega
 have hli:(l:Int)<6:=by omega
 have K10:∀ W,Ext w0 W→∀ i,W.cell? ⟨g10,i,none⟩=#[Value.slice (some ⟨ug,uo,none⟩) N uc][i]?:=fun W hW=>by have:=(HC.out W hW).h10.cell;rw [hN.out] at this;exact this
 have K11:∀ W,Ext w0 W→∀ i,W.cell? ⟨g11,i,none⟩=#[Value.slice (some ⟨rg,ro,none⟩) Mp rc][i]?:=fun W hW=>by have:=(HC.out W hW).h11.cell;rw [hMp.out] at this;exact this
 have K12:∀ W,Ext w0 W→∀ i,W.cell? ⟨g12,i,none⟩=#[Value.int .i64 (N:Nat)][i]?:=fun W hW=>by have:=(HC.out W hW).h12.cell;rw [hN.out] at this;exact this
 have K13:∀ W,Ext w0 W→∀ i,W.cell? ⟨g13,i,none⟩=#[Value.int .i64 (Mp:Nat)][i]?:=fun W hW=>by have:=(HC.out W hW).h13.cell;rw [hMp.out] at this;exact this
 have K8:∀ W,Ext w0 W→∀ i,W.cell? ⟨g8,i,none⟩=#[Value.slice A k c,Value.slice M k dm][i]?:=fun W hW=>(HC.out W hW).h8.cell
 have Hk:=za (And.intro K10 (And.intro K11 (And.intro K12 (And.intro K13 K8))))
 have Hcc:=za (And.intro hcu hcr)
 have hxsl:xs.length=m:=by have:=zcS ziJ;simp [zS] at this;omega
 have Hxsl:=za hxsl
 clear K10 K11 K12 K13 K8 hcu hcr hxsl
 have hR16:=za (show (nx ss xe l).1.length≤4096 from Nat.le_trans hnxl.out (by
  obtain hh:=(Hpt.out w hw).sys.1
  calc 16 ^ ss.length≤16 ^ 3:=Nat.pow_le_pow_right (by omega) (by omega)
   _=4096:=by decide))
 have CN:=za (fun W (hW:Ext w W)=>impl_next (c:=c) (d:=dm) (m:=xe) (l:=l) (v:=.slice Ao m c0) (n:=m) (xs:=zS xs) (base:=base) (Hpt.out W (hw.trans hW)) Hs.out (by omega) (by omega) hl (HT.out W (hw.trans hW)) (zh ziJ hW) (Nat.le_trans hb hW.size) hm)
 have hrl:rest≤1000:=by have:=Hrest2.out;omega
 have hrsti:(um:Int)+(ap:Int)=(rest:Int):=by have:=Hrest2.out;omega
 generalize (nx ss xe l).1=R at *
 have hob:=za (fun b (hb':(Value.slice Ao m c0).ownBlock=some b)=>(ziJ.lt b hb').1)
 clear hnxl HxE ziJ
 have hk10:=fun W (hW:Ext w W)=>Hk.out.1 W (hw.trans hW)
 have hk11:=fun W (hW:Ext w W)=>Hk.out.2.1 W (hw.trans hW)
 have hk12:=fun W (hW:Ext w W)=>Hk.out.2.2.1 W (hw.trans hW)
 have hk13:=fun W (hW:Ext w W)=>Hk.out.2.2.2.1 W (hw.trans hW)
 have hk8:=fun W (hW:Ext w W)=>Hk.out.2.2.2.2 W (hw.trans hW)
 have hcu:=fun W (hW:Ext w W)=>Hcc.out.1 W (hw.trans hW)
 have hcr:=fun W (hW:Ext w W)=>Hcc.out.2 W (hw.trans hW)
 have hww:=Ext.refl w
 go_enter Tryz.func179,Tryz.ntmps179
 go_upto_region 1 with fail
 go_cut [12] (fun v wx=>v=.int .i64 (rest:Nat)∧Ext w wx)
 case first =>
  have k10:=hk10 w hww
  have k11:=hk11 w hww
  have k12:=hk12 w hww
  have k13:=hk13 w hww
  have kcu:=hcu w hww
  have kcr:=hcr w hww
  go_quiet (fail)
  go_wp2_with fail
  go_meet
  exact⟨by go_num,hww.drewN _⟩
 case rest =>
  obtain⟨rfl,hxc⟩:=hcut
  clear hcu hcr hk10 hk11
  replace hk8:=fun W (hW:Ext wc W)=>hk8 W (hxc.trans hW)
  replace hk12:=fun W (hW:Ext wc W)=>hk12 W (hxc.trans hW)
  replace hk13:=fun W (hW:Ext wc W)=>hk13 W (hxc.trans hW)
  have hwc:=Ext.refl wc
  go_upto_region 3 with fail
  refine uR (fun X=>Ext wc X) [8] (zu.of [0,1,2,3,4,5,6,7,8,9]) ?_
  refine uQ ?_
  refine zb fun K hK=>?_
  go_simp
  have hqx:IntKind.i64.wrap ((IntKind.i64.wrap (xd:Int)).tdiv (N:Int))=(xe:Int):=by
   rw [zfV xd (by omega),Int.tdiv_eq_ediv_of_nonneg (by omega),hdv2,zfV xe (by omega)]
  rw [hqx]
  refine (CN.out _ (hxc.trans hwc.drew)).mono ?_
  rintro e w5 ⟨v',rfl,ziV,hfr5,hob5⟩
  refine hK.out _ _ ?_
  refine pT ?_
  refine uQ ?_
  refine zf ?_
  rw [show zS xs++zS R=zS (xs++(R.take 0).map (fun y=>y*N*Mp+rest)++R.drop 0) by simp [zS]] at ziV
  have hl5:(zS xs).length=m:=by rw [← Hxsl.out];simp [zS]
  rw [hl5] at ziV
  obtain⟨A5,c5,rfl⟩:=zi ziV
  have hfr:Frm (fun b=>(Value.slice Ao m c0).ownBlock=some b) w w5:=((hxc.trans hwc.drew).toFrm).trans (hfr5.mono fun _ _ h=>h)
  have hgrow:Ext w0 w5:=(hw.toFrm.trans (hfr.mono fun b hb1 hb2=>hb2)).mono (T:=fun _=>False) (fun b hb1 hb2=>by have:=hob.out b hb2;omega)
  have hobx:∀ b,(Value.slice A5 (m+R.length) c5).ownBlock=some b→(Value.slice Ao m c0).ownBlock=some b∨w.heap.size≤b:=fun b hb'=>by
   rcases hob5 with h1|⟨b',h1,h2⟩
   ·rw [h1] at hb';exact Or.inl hb'
   ·rw [h1] at hb'
    have:=Option.some.inj hb'
    have:=(hxc.trans hwc.drew).size
    exact Or.inr (by omega)
  have Hobx:=za hobx
  clear hob5 hobx hk8 hfr5 hk12 hk13 hwc
  have Hx:=za (fun (W:World) (hW:Frm (fun b=>(Value.slice Ao m c0).ownBlock=some b) w W)=>show Ext w0 W from (hw.toFrm.trans (hW.mono fun b _ h=>h)).mono (T:=fun _=>False) (fun b hb1 hb2=>by have:=hob.out b hb2;omega))
  have hmR:m+R.length≤1099511627776+4096:=by have:=hR16.out;omega
  obtain⟨Z,hZ⟩:∃ Z,Hid (m+R.length=Z):=⟨_,rfl⟩
  rw [hZ.out] at hmR ziV
  rw [hZ.out] at Hobx
  rw [hZ.out]
  go_wp2_with fail
  go_loopw [14] (fun i wr=>∃ i' j:Nat,i=.int .i64 (i':Nat)∧Hid (i'=m+j)∧j≤R.length∧wr.ownsRow base 3 1 (.slice A5 Z c5) Z (zS (xs++(R.take j).map (fun y=>y*N*Mp+rest)++R.drop j))∧Frm (fun b=>(Value.slice Ao m c0).ownBlock=some b) w wr) (fun i _=>Z - (intOf i).toNat)
  case atStart=>exact⟨m,0,rfl,rfl,Nat.zero_le _,ziV,hfr⟩
  case round =>
   clear ziV hfr hgrow
   obtain⟨i,j,rfl,hi,hj,ziJ,hfr⟩:=hrel
   by_cases hlt:j<R.length
   ·obtain⟨y,hy⟩:∃ y,Hid (R[j]?=some y):=⟨_,za (List.getElem?_eq_getElem hlt)⟩
    have hlty:=Hlt.out (y*N*Mp+rest) (by rw [hDe.out];exact List.mem_map.2 ⟨y,List.mem_of_getElem? hy.out,rfl⟩)
    have hx0:=Hx.out wr hfr
    have hiZ:i<Z:=by have:=hi.out;have:=hZ.out;omega
    obtain⟨g5,rfl⟩:∃ g,A5=some ⟨g,0,none⟩:=by
     rcases ziJ.2 with ⟨h1,h2⟩|⟨g,cap,cur,h1,_⟩
     ·injection h1;omega
     ·injection h1 with h1;exact⟨g,h1⟩
    have hmg:=za (mix_get (xs:=xs) (f:=fun y=>y*N*Mp+rest) hy.out)
    have hcy:wr.cell? ⟨g5,i,none⟩=some (.int .i64 (y:Nat)):=by
     have:=ziJ.cellAt i (by omega)
     rw [this,← hmg.out,Hxsl.out,hi.out]
    have hms:=mix_set (xs:=xs) (f:=fun y=>y*N*Mp+rest) hy.out
    rw [Hxsl.out,← hi.out] at hms
    have k12:∀ W,Ext wr W→∀ i,W.cell? ⟨g12,i,none⟩=#[Value.int .i64 (N:Nat)][i]?:=fun W hW=>Hk.out.2.2.1 W (hx0.trans hW)
    have k13:∀ W,Ext wr W→∀ i,W.cell? ⟨g13,i,none⟩=#[Value.int .i64 (Mp:Nat)][i]?:=fun W hW=>Hk.out.2.2.2.1 W (hx0.trans hW)
    have CY:∀ W,Ext wr W→W.cell? ⟨g5,i,none⟩=some (.int .i64 (y:Nat)):=fun W hW=>hW.cell_some hcy
    have hyN:y*N≤y*N*Mp:=Nat.le_mul_of_pos_right _ p1
    obtain⟨yn,hyn⟩:∃ z:Nat,Hid (y*N=z):=⟨_,rfl⟩
    have hyni:(y:Int)*(N:Int)=(yn:Int):=by rw [← hyn.out];exact (Int.natCast_mul y N).symm
    rw [hyn.out] at hlty hms hyN
    obtain⟨ym,hym⟩:∃ z:Nat,Hid (yn*Mp=z):=⟨_,rfl⟩
    have hymi:(yn:Int)*(Mp:Int)=(ym:Int):=by rw [← hym.out];exact (Int.natCast_mul yn Mp).symm
    rw [hym.out] at hlty hms hyN
    have hyr:y≤y*N:=Nat.le_mul_of_pos_right _ a1
    rw [hyn.out] at hyr
    have hiZi:(i:Int)<(Z:Int):=by omega
    have hw1:IntKind.i64.wrap (yn:Int)=(yn:Int):=zfV yn (by omega)
    have hw2:IntKind.i64.wrap (ym:Int)=(ym:Int):=zfV ym (by omega)
    have hw3:IntKind.i64.wrap ((ym:Int)+(rest:Int))=((ym+rest:Nat):Int):=by rw [← Int.natCast_add];exact zfV (ym+rest) (by omega)
    have hww:=Ext.refl wr
    clear hcy hx0
    go_upto_region 7 with fail
    refine uR (fun X=>Ext wr X) [13] (zu.of [0,1,2,3,4,5,6,7,8,9,10,11,12,13]) ?_
    refine uQ ?_
    have ziS:=zh ziJ hww.drew
    have hfr1:=hfr.ext hww.drew
    clear ziJ hfr k12 k13 CY hww
    generalize wr.drew=wd at *
    obtain⟨o0,g0⟩:=zau ziS i (by omega)
    have f0:=ziS.frozenAt i
    have hss:=ziS.stored i (.int .i64 ((ym+rest:Nat):Int))
    rw [hms] at hss
    have hown':=hss.1
    have hfr':Frm (fun b=>(Value.slice Ao m c0).ownBlock=some b) w (wd.setCell ⟨g5,i,none⟩ (.int .i64 ((ym+rest:Nat):Int))):=by
     rcases Hobx.out g5 rfl with h1|h1
     ·exact hfr1.cell (p:=⟨g5,i,none⟩) h1 _
     ·have h2:Frm (fun b=>(Value.slice Ao m c0).ownBlock=some b∨b=g5) w (wd.setCell ⟨g5,i,none⟩ (.int .i64 ((ym+rest:Nat):Int))):=(hfr1.mono fun _ _ h=>Or.inl h).trans ((Frm.setCell wd g5 i _).mono fun _ _ h=>Or.inr h)
      exact h2.mono fun b hb h=>h.elim id (fun e=>by omega)
    clear hss hms ziS
    have hi1:=za (show i+1=m+(j+1) by rw [hi.out];omega)
    refine zb fun K hK=>?_
    go_simp
    refine hK.out _ _ ?_
    refine zf ?_
    first|rw [hw3]|skip
    go_wp2_with fail
    go_roundw
    case rel=>exact⟨i+1,j+1,by go_num,hi1,by omega,hown',hfr'⟩
    case measure=>simp [intOf];omega
   ·obtain rfl:j=R.length:=by omega
    have ziM:=za (show wr.ownsRow base 3 1 (.slice A5 (xs++zbC ss a p x l).length c5) (xs++zbC ss a p x l).length (zS (xs++zbC ss a p x l)) by
     rw [hDe.out,List.length_append,List.length_map,Hxsl.out,hZ.out]
     rw [List.take_length,List.drop_length,List.append_nil] at ziJ
     exact ziJ)
    have hlen:(xs++zbC ss a p x l).length=Z:=by rw [hDe.out,List.length_append,List.length_map,Hxsl.out,hZ.out]
    have hres:=za (show RetBrk w base (.slice Ao m c0) (xs++zbC ss a p x l) (.returned (.slice A5 Z c5)) wr from ⟨A5,c5,by rw [hlen],ziM.out,hfr⟩)
    clear hlen
    have hiZi:¬ (i:Int)<(Z:Int):=by have:=hi.out;have:=hZ.out;omega
    clear ziJ
    go_wp2
    go_ret
    exact hres.out
theorem areParts_1 {lo hi:Nat} {A:Option Addr} {n c:Nat} {s:Sys} {w:World}(h:zM w lo hi A n s) :
  Calls Tryz.prog 172 #[.agg #[.int .i64 s.al,.int .i64 s.st,.slice A n c]] w fun e w'=>e=.returned (.bool (!zn s))∧Ext w w':=by
 go_enter Tryz.func172,Tryz.ntmps172
 go_wp2_with (go_at_call 108;refine (zaN (h.ext ?_)).mono ?_;exact (Ext.refl _).alloc _;rintro e w' ⟨rfl,hx⟩)
 go_ret
 exact⟨rfl,((Ext.refl _).alloc _).trans hx⟩
theorem zgs {lo hi:Nat} {A:Option Addr} {n c:Nat} {ss:List Sys} {w:World}(h:zha w lo hi A n ss) :
  Calls Tryz.prog 239 #[.slice A n c,.func (.func 172) #[] #[]] w fun e w'=>∃ r:Int,e=.returned (.int .i64 r)∧decide (0≤r)=ss.any (fun s=>!zn s) ∧ -1≤r∧Ext w w':=by
 have hn:=h.len
 have hL:=za h.1
 go_enter Tryz.func239,Tryz.ntmps239
 go_wp2
 go_loopw [8] (fun i wr=>∃ k:Nat,k≤n∧i=.int .i64 k∧Hid ((ss.take k).any (fun s=>!zn s)=false)∧Ext w wr) (fun i _=>n - (intOf i).toNat)
 case atStart=>exact⟨0,Nat.zero_le _,rfl,rfl,Ext.refl _⟩
 case round =>
  obtain⟨k,hk,rfl,hany,ziL⟩:=hrel
  by_cases hlt:k<n
  ·obtain⟨b,o,s,B,q,d,rfl,hlo,hhi,hs,c0,c1,c2,hsy⟩:=(h.ext ziL).sys hlt
   cases hb:zn s
   all_goals
    have Hb:=za hb
    clear hb
    go_wp2_with (go_at_call 172;refine (areParts_1 hsy).mono ?_;rw [Hb.out];rintro e w' ⟨rfl,hx⟩)
   ·go_ret
    exact⟨k,rfl,by rw [List.any_eq_true.2 ⟨s,List.mem_of_getElem? hs.out,by rw [Hb.out];rfl⟩];simp,by omega,ziL.trans hx⟩
   ·go_roundw
    case rel=>exact⟨k+1,by omega,by go_num,by unfold Hid;rw [List.take_add_one,hs.out,List.any_append,hany.out];simp [Hb.out],ziL.trans hx⟩
    case measure=>simp [intOf];omega
  ·obtain rfl:k=n:=by omega
   go_wp2
   go_ret
   have:=hany.out
   rw [hL.out,List.take_length] at this
   exact⟨-1,rfl,by rw [this];decide,by omega,ziL⟩
theorem zeO {lo hi:Nat} {A:Option Addr} {n c:Nat} {ss:List Sys} {w:World}(h:zha w lo hi A n ss) :
  Calls Tryz.prog 171 #[.slice A n c,.func (.func 172) #[] #[]] w fun e w'=>e=.returned (.bool (ss.any (fun s=>!zn s)))∧Ext w w':=by
 go_enter Tryz.func171,Tryz.ntmps171
 cases hb:ss.any (fun s=>!zn s)
 all_goals
  have Hb:=za hb
  clear hb
  go_wp2_with (go_at_call 239;refine (zgs h).mono ?_;rw [Hb.out];rintro e w' ⟨r,rfl,hr,hr1,hx⟩)
  go_ret
  exact⟨zj (by have hr':=hr;simp at hr';simp<;>omega),hx⟩
def zA (ss:List Sys):Bool:=decide (1≤ss.length)&&(decide (ss.length≤3)&&ss.all zn)
theorem zbF {lo hi:Nat} {A:Option Addr} {n c:Nat} {ss:List Sys} {w:World}(h:zha w lo hi A n ss) :
  Calls Tryz.prog 94 #[.slice A n c] w fun e w'=>e=.returned (.bool (zA ss))∧Ext w w':=by
 have hn:=h.len
 have hL:=za h.1
 have hA:ss.any (fun s=>!zn s)=!ss.all zn:=by rw [Bool.eq_iff_iff];simp
 have HA:=za hA
 clear hA
 by_cases h1:1≤n
 ·by_cases h3:n≤3
  ·go_enter Tryz.func94,Tryz.ntmps94
   go_wp2_with (go_at_call 171;refine (zeO h).mono ?_;rw [HA.out];rintro e w' ⟨rfl,hx⟩)
   go_ret
   exact⟨zj (by have:=hL.out;unfold zA;rw [decide_eq_true (by omega),decide_eq_true (by omega)];simp),hx⟩
  ·go_enter Tryz.func94,Tryz.ntmps94
   go_wp2
   go_ret
   exact⟨zj (by have:=hL.out;unfold zA;rw [decide_eq_false (by omega:¬ ss.length≤3)];simp),Ext.refl _⟩
 ·go_enter Tryz.func94,Tryz.ntmps94
  go_wp2
  go_ret
  exact⟨zj (by have:=hL.out;unfold zA;rw [decide_eq_false (by omega:¬ 1≤ss.length)];simp),Ext.refl _⟩
theorem zV (lo hi:Nat) (A:Option Addr) (n c:Nat) (A':Option Addr) (n' c':Nat) (a:Aut) (w:World)(h:zC w lo hi A n A' n' a) :
  Calls Tryz.prog 95 #[.agg #[.int .i64 a.al,.slice A n c,.slice A' n' c']] w fun e w'=>e=.returned (.bool (zk a))∧Ext w w':=by
 have h1:=h.n1
 have h2:=h.n2
 have Hv:=za (show zk a=(decide (0≤a.al∧a.al≤63)&&(decide (1≤n∧n≤12)&&(decide (n'=n)&&a.next.all (rowB (letters a.al.toNat 6).length n)))) by unfold zk;rw [← h1,← h2])
 have hl1:=h.1.len
 have hl2:=h.2.2.len
 clear h1 h2
 by_cases hal:0≤a.al∧a.al≤63
 ·have hd:=za (show decide (0≤a.al∧a.al≤63)=true by simp;omega)
  by_cases hn:1≤n∧n≤12
  ·have hd1:decide ((n:Int)<1)=false:=by simp;omega
   have hd2:decide (12<(n:Int))=false:=by simp;omega
   by_cases hn':n'=n
   ·subst hn'
    obtain⟨al,hal'⟩:∃ al:Nat,Hid (a.al=al):=⟨a.al.toNat,by unfold Hid;omega⟩
    have hsm:Sm al:=by have:=hal'.out;unfold Sm;omega
    have hll:=zI al 6
    rw [hal'.out]
    rw [hal'.out] at hd
    rw [hal'.out,Int.toNat_natCast] at Hv
    clear hal
    have hR:=fun W (hW:Ext w W)=>h.1.ext hW
    have HR:=za hR
    clear hR
    go_enter Tryz.func95,Tryz.ntmps95
    go_wp2_with (first
     |(go_at_call 173;refine (zR _ _).mono ?_;rw [hd.out];rintro e w' ⟨rfl,rfl⟩)
     |(go_at_call 158;refine (zY _ hsm _).mono ?_;rintro e w2 ⟨A2,c2,rfl,ziT,hext2⟩;have hbox2:=zct hext2))
    go_loopw [40] (fun i wr=>∃ k:Nat,k≤n'∧i=.int .i64 k∧Hid ((a.next.take k).all (rowB (letters al 6).length n')=true)∧Ext w2 wr)
     (fun i _=>n' - (intOf i).toNat)
    case atStart=>exact⟨0,Nat.zero_le _,rfl,rfl,Ext.refl _⟩
    case round =>
     obtain⟨k,hk,rfl,hall,ziL⟩:=hrel
     have hbox:∀ W,Ext wr W→∀ j,W.cell? ⟨w.heap.size,j,none⟩=#[Value.int .i64 al,Value.slice A n' c,Value.slice A' n' c'][j]?:=fun W hW=>zct ((hext2.trans ziL).trans hW)
     have hwr:=Ext.refl wr
     clear hbox2
     have ziM:Ext w wr:=(((Ext.refl _).alloc _).trans hext2).trans ziL
     by_cases hlt:k<n'
     ·obtain⟨ad,Ak,ck,l,rfl,hlo,hhi,hl,hcell,hrk⟩:=(HR.out wr ziM).row hlt
      by_cases hlk:l.length=(letters al 6).length
      ·obtain⟨m,hm⟩:∃ m,Hid ((letters al 6).length=m):=⟨_,rfl⟩
       have hlm:Hid (l.length=m):=by have:=hm.out;unfold Hid;omega
       rw [hm.out] at hll ⊢
       rw [hm.out] at hall Hv
       rw [hlm.out] at hcell hrk
       clear hlk
       go_wp2_with fail
       go_loop [50] (fun i=>∃ j:Nat,j≤m∧i=.int .i64 j∧Hid ((l.take j).all (fun q=>decide (0≤q∧q<n'))=true)) (fun i=>m - (intOf i).toNat)
       case atStart=>exact⟨0,Nat.zero_le _,rfl,rfl⟩
       case round =>
        obtain⟨j,hj,rfl,hallj⟩:=hrel
        by_cases hltj:j<m
        ·obtain⟨ad2,x,rfl,_,_,hx,hcell2⟩:=hrk.int hltj
         by_cases h0:x<0
         ·go_wp2
          go_ret
          exact⟨zj (by rw [Hv.out,zat hl.out (by rw [rowB,zat hx.out (by simp;omega),Bool.and_false])];simp),ziM⟩
         ·by_cases h1:(n':Int)≤x
          ·go_wp2
           go_ret
           exact⟨zj (by rw [Hv.out,zat hl.out (by rw [rowB,zat hx.out (by simp;omega),Bool.and_false])];simp),ziM⟩
          ·go_wp2
           go_round
           case rel=>exact⟨j+1,by omega,by go_num,zbZ hx.out hallj.out (by simp;omega)⟩
           case measure=>simp [intOf];omega
        ·obtain rfl:j=m:=by omega
         go_wp2
         go_roundw
         case rel=>exact⟨k+1,by omega,by go_num,zbZ hl.out hall.out (by rw [rowB,zdD (by have:=hlm.out;omega) hallj.out,hlm.out];simp),ziL⟩
         case measure=>simp [intOf];omega
      ·have hne:((l.length:Int) != ((letters al 6).length:Int))=true:=by simp;omega
       go_wp2
       go_ret
       exact⟨zj (by rw [Hv.out,zat hl.out (by simp [rowB,hlk])];simp),ziM⟩
     ·obtain rfl:k=n':=by omega
      go_wp2
      go_ret
      exact⟨zj (by rw [Hv.out,zdD (by have:=h.n1;omega) hall.out,hd.out];simp;omega),ziM⟩
   ·have hne:((n':Int) != (n:Int))=true:=by simp;omega
    go_enter Tryz.func95,Tryz.ntmps95
    go_wp2_with (go_at_call 173;refine (zR _ _).mono ?_;rw [hd.out];rintro e w' ⟨rfl,rfl⟩)
    go_ret
    exact⟨zj (by rw [Hv.out];simp [hn']),(Ext.refl _).alloc _⟩
  ·go_enter Tryz.func95,Tryz.ntmps95
   go_wp2_with (go_at_call 173;refine (zR _ _).mono ?_;rw [hd.out];rintro e w' ⟨rfl,rfl⟩)
   all_goals go_ret
   all_goals exact⟨zj (by rw [Hv.out];simp [hn]),(Ext.refl _).alloc _⟩
 ·go_enter Tryz.func95,Tryz.ntmps95
  have hd:decide (0≤a.al∧a.al≤63)=false:=by simp;omega
  go_wp2_with (go_at_call 173;refine (zR _ _).mono ?_;rw [hd];rintro e w' ⟨rfl,rfl⟩)
  go_ret
  exact⟨zj (by rw [Hv.out];simp;omega),(Ext.refl _).alloc _⟩
def zel (a:Aut):Bool:=decide (a.al=0)&&(decide (a.next.length=0)&&decide (a.acc.length=0))
theorem spec_l13None (lo hi:Nat) (A:Option Addr) (n c:Nat) (A':Option Addr) (n' c':Nat) (a:Aut) (w:World)(h:zC w lo hi A n A' n' a) :
  Calls Tryz.prog 201 #[.agg #[.int .i64 a.al,.slice A n c,.slice A' n' c']] w fun e w'=>e=.returned (.bool (zel a))∧Ext w w':=by
 have Hv:=za (show zel a=(decide (a.al=0)&&(decide (n=0)&&decide (n'=0))) by unfold zel;rw [← h.n1,← h.n2])
 have hl1:=h.1.len
 have hl2:=h.2.2.len
 clear h
 by_cases h0:a.al=0
 ·have hb:((a.al:Int)==0)=true:=by simp [h0]
  have H0:=za h0
  clear h0
  by_cases h1:n=0
  ·have hb1:((n:Int)==0)=true:=by simp [h1]
   have H1:=za h1
   clear h1
   go_enter Tryz.func201,Tryz.ntmps201
   go_wp2
   go_ret
   exact⟨zj (by rw [Hv.out,H0.out,H1.out];by_cases h2:n'=0<;>simp [h2]),(Ext.refl _).alloc _⟩
  ·have hb1:((n:Int)==0)=false:=by simp [h1]
   go_enter Tryz.func201,Tryz.ntmps201
   go_wp2
   go_ret
   exact⟨zj (by rw [Hv.out];simp [h1]),(Ext.refl _).alloc _⟩
 ·have hb:((a.al:Int)==0)=false:=by simp [h0]
  go_enter Tryz.func201,Tryz.ntmps201
  go_wp2
  go_ret
  exact⟨zj (by rw [Hv.out];simp [h0]),(Ext.refl _).alloc _⟩
def zD (ss:List Sys):Nat:=ss.foldl (fun a s=>a|||s.al.toNat) 0
theorem zcD {ss:List Sys} {k:Nat} {s:Sys}(h:ss[k]?=some s):zD (ss.take (k+1))=zD (ss.take k)|||s.al.toNat:=by
 rw [List.take_add_one,h]
 simp [zD]
theorem zN {s:Sys}(h:zn s=true):0≤s.al∧s.al≤63:=by
 simp only [zn,Bool.and_eq_true,decide_eq_true_eq] at h
 exact h.1
def zbI (ss:List Sys):Int:=if zA ss then (zD ss:Int) else -1
theorem zbJ {lo hi:Nat} {A:Option Addr} {n c:Nat} {ss:List Sys} {w:World}(h:zha w lo hi A n ss) :
  Calls Tryz.prog 207 #[.slice A n c] w fun e w'=>e=.returned (.int .i64 (zbI ss))∧Ext w w':=by
 have hn:=h.len
 have hL:=za h.1
 by_cases h1:n<1
 ·go_enter Tryz.func207,Tryz.ntmps207
  go_wp2
  go_ret
  exact⟨zG (by have:=hL.out;unfold zbI zA;rw [decide_eq_false (by omega)];simp),Ext.refl _⟩
 by_cases h3:n>3
 ·go_enter Tryz.func207,Tryz.ntmps207
  go_wp2
  go_ret
  exact⟨zG (by have:=hL.out;unfold zbI zA;rw [decide_eq_false (by omega:¬ ss.length≤3)];simp),Ext.refl _⟩
 go_enter Tryz.func207,Tryz.ntmps207
 go_wp2
 go_loopw [3,4] (fun v i wr=>∃ k:Nat,k≤n∧i=.int .i64 k∧∃ u:Nat,v=.int .i64 u∧u≤63∧Hid (u=zD (ss.take k))∧Hid ((ss.take k).all zn=true)∧Ext w wr) (fun _ i _=>n - (intOf i).toNat)
 case atStart=>exact⟨0,Nat.zero_le _,rfl,0,rfl,by omega,rfl,rfl,Ext.refl _⟩
 case round =>
  obtain⟨k,hk,rfl,u,rfl,hu,huA,hall,ziL⟩:=hrel
  by_cases hlt:k<n
  ·obtain⟨b,o,s,B,q,d,rfl,hlo,hhi,hs,c0,c1,c2,hsy⟩:=(h.ext ziL).sys hlt
   cases hb:zn s
   ·have Hb:=za hb
    clear hb
    go_wp2_with (go_at_call 199;refine (zax hsy).mono ?_;rw [Hb.out];rintro e w' ⟨rfl,hx⟩)
    go_ret
    exact⟨zG (by unfold zbI;rw [if_neg];unfold zA;simp;intro _ _;exact⟨s,List.mem_of_getElem? hs.out,Hb.out⟩),ziL.trans hx⟩
   ·obtain⟨ha0,ha1⟩:=zN hb
    have Hb:=za hb
    clear hb
    have Hu:=za (zcD hs.out)
    have Ho:=za (zbR (a:=u) (b:=s.al.toNat) (by unfold Sm;omega) (by unfold Sm;omega))
    have Hc:=za (show ((s.al.toNat:Nat):Int)=s.al by omega)
    go_wp2_with (go_at_call 199;refine (zax hsy).mono ?_;rw [Hb.out];rintro e w' ⟨rfl,hx⟩;have c0':=hx.cell_some c0)
    go_roundw
    case rel=>exact⟨k+1,by omega,by go_num,u|||s.al.toNat,by have:=Ho.out;rw [Hc.out] at this;rw [← this],by have:=Nat.or_lt_two_pow (n:=6) (x:=u) (y:=s.al.toNat) (by omega) (by omega);omega,by unfold Hid;rw [Hu.out,huA.out],by unfold Hid;rw [List.take_add_one,hs.out,List.all_append,hall.out];simp [Hb.out],ziL.trans hx⟩
    case measure=>simp [intOf];omega
  ·obtain rfl:k=n:=by omega
   go_wp2
   go_ret
   exact⟨zG (by have:=hL.out;have h1:=huA.out;have h2:=hall.out;rw [this,List.take_length] at h1 h2;unfold zbI zA;rw [decide_eq_true (by omega),decide_eq_true (by omega),h2,h1];rfl),ziL⟩
theorem zcH {lo hi:Nat} {A:Option Addr} {n c:Nat} {ss:List Sys} {w:World}(h:zha w lo hi A n ss) :
  Calls Tryz.prog 104 #[.slice A n c] w fun e w'=>e=.returned (.int .i64 (zbI ss))∧Ext w w':=by
 have hn:=h.len
 have hL:=za h.1
 have HS:=za (fun W (hW:Ext w W)=>h.ext hW)
 clear h
 cases hp:zA ss
 ·have Hp:=za hp
  have hr:=za (show zbI ss = -1 by unfold zbI;rw [hp];rfl)
  clear hp
  go_enter Tryz.func104,Tryz.ntmps104
  go_wp2_with (go_at_call 94;refine (zbF (HS.out _ (Ext.refl _))).mono ?_;rw [Hp.out];rintro e w1 ⟨rfl,hx⟩)
  go_ret
  exact⟨zG (by rw [hr.out]),hx⟩
 ·have Hp:=za hp
  have hr:=za (show zbI ss=(zD ss:Int) by unfold zbI;rw [hp];rfl)
  have hv:=za (show ∀ s∈ss,zn s=true by
   unfold zA at hp
   simp only [Bool.and_eq_true,List.all_eq_true] at hp
   exact hp.2.2)
  clear hp
  go_enter Tryz.func104,Tryz.ntmps104
  go_wp2_with (go_at_call 94;refine (zbF (HS.out _ (Ext.refl _))).mono ?_;rw [Hp.out];rintro e w1 ⟨rfl,hx⟩)
  go_loopw [3,5,11] (fun v _ i wr=>∃ k u:Nat,k≤n∧i=.int .i64 k∧v=.int .i64 u∧u≤63∧Hid (u=zD (ss.take k))∧Ext w wr) (fun _ _ i _=>n - (intOf i).toNat)
  case atStart=>exact⟨0,0,Nat.zero_le _,rfl,rfl,by omega,rfl,hx⟩
  case round =>
   clear hx
   obtain⟨k,u,hk,rfl,rfl,hu,huA,hx⟩:=hrel
   by_cases hlt:k<n
   ·obtain⟨b,o,s,B,q,d,rfl,_,_,hs,c0,c1,c2,_⟩:=(HS.out wr hx).sys hlt
    obtain⟨ha0,ha1⟩:=zN (hv.out s (List.mem_of_getElem? hs.out))
    obtain⟨al,hal⟩:∃ al:Nat,Hid (s.al=al):=⟨s.al.toNat,by unfold Hid;omega⟩
    rw [hal.out] at c0 ha0 ha1
    have Hu:=za (show zD (ss.take (k+1))=u|||al by rw [zcD hs.out,hal.out,Int.toNat_natCast,huA.out])
    have Ho:=za (zbR (a:=u) (b:=al) (by unfold Sm;omega) (by unfold Sm;omega))
    have hlt2:u|||al≤63:=by have:=Nat.or_lt_two_pow (n:=6) (x:=u) (y:=al) (by omega) (by omega);omega
    have ho:=Ho.out
    clear huA
    go_wp2_with fail
    go_roundw
    case rel=>exact⟨k+1,u|||al,by omega,by go_num,by first|rfl|rw [Ho.out],hlt2,Hu.out.symm,by first|exact hx.alloc _|exact (hx.alloc _).drew⟩
    case measure=>simp [intOf];omega
   ·obtain rfl:n=k:=by omega
    have ziM:=za (show zbI ss=(u:Int) by rw [hr.out,huA.out,List.take_of_length_le (by have:=hL.out;omega)])
    go_wp2
    go_ret
    exact⟨zG (by rw [ziM.out]),hx⟩
end Go.Proofs.YtcfchopfijalpaaGreatDoor
