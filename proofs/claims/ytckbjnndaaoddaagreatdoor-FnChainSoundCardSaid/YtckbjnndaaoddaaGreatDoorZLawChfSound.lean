/- The law FnCh -/
import Derived.Test.YtckbjnndaaoddaaGreatDoorF14
set_option maxHeartbeats 4000000
set_option maxRecDepth 100000
namespace Go.Proofs.YtckbjnndaaoddaaGreatDoor
open Go Go.RowKit
theorem law_ChainSound {A0:Option Addr} {n0 c0:Nat} {w:World}(h:Bytes w A0 n0)(hn:n0<=9223372036854775807)(hc:n0<=c0)(hc2:c0<=9223372036854775807)(hT:Tab w) :
  Calls Tryz.prog 6 #[.slice A0 n0 c0] w fun e w'=>e=.returned (.bool true)∧Ext w w':=by
 have Hh:=za h;have HT:=za (fun W (hW:Ext w W)=>hT.ext hW);clear h hT
 by_cases hbig:1048576<n0
 ·have o:(1048576:Int)<(n0:Int):=oM
  go_enter Tryz.func6,Tryz.ntmps6
  go_wp2;go_ret;exact⟨rfl,Ext.refl _⟩
 have o:(n0:Int)<=1048576:=oM;clear hbig
 go_enter Tryz.func6,Tryz.ntmps6
 go_upto_region 4 with (first
  |(go_at_call 21;refine (spec_DrawChainFault Hh.out hn hc hc2).mono ?_;rintro e i ⟨l,k,g,c,p,A,n,x,L,Z,y,f,B,m,d,M,Y,E,u,C,q,F,O,q',j,hl,hk,an,rfl,t,⟨hp,hf,hu⟩,am,-,v⟩))
 clear o hn hc hc2;obtain⟨I,X⟩:∃ I,Hid (l.map Ent.s=I):=⟨_,rfl⟩;rw [X.out] at t;have T:=za (fun W (hW:Ext i W)=>t.ext hW);have R:=za (fun W (hW:Ext i W)=>hp.ext hW);have HF:=za (fun W (hW:Ext i W)=>hf.ext hW);have HU:=za (fun W (hW:Ext i W)=>hu.ext hW);have D:=za (fun W (hW:Ext i W)=>HT.out W (v.trans hW));have a:Ext i ((i.alloc (.cells #[p.al,.slice A n x,.slice L Z y] 27)).alloc (.cells #[f.al,.slice B m d,.slice M Y E,u.al,.slice C q F,.slice O q' j] 31)):=((Ext.refl _).alloc _).alloc _;obtain⟨U,V⟩:=zS (Ext.refl ((i.alloc (.cells #[p.al,.slice A n x,.slice L Z y] 27)).alloc (.cells #[f.al,.slice B m d,.slice M Y E,u.al,.slice C q F,.slice O q' j] 31)));clear t hp hf hu Hh HT;obtain⟨w2,H⟩:∃ w2,w2=(i.alloc (.cells #[p.al,.slice A n x,.slice L Z y] 27)).alloc (.cells #[f.al,.slice B m d,.slice M Y E,u.al,.slice C q F,.slice O q' j] 31):=⟨_,rfl⟩;rw [← H] at a U V ⊢;clear H;generalize i.heap.size=G at *;have cP:=U.cells;have cC:=V.cells;have r:=Ext.refl w2;clear U V;have Q:=za (fun W (hW:Ext i W)=>impl_ChainFault (c:=c) (d1:=x) (d1':=y) (d2:=d) (d2':=E) (d3:=F) (d3':=j) (T.out _ hW) (R.out _ hW) (HF.out _ hW) (HU.out _ hW) (D.out _ hW));have S:=za (fun W (hW:Ext i W)=>spec_ChainFault (c:=c) (d1:=x) (d1':=y) (d2:=d) (d2':=E) (d3:=F) (d3':=j) (T.out _ hW) (R.out _ hW) (HF.out _ hW) (HU.out _ hW))
 by_cases b:zaC I p f u=0
 case neg =>
  have z0:(zaC I p f u != 0)=true:=by simpa using b
  generalize zaC I p f u=z at *;clear b;go_wp2_with (first
   |(go_at_call 22;with_reducible refine (Q.out _ a).mono (mQ fun J b=>?_);replace a:=a.trans b;replace r:=r.trans b;clear b)
   |(go_at_call 24;with_reducible refine (S.out _ a).mono (mQ fun J b=>?_);replace a:=a.trans b;replace r:=r.trans b;clear b))
  go_ret;exact⟨zl sM,v.trans a⟩
 case pos =>
  have HL:=za (fun W (hW:Ext i W)=>zgu (c:=c) (d2:=x) (d2':=y) (T.out _ hW) (R.out _ hW) (D.out _ hW));rw [(chain_sound b).1] at HL;rw [b] at Q S;clear b;go_wp2_with (first
   |(go_at_call 22;with_reducible refine (Q.out _ a).mono (mQ fun J b=>?_);replace a:=a.trans b;replace r:=r.trans b;clear b)
   |(go_at_call 24;with_reducible refine (S.out _ a).mono (mQ fun J b=>?_);replace a:=a.trans b;replace r:=r.trans b;clear b)
   |(go_at_call 28;with_reducible refine (HL.out _ a).mono (mQ fun J b=>?_);replace a:=a.trans b;replace r:=r.trans b;clear b))
  go_ret;exact⟨zl sM,v.trans a⟩
end Go.Proofs.YtckbjnndaaoddaaGreatDoor
