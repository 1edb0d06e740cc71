/- The law FnCh -/
import Derived.Test.YtckbjnndaaoddaaGreatDoorF14
set_option maxHeartbeats 4000000
set_option maxRecDepth 100000
namespace Go.Proofs.YtckbjnndaaoddaaGreatDoor
open Go Go.RowKit
open Ext renaming refl->cY
theorem law_ChainLinks {A0:Option Addr} {n0 c0:Nat} {w:World}(h:Bytes w A0 n0)(hn:n0<=9223372036854775807)(hc:n0<=c0)(hc2:c0<=9223372036854775807)(hT:Tab w) :
  Calls Tryz.prog 7 #[.slice A0 n0 c0] w fun e w'=>e=.returned (.bool true)∧Ext w w':=by
 have Hh:=za h;have HT:=za (fun W (hW:Ext w W)=>hT.ext hW);clear h hT
 by_cases hbig:1048576<n0
 ·have r:(1048576:Int)<(n0:Int):=oM
  go_enter Tryz.func7,Tryz.ntmps7
  go_wp2;go_ret;exact⟨rfl,cY _⟩
 have r:(n0:Int)<=1048576:=oM;clear hbig
 go_enter Tryz.func7,Tryz.ntmps7
 go_upto_region 4 with (first
  |(go_at_call 21;refine (spec_DrawChainFault Hh.out hn hc hc2).mono ?_;rintro e b ⟨l,k,g,c,p,A,n,M,A',n',c2,f,B,m,d,B',m',E,u,C,q,I,C',q',o,hl,hk,a2,rfl,F,⟨hp,hf,hu⟩,a0,-,H⟩))
 clear r hn hc hc2;obtain⟨ss,ao⟩:∃ ss,Hid (l.map Ent.s=ss):=⟨_,rfl⟩;rw [ao.out] at F;have v:=za (fun W (hW:Ext b W)=>F.ext hW);have HP:=za (fun W (hW:Ext b W)=>hp.ext hW);have HF:=za (fun W (hW:Ext b W)=>hf.ext hW);have HU:=za (fun W (hW:Ext b W)=>hu.ext hW);have D:=za (fun W (hW:Ext b W)=>HT.out W (H.trans hW));have a:Ext b ((b.alloc (.cells #[p.al,.slice A n M,.slice A' n' c2] 27)).alloc (.cells #[f.al,.slice B m d,.slice B' m' E,u.al,.slice C q I,.slice C' q' o] 31)):=((cY _).alloc _).alloc _;obtain⟨b1,b2⟩:=zS (cY ((b.alloc (.cells #[p.al,.slice A n M,.slice A' n' c2] 27)).alloc (.cells #[f.al,.slice B m d,.slice B' m' E,u.al,.slice C q I,.slice C' q' o] 31)));clear F hp hf hu Hh HT;obtain⟨J,T⟩:∃ J,J=(b.alloc (.cells #[p.al,.slice A n M,.slice A' n' c2] 27)).alloc (.cells #[f.al,.slice B m d,.slice B' m' E,u.al,.slice C q I,.slice C' q' o] 31):=⟨_,rfl⟩;rw [← T] at a b1 b2 ⊢;clear T;generalize b.heap.size=G at *;have cP:=b1.cells;have cC:=b2.cells;have t:=cY J;clear b1 b2;have HI:=za (fun W (hW:Ext b W)=>impl_ChainFault (c:=c) (d1:=M) (d1':=c2) (d2:=d) (d2':=E) (d3:=I) (d3':=o) (v.out _ hW) (HP.out _ hW) (HF.out _ hW) (HU.out _ hW) (D.out _ hW));have HR:=za (fun W (hW:Ext b W)=>spec_ChainFault (c:=c) (d1:=M) (d1':=c2) (d2:=d) (d2':=E) (d3:=I) (d3':=o) (v.out _ hW) (HP.out _ hW) (HF.out _ hW) (HU.out _ hW))
 by_cases i:zaC ss p f u=0
 case neg =>
  have z0:(zaC ss p f u != 0)=true:=by simpa using i
  generalize zaC ss p f u=z at *;clear i;go_wp2_with (first
   |(go_at_call 22;with_reducible refine (HI.out _ a).mono (mQ fun L i=>?_);replace a:=a.trans i;replace t:=t.trans i;clear i)
   |(go_at_call 24;with_reducible refine (HR.out _ a).mono (mQ fun L i=>?_);replace a:=a.trans i;replace t:=t.trans i;clear i))
  go_ret;exact⟨zl sM,H.trans a⟩
 case pos =>
  obtain⟨x,y,z,V,R,Q⟩:=(chain_sound i).2;subst V;obtain rfl:k=3:=(v.out b (cY _)).1;obtain⟨Bx,au,cx,q0,q1,q2,U⟩:=(v.out b (cY _)).ar (k:=0) (s:=x) rfl;obtain⟨By,ny,cy,r0,r1,r2,Z⟩:=(v.out b (cY _)).ar (k:=1) (s:=y) rfl;obtain⟨Bz,nz,cz,s0,s1,s2,aa⟩:=(v.out b (cY _)).ar (k:=2) (s:=z) rfl;have aZ:∀ W,Ext J W->W.cell? g=some (.int .i64 x.al)∧W.cell? ⟨g,1,none⟩=some (.int .i64 x.st)∧W.cell? ⟨g,2,none⟩=some (.slice Bx au cx)∧W.cell? ⟨g,3,none⟩=some (.int .i64 y.al)∧W.cell? ⟨g,4,none⟩=some (.int .i64 y.st)∧W.cell? ⟨g,5,none⟩=some (.slice By ny cy)∧W.cell? ⟨g,6,none⟩=some (.int .i64 z.al)∧W.cell? ⟨g,7,none⟩=some (.int .i64 z.st)∧W.cell? ⟨g,8,none⟩=some (.slice Bz nz cz):=fun W hW=>by
   have j:=a.trans hW;exact⟨j.aa (by simpa using q0),j.aa (by simpa using q1),j.aa (by simpa using q2),j.aa (by simpa using r0),j.aa (by simpa using r1),j.aa (by simpa using r2),j.aa (by simpa using s0),j.aa (by simpa using s1),j.aa (by simpa using s2)⟩
  clear q0 q1 q2 r0 r1 r2 s0 s1 s2;have HX:=za (fun W (hW:Ext b W)=>U.ext hW);have HY:=za (fun W (hW:Ext b W)=>Z.ext hW);have HZ:=za (fun W (hW:Ext b W)=>aa.ext hW);clear U Z aa;rw [i] at HI HR;have S:zat (List.tail [x,y,z]) f=true:=R;have HL:=za (fun W (hW:Ext b W) (cc:Nat)=>zgu (c:=cc) (d2:=d) (d2':=E) ((v.out _ hW).tail) (HF.out _ hW) (D.out _ hW));rw [S] at HL;have HA:=za (fun W (hW:Ext b W)=>impl_AssumptionFault (c:=cy) (d1:=d) (d1':=E) (c2:=cz) (d2:=I) (d2':=o) (HY.out _ hW) (HZ.out _ hW) (HF.out _ hW) (HU.out _ hW) (D.out _ hW));rw [Q] at HA;clear i R S Q hk;have aF:(3:Int)<=(c:Int):=oM;have aD:¬ c=1:=oM;go_upto_region 7 with (first
   |(go_at_call 22;with_reducible refine (HI.out _ a).mono (mQ fun L i=>?_);replace a:=a.trans i;replace t:=t.trans i;clear i)
   |(go_at_call 24;with_reducible refine (HR.out _ a).mono (mQ fun L i=>?_);replace a:=a.trans i;replace t:=t.trans i;clear i))
  have O:Ext b L.drew:=a.drew;have an:Ext J L.drew:=t.drew;refine uR (fun X=>Ext J X) [16] (zv.of [0,1,2,3,4,5,6,7,8,9,10,11,12,13,14,15,16,17,18,19]) ?_;refine uQ ?_;generalize L.drew=wd at *;refine zd fun K hK=>?_;go_simp
  with_reducible refine (HL.out _ O _).mono ?_
  rintro e wy ⟨rfl,hy⟩;have ap:=an.trans hy;have Y:=O.trans hy;refine hK.out _ _ ap ?_;refine pT ?_;refine uQ ?_;refine zb fun K hK=>?_;go_simp;refine (HA.out _ Y).mono (mQ fun wx hx=>?_);refine hK.out _ _ ?_;refine pT ?_;refine uQ ?_;refine ze ?_;go_wp2_with fail
  go_ret;exact⟨zl sM,H.trans (Y.trans hx)⟩
end Go.Proofs.YtckbjnndaaoddaaGreatDoor
