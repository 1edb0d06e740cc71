/- impl.minimiz -/
import Derived.Test.YtckbjnndaaoddaaGreatDoorW17
set_option maxHeartbeats 4000000
set_option maxRecDepth 100000
namespace Go.Proofs.YtckbjnndaaoddaaGreatDoor
open Go Go.RowKit
open Ext renaming refl->cY
open List renaming getD_eq_getElem?_getD->dE,getElem?_map->dO,length_map->dQ,take_add_one->dN,take_of_length_le->dJ
open Nat renaming zero_le->dF
open Option renaming isSome->jE,none->fV,some->fU
open Bool renaming false->j1
open Go renaming World->jX
open Go.Ending renaming returned->j5
open Go.IntKind renaming i64->iX
open Go.Value renaming agg->j2,slice->fC
open _root_.Go.Proofs.Tryz renaming prog->j3
variable {w:jX}
structure MinR (N:Nat) (a t:Aut):Prop where
 fit:Fit N t
 al:t.al=a.al
 acc:∀ v:List Nat,(∀ l∈v,l<6)->zat t (zal t 0 v)=zat a (zal a 0 v)
def RetMin (w:jX) (N:Nat) (a:Aut) (e:Ending) (w':jX):Prop:=
 ∃ (t:Aut) (A:Option Addr) (n c:Nat) (A':Option Addr) (n' c':Nat),e=j5 (j2 #[t.al,fC A n c,fC A' n' c'])/\zac w' w.heap.size A n c A' n' c' t/\MinR N a t/\Ext w w'
def zfq (a:Aut) (cs:List Nat) (q:Nat):List Int:=(a.next.getD q []).map fun x=>(fnL cs x.toNat:Int)
theorem quoA_eq (a:Aut) (cs rs:List Nat):quoA a (fnL cs) rs=⟨a.al,rs.map (zfq a cs),rs.map (zat a)⟩:=rfl
theorem zjA {lo hi N:Nat}{B:Option Addr}{m d:Nat}{B':Option Addr}{m' d':Nat}{a:Aut}(h:zJ w lo hi B m B' m' a)(hv:Fit N a)(hN:N<=99) :
  Calls j3 101 #[j2 #[a.al,fC B m d,fC B' m' d']] w (RetMin w N a):=by
 obtain⟨-,⟨n1,bM⟩,ah,R⟩:=hv.row;have Hn:=za h.n1;have bp:=za (show m'=m by rw [h.n1,h.n2,ah]);have HA:=za (fun W (hW:Ext w W)=>h.ext hW);have aQ:=za R;have Hv:=za hv;have bW:m<=99:=by rw [h.n1];omega
 have h6:=zA a.al.toNat 6;have HN:=za hN;clear R h n1 bM hv hN ah
 go_enter Tryz.func101,Tryz.ntmps101
 go_upto_region 1 with fail
 generalize U0:(w.alloc _).alloc _=w0 at *;obtain⟨a5,b1,b2⟩:=Ext.x2_ U0;clear U0;have k1:=b1.cell;go_upto_region 2 with (go_at_call 192;refine (zio (HA.out _ a5) Hv.out HN.out).mono ?_;rintro e C ⟨s,g,rfl,aG,hC,af⟩)
 rw [<- Hn.out] at aG ⊢;have HC:=za hC;have B1:=za (b1.ext af);have B2:=za (b2.ext af);have U:=za (a5.trans af);have ba:=za aG;clear k1 b1 b2 af hC aG;have k1:=B1.out.cell;go_upto_region 3 with fail
 have bG:=Blk.new C 27 #[a.al,(),()];have aB:=(cY C).alloc (.cells #[a.al,(),()] 27);obtain⟨G,hG⟩:∃ G,Hid (G=C.heap.size):=⟨_,rfl⟩;rw [<- hG.out] at bG ⊢;have ai:=za (gra_first (S:=fun _=>False) aB bG (oH hG.out) id);have ao:=za aB;clear k1 aB bG;generalize C.alloc _=w2 at *;have aa:=za (show FO (fnL s) m by rw [Hn.out];exact HC.out.fo);have bY:w.heap.size+1<C.heap.size:=B2.out.lt;go_wp2_with fail
 go_loopw [5,6,7,9,17] (fun _ _ _ _ iv wr=>∃ (i:Nat) (v vA:Value) (l:List Nat),iv=.int iX i/\i<=m/\Hid (RepI (fnL s) i l)/\Hid (zfm wr (fun _=>False) C.heap.size wr.heap.size G a.al v (l.map (zfq a s)) vA (l.map (zat a)))/\Hid (Ext C wr)) (fun _ _ _ _ iv _=>m - (intOf iv).toNat)
 case atStart=>exact⟨0,_,_,[],rfl,dF _,za RepI.zero,za (ai.out.reN),ao⟩
 case round =>
  clear ai ao;obtain⟨i,v,vA,l,rfl,hi,hR,z,T⟩:=hrel;have cg:l.length<=i:=by rw [hR.out.len];exact ziF aa.out hi
  by_cases hlt:i<m
  ·have bV:(i:Int)<(m:Int):=oM;have aU:wr.cell? ⟨g,i,fV⟩=fU (.int iX (fnL s i:Nat)):=by
    rw [(zi ba.out T.out).cellAt i oM];unfold zag;rw [dO,ziJ (by rw [HC.out.len,<- Hn.out];exact hlt)];rfl
   obtain⟨f,r1,r2,r3⟩:∃ f,wr.ownsRow C.heap.size 110 1 v (l.map (zfq a s)).length f/\zB wr C.heap.size f (l.map (zfq a s))/\∀ (j:Nat) (r:Value) (b:Nat),f[j]?=fU r->r.ownBlock=fU b->¬ False/\b<wr.heap.size:=by
    obtain⟨wb,H,-,f,h⟩:=z.out.gra;exact⟨f,h⟩
   obtain⟨Av,cv,rfl⟩:=zh r1;rw [dQ] at r1;have kG:=z.out.blk.cell;rw [dQ] at kG;have ar:=za z.out;rw [dQ] at ar;clear r1 r2 r3 z;obtain⟨x,aD⟩:∃ x,Hid (fnL s i=x):=⟨_,rfl⟩;rw [aD.out] at aU
   by_cases hsk:x<l.length
   ·have a1:(x:Int)<(l.length:Int):=oM;have ax:=za (hR.out.skip (by rw [aD.out];exact hsk) aa.out hlt);go_wp2_with fail
    go_roundw
    case rel=>exact⟨i+1,_,_,l,gM,oM,ax,ar,T⟩
    case measure=>exact uM
   ·have a1:¬ (x:Int)<(l.length:Int):=oM;have ax:=za (hR.out.push (by rw [aD.out];exact hsk) aa.out hlt);have Z:=za (HA.out wr (U.out.trans T.out));obtain⟨ad,Ak,ck,o,rfl,_,_,an,bA,aZ⟩:=Z.out.1.row hlt;obtain⟨bH,aY⟩:=aQ.out i o an.out;have bn:=za aY;have bX:o.length<=6:=oM;have bo:=za (fun W (hW:Ext wr W)=>aZ.ext hW);have bI:=za (show zfq a s i=o.map fun x=>(fnL s x.toNat:Int) by unfold zfq;rw [dE,an.out];rfl);have k1:=(B1.out.ext T.out).cell;clear aZ bH aY;obtain⟨wo,bJ⟩:∃ wo,wo=wr:=⟨_,rfl⟩;subst bJ;go_upto_region 9 with fail
    go_wp2_with fail
    go_loopw [7,9,33] (fun v7 _ jv wr=>∃ j:Nat,jv=.int iX j/\j<=o.length/\Hid (wr.ownsRow wo.heap.size 3 1 v7 j (ints ((o.map fun x=>(fnL s x.toNat:Int)).take j)))/\Hid (Ext wo wr)) (fun _ _ jv _=>o.length - (intOf jv).toNat)
    case atStart=>exact⟨0,rfl,dF _,za (World.ownsRow_nil _ _ _ _),za (cY _)⟩
    case round =>
     clear aU kG k1 bA;obtain⟨j,rfl,hj,Q,I⟩:=hrel;obtain⟨A7,c7,rfl⟩:=zh Q.out
     by_cases hjl:j<o.length
     ·have bU:(j:Int)<(o.length:Int):=oM;obtain⟨b7,y0,rfl,_,_,a7,cd⟩:=(bo.out wr I.out).int hjl;obtain⟨y1,y2⟩:=bn.out y0 (List.mem_of_getElem? a7.out);obtain⟨y,rfl⟩:∃ y:Nat,y0=y:=⟨y0.toNat,oM⟩;have bL:y<m:=oH Hn.out;have bZ:(y:Int)<(m:Int):=oM;have cy:wr.cell? ⟨g,y,fV⟩=fU (.int iX (fnL s y:Nat)):=by
       rw [(zi ba.out (T.out.trans I.out)).cellAt y oM];unfold zag;rw [dO,ziJ (by rw [HC.out.len,<- Hn.out];exact bL)];rfl
      have ae:=za (show ints ((o.map fun x=>(fnL s x.toNat:Int)).take (j+1))=ints ((o.map fun x=>(fnL s x.toNat:Int)).take j)++[.int iX (fnL s y:Nat)] by
       rw [dN,dO,a7.out,ints,ints,List.map_append];rfl)
      clear y1 y2;go_wp2_with (at_builtin;refine zI wo wr rfl _ _ _ rfl 3 _ 1 8 Tryz.underlying110 zS rfl dM (fC A7 j c7) j _ _ _ rfl rfl I.out.size Q.out rfl (zaL _) lM oM ?_;intro g9 cap9 w9 hown9 hg9 hat9 hlt9)
      have a0:=za (show w9.ownsRow wo.heap.size 3 1 (fC (fU g9) (j+1) cap9) (j+1) (ints ((o.map fun x=>(fnL s x.toNat:Int)).take (j+1))) by rw [ae.out];exact hown9);have aA:=za (I.out.grown hg9 (fun k hk=>(Q.out.lt k hk).1));go_roundw
      case rel=>exact⟨j+1,gM,oM,a0,aA⟩
      case measure=>exact uM
     ·obtain rfl:j=o.length:=oM;have am:=za (show wr.ownsRow wo.heap.size 3 1 (fC A7 o.length c7) (zfq a s i).length (ints (zfq a s i)) by
       have:=Q.out;rw [dJ sM] at this;rw [bI.out,dQ];exact this)
      have F:=za (ar.out.ext I.out);obtain⟨f,r1,r2,r3⟩:∃ f,wr.ownsRow C.heap.size 110 1 (fC Av l.length cv) (l.map (zfq a s)).length f/\zB wr C.heap.size f (l.map (zfq a s))/\∀ (j:Nat) (r:Value) (b:Nat),f[j]?=fU r->r.ownBlock=fU b->¬ False/\b<wo.heap.size:=by
       obtain⟨wb,H,-,f,h⟩:=F.out.gra;exact⟨f,h⟩
      have au:=za r1;have aO:=za r2;have aP:=za r3;have kG:=F.out.blk.cell;have aC:=za (T.out.trans I.out);have a3:=T.out.size;have a2:C.heap.size<=wr.heap.size:=aC.out.size;have ce:(l.map (zfq a s)).length<=99:=by rw [dQ];omega
      have J:=za r1;rw [dQ] at J;have bF:=za (fun (b:Nat) (_:(fC A7 o.length c7).ownBlock=fU b) (h:False)=>h);have bE:=za (show (l.map (zfq a s)).length=l.length from dQ _);have bD:=za (show (l.map (zat a)).length=l.length from dQ _);clear r1 r2 r3;go_upto_region 14 with (at_builtin;refine zI C wr rfl _ _ _ rfl 110 _ 1 24 Tryz.underlying24 zbp rfl dM (fC Av l.length cv) l.length f _ _ rfl rfl a2 J.out rfl (zaG _ _ _) lM oM ?_;intro g7 cap7 w7 hown7 hg7 hat7 hlt7;rw [<- bE.out] at hown7;obtain⟨av,L⟩:=F.out.push au.out aO.out aP.out a3 am.out bF.out (fun _ _ h=>h) hown7 hg7 hat7;have k7:=av.cell;have f7:=av.frozen;rw [dQ] at L)
      have az:=za ((aC.out.grown hg7 (fun k hk=>(au.out.lt k hk).1)).setCell (p:=⟨G,1,fV⟩) (by have:=hG.out;show C.heap.size<=G;omega) (fC (fU g7) (l.length+1) cap7));have E:=za L;clear hown7 hg7 hat7 av L k7 f7 kG au aO aP am Q F aC J;generalize w7.setCell ⟨G,1,fV⟩ (fC (fU g7) (l.length+1) cap7)=w8 at *;have aX:i<m':=oH bp.out;have bC:(i:Int)<(m':Int):=oM;obtain⟨aR,bb,rfl,-,-,hb,cb⟩:=(HA.out w8 (U.out.trans az.out)).2.2.bool aX;have bx:=za (show zat a i=bb by unfold zat;rw [dE,hb.out];rfl);have KB:∀ W,Ext w8 W->W.cell? (aR.add i)=fU (.bool bb):=fun W hW=>hW.aa cb;have KA:∀ W,Ext w8 W->∀ q,W.cell? ⟨w.heap.size,q,fV⟩=#[Value.int iX a.al,fC (fU ad) m d,fC (fU aR) m' d'][q]?:=fun W hW=>((B1.out.ext az.out).ext hW).cell;obtain⟨wb,H,ab,-⟩:=E.out.gra;have u:=ab.acc;rw [H,dQ] at u;obtain⟨AA,cA,rfl⟩:=zh u;have KG:=fun W (hW:Ext w8 W)=>(E.out.blk.ext hW).cell;have a4:=cY w8;clear cb hb ab H;refine uR (fun X=>Ext w8 X) [8,10] (zy.of [0,1,2,3,4,5,6,7,8,9,10]) ?_;refine uQ ?_;have V:=a4.drew;have aj:=za (E.out.ext V);have D:=zi u V;have ap:=za (az.out.trans V);clear KB KA KG a4 E u;generalize w8.drew=wd at *;refine ze fun K hK=>?_;go_simp;refine hK.out _ _ (V.alloc _) ?_;refine pT ?_;refine zb fun K hK=>?_;refine zaC C wd _ _ _ rfl 4 _ 1 1 Tryz.underlying25 zaJ rfl dM (fC AA l.length cA) l.length (zY (l.map (zat a))) _ _ rfl rfl ap.out.size D rfl (by simp [Value.oneCell']) lM oM ?_;intro g8 cap8 w9 hown8 hg8 hat8 hlt8;refine hK.out _ _ ?_;refine pT ?_;rw [<- bD.out] at hown8;obtain⟨aw,M⟩:=aj.out.pushA (x:=bb) (fun _ _ h=>h) hown8 hg8 hat8;rw [dQ] at M;have k8:=aw.cell;have f8:=aw.frozen;have aA:=za ((ap.out.grown hg8 (fun k hk=>(D.lt k hk).1)).setCell (p:=⟨G,2,fV⟩) (by have:=hG.out;show C.heap.size<=G;omega) (fC (fU g8) (l.length+1) cap8));have ak:=za M.reN;have O:=za (show l.map (zfq a s)++[zfq a s i]=(l++[i]).map (zfq a s)/\l.map (zat a)++[bb]=(l++[i]).map (zat a) from ⟨sM,by simp [bx.out]⟩);rw [O.out.1,O.out.2] at ak;clear hown8 hg8 hat8 D V aj M aw;refine uQ ?_;refine zb fun K hK=>?_;go_simp;refine hK.out _ _ ?_;refine zg ?_;clear k8 f8;go_wp2_with fail
      go_roundw
      case rel=>exact⟨i+1,_,_,l++[i],gM,oM,ax,ak,aA⟩
      case measure=>exact uM
  ·obtain rfl:m=i:=oM;have ae:=za (HC.out.stb Hv.out (by rw [<- Hn.out];exact hR.out));have aV:=za (hR.out.few aa.out);have aW:=za (ae.out.fit Hv.out (by rw [<- Hn.out];exact aV.out) (fun r hr=>by rw [<- Hn.out];exact hR.out.lt r hr));obtain⟨Av,cv,rfl⟩:∃ Av cv,v=fC Av l.length cv:=by
    obtain⟨wb,H,-,f,h,-⟩:=z.out.gra;rw [dQ] at h;exact zh h
   obtain⟨AA,cA,rfl⟩:∃ AA cA,vA=fC AA l.length cA:=by
    obtain⟨wb,H,ab,-⟩:=z.out.gra;have h:=ab.acc;rw [dQ] at h;exact zh h
   have kG:=z.out.blk.cell;have Z:=za (z.out.own.reads);rw [<- quoA_eq] at Z;have bt:=za (impl_trimF (d:=cv) (d':=cA) Z.out aW.out (oH HN.out));have bz:=za (B2.out.ext T.out);go_wp2_with (go_at_call 193;refine bt.out.mono ?_;rintro e w5 ⟨t,xs,A,n,c,A',n',c',rfl,bu,ay,a6⟩;have Y:=bz.out.ext a6;have kz:=Y.cell;have fz:=Y.frozen)
   have hZ:=Y.lt;have bK:=za ((U.out.trans (T.out.trans a6)).frm (zV w5 (w.heap.size+1) (.int iX t.al) (fC A n c) (fC A' n' c')) (fun k hk e=>by have e':k=w.heap.size+1:=e;omega));have aT:=za ((bu.keep (zV w5 (w.heap.size+1) (.int iX t.al) (fC A n c) (fC A' n' c')) (fun b hb e=>by
    have e':b=w.heap.size+1:=e;have:=T.out.size;omega)).less (show w.heap.size<=wr.heap.size by have:=T.out.size;omega))
   have bB:=za (zah Y rfl (.int iX t.al) (fC A n c) (fC A' n' c'));have hres:=za (show RetMin w N a (j5 (j2 #[t.al,fC A n c,fC A' n' c'])) _ from ⟨t,A,n,c,A',n',c',rfl,aT.out,⟨ay.fit aW.out,by rw [ay.al];rfl,fun v hv=>ae.out.minF Hv.out ay hv⟩,bK.out⟩);have cf:=bB.out.cell;exact bodyPost_ret (v:=j2 #[t.al,fC A n c,fC A' n' c']) (by simp [results,Tryz.results101,go_sem,cf]) rfl hres.out
def RetWk (w:jX) (s:Sys) (p:Aut) (L:Nat) (e:Ending) (w':jX):Prop:=
 (e=j5 (.tuple #[j2 #[(0:Int),(),()],.bool j1])/\Ext w w') \/
  ∃ (t:Aut) (A:Option Addr) (n c:Nat) (A':Option Addr) (n' c':Nat),e=j5 (.tuple #[j2 #[t.al,fC A n c,fC A' n' c'],.bool true])/\zac w' w.heap.size A n c A' n' c' t/\Dec s p L t/\Ext w w'
section
variable {w:jX}{lo hi n c m d m' d' L:Nat}{A B B':Option Addr}{s:Sys}{p:Aut}
theorem zkf {W:jX}{Z:Nat}{cs:Array Value}(hx:Ext w W)(hb:Blk W Z 27 cs)(hc:cs.size=3)(hZ:w.heap.size<=Z) :
  Ext w (((W.setCell Z (0:Int)).setCell ⟨Z,1,fV⟩ ()).setCell ⟨Z,2,fV⟩ ())/\∀ i,(((W.setCell Z (0:Int)).setCell ⟨Z,1,fV⟩ ()).setCell ⟨Z,2,fV⟩ ()).cell? ⟨Z,i,fV⟩=(#[Value.int iX 0,fC fV 0 0,fC fV 0 0]:Array Value)[i]?:=
 ⟨hx.frm (zV W Z _ _ _) (fun k hk e=>by have e':k=Z:=e;omega),(zah hb hc _ _ _).cell⟩
theorem yW18a1 {P:Prop}(h:P:=by
 go_wp2_with fail
 exact bodyPost_ret (v:=.tuple #[.agg #[(0:Int),(),()],.bool false]) (by simp [results,Tryz.results40,go_sem,hz2]) rfl (.inl ⟨rfl,hres.out⟩)
 ):P:=h
theorem yW18a2 {P:Prop}(h:P:=by
 clear hin h40;subst hb2;go_wp2_with (go_at_call 110;refine (zgz (v := -1) hon).mono ?_;rw [hd.out];rintro e w6 ⟨rfl,rfl⟩)
 go_meet;exact⟨rfl,rfl⟩
 ):P:=h
theorem impl_WeakestAssumption (hS:zU w lo hi A n s)(hP:zJ w lo hi B m B' m' p)(hv:zk s=true)(hp:zj p=true)(hL:L<64)(hhi:hi<=w.heap.size)(hT:Tab w) :
  Calls j3 40 #[j2 #[s.al,s.st,fC A n c,p.al,fC B m d,fC B' m' d',L]] w (RetWk w s p L):=by
 have HV:=za (fun W (hW:Ext w W)=>zfe (c:=c) (d:=d) (d':=d') (hS.ext hW) (hP.ext hW) hv hp hL);have HN:=za (fun W (hW:Ext w W)=>zff (c:=c) (d:=d) (d':=d') hW (hS.ext hW) (hP.ext hW) hv hp hL hhi hT);have Hv:=za (And.intro (zcj hv) hp);have bF:Sm L:=tM;clear hS hP hv hp hhi hT
 go_enter Tryz.func40,Tryz.ntmps40
 go_upto_region 1 with fail
 generalize U0:(w.alloc _).alloc _=w0 at *;obtain⟨bJ,b1,b2⟩:=Ext.x2_ U0;clear U0;have k1:=b1.cell;have cV:=b2.lt;go_upto_region 3 with (go_at_call 105;refine (HV.out _ bJ).mono (mQ fun w1 r=>?_))
 have ae:=bJ.trans r;have aD:=b1.ext r;have ba:=b2.ext r;have k1:=aD.cell;go_upto_region 99 with fail
 refine (HN.out _ ae).mono ?_;rintro e w2 ⟨F,S,rfl,aN,bl,bk,bi,au,bj,hJ,z⟩;obtain⟨Ts,nx,k,M,vs,vn,vu,hI,hM,cW,rfl⟩:=hJ;have aE:=aD.ext z;have bb:=ba.ext z;have k1:=aE.cell;have J:=za aN;have a4:=za bl;have a3:=za bk;have a1:=za bi;have a2:=za au;have bY:=za (show w.heap.size+1<F.b0 by rw [bj];have:=r.size;omega);have HI:=za hI;have bK:=za (ae.trans z);go_upto_region 4 with fail
 obtain⟨w3,U0⟩:∃ x,Hid (w2.alloc (.cells #[.pointer (fU ⟨F.G,0,fV⟩)] 144)=x):=⟨_,za rfl⟩;have bg:=Ext.bl_ U0.out;have u:Ext w2 w3:=((cY _).alloc _).trans (Ext.eq_ U0.out);obtain⟨g,hg⟩:∃ g,Hid (g=w2.heap.size):=⟨_,rfl⟩;rw [<- hg.out] at bg ⊢;have aH:=hM.ext aN u;have aF:=aE.ext u;have bc:=bb.ext u;have bL:=za (bK.out.trans u);have ab:=za (show F.w9.heap.size<=g from by rw [hg.out];exact hM.frm.size);clear aN bl bk bi au bj hI hM b1 b2 aD ba aE bb k1 r z u ae;rw [U0.out] at *;have k1:=aF.cell;go_upto_region 5 with (go_at_call 67;refine (zaf L bF _).mono ?_;rintro e w4 ⟨AL,cL,rfl,ag,C⟩)
 have Y:=aH.ext J.out C;have aG:=bg.ext C;have aY:=za (aF.ext C);have aZ:=za (bc.ext C);have af:=za (bL.out.trans C);obtain⟨Au,nu,rfl⟩:=zh Y.uns;obtain⟨T0,ak,ax⟩:=HI.out.start;obtain⟨gu,rfl,-,cu⟩:=Y.bad ak;have kG:=Y.blk.cell;simp only [sfC] at kG;have cE:(0:Int)<(Ts.length:Int):=by have:=(List.getElem?_eq_some_iff.1 ak).1;omega
 have kg:=aG.cell;have aA:=za Y;have aq:=za aG;have bp:=za (fun b hb=>(ag.lt b hb).1);have X:=za ag;have cH:=C.size;have aw:=za (show ∀ b,w3.heap.size<=b->¬ (sfS F vs vn (fC (fU gu) Ts.length nu) b\/b=g) from fun b hb hs=>by
  rcases hs with hs|rfl
  ·have:=aH.lt hs;omega
  ·have:=bg.lt;omega)
 clear aH aF bc C Y bg aG k1 ag;have aa:Hid (∃ n0:Int,n0=(if zgY F.p T0=true then -1 else 0)/\wkF Ts n0=fU (wk0 F.s F.p F.L)):=by
  refine⟨_,rfl,?_⟩;rw [wk0_start ax];cases hb0:zgY F.p T0
  ·rw [if_neg dM,if_neg dM];exact wkF_nat ak
  ·rw [if_pos rfl,if_pos rfl];exact zke
 clear ak ax;go_upto_if 30 with fail
 go_cut [7] (fun v7 wx=>v7=.int iX (if zgY F.p T0=true then -1 else 0)/\wx=w4)
 case first =>
  cases hb0:zgY F.p T0 with
  |true =>
   go_wp2_with fail
   go_meet;exact⟨by rw [hb0];rfl,rfl⟩
  |false =>
   go_wp2_with fail
   go_meet;exact⟨by rw [hb0];rfl,rfl⟩
 case rest =>
 obtain⟨rfl,rfl⟩:=hcut;obtain⟨n0,bA,bI⟩:=aa.out;rw [<- bA];have a6:=za bI;clear bA bI aa kg kG cu;have bo:=za (show WkK F g (wkF Ts) 1 wc (fun q=>sfS F vs vn (fC (fU gu) Ts.length nu) q\/q=g) from ⟨Ts,nx,k,M,vs,vn,_,HI.out,aA.out,⟨oM,oM⟩,aq.out,ab.out,rfl,rfl⟩);have br:=za (zfR (K:=WkK F g) (D:=wkD F.s F.p F.L) (LL:=letters L 6) (x0:=wk0 F.s F.p F.L) (n0:=n0) (lim:=41) (Bm:=1000) (B0:=1) (b0:=F.lo) (kn:=107) (cap:=#[.pointer (fU g)]) (f0:=wkF Ts) (w:=wc)
  (WkK.ok J.out g) (fun f B W S h=>h.inj) (fun f B W S h=>h.dom) (fun _ _=>rfl) (fun f B W S n x l hK hB hf hl=>wk_step J.out hK oM hf (zC.1 hl).1)
  bo.out a6.out (by have:=af.out.size;have:=a2.out;omega) X.out (fun b hb=>aw.out b (bp.out b hb)) (zA L 6) oM oM oM)
 have aj:=za (show ∀ q,(sfS F vs vn (fC (fU gu) Ts.length nu) q\/q=g)->w.heap.size+1<q from fun q hq=>by
  have hb:=bY.out;rcases hq with hq|rfl
  ·have:=aA.out.low0 J.out hq;omega
  ·have:=J.out.b0G;have:=J.out.Gw;have:=ab.out;omega)
 go_upto_region 99 with fail
 refine br.out.mono ?_;rintro e w5 ⟨f9,B9,S9,bH,Q,ai,aJ⟩;have aP:Ext w w5:=Q.toExt af.out (fun q hq=>by have:=aj.out q hq;omega);have o:=(Q.blk aZ.out (fun hq=>by have:=aj.out _ hq;omega)).1;have a9:=(Q.blk aY.out (fun hq=>by have:=aj.out _ hq;omega)).1;have aC:=za aP;have cI:=Q.size;have hW:=za Q.j;clear bH Q br bo aj X bp aw aq aA aY aZ HI a6;rcases aJ with ⟨rfl,-⟩|⟨A8,c8,A9,c9,ns,a,bP,rfl,bx,bn,bE,⟨bC,bB⟩,hon,bD⟩
 ·have kz:=o.cell;have fz:=o.frozen;obtain⟨R,hz2⟩:=zkf aP o rfl oM;have hres:=za R;exact yW18a1
 have aO:=za (show ∀ (i:Nat) (n:Int),ns[i]?=fU n->∃ x,a[i]?=fU x/\jE x=decide (n ≠ -1) from fun i n hn=>by
  obtain⟨x,h1,h2⟩:=bB i n hn;obtain⟨cP,c1,k9,M9,c3,c2,c4,i1,i2,i3,i4,i5,rfl,i7⟩:=hW.out;refine⟨x,h1,?_⟩;rcases zdW h2 with ⟨rfl,rfl⟩|⟨j,T,rfl,-,rfl⟩
  ·rfl
  ·rw [decide_eq_true oM];rfl)
 have az:=za bn;rw [a4.out,a3.out,a1.out] at az;have aB:=za bE;have b3:=za bC;have a5:=za hon;have b4:=za bD;have bX:=za a9;have a0:=za o;clear bB bn bE bC bD aP hW a4 a3 a1;have kz:=o.cell;have fz:=o.frozen;obtain⟨R,hz2⟩:=zkf aC.out o rfl oM;have a8:=za R;clear a9 o R;obtain⟨y,H⟩:∃ y,Hid ((decide (40<a.length)&&!decide ((-1:Int)∈ns))=y):=⟨_,rfl⟩;go_upto_region 10 with fail
 go_cut [50] (fun v50 wx=>v50=.bool y/\wx=w5)
 case first =>
  by_cases h40:40<a.length
  ·have bf:(40:Int)<(a.length:Int):=oM
   by_cases hin:(-1:Int)∈ns
   ·have hd:=za (show decide ((-1:Int)∈ns)=true from decide_eq_true hin);have hb2:y=j1:=by rw [<- H.out,hd.out];simp
    exact yW18a2
   ·have hd:=za (show decide ((-1:Int)∈ns)=j1 from decide_eq_false hin);have hb2:y=true:=by rw [<- H.out,hd.out,decide_eq_true h40];rfl
    exact yW18a2
  ·have bf:¬ (40:Int)<(a.length:Int):=oM;have hb2:y=j1:=by rw [<- H.out,decide_eq_false h40];rfl
   clear h40;subst hb2;go_wp2_with fail
   go_meet;exact⟨rfl,rfl⟩
 case rest =>
 obtain⟨rfl,rfl⟩:=hcut;clear H;cases y with
 |true =>
  go_wp2_with fail
  exact bodyPost_ret (v:=.tuple #[j2 #[(0:Int),(),()],.bool j1]) (by simp [results,Tryz.results40,go_sem,hz2]) rfl (.inl ⟨rfl,a8.out⟩)
 |false =>
 clear kz fz hz2 a8 hon;have k1:=bX.out.cell;go_upto_region 13 with fail
 obtain⟨w6,U0⟩:∃ x,Hid (wc.alloc (.cells #[L,fC A9 a.length c9,()] 27)=x):=⟨_,za rfl⟩;have bG:=Ext.bl_ U0.out;have u:Ext wc w6:=((cY _).alloc _).trans (Ext.eq_ U0.out);obtain⟨G,hG⟩:∃ G,Hid (G=wc.heap.size):=⟨_,rfl⟩;rw [<- hG.out] at bG ⊢;have bm:wc.heap.size<=G:=oH hG.out;have BG:=za bG;have a7:=za u;clear k1 bG u;rw [U0.out] at *;go_wp2_with fail
 go_loopw [13,58] (fun _ iv wr=>∃ (i:Nat) (vA:Value),iv=.int iX i/\i<=a.length/\Hid (Blk wr G 27 #[L,fC A9 a.length c9,vA])/\Hid (wr.ownsRow wc.heap.size 4 1 vA i (zY ((a.map jE).take i)))/\Hid (Ext wc wr)) (fun _ iv _=>a.length - (intOf iv).toNat)
 case atStart=>exact⟨0,_,rfl,dF _,BG,za (World.ownsRow_nil _ _ _ _),a7⟩
 case round =>
  clear BG a7;obtain⟨i,vA,rfl,hi,hB,V,E⟩:=hrel;obtain⟨AA,cA,rfl⟩:=zh V.out;have kG:=hB.out.cell
  by_cases hlt:i<a.length
  ·have cG:(i:Int)<(a.length:Int):=oM;obtain⟨g8,rfl,-,-⟩:=zM a5.out oM;obtain⟨nn,aL⟩:∃ nn,ns[i]?=fU nn:=⟨_,List.getElem?_eq_getElem (oH b3.out)⟩;have cn:=zgr (zi a5.out E.out) aL;obtain⟨x,r,z⟩:=aO.out i nn aL;have co:=za (show zY ((a.map jE).take (i+1))=zY ((a.map jE).take i)++[.bool (nn != -1)] by
    have ck:(nn != -1)=x.isSome:=by rw [z];by_cases e:nn = -1<;>simp [e]
    rw [dN,dO,r,ck];simp [zY])
   clear aL r z;go_wp2_with (at_builtin;refine zI wc wr rfl _ _ _ rfl 4 _ 1 1 Tryz.underlying25 zaJ rfl dM (fC AA i cA) i _ _ _ rfl rfl E.out.size V.out rfl (cells_bool _) lM oM ?_;intro g9 cap9 w9 hown9 ab hat9 hlt9;have ai:Blk w9 G 27 #[.int iX L,fC A9 a.length c9,fC AA i cA]:=hB.out.frm (Frm.ab ab) (fun e=>zq V.out hB.out dM e rfl);have k9:=ai.cell;have f9:=ai.frozen)
   have cj:g9≠G:=by
    rcases hat9 with h1|h1
    ·exact zq V.out hB.out dM h1
    ·have:=hB.out.lt;omega
   have ce:=za (show Blk (w9.setCell ⟨G,2,fV⟩ (fC (fU g9) (i+1) cap9)) G 27 #[L,fC A9 a.length c9,fC (fU g9) (i+1) cap9] by simpa using ai.ae 2 (fC (fU g9) (i+1) cap9));have cl:=za (show (w9.setCell ⟨G,2,fV⟩ (fC (fU g9) (i+1) cap9)).ownsRow wc.heap.size 4 1 (fC (fU g9) (i+1) cap9) (i+1) (zY ((a.map jE).take (i+1))) by
    rw [co.out];exact zf hown9 (Frm.setCell w9 G 2 _) (fun b hb e=>by obtain rfl:=zeC hb;exact cj e))
   have cq:=za ((E.out.grown ab (fun k hk=>(V.out.lt k hk).1)).setCell (p:=⟨G,2,fV⟩) bm (fC (fU g9) (i+1) cap9));go_roundw
   case rel=>exact⟨i+1,_,gM,oM,ce,cl,cq⟩
   case measure=>exact uM
  ·obtain rfl:i=a.length:=oM;have Z:=V.out;rw [dJ sM] at Z;have cd:zac wr w.heap.size A9 a.length c9 AA a.length cA (wkA L a bP):=⟨(b4.out.ext E.out).less af.out.size,aB.out.symm,zm Z aC.out.size,by simp [wkA]⟩;have bh:=za cd.reads;have ci:=za (nb_fit (N:=41) (acc:=a.map jE) az.out aB.out hL bx sM);have bq:=za (zjA (d:=c9) (d':=cA) bh.out ci.out oM);have bO:=za (aC.out.trans E.out);have b9:=za (a0.out.ext E.out);go_upto_region 99 with fail
   refine bq.out.mono ?_;rintro e w7 ⟨t,A6,n6,c6,I,U,O,rfl,aI,bz,bN⟩;have aK:=za aI.2.1;have bs:=za aI;have ad:=za bz;have bM:=za (bO.out.trans bN);have b8:=za (b9.out.ext bN);clear kG aI bz bq bh Z;go_upto_region 19 with fail
   obtain⟨w8,U0⟩:∃ x,Hid (w7.alloc (.cells #[t.al,fC A6 n6 c6,fC I U O] 27)=x):=⟨_,za rfl⟩;have b6:=Ext.bl_ U0.out;have ao:Ext w7 w8:=((cY _).alloc _).trans (Ext.eq_ U0.out);have ah:=b8.out.ext ao;have ay:=za (bM.out.trans ao);have bt:=za (bs.out.ext ao);clear ao;rw [U0.out] at *;generalize w7.heap.size=cM at *;have cX:=b6.cell;have kz:=ah.cell;have fz:=ah.frozen
   by_cases h12:12<n6
   ·have be:(12:Int)<(n6:Int):=oM;obtain⟨R,hz2⟩:=zkf ay.out ah rfl oM;have hres:=za R;clear aK;exact yW18a1
   ·have be:¬ (12:Int)<(n6:Int):=oM;have bw:=za (dec_of Hv.out.1 Hv.out.2 az.out aB.out (ad.out.fit.valid (oH aK.out)) ad.out.al (fun v hv=>ad.out.acc v (fun l hl=>(hv l hl).1)));have cp:=za (ay.out.frm (zV w8 (w.heap.size+1) (.int iX t.al) (fC A6 n6 c6) (fC I U O)) (fun k hk e=>by have e':k=w.heap.size+1:=e;omega));have bu:=za ((bt.out.keep (zV w8 (w.heap.size+1) (.int iX t.al) (fC A6 n6 c6) (fC I U O)) (fun b hb e=>by
     have e':b=w.heap.size+1:=e;have h1:=a0.out.lt;have h2:=E.out.size;omega)).less (show w.heap.size<=wr.heap.size by have:=bO.out.size;omega))
    have ch:=za (zah ah rfl (.int iX t.al) (fC A6 n6 c6) (fC I U O));clear aK;go_wp2_with fail
    have cf:=ch.out.cell;exact bodyPost_ret (v:=.tuple #[j2 #[t.al,fC A6 n6 c6,fC I U O],.bool true]) (by simp [results,Tryz.results40,go_sem,cf]) rfl (.inr ⟨t,A6,n6,c6,I,U,O,rfl,bu.out,bw.out,cp.out⟩)
theorem zhx :
  Calls j3 105 #[j2 #[(0:Int),(0:Int),(),(0:Int),(),(),(0:Int)]] w fun e w'=>e=j5 (.bool j1)/\Ext w w':=by
 have d:=za (fun (W:jX)=>zaH (c:=0) (s:=⟨0,0,[]⟩) (A:=fV) (n:=0) (lo:=0) (hi:=0) (w:=W) ⟨rfl,Reads.nil⟩);rw [show zk ⟨0,0,[]⟩=j1 from rfl] at d
 go_enter Tryz.func105,Tryz.ntmps105
 go_upto_region 1 with fail
 generalize U0:w.alloc _=i at *;obtain⟨b,f⟩:=Ext.x1_ U0;clear U0;have g:=f.cell;go_wp2_with (go_at_call 65;refine (d.out _).mono (mQ fun j a=>?_);have h:=(f.ext a).cell)
 go_ret;exact⟨rfl,b.trans a⟩
theorem zjz :
  Calls j3 40 #[j2 #[(0:Int),(0:Int),(),(0:Int),(),(),(0:Int)]] w fun e w'=>e=j5 (.tuple #[j2 #[(0:Int),(),()],.bool j1])/\Ext w w':=by
 go_enter Tryz.func40,Tryz.ntmps40
 go_upto_region 1 with fail
 generalize U0:(w.alloc _).alloc _=k at *;obtain⟨c,f,g⟩:=Ext.x2_ U0;clear U0;have h:=f.cell;go_upto_region 99 with fail
 refine zhx.mono (mQ fun l b=>?_);have a:=g.ext b;have j:=a.cell;have i:=a.frozen;obtain⟨d,hz2⟩:=zkf (c.trans b) a rfl oM;have hres:=za d;clear h;go_wp2_with fail
 exact bodyPost_ret (v:=.tuple #[j2 #[(0:Int),(),()],.bool j1]) (by simp [results,Tryz.results40,go_sem,hz2]) rfl ⟨rfl,hres.out⟩
end
section
open Go.ChangeShapes Go.WideShapes Go.ChangeAt Go.Deep
def BytesAt (w:jX) (A:Option Addr) (n c:Nat):Prop:=Bytes w A n/\n<=9223372036854775807/\n<=c/\c<=9223372036854775807
theorem arg_bytes {H:Type}{enc:TypeId × Value->H}{spare:Nat->Bool}{held:Bool}{r:Reach}{b0:Nat}{v:Value}{d:DataW H}{p:List MemPlace}(hv:Value.okWide j3 w r b0 22 v)(h:DataW.Trod enc j3 w 0 spare held 22 v d p) :
  ∃ (A:Option Addr) (n c:Nat),v=fC A n c/\BytesAt w A n c:=by
 obtain⟨a,l,k,rfl⟩:=okWide_slice Tryz.underlying22 hv;obtain⟨t,F⟩:=h;rcases open_slice1 Tryz.underlying22 kM F with ⟨f,_⟩|⟨s,L,B,m,n,V,D,M,f,R,G,J,q,_,z⟩
 ·simp [Value.cells] at f;obtain⟨rfl,rfl,rfl⟩:=f;exact⟨_,_,_,rfl,fun h=>absurd h oM,oM,Nat.le_refl _,oM⟩
 ·simp [Value.cells] at f;obtain⟨rfl,rfl,rfl⟩:=f;unfold maxLen at J;have I:l<=m:=by rw [q];split<;>omega
  refine⟨_,_,_,rfl,fun hn=>?_,oM,G,oM⟩;have u:=(z 0 oM).1;have y:=zdF u;have g:=World.block_lt_of_cell? w _ u;rw [ziB] at g;refine⟨s.block,s.off,by rw [<- y],g,fun j hj=>?_⟩;obtain⟨x,C⟩:=z j oM;obtain⟨b,i,_,o⟩:=DataW.trod_int Tryz.underlying5 C;have E:V j=.int .u8 b:=by simpa using i
  rw [E,y,zad] at x;have S:0<=b/\b<256:=by
   simp only [Lit.wf,Bool.and_eq_true,decide_eq_true_eq] at o;have O:IntKind.u8.min=0:=rfl;have Q:IntKind.u8.max=255:=rfl;omega
  refine⟨b.toNat,oM,?_⟩;rw [x];have:((b.toNat:Nat):Int)=b:=oM;rw [this]
end
end Go.Proofs.YtckbjnndaaoddaaGreatDoor
