/- The law FnCe -/
import Derived.Test.YtckbjnndaaoddaaGreatDoorX18
set_option maxHeartbeats 4000000
set_option maxRecDepth 100000
namespace Go.Proofs.YtckbjnndaaoddaaGreatDoor
open Go Go.RowKit
open Ext renaming bl_->dZ,refl->cY
open Go.Value renaming slice->fF
theorem cert_code {s t:Sys} {p:Aut}:((vpT s t p).code=0->okC (vpT s t p).code (vpT s t p).asm (vpT s t p).tr=true/\hdX (vpT s t p).code (vpT s t p).asm (vpT s t p).tr=true) /\
  ((vpT s t p).code=1->okC (vpT s t p).code (vpT s t p).asm (vpT s t p).tr=true/\hdX (vpT s t p).code (vpT s t p).asm (vpT s t p).tr=false):=by
 obtain⟨a,b⟩:=vpT_cert s t p;refine⟨fun h=>?_,fun h=>?_⟩
 ·have:=a h;rw [h];unfold hdX;rw [okC0,this];exact⟨rfl,rfl⟩
 ·have:=b h;rw [h];unfold hdX;rw [okC1,this];exact⟨rfl,rfl⟩
theorem law_CertifyComplete {A0:Option Addr} {n0 c0:Nat} {w:World}(h:Bytes w A0 n0)(hn:n0<=9223372036854775807)(hc:n0<=c0)(hc2:c0<=9223372036854775807)(hT:Tab w) :
  Calls Tryz.prog 13 #[fF A0 n0 c0] w fun e w'=>e=.returned (.bool true)/\Ext w w':=by
 have Hh:=za h;have HT:=za (fun W (hW:Ext w W)=>hT.ext hW);clear h hT
 by_cases hbig:1048576<n0
 ·have Y:(1048576:Int)<(n0:Int):=oM
  go_enter Tryz.func13,Tryz.ntmps13
  go_wp2;go_ret;exact⟨rfl,cY _⟩
 have Y:(n0:Int)<=1048576:=oM;clear hbig
 go_enter Tryz.func13,Tryz.ntmps13
 go_upto_region 4 with (first
  |(go_at_call 43;refine (spec_DrawCertifyPair Hh.out hn hc hc2).mono ?_;rintro e U ⟨s,A,n,c,t,C,k,c2,p,B,m,d,B',m',d',rfl,⟨hs,ht,hp⟩,ai,aa⟩))
 clear Y hn hc hc2;have aS:=za (show n<=1000000 from oH ai.out);have HS:=za (fun W (hW:Ext U W)=>hs.ext hW);have HU:=za (fun W (hW:Ext U W)=>ht.ext hW);have HP:=za (fun W (hW:Ext U W)=>hp.ext hW);have af:=za (fun W (hW:Ext U W)=>HT.out W (aa.trans hW));have HC:=za (fun W (hW:Ext U W)=>impl_CertifyPair (c:=c) (d:=d) (d':=d') (c2:=c2) (HS.out _ hW) (HP.out _ hW) (HU.out _ hW) (af.out _ hW));have HE:=za (fun W (hW:Ext U W)=>spec_CertifyPairB (c:=c) (d:=d) (d':=d') (c2:=c2) (HS.out _ hW) (HP.out _ hW) (HU.out _ hW) hW.size);have HL:=za (fun W (hW:Ext U W)=>show Calls Tryz.prog 28 #[fF (some W.heap.size) 2 2,.agg #[p.al,fF B m d,fF B' m' d']] (W.alloc (.cells #[s.al,s.st,fF A n c,t.al,t.st,fF C k c2] 38)) (fun e w'=>e=.returned (.bool (zbt [s,t] p))/\Ext (W.alloc (.cells #[s.al,s.st,fF A n c,t.al,t.st,fF C k c2] 38)) w') from by
  have hx:=(cY W).alloc (.cells #[s.al,s.st,fF A n c,t.al,t.st,fF C k c2] 38);obtain⟨lo,hi,a3⟩:=sl_two (Blk.new W 38 #[s.al,s.st,fF A n c,t.al,t.st,fF C k c2]) ((HS.out _ hW).ext hx) ((HU.out _ hW).ext hx);exact impl_PartsKeep (c:=2) (d2:=d) (d2':=d') a3 (HP.out _ (hW.trans hx)) (af.out _ (hW.trans hx)))
 rcases zcw s t p with T|⟨L,T⟩
 ·have HK:=za (fun W (hW:Ext U W)=>impl_TaskOf0 (c:=c) (d:=d) (d':=d') (c2:=c2) (HS.out _ hW) (HP.out _ hW) (HU.out _ hW) T);have a0:okC (vpT s t p).code (vpT s t p).asm (vpT s t p).tr=false:=by rw [zgI T];rfl
  clear hs ht hp ai Hh HT T HL;generalize hdX (vpT s t p).code (vpT s t p).asm (vpT s t p).tr=hd at *;generalize ziy (vpT s t p).code (vpT s t p).asm (vpT s t p).tr=a at *;generalize ziz (vpT s t p).code (vpT s t p).asm (vpT s t p).tr=x at *;generalize okC (vpT s t p).code (vpT s t p).asm (vpT s t p).tr=ok at *;subst a0;generalize U0:((U.alloc _).alloc _).alloc _=w2 at *;obtain⟨f,v,y,z⟩:=Ext.x3_ U0;clear U0;generalize U.heap.size=G at *;have j:=v.cell;have l:=y.cell;have o:=z.cell;go_upto_region 99 with fail
  refine (HC.out _ f).mono ?_;rintro e w3 ⟨D3,q3,f3,ad,ap,ag,rfl,o3,R⟩;clear j l o;replace v:=v.ext R;replace y:=y.ext R;replace z:=z.ext R;replace f:=f.trans R;have F:=o3.reads;clear o3;go_upto_region 5 with fail
  have b:=(cY w3).alloc (.cells #[.bool hd,a.al,fF D3 q3 f3,fF ad ap ag,x] 60);replace v:=v.ext b;replace y:=y.ext b;replace z:=z.ext b;replace F:=F.ext b;replace f:=f.trans b;clear b;generalize U0:w3.alloc _=w4 at *;have g:=dZ U0;clear U0;generalize w3.heap.size=ax at *;have j:=v.cell;have l:=y.cell;have o:=z.cell;have i:=g.cell;go_upto_region 99 with fail
  refine (HE.out _ f).mono ?_;rintro e w5 ⟨D5,q5,f5,ae,aq,ah,rfl,o5,M⟩;clear j l o i;replace v:=v.ext M;replace y:=y.ext M;replace z:=z.ext M;replace g:=g.ext M;replace F:=F.ext M;replace f:=f.trans M;have J:=o5.reads;clear o5;go_upto_region 6 with fail
  have b:=(cY w5).alloc (.cells #[.bool hd,a.al,fF D5 q5 f5,fF ae aq ah,x] 60);replace v:=v.ext b;replace y:=y.ext b;replace z:=z.ext b;replace g:=g.ext b;replace F:=F.ext b;replace J:=J.ext b;replace f:=f.trans b;clear b;generalize U0:w5.alloc _=w6 at *;have q:=dZ U0;clear U0;generalize w5.heap.size=ay at *;have j:=v.cell;have l:=y.cell;have o:=z.cell;have i:=g.cell;have u:=q.cell;go_upto_region 99 with fail
  refine (HK.out _ f).mono (mQ fun w7 H=>?_);clear j l o i u;replace v:=v.ext H;replace y:=y.ext H;replace z:=z.ext H;replace g:=g.ext H;replace q:=q.ext H;replace F:=F.ext H;replace J:=J.ext H;replace f:=f.trans H;go_upto_region 7 with fail
  have b:=(cY w7).alloc (.cells #[(0:Int),(0:Int),(),(0:Int),(),(),(0:Int)] 70);replace v:=v.ext b;replace y:=y.ext b;replace z:=z.ext b;replace g:=g.ext b;replace q:=q.ext b;replace F:=F.ext b;replace J:=J.ext b;replace f:=f.trans b;clear b;generalize U0:w7.alloc _=w8 at *;have O:=dZ U0;clear U0;generalize w7.heap.size=aO at *;have j:=v.cell;have l:=y.cell;have o:=z.cell;have i:=g.cell;have u:=q.cell;have I:=O.cell;go_upto_region 99 with fail
  refine (agCertificates_same (hd:=hd) (x:=x) F J).mono (mQ fun w9 E=>?_);clear j l o i u I;replace v:=v.ext E;replace y:=y.ext E;replace z:=z.ext E;replace g:=g.ext E;replace q:=q.ext E;replace O:=O.ext E;replace F:=F.ext E;replace J:=J.ext E;replace f:=f.trans E;have j:=v.cell;have l:=y.cell;have o:=z.cell;have i:=g.cell;have u:=q.cell;have I:=O.cell;go_upto_region 99 with fail
  refine (agCertificates_same (hd:=hd) (x:=x) F J).mono (mQ fun wA r=>?_);clear j l o i u I;replace v:=v.ext r;replace y:=y.ext r;replace z:=z.ext r;replace g:=g.ext r;replace q:=q.ext r;replace O:=O.ext r;replace F:=F.ext r;replace J:=J.ext r;replace f:=f.trans r;have j:=v.cell;have l:=y.cell;have o:=z.cell;have i:=g.cell;have u:=q.cell;have I:=O.cell;go_wp2_with fail
  go_ret;exact⟨zo sM,aa.trans f⟩
 ·have HK:=za (fun W (hW:Ext U W)=>impl_TaskOf (c:=c) (d:=d) (d':=d') (c2:=c2) (HS.out _ hW) (HP.out _ hW) (HU.out _ hW) T (oH aS.out));have HD:=za (fun (D:Aut) (h:Dec s p L D)=>show okC (vpT s t p).code (vpT s t p).asm (vpT s t p).tr=true/\hdX (vpT s t p).code (vpT s t p).asm (vpT s t p).tr=zbt [s,t] p from by
   rcases h.verdict T with ⟨h1,h2⟩|⟨h1,h2⟩
   ·rw [h2];exact cert_code.1 h1
   ·rw [h2];exact cert_code.2 h1)
  clear hs ht hp ai Hh HT T;generalize hdX (vpT s t p).code (vpT s t p).asm (vpT s t p).tr=hd at *;generalize ziy (vpT s t p).code (vpT s t p).asm (vpT s t p).tr=a at *;generalize ziz (vpT s t p).code (vpT s t p).asm (vpT s t p).tr=x at *;generalize okC (vpT s t p).code (vpT s t p).asm (vpT s t p).tr=ok at *;have bo:(ok != ok)=false:=by cases ok<;>rfl
  have bn:(ok==ok)=true:=by cases ok<;>rfl
  generalize U0:((U.alloc _).alloc _).alloc _=w2 at *;obtain⟨f,v,y,z⟩:=Ext.x3_ U0;clear U0;generalize U.heap.size=G at *;have j:=v.cell;have l:=y.cell;have o:=z.cell;go_upto_region 99 with fail
  refine (HC.out _ f).mono ?_;rintro e w3 ⟨D3,q3,f3,ad,ap,ag,rfl,o3,R⟩;clear j l o;replace v:=v.ext R;replace y:=y.ext R;replace z:=z.ext R;replace f:=f.trans R;have F:=o3.reads;clear o3;go_upto_region 5 with fail
  have b:=(cY w3).alloc (.cells #[.bool hd,a.al,fF D3 q3 f3,fF ad ap ag,x] 60);replace v:=v.ext b;replace y:=y.ext b;replace z:=z.ext b;replace F:=F.ext b;replace f:=f.trans b;clear b;generalize U0:w3.alloc _=w4 at *;have g:=dZ U0;clear U0;generalize w3.heap.size=ax at *;have j:=v.cell;have l:=y.cell;have o:=z.cell;have i:=g.cell;go_upto_region 99 with fail
  refine (HE.out _ f).mono ?_;rintro e w5 ⟨D5,q5,f5,ae,aq,ah,rfl,o5,M⟩;clear j l o i;replace v:=v.ext M;replace y:=y.ext M;replace z:=z.ext M;replace g:=g.ext M;replace F:=F.ext M;replace f:=f.trans M;have J:=o5.reads;clear o5;go_upto_region 6 with fail
  have b:=(cY w5).alloc (.cells #[.bool hd,a.al,fF D5 q5 f5,fF ae aq ah,x] 60);replace v:=v.ext b;replace y:=y.ext b;replace z:=z.ext b;replace g:=g.ext b;replace F:=F.ext b;replace J:=J.ext b;replace f:=f.trans b;clear b;generalize U0:w5.alloc _=w6 at *;have q:=dZ U0;clear U0;generalize w5.heap.size=ay at *;have j:=v.cell;have l:=y.cell;have o:=z.cell;have i:=g.cell;have u:=q.cell;go_upto_region 99 with fail
  refine (HK.out _ f).mono ?_;rintro e w7 ⟨A9,n9,c9,B9,m9,d9,aJ,a6,aC,rfl,S,H⟩;clear j l o i u;replace v:=v.ext H;replace y:=y.ext H;replace z:=z.ext H;replace g:=g.ext H;replace q:=q.ext H;replace F:=F.ext H;replace J:=J.ext H;replace f:=f.trans H;go_upto_region 7 with fail
  have b:=(cY w7).alloc (.cells #[s.al,s.st,fF A9 n9 c9,p.al,fF B9 m9 d9,fF aJ a6 aC,L] 70);replace v:=v.ext b;replace y:=y.ext b;replace z:=z.ext b;replace g:=g.ext b;replace q:=q.ext b;replace F:=F.ext b;replace J:=J.ext b;replace S:=S.ext b;replace f:=f.trans b;clear b;generalize U0:w7.alloc _=w8 at *;have O:=dZ U0;clear U0;generalize w7.heap.size=aO at *;have j:=v.cell;have l:=y.cell;have o:=z.cell;have i:=g.cell;have u:=q.cell;have I:=O.cell;go_upto_region 99 with fail
  refine (agCertificates_same (hd:=hd) (x:=x) F J).mono (mQ fun w9 E=>?_);clear j l o i u I;replace v:=v.ext E;replace y:=y.ext E;replace z:=z.ext E;replace g:=g.ext E;replace q:=q.ext E;replace O:=O.ext E;replace F:=F.ext E;replace J:=J.ext E;replace S:=S.ext E;replace f:=f.trans E;obtain⟨wl,wh,ak,aj,am⟩:=S.at_;have j:=v.cell;have l:=y.cell;have o:=z.cell;have i:=g.cell;have u:=q.cell;have I:=O.cell;go_upto_region 99 with fail
  refine (impl_WeakestAssumption (c:=c9) (d:=d9) (d':=aC) ak aj S.sv S.pv S.lt am (af.out _ f)).mono ?_;rintro e wA (⟨rfl,r⟩|⟨Q,A7,n7,c7,aI,a7,aU,rfl,o7,ab,r⟩)
  ·skip;clear ak aj am;clear j l o i u I;replace v:=v.ext r;replace y:=y.ext r;replace z:=z.ext r;replace g:=g.ext r;replace q:=q.ext r;replace O:=O.ext r;replace F:=F.ext r;replace J:=J.ext r;replace S:=S.ext r;replace f:=f.trans r;go_upto_region 10 with fail
   have b:=(cY wA).alloc (.cells #[(0:Int),(),()] 27);replace v:=v.ext b;replace y:=y.ext b;replace z:=z.ext b;replace g:=g.ext b;replace q:=q.ext b;replace O:=O.ext b;replace F:=F.ext b;replace J:=J.ext b;replace S:=S.ext b;replace f:=f.trans b;clear b;generalize U0:wA.alloc _=V at *;have ba:=dZ U0;clear U0;generalize wA.heap.size=aN at *;have j:=v.cells;have l:=y.cells;have o:=z.cells;have i:=g.cells;have u:=q.cells;have I:=O.cells;have aE:=ba.cells;have an:Ext V V:=cY _;have Z:Ext V V.drew:=an.drew;refine uR (fun X=>Ext V X) [] (zx.of [0,1,2,3,4,5,6,7,8,10,9,11,12,13,14,15]) ?_;refine uQ ?_;refine zg ?_;go_wp2_with fail
   go_ret;exact⟨zo sM,aa.trans (f.trans Z)⟩
  ·skip;clear ak aj am;clear j l o i u I;replace v:=v.ext r;replace y:=y.ext r;replace z:=z.ext r;replace g:=g.ext r;replace q:=q.ext r;replace O:=O.ext r;replace F:=F.ext r;replace J:=J.ext r;replace S:=S.ext r;replace f:=f.trans r;obtain⟨rfl,aZ⟩:=HD.out _ ab;subst aZ;clear o7 ab;go_upto_region 10 with fail
   have b:=(cY wA).alloc (.cells #[Q.al,fF A7 n7 c7,fF aI a7 aU] 27);replace v:=v.ext b;replace y:=y.ext b;replace z:=z.ext b;replace g:=g.ext b;replace q:=q.ext b;replace O:=O.ext b;replace F:=F.ext b;replace J:=J.ext b;replace S:=S.ext b;replace f:=f.trans b;clear b;generalize U0:wA.alloc _=V at *;have ba:=dZ U0;clear U0;generalize wA.heap.size=aN at *;have j:=v.cells;have l:=y.cells;have o:=z.cells;have i:=g.cells;have u:=q.cells;have I:=O.cells;have aE:=ba.cells;have an:Ext V V:=cY _;refine uR (fun X=>Ext V X) [] (zx.of [0,1,2,3,4,5,6,7,8,10,9,11,12,13,14,15]) ?_;refine uQ ?_;have Z:Ext V V.drew:=an.drew;have aD:=f.trans Z;generalize V.drew=wd at *;refine ze fun K hK=>?_;go_simp;refine hK.out _ _ (Z.alloc _) ?_;refine pT ?_;refine ze fun K hK=>?_;go_simp;refine (HL.out _ aD).mono (mQ fun wy hy=>?_);have a5:Ext V wy:=(Z.alloc _).trans hy;refine hK.out _ _ a5 ?_;refine pT ?_;refine uQ ?_;refine zg ?_;go_wp2_with fail
   go_ret;exact⟨zo sM,aa.trans ((aD.alloc _).trans hy)⟩
end Go.Proofs.YtckbjnndaaoddaaGreatDoor
