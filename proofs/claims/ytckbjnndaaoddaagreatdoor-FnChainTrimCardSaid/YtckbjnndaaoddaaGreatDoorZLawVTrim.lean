/- The law FnCh -/
import Derived.Test.YtckbjnndaaoddaaGreatDoorT18
set_option maxHeartbeats 4000000
set_option maxRecDepth 100000
namespace Go.Proofs.YtckbjnndaaoddaaGreatDoor
open Go Go.RowKit
open Ext renaming refl->dB
open Nat renaming le_trans->dW
open Go.Value renaming slice->fQ
theorem law_ChainTrim {A0:Option Addr}{n0 c0:Nat}{w:World}(h:Bytes w A0 n0)(hn:n0<=9223372036854775807)(hc:n0<=c0)(hc2:c0<=9223372036854775807)(hT:Tab w) :
  Calls Tryz.prog 14 #[fQ A0 n0 c0] w fun e w'=>e=.returned (.bool true)/\Ext w w':=by
 have Hh:=za h;have HT:=za (fun W (hW:Ext w W)=>hT.ext hW);clear h hT
 by_cases hbig:1048576<n0
 ·have S:(1048576:Int)<(n0:Int):=oM
  go_enter Tryz.func14,Tryz.ntmps14
  go_wp2;go_ret;exact⟨rfl,dB _⟩
 have S:(n0:Int)<=1048576:=oM;clear hbig
 go_enter Tryz.func14,Tryz.ntmps14
 go_upto_region 4 with (first
  |(go_at_call 15;refine (spec_DrawVerifyChain Hh.out hn hc hc2).mono ?_;rintro e w1 ⟨ss,k,g,c,p,A,n,c1,A',n',c2,hk,cf,cg,rfl,aF,hp,-,aj⟩))
 clear S hn hc hc2;have HS:=za (fun W (hW:Ext w1 W)=>aF.ext hW);have HP:=za (fun W (hW:Ext w1 W)=>hp.ext hW);have ag:=za (fun W (hW:Ext w1 W)=>HT.out W (aj.trans hW));have HI:=za (fun W (hW:Ext w1 W)=>impl_VerifyChain (c:=c) (d:=c1) (d':=c2) (HS.out _ hW) (HP.out _ hW) (ag.out _ hW) hW.size hW.size);have HR:=za (fun W (hW:Ext w1 W)=>spec_VerifyChainA (c:=c) (d:=c1) (d':=c2) (HS.out _ hW) (HP.out _ hW) hW.size hW.size);have a5:=za (fun (h:(vcT ss p).code≠3)=>vcT_valid h);have HQ:=za (fun (x y z x' y' z':Sys) (p':Aut) (hs:ss=[x,y,z]) (h3:three ss p=true) (a:zaS x x') (b:zaS y y') (d:zaS z z') (e:zcN p p')=>show vcT [x',y',z'] p'=vcT ss p from by
  subst hs;obtain⟨L,h1,h2,-⟩:=vcT_ok h3;exact vc_same a b d e oM)
 generalize vcT ss p=v at *;clear aF hp Hh HT;generalize U0:w1.alloc _=w2 at *;obtain⟨f,u⟩:=Ext.x1_ U0;clear U0;generalize w1.heap.size=G at *;have o:=u.cell;go_upto_region 99 with fail
 refine (HI.out _ f).mono ?_;rintro e w3 ⟨B,m,d,B',m',d',C,q,e1,C',q',be,cj,rfl,o1,o2,-,aJ⟩;clear o;replace u:=u.ext aJ;replace f:=f.trans aJ;have H:=o1.own.reads;have I:=o2.reads;clear o1 o2;go_upto_region 5 with fail
 have t:=(dB w3).alloc (.cells #[v.code,v.fst.al,fQ B m d,fQ B' m' d',v.snd.al,fQ C q e1,fQ C' q' be,v.tr,v.ro] 33);replace u:=u.ext t;replace H:=H.ext t;replace I:=I.ext t;replace f:=f.trans t;clear t;generalize U0:w3.alloc _=w4 at *;have bv:=Ext.bl_ U0;clear U0;generalize w3.heap.size=bY at *;have o:=u.cells;have l:=bv.cells;have T:Ext w4 w4:=dB _;refine uR (fun X=>Ext w4 X) [] (zx.of [0,1,2,3,4,5,6,7,8,9,10]) ?_;refine uQ ?_;have E:Ext w4 w4.drew:=(dB w4).drew;generalize w4.drew=wd at *;refine ze fun K hK=>?_;go_simp;refine (HR.out _ (f.trans E)).mono ?_;rintro e wy ⟨X1,aL,aQ,X2,aN,aR,X3,aO,aS,X4,aP,aT,rfl,J,M,hy⟩;have r:=E.trans hy;refine hK.out _ _ r ?_;refine pT ?_;refine ze fun K hK=>?_;go_simp;skip;refine (agChainVerdicts_same (v:=v) (H.ext r) J.reads (I.ext r) M.reads).mono (mQ fun R F=>?_);have j:=r.trans F;refine hK.out _ _ (r.trans F) ?_;refine pT ?_;refine uQ ?_;refine zg ?_;clear T o l;clear E hy r J M F;replace u:=u.ext j;replace bv:=bv.ext j;replace H:=H.ext j;replace I:=I.ext j;replace f:=f.trans j;clear j
 by_cases hv3:v.code=3
 case pos =>
  have e3:(v.code==3)=true:=by simpa using hv3
  have b3:=za hv3;clear hv3;have o:=u.cell;have l:=bv.cell;go_upto_region 6 with fail
  clear o l;have o:=u.cells;have l:=bv.cells;have T:Ext R R:=dB _;refine uR (fun X=>Ext R X) [4] (zx.of [0,1,2,3,4,5]) ?_;refine uQ ?_;have E:Ext R R.drew:=(dB R).drew;generalize R.drew=wd at *;refine ze fun K hK=>?_;go_simp;refine (HR.out _ (f.trans E)).mono ?_;rintro e wy ⟨X1,aL,aQ,X2,aN,aR,X3,aO,aS,X4,aP,aT,rfl,J,M,hy⟩;have r:=E.trans hy;refine hK.out _ _ r ?_;refine pT ?_;refine zb fun K hK=>?_;go_simp;refine (agChainVerdicts_same (v:=v) (H.ext r) J.reads (I.ext r) M.reads).mono (mQ fun w7 F=>?_);have j:=r.trans F;refine hK.out _ _ ?_;refine pT ?_;refine uQ ?_;refine zg ?_;clear T o l;clear E hy r J M F;replace u:=u.ext j;replace bv:=bv.ext j;replace H:=H.ext j;replace I:=I.ext j;replace f:=f.trans j;clear j;have o:=u.cell;have l:=bv.cell;go_wp2_with fail
  go_ret;exact⟨zu sM,aj.trans f⟩
 case neg =>
  have e3:(v.code==3)=false:=by simpa using hv3
  have H3:=za (a5.out hv3);obtain⟨aD,aE,vp⟩:=zgr.1 H3.out;obtain⟨-,aH⟩:=zap aE;have ba:=za aH;obtain⟨x,y,z,aG⟩:=zfb H3.out;have au:=za aG;have a2:=za (fun W (hW:Ext w1 W)=>impl_MinimizeAutomaton (d:=c1) (d':=c2) (HP.out _ hW) vp);have aC:k=3:=by rw [hk.out,aD]
  have ar:=za aC;clear hv3 aD aE aH aG vp aC;have a6:=za u;have a7:=za bv;have a8:=za H;have a9:=za I;have aq:=za f;have o:=u.cell;have l:=bv.cell;go_upto_region 8 with fail
  have t:=za ((dB R).alloc (.cells #[] 38));have ax:=za (TrL.nil ss (Nat.le_refl R.heap.size));clear o l;clear u bv H I f;generalize R.alloc _=w7 at *;go_wp2_with fail
  go_loopw [6,7,8,9] (fun v6 iv _ _ wr=>∃ (i:Nat) (es:List Ent),iv=.int .i64 i/\i<=k/\Hid (TrL wr R.heap.size v6 ss i es)/\Hid (Ext R wr)) (fun _ iv _ _ _=>k - (intOf iv).toNat)
  case atStart=>exact⟨0,[],rfl,Nat.zero_le _,ax,t⟩
  case round =>
   clear ax t;obtain⟨i,es,rfl,hi,hL,Q⟩:=hrel;obtain⟨A6,c6,rfl⟩:=zi hL.out.own;have f:=aq.out.trans Q.out
   by_cases hlt:i<k
   ·have bB:(i:Int)<(k:Int):=oM;obtain⟨bb,oo,s,B1,m1,c3,hA,-,-,hs,az,hc2,aA,ai⟩:=(HS.out _ f).sys hlt;injection hA with hA
    injection hA with hb ho
    subst hb;subst ho;have vs:=ba.out s (List.mem_of_getElem? hs.out);have bi:=za (impl_TrimSystem (c:=c3) ai (ag.out _ f) vs (st_nat vs) (by have:=ai.1;have:=valid_len vs;omega));have Z:=za vs;have b2:=za f;simp only [Nat.zero_add] at az hc2 aA;clear ai vs f;go_upto_region 99 with fail
    refine bi.out.mono ?_;rintro e w8 ⟨R5,A5,n5,c5,rfl,ay,r5,Y⟩;have q5:=za (same_sub Z.out (st_nat Z.out) ay.out);clear ay az hc2 aA;generalize ziM s R5=s5 at *;go_upto_region 12 with fail
    have U:=(dB w8).alloc (.cells #[s5.al,s5.st,fQ A5 n5 c5] 38);have V:=za (hL.out.ext (Y.trans U));have bm:=za (r5.ext U);have aa:=za (Q.out.trans (Y.trans U));have aI:=U.size;have bD:=Y.size;have ah:=za (fun b hb=>(hL.out.own.lt b hb).2);clear U r5 Y hL;generalize U0:w8.alloc _=w9 at *;have b8:=Ext.bl_ U0;clear U0;generalize w8.heap.size=G8 at *;have k8:=b8.cell;have bh:=V.out.own;have cd:es.length<=3:=by have:=V.out.len;have:=ar.out;omega
    go_wp2_with (at_builtin;refine zL R w9 rfl _ _ _ rfl 38 _ 3 40 Tryz.underlying23 info_sys rfl dM (fQ A6 es.length c6) es.length (zgx es) _ _ rfl rfl aa.out.size bh rfl (by simp [Value.oneCell']) lM oM ?_;intro g9 cap9 wA hown9 hg9 hat9 hlt9)
    have bg:=za (V.out.push hs.out q5.out bm.out (oH Q.out.size) aI (fun b hb=>.inl (ah.out b hb)) hown9 hg9 hat9);have bk:=za (aa.out.grown hg9 (fun b hb=>(V.out.own.lt b hb).1));go_roundw
    case rel=>exact⟨i+1,gM,oM,⟨_,bg⟩,bk⟩
    case measure=>exact uM
   ·obtain rfl:k=i:=oM;have u:=a6.out.ext Q.out;have bv:=a7.out.ext Q.out;have H:=a8.out.ext Q.out;have I:=a9.out.ext Q.out;have zr:wr.heap.size<=wr.heap.size:=Nat.le_refl _;obtain⟨-,D⟩:=hL.out.sl;clear hlt;have o:=u.cell;have l:=bv.cell;go_upto_region 99 with fail
    refine (a2.out _ f).mono ?_;rintro e wB ⟨p9,B9,m9,d9,a0,bl,aw,rfl,o9,q9,O⟩;clear o l;replace u:=u.ext O;replace bv:=bv.ext O;replace H:=H.ext O;replace I:=I.ext O;replace D:=D.ext O;replace zr:=dW zr O.size;replace f:=f.trans O;have r9:=o9.reads;clear o9;have Q9:=za q9;clear q9;go_upto_region 14 with fail
    have t:=(dB wB).alloc (.cells #[p9.al,fQ B9 m9 d9,fQ a0 bl aw] 27);replace u:=u.ext t;replace bv:=bv.ext t;replace H:=H.ext t;replace I:=I.ext t;replace D:=D.ext t;replace r9:=r9.ext t;replace zr:=dW zr t.size;replace f:=f.trans t;clear t;generalize U0:wB.alloc _=wC at *;have b9:=Ext.bl_ U0;clear U0;generalize wB.heap.size=bX at *;obtain⟨x',y',z',aB,sx,sy,sz⟩:=TrL.three (by have:=hL.out;rw [au.out,ar.out] at this;exact this);rw [aB] at D;have bj:=Nat.le_of_lt b9.lt;have ap:=za (fun W (hW:Ext wC W)=>impl_VerifyChain (c:=c6) (d:=d9) (d':=aw) (D.ext hW) (r9.ext hW) (ag.out _ (f.trans hW)) (dW zr hW.size) (dW bj hW.size));rw [HQ.out x y z x' y' z' p9 au.out H3.out sx sy sz Q9.out] at ap;clear D r9 u sx sy sz aB;have l:=bv.cells;have ad:=b9.cells;have T:Ext wC wC:=dB _;refine uR (fun X=>Ext wC X) [4] (zx.of [0,1,2,3,4,5]) ?_;refine uQ ?_;have E:Ext wC wC.drew:=(dB wC).drew;generalize wC.drew=wd at *;refine ze fun K hK=>?_;go_simp;refine (ap.out _ E).mono ?_;intro e wy hq;unfold RetVcH at hq;obtain⟨X1,aL,aQ,X2,aN,aR,X3,aO,aS,X4,aP,aT,bE,rfl,J,M,-,hy⟩:=hq;have r:=E.trans hy;refine hK.out _ _ r ?_;refine pT ?_;refine zb fun K hK=>?_;go_simp;refine (agChainVerdicts_same (v:=v) (H.ext r) J.own.reads (I.ext r) M.reads).mono (mQ fun wD F=>?_);have j:=r.trans F;refine hK.out _ _ ?_;refine pT ?_;refine uQ ?_;refine zg ?_;clear T l ad;clear E hy r J M F;replace bv:=bv.ext j;replace b9:=b9.ext j;replace H:=H.ext j;replace I:=I.ext j;replace f:=f.trans j;clear j;have l:=bv.cell;have ad:=b9.cell;go_wp2_with fail
    go_ret;exact⟨zu sM,aj.trans f⟩
end Go.Proofs.YtckbjnndaaoddaaGreatDoor
