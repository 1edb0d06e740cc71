/- impl.minimiz -/
import Derived.Test.YtckbjnndaaoddaaGreatDoorV17
set_option maxHeartbeats 4000000
set_option maxRecDepth 100000
namespace Go.Proofs.YtckbjnndaaoddaaGreatDoor
open Go Go.RowKit
open Bool renaming and_eq_true->dI
open List renaming getD_eq_getElem?_getD->dE,getElem?_map->dO,length_map->dS
variable {B B':Option Addr} {a:Aut} {d d' hi lo m m':Nat} {v:List Nat} {w:World}
structure MinR (N:Nat) (a t:Aut):Prop where
 fit:Fit N t
 al:t.al=a.al
 acc:∀ v:List Nat,(∀ l∈v,l<6)->zaC t (zaK t 0 v)=zaC a (zaK a 0 v)
theorem MinR.same {t:Aut}(h:MinR 12 a t)(ha:zj a=true):zej a t:=⟨h.al,ha,h.fit.valid h.fit.row.2.1.2,fun v hv=>(h.acc v hv).symm⟩
def RetMin (w:World) (N:Nat) (a:Aut) (e:Ending) (w':World):Prop:=
 ∃ (t:Aut) (A:Option Addr) (n c:Nat) (A':Option Addr) (n' c':Nat),e=.returned (.agg #[t.al,.slice A n c,.slice A' n' c'])∧zZ w' w.heap.size A n c A' n' c' t∧MinR N a t∧Ext w w'
def zfa (a:Aut) (cs:List Nat) (q:Nat):List Int:=(a.next.getD q []).map fun x=>(fnL cs x.toNat:Int)
theorem quoA_eq (a:Aut) (cs rs:List Nat):quoA a (fnL cs) rs=⟨a.al,rs.map (zfa a cs),rs.map (zaC a)⟩:=rfl
theorem zjh {N:Nat}      (h:zO w lo hi B m B' m' a)(hv:Fit N a)(hN:N<=99) :
  Calls Tryz.prog 101 #[.agg #[a.al,.slice B m d,.slice B' m' d']] w (RetMin w N a):=by
 obtain⟨-,⟨n1,bN⟩,ah,R⟩:=hv.row;have Hn:=za h.n1;have bq:=za (show m'=m by rw [h.n1,h.n2,ah]);have HA:=za (fun W (hW:Ext w W)=>h.ext hW);have aQ:=za R;have Hv:=za hv;have bX:m<=99:=by rw [h.n1];omega
 have h6:=zA a.al.toNat 6;have HN:=za hN;clear R h n1 bN hv hN ah
 go_enter Tryz.func101,Tryz.ntmps101
 go_upto_region 1 with fail
 generalize U0:(w.alloc _).alloc _=w0 at *;obtain⟨a6,b1,b2⟩:=Ext.x2_ U0;clear U0;have k1:=b1.cell;go_upto_region 2 with (go_at_call 192;refine (zhW (HA.out _ a6) Hv.out HN.out).mono ?_;rintro e C ⟨s,g,rfl,aG,hC,af⟩)
 rw [← Hn.out] at aG ⊢;have HC:=za hC;have B1:=za (b1.ext af);have B2:=za (b2.ext af);have U:=za (a6.trans af);have bc:=za aG;clear k1 b1 b2 af hC aG;have k1:=B1.out.cell;go_upto_region 3 with fail
 have bG:=Blk.new C 27 #[a.al,(),()];have aB:=(Ext.refl C).alloc (.cells #[a.al,(),()] 27);obtain⟨G,hG⟩:∃ G,Hid (G=C.heap.size):=⟨_,rfl⟩;rw [← hG.out] at bG ⊢;have ai:=za (gra_first (S:=fun _=>False) aB bG (oH hG.out) id);have ao:=za aB;clear k1 aB bG;generalize C.alloc _=w2 at *;have aa:=za (show FO (fnL s) m by rw [Hn.out];exact HC.out.fo);have bZ:w.heap.size+1<C.heap.size:=B2.out.lt;go_wp2_with fail
 go_loopw [5,6,7,9,17] (fun _ _ _ _ iv wr=>∃ (i:Nat) (v vA:Value) (l:List Nat),iv=.int .i64 i∧i<=m∧Hid (RepI (fnL s) i l)∧Hid (zeY wr (fun _=>False) C.heap.size wr.heap.size G a.al v (l.map (zfa a s)) vA (l.map (zaC a)))∧Hid (Ext C wr)) (fun _ _ _ _ iv _=>m - (intOf iv).toNat)
 case atStart=>exact⟨0,_,_,[],rfl,Nat.zero_le _,za RepI.zero,za (ai.out.reN),ao⟩
 case round =>
  clear ai ao;obtain⟨i,v,vA,l,rfl,hi,hR,z,T⟩:=hrel;have ch:l.length<=i:=by rw [hR.out.len];exact zir aa.out hi
  by_cases hlt:i<m
  ·have bW:(i:Int)<(m:Int):=oM;have aU:wr.cell? ⟨g,i,none⟩=some (.int .i64 (fnL s i:Nat)):=by
    rw [(zi bc.out T.out).cellAt i oM];unfold zad;rw [dO,ziv (by rw [HC.out.len,← Hn.out];exact hlt)];rfl
   obtain⟨f,r1,r2,r3⟩:∃ f,wr.ownsRow C.heap.size 110 1 v (l.map (zfa a s)).length f∧zB wr C.heap.size f (l.map (zfa a s))∧∀ (j:Nat) (r:Value) (b:Nat),f[j]?=some r->r.ownBlock=some b->¬ False∧b<wr.heap.size:=by
    obtain⟨wb,H,-,f,h⟩:=z.out.gra;exact⟨f,h⟩
   obtain⟨Av,cv,rfl⟩:=zh r1;rw [dS] at r1;have kG:=z.out.blk.cell;rw [dS] at kG;have ar:=za z.out;rw [dS] at ar;clear r1 r2 r3 z;obtain⟨x,aD⟩:∃ x,Hid (fnL s i=x):=⟨_,rfl⟩;rw [aD.out] at aU
   by_cases hsk:x<l.length
   ·have a2:(x:Int)<(l.length:Int):=oM;have ax:=za (hR.out.skip (by rw [aD.out];exact hsk) aa.out hlt);go_wp2_with fail
    go_roundw
    case rel=>exact⟨i+1,_,_,l,gM,oM,ax,ar,T⟩
    case measure=>simp [intOf];omega
   ·have a2:¬ (x:Int)<(l.length:Int):=oM;have ax:=za (hR.out.push (by rw [aD.out];exact hsk) aa.out hlt);have Z:=za (HA.out wr (U.out.trans T.out));obtain⟨ad,Ak,ck,o,rfl,_,_,an,bB,aZ⟩:=Z.out.1.row hlt;obtain⟨bI,aY⟩:=aQ.out i o an.out;have bo:=za aY;have bY:o.length<=6:=oM;have bp:=za (fun W (hW:Ext wr W)=>aZ.ext hW);have bJ:=za (show zfa a s i=o.map fun x=>(fnL s x.toNat:Int) by unfold zfa;rw [dE,an.out];rfl);have k1:=(B1.out.ext T.out).cell;clear aZ bI aY;obtain⟨wo,bK⟩:∃ wo,wo=wr:=⟨_,rfl⟩;subst bK;go_upto_region 9 with fail
    go_wp2_with fail
    go_loopw [7,9,33] (fun v7 _ jv wr=>∃ j:Nat,jv=.int .i64 j∧j<=o.length∧Hid (wr.ownsRow wo.heap.size 3 1 v7 j (ints ((o.map fun x=>(fnL s x.toNat:Int)).take j)))∧Hid (Ext wo wr)) (fun _ _ jv _=>o.length - (intOf jv).toNat)
    case atStart=>exact⟨0,rfl,Nat.zero_le _,za (World.ownsRow_nil _ _ _ _),za (Ext.refl _)⟩
    case round =>
     clear aU kG k1 bB;obtain⟨j,rfl,hj,Q,I⟩:=hrel;obtain⟨A7,c7,rfl⟩:=zh Q.out
     by_cases hjl:j<o.length
     ·have bV:(j:Int)<(o.length:Int):=oM;obtain⟨b8,y0,rfl,_,_,a8,ce⟩:=(bp.out wr I.out).int hjl;obtain⟨y1,y2⟩:=bo.out y0 (List.mem_of_getElem? a8.out);obtain⟨y,rfl⟩:∃ y:Nat,y0=y:=⟨y0.toNat,oM⟩;have bM:y<m:=oH Hn.out;have b0:(y:Int)<(m:Int):=oM;have cy:wr.cell? ⟨g,y,none⟩=some (.int .i64 (fnL s y:Nat)):=by
       rw [(zi bc.out (T.out.trans I.out)).cellAt y oM];unfold zad;rw [dO,ziv (by rw [HC.out.len,← Hn.out];exact bM)];rfl
      have ae:=za (show ints ((o.map fun x=>(fnL s x.toNat:Int)).take (j+1))=ints ((o.map fun x=>(fnL s x.toNat:Int)).take j)++[.int .i64 (fnL s y:Nat)] by
       rw [List.take_add_one,dO,a8.out,ints,ints,List.map_append];rfl)
      clear y1 y2;go_wp2_with (at_builtin;refine zI wo wr rfl _ _ _ rfl 3 _ 1 8 Tryz.underlying110 zQ rfl dM (.slice A7 j c7) j _ _ _ rfl rfl I.out.size Q.out rfl (zaH _) lM oM ?_;intro g9 cap9 w9 hown9 hg9 hat9 hlt9)
      have a1:=za (show w9.ownsRow wo.heap.size 3 1 (.slice (some g9) (j+1) cap9) (j+1) (ints ((o.map fun x=>(fnL s x.toNat:Int)).take (j+1))) by rw [ae.out];exact hown9);have aA:=za (I.out.grown hg9 (fun k hk=>(Q.out.lt k hk).1));go_roundw
      case rel=>exact⟨j+1,gM,oM,a1,aA⟩
      case measure=>simp [intOf];omega
     ·obtain rfl:j=o.length:=oM;have am:=za (show wr.ownsRow wo.heap.size 3 1 (.slice A7 o.length c7) (zfa a s i).length (ints (zfa a s i)) by
       have:=Q.out;rw [List.take_of_length_le sM] at this;rw [bJ.out,dS];exact this)
      have F:=za (ar.out.ext I.out);obtain⟨f,r1,r2,r3⟩:∃ f,wr.ownsRow C.heap.size 110 1 (.slice Av l.length cv) (l.map (zfa a s)).length f∧zB wr C.heap.size f (l.map (zfa a s))∧∀ (j:Nat) (r:Value) (b:Nat),f[j]?=some r->r.ownBlock=some b->¬ False∧b<wo.heap.size:=by
       obtain⟨wb,H,-,f,h⟩:=F.out.gra;exact⟨f,h⟩
      have au:=za r1;have aO:=za r2;have aP:=za r3;have kG:=F.out.blk.cell;have aC:=za (T.out.trans I.out);have a4:=T.out.size;have a3:C.heap.size<=wr.heap.size:=aC.out.size;have cg:(l.map (zfa a s)).length<=99:=by rw [dS];omega
      have J:=za r1;rw [dS] at J;have bH:=za (fun (b:Nat) (_:(Value.slice A7 o.length c7).ownBlock=some b) (h:False)=>h);have bF:=za (show (l.map (zfa a s)).length=l.length from dS _);have bE:=za (show (l.map (zaC a)).length=l.length from dS _);clear r1 r2 r3;go_upto_region 14 with (at_builtin;refine zI C wr rfl _ _ _ rfl 110 _ 1 24 Tryz.underlying24 zbm rfl dM (.slice Av l.length cv) l.length f _ _ rfl rfl a3 J.out rfl (zaE _ _ _) lM oM ?_;intro g7 cap7 w7 hown7 hg7 hat7 hlt7;rw [← bF.out] at hown7;obtain⟨av,L⟩:=F.out.push au.out aO.out aP.out a4 am.out bH.out (fun _ _ h=>h) hown7 hg7 hat7;have k7:=av.cell;have f7:=av.frozen;rw [dS] at L)
      have az:=za ((aC.out.grown hg7 (fun k hk=>(au.out.lt k hk).1)).setCell (p:=⟨G,1,none⟩) (by have:=hG.out;show C.heap.size<=G;omega) (.slice (some g7) (l.length+1) cap7));have E:=za L;clear hown7 hg7 hat7 av L k7 f7 kG au aO aP am Q F aC J;generalize w7.setCell ⟨G,1,none⟩ (.slice (some g7) (l.length+1) cap7)=w8 at *;have aX:i<m':=oH bq.out;have bD:(i:Int)<(m':Int):=oM;obtain⟨aR,bb,rfl,-,-,hb,cb⟩:=(HA.out w8 (U.out.trans az.out)).2.2.bool aX;have bz:=za (show zaC a i=bb by unfold zaC;rw [dE,hb.out];rfl);have KB:∀ W,Ext w8 W->W.cell? (aR.add i)=some (.bool bb):=fun W hW=>hW.aa cb;have KA:∀ W,Ext w8 W->∀ q,W.cell? ⟨w.heap.size,q,none⟩=#[Value.int .i64 a.al,.slice (some ad) m d,.slice (some aR) m' d'][q]?:=fun W hW=>((B1.out.ext az.out).ext hW).cell;obtain⟨wb,H,ab,-⟩:=E.out.gra;have u:=ab.acc;rw [H,dS] at u;obtain⟨AA,cA,rfl⟩:=zh u;have KG:=fun W (hW:Ext w8 W)=>(E.out.blk.ext hW).cell;have a5:=Ext.refl w8;clear cb hb ab H;have U9:=(Ext.refl w8).drew;refine uR (fun X=>Ext w8 X) [8,10] (zy.of [0,1,2,3,4,5,6,7,8,9,10]) ?_;refine uQ ?_;have V:=a5.drew;have aj:=za (E.out.ext V);have D:=zi u V;have ap:=za (az.out.trans V);clear KB KA KG a5 E u;generalize w8.drew=wd at *;refine ze fun K hK=>?_;go_simp;refine hK.out _ _ (V.alloc _) ?_;refine pT ?_;refine zb fun K hK=>?_;refine zax C wd _ _ _ rfl 4 _ 1 1 Tryz.underlying25 zaI rfl dM (.slice AA l.length cA) l.length (zaa (l.map (zaC a))) _ _ rfl rfl ap.out.size D rfl (by simp [Value.oneCell']) lM oM ?_;intro g8 cap8 w9 hown8 hg8 hat8 hlt8;refine hK.out _ _ ?_;refine pT ?_;rw [← bE.out] at hown8;obtain⟨aw,M⟩:=aj.out.pushA (x:=bb) (fun _ _ h=>h) hown8 hg8 hat8;rw [dS] at M;have k8:=aw.cell;have f8:=aw.frozen;have aA:=za ((ap.out.grown hg8 (fun k hk=>(D.lt k hk).1)).setCell (p:=⟨G,2,none⟩) (by have:=hG.out;show C.heap.size<=G;omega) (.slice (some g8) (l.length+1) cap8));have ak:=za M.reN;have O:=za (show l.map (zfa a s)++[zfa a s i]=(l++[i]).map (zfa a s)∧l.map (zaC a)++[bb]=(l++[i]).map (zaC a) from ⟨sM,by simp [bz.out]⟩);rw [O.out.1,O.out.2] at ak;clear hown8 hg8 hat8 D V aj M aw;refine uQ ?_;refine zb fun K hK=>?_;go_simp;refine hK.out _ _ ?_;refine zg ?_;clear k8 f8;go_wp2_with fail
      go_roundw
      case rel=>exact⟨i+1,_,_,l++[i],gM,oM,ax,ak,aA⟩
      case measure=>simp [intOf];omega
  ·obtain rfl:m=i:=oM;have ae:=za (HC.out.stb Hv.out (by rw [← Hn.out];exact hR.out));have aV:=za (hR.out.few aa.out);have aW:=za (ae.out.fit Hv.out (by rw [← Hn.out];exact aV.out) (fun r hr=>by rw [← Hn.out];exact hR.out.lt r hr));obtain⟨Av,cv,rfl⟩:∃ Av cv,v=.slice Av l.length cv:=by
    obtain⟨wb,H,-,f,h,-⟩:=z.out.gra;rw [dS] at h;exact zh h
   obtain⟨AA,cA,rfl⟩:∃ AA cA,vA=.slice AA l.length cA:=by
    obtain⟨wb,H,ab,-⟩:=z.out.gra;have h:=ab.acc;rw [dS] at h;exact zh h
   have kG:=z.out.blk.cell;have Z:=za (z.out.own.reads);rw [← quoA_eq] at Z;have bu:=za (impl_trimF (d:=cv) (d':=cA) Z.out aW.out (oH HN.out));have bA:=za (B2.out.ext T.out);go_wp2_with (go_at_call 193;refine bu.out.mono ?_;rintro e w5 ⟨t,xs,A,n,c,A',n',c',rfl,bw,ay,a7⟩;have Y:=bA.out.ext a7;have kz:=Y.cell;have fz:=Y.frozen)
   have hZ:=Y.lt;have bL:=za ((U.out.trans (T.out.trans a7)).frm (zU w5 (w.heap.size+1) (.int .i64 t.al) (.slice A n c) (.slice A' n' c')) (fun k hk e=>by have e':k=w.heap.size+1:=e;omega));have aT:=za ((bw.keep (zU w5 (w.heap.size+1) (.int .i64 t.al) (.slice A n c) (.slice A' n' c')) (fun b hb e=>by
    have e':b=w.heap.size+1:=e;have:=T.out.size;omega)).less (show w.heap.size<=wr.heap.size by have:=T.out.size;omega))
   have bC:=za (zal Y rfl (.int .i64 t.al) (.slice A n c) (.slice A' n' c'));have a0:=za (show RetMin w N a (.returned (.agg #[t.al,.slice A n c,.slice A' n' c'])) _ from ⟨t,A,n,c,A',n',c',rfl,aT.out,⟨ay.fit aW.out,by rw [ay.al];rfl,fun v hv=>ae.out.minF Hv.out ay hv⟩,bL.out⟩);have cf:=bC.out.cell;exact bodyPost_ret (v:=.agg #[t.al,.slice A n c,.slice A' n' c']) (by simp [results,Tryz.results101,go_sem,cf]) rfl a0.out
def RetMz (w:World) (a:Aut) (e:Ending) (w':World):Prop:=
 ∃ (t:Aut) (A:Option Addr) (n c:Nat) (A':Option Addr) (n' c':Nat),e=.returned (.tuple #[.agg #[t.al,.slice A n c,.slice A' n' c'],.bool true])∧zZ w' w.heap.size A n c A' n' c' t∧zej a t∧Ext w w'
theorem impl_MinimizeAutomaton (h:zO w lo hi B m B' m' a)(hv:zj a=true) :
  Calls Tryz.prog 37 #[.agg #[a.al,.slice B m d,.slice B' m' d']] w (RetMz w a):=by
 have H:=za (fun W (hW:Ext w W)=>h.ext hW);have D:=za (fun W (hW:Ext w W)=>zai _ _ _ _ d _ _ d' _ _ (h.ext hW));rw [hv] at D;have E:=za hv;clear h hv
 go_enter Tryz.func37,Tryz.ntmps37
 go_upto_region 1 with fail
 generalize U0:(w.alloc _).alloc _=U at *;obtain⟨q,F,I⟩:=Ext.x2_ U0;clear U0;have O:=F.cell;go_upto_region 3 with (go_at_call 25;refine (D.out _ q).mono (mQ fun Q i=>?_))
 have f:=q.trans i;have u:=F.ext i;have l:=I.ext i;have O:=u.cell;go_upto_region 99 with fail
 refine (zjh (H.out _ f) (fit_of E.out) oM).mono ?_;rintro e G ⟨t,A,n,c,j,s,o,rfl,x,z,r⟩;have g:=l.ext r;have T:=g.cell;have R:=g.frozen;have S:=l.lt;have C:=za ((f.trans r).frm (zU G (w.heap.size+1) (.int .i64 t.al) (.slice A n c) (.slice j s o)) (fun k hk e=>by have L:k=w.heap.size+1:=e;omega));have p:=za ((x.keep (zU G (w.heap.size+1) (.int .i64 t.al) (.slice A n c) (.slice j s o)) (fun b hb e=>by
  have L:b=w.heap.size+1:=e;omega)).less (show w.heap.size<=Q.heap.size by have:=f.size;omega))
 have y:=za (zal g rfl (.int .i64 t.al) (.slice A n c) (.slice j s o));have M:=za (z.same E.out);go_wp2_with fail
 have J:=y.out.cell;exact bodyPost_ret (v:=.tuple #[.agg #[t.al,.slice A n c,.slice j s o],.bool true]) (by simp [results,Tryz.results37,go_sem,J]) rfl ⟨t,A,n,c,j,s,o,rfl,p.out,M.out,C.out⟩
section
variable {s s' t t':Sys} {p p' a a':Aut} {L:Nat}
theorem zgn (hs:zei s s')(hp:zej p p') (hv:∀ l∈v,l<6):zcu [s] a p v↔zcu [s'] a p' v:=by
 unfold zcu;rw [hp.acc v hv];simp [hs.runs]
theorem breaks_same2 (hs:zei s s')(ht:zei t t')(hp:zej p p') (hv:∀ l∈v,l<6):zcu [s,t] a p v↔zcu [s',t'] a p' v:=by
 unfold zcu;rw [hp.acc v hv];simp [hs.runs,ht.runs]
theorem ziL (hs:zei s s')(hp:zej p p')(ha:zj a=true):zci s' a p'=zci s a p∧zbg s' a p'=zbg s a p:=by
 have e:zck s' a p'=zck s a p:=by unfold zck;rw [hs.v1,hs.v2,hp.v1,hp.v2]
 obtain⟨c,d⟩:=zgl (ss:=[s']) (ts:=[s]) (a:=a) (b:=a) (p:=p') (r:=p) (by simpa using hs.v2) (by simpa using hs.v1) ha ha hp.v2 hp.v1 (by simp [zH,hs.al])
  (fun v hv=>(zgn hs hp (over_lt hv)).symm)
 unfold zci zbg;rw [e,c,d];exact⟨rfl,rfl⟩
theorem zio (ht:zei t t')(hp:zej p p'):zbk [t'] p'=zbk [t] p∧zak [t'] p'=zak [t] p:=by
 have e:zbo [t'] p'=zbo [t] p:=by unfold zbo;rw [parts_one ht.v1 ht.v2,hp.v1,hp.v2]
 obtain⟨c,d⟩:=zgl (ss:=[t']) (ts:=[t]) (a:=free) (b:=free) (p:=p') (r:=p) (by simpa using ht.v2) (by simpa using ht.v1) dM dM hp.v2 hp.v1 (by simp [zH,ht.al])
  (fun v hv=>(zgn ht hp (over_lt hv)).symm)
 unfold zbk zak;rw [e,c,d];exact⟨rfl,rfl⟩
theorem brok_same2 (hs:zei s s')(ht:zei t t')(hp:zej p p'):zbk [s',t'] p'=zbk [s,t] p∧zak [s',t'] p'=zak [s,t] p:=by
 have e:zbo [s',t'] p'=zbo [s,t] p:=by unfold zbo;rw [parts_two hs.v1 hs.v2 ht.v1 ht.v2,hp.v1,hp.v2]
 obtain⟨c,d⟩:=zgl (ss:=[s',t']) (ts:=[s,t]) (a:=free) (b:=free) (p:=p') (r:=p) (by simp [hs.v2,ht.v2]) (by simp [hs.v1,ht.v1]) dM dM hp.v2 hp.v1 (by simp [zH,hs.al,ht.al])
  (fun v hv=>(breaks_same2 hs ht hp (over_lt hv)).symm)
 unfold zbk zak;rw [e,c,d];exact⟨rfl,rfl⟩
theorem in_over {x:ByteArray}(h:inB x L=true):∀ l∈wl x,l<6∧L.testBit l=true:=fun l hl=>by
 have hw:=zba h
 refine⟨zjJ hw l hl,?_⟩
 have h4:=(zem.1 h).2
 have h5:=(zdo (wl x) l).2 hl
 rw [← h4,Nat.testBit_and,dI] at h5
 exact h5.2
theorem bad_same (hs:zei s s')(hp:zej p p') {w:List Nat}(hw:∀ l∈w,l<6∧L.testBit l=true):Bad s' p' L w↔Bad s p L w:=by
 rw [bad_iff hw,bad_iff hw,hs.al];refine exists_congr fun v=>?_;constructor
 ·rintro ⟨a,b,c,d⟩;exact⟨a,b,(hs.runs v).2 c,by rw [hp.acc v (fun l hl=>(a l hl).1)];exact d⟩
 ·rintro ⟨a,b,c,d⟩;exact⟨a,b,(hs.runs v).1 c,by rw [← hp.acc v (fun l hl=>(a l hl).1)];exact d⟩
theorem zhu (hs:zei s s')(hp:zej p p'):zw s' p' L=zw s p L:=funext fun x=>by
 rw [Bool.eq_iff_iff,zcS,zcS]
 refine and_congr_right fun hin=>?_
 have hw:=in_over hin
 unfold SafeW
 refine forall_congr' fun k=>forall_congr' fun _=>not_congr ?_
 exact bad_same hs hp (fun l hl=>hw l (List.mem_of_mem_take hl))
theorem judge_same (hs:zei s s')(ht:zei t t')(hp:zej p p')(ha:zj a=true):zaX s' p' t' L a=zaX s p t L a:=by
 unfold zaX;rw [(ziL hs hp ha).1,(ziL hs hp ha).2,(zio ht (zej.refl ha)).1,(zio ht (zej.refl ha)).2,zhu hs hp]
theorem run_same (hs:zei s s')(ht:zei t t')(hp:zej p p')(h64:L<64):∀ (g k:Nat) (o:Option (List ByteArray × List ByteArray)),LnOk L (zw s p L) k o->runT s' t' p' L g k o=runT s t p L g k o:=by
 intro g
 induction g with
 |zero=>intro k o _;rw [runT,runT]
 |succ g ih =>
  intro k o ho;cases o with
  |none=>rw [runT,runT]
  |some tab =>
   obtain⟨f,b⟩:=tab;obtain⟨c,a⟩:=ho.tab f b rfl;have d:=zcM c a h64;rw [runT,runT,zhu hs hp,judge_same hs ht hp d,(brok_same2 hs ht hp).2,ih _ _ (ho.aw _)]
theorem vp_same (hs:zei s s')(ht:zei t t')(hp:zej p p')(h64:(iface s p t).toNat<64):vpT s' t' p'=vpT s t p:=by
 unfold vpT;rw [iface_same hs ht hp];split
 ·rfl
 ·rw [zhu hs hp];exact run_same hs ht hp h64 _ _ _ (LnOk.start _ _)
end
section
open Go.ChangeShapes Go.WideShapes Go.ChangeAt Go.Deep
def BytesAt (w:World) (A:Option Addr) (n c:Nat):Prop:=Bytes w A n∧n<=9223372036854775807∧n<=c∧c<=9223372036854775807
theorem arg_bytes {H:Type} {enc:TypeId × Value->H}  {spare:Nat->Bool} {held:Bool} {r:Reach} {b0:Nat} {v:Value} {d:DataW H} {p:List MemPlace}(hv:Value.okWide Tryz.prog w r b0 22 v)(h:DataW.Trod enc Tryz.prog w 0 spare held 22 v d p) :
  ∃ (A:Option Addr) (n c:Nat),v=.slice A n c∧BytesAt w A n c:=by
 obtain⟨a,l,k,rfl⟩:=okWide_slice Tryz.underlying22 hv;obtain⟨t,F⟩:=h;rcases open_slice1 Tryz.underlying22 kM F with ⟨f,_⟩|⟨s,L,B,m,n,V,D,M,f,R,G,J,q,_,z⟩
 ·simp [Value.cells] at f;obtain⟨rfl,rfl,rfl⟩:=f;exact⟨_,_,_,rfl,fun h=>absurd h oM,oM,Nat.le_refl _,oM⟩
 ·simp [Value.cells] at f;obtain⟨rfl,rfl,rfl⟩:=f;unfold maxLen at J;have I:l<=m:=by rw [q];split<;>omega
  refine⟨_,_,_,rfl,fun hn=>?_,oM,G,oM⟩;have u:=(z 0 oM).1;have y:=zdw u;have g:=World.block_lt_of_cell? w _ u;rw [zim] at g;refine⟨s.block,s.off,by rw [← y],g,fun j hj=>?_⟩;obtain⟨x,C⟩:=z j oM;obtain⟨b,i,_,o⟩:=DataW.trod_int Tryz.underlying5 C;have E:V j=.int .u8 b:=by simpa using i
  rw [E,y,zX] at x;have S:0<=b∧b<256:=by
   simp only [Lit.wf,dI,decide_eq_true_eq] at o;have O:IntKind.u8.min=0:=rfl;have Q:IntKind.u8.max=255:=rfl;omega
  refine⟨b.toNat,oM,?_⟩;rw [x];have:((b.toNat:Nat):Int)=b:=oM;rw [this]
end
end Go.Proofs.YtckbjnndaaoddaaGreatDoor
