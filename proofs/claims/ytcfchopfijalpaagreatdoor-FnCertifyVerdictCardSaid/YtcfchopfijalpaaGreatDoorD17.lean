/- spec.l9Spoil -/
import Derived.Test.YtcfchopfijalpaaGreatDoorD16
set_option maxHeartbeats 4000000
set_option maxRecDepth 100000
namespace Go.Proofs.YtcfchopfijalpaaGreatDoor
open Go Go.RowKit
open Bool renaming and_eq_true->dJ
open Ext renaming eq_->eZ,refl->cY
open List renaming mem_of_getElem?->dE
open Nat renaming zero_le->dI
open Reads renaming af->eF
variable {A A0 B B' C:Option Addr} {K L M R c c0 c2 d d' k m m' n n0:Nat} {S:Nat->Prop} {W w:World} {a p:Aut} {s t:Sys} {v:Value} {x:ByteArray}
theorem zjC {w':World}(h:Frm S w w') {p:Addr} (hv:w.cell? p=some v)(hp:¬ S p.block):w'.cell? p=some v:=
 (World.cell?_of_block (w:=w) (h.block _ (World.block_lt_of_cell? w p hv) hp)).trans hv
theorem zci.own {w0:World}    (h:zci w0 W R M L K s A n c t C k c2 p B m d B' m' d'):zci W W R M L K s A n c t C k c2 p B m d B' m' d':={ h with dr:=Dr.refl _ _,hR:=h.rd.lt }
theorem spec_l9Spoil (h:zci w w R M L K s A n c t C k c2 p B m d B' m' d')(hM:M<=600000000)(hL:L<=90000)(hK:K<=60) :
  Calls Tryz.prog 113 #[.pointer (some R),.agg #[s.al,s.st,.slice A n c],.agg #[p.al,.slice B m d,.slice B' m' d'],.agg #[t.al,t.st,.slice C k c2]] w (RetSPT R (M+100) (L+3) (K+39) w):=by
 have bn:=h.hR;have aj:Ext w ((((((w.alloc (.cells #[s.al,s.st,.slice A n c] 38)).alloc (.cells #[p.al,.slice B m d,.slice B' m' d'] 31)).alloc (.cells #[t.al,t.st,.slice C k c2] 38)).alloc (.cells #[(0:Int),(0:Int),()] 38)).alloc (.cells #[(0:Int),(),()] 31)).alloc (.cells #[(0:Int),(0:Int),()] 38)):=((((((cY _).alloc _).alloc _).alloc _).alloc _).alloc _).alloc _;obtain⟨b1,b2,b3⟩:=zL (cY (((w.alloc (.cells #[s.al,s.st,.slice A n c] 38)).alloc (.cells #[p.al,.slice B m d,.slice B' m' d'] 31)).alloc (.cells #[t.al,t.st,.slice C k c2] 38)))
 go_enter Tryz.func113,Tryz.ntmps113
 go_upto_region 1 with fail
 have av:(((w.alloc (.cells #[s.al,s.st,.slice A n c] 38)).alloc (.cells #[p.al,.slice B m d,.slice B' m' d'] 31)).alloc (.cells #[t.al,t.st,.slice C k c2] 38)).heap.size=w.heap.size+3:=sM;generalize ((w.alloc _).alloc _).alloc _=w0 at *;generalize U0:((w0.alloc _).alloc _).alloc _=w1 at *;obtain⟨U,z1,z2,z3⟩:=Ext.x3_ U0;clear U0;simp only [av] at z1 z2 z3;have ai:Tri w w1 R M L K (w.heap.size+1+1+1) (w.heap.size+1+1+1+1+1) (w.heap.size+1+1+1+1) w.heap.size (w.heap.size+1+1) (w.heap.size+1) s A n c t C k c2 p B m d B' m' d':=
  ⟨h.ext aj,z1,z3,z2,b1.ext U,b3.ext U,.inr (b2.ext U),oM,za (by unfold Ne6;omega)⟩
 have aw:=aj.size;clear z1 z2 z3 b1 b2 b3 aj U h av;have au:=za (show w.heap.size+1≠0 by omega);have S:=za (show Ne6 (w.heap.size+1+1+1) (w.heap.size+1+1+1+1+1) (w.heap.size+1+1+1+1) w.heap.size (w.heap.size+1+1) (w.heap.size+1) by unfold Ne6;omega);generalize hZt:w.heap.size+1+1+1+1+1=Zt at *;generalize hZp:w.heap.size+1+1+1+1=l at *;generalize hZs:w.heap.size+1+1+1=o at *;generalize hGt:w.heap.size+1+1=Gt at *;generalize hGp:w.heap.size+1=Gp at *;generalize hGs:w.heap.size=Gs at *;have F:=za (show w.heap.size<=o∧w.heap.size<=Zt∧w.heap.size<=l by omega);clear hZt hZp hZs hGt hGp hGs aw;go_wp2_with fail
 refine (zC ai.at_.rd oM).mono ?_;rintro e w2 ⟨y,rfl,-,-,f,g⟩;have a:=ai.drawn g f;clear ai f g;go_upto_block 0 with fail
 go_cut [] (fun wx=>∃ (s:Sys) (A:Option Addr) (n c:Nat) (t:Sys) (C:Option Addr) (k c2:Nat) (p:Aut) (B:Option Addr) (m d:Nat) (B':Option Addr) (m' d':Nat),Tri w wx R (M+100) (L+3) (K+39) (o) (Zt) (l) Gs (Gt) (Gp) s A n c t C k c2 p B m d B' m' d')
 case first =>
  have Q:y=0∨y=1∨y=2∨3<=y:=oM;rcases Q with hy|hy|hy|hy
  ·subst hy;have ay:True:=trivial;have Y:=a.bs.cell;go_wp2_with fail
   refine (zch (L:=L) a.at_.rd oM a.at_.is a.at_.ns.1.1 oM).mono ?_;rintro e v1 ⟨s1,A1,n1,d1,rfl,af,ab,x,D⟩;have i:=a.drawn D x;clear Y;go_wp2_with fail
   refine (zch (L:=L+1) i.at_.rd oM af ab.1 oM).mono ?_;rintro e v2 ⟨s2,A2,n2,d2,rfl,ag,ad,f,g⟩;have j:=i.drawn g f;go_wp2_with fail
   refine (zch (L:=L+2) j.at_.rd oM ag ad.1 oM).mono ?_;rintro e v3 ⟨s3,A3,n3,d3,rfl,ah,ae,G,E⟩;have b:=(j.drawn E G).more (N:=M+100) (J:=L+3) (H:=K+39) oM oM oM;have Y:=b.bs.cell;have fG:=b.bs.frozen;have z:=b.setS ah ae;go_wp2_with fail
   go_meet;exact⟨_,_,_,_,_,_,_,_,_,_,_,_,_,_,_,z⟩
  ·subst hy;have ay:True:=trivial;have u:=au.out;have Y:=(a.az u).cell;go_wp2_with fail
   refine (zeR a.at_.rd oM a.at_.ip a.at_.bd.out oM).mono ?_;rintro e v1 ⟨b1,A1,n1,d1,B1,m1,e1,rfl,aJ,aG,x,D⟩;have i:=a.drawn D x;have bo:=a.at_.rd.lt;have bp:=i.at_.rd.lt;clear Y;go_wp2_with fail
   refine (zeR x oM (aJ.less oM) aG.out oM).mono ?_;rintro e v2 ⟨b2,A2,n2,d2,B2,m2,e2,rfl,aK,aH,f,g⟩;have j:=i.drawn g f;have bq:=j.at_.rd.lt;go_wp2_with fail
   refine (zeR f oM (aK.less oM) aH.out oM).mono ?_;rintro e v3 ⟨b3,A3,n3,d3,B3,m3,e3,rfl,aL,aI,G,E⟩;have b:=(j.drawn E G).more (N:=M+100) (J:=L+3) (H:=K+39) oM oM oM;have Y:=(b.az u).cell;have fG:=(b.az u).frozen;have z:=b.setP u (aL.less oM) (BdL.more aI.out oM);go_wp2_with fail
   go_meet;exact⟨_,_,_,_,_,_,_,_,_,_,_,_,_,_,_,z⟩
  ·subst hy;have ay:True:=trivial;have Y:=a.bt.cell;go_wp2_with fail
   refine (zch (L:=L) a.at_.rd oM a.at_.it a.at_.ns.2.1 oM).mono ?_;rintro e v1 ⟨s1,A1,n1,d1,rfl,af,ab,x,D⟩;have i:=a.drawn D x;clear Y;go_wp2_with fail
   refine (zch (L:=L+1) i.at_.rd oM af ab.1 oM).mono ?_;rintro e v2 ⟨s2,A2,n2,d2,rfl,ag,ad,f,g⟩;have j:=i.drawn g f;go_wp2_with fail
   refine (zch (L:=L+2) j.at_.rd oM ag ad.1 oM).mono ?_;rintro e v3 ⟨s3,A3,n3,d3,rfl,ah,ae,G,E⟩;have b:=(j.drawn E G).more (N:=M+100) (J:=L+3) (H:=K+39) oM oM oM;have Y:=b.bt.cell;have fG:=b.bt.frozen;have z:=b.setT ah ae;go_wp2_with fail
   go_meet;exact⟨_,_,_,_,_,_,_,_,_,_,_,_,_,_,_,z⟩
  ·have h0:((y:Int)==0)=false:=by simp;omega
   have h1:((y:Int)==1)=false:=by simp;omega
   have h2:((y:Int)==2)=false:=by simp;omega
   go_wp2_with fail
   go_meet;exact⟨_,_,_,_,_,_,_,_,_,_,_,_,_,_,_,a.more oM oM oM⟩
 case rest =>
  clear a;obtain⟨s,A,n,c,t,C,k,c2,p,B,m,d,B',m',d',ht⟩:=hcut;have u:=au.out;obtain⟨O,aN⟩:∃ O,O=wc:=⟨_,rfl⟩;subst aN;have cS:∀ W,Frm (fun k=>k=o∨k=l) O W->∀ q,W.cell? ⟨Gs,q,none⟩=#[Value.int .i64 s.al,.int .i64 s.st,.slice A n c][q]?:=fun W hW=>(ht.bs.frm hW (by have:=S.out;unfold Ne6 at this;omega)).cell;have cT:∀ W,Frm (fun k=>k=o∨k=l) O W->∀ q,W.cell? ⟨Gt,q,none⟩=#[Value.int .i64 t.al,.int .i64 t.st,.slice C k c2][q]?:=fun W hW=>(ht.bt.frm hW (by have:=S.out;unfold Ne6 at this;omega)).cell;have cP:∀ W,Frm (fun k=>k=o∨k=l) O W->∀ q,W.cell? ⟨Gp,q,none⟩=#[Value.int .i64 p.al,.slice B m d,.slice B' m' d'][q]?:=fun W hW=>((ht.az u).frm hW (by have:=S.out;unfold Ne6 at this;omega)).cell;have aq:Frm (fun k=>k=o∨k=l) O O.drew:=(cY O).drew.aj;have I:=ht.ext (cY O).drew;go_wp2_with fail
  refine tR (fun X=>Frm (fun k=>k=o∨k=l) O X) [5] (Ord.of [0,1,2,3,4,5]) ?_;refine tQ ?_;generalize hwD:O.drew=wD at *;clear hwD;have Z:=I.at_;have zs:=I.zs;have V:=I.zt;have zp:=I.zp;have cs:=zs.cell;have fs:=zs.frozen;have r:=za S.out;clear I ht;refine zB fun K hK=>?_;go_simp;have q1:=zad zs rfl (.int .i64 s.al) (.int .i64 s.st) (.slice A n c);have e1:=zW wD o (.int .i64 s.al) (.int .i64 s.st) (.slice A n c);replace Z:=Z.far zs e1 F.out.1 dM dM;replace V:=V.frm e1 (by have:=r.out;unfold Ne6 at this;omega);replace zp:=zp.frm e1 (by have:=r.out;unfold Ne6 at this;omega);have aa:=aq.trans (e1.mono (T:=fun k=>k=o∨k=l) (fun k _ hk=>.inl hk));refine hK.out _ _ aa ?_;refine pT ?_;clear cs fs zs e1;generalize ((wD.setCell o s.al).setCell ⟨o,1,none⟩ s.st).setCell ⟨o,2,none⟩ (.slice A n c)=wA at *;have cp:=zp.cell;have fp:=zp.frozen;refine zB fun K hK=>?_;go_simp;have q2:=zad zp rfl (.int .i64 p.al) (.slice B m d) (.slice B' m' d');have e2:=zW wA l (.int .i64 p.al) (.slice B m d) (.slice B' m' d');replace Z:=Z.far zp e2 F.out.2.2 dM dM;replace V:=V.frm e2 (by have:=r.out;unfold Ne6 at this;omega);replace q1:=q1.frm e2 (by have:=r.out;unfold Ne6 at this;omega);have ar:=aa.trans (e2.mono (T:=fun k=>k=o∨k=l) (fun k _ hk=>.inr hk));refine hK.out _ _ ar ?_;refine pT ?_;clear cp fp zp e2 aa;generalize ((wA.setCell l p.al).setCell ⟨l,1,none⟩ (.slice B m d)).setCell ⟨l,2,none⟩ (.slice B' m' d')=wB at *;have ct:=V.cell;have ft:=V.frozen;refine zU fun K hK=>?_;go_simp;have q3:=zad V rfl (.int .i64 t.al) (.int .i64 t.st) (.slice C k c2);have e3:=zW wB Zt (.int .i64 t.al) (.int .i64 t.st) (.slice C k c2);replace Z:=Z.far V e3 F.out.2.1 dM dM;replace q1:=q1.frm e3 (by have:=r.out;unfold Ne6 at this;omega);replace q2:=q2.frm e3 (by have:=r.out;unfold Ne6 at this;omega);refine hK.out _ _ ?_;refine zaq ?_;clear ct ft V e3 ar aq cS cT cP;generalize ((wB.setCell Zt t.al).setCell ⟨Zt,1,none⟩ t.st).setCell ⟨Zt,2,none⟩ (.slice C k c2)=wC at *;have aF:=za Z;clear Z;go_wp2_with fail
  have c1:=q1.cell;have aE:=q2.cell;have c3:=q3.cell;exact bodyPost_ret (v:=.tuple #[.agg #[s.al,s.st,.slice A n c],.agg #[p.al,.slice B m d,.slice B' m' d'],.agg #[t.al,t.st,.slice C k c2]]) (by simp [results,Tryz.results113,go_sem,c1,aE,c3]) rfl ⟨s,A,n,c,t,C,k,c2,p,B,m,d,B',m',d',rfl,aF.out⟩
theorem spec_l12Draw (h:Rd w R M)(hM:M<=500000000) :
  Calls Tryz.prog 110 #[.pointer (some R)] w (RetSTP R (M+200000) 30000 50 w):=by
 have aP:=h.lt
 go_enter Tryz.func110,Tryz.ntmps110
 go_upto_region 1 with fail
 generalize U0:((w.alloc _).alloc _).alloc _=w0 at *;obtain⟨aZ,z1,z2,z3⟩:=Ext.x3_ U0;have cw:w0.heap.size=w.heap.size+3:=by rw [← U0];simp
 clear U0;go_upto_region 2 with (first
  |(go_at_call 189;refine (spec_l9Three (h.ext aZ) oM).mono ?_;rintro e U ⟨s,A,n,c,t,C,k,E,p,B,m,d,D,Q,I,rfl,S⟩))
 have ad:Ext U (((U.alloc (.cells #[s.al,s.st,.slice A n c] 38)).alloc (.cells #[p.al,.slice B m d,.slice D Q I] 31)).alloc (.cells #[t.al,t.st,.slice C k E] 38)):=(((cY _).alloc _).alloc _).alloc _;obtain⟨b1,b2,b3⟩:=zL (cY (((U.alloc (.cells #[s.al,s.st,.slice A n c] 38)).alloc (.cells #[p.al,.slice B m d,.slice D Q I] 31)).alloc (.cells #[t.al,t.st,.slice C k E] 38)));have bu:=S.dr.size;have aG:Tri w (((U.alloc (.cells #[s.al,s.st,.slice A n c] 38)).alloc (.cells #[p.al,.slice B m d,.slice D Q I] 31)).alloc (.cells #[t.al,t.st,.slice C k E] 38)) R (M+150000) 30000 50 w.heap.size (w.heap.size+1) (w.heap.size+1+1) U.heap.size (U.heap.size+1+1) (U.heap.size+1) s A n c t C k E p B m d D Q I:=
  ⟨((S.less aZ.dr aP).ext ad).more oM oM oM,(z1.dr S.dr oM).ext ad,(z2.dr S.dr oM).ext ad,(z3.dr S.dr oM).ext ad,b1,b3,.inr b2,oM,za (by unfold Ne6;omega)⟩
 clear S b1 b2 b3 z1 z2 z3 ad;have Z:=za (show w.heap.size+3<=U.heap.size by omega);have bg:(((U.alloc (.cells #[s.al,s.st,.slice A n c] 38)).alloc (.cells #[p.al,.slice B m d,.slice D Q I] 31)).alloc (.cells #[t.al,t.st,.slice C k E] 38)).heap.size=U.heap.size+3:=sM;clear bu;generalize hG:U.heap.size=G at *;generalize ((U.alloc _).alloc _).alloc _=w2 at *;clear hG U;go_wp2_with fail
 refine (zC aG.at_.rd oM).mono ?_;rintro e w3 ⟨y,rfl,-,-,aW,aC⟩;have ab:=aG.drawn aC aW;have f:=za (show G+3<=w3.heap.size by have:=aC.size;omega);clear aG aW aC bg;go_upto_if 18 with fail
 go_cut [] (fun wx=>∃ (s:Sys) (A:Option Addr) (n c:Nat) (t:Sys) (C:Option Addr) (k E:Nat) (p:Aut) (B:Option Addr) (m d:Nat) (D:Option Addr) (Q I:Nat),Tri w wx R (M+200000) 30000 50 w.heap.size (w.heap.size+1) (w.heap.size+1+1) G (G+1+1) (G+1) s A n c t C k E p B m d D Q I)
 case first =>
  by_cases hy:y=0
  ·subst hy;have cy:True:=trivial;have r:G+1≠0:=oM;go_wp2_with fail
   refine (zjU).mono ?_;rintro e w4 ⟨g,rfl,hg,hT,a0⟩;have aH:=ab.ext a0;have hq:=ab.at_.rd.lt;clear ab;have bN:=a0.size;go_wp2_with fail
   refine (zC aH.at_.rd oM).mono ?_;rintro e w5 ⟨j,rfl,hj,-,bp,aD⟩;have bl:j<9:=by have:=hj oM;omega
   have aI:=aH.drawn aD bp;obtain⟨bt,lt,aT,bm,ah,aV⟩:=hT j bl;have aN:=aD.aa aT (by dsimp only;omega);have x:=zbI aV aD (fun b h1 e=>oM);have bM:(j:Int)<9:=oM;clear hj hT aT aV aH;have co:w3.heap.size<=bt:=(x.lt bt rfl).1;obtain⟨b7,x0,e0,_,_,aw,aO⟩:=(eF x).str (show 0<3 by omega);obtain⟨b8,x1,e1,_,_,ax,az⟩:=(eF x).str (show 1<3 by omega);obtain⟨b9,x2,e2,_,_,ay,aA⟩:=(eF x).str (show 2<3 by omega);obtain rfl:=Option.some.inj e0;obtain rfl:=Option.some.inj e1;obtain rfl:=Option.some.inj e2;have bO:=ah.1 x0 (dE aw.out);have bP:=ah.1 x1 (dE ax.out);have bQ:=ah.2 x2 ay.out;rw [zZ,Nat.zero_add] at aO az aA;clear e0 e1 e2 aw ax ay ah bm x;go_wp2_with fail
   refine (zcW aI.at_.rd oM).mono ?_;rintro e w6 ⟨s1,A1,n1,c1,ok,rfl,bq,⟨-,bj⟩,cq,aX,Y⟩;have cn:=za (show R<w.heap.size from aP);have l:=aI.drawn Y aX;have F:=l.bs.cell;have fG:=l.bs.frozen;have o:=l.setS bq (by omega:n1<=30000∧n1<=c1);have f1:=zW w6 G (.int .i64 s1.al) (.int .i64 s1.st) (.slice A1 n1 c1);have a1:=(Y.aa az (by have:=f.out;have:=Z.out;dsimp only;omega));have ae:=(Y.aa aA (by have:=f.out;have:=Z.out;dsimp only;omega));have kt:=(Y.aa aN (by have:=f.out;have:=Z.out;dsimp only;omega));have bx:=zjC f1 a1 (by have:=f.out;dsimp only;omega);have a2:=zjC f1 ae (by have:=f.out;dsimp only;omega);clear aO az aA aN a1 ae kt aI l f1 Y aX;go_upto_region 6 with fail
   clear F fG;generalize ((w6.setCell G s1.al).setCell ⟨G,1,none⟩ s1.st).setCell ⟨G,2,none⟩ (.slice A1 n1 c1)=w7 at *;go_wp2_with fail
   refine (zcW o.at_.rd oM).mono ?_;rintro e w8 ⟨s2,A2,n2,d2,cC,rfl,br,⟨-,bk⟩,cr,aY,aE⟩;have ai:=o.drawn aE aY;have F:=ai.bt.cell;have fG:=ai.bt.frozen;have O:=ai.setT br (by omega:n2<=30000∧n2<=d2);have f2:=zW w8 (G+1+1) (.int .i64 s2.al) (.int .i64 s2.st) (.slice A2 n2 d2);have ae:=(aE.aa a2 (by have:=f.out;have:=Z.out;dsimp only;omega));have bz:=zjC f2 ae (by have:=f.out;dsimp only;omega);clear bx a2 ae o ai f2 aE aY;go_upto_region 7 with fail
   clear F fG;generalize ((w8.setCell ⟨G+1+1,0,none⟩ s2.al).setCell ⟨G+1+1,1,none⟩ s2.st).setCell ⟨G+1+1,2,none⟩ (.slice A2 n2 d2)=w9 at *;go_wp2_with fail
   refine (zfJ O.at_.rd oM).mono ?_;rintro e bB ⟨b1,A3,n3,d3,A4,n4,d4,cD,rfl,aU,aS,au,aq⟩;have cv:=O.at_.rd.lt;have aj:=O.drawn aq au;have F:=(aj.az r).cell;have fG:=(aj.az r).frozen;have V:=aj.setP r (aU.less oM) (BdL.more aS.out oM);clear bz O aj aq au aU;go_upto_region 8 with fail
   clear F fG;generalize ((bB.setCell ⟨G+1,0,none⟩ b1.al).setCell ⟨G+1,1,none⟩ (.slice A3 n3 d3)).setCell ⟨G+1,2,none⟩ (.slice A4 n4 d4)=cI at *;go_wp2_with fail
   refine (zC V.at_.rd oM).mono ?_;rintro e cJ ⟨y,rfl,-,-,av,ar⟩;have a:=V.drawn ar av;clear V av ar;have ag:y=0∨y=1∨y=2∨3<=y:=oM;rcases ag with hy|hy|hy|hy
   ·subst hy;have F:=a.bs.cell;go_wp2_with fail
    refine (zfu (L:=1001) a.at_.rd oM a.at_.is bj oM oM).mono ?_;rintro e a4 ⟨s5,A5,n5,d5,rfl,aF,bn,z,u⟩;have i:=(a.drawn u z).more (N:=M+200000) (J:=30000) (H:=50) oM oM oM;clear F;have F:=i.bs.cell;have fG:=i.bs.frozen;have o:=i.setS aF (by omega:n5<=30000∧n5<=d5);go_wp2_with fail
    go_meet;exact⟨_,_,_,_,_,_,_,_,_,_,_,_,_,_,_,o⟩
   ·subst hy;have F:=a.bt.cell;go_wp2_with fail
    refine (zfu (L:=1001) a.at_.rd oM a.at_.it bk oM oM).mono ?_;rintro e a4 ⟨s5,A5,n5,d5,rfl,aF,bn,z,u⟩;have i:=(a.drawn u z).more (N:=M+200000) (J:=30000) (H:=50) oM oM oM;clear F;have F:=i.bt.cell;have fG:=i.bt.frozen;have o:=i.setT aF (by omega:n5<=30000∧n5<=d5);go_wp2_with fail
    go_meet;exact⟨_,_,_,_,_,_,_,_,_,_,_,_,_,_,_,o⟩
   ·subst hy;have F:=(a.az r).cell;go_wp2_with fail
    refine (zjV (L:=x2.size+1) a.at_.rd oM a.at_.ip aS.out oM).mono ?_;rintro e a4 ⟨b5,A5,n5,d5,A6,n6,d6,rfl,bo,bi,z,u⟩;have hq:=a.at_.rd.lt;have i:=(a.drawn u z).more (N:=M+200000) (J:=30000) (H:=50) oM oM oM;clear F;have F:=(i.az r).cell;have fG:=(i.az r).frozen;have o:=i.setP r (bo.less oM) (BdL.more bi.out oM);go_wp2_with fail
    go_meet;exact⟨_,_,_,_,_,_,_,_,_,_,_,_,_,_,_,o⟩
   ·have h0:((y:Int)==0)=false:=by simp;omega
    have h1:((y:Int)==1)=false:=by simp;omega
    have h2:((y:Int)==2)=false:=by simp;omega
    go_wp2_with fail
    go_meet;exact⟨_,_,_,_,_,_,_,_,_,_,_,_,_,_,_,a.more oM oM oM⟩
  ·have cx:((y:Int)==0)=false:=by simp;omega
   go_wp2_with fail
   go_meet;exact⟨_,_,_,_,_,_,_,_,_,_,_,_,_,_,_,ab.more oM oM oM⟩
 case rest =>
  clear ab;obtain⟨s,A,n,c,t,C,k,E,p,B,m,d,D,Q,I,S⟩:=hcut;have r:G+1≠0:=oM;have aa:Hid (G+3<=wc.heap.size∧w.heap.size+3<=G):=za ⟨by have:=(S.bt).lt;omega,Z.out⟩;obtain⟨wE,bw⟩:∃ wE,wE=wc:=⟨_,rfl⟩;subst bw;have cS:∀ W,Frm (fun k=>k=w.heap.size∨k=w.heap.size+1) wE W->∀ q,W.cell? ⟨G,q,none⟩=#[Value.int .i64 s.al,.int .i64 s.st,.slice A n c][q]?:=fun W hW=>(S.bs.frm hW (oH aa.out)).cell;have cT:∀ W,Frm (fun k=>k=w.heap.size∨k=w.heap.size+1) wE W->∀ q,W.cell? ⟨G+1+1,q,none⟩=#[Value.int .i64 t.al,.int .i64 t.st,.slice C k E][q]?:=fun W hW=>(S.bt.frm hW (oH aa.out)).cell;have cP:∀ W,Frm (fun k=>k=w.heap.size∨k=w.heap.size+1) wE W->∀ q,W.cell? ⟨G+1,q,none⟩=#[Value.int .i64 p.al,.slice B m d,.slice D Q I][q]?:=fun W hW=>((S.az r).frm hW (oH aa.out)).cell;have aQ:Frm (fun k=>k=w.heap.size∨k=w.heap.size+1) wE wE.drew:=(cY wE).drew.aj;have l:=S.ext (cY wE).drew;go_wp2_with fail
  refine tR (fun X=>Frm (fun k=>k=w.heap.size∨k=w.heap.size+1) wE X) [5] (Ord.of [0,1,2,3,4,5]) ?_;refine tQ ?_;generalize hwD:wE.drew=wD at *;clear hwD;have ha:=l.at_;have zs:=l.zs;have zt:=l.zt;have zp:=l.zp;have cs:=zs.cell;have fs:=zs.frozen;clear l S;refine zB fun K hK=>?_;go_simp;have q1:=zad zs rfl (.int .i64 s.al) (.int .i64 s.st) (.slice A n c);have e1:=zW wD w.heap.size (.int .i64 s.al) (.int .i64 s.st) (.slice A n c);replace ha:=ha.far zs e1 oM dM dM;replace zt:=zt.frm e1 oM;replace zp:=zp.frm e1 oM;have aB:=aQ.trans (e1.mono (T:=fun k=>k=w.heap.size∨k=w.heap.size+1) (fun k _ hk=>.inl hk));refine hK.out _ _ aB ?_;refine pT ?_;clear cs fs zs e1;generalize ((wD.setCell w.heap.size s.al).setCell ⟨w.heap.size,1,none⟩ s.st).setCell ⟨w.heap.size,2,none⟩ (.slice A n c)=wA at *;have ct:=zt.cell;have ft:=zt.frozen;refine zB fun K hK=>?_;go_simp;have q2:=zad zt rfl (.int .i64 t.al) (.int .i64 t.st) (.slice C k E);have e2:=zW wA (w.heap.size+1) (.int .i64 t.al) (.int .i64 t.st) (.slice C k E);replace ha:=ha.far zt e2 oM dM dM;replace zp:=zp.frm e2 oM;replace q1:=q1.frm e2 oM;have aR:=aB.trans (e2.mono (T:=fun k=>k=w.heap.size∨k=w.heap.size+1) (fun k _ hk=>.inr hk));refine hK.out _ _ aR ?_;refine pT ?_;clear ct ft zt e2 aB;generalize ((wA.setCell ⟨w.heap.size+1,0,none⟩ t.al).setCell ⟨w.heap.size+1,1,none⟩ t.st).setCell ⟨w.heap.size+1,2,none⟩ (.slice C k E)=wB at *;have cp:=zp.cell;have fp:=zp.frozen;refine zU fun K hK=>?_;go_simp;have q3:=zad zp rfl (.int .i64 p.al) (.slice B m d) (.slice D Q I);have e3:=zW wB (w.heap.size+1+1) (.int .i64 p.al) (.slice B m d) (.slice D Q I);replace ha:=ha.far zp e3 oM dM dM;replace q1:=q1.frm e3 oM;replace q2:=q2.frm e3 oM;refine hK.out _ _ ?_;refine zaq ?_;clear cp fp zp e3 aR aQ cS cT cP;generalize ((wB.setCell ⟨w.heap.size+1+1,0,none⟩ p.al).setCell ⟨w.heap.size+1+1,1,none⟩ (.slice B m d)).setCell ⟨w.heap.size+1+1,2,none⟩ (.slice D Q I)=wC at *;have bh:=za ha;clear ha;go_wp2_with fail
  have c1:=q1.cell;have bd:=q2.cell;have c3:=q3.cell;exact bodyPost_ret (v:=.tuple #[.agg #[s.al,s.st,.slice A n c],.agg #[t.al,t.st,.slice C k E],.agg #[p.al,.slice B m d,.slice D Q I]]) (by simp [results,Tryz.results110,go_sem,c1,bd,c3]) rfl ⟨s,A,n,c,t,C,k,E,p,B,m,d,D,Q,I,rfl,bh.out⟩
theorem zab.at_new {base lo:Nat}   {A':Option Addr} {n' c':Nat} (h:zab w base A n c A' n' c' a)(hl:lo<=base):zH w lo w.heap.size A n A' n' a:=(h.less hl).reads
theorem zii (h:Rd w R M)(hM:M<=400000000) :
  Calls Tryz.prog 96 #[.pointer (some R)] w (RetSTP R (M+200100) 30003 89 w):=by
 have au:=h.lt
 go_enter Tryz.func96,Tryz.ntmps96
 go_upto_region 1 with fail
 generalize U0:((w.alloc _).alloc _).alloc _=w0 at *;obtain⟨ai,r,u,y⟩:=Ext.x3_ U0;have a3:w0.heap.size=w.heap.size+3:=by rw [← U0];simp
 clear U0;go_upto_region 2 with (first
  |(go_at_call 110;refine (spec_l12Draw (h.ext ai) oM).mono ?_;rintro e w1 ⟨s,A,n,c,t,C,k,c2,p,B,m,d,B',m',d',rfl,ht⟩))
 obtain⟨w2,U0⟩:∃ x,Hid (((w1.alloc (.cells #[s.al,s.st,.slice A n c] 38)).alloc (.cells #[t.al,t.st,.slice C k c2] 38)).alloc (.cells #[p.al,.slice B m d,.slice B' m' d'] 31)=x):=⟨_,za rfl⟩;have H:Ext w1 w2:=((((cY _).alloc _).alloc _).alloc _).trans (eZ U0.out);obtain⟨b1,z,I⟩:=zL (eZ U0.out);have a4:=ht.dr.size;have zz:=za (And.intro ((r.dr ht.dr oM).ext H) (And.intro ((u.dr ht.dr oM).ext H) ((y.dr ht.dr oM).ext H)));have V:=(ht.less ai.dr au).ext H;have aF:w2.heap.size=w1.heap.size+3:=by rw [← U0.out];simp
 have aC:w.heap.size+3<=w1.heap.size:=oM;clear ht H r u y ai;generalize hG:w1.heap.size=G at *;rw [U0.out] at *;clear hG;have cS:=b1.cell;have cT:=z.cell;have cP:=I.cell;have HS:=za (spec_l9Spoil V.own oM oM oM);go_wp2_with fail
 refine HS.out.mono ?_;rintro e w7 ⟨j,J,n7,Q,l,O,Y,S,p7,L,Z,U,b,g,f,rfl,ah⟩;have a2:=V.rd.lt;have o:=ah.dr;have i:=ah.less V.dr au;replace b1:=b1.dr o oM;replace z:=z.dr o oM;replace I:=I.dr o oM;obtain⟨r,u,y⟩:=zz.out;replace zz:=za (And.intro (r.dr o oM) (And.intro (u.dr o oM) (y.dr o oM)));clear V ah o r u y HS cS cT cP;have cS:=b1.cell;have fS:=b1.frozen;have cT:=z.cell;have fT:=z.frozen;have cP:=I.cell;have fP:=I.frozen;go_upto_region 3 with fail
 have a:=zW w7 G (.int .i64 j.al) (.int .i64 j.st) (.slice J n7 Q);have D:=zad b1 rfl (.int .i64 j.al) (.int .i64 j.st) (.slice J n7 Q);replace i:=i.far b1 a oM dM dM;replace z:=z.frm a oM;replace I:=I.frm a oM;obtain⟨r,u,y⟩:=zz.out;replace r:=r.frm a oM;replace u:=u.frm a oM;replace y:=y.frm a oM;clear zz a b1 cS fS cT fT cP fP;generalize ((w7.setCell G j.al).setCell ⟨G,1,none⟩ j.st).setCell ⟨G,2,none⟩ (.slice J n7 Q)=w8 at *;have a:=zW w8 (G+1+1) (.int .i64 p7.al) (.slice L Z U) (.slice b g f);have q3:=zad I rfl (.int .i64 p7.al) (.slice L Z U) (.slice b g f);replace i:=i.far I a oM dM dM;replace z:=z.frm a oM;replace D:=D.frm a oM;replace r:=r.frm a oM;replace u:=u.frm a oM;replace y:=y.frm a oM;clear a I;generalize ((w8.setCell ⟨G+1+1,0,none⟩ p7.al).setCell ⟨G+1+1,1,none⟩ (.slice L Z U)).setCell ⟨G+1+1,2,none⟩ (.slice b g f)=w9 at *;have a:=zW w9 (G+1) (.int .i64 l.al) (.int .i64 l.st) (.slice O Y S);have q2:=zad z rfl (.int .i64 l.al) (.int .i64 l.st) (.slice O Y S);replace i:=i.far z a oM dM dM;replace D:=D.frm a oM;replace q3:=q3.frm a oM;replace r:=r.frm a oM;replace u:=u.frm a oM;replace y:=y.frm a oM;clear a z;generalize ((w9.setCell ⟨G+1,0,none⟩ l.al).setCell ⟨G+1,1,none⟩ l.st).setCell ⟨G+1,2,none⟩ (.slice O Y S)=E at *;have F:Hid (w.heap.size+3<=G):=za aC;have cS:∀ W,Frm (fun k=>k=w.heap.size∨k=w.heap.size+1) E W->∀ q,W.cell? ⟨G,q,none⟩=#[Value.int .i64 j.al,.int .i64 j.st,.slice J n7 Q][q]?:=fun W hW=>(D.frm hW (oH F.out)).cell;have cT:∀ W,Frm (fun k=>k=w.heap.size∨k=w.heap.size+1) E W->∀ q,W.cell? ⟨G+1,q,none⟩=#[Value.int .i64 l.al,.int .i64 l.st,.slice O Y S][q]?:=fun W hW=>(q2.frm hW (oH F.out)).cell;have cP:∀ W,Frm (fun k=>k=w.heap.size∨k=w.heap.size+1) E W->∀ q,W.cell? ⟨G+1+1,q,none⟩=#[Value.int .i64 p7.al,.slice L Z U,.slice b g f][q]?:=fun W hW=>(q3.frm hW (oH F.out)).cell;have av:Frm (fun k=>k=w.heap.size∨k=w.heap.size+1) E E.drew:=(cY E).drew.aj;have ha:=i.ext (cY E).drew;have zs:=r.ext (cY E).drew;have zt:=u.ext (cY E).drew;have zp:=y.ext (cY E).drew;clear D q2 q3 r u y i;go_wp2_with fail
 refine tR (fun X=>Frm (fun k=>k=w.heap.size∨k=w.heap.size+1) E X) [5] (Ord.of [0,1,2,3,4,5]) ?_;refine tQ ?_;generalize hwD:E.drew=wD at *;clear hwD;have cs:=zs.cell;have fs:=zs.frozen;refine zB fun K hK=>?_;go_simp;have D:=zad zs rfl (.int .i64 j.al) (.int .i64 j.st) (.slice J n7 Q);have a:=zW wD w.heap.size (.int .i64 j.al) (.int .i64 j.st) (.slice J n7 Q);replace ha:=ha.far zs a oM dM dM;replace zt:=zt.frm a oM;replace zp:=zp.frm a oM;have ag:=av.trans (a.mono (T:=fun k=>k=w.heap.size∨k=w.heap.size+1) (fun k _ hk=>.inl hk));refine hK.out _ _ ag ?_;refine pT ?_;clear cs fs zs a;generalize ((wD.setCell w.heap.size j.al).setCell ⟨w.heap.size,1,none⟩ j.st).setCell ⟨w.heap.size,2,none⟩ (.slice J n7 Q)=wA at *;have ct:=zt.cell;have ft:=zt.frozen;refine zB fun K hK=>?_;go_simp;have q2:=zad zt rfl (.int .i64 l.al) (.int .i64 l.st) (.slice O Y S);have e2:=zW wA (w.heap.size+1) (.int .i64 l.al) (.int .i64 l.st) (.slice O Y S);replace ha:=ha.far zt e2 oM dM dM;replace zp:=zp.frm e2 oM;replace D:=D.frm e2 oM;have aw:=ag.trans (e2.mono (T:=fun k=>k=w.heap.size∨k=w.heap.size+1) (fun k _ hk=>.inr hk));refine hK.out _ _ aw ?_;refine pT ?_;clear ct ft zt e2 ag;generalize ((wA.setCell ⟨w.heap.size+1,0,none⟩ l.al).setCell ⟨w.heap.size+1,1,none⟩ l.st).setCell ⟨w.heap.size+1,2,none⟩ (.slice O Y S)=wB at *;have cp:=zp.cell;have fp:=zp.frozen;refine zU fun K hK=>?_;go_simp;have q3:=zad zp rfl (.int .i64 p7.al) (.slice L Z U) (.slice b g f);have e3:=zW wB (w.heap.size+1+1) (.int .i64 p7.al) (.slice L Z U) (.slice b g f);replace ha:=ha.far zp e3 oM dM dM;replace D:=D.frm e3 oM;replace q2:=q2.frm e3 oM;refine hK.out _ _ ?_;refine zaq ?_;clear cp fp zp e3 aw av cS cT cP;generalize ((wB.setCell ⟨w.heap.size+1+1,0,none⟩ p7.al).setCell ⟨w.heap.size+1+1,1,none⟩ (.slice L Z U)).setCell ⟨w.heap.size+1+1,2,none⟩ (.slice b g f)=wC at *;have aD:=za ha;clear ha;go_wp2_with fail
 have c1:=D.cell;have aB:=q2.cell;have c3:=q3.cell;exact bodyPost_ret (v:=.tuple #[.agg #[j.al,j.st,.slice J n7 Q],.agg #[l.al,l.st,.slice O Y S],.agg #[p7.al,.slice L Z U,.slice b g f]]) (by simp [results,Tryz.results96,go_sem,c1,aB,c3]) rfl ⟨j,J,n7,Q,l,O,Y,S,p7,L,Z,U,b,g,f,rfl,aD.out⟩
def RetD3 (w:World) (e:Ending) (w':World):Prop:=
 ∃ (s:Sys) (A:Option Addr) (n c:Nat) (t:Sys) (C:Option Addr) (k c2:Nat) (p:Aut) (B:Option Addr) (m d:Nat) (B':Option Addr) (m' d':Nat),
  e=.returned (.tuple #[.agg #[s.al,s.st,.slice A n c],.agg #[t.al,t.st,.slice C k c2],.agg #[p.al,.slice B m d,.slice B' m' d']]) ∧
  (zP w' w.heap.size w'.heap.size A n s∧zP w' w.heap.size w'.heap.size C k t∧zH w' w.heap.size w'.heap.size B m B' m' p) ∧
  Hid ((n<=100000∧n<=c)∧(k<=100000∧k<=c2))∧Ext w w'
theorem draw_d3 {w1 W':World} (hx:Ext w w1)(hR:w.heap.size<=R)(hT:zci w1 W R M L K s A n c t C k c2 p B m d B' m' d')
  (hF:Frm S W W') (hS:∀ k,S k->w.heap.size<=k∧k<R) (hL:L<=100000) :
  RetD3 w (.returned (.tuple #[.agg #[s.al,s.st,.slice A n c],.agg #[t.al,t.st,.slice C k c2],.agg #[p.al,.slice B m d,.slice B' m' d']])) W':=by
 have a:Ext w W:=Dr.new hx hR hT.dr;have f:=hT.is.frm hF (fun k hk h1=>by have:=hS k hk;omega);have g:=hT.it.frm hF (fun k hk h1=>by have:=hS k hk;omega);have h:=hT.ip.keep hF (fun k h1 hk=>by have:=hS k hk;omega);have b:=hT.ns;exact⟨s,A,n,c,t,C,k,c2,p,B,m,d,B',m',d',rfl,⟨f.new hR,g.new hR,h.at_new oM⟩,za oM,a.frm hF (fun k hk hk2=>by have:=hS k hk2;omega)⟩
theorem spec_DrawVerifyPair (h:Bytes w A0 n0)(hn:n0<=9223372036854775807)(hc:n0<=c0)(hc2:c0<=9223372036854775807) :
  Calls Tryz.prog 42 #[.slice A0 n0 c0] w (RetD3 w):=by
 obtain⟨L,U0⟩:∃ x,Hid (((w.alloc (.cells #[(0:Int),(0:Int),()] 38)).alloc (.cells #[(0:Int),(0:Int),()] 38)).alloc (.cells #[(0:Int),(),()] 31)=x):=⟨_,za rfl⟩;have f:Ext w L:=((((cY _).alloc _).alloc _).alloc _).trans (eZ U0.out);obtain⟨g,i,j⟩:=zL (eZ U0.out);have Y:L.heap.size=w.heap.size+3:=by rw [← U0.out];simp
 have X:=za (h.ext f);clear h
 go_enter Tryz.func42,Tryz.ntmps42
 go_wp2_with fail
 rw [U0.out] at *;refine (zgT X.out hn hc hc2).mono ?_;rintro e w1 ⟨R,rfl,hR,l,a⟩;have b:=f.trans a;have V:=l.lt;go_wp2_with fail
 refine (zii l oM).mono ?_;rintro e F ⟨s,A,n,c,t,C,k,o,p,B,m,d,z,E,D,rfl,y⟩;replace g:=(g.ext a).dr y.dr oM;replace i:=(i.ext a).dr y.dr oM;replace j:=(j.ext a).dr y.dr oM;have c1:=g.cell;have f1:=g.frozen;have U:=i.cell;have f2:=i.frozen;have c3:=j.cell;have f3:=j.frozen;have q:=zW F w.heap.size (.int .i64 s.al) (.int .i64 s.st) (.slice A n c);have r:=zW (((F.setCell w.heap.size s.al).setCell ⟨w.heap.size,1,none⟩ s.st).setCell ⟨w.heap.size,2,none⟩ (.slice A n c)) (w.heap.size+1) (.int .i64 t.al) (.int .i64 t.st) (.slice C k o);have u:=zW ((((((F.setCell w.heap.size s.al).setCell ⟨w.heap.size,1,none⟩ s.st).setCell ⟨w.heap.size,2,none⟩ (.slice A n c)).setCell ⟨w.heap.size+1,0,none⟩ t.al).setCell ⟨w.heap.size+1,1,none⟩ t.st).setCell ⟨w.heap.size+1,2,none⟩ (.slice C k o)) (w.heap.size+1+1) (.int .i64 p.al) (.slice B m d) (.slice z E D);have H:=((zad g rfl (.int .i64 s.al) (.int .i64 s.st) (.slice A n c)).frm r oM).frm u oM;have I:=(zad (i.frm q oM) rfl (.int .i64 t.al) (.int .i64 t.st) (.slice C k o)).frm u oM;have J:=zad ((j.frm q oM).frm r oM) rfl (.int .i64 p.al) (.slice B m d) (.slice z E D);have G:=((q.mono (T:=fun k=>k=w.heap.size∨k=w.heap.size+1∨k=w.heap.size+1+1) (fun k _ hk=>.inl hk)).trans (r.mono (T:=fun k=>k=w.heap.size∨k=w.heap.size+1∨k=w.heap.size+1+1) (fun k _ hk=>.inr (.inl hk)))).trans (u.mono (T:=fun k=>k=w.heap.size∨k=w.heap.size+1∨k=w.heap.size+1+1) (fun k _ hk=>.inr (.inr hk)));have M:=za (draw_d3 b oM y G (fun k hk=>oM) oM);have O:=za H;have Q:=za I;have S:=za J;clear q r u H I J G g i j f a b;go_wp2_with fail
 have Z:=O.out.cell;have r2:=Q.out.cell;have r3:=S.out.cell;exact bodyPost_ret (v:=.tuple #[.agg #[s.al,s.st,.slice A n c],.agg #[t.al,t.st,.slice C k o],.agg #[p.al,.slice B m d,.slice z E D]]) (by simp [results,Tryz.results42,go_sem,Z,r2,r3]) rfl M.out
theorem spec_DrawCertifyPair (h:Bytes w A0 n0)(hn:n0<=9223372036854775807)(hc:n0<=c0)(hc2:c0<=9223372036854775807) :
  Calls Tryz.prog 45 #[.slice A0 n0 c0] w (RetD3 w):=by
 obtain⟨L,U0⟩:∃ x,Hid (((w.alloc (.cells #[(0:Int),(0:Int),()] 38)).alloc (.cells #[(0:Int),(0:Int),()] 38)).alloc (.cells #[(0:Int),(),()] 31)=x):=⟨_,za rfl⟩;have f:Ext w L:=((((cY _).alloc _).alloc _).alloc _).trans (eZ U0.out);obtain⟨g,i,j⟩:=zL (eZ U0.out);have Y:L.heap.size=w.heap.size+3:=by rw [← U0.out];simp
 have X:=za (h.ext f);clear h
 go_enter Tryz.func45,Tryz.ntmps45
 go_wp2_with fail
 rw [U0.out] at *;refine (zgT X.out hn hc hc2).mono ?_;rintro e w1 ⟨R,rfl,hR,l,a⟩;have b:=f.trans a;have V:=l.lt;go_wp2_with fail
 refine (zii l oM).mono ?_;rintro e F ⟨s,A,n,c,t,C,k,o,p,B,m,d,z,E,D,rfl,y⟩;replace g:=(g.ext a).dr y.dr oM;replace i:=(i.ext a).dr y.dr oM;replace j:=(j.ext a).dr y.dr oM;have c1:=g.cell;have f1:=g.frozen;have U:=i.cell;have f2:=i.frozen;have c3:=j.cell;have f3:=j.frozen;have q:=zW F w.heap.size (.int .i64 s.al) (.int .i64 s.st) (.slice A n c);have r:=zW (((F.setCell w.heap.size s.al).setCell ⟨w.heap.size,1,none⟩ s.st).setCell ⟨w.heap.size,2,none⟩ (.slice A n c)) (w.heap.size+1) (.int .i64 t.al) (.int .i64 t.st) (.slice C k o);have u:=zW ((((((F.setCell w.heap.size s.al).setCell ⟨w.heap.size,1,none⟩ s.st).setCell ⟨w.heap.size,2,none⟩ (.slice A n c)).setCell ⟨w.heap.size+1,0,none⟩ t.al).setCell ⟨w.heap.size+1,1,none⟩ t.st).setCell ⟨w.heap.size+1,2,none⟩ (.slice C k o)) (w.heap.size+1+1) (.int .i64 p.al) (.slice B m d) (.slice z E D);have H:=((zad g rfl (.int .i64 s.al) (.int .i64 s.st) (.slice A n c)).frm r oM).frm u oM;have I:=(zad (i.frm q oM) rfl (.int .i64 t.al) (.int .i64 t.st) (.slice C k o)).frm u oM;have J:=zad ((j.frm q oM).frm r oM) rfl (.int .i64 p.al) (.slice B m d) (.slice z E D);have G:=((q.mono (T:=fun k=>k=w.heap.size∨k=w.heap.size+1∨k=w.heap.size+1+1) (fun k _ hk=>.inl hk)).trans (r.mono (T:=fun k=>k=w.heap.size∨k=w.heap.size+1∨k=w.heap.size+1+1) (fun k _ hk=>.inr (.inl hk)))).trans (u.mono (T:=fun k=>k=w.heap.size∨k=w.heap.size+1∨k=w.heap.size+1+1) (fun k _ hk=>.inr (.inr hk)));have M:=za (draw_d3 b oM y G (fun k hk=>oM) oM);have O:=za H;have Q:=za I;have S:=za J;clear q r u H I J G g i j f a b;go_wp2_with fail
 have Z:=O.out.cell;have r2:=Q.out.cell;have r3:=S.out.cell;exact bodyPost_ret (v:=.tuple #[.agg #[s.al,s.st,.slice A n c],.agg #[t.al,t.st,.slice C k o],.agg #[p.al,.slice B m d,.slice z E D]]) (by simp [results,Tryz.results45,go_sem,Z,r2,r3]) rfl M.out
section
variable {lo hi lo' hi' n c m d n' c' m' d':Nat} {A B A' B':Option Addr} {w:World}
theorem yD17a1 {P:Prop}(h:P:=by
 obtain rfl:x=y:=Option.some.inj (hx.out.symm.trans hy.out);go_wp2
 go_quiet (fail)
 go_wp2;go_roundw
 case rel=>exact⟨k+1,oM,gM,zkj.drewN _⟩
 case measure=>simp [intOf];omega
 ):P:=h
theorem agIntsI_same {l:List Int}(h:Reads w lo hi 1 A n (ints l))(h':Reads w lo' hi' 1 B m (ints l)) :
  Calls Tryz.prog 93 #[.slice A n c,.slice B m d] w fun e w'=>e=.returned (.bool true)∧Ext w w':=by
 have r:=h.len;have b:=h.length;have f:=h'.length;rw [zdm] at b f;obtain rfl:n=m:=oM;clear b f;have g:=za (fun W (hW:Ext w W)=>h.ext hW);have a:=za (fun W (hW:Ext w W)=>h'.ext hW)
 go_enter Tryz.func93,Tryz.ntmps93
 go_wp2
 go_loopw [5] (fun v wr=>∃ k:Nat,k<=n∧v=.int .i64 k∧Ext w wr) (fun v _=>n - (intOf v).toNat)
 case atStart=>exact⟨0,dI _,rfl,cY _⟩
 case round =>
  obtain⟨k,q,rfl,zkj⟩:=hrel
  by_cases hlt:k<n
  ·obtain⟨o,x,rfl,_,_,hx,p⟩:=(g.out wr zkj).int hlt;obtain⟨i,y,rfl,_,_,hy,j⟩:=(a.out wr zkj).int hlt;exact yD17a1
  ·obtain rfl:k=n:=oM;go_wp2;go_ret;exact⟨rfl,zkj⟩
theorem agBools_same {l:List Bool}(h:Reads w lo hi 1 A n (zag l))(h':Reads w lo' hi' 1 B m (zag l)) :
  Calls Tryz.prog 92 #[.slice A n c,.slice B m d] w fun e w'=>e=.returned (.bool true)∧Ext w w':=by
 have r:=h.len;have b:=h.length;have f:=h'.length;rw [zce] at b f;obtain rfl:n=m:=oM;clear b f;have g:=za (fun W (hW:Ext w W)=>h.ext hW);have a:=za (fun W (hW:Ext w W)=>h'.ext hW)
 go_enter Tryz.func92,Tryz.ntmps92
 go_wp2
 go_loopw [5] (fun v wr=>∃ k:Nat,k<=n∧v=.int .i64 k∧Ext w wr) (fun v _=>n - (intOf v).toNat)
 case atStart=>exact⟨0,dI _,rfl,cY _⟩
 case round =>
  obtain⟨k,q,rfl,zkj⟩:=hrel
  by_cases hlt:k<n
  ·obtain⟨o,x,rfl,_,_,hx,p⟩:=(g.out wr zkj).bool hlt;obtain⟨i,y,rfl,_,_,hy,j⟩:=(a.out wr zkj).bool hlt;exact yD17a1
  ·obtain rfl:k=n:=oM;go_wp2;go_ret;exact⟨rfl,zkj⟩
theorem zhJ (h:zH w lo hi A n A' n' a)(h':zH w lo' hi' B m B' m' a) :
  Calls Tryz.prog 40 #[.agg #[a.al,.slice A n c,.slice A' n' c'],.agg #[a.al,.slice B m d,.slice B' m' d']] w fun e w'=>e=.returned (.bool true)∧Ext w w':=by
 have U:=h.1.len;obtain rfl:n=m:=h.1.1.trans h'.1.1.symm;have u:=za (fun W (hW:Ext w W)=>h.1.ext hW);have i:=za (fun W (hW:Ext w W)=>h'.1.ext hW);have s:=za (fun W (hW:Ext w W)=>agBools_same (c:=c') (d:=d') (h.2.2.ext hW) (h'.2.2.ext hW));clear h h'
 go_enter Tryz.func40,Tryz.ntmps40
 go_upto_region 1 with fail
 generalize U0:(w.alloc _).alloc _=r at *;obtain⟨b,y,z⟩:=Ext.x2_ U0;clear U0;have C:=y.cells;have E:=z.cells;have J:=cY r;go_wp2_with (first
  |(go_at_call 92;refine (s.out _ b).mono (mQ fun V o=>?_)))
 go_loopw [5] (fun v wr=>∃ k:Nat,k<=n∧v=.int .i64 k∧Ext r wr) (fun v _=>n - (intOf v).toNat)
 case atStart=>exact⟨0,dI _,rfl,o⟩
 case round =>
  obtain⟨k,T,rfl,zkj⟩:=hrel
  by_cases hlt:k<n
  ·obtain⟨Q,M,G,l,rfl,_,_,hx,I,q⟩:=(u.out wr (b.trans zkj)).row hlt;obtain⟨x,O,H,L,rfl,_,_,hy,j,f⟩:=(i.out wr (b.trans zkj)).row hlt;obtain rfl:l=L:=Option.some.inj (hx.out.symm.trans hy.out);have t:=za (fun W (hW:Ext wr W)=>agIntsI_same (c:=G) (d:=H) (q.ext hW) (f.ext hW));clear q f;have g:=cY wr;have R:=fun W (hW:Ext wr W)=>hW.aa I;have S:=fun W (hW:Ext wr W)=>hW.aa j;have D:=fun W (hW:Ext wr W)=>C W (zkj.trans hW);have F:=fun W (hW:Ext wr W)=>E W (zkj.trans hW);go_upto_region 6 with fail
   refine uR (fun X=>Ext wr X) [10] (zv.of [0,1,2,3,4,5,6,7,8,9,10,11]) ?_;refine uQ ?_;refine zb fun K hK=>?_;go_simp;refine (t.out _ g.drew).mono (mQ fun Y p=>?_);refine hK.out _ _ ?_;refine pT ?_;refine uQ ?_;refine zf ?_;go_wp2_with fail
   go_roundw
   case rel=>exact⟨k+1,oM,gM,zkj.trans (g.drew.trans p)⟩
   case measure=>simp [intOf];omega
  ·obtain rfl:k=n:=oM;go_wp2_with fail
   go_ret;exact⟨rfl,b.trans zkj⟩
end
section
variable {lo hi lo' hi' lo1 hi1 lo2 hi2 n c m d n' c' m' d' k e k' e' q f0 q' f0':Nat} {A B A' B' C C' D D':Option Addr} {w:World}
theorem agCertificates_same {hd:Bool}  (h:zH w lo hi A n A' n' a)(h':zH w lo' hi' B m B' m' a) :
  Calls Tryz.prog 46 #[.agg #[.bool hd,a.al,.slice A n c,.slice A' n' c',x],.agg #[.bool hd,a.al,.slice B m d,.slice B' m' d',x]] w fun e w'=>e=.returned (.bool true)∧Ext w w':=by
 have j:=za (fun W (hW:Ext w W)=>zhJ (c:=c) (c':=c') (d:=d) (d':=d') (h.ext hW) (h'.ext hW));clear h h';have k:(hd==hd)=true:=sM;have l:(!hd==hd)=false:=by cases hd<;>rfl
 go_enter Tryz.func46,Tryz.ntmps46
 go_upto_region 1 with fail
 generalize U0:(w.alloc _).alloc _=p at *;obtain⟨b,g,i⟩:=Ext.x2_ U0;clear U0;have q:=g.cells;have r:=i.cells;have o:=cY p;clear g i;go_wp2_with (first
  |(go_at_call 40;with_reducible refine (j.out _ b).mono (mQ fun s f=>?_)))
 go_ret;exact⟨rfl,b.trans f⟩
end
theorem check_fails (hc:zI false a x=true) :
  (zdU s t p false a x=0↔ziL [s,t] x=true∧zdT p x=true)∧zdU s t p false a x≠3∧zdU s t p false a x≠4∧zdU s t p false a x≠5:=by
 unfold zdU zgX
 by_cases h1:iface s p t<0
 ·rw [if_pos h1];refine⟨⟨fun h=>oM,fun ⟨h2,h3⟩=>?_⟩,oM,oM,oM⟩;rw [zga] at h1;have b:zk s=true∧zk t=true:=by
   unfold ziL at h2;simp only [dJ] at h2;have:=h2.1;simp only [zA,dJ,List.all_cons,List.all_nil] at this;simp at this;exact this
  have c:zj p=true:=by
   unfold zdT at h3;simp only [dJ] at h3;exact h3.1
  rw [b.1,b.2,c] at h1;cases h1
 ·rw [if_neg h1,hc,if_neg dM,if_pos rfl];cases h2:ziL [s,t] x<;>cases h3:zdT p x<;>simp
theorem cert_accepted (h:okC (vpT s t p).code (vpT s t p).asm (vpT s t p).tr=true) :
  zdU s t p (hdX (vpT s t p).code (vpT s t p).asm (vpT s t p).tr) (zht (vpT s t p).code (vpT s t p).asm (vpT s t p).tr) (zhF (vpT s t p).code (vpT s t p).asm (vpT s t p).tr)=0:=by
 unfold hdX zht zhF;rw [h,Bool.true_and,if_pos rfl,if_pos rfl];rcases zbt s t p with b|⟨L,b⟩
 ·rw [zeT b] at h;unfold okC at h;simp at h
 ·have a:=vpT_ok b;rcases a.code with d|f|k
  ·rw [d] at h ⊢;rw [okC0] at h;exact zhd.2 ⟨h,vpT_fault d⟩
  ·rw [f] at h ⊢;rw [okC1] at h;obtain⟨c,j⟩:=a.fails f;obtain⟨m,n,o⟩:=zbm (s:=s) (p:=p) (t:=t) oM;have l:zbG [s,t] p=true:=by
    rw [zel,show zcs [s,t] p=true by unfold zcs;rw [n,zgj sM sM (by simp [m,o])];rfl] at c;simpa using c
   obtain⟨g,i⟩:=brok_top l;rw [← j] at g i;exact (check_fails h).1.2 ⟨g,i⟩
  ·rw [k] at h;unfold okC at h;simp at h
section
open Go.ChangeShapes Go.WideShapes Go.ChangeAt Go.Deep
def BytesAt (w:World) (A:Option Addr) (n c:Nat):Prop:=Bytes w A n∧n<=9223372036854775807∧n<=c∧c<=9223372036854775807
theorem arg_bytes {H:Type} {enc:TypeId × Value->H}  {spare:Nat->Bool} {held:Bool} {r:Reach} {b0:Nat}  {d:DataW H} {p:List MemPlace}(hv:Value.okWide Tryz.prog w r b0 62 v)(h:DataW.Trod enc Tryz.prog w 0 spare held 62 v d p) :
  ∃ (A:Option Addr) (n c:Nat),v=.slice A n c∧BytesAt w A n c:=by
 obtain⟨a,l,k,rfl⟩:=okWide_slice Tryz.underlying62 hv;obtain⟨t,E⟩:=h;rcases open_slice1 Tryz.underlying62 kM E with ⟨f,_⟩|⟨s,J,z,m,n,V,D,L,f,Q,F,I,q,_,hx⟩
 ·simp [Value.cells] at f;obtain⟨rfl,rfl,rfl⟩:=f;exact⟨_,_,_,rfl,fun h=>absurd h oM,oM,Nat.le_refl _,oM⟩
 ·simp [Value.cells] at f;obtain⟨rfl,rfl,rfl⟩:=f;unfold maxLen at I;have G:l<=m:=by rw [q];split<;>omega
  refine⟨_,_,_,rfl,fun hn=>?_,oM,F,oM⟩;have u:=(hx 0 oM).1;have y:=zdQ u;have g:=World.block_lt_of_cell? w _ u;rw [ziQ] at g;refine⟨s.block,s.off,by rw [← y],g,fun j hj=>?_⟩;obtain⟨x,B⟩:=hx j oM;obtain⟨b,i,_,o⟩:=DataW.trod_int Tryz.underlying5 B;have C:V j=.int .u8 b:=by simpa using i
  rw [C,y,zZ] at x;have R:0<=b∧b<256:=by
   simp only [Lit.wf,dJ,decide_eq_true_eq] at o;have M:IntKind.u8.min=0:=rfl;have O:IntKind.u8.max=255:=rfl;omega
  refine⟨b.toNat,oM,?_⟩;rw [x];have:((b.toNat:Nat):Int)=b:=oM;rw [this]
end
end Go.Proofs.YtcfchopfijalpaaGreatDoor
