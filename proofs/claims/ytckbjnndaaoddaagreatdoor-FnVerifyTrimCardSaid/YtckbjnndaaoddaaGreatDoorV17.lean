/- spec.l9Spoil -/
import Derived.Test.YtckbjnndaaoddaaGreatDoorV16
import Derived.Lib.ItoaNum
import Derived.Shelf.Strconv.Itoa1
set_option maxHeartbeats 6400000
set_option maxRecDepth 100000
namespace Go.Proofs.YtckbjnndaaoddaaGreatDoor
open Go Go.RowKit
open Ext renaming eq_->e9,refl->cY,x2_->iB
open Frm renaming setCell->dF
open Int renaming natCast_add->iG,toNat_natCast->eO
open List renaming append_assoc->iD,cons_append->iA,dropLast_concat_getLast->jI,flatMap_cons->iW,getD_eq_getElem?_getD->dE,getElem?_append_left->dH,getElem?_append_right->dT,getElem?_eq_getElem->dC,getElem?_eq_none->dW,getElem?_map->dO,length_append->dL,length_map->dS,length_singleton->dU,mem_of_getElem?->dB,nil_append->eH,replicate->dQ,take_add_one->dN
open Nat renaming and_le_left->gH,le_of_lt_succ->eI,le_refl->dD,lt_of_lt_of_le->dV,lt_or_eq_of_le->eB,mod_eq_of_lt->gP,pow_le_pow_right->dY,testBit_lt_two_pow->gQ,zero_le->dG
open Reads renaming af->eD
variable {A B B' C:Option Addr} {K L M N R b c c2 d d' hi i j k l lo m m' n p q v x y:Nat} {S:Nat->Prop} {W w:World} {a:Aut} {ds:List Nat} {r:List Int} {s t:Sys}
theorem zje {w':World}(h:Frm S w w') {p:Addr} {v:Value}(hv:w.cell? p=some v)(hp:¬ S p.block):w'.cell? p=some v:=
 (World.cell?_of_block (w:=w) (h.block _ (World.block_lt_of_cell? w p hv) hp)).trans hv
theorem zbU.own {w0:World}   {p:Aut} (h:zbU w0 W R M L K s A n c t C k c2 p B m d B' m' d'):zbU W W R M L K s A n c t C k c2 p B m d B' m' d':={ h with dr:=Dr.refl _ _,hR:=h.rd.lt }
theorem spec_l9Spoil {p:Aut}  (h:zbU w w R M L K s A n c t C k c2 p B m d B' m' d')(hM:M<=600000000)(hL:L<=90000)(hK:K<=60) :
  Calls Tryz.prog 93 #[.pointer (some R),.agg #[s.al,s.st,.slice A n c],.agg #[p.al,.slice B m d,.slice B' m' d'],.agg #[t.al,t.st,.slice C k c2]] w (RetSPT R (M+100) (L+3) (K+39) w):=by
 have bk:=h.hR;have hx0:Ext w ((((((w.alloc (.cells #[s.al,s.st,.slice A n c] 38)).alloc (.cells #[p.al,.slice B m d,.slice B' m' d'] 27)).alloc (.cells #[t.al,t.st,.slice C k c2] 38)).alloc (.cells #[(0:Int),(0:Int),()] 38)).alloc (.cells #[(0:Int),(),()] 27)).alloc (.cells #[(0:Int),(0:Int),()] 38)):=((((((cY _).alloc _).alloc _).alloc _).alloc _).alloc _).alloc _;obtain⟨b1,b2,b3⟩:=zL (cY (((w.alloc (.cells #[s.al,s.st,.slice A n c] 38)).alloc (.cells #[p.al,.slice B m d,.slice B' m' d'] 27)).alloc (.cells #[t.al,t.st,.slice C k c2] 38)))
 go_enter Tryz.func93,Tryz.ntmps93
 go_upto_region 1 with fail
 have ar:(((w.alloc (.cells #[s.al,s.st,.slice A n c] 38)).alloc (.cells #[p.al,.slice B m d,.slice B' m' d'] 27)).alloc (.cells #[t.al,t.st,.slice C k c2] 38)).heap.size=w.heap.size+3:=sM;generalize ((w.alloc _).alloc _).alloc _=w0 at *;generalize U0:((w0.alloc _).alloc _).alloc _=w1 at *;obtain⟨U,z1,z2,z3⟩:=Ext.x3_ U0;clear U0;simp only [ar] at z1 z2 z3;have ah:Tri w w1 R M L K (w.heap.size+1+1+1) (w.heap.size+1+1+1+1+1) (w.heap.size+1+1+1+1) w.heap.size (w.heap.size+1+1) (w.heap.size+1) s A n c t C k c2 p B m d B' m' d':=
  ⟨h.ext hx0,z1,z3,z2,b1.ext U,b3.ext U,.inr (b2.ext U),oM,za (by unfold Ne6;omega)⟩
 have au:=hx0.size;clear z1 z2 z3 b1 b2 b3 hx0 U h ar;have aq:=za (show w.heap.size+1≠0 by omega);have S:=za (show Ne6 (w.heap.size+1+1+1) (w.heap.size+1+1+1+1+1) (w.heap.size+1+1+1+1) w.heap.size (w.heap.size+1+1) (w.heap.size+1) by unfold Ne6;omega);generalize hZt:w.heap.size+1+1+1+1+1=Zt at *;generalize hZp:w.heap.size+1+1+1+1=l at *;generalize hZs:w.heap.size+1+1+1=o at *;generalize hGt:w.heap.size+1+1=Gt at *;generalize hGp:w.heap.size+1=Gp at *;generalize hGs:w.heap.size=Gs at *;have F:=za (show w.heap.size<=o∧w.heap.size<=Zt∧w.heap.size<=l by omega);clear hZt hZp hZs hGt hGp hGs au;go_wp2_with fail
 refine (zE ah.at_.rd oM).mono ?_;rintro e w2 ⟨y,rfl,-,-,f,g⟩;have a:=ah.drawn g f;clear ah f g;go_upto_block 0 with fail
 go_cut [] (fun wx=>∃ (s:Sys) (A:Option Addr) (n c:Nat) (t:Sys) (C:Option Addr) (k c2:Nat) (p:Aut) (B:Option Addr) (m d:Nat) (B':Option Addr) (m' d':Nat),Tri w wx R (M+100) (L+3) (K+39) (o) (Zt) (l) Gs (Gt) (Gp) s A n c t C k c2 p B m d B' m' d')
 case first =>
  have Q:y=0∨y=1∨y=2∨3<=y:=oM;rcases Q with hy|hy|hy|hy
  ·subst hy;have aw:True:=trivial;have cG:=a.bs.cell;go_wp2_with fail
   refine (zbT (L:=L) a.at_.rd oM a.at_.is a.at_.ns.1.1 oM).mono ?_;rintro e v1 ⟨s1,A1,n1,d1,rfl,ae,aa,x,D⟩;have i:=a.drawn D x;clear cG;go_wp2_with fail
   refine (zbT (L:=L+1) i.at_.rd oM ae aa.1 oM).mono ?_;rintro e v2 ⟨s2,A2,n2,d2,rfl,af,ab,f,g⟩;have j:=i.drawn g f;go_wp2_with fail
   refine (zbT (L:=L+2) j.at_.rd oM af ab.1 oM).mono ?_;rintro e v3 ⟨s3,A3,n3,d3,rfl,ag,ad,G,E⟩;have b:=(j.drawn E G).more (N:=M+100) (J:=L+3) (H:=K+39) oM oM oM;have cG:=b.bs.cell;have fG:=b.bs.frozen;have z:=b.setS ag ad;go_wp2_with fail
   go_meet;exact⟨_,_,_,_,_,_,_,_,_,_,_,_,_,_,_,z⟩
  ·subst hy;have aw:True:=trivial;have u:=aq.out;have cG:=(a.ax u).cell;go_wp2_with fail
   refine (zey a.at_.rd oM a.at_.ip a.at_.bd.out oM).mono ?_;rintro e v1 ⟨b1,A1,n1,d1,B1,m1,e1,rfl,aH,aE,x,D⟩;have i:=a.drawn D x;have bl:=a.at_.rd.lt;have bm:=i.at_.rd.lt;clear cG;go_wp2_with fail
   refine (zey x oM (aH.less oM) aE.out oM).mono ?_;rintro e v2 ⟨b2,A2,n2,d2,B2,m2,e2,rfl,aI,aF,f,g⟩;have j:=i.drawn g f;have bn:=j.at_.rd.lt;go_wp2_with fail
   refine (zey f oM (aI.less oM) aF.out oM).mono ?_;rintro e v3 ⟨b3,A3,n3,d3,B3,m3,e3,rfl,aJ,aG,G,E⟩;have b:=(j.drawn E G).more (N:=M+100) (J:=L+3) (H:=K+39) oM oM oM;have cG:=(b.ax u).cell;have fG:=(b.ax u).frozen;have z:=b.setP u (aJ.less oM) (BdL.more aG.out oM);go_wp2_with fail
   go_meet;exact⟨_,_,_,_,_,_,_,_,_,_,_,_,_,_,_,z⟩
  ·subst hy;have aw:True:=trivial;have cG:=a.bt.cell;go_wp2_with fail
   refine (zbT (L:=L) a.at_.rd oM a.at_.it a.at_.ns.2.1 oM).mono ?_;rintro e v1 ⟨s1,A1,n1,d1,rfl,ae,aa,x,D⟩;have i:=a.drawn D x;clear cG;go_wp2_with fail
   refine (zbT (L:=L+1) i.at_.rd oM ae aa.1 oM).mono ?_;rintro e v2 ⟨s2,A2,n2,d2,rfl,af,ab,f,g⟩;have j:=i.drawn g f;go_wp2_with fail
   refine (zbT (L:=L+2) j.at_.rd oM af ab.1 oM).mono ?_;rintro e v3 ⟨s3,A3,n3,d3,rfl,ag,ad,G,E⟩;have b:=(j.drawn E G).more (N:=M+100) (J:=L+3) (H:=K+39) oM oM oM;have cG:=b.bt.cell;have fG:=b.bt.frozen;have z:=b.setT ag ad;go_wp2_with fail
   go_meet;exact⟨_,_,_,_,_,_,_,_,_,_,_,_,_,_,_,z⟩
  ·have h0:((y:Int)==0)=false:=by simp;omega
   have h1:((y:Int)==1)=false:=by simp;omega
   have h2:((y:Int)==2)=false:=by simp;omega
   go_wp2_with fail
   go_meet;exact⟨_,_,_,_,_,_,_,_,_,_,_,_,_,_,_,a.more oM oM oM⟩
 case rest =>
  clear a;obtain⟨s,A,n,c,t,C,k,c2,p,B,m,d,B',m',d',ht⟩:=hcut;have u:=aq.out;obtain⟨O,aK⟩:∃ O,O=wc:=⟨_,rfl⟩;subst aK;have cS:∀ W,Frm (fun k=>k=o∨k=l) O W->∀ q,W.cell? ⟨Gs,q,none⟩=#[Value.int .i64 s.al,.int .i64 s.st,.slice A n c][q]?:=fun W hW=>(ht.bs.frm hW (by have:=S.out;unfold Ne6 at this;omega)).cell;have cT:∀ W,Frm (fun k=>k=o∨k=l) O W->∀ q,W.cell? ⟨Gt,q,none⟩=#[Value.int .i64 t.al,.int .i64 t.st,.slice C k c2][q]?:=fun W hW=>(ht.bt.frm hW (by have:=S.out;unfold Ne6 at this;omega)).cell;have cP:∀ W,Frm (fun k=>k=o∨k=l) O W->∀ q,W.cell? ⟨Gp,q,none⟩=#[Value.int .i64 p.al,.slice B m d,.slice B' m' d'][q]?:=fun W hW=>((ht.ax u).frm hW (by have:=S.out;unfold Ne6 at this;omega)).cell;have ao:Frm (fun k=>k=o∨k=l) O O.drew:=(cY O).drew.ak;have I:=ht.ext (cY O).drew;go_wp2_with fail
  refine tR (fun X=>Frm (fun k=>k=o∨k=l) O X) [5] (Ord.of [0,1,2,3,4,5]) ?_;refine tQ ?_;generalize hwD:O.drew=wD at *;clear hwD;have Y:=I.at_;have zs:=I.zs;have V:=I.zt;have zp:=I.zp;have cs:=zs.cell;have fs:=zs.frozen;have r:=za S.out;clear I ht;refine zD fun K hK=>?_;go_simp;have q1:=zan zs rfl (.int .i64 s.al) (.int .i64 s.st) (.slice A n c);have e1:=zY wD o (.int .i64 s.al) (.int .i64 s.st) (.slice A n c);replace Y:=Y.far zs e1 F.out.1 dM dM;replace V:=V.frm e1 (by have:=r.out;unfold Ne6 at this;omega);replace zp:=zp.frm e1 (by have:=r.out;unfold Ne6 at this;omega);have Z:=ao.trans (e1.mono (T:=fun k=>k=o∨k=l) (fun k _ hk=>.inl hk));refine hK.out _ _ Z ?_;refine pT ?_;clear cs fs zs e1;generalize ((wD.setCell o s.al).setCell ⟨o,1,none⟩ s.st).setCell ⟨o,2,none⟩ (.slice A n c)=wA at *;have cp:=zp.cell;have fp:=zp.frozen;refine zD fun K hK=>?_;go_simp;have q2:=zan zp rfl (.int .i64 p.al) (.slice B m d) (.slice B' m' d');have e2:=zY wA l (.int .i64 p.al) (.slice B m d) (.slice B' m' d');replace Y:=Y.far zp e2 F.out.2.2 dM dM;replace V:=V.frm e2 (by have:=r.out;unfold Ne6 at this;omega);replace q1:=q1.frm e2 (by have:=r.out;unfold Ne6 at this;omega);have ap:=Z.trans (e2.mono (T:=fun k=>k=o∨k=l) (fun k _ hk=>.inr hk));refine hK.out _ _ ap ?_;refine pT ?_;clear cp fp zp e2 Z;generalize ((wA.setCell l p.al).setCell ⟨l,1,none⟩ (.slice B m d)).setCell ⟨l,2,none⟩ (.slice B' m' d')=wB at *;have ct:=V.cell;have ft:=V.frozen;refine zP fun K hK=>?_;go_simp;have q3:=zan V rfl (.int .i64 t.al) (.int .i64 t.st) (.slice C k c2);have e3:=zY wB Zt (.int .i64 t.al) (.int .i64 t.st) (.slice C k c2);replace Y:=Y.far V e3 F.out.2.1 dM dM;replace q1:=q1.frm e3 (by have:=r.out;unfold Ne6 at this;omega);replace q2:=q2.frm e3 (by have:=r.out;unfold Ne6 at this;omega);refine hK.out _ _ ?_;refine zao ?_;clear ct ft V e3 ap ao cS cT cP;generalize ((wB.setCell Zt t.al).setCell ⟨Zt,1,none⟩ t.st).setCell ⟨Zt,2,none⟩ (.slice C k c2)=wC at *;have aD:=za Y;clear Y;go_wp2_with fail
  have c1:=q1.cell;have aC:=q2.cell;have c3:=q3.cell;exact bodyPost_ret (v:=.tuple #[.agg #[s.al,s.st,.slice A n c],.agg #[p.al,.slice B m d,.slice B' m' d'],.agg #[t.al,t.st,.slice C k c2]]) (by simp [results,Tryz.results93,go_sem,c1,aC,c3]) rfl ⟨s,A,n,c,t,C,k,c2,p,B,m,d,B',m',d',rfl,aD.out⟩
theorem spec_l12Draw (h:Rd w R M)(hM:M<=500000000) :
  Calls Tryz.prog 90 #[.pointer (some R)] w (RetSTP R (M+200000) 30000 50 w):=by
 have aN:=h.lt
 go_enter Tryz.func90,Tryz.ntmps90
 go_upto_region 1 with fail
 generalize U0:((w.alloc _).alloc _).alloc _=w0 at *;obtain⟨hx0,z1,z2,z3⟩:=Ext.x3_ U0;have cq:w0.heap.size=w.heap.size+3:=by rw [← U0];simp
 clear U0;go_upto_region 2 with (first
  |(go_at_call 179;refine (spec_l9Three (h.ext hx0) oM).mono ?_;rintro e S ⟨s,A,n,c,t,C,k,E,p,B,m,d,D,O,F,rfl,Q⟩))
 have ab:Ext S (((S.alloc (.cells #[s.al,s.st,.slice A n c] 38)).alloc (.cells #[p.al,.slice B m d,.slice D O F] 27)).alloc (.cells #[t.al,t.st,.slice C k E] 38)):=(((cY _).alloc _).alloc _).alloc _;obtain⟨b1,b2,b3⟩:=zL (cY (((S.alloc (.cells #[s.al,s.st,.slice A n c] 38)).alloc (.cells #[p.al,.slice B m d,.slice D O F] 27)).alloc (.cells #[t.al,t.st,.slice C k E] 38)));have bp:=Q.dr.size;have aE:Tri w (((S.alloc (.cells #[s.al,s.st,.slice A n c] 38)).alloc (.cells #[p.al,.slice B m d,.slice D O F] 27)).alloc (.cells #[t.al,t.st,.slice C k E] 38)) R (M+150000) 30000 50 w.heap.size (w.heap.size+1) (w.heap.size+1+1) S.heap.size (S.heap.size+1+1) (S.heap.size+1) s A n c t C k E p B m d D O F:=
  ⟨((Q.less hx0.dr aN).ext ab).more oM oM oM,(z1.dr Q.dr oM).ext ab,(z2.dr Q.dr oM).ext ab,(z3.dr Q.dr oM).ext ab,b1,b3,.inr b2,oM,za (by unfold Ne6;omega)⟩
 clear Q b1 b2 b3 z1 z2 z3 ab;have Y:=za (show w.heap.size+3<=S.heap.size by omega);have bd:(((S.alloc (.cells #[s.al,s.st,.slice A n c] 38)).alloc (.cells #[p.al,.slice B m d,.slice D O F] 27)).alloc (.cells #[t.al,t.st,.slice C k E] 38)).heap.size=S.heap.size+3:=sM;clear bp;generalize hG:S.heap.size=G at *;generalize ((S.alloc _).alloc _).alloc _=w2 at *;clear hG S;go_wp2_with fail
 refine (zE aE.at_.rd oM).mono ?_;rintro e w3 ⟨y,rfl,-,-,aU,aA⟩;have aa:=aE.drawn aA aU;have f:=za (show G+3<=w3.heap.size by have:=aA.size;omega);clear aE aU aA bd;go_upto_if 18 with fail
 go_cut [] (fun wx=>∃ (s:Sys) (A:Option Addr) (n c:Nat) (t:Sys) (C:Option Addr) (k E:Nat) (p:Aut) (B:Option Addr) (m d:Nat) (D:Option Addr) (O F:Nat),Tri w wx R (M+200000) 30000 50 w.heap.size (w.heap.size+1) (w.heap.size+1+1) G (G+1+1) (G+1) s A n c t C k E p B m d D O F)
 case first =>
  by_cases hy:y=0
  ·subst hy;have cu:True:=trivial;have r:G+1≠0:=oM;go_wp2_with fail
   refine (zjx).mono ?_;rintro e w4 ⟨g,rfl,hg,hT,aX⟩;have aF:=aa.ext aX;have hq:=aa.at_.rd.lt;clear aa;have bK:=aX.size;go_wp2_with fail
   refine (zE aF.at_.rd oM).mono ?_;rintro e w5 ⟨j,rfl,hj,-,bm,aB⟩;have bi:j<9:=by have:=hj oM;omega
   have aG:=aF.drawn aB bm;obtain⟨bt,lt,aR,bj,ag,aT⟩:=hT j bi;have aK:=aB.aa aR (by dsimp only;omega);have x:=zbt aT aB (fun b h1 e=>oM);have bJ:(j:Int)<9:=oM;clear hj hT aR aT aF;have ck:w3.heap.size<=bt:=(x.lt bt rfl).1;obtain⟨bZ,x0,e0,_,_,au,aL⟩:=(eD x).str (show 0<3 by omega);obtain⟨b0,x1,e1,_,_,av,ax⟩:=(eD x).str (show 1<3 by omega);obtain⟨b4,x2,e2,_,_,aw,ay⟩:=(eD x).str (show 2<3 by omega);obtain rfl:=Option.some.inj e0;obtain rfl:=Option.some.inj e1;obtain rfl:=Option.some.inj e2;have bL:=ag.1 x0 (dB au.out);have bM:=ag.1 x1 (dB av.out);have bN:=ag.2 x2 aw.out;rw [zX,Nat.zero_add] at aL ax ay;clear e0 e1 e2 au av aw ag bj x;go_wp2_with fail
   refine (zcE aG.at_.rd oM).mono ?_;rintro e w6 ⟨s1,A1,n1,c1,ok,rfl,bn,⟨-,bg⟩,cl,aV,V⟩;have cj:=za (show R<w.heap.size from aN);have l:=aG.drawn V aV;have cG:=l.bs.cell;have fG:=l.bs.frozen;have o:=l.setS bn (by omega:n1<=30000∧n1<=c1);have f1:=zY w6 G (.int .i64 s1.al) (.int .i64 s1.st) (.slice A1 n1 c1);have aY:=(V.aa ax (by have:=f.out;have:=Y.out;dsimp only;omega));have ad:=(V.aa ay (by have:=f.out;have:=Y.out;dsimp only;omega));have kt:=(V.aa aK (by have:=f.out;have:=Y.out;dsimp only;omega));have br:=zje f1 aY (by have:=f.out;dsimp only;omega);have aZ:=zje f1 ad (by have:=f.out;dsimp only;omega);clear aL ax ay aK aY ad kt aG l f1 V aV;go_upto_region 6 with fail
   clear cG fG;generalize ((w6.setCell G s1.al).setCell ⟨G,1,none⟩ s1.st).setCell ⟨G,2,none⟩ (.slice A1 n1 c1)=w7 at *;go_wp2_with fail
   refine (zcE o.at_.rd oM).mono ?_;rintro e w8 ⟨s2,A2,n2,d2,cy,rfl,bo,⟨-,bh⟩,cm,aW,aC⟩;have ah:=o.drawn aC aW;have cG:=ah.bt.cell;have fG:=ah.bt.frozen;have I:=ah.setT bo (by omega:n2<=30000∧n2<=d2);have f2:=zY w8 (G+1+1) (.int .i64 s2.al) (.int .i64 s2.st) (.slice A2 n2 d2);have ad:=(aC.aa aZ (by have:=f.out;have:=Y.out;dsimp only;omega));have bu:=zje f2 ad (by have:=f.out;dsimp only;omega);clear br aZ ad o ah f2 aC aW;go_upto_region 7 with fail
   clear cG fG;generalize ((w8.setCell ⟨G+1+1,0,none⟩ s2.al).setCell ⟨G+1+1,1,none⟩ s2.st).setCell ⟨G+1+1,2,none⟩ (.slice A2 n2 d2)=w9 at *;go_wp2_with fail
   refine (zfk I.at_.rd oM).mono ?_;rintro e bx ⟨b1,A3,n3,d3,A4,n4,d4,cz,rfl,aS,aQ,aq,ao⟩;have co:=I.at_.rd.lt;have ai:=I.drawn ao aq;have cG:=(ai.ax r).cell;have fG:=(ai.ax r).frozen;have U:=ai.setP r (aS.less oM) (BdL.more aQ.out oM);clear bu I ai ao aq aS;go_upto_region 8 with fail
   clear cG fG;generalize ((bx.setCell ⟨G+1,0,none⟩ b1.al).setCell ⟨G+1,1,none⟩ (.slice A3 n3 d3)).setCell ⟨G+1,2,none⟩ (.slice A4 n4 d4)=cD at *;go_wp2_with fail
   refine (zE U.at_.rd oM).mono ?_;rintro e cE ⟨y,rfl,-,-,ar,ap⟩;have a:=U.drawn ap ar;clear U ar ap;have af:y=0∨y=1∨y=2∨3<=y:=oM;rcases af with hy|hy|hy|hy
   ·subst hy;have cG:=a.bs.cell;go_wp2_with fail
    refine (zeX (L:=1001) a.at_.rd oM a.at_.is bg oM oM).mono ?_;rintro e a1 ⟨s5,A5,n5,d5,rfl,aD,bk,z,u⟩;have i:=(a.drawn u z).more (N:=M+200000) (J:=30000) (H:=50) oM oM oM;clear cG;have cG:=i.bs.cell;have fG:=i.bs.frozen;have o:=i.setS aD (by omega:n5<=30000∧n5<=d5);go_wp2_with fail
    go_meet;exact⟨_,_,_,_,_,_,_,_,_,_,_,_,_,_,_,o⟩
   ·subst hy;have cG:=a.bt.cell;go_wp2_with fail
    refine (zeX (L:=1001) a.at_.rd oM a.at_.it bh oM oM).mono ?_;rintro e a1 ⟨s5,A5,n5,d5,rfl,aD,bk,z,u⟩;have i:=(a.drawn u z).more (N:=M+200000) (J:=30000) (H:=50) oM oM oM;clear cG;have cG:=i.bt.cell;have fG:=i.bt.frozen;have o:=i.setT aD (by omega:n5<=30000∧n5<=d5);go_wp2_with fail
    go_meet;exact⟨_,_,_,_,_,_,_,_,_,_,_,_,_,_,_,o⟩
   ·subst hy;have cG:=(a.ax r).cell;go_wp2_with fail
    refine (zjy (L:=x2.size+1) a.at_.rd oM a.at_.ip aQ.out oM).mono ?_;rintro e a1 ⟨b5,A5,n5,d5,A6,n6,d6,rfl,bl,bf,z,u⟩;have hq:=a.at_.rd.lt;have i:=(a.drawn u z).more (N:=M+200000) (J:=30000) (H:=50) oM oM oM;clear cG;have cG:=(i.ax r).cell;have fG:=(i.ax r).frozen;have o:=i.setP r (bl.less oM) (BdL.more bf.out oM);go_wp2_with fail
    go_meet;exact⟨_,_,_,_,_,_,_,_,_,_,_,_,_,_,_,o⟩
   ·have h0:((y:Int)==0)=false:=by simp;omega
    have h1:((y:Int)==1)=false:=by simp;omega
    have h2:((y:Int)==2)=false:=by simp;omega
    go_wp2_with fail
    go_meet;exact⟨_,_,_,_,_,_,_,_,_,_,_,_,_,_,_,a.more oM oM oM⟩
  ·have cr:((y:Int)==0)=false:=by simp;omega
   go_wp2_with fail
   go_meet;exact⟨_,_,_,_,_,_,_,_,_,_,_,_,_,_,_,aa.more oM oM oM⟩
 case rest =>
  clear aa;obtain⟨s,A,n,c,t,C,k,E,p,B,m,d,D,O,F,Q⟩:=hcut;have r:G+1≠0:=oM;have Z:Hid (G+3<=wc.heap.size∧w.heap.size+3<=G):=za ⟨by have:=(Q.bt).lt;omega,Y.out⟩;obtain⟨wE,bq⟩:∃ wE,wE=wc:=⟨_,rfl⟩;subst bq;have cS:∀ W,Frm (fun k=>k=w.heap.size∨k=w.heap.size+1) wE W->∀ q,W.cell? ⟨G,q,none⟩=#[Value.int .i64 s.al,.int .i64 s.st,.slice A n c][q]?:=fun W hW=>(Q.bs.frm hW (oH Z.out)).cell;have cT:∀ W,Frm (fun k=>k=w.heap.size∨k=w.heap.size+1) wE W->∀ q,W.cell? ⟨G+1+1,q,none⟩=#[Value.int .i64 t.al,.int .i64 t.st,.slice C k E][q]?:=fun W hW=>(Q.bt.frm hW (oH Z.out)).cell;have cP:∀ W,Frm (fun k=>k=w.heap.size∨k=w.heap.size+1) wE W->∀ q,W.cell? ⟨G+1,q,none⟩=#[Value.int .i64 p.al,.slice B m d,.slice D O F][q]?:=fun W hW=>((Q.ax r).frm hW (oH Z.out)).cell;have aO:Frm (fun k=>k=w.heap.size∨k=w.heap.size+1) wE wE.drew:=(cY wE).drew.ak;have l:=Q.ext (cY wE).drew;go_wp2_with fail
  refine tR (fun X=>Frm (fun k=>k=w.heap.size∨k=w.heap.size+1) wE X) [5] (Ord.of [0,1,2,3,4,5]) ?_;refine tQ ?_;generalize hwD:wE.drew=wD at *;clear hwD;have ha:=l.at_;have zs:=l.zs;have zt:=l.zt;have zp:=l.zp;have cs:=zs.cell;have fs:=zs.frozen;clear l Q;refine zD fun K hK=>?_;go_simp;have q1:=zan zs rfl (.int .i64 s.al) (.int .i64 s.st) (.slice A n c);have e1:=zY wD w.heap.size (.int .i64 s.al) (.int .i64 s.st) (.slice A n c);replace ha:=ha.far zs e1 oM dM dM;replace zt:=zt.frm e1 oM;replace zp:=zp.frm e1 oM;have az:=aO.trans (e1.mono (T:=fun k=>k=w.heap.size∨k=w.heap.size+1) (fun k _ hk=>.inl hk));refine hK.out _ _ az ?_;refine pT ?_;clear cs fs zs e1;generalize ((wD.setCell w.heap.size s.al).setCell ⟨w.heap.size,1,none⟩ s.st).setCell ⟨w.heap.size,2,none⟩ (.slice A n c)=wA at *;have ct:=zt.cell;have ft:=zt.frozen;refine zD fun K hK=>?_;go_simp;have q2:=zan zt rfl (.int .i64 t.al) (.int .i64 t.st) (.slice C k E);have e2:=zY wA (w.heap.size+1) (.int .i64 t.al) (.int .i64 t.st) (.slice C k E);replace ha:=ha.far zt e2 oM dM dM;replace zp:=zp.frm e2 oM;replace q1:=q1.frm e2 oM;have aP:=az.trans (e2.mono (T:=fun k=>k=w.heap.size∨k=w.heap.size+1) (fun k _ hk=>.inr hk));refine hK.out _ _ aP ?_;refine pT ?_;clear ct ft zt e2 az;generalize ((wA.setCell ⟨w.heap.size+1,0,none⟩ t.al).setCell ⟨w.heap.size+1,1,none⟩ t.st).setCell ⟨w.heap.size+1,2,none⟩ (.slice C k E)=wB at *;have cp:=zp.cell;have fp:=zp.frozen;refine zP fun K hK=>?_;go_simp;have q3:=zan zp rfl (.int .i64 p.al) (.slice B m d) (.slice D O F);have e3:=zY wB (w.heap.size+1+1) (.int .i64 p.al) (.slice B m d) (.slice D O F);replace ha:=ha.far zp e3 oM dM dM;replace q1:=q1.frm e3 oM;replace q2:=q2.frm e3 oM;refine hK.out _ _ ?_;refine zao ?_;clear cp fp zp e3 aP aO cS cT cP;generalize ((wB.setCell ⟨w.heap.size+1+1,0,none⟩ p.al).setCell ⟨w.heap.size+1+1,1,none⟩ (.slice B m d)).setCell ⟨w.heap.size+1+1,2,none⟩ (.slice D O F)=wC at *;have be:=za ha;clear ha;go_wp2_with fail
  have c1:=q1.cell;have ba:=q2.cell;have c3:=q3.cell;exact bodyPost_ret (v:=.tuple #[.agg #[s.al,s.st,.slice A n c],.agg #[t.al,t.st,.slice C k E],.agg #[p.al,.slice B m d,.slice D O F]]) (by simp [results,Tryz.results90,go_sem,c1,ba,c3]) rfl ⟨s,A,n,c,t,C,k,E,p,B,m,d,D,O,F,rfl,be.out⟩
theorem zZ.at_new {base:Nat}   {A':Option Addr} {n' c':Nat} (h:zZ w base A n c A' n' c' a)(hl:lo<=base):zO w lo w.heap.size A n A' n' a:=(h.less hl).reads
theorem spec_l12Any (h:Rd w R M)(hM:M<=400000000) :
  Calls Tryz.prog 102 #[.pointer (some R)] w (RetSTP R (M+200100) 30003 89 w):=by
 have ar:=h.lt
 go_enter Tryz.func102,Tryz.ntmps102
 go_upto_region 1 with fail
 generalize U0:((w.alloc _).alloc _).alloc _=w0 at *;obtain⟨hx0,r,u,y⟩:=Ext.x3_ U0;have a1:w0.heap.size=w.heap.size+3:=by rw [← U0];simp
 clear U0;go_upto_region 2 with (first
  |(go_at_call 90;refine (spec_l12Draw (h.ext hx0) oM).mono ?_;rintro e w1 ⟨s,A,n,c,t,C,k,c2,p,B,m,d,B',m',d',rfl,ht⟩))
 obtain⟨w2,U0⟩:∃ x,Hid (((w1.alloc (.cells #[s.al,s.st,.slice A n c] 38)).alloc (.cells #[t.al,t.st,.slice C k c2] 38)).alloc (.cells #[p.al,.slice B m d,.slice B' m' d'] 27)=x):=⟨_,za rfl⟩;have H:Ext w1 w2:=((((cY _).alloc _).alloc _).alloc _).trans (e9 U0.out);obtain⟨b1,z,I⟩:=zL (e9 U0.out);have a2:=ht.dr.size;have zz:=za (And.intro ((r.dr ht.dr oM).ext H) (And.intro ((u.dr ht.dr oM).ext H) ((y.dr ht.dr oM).ext H)));have V:=(ht.less hx0.dr ar).ext H;have aE:w2.heap.size=w1.heap.size+3:=by rw [← U0.out];simp
 have aB:w.heap.size+3<=w1.heap.size:=oM;clear ht H r u y hx0;generalize hG:w1.heap.size=G at *;rw [U0.out] at *;clear hG;have cS:=b1.cell;have cT:=z.cell;have cP:=I.cell;have HS:=za (spec_l9Spoil V.own oM oM oM);go_wp2_with fail
 refine HS.out.mono ?_;rintro e w7 ⟨j,J,n7,Q,l,O,Y,S,p7,L,Z,U,b,g,f,rfl,ah⟩;have a0:=V.rd.lt;have o:=ah.dr;have i:=ah.less V.dr ar;replace b1:=b1.dr o oM;replace z:=z.dr o oM;replace I:=I.dr o oM;obtain⟨r,u,y⟩:=zz.out;replace zz:=za (And.intro (r.dr o oM) (And.intro (u.dr o oM) (y.dr o oM)));clear V ah o r u y HS cS cT cP;have cS:=b1.cell;have fS:=b1.frozen;have cT:=z.cell;have fT:=z.frozen;have cP:=I.cell;have fP:=I.frozen;go_upto_region 3 with fail
 have a:=zY w7 G (.int .i64 j.al) (.int .i64 j.st) (.slice J n7 Q);have D:=zan b1 rfl (.int .i64 j.al) (.int .i64 j.st) (.slice J n7 Q);replace i:=i.far b1 a oM dM dM;replace z:=z.frm a oM;replace I:=I.frm a oM;obtain⟨r,u,y⟩:=zz.out;replace r:=r.frm a oM;replace u:=u.frm a oM;replace y:=y.frm a oM;clear zz a b1 cS fS cT fT cP fP;generalize ((w7.setCell G j.al).setCell ⟨G,1,none⟩ j.st).setCell ⟨G,2,none⟩ (.slice J n7 Q)=w8 at *;have a:=zY w8 (G+1+1) (.int .i64 p7.al) (.slice L Z U) (.slice b g f);have q3:=zan I rfl (.int .i64 p7.al) (.slice L Z U) (.slice b g f);replace i:=i.far I a oM dM dM;replace z:=z.frm a oM;replace D:=D.frm a oM;replace r:=r.frm a oM;replace u:=u.frm a oM;replace y:=y.frm a oM;clear a I;generalize ((w8.setCell ⟨G+1+1,0,none⟩ p7.al).setCell ⟨G+1+1,1,none⟩ (.slice L Z U)).setCell ⟨G+1+1,2,none⟩ (.slice b g f)=w9 at *;have a:=zY w9 (G+1) (.int .i64 l.al) (.int .i64 l.st) (.slice O Y S);have q2:=zan z rfl (.int .i64 l.al) (.int .i64 l.st) (.slice O Y S);replace i:=i.far z a oM dM dM;replace D:=D.frm a oM;replace q3:=q3.frm a oM;replace r:=r.frm a oM;replace u:=u.frm a oM;replace y:=y.frm a oM;clear a z;generalize ((w9.setCell ⟨G+1,0,none⟩ l.al).setCell ⟨G+1,1,none⟩ l.st).setCell ⟨G+1,2,none⟩ (.slice O Y S)=E at *;have F:Hid (w.heap.size+3<=G):=za aB;have cS:∀ W,Frm (fun k=>k=w.heap.size∨k=w.heap.size+1) E W->∀ q,W.cell? ⟨G,q,none⟩=#[Value.int .i64 j.al,.int .i64 j.st,.slice J n7 Q][q]?:=fun W hW=>(D.frm hW (oH F.out)).cell;have cT:∀ W,Frm (fun k=>k=w.heap.size∨k=w.heap.size+1) E W->∀ q,W.cell? ⟨G+1,q,none⟩=#[Value.int .i64 l.al,.int .i64 l.st,.slice O Y S][q]?:=fun W hW=>(q2.frm hW (oH F.out)).cell;have cP:∀ W,Frm (fun k=>k=w.heap.size∨k=w.heap.size+1) E W->∀ q,W.cell? ⟨G+1+1,q,none⟩=#[Value.int .i64 p7.al,.slice L Z U,.slice b g f][q]?:=fun W hW=>(q3.frm hW (oH F.out)).cell;have au:Frm (fun k=>k=w.heap.size∨k=w.heap.size+1) E E.drew:=(cY E).drew.ak;have ha:=i.ext (cY E).drew;have zs:=r.ext (cY E).drew;have zt:=u.ext (cY E).drew;have zp:=y.ext (cY E).drew;clear D q2 q3 r u y i;go_wp2_with fail
 refine tR (fun X=>Frm (fun k=>k=w.heap.size∨k=w.heap.size+1) E X) [5] (Ord.of [0,1,2,3,4,5]) ?_;refine tQ ?_;generalize hwD:E.drew=wD at *;clear hwD;have cs:=zs.cell;have fs:=zs.frozen;refine zD fun K hK=>?_;go_simp;have D:=zan zs rfl (.int .i64 j.al) (.int .i64 j.st) (.slice J n7 Q);have a:=zY wD w.heap.size (.int .i64 j.al) (.int .i64 j.st) (.slice J n7 Q);replace ha:=ha.far zs a oM dM dM;replace zt:=zt.frm a oM;replace zp:=zp.frm a oM;have ag:=au.trans (a.mono (T:=fun k=>k=w.heap.size∨k=w.heap.size+1) (fun k _ hk=>.inl hk));refine hK.out _ _ ag ?_;refine pT ?_;clear cs fs zs a;generalize ((wD.setCell w.heap.size j.al).setCell ⟨w.heap.size,1,none⟩ j.st).setCell ⟨w.heap.size,2,none⟩ (.slice J n7 Q)=wA at *;have ct:=zt.cell;have ft:=zt.frozen;refine zD fun K hK=>?_;go_simp;have q2:=zan zt rfl (.int .i64 l.al) (.int .i64 l.st) (.slice O Y S);have e2:=zY wA (w.heap.size+1) (.int .i64 l.al) (.int .i64 l.st) (.slice O Y S);replace ha:=ha.far zt e2 oM dM dM;replace zp:=zp.frm e2 oM;replace D:=D.frm e2 oM;have av:=ag.trans (e2.mono (T:=fun k=>k=w.heap.size∨k=w.heap.size+1) (fun k _ hk=>.inr hk));refine hK.out _ _ av ?_;refine pT ?_;clear ct ft zt e2 ag;generalize ((wA.setCell ⟨w.heap.size+1,0,none⟩ l.al).setCell ⟨w.heap.size+1,1,none⟩ l.st).setCell ⟨w.heap.size+1,2,none⟩ (.slice O Y S)=wB at *;have cp:=zp.cell;have fp:=zp.frozen;refine zP fun K hK=>?_;go_simp;have q3:=zan zp rfl (.int .i64 p7.al) (.slice L Z U) (.slice b g f);have e3:=zY wB (w.heap.size+1+1) (.int .i64 p7.al) (.slice L Z U) (.slice b g f);replace ha:=ha.far zp e3 oM dM dM;replace D:=D.frm e3 oM;replace q2:=q2.frm e3 oM;refine hK.out _ _ ?_;refine zao ?_;clear cp fp zp e3 av au cS cT cP;generalize ((wB.setCell ⟨w.heap.size+1+1,0,none⟩ p7.al).setCell ⟨w.heap.size+1+1,1,none⟩ (.slice L Z U)).setCell ⟨w.heap.size+1+1,2,none⟩ (.slice b g f)=wC at *;have aC:=za ha;clear ha;go_wp2_with fail
 have c1:=D.cell;have aA:=q2.cell;have c3:=q3.cell;exact bodyPost_ret (v:=.tuple #[.agg #[j.al,j.st,.slice J n7 Q],.agg #[l.al,l.st,.slice O Y S],.agg #[p7.al,.slice L Z U,.slice b g f]]) (by simp [results,Tryz.results102,go_sem,c1,aA,c3]) rfl ⟨j,J,n7,Q,l,O,Y,S,p7,L,Z,U,b,g,f,rfl,aC.out⟩
def RetD3 (w:World) (e:Ending) (w':World):Prop:=
 ∃ (s:Sys) (A:Option Addr) (n c:Nat) (t:Sys) (C:Option Addr) (k c2:Nat) (p:Aut) (B:Option Addr) (m d:Nat) (B':Option Addr) (m' d':Nat),
  e=.returned (.tuple #[.agg #[s.al,s.st,.slice A n c],.agg #[t.al,t.st,.slice C k c2],.agg #[p.al,.slice B m d,.slice B' m' d']]) ∧
  (zT w' w.heap.size w'.heap.size A n s∧zT w' w.heap.size w'.heap.size C k t∧zO w' w.heap.size w'.heap.size B m B' m' p) ∧
  Hid ((n<=100000∧n<=c)∧(k<=100000∧k<=c2))∧Ext w w'
theorem draw_d3 {p:Aut}  {w1 W':World} (hx:Ext w w1)(hR:w.heap.size<=R)(hT:zbU w1 W R M L K s A n c t C k c2 p B m d B' m' d')
  (hF:Frm S W W') (hS:∀ k,S k->w.heap.size<=k∧k<R) (hL:L<=100000) :
  RetD3 w (.returned (.tuple #[.agg #[s.al,s.st,.slice A n c],.agg #[t.al,t.st,.slice C k c2],.agg #[p.al,.slice B m d,.slice B' m' d']])) W':=by
 have a:Ext w W:=Dr.new hx hR hT.dr;have f:=hT.is.frm hF (fun k hk h1=>by have:=hS k hk;omega);have g:=hT.it.frm hF (fun k hk h1=>by have:=hS k hk;omega);have h:=hT.ip.keep hF (fun k h1 hk=>by have:=hS k hk;omega);have b:=hT.ns;exact⟨s,A,n,c,t,C,k,c2,p,B,m,d,B',m',d',rfl,⟨f.new hR,g.new hR,h.at_new oM⟩,za oM,a.frm hF (fun k hk hk2=>by have:=hS k hk2;omega)⟩
theorem spec_DrawVerifyPair {A0:Option Addr} {n0 c0:Nat} (h:Bytes w A0 n0)(hn:n0<=9223372036854775807)(hc:n0<=c0)(hc2:c0<=9223372036854775807) :
  Calls Tryz.prog 38 #[.slice A0 n0 c0] w (RetD3 w):=by
 obtain⟨I,U0⟩:∃ x,Hid (((w.alloc (.cells #[(0:Int),(0:Int),()] 38)).alloc (.cells #[(0:Int),(0:Int),()] 38)).alloc (.cells #[(0:Int),(),()] 27)=x):=⟨_,za rfl⟩;have hx0:Ext w I:=((((cY _).alloc _).alloc _).alloc _).trans (e9 U0.out);obtain⟨f,g,i⟩:=zL (e9 U0.out);have V:I.heap.size=w.heap.size+3:=by rw [← U0.out];simp
 have U:=za (h.ext hx0);clear h
 go_enter Tryz.func38,Tryz.ntmps38
 go_wp2_with fail
 rw [U0.out] at *;refine (spec_l19Open U.out hn hc hc2).mono ?_;rintro e w1 ⟨R,rfl,hR,j,a⟩;have b:=hx0.trans a;have S:=j.lt;go_wp2_with fail
 refine (spec_l12Any j oM).mono ?_;rintro e w2 ⟨s,A,n,c,t,C,k,l,p,B,m,d,y,D,z,rfl,u⟩;replace f:=(f.ext a).dr u.dr oM;replace g:=(g.ext a).dr u.dr oM;replace i:=(i.ext a).dr u.dr oM;have c1:=f.cell;have f1:=f.frozen;have Q:=g.cell;have f2:=g.frozen;have c3:=i.cell;have f3:=i.frozen;have o:=zY w2 w.heap.size (.int .i64 s.al) (.int .i64 s.st) (.slice A n c);have q:=zY (((w2.setCell w.heap.size s.al).setCell ⟨w.heap.size,1,none⟩ s.st).setCell ⟨w.heap.size,2,none⟩ (.slice A n c)) (w.heap.size+1) (.int .i64 t.al) (.int .i64 t.st) (.slice C k l);have r:=zY ((((((w2.setCell w.heap.size s.al).setCell ⟨w.heap.size,1,none⟩ s.st).setCell ⟨w.heap.size,2,none⟩ (.slice A n c)).setCell ⟨w.heap.size+1,0,none⟩ t.al).setCell ⟨w.heap.size+1,1,none⟩ t.st).setCell ⟨w.heap.size+1,2,none⟩ (.slice C k l)) (w.heap.size+1+1) (.int .i64 p.al) (.slice B m d) (.slice y D z);have F:=((zan f rfl (.int .i64 s.al) (.int .i64 s.st) (.slice A n c)).frm q oM).frm r oM;have G:=(zan (g.frm o oM) rfl (.int .i64 t.al) (.int .i64 t.st) (.slice C k l)).frm r oM;have H:=zan ((i.frm o oM).frm q oM) rfl (.int .i64 p.al) (.slice B m d) (.slice y D z);have E:=((o.mono (T:=fun k=>k=w.heap.size∨k=w.heap.size+1∨k=w.heap.size+1+1) (fun k _ hk=>.inl hk)).trans (q.mono (T:=fun k=>k=w.heap.size∨k=w.heap.size+1∨k=w.heap.size+1+1) (fun k _ hk=>.inr (.inl hk)))).trans (r.mono (T:=fun k=>k=w.heap.size∨k=w.heap.size+1∨k=w.heap.size+1+1) (fun k _ hk=>.inr (.inr hk)));have J:=za (draw_d3 b oM u E (fun k hk=>oM) oM);have L:=za F;have M:=za G;have O:=za H;clear o q r F G H E f g i hx0 a b;go_wp2_with fail
 have X:=L.out.cell;have Y:=M.out.cell;have Z:=O.out.cell;exact bodyPost_ret (v:=.tuple #[.agg #[s.al,s.st,.slice A n c],.agg #[t.al,t.st,.slice C k l],.agg #[p.al,.slice B m d,.slice y D z]]) (by simp [results,Tryz.results38,go_sem,X,Y,Z]) rfl J.out
section
variable {lo hi lo' hi' n c m d n' c' m' d':Nat} {A B A' B':Option Addr} {w:World}
theorem yV17a2 {P:Prop}(h:P:=by
 obtain rfl:x=y:=Option.some.inj (hx.out.symm.trans hy.out);go_wp2
 go_quiet (fail)
 go_wp2;go_roundw
 case rel=>exact⟨k+1,oM,gM,zjN.drewN _⟩
 case measure=>simp [intOf];omega
 ):P:=h
theorem agIntsI_same {l:List Int}(h:Reads w lo hi 1 A n (ints l))(h':Reads w lo' hi' 1 B m (ints l)) :
  Calls Tryz.prog 201 #[.slice A n c,.slice B m d] w fun e w'=>e=.returned (.bool true)∧Ext w w':=by
 have p:=h.len;have b:=h.length;have f:=h'.length;rw [zcQ] at b f;obtain rfl:n=m:=oM;clear b f;have g:=za (fun W (hW:Ext w W)=>h.ext hW);have a:=za (fun W (hW:Ext w W)=>h'.ext hW)
 go_enter Tryz.func201,Tryz.ntmps201
 go_wp2
 go_loopw [5] (fun v wr=>∃ k:Nat,k<=n∧v=.int .i64 k∧Ext w wr) (fun v _=>n - (intOf v).toNat)
 case atStart=>exact⟨0,dG _,rfl,cY _⟩
 case round =>
  obtain⟨k,hk,rfl,zjN⟩:=hrel
  by_cases hlt:k<n
  ·obtain⟨o,x,rfl,_,_,hx,hc⟩:=(g.out wr zjN).int hlt;obtain⟨i,y,rfl,_,_,hy,j⟩:=(a.out wr zjN).int hlt;exact yV17a2
  ·obtain rfl:k=n:=oM;go_wp2;go_ret;exact⟨rfl,zjN⟩
theorem agBools_same {l:List Bool}(h:Reads w lo hi 1 A n (zaa l))(h':Reads w lo' hi' 1 B m (zaa l)) :
  Calls Tryz.prog 200 #[.slice A n c,.slice B m d] w fun e w'=>e=.returned (.bool true)∧Ext w w':=by
 have p:=h.len;have b:=h.length;have f:=h'.length;rw [zbQ] at b f;obtain rfl:n=m:=oM;clear b f;have g:=za (fun W (hW:Ext w W)=>h.ext hW);have a:=za (fun W (hW:Ext w W)=>h'.ext hW)
 go_enter Tryz.func200,Tryz.ntmps200
 go_wp2
 go_loopw [5] (fun v wr=>∃ k:Nat,k<=n∧v=.int .i64 k∧Ext w wr) (fun v _=>n - (intOf v).toNat)
 case atStart=>exact⟨0,dG _,rfl,cY _⟩
 case round =>
  obtain⟨k,hk,rfl,zjN⟩:=hrel
  by_cases hlt:k<n
  ·obtain⟨o,x,rfl,_,_,hx,hc⟩:=(g.out wr zjN).bool hlt;obtain⟨i,y,rfl,_,_,hy,j⟩:=(a.out wr zjN).bool hlt;exact yV17a2
  ·obtain rfl:k=n:=oM;go_wp2;go_ret;exact⟨rfl,zjN⟩
theorem zhc (h:zO w lo hi A n A' n' a)(h':zO w lo' hi' B m B' m' a) :
  Calls Tryz.prog 111 #[.agg #[a.al,.slice A n c,.slice A' n' c'],.agg #[a.al,.slice B m d,.slice B' m' d']] w fun e w'=>e=.returned (.bool true)∧Ext w w':=by
 have Q:=h.1.len;obtain rfl:n=m:=h.1.1.trans h'.1.1.symm;have s:=za (fun W (hW:Ext w W)=>h.1.ext hW);have g:=za (fun W (hW:Ext w W)=>h'.1.ext hW);have q:=za (fun W (hW:Ext w W)=>agBools_same (c:=c') (d:=d') (h.2.2.ext hW) (h'.2.2.ext hW));clear h h'
 go_enter Tryz.func111,Tryz.ntmps111
 go_upto_region 1 with fail
 generalize U0:(w.alloc _).alloc _=p at *;obtain⟨hx0,u,x⟩:=iB U0;clear U0;have y:=u.cells;have C:=x.cells;have G:=cY p;go_wp2_with (first
  |(go_at_call 200;refine (q.out _ hx0).mono (mQ fun R j=>?_)))
 go_loopw [5] (fun v wr=>∃ k:Nat,k<=n∧v=.int .i64 k∧Ext p wr) (fun v _=>n - (intOf v).toNat)
 case atStart=>exact⟨0,dG _,rfl,j⟩
 case round =>
  obtain⟨k,hk,rfl,zjN⟩:=hrel
  by_cases hlt:k<n
  ·obtain⟨L,I,E,l,rfl,_,_,hx,hc,hr⟩:=(s.out wr (hx0.trans zjN)).row hlt;obtain⟨t,J,F,H,rfl,_,_,hy,i,b⟩:=(g.out wr (hx0.trans zjN)).row hlt;obtain rfl:l=H:=Option.some.inj (hx.out.symm.trans hy.out);have r:=za (fun W (hW:Ext wr W)=>agIntsI_same (c:=E) (d:=F) (hr.ext hW) (b.ext hW));clear hr b;have f:=cY wr;have M:=fun W (hW:Ext wr W)=>hW.aa hc;have O:=fun W (hW:Ext wr W)=>hW.aa i;have z:=fun W (hW:Ext wr W)=>y W (zjN.trans hW);have D:=fun W (hW:Ext wr W)=>C W (zjN.trans hW);go_upto_region 6 with fail
   refine uR (fun X=>Ext wr X) [10] (zy.of [0,1,2,3,4,5,6,7,8,9,10,11]) ?_;refine uQ ?_;refine zb fun K hK=>?_;go_simp;refine (r.out _ f.drew).mono (mQ fun w2 o=>?_);refine hK.out _ _ ?_;refine pT ?_;refine uQ ?_;refine zg ?_;go_wp2_with fail
   go_roundw
   case rel=>exact⟨k+1,oM,gM,zjN.trans (f.drew.trans o)⟩
   case measure=>simp [intOf];omega
  ·obtain rfl:k=n:=oM;go_wp2_with fail
   go_ret;exact⟨rfl,hx0.trans zjN⟩
end
section
variable {lo hi lo' hi' lo1 hi1 lo2 hi2 n c m d n' c' m' d' k e k' e' q f0 q' f0':Nat} {A B A' B' C C' D D':Option Addr} {w:World}
theorem agVerdicts_same {v:Vd}(h:zO w lo hi A n A' n' v.asm)(h':zO w lo' hi' B m B' m' v.asm) :
  Calls Tryz.prog 41 #[.agg #[v.code,v.asm.al,.slice A n c,.slice A' n' c',v.tr,v.ro],.agg #[v.code,v.asm.al,.slice B m d,.slice B' m' d',v.tr,v.ro]] w fun e w'=>e=.returned (.bool true)∧Ext w w':=by
 have g:=za (fun W (hW:Ext w W)=>zhc (c:=c) (c':=c') (d:=d) (d':=d') (h.ext hW) (h'.ext hW));clear h h'
 go_enter Tryz.func41,Tryz.ntmps41
 go_upto_region 1 with fail
 generalize U0:(w.alloc _).alloc _=j at *;obtain⟨hx0,b,f⟩:=iB U0;clear U0;have k:=b.cells;have l:=f.cells;have i:=cY j;clear b f;go_wp2_with (first
  |(go_at_call 111;with_reducible refine (g.out _ hx0).mono (mQ fun o a=>?_)))
 go_ret;exact⟨rfl,hx0.trans a⟩
end
structure zei (s t:Sys):Prop where
 al:t.al=s.al
 v1:zk s=true
 v2:zk t=true
 runs:∀ v,ziQ s v↔ziQ t v
structure zej (p q:Aut):Prop where
 al:q.al=p.al
 v1:zj p=true
 v2:zj q=true
 acc:∀ v:List Nat,(∀ l∈v,l<6)->zaC p (zaK p 0 v)=zaC q (zaK q 0 v)
section
variable {s s' t t':Sys} {p p' a a':Aut} {x:ByteArray}
theorem zej.refl (h:zj p=true):zej p p:=⟨rfl,h,h,fun _ _=>rfl⟩
theorem over_lt {v:List Nat}(h:Over L v):∀ l∈v,l<6:=fun l hl=>(h l hl).1
theorem iface_same (hs:zei s s')(ht:zei t t')(hp:zej p p'):iface s' p' t'=iface s p t:=by
 unfold iface;rw [hs.v1,hs.v2,ht.v1,ht.v2,hp.v1,hp.v2,hs.al,ht.al,hp.al]
theorem parts_one (h1:zk t=true)(h2:zk t'=true):zF [t']=zF [t]:=by
 simp [zF,h1,h2]
theorem parts_two (h1:zk s=true)(h2:zk s'=true)(h3:zk t=true)(h4:zk t'=true):zF [s',t']=zF [s,t]:=by
 simp [zF,h1,h2,h3,h4]
end
theorem st_nat (h:zk s=true):s.st=((s.st.toNat:Nat):Int):=by
 have:=(zez.1 h).2.1;omega
theorem zhe (hs:Sml s) (hb:s.al.toNat.testBit l=true):k∈cho s i l↔E s.edges i l k:=by
 obtain⟨-,m,b,-⟩:=hs;unfold cho E;rw [if_pos hb,zC,zdn];constructor
 ·rintro ⟨-,e,a,⟨c,d⟩,f⟩;obtain⟨g,h,j⟩:=b e a;exact⟨e,a,oM,oM,oM⟩
 ·rintro ⟨e,a,c,d,f⟩;obtain⟨g,h,j⟩:=b e a;exact⟨oM,e,a,⟨oM,oM⟩,oM⟩
theorem zfv (hb:¬ s.al.toNat.testBit l=true):k∈cho s i l↔k=i:=by
 unfold cho;rw [if_neg hb];simp
section
variable {s:Sys} {p R:Nat}
theorem goes_rch (hs:Sml s):∀ (n:Nat) (v:List Nat),v.length=n->∀ q,zbi (cho s) [0] v q->Rch s.edges q:=by
 intro n
 induction n with
 |zero =>
  intro v hv q h;obtain rfl:v=[]:=List.length_eq_zero_iff.1 hv;generalize hw:([]:List Nat)=w at h;cases h with
  |nil h=>
   obtain rfl:q=0:=by simpa using h
   exact .zero
  |snoc h hx=>simp at hw
 |succ n ih =>
  intro v hv q h;obtain⟨u,l,rfl⟩:∃ u l,v=u++[l]:=⟨v.dropLast,v.getLast (by intro e;rw [e] at hv;simp at hv),(jI _).symm⟩;obtain⟨m,c,a⟩:=h.inv;have b:=ih u (by simpa using hv) m c
  by_cases hb:s.al.toNat.testBit l=true
  ·exact .step b ((zhe hs hb).1 a)
  ·obtain rfl:=(zfv hb).1 a;exact b
theorem goes_sub (hs:Sml s)(hs2:Sml (zii s R))(hR:zgZ s.edges p R):∀ (n:Nat) (v:List Nat),v.length=n->∀ q',zbi (cho (zii s R)) [0] v q'↔∃ q,zbi (cho s) [0] v q∧rk R q=q':=by
 have o:rk R 0=0:=by simp [rk,letters]
 intro n
 induction n with
 |zero =>
  intro v hv q';obtain rfl:v=[]:=List.length_eq_zero_iff.1 hv;constructor
  ·intro h;generalize hw:([]:List Nat)=w at h;cases h with
   |nil h=>
    obtain rfl:q'=0:=by simpa using h
    exact⟨0,.nil sM,o⟩
   |snoc h hx=>simp at hw
  ·rintro ⟨q,h,rfl⟩;generalize hw:([]:List Nat)=w at h;cases h with
   |nil h=>
    obtain rfl:q=0:=by simpa using h
    rw [o];exact .nil sM
   |snoc h hx=>simp at hw
 |succ n ih =>
  intro v hv q';obtain⟨u,l,rfl⟩:∃ u l,v=u++[l]:=⟨v.dropLast,v.getLast (by intro e;rw [e] at hv;simp at hv),(jI _).symm⟩;have g:u.length=n:=by simpa using hv
  have a:(zii s R).al=s.al:=rfl;constructor
  ·intro h;obtain⟨z,f,c⟩:=h.inv;obtain⟨m,d,rfl⟩:=(ih u g z).1 f
   by_cases hb:s.al.toNat.testBit l=true
   ·have b:=(zhe hs2 (by rw [a];exact hb)).1 c;obtain⟨i,k,r,B,t,x,y⟩:=subE_E.1 b;obtain rfl:=rk_inj r ((hR.2 m).2 (goes_rch hs n u g m d)) x;exact⟨k,d.snoc ((zhe hs hb).2 t),y⟩
   ·have b:=(zfv (s:=zii s R) (by rw [a];exact hb)).1 c;exact⟨m,d.snoc ((zfv hb).2 rfl),b.symm⟩
  ·rintro ⟨q,h,rfl⟩;obtain⟨m,f,c⟩:=h.inv;have d:=(ih u g (rk R m)).2 ⟨m,f,rfl⟩;refine d.snoc ?_;have j:=goes_rch hs n u g m f
   by_cases hb:s.al.toNat.testBit l=true
   ·have b:=(zhe hs hb).1 c;rw [zhe hs2 (by rw [a];exact hb)];exact subE_E.2 ⟨m,q,(hR.2 m).2 j,(hR.2 q).2 (.step j b),b,rfl,rfl⟩
   ·obtain rfl:=(zfv hb).1 c;exact (zfv (s:=zii s R) (by rw [a];exact hb)).2 rfl
theorem same_sub (h:zk s=true)(hp:s.st=p)(hR:zgZ s.edges p R):zei s (zii s R):=by
 have a:=sub_valid h hp hR;refine⟨rfl,h,a,fun v=>⟨fun ⟨q,hq⟩=>⟨rk R q,?_⟩,fun ⟨q',hq⟩=>?_⟩⟩
 ·exact (goes_sub (zbv h) (zbv a) hR _ v rfl _).2 ⟨q,hq,rfl⟩
 ·obtain⟨q,b,-⟩:=(goes_sub (zbv h) (zbv a) hR _ v rfl _).1 hq;exact⟨q,b⟩
end
def onesN (x:Nat):Nat:=
 let a:=((x / 2)&&&6148914691236517205)+(x&&&6148914691236517205)
 let b:=((a / 4)&&&3689348814741910323)+(a&&&3689348814741910323)
 let c:=((b / 16)+b)&&&1085102592571150095
 let d:=c+c / 256
 let e:=d+d / 65536
 let f:=e+e / 4294967296
 f&&&127
def c8 (x:Nat):Nat:=x % 2+x / 2 % 2+x / 4 % 2+x / 8 % 2+x / 16 % 2+x / 32 % 2+x / 64 % 2+x / 128 % 2
theorem onesN_c8:∀ a:Fin 256,∀ b:Fin 256,onesN (a.val*256+b.val)=c8 a.val+c8 b.val:=by decide +kernel
theorem c8_rk:∀ a:Fin 256,c8 a.val=(letters a.val 8).length:=by decide +kernel
theorem rk_hi (x k:Nat):rk x (8+k)=rk x 8+rk (x / 256) k:=by
 induction k with
 |zero=>rfl
 |succ k ih =>
  have e:(x / 256).testBit k=x.testBit (8+k):=by rw [show (256:Nat)=2 ^ 8 from rfl,Nat.testBit_div_two_pow,Nat.add_comm]
  rw [← Nat.add_assoc,zdp x (8+k),zdp (x / 256) k,ih,e];omega
theorem rk_lo (x:Nat):∀ k,k<=8->rk (x % 256) k=rk x k
 |0,_=>rfl
 |k+1,h=>by
  rw [zdp,zdp,rk_lo x k oM,show (256:Nat)=2 ^ 8 from rfl,Nat.testBit_mod_two_pow]
  simp [show k<8 by omega]
theorem rk_top (h:x<2 ^ n):∀ d,rk x (n+d)=rk x n
 |0=>rfl
 |d+1=>by
  rw [← Nat.add_assoc,zdp,rk_top h d,gQ (dV h (dY oM oM))]
  rfl
theorem onesN_rk (h:x<65536):onesN x=rk x 32:=by
 have e:=onesN_c8 ⟨x / 256,oM⟩ ⟨x % 256,oM⟩;have a:c8 (x / 256)=rk (x / 256) 8:=c8_rk ⟨x / 256,oM⟩;have b:c8 (x % 256)=rk (x % 256) 8:=c8_rk ⟨x % 256,oM⟩;simp only at e;rw [show x / 256*256+x % 256=x by omega] at e;have c:rk x 32=rk x 16:=rk_top (n:=16) h 16;have d:rk x 16=rk x 8+rk (x / 256) 8:=rk_hi x 8;have f:=rk_lo x 8 (dD _);omega
theorem and_u64 {a:Nat}(ha:a<18446744073709551616)(hb:b<18446744073709551616):bits .and .u64 (a:Int) (b:Int)=((a&&&b:Nat):Int):=by
 have hx:a&&&b<=a:=gH;show IntKind.u64.wrap ((BitVec.ofInt 64 (a:Int)&&&BitVec.ofInt 64 (b:Int)).toNat:Int)=_;rw [BitVec.toNat_and,BitVec.ofInt_natCast,BitVec.ofInt_natCast,BitVec.toNat_ofNat,BitVec.toNat_ofNat,gP oM,gP oM,IntKind.wrap_u64];omega
theorem zfs {a:Nat}(ha:a<18446744073709551616) (C:Nat)(hb:C<18446744073709551616) (I:Int)(hI:I=(C:Int)):bits .and .u64 (a:Int) I=((a&&&C:Nat):Int):=by
 subst hI;exact and_u64 ha hb
theorem ones64 (hx:x<65536) (w:World):Calls Tryz.prog 266 #[.int .u64 (x:Nat)] w fun e w'=>e=.returned (.int .i64 (rk x 32:Nat))∧w=w':=by
 have h:=onesN_rk hx;dsimp only [onesN] at h;have g:=za h;clear h;have wr:∀ y:Nat,y<18446744073709551616->IntKind.u64.wrap (y:Int)=(y:Int):=fun y hy=>by rw [IntKind.wrap_u64];omega
 have C:x / 2&&&6148914691236517205<=x / 2:=gH;have D:x&&&6148914691236517205<=x:=gH;have H:bits .and .u64 ((x:Int) / 2) 6148914691236517205=((x / 2&&&6148914691236517205:Nat):Int):=zfs (a:=x / 2) oM 6148914691236517205 oM _ rfl;have I:bits .and .u64 (x:Int) 6148914691236517205=((x&&&6148914691236517205:Nat):Int):=zfs (a:=x) oM 6148914691236517205 oM _ rfl;generalize x / 2&&&6148914691236517205=j at *;generalize x&&&6148914691236517205=l at *;have r:IntKind.u64.wrap ((j:Int)+(l:Int))=((j+l:Nat):Int):=by rw [← iG];exact wr _ oM
 obtain⟨a,o⟩:∃ a,a=j+l:=⟨_,rfl⟩;rw [← o] at r g;have E:a / 4&&&3689348814741910323<=a / 4:=gH;have F:a&&&3689348814741910323<=a:=gH;have J:bits .and .u64 ((a:Int) / 4) 3689348814741910323=((a / 4&&&3689348814741910323:Nat):Int):=zfs (a:=a / 4) oM 3689348814741910323 oM _ rfl;have L:bits .and .u64 (a:Int) 3689348814741910323=((a&&&3689348814741910323:Nat):Int):=zfs (a:=a) oM 3689348814741910323 oM _ rfl;generalize a / 4&&&3689348814741910323=m at *;generalize a&&&3689348814741910323=n at *;have s:IntKind.u64.wrap ((m:Int)+(n:Int))=((m+n:Nat):Int):=by rw [← iG];exact wr _ oM
 obtain⟨b,hb⟩:∃ b,b=m+n:=⟨_,rfl⟩;rw [← hb] at s g;have t:IntKind.u64.wrap ((b:Int) / 16+(b:Int))=((b / 16+b:Nat):Int):=by rw [show (b:Int) / 16+(b:Int)=((b / 16+b:Nat):Int) by omega];exact wr _ oM
 obtain⟨k,hk⟩:∃ k,k=b / 16+b:=⟨_,rfl⟩;rw [← hk] at t g;have G:k&&&1085102592571150095<=k:=gH;have M:bits .and .u64 (k:Int) 1085102592571150095=((k&&&1085102592571150095:Nat):Int):=zfs (a:=k) oM 1085102592571150095 oM _ rfl;generalize k&&&1085102592571150095=c at *;have u:IntKind.u64.wrap ((c:Int)+(c:Int) / 256)=((c+c / 256:Nat):Int):=by rw [show (c:Int)+(c:Int) / 256=((c+c / 256:Nat):Int) by omega];exact wr _ oM
 obtain⟨d,hd⟩:∃ d,d=c+c / 256:=⟨_,rfl⟩;rw [← hd] at u g;have v:IntKind.u64.wrap ((d:Int)+(d:Int) / 65536)=((d+d / 65536:Nat):Int):=by rw [show (d:Int)+(d:Int) / 65536=((d+d / 65536:Nat):Int) by omega];exact wr _ oM
 obtain⟨e,p⟩:∃ e,e=d+d / 65536:=⟨_,rfl⟩;rw [← p] at v g;have z:IntKind.u64.wrap ((e:Int)+(e:Int) / 4294967296)=((e+e / 4294967296:Nat):Int):=by rw [show (e:Int)+(e:Int) / 4294967296=((e+e / 4294967296:Nat):Int) by omega];exact wr _ oM
 obtain⟨f,q⟩:∃ f,f=e+e / 4294967296:=⟨_,rfl⟩;rw [← q] at z g;have i:f<4294967296:=oM;have B:=za (zcr (a:=f) (b:=127) i tM);have O:IntKind.i64.wrap (f:Int)=(f:Int):=IntWalk.i64_in _ oM;clear o hb hk hd p q C D E F G wr
 go_enter Tryz.func266,Tryz.ntmps266
 go_wp2;go_ret;exact⟨zap (by rw [← g.out];exact B.out),rfl⟩
theorem ones (hx:x<65536) (w:World):Calls Tryz.prog 189 #[.int .u64 (x:Nat)] w fun e w'=>e=.returned (.int .i64 (rk x 32:Nat))∧w=w':=by
 go_enter Tryz.func189,Tryz.ntmps189
 go_wp2_with (go_at_call 266;refine (ones64 hx _).mono ?_;rintro e w' ⟨rfl,rfl⟩)
 go_ret;exact⟨rfl,rfl⟩
theorem rk_mask (R:Nat) (hn:n<=32):rk (R&&&(2 ^ n - 1)) 32=rk R n:=by
 have a:∀ k,rk (R&&&(2 ^ n - 1)) k=rk R (min k n):=by
  intro k
  induction k with
  |zero=>simp [rk,letters_zero]
  |succ k ih =>
   rw [zdp,ih,Nat.testBit_and,Nat.testBit_two_pow_sub_one]
   by_cases h:k<n
   ·rw [show min (k+1) n=min k n+1 by omega,show min k n=k by omega,zdp];simp [h]
   ·rw [show min (k+1) n=min k n by omega];simp [h]
 rw [a,show min 32 n=n by omega]
theorem impl_rank (hR:R<65536)(hn:n<32) (w:World):Calls Tryz.prog 190 #[.int .i64 (R:Nat),.int .i64 (n:Nat)] w fun e w'=>e=.returned (.int .i64 (rk R n:Nat))∧w=w':=by
 have h:=(Sm.bit hn).lt;have g:=Nat.two_pow_pos n;have j:=wrap_pow hn;have d:=za (rk_mask R (n:=n) oM);generalize 2 ^ n=q at *;have hb:=zcr (a:=R) (b:=q - 1) tM tM;rw [show ((q - 1:Nat):Int)=(q:Int) - 1 by omega] at hb;have c:R&&&(q - 1)<65536:=Nat.lt_of_le_of_lt gH hR;generalize R&&&(q - 1)=m at *;have i:IntKind.u64.wrap (m:Int)=(m:Int):=by rw [IntKind.wrap_u64];omega
 have f:=za (fun W=>ones c W);rw [← d.out];clear d;generalize rk m 32=r at *
 go_enter Tryz.func190,Tryz.ntmps190
 go_wp2_with (go_at_call 189;refine (f.out _).mono ?_;rintro e w' ⟨rfl,rfl⟩)
 go_ret;exact⟨rfl,rfl⟩
section
variable {es:List Edg} {p:Nat}
def RIn (es:List Edg) (p R:Nat):Prop:=R<2 ^ p∧R.testBit 0=true∧∀ i,R.testBit i=true->Rch es i
def More (es:List Edg) (R j M:Nat):Prop:=∀ k,M.testBit k=true↔R.testBit k=true∨∃ l,l<j∧(zbA es R (l:Nat)).testBit k=true
theorem More.zero (R:Nat):More es R 0 R:=fun k=>⟨Or.inl,fun h=>h.elim id (fun ⟨_,h,_⟩=>oM)⟩
theorem More.succ (h:More es R j M):More es R (j+1) (M|||zbA es R (j:Nat)):=fun k=>by
 rw [Nat.testBit_or,Bool.or_eq_true,h k]
 constructor
 ·rintro ((h1|⟨l,h1,h2⟩)|h1)
  ·exact Or.inl h1
  ·exact Or.inr ⟨l,oM,h2⟩
  ·exact Or.inr ⟨j,oM,h1⟩
 ·rintro (h1|⟨l,h1,h2⟩)
  ·exact Or.inl (Or.inl h1)
  ·rcases Nat.lt_or_ge l j with h3|h3
   ·exact Or.inl (Or.inr ⟨l,h3,h2⟩)
   ·obtain rfl:l=j:=oM
    exact Or.inr h2
theorem More.lt (hf:Few p es) (hR:R<2 ^ p)(h:More es R j M):M<2 ^ p:=by
 apply Nat.lt_pow_two_of_testBit;intro k hk;rw [Bool.eq_false_iff];intro hb;rcases (h k).1 hb with a|⟨l,_,a⟩
 ·rw [gQ (dV hR (dY oM hk))] at a;cases a
 ·rw [gQ (dV (zgV hf R l) (dY oM hk))] at a;cases a
theorem More.in_ (hf:Few p es) (hR:RIn es p R)(h:More es R j M):RIn es p M:=by
 refine⟨h.lt hf hR.1,(h 0).2 (Or.inl hR.2.1),fun k hk=>?_⟩;rcases (h k).1 hk with a|⟨l,_,a⟩
 ·exact hR.2.2 k a
 ·obtain⟨e,b,⟨c,d⟩,f⟩:=(zcz es R l k).1 a;have:=hf e b;exact (hR.2.2 _ d).step ⟨e,b,oM,c,oM⟩
theorem le_of_bits {a:Nat}(h:∀ k,a.testBit k=true->b.testBit k=true):a<=b:=by
 have e:a|||b=b:=or_same h
 rw [← e];exact Nat.left_le_or
theorem More.le (h:More es R j M):R<=M:=le_of_bits fun k hk=>(h k).2 (Or.inl hk)
theorem More.done (hf:Few p es) (hR:RIn es p R)(h:More es R 6 R):zgZ es p R:=by
 refine⟨hR.1,fun i=>⟨hR.2.2 i,fun hi=>?_⟩⟩
 induction hi with
 |zero=>exact hR.2.1
 |@step i l k _ hk ih =>
  obtain⟨e,a,c,b,d⟩:=hk;have:=hf e a;refine (h k).2 (Or.inr ⟨l,oM,(zcz es R l k).2 ⟨e,a,⟨b,?_⟩,oM⟩⟩);rw [show e.fr.toNat=i by omega];exact ih
theorem RIn.start (hp:1<=p):RIn es p 1:=by
 refine⟨?_,rfl,fun i hi=>?_⟩
 ·have:=dY (n:=2) oM hp;omega
 ·have:i=0:=by
   rcases Nat.eq_zero_or_pos i with h|h
   ·exact h
   ·obtain⟨j,rfl⟩:∃ j,i=j+1:=⟨i - 1,oM⟩;rw [Nat.testBit_succ] at hi;simp at hi
  subst this;exact .zero
end
theorem pow16 (h:x<2 ^ p)(hp:p<=16):x<65536:=dV h (by rw [show (65536:Nat)=2 ^ 16 from rfl];exact dY oM hp)
theorem zeL (h:zT w lo hi A n s)(hT:Tab w)(hv:zk s=true)(hp:s.st=p) :
  Calls Tryz.prog 100 #[.agg #[s.al,s.st,.slice A n c]] w fun e w'=>∃ R:Nat,e=.returned (.int .i64 R)∧Hid (zgZ s.edges p R)∧Ext w w':=by
 obtain⟨T,F,G,g,S⟩:=zcj hv;obtain rfl:T=p:=oM;have L:=za (fun W (hW:Ext w W)=>h.ext hW);have o:=za (fun W (hW:Ext w W)=>hT.ext hW);have m:=za S;have V:=za hv;clear S hv h hT hp F
 go_enter Tryz.func100,Tryz.ntmps100
 go_wp2_with fail
 refine (zaF (L.out _ ((cY _).alloc _))).mono ?_;rw [V.out];rintro e w1 ⟨rfl,l⟩;have O:=(Blk.new w 38 #[s.al,s.st,.slice A n c]).ext l;have Z:=O.cell;have k:=((cY w).alloc (.cells #[s.al,s.st,.slice A n c] 38)).trans l;go_wp2_with fail
 refine (zdc (L.out _ k) (fun e he=>by have:=m.out e he;omega)).mono ?_;rintro e w2 ⟨b,rfl,hb,Q,u⟩;have t:=k.trans u;have U:=za (fun W (hW:Ext w2 W)=>(Q.ext hW).at_);clear Q Z O l u k;go_wp2_with fail
 go_loopw [4,5,6] (fun v _ _ wr=>∃ x:Nat,v=.int .i64 x∧x<65536∧Hid (RIn s.edges T x)∧Ext w2 wr) (fun v _ _ _=>65536 - (intOf v).toNat)
 case atStart=>exact⟨1,rfl,oM,RIn.start G,cY _⟩
 case round =>
  obtain⟨x,rfl,hx,B,d⟩:=hrel;go_wp2_with fail
  go_loopw [5,6,13] (fun v _ i wr=>∃ j M:Nat,i=.int .i64 j∧j<=6∧v=.int .i64 M∧M<65536∧Hid (More s.edges x j M)∧Ext w2 wr) (fun _ _ i _=>6 - (intOf i).toNat)
  case atStart=>exact⟨0,x,rfl,oM,rfl,hx,More.zero x,d⟩
  case round =>
   clear d;obtain⟨j,M,rfl,hj,rfl,z,f,d⟩:=hrel
   by_cases hj6:j<6
   ·have I:=za (impl_step (U.out _ d) (o.out _ (t.trans d)) (show x<2 ^ 16 from hx) hj6 m.out g);have H:=stepB_sm m.out g x j;have E:=za (zbL (a:=M) tM H);have q:=za f.out.succ;have D:=pow16 (q.out.lt m.out B.out.1) g;clear f;generalize zbA s.edges x (j:Nat)=y at *;go_wp2_with fail
    refine I.out.mono (mQ fun w4 J=>?_);go_wp2_with fail
    go_roundw
    case rel=>exact⟨j+1,M|||y,gM,oM,by rw [E.out],D,q,d.trans J⟩
    case measure=>simp [intOf];omega
   ·obtain rfl:j=6:=oM
    by_cases hMx:M=x
    ·subst hMx;have r:=za (f.out.done m.out B.out);have zjO:=t.trans d;go_wp2_with fail
     go_ret;exact⟨M,rfl,r,zjO⟩
    ·have Y:((M:Int)==(x:Int))=false:=by simp;omega
     have X:=f.out.le;have C:=za (f.out.in_ m.out B.out);go_wp2_with fail
     go_roundw
     case rel=>exact⟨M,rfl,z,C,d⟩
     case measure=>simp [intOf];omega
theorem zgM (W:World) (Z:Nat) (u0 u1 u2:Value):Frm (fun k=>k=Z) W (((W.setCell Z u0).setCell ⟨Z,1,none⟩ u1).setCell ⟨Z,2,none⟩ u2):=
 ((dF W Z 0 u0).trans (dF _ Z 1 u1)).trans (dF _ Z 2 u2)
theorem zgL {Z:Nat} {cs:Array Value} {t:TypeId}(h:Blk w Z t cs)(hc:cs.size=3) (u0 u1 u2:Value):Blk (((w.setCell Z u0).setCell ⟨Z,1,none⟩ u1).setCell ⟨Z,2,none⟩ u2) Z t #[u0,u1,u2]:=by
 obtain⟨l⟩:=cs
 match l,hc with
 |[a,b,c],_=>simpa using ((h.ae 0 u0).ae 1 u1).ae 2 u2
structure Grw (w0 W:World) (G:Nat) (al st:Int) (v:Value) (es:List Edg):Prop where
 blk:Blk W G 38 #[al,st,v]
 own:W.ownsRow w0.heap.size 117 3 v es.length (zr es)
 ext:Ext w0 W
 hG:w0.heap.size<=G
section
variable {w0 W W':World} {G:Nat} {al st:Int} {v:Value} {es:List Edg}
theorem Grw.ar (h:Grw w0 W G al st v es)(hb:Ext W W'):Grw w0 W' G al st v es:=⟨h.blk.ext hb,zi h.own hb,h.ext.trans hb,h.hG⟩
theorem Grw.far (h:Grw w0 W G al st v es) (hv:v.ownBlock=some b):b≠G:=by
 rintro rfl;have a:=h.blk;rcases h.own.2 with ⟨rfl,_⟩|⟨g,c,d,rfl,_,i,_⟩
 ·simp [Value.ownBlock] at hv
 ·have f:g=b:=by simpa [Value.ownBlock] using hv
  subst f;unfold Blk at a;rw [i] at a;injection a with a
  injection a with _ ht
  exact absurd ht dM
theorem Grw.push {g cap:Nat} {e:Edg}(h:Grw w0 W G al st v es) (zjL:W'.ownsRow w0.heap.size 117 3 (.slice (some g) (es.length+1) cap) (es.length+1) (zr es++[.int .i64 e.fr,.int .i64 e.le,.int .i64 e.ta]))
  (hg:W.grownBy W' v.ownBlock) (hat:v.ownBlock=some g∨g=W.heap.size+1) :
  Hid (W'.cell? ⟨G,2,none⟩=some v)∧W'.frozen? ⟨G,2,none⟩=false∧Grw w0 (W'.setCell ⟨G,2,none⟩ (.slice (some g) (es.length+1) cap)) G al st (.slice (some g) (es.length+1) cap) (es++[e]):=by
 have a:Blk W' G 38 #[.int .i64 al,.int .i64 st,v]:=(hg.block G h.blk.lt (fun e=>h.far e.symm rfl)).trans h.blk;have d:g≠G:=by
  rcases hat with c|c
  ·exact h.far c
  ·have:=h.blk.lt;omega
 have hx:Ext w0 W':=h.ext.grown hg (fun k hk=>(h.own.lt k hk).1);refine⟨a.cell 2,a.frozen 2,⟨by simpa using a.ae 2 _,?_,hx.setCell (p:=⟨G,2,none⟩) h.hG _,h.hG⟩⟩;have:=zf zjL (dF W' G 2 (.slice (some g) (es.length+1) cap)) (fun b hv hS=>by
  have:g=b:=by simpa [Value.ownBlock] using hv
  omega)
 rw [zbE];simpa [zr] using this
end
def RetS (w:World) (s:Sys) (e:Ending) (w':World):Prop:=
 ∃ (A:Option Addr) (n c:Nat),e=.returned (.agg #[s.al,s.st,.slice A n c])∧zT w' w.heap.size w'.heap.size A n s∧Ext w w'
theorem yV17a1 {P:Prop}(h:P:=by
 refine pT ?_;refine uQ ?_;have cG:=hb.cell;have fG:=hb.frozen;refine zb fun K hK=>?_;go_simp;refine hK.out _ _ ?_;refine zg ?_;have zjO:Grw w2 (((w3.setCell G s.al).setCell ⟨G,1,none⟩ r).setCell ⟨G,2,none⟩ ()) G s.al r (.slice none 0 0) []:=⟨zgL hb rfl _ _ _,World.ownsRow_nil _ _ _ _,hx0.frm (zgM w3 G _ _ _) (fun k hk e=>oM),hG⟩;go_wp2_with fail
 go_meet;exact⟨G,rfl,zjO⟩
 ):P:=h
theorem yV17a3 {P:Prop}(h:P:=by
 go_roundw
 case rel=>exact⟨k+1,v,es,oM,gM,hgr2,(show Hid _ from by rw [hes.out,Htk.out,zhI,hno.out];rfl),oM⟩
 case measure=>simp [intOf];omega
 ):P:=h
theorem zhZ (h:zT w lo hi A n s)(hf:Few p s.edges)(hp:p<=16)(hR:R<65536)(hn4:n<=1000000) :
  Calls Tryz.prog 99 #[.agg #[s.al,s.st,.slice A n c],.int .i64 (R:Nat)] w (RetS w (zii s R)):=by
 have HS:=za (fun W (hW:Ext w W)=>h.ext hW);have hL:=za h.1;have hn:=h.2.len;have Hf:=za hf;clear h hf;have ho:=za (fun W=>ones hR W);have V:=za (show (zii s R).st=(rk R 32:Nat) from rfl);have hu:IntKind.u64.wrap (R:Int)=(R:Int):=by rw [IntKind.wrap_u64];omega
 generalize hr32:rk R 32=r at *;have ab:=za hr32;clear hr32
 go_enter Tryz.func99,Tryz.ntmps99
 go_upto_region 1 with fail
 generalize U0:(w.alloc _).alloc _=w2 at *;obtain⟨J,b1,bz⟩:=iB U0;have ag:w.heap.size+2=w2.heap.size:=by rw [← U0];simp
 clear U0
 go_cut [5] (fun v wx=>∃ G:Nat,v=.pointer (some G)∧Grw w2 wx G s.al r (.slice none 0 0) [])
 case first =>
  have c1:=fun W (hW:Ext w2 W)=>(b1.ext hW).cell;have Z:=cY w2;refine uR (fun X=>Ext w2 X) [7] (zy.app [0,1,2,3] (zy.two 4 (zy.of [5,6,7]) 6 (zy.of [4,5,7]))) ?_;refine uQ ?_;have hx0:Ext w2 w2.drew:=Z.drew;generalize w2.drew=F at *;refine zm (fun K hK=>?_) (fun K hK=>?_)
  ·go_simp;refine (ho.out _).mono ?_;rintro e u ⟨rfl,rfl⟩;refine hK.out _ _ hx0 ?_;refine pT ?_;refine uQ ?_;refine ze fun K hK=>?_;go_simp;have E:=(cY F).alloc (.cells #[(0:Int),(0:Int),()] 38);have hG:=hx0.size;replace hx0:=hx0.trans E;refine hK.out _ _ hx0 ?_;generalize U0:F.alloc _=w3 at *;have hb:=Ext.bl_ U0;clear U0;generalize F.heap.size=G at *;exact yV17a1
  ·go_simp;have E:=(cY F).alloc (.cells #[(0:Int),(0:Int),()] 38);have hG:=hx0.size;replace hx0:=hx0.trans E;refine hK.out _ _ hx0 ?_;generalize U0:F.alloc _=w3 at *;have hb:=Ext.bl_ U0;clear U0;generalize F.heap.size=G at *;refine pT ?_;refine ze fun K hK=>?_;go_simp;refine (ho.out _).mono ?_;rintro e u ⟨rfl,rfl⟩;refine hK.out _ _ hx0 ?_;exact yV17a1
 case rest =>
  obtain⟨G,rfl,a⟩:=hcut;have k1:=(b1.ext a.ext).cell;go_wp2_with fail
  go_loopw [7,17] (fun _ i wr=>∃ (k:Nat) (v:Value) (es:List Edg),k<=n∧i=.int .i64 k∧Grw w2 wr G s.al r v es∧Hid (es=subE R (s.edges.take k))∧es.length<=k) (fun _ i _=>n - (intOf i).toNat)
  case atStart=>exact⟨0,_,[],dG _,rfl,a,rfl,dG _⟩
  case round =>
   clear a k1;obtain⟨k,v,es,hk,rfl,a,hes,ay⟩:=hrel
   by_cases hlt:k<n
   ·obtain⟨g,o,x,rfl,_,_,hx,c0,c1,c2⟩:=(HS.out wr (J.trans a.ext)).2.az hlt;obtain⟨⟨f0,f1⟩,⟨g0,g1⟩,⟨t0,t1⟩⟩:=Hf.out x (dB hx.out);have Htk:=za (show s.edges.take (k+1)=s.edges.take k++[x] by rw [dN,hx.out];rfl);obtain⟨f,d⟩:∃ f:Nat,x.fr=f:=⟨x.fr.toNat,oM⟩;obtain⟨t,j⟩:∃ t:Nat,x.ta=t:=⟨x.ta.toNat,oM⟩;have O:=za (show subI R x=(hasB R f&&hasB R t) by unfold subI;rw [d,j]);have hJ:=za (show subJ R x=⟨(rk R f:Nat),x.le,(rk R t:Nat)⟩ by unfold subJ;rw [d,j];rfl);have T:=za (fun W=>impl_rank (n:=f) hR oM W);have U:=za (fun W=>impl_rank (n:=t) hR oM W);have D:=za (fun W=>zbF R (f:Int) tM W);have I:=za (fun W=>zbF R (t:Int) tM W);rw [d] at c0 f0 f1;rw [j] at c2 t0 t1;have q:Blk (wr.alloc (.cells #[f,x.le,t] 117)) wr.heap.size 117 #[.int .i64 f,.int .i64 x.le,.int .i64 t]:=Blk.new _ _ _;have hgr2:=a.ar ((cY wr).alloc (.cells #[f,x.le,t] 117));have hx:=za d;have az:=za j;clear d j a;generalize rk R f=rf at *;generalize rk R t=rt at *;cases hif:hasB R f
    ·have m:=za hif;have hno:=za (show subI R x=false by rw [O.out,hif];rfl);clear hif;go_upto_region 5 with fail
     generalize wr.alloc _=w3 at *;have M:=q.cell;go_wp2_with (go_at_call 127;refine (D.out _).mono ?_;rw [m.out];rintro e u ⟨rfl,rfl⟩)
     exact yV17a3
    ·have m:=za hif;cases hit:hasB R t
     ·have z:=za hit;have hno:=za (show subI R x=false by rw [O.out,hit,Bool.and_false]);clear hif hit;go_upto_region 5 with fail
      generalize wr.alloc _=w3 at *;have M:=q.cell;go_wp2_with fail
      refine (D.out _).mono ?_;rw [m.out];rintro e u ⟨rfl,rfl⟩;go_wp2_with fail
      refine (I.out _).mono ?_;rw [z.out];rintro e u ⟨rfl,rfl⟩;go_wp2_with fail
      exact yV17a3
     ·have z:=za hit;have L:=za (show subI R x=true by rw [O.out,hif,hit];rfl);clear hif hit;go_upto_region 5 with fail
      generalize wr.alloc _=w3 at *;have M:=q.cell;go_wp2_with fail
      refine (D.out _).mono ?_;rw [m.out];rintro e u ⟨rfl,rfl⟩;go_wp2_with fail
      refine (I.out _).mono ?_;rw [z.out];rintro e u ⟨rfl,rfl⟩;go_upto_region 6 with fail
      clear M;have M:=q.cells;have cG:=fun W (hW:Ext w3 W)=>(hgr2.blk.ext hW).cell;have l:=cY w3;refine uR (fun X=>Ext w3 X) [14,16] (zy.of [0,1,2,3,4,6,7,8,9,10,5,11,12,13,14,15,16]) ?_;refine uQ ?_;refine ze fun K hK=>?_;go_simp;refine (T.out _).mono ?_;rintro e u ⟨rfl,rfl⟩;refine hK.out _ _ l.drew ?_;refine pT ?_;refine ze fun K hK=>?_;go_simp;refine (U.out _).mono ?_;rintro e u ⟨rfl,rfl⟩;refine hK.out _ _ l.drew ?_;refine pT ?_;refine uQ ?_;refine ze fun K hK=>?_;go_simp;refine hK.out _ _ (l.drew.alloc _) ?_;refine pT ?_;refine zb fun K hK=>?_;refine zax w2 w3.drew _ _ _ rfl 117 _ 3 24 Tryz.underlying36 zaV rfl dM v es.length (zr es) _ _ rfl rfl hgr2.ext.size hgr2.own rfl (by simp [Value.oneCell']) lM oM ?_;intro g5 cap5 w5 zjX hg5 hat5 hlt5;refine hK.out _ _ ?_;refine pT ?_;refine uQ ?_;obtain⟨h1,h2,h3⟩:=(hgr2.ar ((cY _).drew)).push (e:=⟨rf,x.le,rt⟩) (W':=w5) zjX hg5 hat5;have au:=h1.out;refine zb fun K hK=>?_;go_simp;refine hK.out _ _ ?_;refine zg ?_;go_wp2_with fail
      go_roundw
      case rel=>exact⟨k+1,_,_,oM,gM,h3,(show Hid _ from by rw [hes.out,Htk.out,zhI,L.out,hJ.out];rfl),by simp;omega⟩
      case measure=>simp [intOf];omega
   ·obtain rfl:k=n:=oM;obtain⟨y,B,rfl⟩:=zh a.own;have cG:=a.blk.cell;have C:=bz.ext a.ext;have cZ:=C.cell;have fZ:=C.frozen;have Y:s.edges.take k=s.edges:=List.take_of_length_le (oH hL.out);have H:=zgM wr (w.heap.size+1) (.int .i64 s.al) (.int .i64 r) (.slice y es.length B);have Q:=zgL C rfl (.int .i64 s.al) (.int .i64 r) (.slice y es.length B);have aa:=(J.trans a.ext).frm H (fun k hk e=>oM);have S:=zf a.own H (fun b hv e=>by have:=(a.own.lt b hv).1;omega);have zjO:=za (show RetS w (zii s R) (.returned (.agg #[s.al,r,.slice y es.length B])) (((wr.setCell ⟨w.heap.size+1,0,none⟩ s.al).setCell ⟨w.heap.size+1,1,none⟩ r).setCell ⟨w.heap.size+1,2,none⟩ (.slice y es.length B)) from by
     have he:es=(zii s R).edges:=by rw [hes.out,Y];rfl
     refine⟨y,es.length,B,by rw [V.out];rfl,⟨by rw [he],?_⟩,aa⟩;rw [← he];exact eD (zn S oM))
    go_wp2_with fail
    generalize ((wr.setCell ⟨w.heap.size+1,0,none⟩ s.al).setCell ⟨w.heap.size+1,1,none⟩ r).setCell ⟨w.heap.size+1,2,none⟩ (.slice y es.length B)=wf at *;have cf:=Q.cell;exact bodyPost_ret (v:=.agg #[s.al,r,.slice y es.length B]) (by simp [results,Tryz.results99,go_sem,cf]) rfl zjO.out
theorem impl_TrimSystem (h:zT w lo hi A n s)(hT:Tab w)(hv:zk s=true)(hp:s.st=p)(hn4:n<=1000000) :
  Calls Tryz.prog 36 #[.agg #[s.al,s.st,.slice A n c]] w fun e w'=>∃ (R:Nat) (A':Option Addr) (n' c':Nat),e=.returned (.tuple #[.agg #[.int .i64 (zii s R).al,.int .i64 (zii s R).st,.slice A' n' c'],.bool true])∧Hid (zgZ s.edges p R)∧zT w' w.heap.size w'.heap.size A' n' (zii s R)∧Ext w w':=by
 obtain⟨T,E,aa,y,S⟩:=zcj hv;obtain rfl:T=p:=oM;have C:=za (fun W (hW:Ext w W)=>h.ext hW);have t:=za (fun W (hW:Ext w W)=>hT.ext hW);have U:=za S;have J:=za hv;have V:=za hp;clear S hv h hT hp E
 go_enter Tryz.func36,Tryz.ntmps36
 go_upto_region 1 with fail
 generalize U0:(w.alloc _).alloc _=w2 at *;obtain⟨l,L,M⟩:=iB U0;have k1:=L.cell;clear U0;go_wp2_with fail
 refine (zaF (C.out _ l)).mono ?_;rw [J.out];rintro e w3 ⟨rfl,d⟩;have c1:∀ W,Ext w3 W->∀ q,W.cell? ⟨w.heap.size,q,none⟩=#[Value.int .i64 s.al,.int .i64 s.st,.slice A n c][q]?:=fun W hW=>(L.ext (d.trans hW)).cell;have G:=cY w3;have m:=l.trans d;clear k1;go_upto_region 3 with fail
 refine uR (fun X=>Ext w3 X) [3,4] (zy.of [0,1,2,3,4,5]) ?_;refine uQ ?_;refine ze fun K hK=>?_;go_simp;refine (zeL (C.out _ m.drew) (t.out _ m.drew) J.out V.out).mono ?_;rintro e w4 ⟨R,rfl,Q,z⟩;have o:=m.drew.trans z;have a:=G.drew.trans z;refine hK.out _ _ a ?_;refine pT ?_;refine ze fun K hK=>?_;go_simp;refine (zhZ (C.out _ o) U.out y (pow16 Q.out.1 y) hn4).mono ?_;rintro e B ⟨b,f,g,rfl,O,r⟩;refine hK.out _ _ (a.trans r) ?_;refine pT ?_;have i:=M.ext ((d.trans a).trans r);have cZ:=i.cell;have fZ:=i.frozen;generalize hsu:zii s R=u at *;have x:=za hsu;clear hsu;have j:=zgM B (w.heap.size+1) (.int .i64 u.al) (.int .i64 u.st) (.slice b f g);have D:=zgL i rfl (.int .i64 u.al) (.int .i64 u.st) (.slice b f g);have H:=(o.trans r).frm j (fun k hk e=>oM);have ad:=o.size;have Z:=l.size;have ab:w.heap.size+1<w4.heap.size:=by have:=(M.ext (d.trans a)).lt;omega
 have F:zT (((B.setCell ⟨w.heap.size+1,0,none⟩ u.al).setCell ⟨w.heap.size+1,1,none⟩ u.st).setCell ⟨w.heap.size+1,2,none⟩ (.slice b f g)) w.heap.size (((B.setCell ⟨w.heap.size+1,0,none⟩ u.al).setCell ⟨w.heap.size+1,1,none⟩ u.st).setCell ⟨w.heap.size+1,2,none⟩ (.slice b f g)).heap.size b f u:=
  ⟨O.1,(O.2.frm j (fun k h1 h2 e=>oM)).more oM j.size⟩
 refine zb fun K hK=>?_;go_simp;refine hK.out _ _ ?_;generalize ((B.setCell ⟨w.heap.size+1,0,none⟩ u.al).setCell ⟨w.heap.size+1,1,none⟩ u.st).setCell ⟨w.heap.size+1,2,none⟩ (.slice b f g)=I at *;refine pT ?_;refine uQ ?_;refine zg ?_;have Y:=D.cell;have zjO:=za (show ∃ (R:Nat) (A':Option Addr) (n' c':Nat),Ending.returned (.tuple #[.agg #[u.al,u.st,.slice b f g],.bool true])=.returned (.tuple #[.agg #[.int .i64 (zii s R).al,.int .i64 (zii s R).st,.slice A' n' c'],.bool true])∧Hid (zgZ s.edges T R)∧zT I w.heap.size I.heap.size A' n' (zii s R)∧Ext w I from ⟨R,b,f,g,by rw [x.out],Q,by rw [x.out];exact F,H⟩);go_wp2_with fail
 exact bodyPost_ret (v:=.tuple #[.agg #[u.al,u.st,.slice b f g],.bool true]) (by simp [results,Tryz.results36,go_sem,Y]) rfl zjO.out
structure HomA (p q:Aut) (f:Nat->Nat):Prop where
 al:q.al=p.al
 zero:f 0=0
 go:∀ i l,i<p.next.length->l<6->f (aGo p i l)=aGo q (f i) l
 acc:∀ i,i<p.next.length->zaC q (f i)=zaC p i
section
variable {p q r:Aut} {f:Nat->Nat}
theorem HomA.run (h:HomA p q f)(hp:Fit N p):∀ (n:Nat) (v:List Nat),v.length=n->(∀ l∈v,l<6)->f (zaK p 0 v)=zaK q 0 v:=by
 intro n
 induction n with
 |zero =>
  intro v hv _;obtain rfl:v=[]:=List.length_eq_zero_iff.1 hv;exact h.zero
 |succ n ih =>
  intro v hv hl;obtain⟨u,l,rfl⟩:∃ u l,v=u++[l]:=⟨v.dropLast,v.getLast (by intro e;rw [e] at hv;simp at hv),(jI _).symm⟩;have a:∀ x∈u,x<6:=fun x hx=>hl x (by simp [hx]);have b:0<p.next.length:=oH hp.row.2.1;rw [zaP,zaP,h.go _ _ (zeF hp a b) (hl l sM),ih u (by simpa using hv) a]
theorem HomA.accF (h:HomA p q f)(hp:Fit N p) {v:List Nat}(hv:∀ l∈v,l<6):zaC p (zaK p 0 v)=zaC q (zaK q 0 v):=by
 have a:0<p.next.length:=oH hp.row.2.1;rw [← h.run hp _ v rfl hv,h.acc _ (zeF hp hv a)]
end
def quoA (a:Aut) (c:Nat->Nat) (rs:List Nat):Aut:=⟨a.al,rs.map fun q=>(a.next.getD q []).map fun x=>(c x.toNat:Int),rs.map (zaC a)⟩
structure Stb (a:Aut) (c:Nat->Nat) (rs:List Nat):Prop where
 zero:c 0=0
 rep:∀ q,q<a.next.length->∃ r,rs[c q]?=some r∧r<a.next.length∧c r=c q
 acc:∀ q r,q<a.next.length->r<a.next.length->c q=c r->zaC a q=zaC a r
 go:∀ q r k,q<a.next.length->r<a.next.length->c q=c r->c ((a.next.getD q []).getD k 0).toNat=c ((a.next.getD r []).getD k 0).toNat
theorem getD_map {α β:Type} (f:α->β) (l:List α) (k:Nat) (d:α):(l.map f).getD k (f d)=f (l.getD k d):=by
 rw [dE,dE,dO];cases l[k]?<;>rfl
section
variable {a:Aut} {c:Nat->Nat} {rs:List Nat}
theorem Stb.hom (h:Stb a c rs):HomA a (quoA a c rs) c:=by
 refine⟨rfl,h.zero,fun i l hi hl=>?_,fun i hi=>?_⟩
 ·obtain⟨r,b,d,f⟩:=h.rep i hi;unfold aGo;show (c (if a.al.toNat.testBit l=true then _ else i))=if a.al.toNat.testBit l=true then (((rs.map fun q=>(a.next.getD q []).map fun x=>(c x.toNat:Int)).getD (c i) []).getD (place a.al.toNat l) 0).toNat else c i
  by_cases hb:a.al.toNat.testBit l=true
  ·rw [if_pos hb,if_pos hb];have g:(rs.map fun q=>(a.next.getD q []).map fun x=>(c x.toNat:Int)).getD (c i) []=(a.next.getD r []).map fun x=>(c x.toNat:Int):=by
    rw [dE,dO,b];rfl
   have j:((a.next.getD r []).map fun x=>(c x.toNat:Int)).getD (place a.al.toNat l) 0=(c ((a.next.getD r []).getD (place a.al.toNat l) 0).toNat:Int):=by
    have:=getD_map (fun x:Int=>(c x.toNat:Int)) (a.next.getD r []) (place a.al.toNat l) 0;simp only [Int.toNat_zero,h.zero] at this;exact this
   rw [g,j,eO];exact h.go i r _ hi d f.symm
  ·rw [if_neg hb,if_neg hb]
 ·obtain⟨r,b,d,f⟩:=h.rep i hi;show (rs.map (zaC a)).getD (c i) false=_;rw [dE,dO,b];exact h.acc r i d hi f
end
section
variable {a t:Aut} {c:Nat->Nat} {rs xs:List Nat} {N:Nat}
theorem Stb.fit (h:Stb a c rs)(ha:Fit N a)(hf:rs.length<=a.next.length)(hr:∀ r∈rs,r<a.next.length):Fit N (quoA a c rs):=by
 obtain⟨⟨g,i⟩,⟨s,o⟩,-,b⟩:=ha.row;have j:1<=rs.length:=by
  obtain⟨r,d,-⟩:=h.rep 0 oM;have:=(List.getElem?_eq_some_iff.1 d).1;omega
 unfold Fit quoA;simp only [dS];refine⟨⟨g,i⟩,⟨j,oM⟩,trivial,fun q row hrow'=>?_⟩;rw [dO] at hrow';obtain⟨r,n,rfl⟩:=Option.map_eq_some_iff.1 hrow';have f:=hr r (dB n);have m:a.next[r]?=some (a.next.getD r []):=by
  rw [dE,dC f];rfl
 obtain⟨d,k⟩:=b r _ m;rw [dS];refine⟨d,fun y hy=>?_⟩;obtain⟨x,hx,rfl⟩:=List.mem_map.1 hy;have p:=k x hx;obtain⟨t,l,-⟩:=h.rep x.toNat oM;have:=(List.getElem?_eq_some_iff.1 l).1;omega
theorem Stb.minF (h:Stb a c rs)(ha:Fit N a)(ht:zek (quoA a c rs) t xs) {v:List Nat}(hv:∀ l∈v,l<6):zaC t (zaK t 0 v)=zaC a (zaK a 0 v):=
 (ht.acc_run hv).trans (h.hom.accF ha hv).symm
end
def ctn (c:Nat->Nat):Nat->Nat
 |0=>0
 |k+1=>max (ctn c k) (c k+1)
def FO (c:Nat->Nat) (n:Nat):Prop:=∀ k,k<n->c k<=ctn c k
section
variable {c d:Nat->Nat} {n:Nat}
theorem zis (c:Nat->Nat) :∀ {k:Nat},j<k->c j<ctn c k
 |0,h=>oM
 |k+1,h=>by
  unfold ctn
  rcases eB (eI h) with h1|rfl
  ·have:=zis c h1
   omega
  ·omega
theorem fo_hit (h:FO c n) :∀ {k:Nat},k<=n->x<ctn c k->∃ j,j<k∧c j=x
 |0,_,hx=>by simp [ctn] at hx
 |k+1,hk,hx=>by
  unfold ctn at hx
  by_cases h1:x<ctn c k
  ·obtain⟨j,h2,h3⟩:=fo_hit h oM h1
   exact⟨j,oM,h3⟩
  ·have:=h k oM
   exact⟨k,oM,oM⟩
theorem fo_step (hc:FO c n)(hd:FO d n)(hr:∀ q r,q<n->r<n->d q=d r->c q=c r) (hk:k<n) :
  ctn c (k+1)+ctn d k<=ctn d (k+1)+ctn c k∧(d k<ctn d k->c k<ctn c k):=by
 have g:=hc k hk;have i:=hd k hk
 by_cases hlt:d k<ctn d k
 ·obtain⟨j,f,e⟩:=fo_hit hd oM hlt;have b:=hr j k oM hk e;have a:=zis c f;rw [b] at a;refine⟨?_,fun _=>a⟩;simp only [ctn];omega
 ·refine⟨?_,fun h=>absurd h hlt⟩;simp only [ctn];omega
theorem yV17a4 {P:Prop}(h:P:=by
 intro k
 induction k with
 |zero=>intro _;exact Nat.le_refl _
 |succ k ih =>
  intro hk;have:=ih oM;have:=(fo_step hc hd hr (k:=k) oM).1;omega
 ):P:=h
theorem fo_eq (hc:FO c n)(hd:FO d n)(hr:∀ q r,q<n->r<n->d q=d r->c q=c r)(he:ctn d n=ctn c n):∀ k,k<n->d k=c k:=by
 have h:∀ k,k<=n->ctn c k<=ctn d k:=by
  exact yV17a4
 have a:∀ i k,k+i=n->ctn d k<=ctn c k:=by
  intro i
  induction i with
  |zero=>
   intro k hk;obtain rfl:k=n:=oM
   omega
  |succ i ih =>
   intro k hk;have:=ih (k+1) oM;have:=(fo_step hc hd hr (k:=k) oM).1;omega
 have b:∀ k,k<=n->ctn d k=ctn c k:=fun k hk=>Nat.le_antisymm (a (n - k) k oM) (h k hk);intro k
 induction k using Nat.strongRecOn with
 |ind k ih =>
  intro hk;have m:=hc k hk;have o:=hd k hk;have l:=b k oM;have f:=b (k+1) oM
  by_cases hlt:d k<ctn d k
  ·obtain⟨j,g,e⟩:=fo_hit hd oM hlt;have p:=hr j k oM hk e;have s:=ih j g oM;omega
  ·simp only [ctn] at f;omega
end
structure RepI (c:Nat->Nat) (k:Nat) (rs:List Nat):Prop where
 len:rs.length=ctn c k
 lt:∀ r∈rs,r<k
 rep:∀ j,j<k->∃ r,rs[c j]?=some r∧r<k∧c r=c j
section
variable {c:Nat->Nat} {n k:Nat} {rs:List Nat}
theorem RepI.zero:RepI c 0 []:=⟨rfl,fun r h=>by simp at h,fun j h=>oM⟩
theorem RepI.skip (h:RepI c k rs)(hk:c k<rs.length)(hc:FO c n)(hkn:k<n):RepI c (k+1) rs:=by
 have g:ctn c (k+1)=ctn c k:=by
  have:=h.len;simp only [ctn];omega
 refine⟨by rw [g];exact h.len,fun r hr=>by have:=h.lt r hr;omega,fun j hj=>?_⟩;rcases eB (eI hj) with l|rfl
 ·obtain⟨r,b,d,a⟩:=h.rep j l;exact⟨r,b,oM,a⟩
 ·obtain⟨i,b,d⟩:=fo_hit hc (k:=j) oM (x:=c j) (oH h.len);obtain⟨r,a,m,f⟩:=h.rep i b;rw [d] at a f;exact⟨r,a,oM,f⟩
theorem RepI.push (h:RepI c k rs)(hk:¬ c k<rs.length)(hc:FO c n)(hkn:k<n):RepI c (k+1) (rs++[k]):=by
 have g:=hc k hkn;have i:=h.len;have b:c k=rs.length:=oM;refine⟨?_,fun r hr=>?_,fun j hj=>?_⟩
 ·rw [dL,dU];simp only [ctn];omega
 ·rcases List.mem_append.1 hr with hr|hr
  ·have:=h.lt r hr;omega
  ·obtain rfl:r=k:=by simpa using hr
   omega
 ·rcases eB (eI hj) with d|rfl
  ·obtain⟨r,a,l,f⟩:=h.rep j d;exact⟨r,by rw [dH (List.getElem?_eq_some_iff.1 a).1];exact a,oM,f⟩
  ·exact⟨j,by rw [b,dT (dD _)];simp,oM,rfl⟩
theorem zir (hc:FO c n):∀ {k:Nat},k<=n->ctn c k<=k
 |0,_=>dD _
 |k+1,h=>by
  have h1:=zir hc (k:=k) oM
  have h2:=hc k oM
  simp only [ctn]
  omega
theorem RepI.few (h:RepI c n rs)(hc:FO c n):rs.length<=n:=by rw [h.len];exact zir hc (dD _)
theorem stb_of (hn:n=a.next.length)(h0:0<n)(hc:FO c n)(hr:RepI c n rs) (zjM:∀ q r,q<n->r<n->c q=c r->zaC a q=zaC a r)
  (hrow:∀ q r,q<n->r<n->c q=c r->(a.next.getD q []).map (fun x=>c x.toNat)=(a.next.getD r []).map (fun x=>c x.toNat)):Stb a c rs:=by
 subst hn;have f:c 0=0:=by
  have:=hc 0 h0;simpa [ctn] using this
 refine⟨f,hr.rep,zjM,fun q r k hq hr' e=>?_⟩;have b:=getD_map (fun x:Int=>c x.toNat) (a.next.getD q []) k 0;have d:=getD_map (fun x:Int=>c x.toNat) (a.next.getD r []) k 0;rw [← b,← d,hrow q r hq hr' e]
end
def keyL (f:Nat->List UInt8) (x:Nat) (r:List Nat):List UInt8:=f x++r.flatMap fun y=>44 :: f y
section
variable {f:Nat->List UInt8} {B:Nat}
theorem keyL_snoc (x:Nat) (r:List Nat) (y:Nat):keyL f x (r++[y])=keyL f x r++(44 :: f y):=by
 unfold keyL;rw [List.flatMap_append,iD];simp
theorem zhF:∀ {u v s t:List UInt8},44∉u->44∉v->(s=[]∨∃ s',s=44 :: s')->(t=[]∨∃ t',t=44 :: t')->u++s=v++t->u=v∧s=t
 |[],[],_,_,_,_,_,_,h=>⟨rfl,h⟩
 |[],b :: v,s,t,_,hv,hs,_,h=>by
  exfalso
  rcases hs with rfl|⟨s',rfl⟩
  ·simp at h
  ·simp only [eH,iA,List.cons.injEq] at h
   exact hv (by simp [h.1])
 |a :: u,[],s,t,hu,_,_,ht,h=>by
  exfalso
  rcases ht with rfl|⟨t',rfl⟩
  ·simp at h
  ·simp only [eH,iA,List.cons.injEq] at h
   exact hu (by simp [h.1])
 |a :: u,b :: v,s,t,hu,hv,hs,ht,h=>by
  simp only [iA,List.cons.injEq] at h
  obtain⟨rfl,h⟩:=h
  obtain⟨h1,h2⟩:=zhF (fun h=>hu (by simp [h])) (fun h=>hv (by simp [h])) hs ht h
  exact⟨by rw [h1],h2⟩
theorem tail_form (r:List Nat):(r.flatMap fun y=>44 :: f y)=[]∨∃ s',(r.flatMap fun y=>44 :: f y)=44 :: s':=by
 cases r with
 |nil=>exact .inl rfl
 |cons y r=>exact .inr ⟨f y++r.flatMap fun y=>44 :: f y,sM⟩
theorem keyL_inj (hf:∀ x,x<B->44∉f x)(hi:∀ x y,x<B->y<B->f x=f y->x=y):∀ {r t:List Nat} {x y:Nat},x<B->y<B->(∀ z∈r,z<B)->(∀ z∈t,z<B)->keyL f x r=keyL f y t->x=y∧r=t
 |r,t,x,y,hx,hy,hr,ht,h=>by
  unfold keyL at h
  obtain⟨h1,h2⟩:=zhF (hf x hx) (hf y hy) (tail_form r) (tail_form t) h
  refine⟨hi x y hx hy h1,?_⟩
  cases r with
  |nil=>cases t with
   |nil=>rfl
   |cons b t=>simp at h2
  |cons a r=>cases t with
   |nil=>simp at h2
   |cons b t =>
    rw [iW,iW,iA,iA,List.cons.injEq] at h2
    obtain⟨h3,h4⟩:=keyL_inj hf hi (r:=r) (t:=t) (hr a sM) (ht b sM) (fun z hz=>hr z (by simp [hz])) (fun z hz=>ht z (by simp [hz])) h2.2
    rw [h3,h4]
termination_by r=>r.length
end
theorem dig_comma (h:x<100):(44:UInt8)∉Lib.decDigits x:=by
 intro hm
 by_cases h1:x<10
 ·rw [Lib.decDigits_one h1] at hm;have:=congrArg UInt8.toNat (List.mem_singleton.1 hm);simp at this;omega
 ·rw [Lib.decDigits_two h1 h] at hm;rcases List.mem_cons.1 hm with e|e
  ·have:=congrArg UInt8.toNat e;simp at this;omega
  ·have:=congrArg UInt8.toNat (List.mem_singleton.1 e);simp at this;omega
theorem dig_inj (hx:x<100)(hy:y<100)(h:Lib.decDigits x=Lib.decDigits y):x=y:=by
 by_cases h1:x<10<;>by_cases h2:y<10
 ·rw [Lib.decDigits_one h1,Lib.decDigits_one h2] at h;have:=congrArg UInt8.toNat (List.cons.inj h).1;simp at this;omega
 ·rw [Lib.decDigits_one h1,Lib.decDigits_two h2 hy] at h;have:=congrArg List.length h;simp at this
 ·rw [Lib.decDigits_two h1 hx,Lib.decDigits_one h2] at h;have:=congrArg List.length h;simp at this
 ·rw [Lib.decDigits_two h1 hx,Lib.decDigits_two h2 hy] at h;have a:=congrArg UInt8.toNat (List.cons.inj h).1;have b:=congrArg UInt8.toNat (List.cons.inj (List.cons.inj h).2).1;simp at a b;omega
theorem dig_len (h:x<100):(Lib.decDigits x).length<=2:=by
 by_cases h1:x<10
 ·rw [Lib.decDigits_one h1];simp
 ·rw [Lib.decDigits_two h1 h];simp
def rowC (c:Nat->Nat) (r:List Int):List Nat:=r.map fun x=>c x.toNat
def kyB (c:Nat->Nat) (x:Nat) (r:List Int):ByteArray:=⟨(keyL Lib.decDigits x (rowC c r)).toArray⟩
theorem kyB_inj {c:Nat->Nat}(hc:∀ q,c q<100) (hx:x<100)(hy:y<100) {t:List Int}(h:kyB c x r=kyB c y t):x=y∧rowC c r=rowC c t:=by
 unfold kyB at h;have a:=congrArg (fun z:ByteArray=>z.data.toList) h;simp only at a;refine keyL_inj (B:=100) (fun x hx=>dig_comma hx) (fun x y hx hy=>dig_inj hx hy) hx hy (fun z hz=>?_) (fun z hz=>?_) a
 ·obtain⟨q,-,rfl⟩:=List.mem_map.1 hz;exact hc _
 ·obtain⟨q,-,rfl⟩:=List.mem_map.1 hz;exact hc _
theorem keyL_size {c:Nat->Nat}(hc:∀ q,c q<100) (hx:x<100) (r:List Int):(keyL Lib.decDigits x (rowC c r)).length<=2+3*r.length:=by
 unfold keyL rowC;rw [dL,List.length_flatMap];have b:=dig_len hx;have a:∀ l:List Int,((l.map fun x=>c x.toNat).map fun y=>((44:UInt8) :: Lib.decDigits y).length).sum<=3*l.length:=by
  intro l
  induction l with
  |nil=>simp
  |cons z l ih =>
   have d:=dig_len (hc z.toNat);simp only [List.map_cons,List.sum_cons,List.length_cons] at ih ⊢;omega
 have:=a r;omega
theorem kyB_size {c:Nat->Nat}(hc:∀ q,c q<100) (hx:x<100) (r:List Int):(kyB c x r).size<=2+3*r.length:=by
 have:=keyL_size hc hx r;show (kyB c x r).data.size<=_;unfold kyB;simpa using this
theorem zhg {c d:Nat->Nat}:∀ {k:Nat},(∀ j,j<k->c j=d j)->ctn c k=ctn d k
 |0,_=>rfl
 |k+1,h=>by
  simp only [ctn]
  rw [zhg (k:=k) (fun j hj=>h j oM),h k oM]
def fnL (ds:List Nat) (j:Nat):Nat:=ds.getD j 0
theorem zjd (h:j<ds.length):fnL (ds++[v]) j=fnL ds j:=by
 unfold fnL;rw [dE,dE,dH h]
theorem fnL_end :fnL (ds++[v]) ds.length=v:=by
 unfold fnL;rw [dE,dT (dD _)];simp
theorem ziv (h:j<ds.length):ds[j]?=some (fnL ds j):=by
 unfold fnL;rw [dE,dC h];rfl
structure zhR (ky:Nat->ByteArray) (ds:List Nat) (nm:Nat) (M:ByteArray->Option Nat):Prop where
 some_:∀ z v,M z=some v->∃ j,j<ds.length∧ky j=z
 at_:∀ j v,ds[j]?=some v->M (ky j)=some v
 inj:∀ z z' v,M z=some v->M z'=some v->z=z'
 ct:ctn (fnL ds) ds.length=nm
 fo:FO (fnL ds) ds.length
section
variable {ky:Nat->ByteArray} {ds:List Nat} {nm:Nat} {M:ByteArray->Option Nat}
theorem zhR.zero:zhR ky [] 0 (fun _=>none):=
 ⟨fun _ _ h=>(by cases h),fun _ _ h=>(by simp at h),fun _ _ _ h=>(by cases h),rfl,fun _ hk=>(by simp at hk)⟩
theorem zhR.lt (h:zhR ky ds nm M) {z:ByteArray} (hz:M z=some v):v<nm:=by
 obtain⟨j,b,rfl⟩:=h.some_ z v hz;have a:=h.at_ j _ (ziv b);rw [hz] at a;rw [Option.some.inj a,← h.ct];exact zis _ b
theorem zhR.ctn_step (h:zhR ky ds nm M) (v:Nat):ctn (fnL (ds++[v])) (ds++[v]).length=max nm (v+1):=by
 rw [dL,dU];simp only [ctn];rw [fnL_end,zhg (d:=fnL ds) (fun j hj=>zjd hj),h.ct]
theorem zhR.fo_step (h:zhR ky ds nm M) (hv:v<=nm):FO (fnL (ds++[v])) (ds++[v]).length:=by
 intro k hk;rw [dL,dU] at hk;rw [zhg (d:=fnL ds) (fun j hj=>zjd oM)];rcases eB (eI hk) with a|rfl
 ·rw [zjd a];exact h.fo k a
 ·rw [fnL_end,h.ct];exact hv
theorem zhR.hit (h:zhR ky ds nm M) (hv:M (ky ds.length)=some v):zhR ky (ds++[v]) nm M:=by
 have d:=h.lt hv;refine⟨fun z u hz=>?_,fun j u a=>?_,h.inj,by rw [h.ctn_step];omega,h.fo_step oM⟩
 ·obtain⟨j,a,e⟩:=h.some_ z u hz;exact⟨j,by simp;omega,e⟩
 ·have b:=(List.getElem?_eq_some_iff.1 a).1;rw [dL,dU] at b;rcases eB (eI b) with c|rfl
  ·rw [dH c] at a;exact h.at_ j u a
  ·rw [dT (dD _)] at a;simp at a;rw [hv,a]
theorem zhR.miss (h:zhR ky ds nm M)(hv:M (ky ds.length)=none):zhR ky (ds++[nm]) (nm+1) (zhQ M (ky ds.length) nm):=by
 refine⟨fun z u hz=>?_,fun j u c=>?_,fun z z' u b a=>?_,by rw [h.ctn_step];omega,h.fo_step (dD _)⟩
 ·by_cases e:z=ky ds.length
  ·exact⟨ds.length,sM,e.symm⟩
  ·rw [zcX M _ e] at hz;obtain⟨j,c,f⟩:=h.some_ z u hz;exact⟨j,by simp;omega,f⟩
 ·have d:=(List.getElem?_eq_some_iff.1 c).1;rw [dL,dU] at d;rcases eB (eI d) with b|rfl
  ·rw [dH b] at c;have a:=h.at_ j u c;have e:ky j≠ky ds.length:=fun e=>by rw [e,hv] at a;cases a
   rw [zcX M _ e,a]
  ·rw [dT (dD _)] at c;simp at c;rw [zcA,c]
 ·by_cases e:z=ky ds.length<;>by_cases e':z'=ky ds.length
  ·rw [e,e']
  ·rw [e,zcA] at b;rw [zcX M _ e'] at a;have:=h.lt a;have:=Option.some.inj b;omega
  ·rw [e',zcA] at a;rw [zcX M _ e] at b;have:=h.lt b;have:=Option.some.inj a;omega
  ·rw [zcX M _ e] at b;rw [zcX M _ e'] at a;exact h.inj z z' u b a
theorem zhR.same (h:zhR ky ds nm M) {r:Nat}(hq:q<ds.length)(hr:r<ds.length) (e:fnL ds q=fnL ds r):ky q=ky r:=by
 have a:=h.at_ q _ (ziv hq);have b:=h.at_ r _ (ziv hr);rw [e] at a;exact h.inj _ _ _ a b
end
structure ClsI (a:Aut) (cs:List Nat) (K:Nat):Prop where
 len:cs.length=a.next.length
 lt:∀ q,fnL cs q<100
 acc:∀ q r,q<a.next.length->r<a.next.length->fnL cs q=fnL cs r->zaC a q=zaC a r
 fo:K≠0->FO (fnL cs) cs.length∧ctn (fnL cs) cs.length=K
structure ClsR (a:Aut) (cs:List Nat):Prop where
 len:cs.length=a.next.length
 fo:FO (fnL cs) a.next.length
 acc:∀ q r,q<a.next.length->r<a.next.length->fnL cs q=fnL cs r->zaC a q=zaC a r
 row:∀ q r,q<a.next.length->r<a.next.length->fnL cs q=fnL cs r->(a.next.getD q []).map (fun x=>fnL cs x.toNat)=(a.next.getD r []).map (fun x=>fnL cs x.toNat)
section
variable {a:Aut} {cs ds:List Nat} {K nm N:Nat} {M:ByteArray->Option Nat}
theorem fo_le {c d:Nat->Nat} (hc:FO c n)(hd:FO d n)(hr:∀ q r,q<n->r<n->d q=d r->c q=c r):∀ k,k<=n->ctn c k<=ctn d k:=by
 exact yV17a4
theorem fo_small {c:Nat->Nat} (h:FO c n) (hq:q<n):c q<n:=by
 have a:=zis c hq;have b:=zir h (dD n);omega
abbrev kyR (a:Aut) (cs:List Nat) (q:Nat):ByteArray:=kyB (fnL cs) (fnL cs q) (a.next.getD q [])
theorem ClsI.keys (h:ClsI a cs K)(hn:zhR (kyR a cs) ds nm M)(hl:ds.length=a.next.length) {r:Nat}(hq:q<a.next.length)(hr:r<a.next.length) (e:fnL ds q=fnL ds r) :
  fnL cs q=fnL cs r∧rowC (fnL cs) (a.next.getD q [])=rowC (fnL cs) (a.next.getD r []):=
 kyB_inj h.lt (h.lt q) (h.lt r) (hn.same oM oM e)
theorem ClsI.step (h:ClsI a cs K)(hn:zhR (kyR a cs) ds nm M)(hl:ds.length=a.next.length)(h0:1<=a.next.length)(hN:a.next.length<=99):ClsI a ds nm∧(nm≠K->K<nm)∧nm<=a.next.length:=by
 have b:FO (fnL ds) a.next.length:=by rw [← hl];exact hn.fo
 have c:ctn (fnL ds) a.next.length=nm:=by rw [← hl];exact hn.ct
 refine⟨⟨hl,fun q=>?_,fun q r hq hr e=>h.acc q r hq hr (h.keys hn hl hq hr e).1,fun _=>⟨hn.fo,hn.ct⟩⟩,fun hne=>?_,?_⟩
 ·by_cases hq:q<a.next.length
  ·have:=fo_small b hq;omega
  ·unfold fnL;rw [dE,dW oM];decide
 ·by_cases hK:K=0
  ·have:=zis (fnL ds) (j:=0) (k:=a.next.length) oM;omega
  ·obtain⟨d,f⟩:=h.fo hK;rw [h.len] at d f;have:=fo_le d b (fun q r hq hr e=>(h.keys hn hl hq hr e).1) a.next.length (dD _);omega
 ·rw [← c];exact zir b (dD _)
theorem ClsI.stop (h:ClsI a cs K)(hn:zhR (kyR a cs) ds K M)(hl:ds.length=a.next.length)(ha:Fit N a):ClsR a ds:=by
 have c:FO (fnL ds) a.next.length:=by rw [← hl];exact hn.fo
 have d:ctn (fnL ds) a.next.length=K:=by rw [← hl];exact hn.ct
 have l:=ha.row.2.1.1;have hK:K≠0:=by
  have:=zis (fnL ds) (j:=0) (k:=a.next.length) oM;omega
 obtain⟨g,i⟩:=h.fo hK;rw [h.len] at g i;have f:=fo_eq g c (fun q r hq hr e=>(h.keys hn hl hq hr e).1) (by rw [d,i]);have b:∀ q,q<a.next.length->(a.next.getD q []).map (fun x=>fnL ds x.toNat)=rowC (fnL cs) (a.next.getD q []):=fun q hq=>by
  unfold rowC;refine List.map_congr_left fun x hx=>?_;have m:=(ha.row.2.2.2 q _ (by rw [dE,dC hq];rfl)).2 x hx;exact f _ oM
 exact⟨hl,c,fun q r hq hr e=>h.acc q r hq hr (h.keys hn hl hq hr e).1,fun q r hq hr e=>by rw [b q hq,b r hr];exact (h.keys hn hl hq hr e).2⟩
theorem ClsI.zero (h:cs.length=a.next.length)(hc:∀ q,q<a.next.length->fnL cs q=if zaC a q=true then 1 else 0):ClsI a cs 0:=by
 refine⟨h,fun q=>?_,fun q r hq hr e=>?_,fun h=>absurd rfl h⟩
 ·by_cases hq:q<a.next.length
  ·rw [hc q hq]
   split<;>decide
  ·unfold fnL;rw [dE,dW oM];decide
 ·rw [hc q hq,hc r hr] at e;cases h1:zaC a q<;>cases h2:zaC a r<;>simp_all
theorem ClsR.stb {rs:List Nat}(h:ClsR a cs)(ha:Fit N a)(hr:RepI (fnL cs) a.next.length rs):Stb a (fnL cs) rs:=
 stb_of rfl (oH ha.row.2.1.1) h.fo hr h.acc h.row
end
section
open Go.Maps
section
variable {α:Type} {mt kt:TypeId} {val:α->Value} {lit:α->Lit} {dom:α->Prop}
def MapN (kt:TypeId) (lit:α->Lit) (dom:α->Prop) (w:World) (b n:Nat) (M:α->Option Nat):Prop:=
 ∃ D:DataW Unit,w.ownsMap Tryz.prog kt (plainElem Tryz.prog 3) b n D∧Maps.size D=n∧∀ x,dom x->Maps.has D (lit x)=(M x).isSome∧∀ v,M x=some v->D.atKey (lit x) (.lit (.int .i64 0))=.lit (.int .i64 (v:Int))
section
variable {w w':World} {b n:Nat} {M:α->Option Nat}
theorem MapN.g (h:MapN kt lit dom w b n M):zdu kt lit dom w b n M:=by
 obtain⟨D,a,-,c⟩:=h;exact⟨D,a,c⟩
theorem MapN.made (w:World):MapN kt lit dom (w.alloc (.map #[] 0)) w.heap.size 0 (fun _=>none):=
 ⟨.map [],World.ownsMap_made _ _ _ _,rfl,fun x hx=>⟨rfl,fun v hv=>by cases hv⟩⟩
theorem MapN.frm (h:MapN kt lit dom w b n M)(hf:Frm S w w')(hS:¬ S b):MapN kt lit dom w' b n M:=by
 obtain⟨D,⟨es,a,hb,r⟩,c,hx⟩:=h;exact⟨D,⟨es,a,(hf.block b (Array.getElem?_eq_some_iff.1 hb).1 hS).trans hb,r⟩,c,hx⟩
theorem MapN.ext (h:MapN kt lit dom w b n M)(hx:Ext w w'):MapN kt lit dom w' b n M:=h.frm hx id
end
variable (w:World) {ops:Array Oper} {rest:List Oper} {o:Oper} {a:Act} {Q:Exit->Act->World->Prop}
theorem zij (K:KeyG mt kt val lit dom)(hg:o.guard=none) (m x v:Operand)(hop:o.op=Op.mapUpdate mt m x v)  {M:α->Option Nat}
  (hm:a.eval m=.map (some b)) (h:MapN kt lit dom w b n M) (hn:n<1152921504606846976) (key:α) (v9:Nat) (hx:a.eval x=val key) (hv:a.eval v=.int .i64 (v9:Int)) (hk:dom key) (hv9:v9<1152921504606846976) (hnew:M key=none)
  (hK:∀ w',MapN kt lit dom w' b (n+1) (zhQ M key v9)->w.grownBy w' (some b)->wpList Tryz.prog ops Q rest (a.put o.dst undef) w'):wpList Tryz.prog ops Q (o :: rest) a w:=by
 refine wpList_plain hg fun K' hK'=>?_;obtain⟨D,d,l,k⟩:=h;have c:=K.key hk;obtain⟨w',i,p,q⟩:=d.update K.keyed K.und lM c (plainElem_int (H:=Unit) Tryz.underlying3 (wfG hv9));have j:Maps.size (D.put (lit key) (.lit (.int .i64 (v9:Int))))=n+1:=by
  rw [size_put (d.tidy K.keyed),(k key hk).1,hnew];simp [l]
 have f:MapN kt lit dom w' b (n+1) (zhQ M key v9):=⟨_,p,j,fun y hy=>by
  unfold zhQ
  by_cases e:y=key
  ·subst e;rw [if_pos rfl];exact⟨has_put_same d.isMap (K.keyed.key c) _,fun u hu=>by rw [atKey_put_same d.isMap (K.keyed.key c)];cases hu;rfl⟩
  ·have g:lit y≠lit key:=fun h=>e (K.inj hy hk h);rw [if_neg e,has_put_other g,atKey_put_other g];exact k y hy⟩
 unfold Oper.wp;simp [execOp,hop,hm,hx,hv,i,Result.andThen];exact hK' _ _ (hK w' f q)
theorem zds (K:KeyG mt kt val lit dom)(hg:o.guard=none) (m:Operand)(hop:o.op=Op.call { callee:=Callee.builtin Builtin.len,args:=#[m],argTypes:=#[mt] })  {M:α->Option Nat}
  (hm:a.eval m=.map (some b)) (h:MapN kt lit dom w b n M) (hK:wpList Tryz.prog ops Q rest (a.put o.dst (.int .i64 (n:Int))) w):wpList Tryz.prog ops Q (o :: rest) a w:=by
 obtain⟨D,c,d,-⟩:=h;refine wpList_len_own w hg m mt hop kt 3 K.und _ b n D hm c ?_;rw [d];exact hK
end
end
section
open Go.Lib
theorem itoa_small (i:Nat)(h:i<100) (w:World) :
  Calls Tryz.prog 303 #[i] w fun e w'=>e=.returned (.string ⟨(Lib.decDigits i).toArray⟩)∧w=w':=by
 go_enter Tryz.func303,Tryz.ntmps303
 go_name_bytes_deep 45 SM hSM
 have b:SM=Lib.smalls:=by rw [← hSM];decide +kernel
 subst b;clear hSM
 go_name_bytes_deep 30 DG hDG
 have a:DG=Lib.digits36:=by rw [← hDG];decide +kernel
 subst a;clear hDG
 by_cases h10:i<10
 ·have c:∀ w,(Instr.slice 9 (.string Lib.digits36) (some (.int .i64 (i:Int))) (some (.int .i64 ((i:Int)+1))) none).run Tryz.prog w=.ok (.string (Lib.digits36.extract i (i+1))) w:=fun w=>by
   rw [run_slice_string w 9 Lib.digits36 .i64 .i64 _ _ Tryz.underlying9 oM oM (by rw [Lib.digits36_size];omega),show ((i:Int)).toNat=i by omega,show ((i:Int)+1).toNat=i+1 by omega]
  go_wp2;go_ret;refine⟨?_,rfl⟩;show Ending.returned (Value.string (Lib.digits36.extract i (i+1)))=_;rw [AnyPlain.small_ba (Lib.digits36.extract i (i+1)) (Lib.decDigits i) (by rw [Lib.extract_data];exact Lib.digits36_piece h10)]
 ·have c:∀ w,(Instr.slice 9 (.string Lib.smalls) (some (.int .i64 ((i:Int)*2))) (some (.int .i64 ((i:Int)*2+2))) none).run Tryz.prog w=.ok (.string (Lib.smalls.extract (i*2) (i*2+2))) w:=fun w=>by
   rw [run_slice_string w 9 Lib.smalls .i64 .i64 _ _ Tryz.underlying9 oM oM (by rw [Lib.smalls_size];omega),show ((i:Int)*2).toNat=i*2 by omega,show ((i:Int)*2+2).toNat=i*2+2 by omega]
  go_wp2;go_ret;refine⟨?_,rfl⟩;show Ending.returned (Value.string (Lib.smalls.extract (i*2) (i*2+2)))=_;rw [AnyPlain.small_ba (Lib.smalls.extract (i*2) (i*2+2)) (Lib.decDigits i) (by rw [Lib.extract_data];exact Lib.smalls_piece h10 h)]
theorem itoa_format (i:Nat)(h:i<100) (w:World) :
  Calls Tryz.prog 302 #[i,(10:Int)] w fun e w'=>e=.returned (.string ⟨(Lib.decDigits i).toArray⟩)∧w=w':=by
 have a:=za (itoa_small i h);have b:(0:Int)<=(i:Int)∧(i:Int)<100:=oM
 go_enter Tryz.func302,Tryz.ntmps302
 go_wp2_with (go_at_call 303;refine (a.out _).mono ?_;rintro e c ⟨rfl,rfl⟩)
 go_ret;exact⟨rfl,rfl⟩
theorem itoa_in (i:Nat)(h:i<100) (w:World) :
  Calls Tryz.prog 296 #[i] w fun e w'=>e=.returned (.string ⟨(Lib.decDigits i).toArray⟩)∧w=w':=by
 go_enter Tryz.func296,Tryz.ntmps296
 go_wp2_with (go_at_call 302;refine (itoa_format i h _).mono ?_;rintro e a ⟨rfl,rfl⟩)
 go_ret;exact⟨rfl,rfl⟩
theorem lib_Itoa (i:Nat)(h:i<100) (w:World) :
  Calls Tryz.prog 267 #[i] w fun e w'=>e=.returned (.string ⟨(Lib.decDigits i).toArray⟩)∧w=w':=by
 go_enter Tryz.func267,Tryz.ntmps267
 go_wp2_with (go_at_call 296;refine (itoa_in i h _).mono ?_;rintro e a ⟨rfl,rfl⟩)
 go_ret;exact⟨rfl,rfl⟩
end
abbrev domC (x:ByteArray):Prop:=x.size<=9223372036854775807
abbrev MapC (w:World) (b n:Nat) (M:ByteArray->Option Nat):Prop:=MapN 9 (fun x:ByteArray=>Lit.string x.data.toList) domC w b n M
theorem made_z (n:Nat):(madeCells (Value.int .i64 0).cells (n*1)).toList=zad (dQ n 0):=by
 simp [Value.cells,toList_madeCells_one,zad]
theorem kyB_snoc {c:Nat->Nat}  (hr:r[j]?=some (y:Int))(hv:c y=v):kyB c x (r.take (j+1))=kyB c x (r.take j)++((⟨#[44]⟩:ByteArray)++(⟨(Lib.decDigits v).toArray⟩:ByteArray)):=by
 have h:rowC c (r.take (j+1))=rowC c (r.take j)++[v]:=by
  unfold rowC;rw [dN,hr,Option.toList_some,List.map_append,List.map_singleton,eO,hv]
 unfold kyB;rw [h,keyL_snoc];refine ByteArray.ext ?_;simp
theorem kyB_zero (c:Nat->Nat) (x:Nat) (r:List Int):kyB c x (r.take 0)=(⟨(Lib.decDigits x).toArray⟩:ByteArray):=by
 simp [kyB,keyL,rowC]
theorem fill_z (hk:ds.length=k)(hm:k<m):(zad (ds++dQ (m - k) 0)).set k (.int .i64 (v:Nat))=zad ((ds++[v])++dQ (m - (k+1)) 0):=by
 rw [← zeE,List.set_append_right _ _ oM,hk,Nat.sub_self,show m - k=(m - (k+1))+1 by omega,List.replicate_succ,List.set_cons_zero,iD];rfl
theorem fnL_set {cs:List Nat}  (v:Nat)(hq:q<cs.length):fnL (cs.set q v) j=if j=q then v else fnL cs j:=by
 unfold fnL;rw [dE,dE,List.getElem?_set]
 by_cases e:q=j
 ·subst e;rw [if_pos rfl,if_pos hq,if_pos rfl];rfl
 ·rw [if_neg e,if_neg (fun h=>e h.symm)]
def RetClz (w:World) (a:Aut) (e:Ending) (w':World):Prop:=
 ∃ (ds:List Nat) (g:Nat),e=.returned (.slice (some g) a.next.length a.next.length)∧w'.ownsRow w.heap.size 3 1 (.slice (some g) a.next.length a.next.length) a.next.length (zad ds)∧ClsR a ds∧Ext w w'
theorem zhW (h:zO w lo hi B m B' m' a)(hv:Fit N a)(hN:N<=99) :
  Calls Tryz.prog 192 #[.agg #[a.al,.slice B m d,.slice B' m' d']] w (RetClz w a):=by
 obtain⟨-,⟨n1,bk⟩,ar,aj⟩:=hv.row;have S:=za h.n1;have aP:=za (show m'=m by rw [h.n1,h.n2,ar]);have HN:=za (fun W (hW:Ext w W)=>h.1.ext hW);have HB:=za (fun W (hW:Ext w W)=>h.2.2.ext hW);have aQ:=za aj;have Hv:=za hv;have bt:m<=99:=by rw [h.n1];omega
 have bK:1<=m:=by rw [h.n1];omega
 have h6:=zA a.al.toNat 6;have bL:=@run_makeMap Tryz.prog;clear aj h n1 bk hv hN ar
 go_enter Tryz.func192,Tryz.ntmps192
 go_upto_region 1 with fail
 generalize U0:w.alloc _=R at *;obtain⟨aq,V⟩:=Ext.x1_ U0;clear U0;have c1:=V.cell;go_upto_region 2 with (at_make;refine zbc R R rfl _ _ 110 rfl 3 _ 1 8 Tryz.underlying110 zQ _ _ m rfl rfl (cY _) oM lM ?_;intro w2 hx12 zjV hx2 hsz2)
 rw [made_z] at zjV;clear c1 hx2 hsz2;have c1:=(V.ext hx12).cell;obtain⟨G,hG⟩:∃ G,Hid (G=R.heap.size):=⟨_,rfl⟩;have aT:R.heap.size<=G:=oH hG.out;have ai:w2.ownsRow G 3 1 (.slice (some ⟨G,0,none⟩) m m) m (zad (dQ m 0)):=by rw [hG.out];exact zjV
 rw [← hG.out];clear zjV;go_wp2_with fail
 go_loopw [4,21] (fun _ i wr=>∃ (q:Nat) (cs:List Nat),i=.int .i64 q∧q<=m∧Hid (cs.length=m∧∀ j,j<m->fnL cs j=if j<q∧zaC a j=true then 1 else 0)∧wr.ownsRow G 3 1 (.slice (some G) m m) m (zad cs)∧Ext R wr) (fun _ i _=>m - (intOf i).toNat)
 case atStart=>exact⟨0,_,rfl,dG _,za ⟨sM,fun j Y=>by rw [if_neg oM];unfold fnL;rw [dE,List.getElem?_replicate,if_pos Y];rfl⟩,ai,hx12⟩
 case round =>
  clear ai hx12 c1;obtain⟨q,cs,rfl,hq,f,c,hx⟩:=hrel;have c1:=(V.ext hx).cell
  by_cases hlt:q<m
  ·have a1:(q:Int)<(m:Int):=oM;have bs:(q:Int)<(m':Int):=oH aP.out;obtain⟨ad,bb,rfl,-,-,hb,cb⟩:=(HB.out wr (aq.trans hx)).bool (k:=q) (oH aP.out);have aV:=za (show zaC a q=bb by unfold zaC;rw [dE,hb.out];rfl);obtain⟨o0,g0⟩:=zaD c q oM;have f0:=c.frozenAt q;cases bb with
   |true =>
    have a6:=(c.stored q (.int .i64 (1:Nat))).1;rw [← zeE] at a6;have ag:=za (show (cs.set q 1).length=m∧∀ j,j<m->fnL (cs.set q 1) j=if j<q+1∧zaC a j=true then 1 else 0 from ⟨by rw [List.length_set];exact f.out.1,fun j Y=>by
     rw [fnL_set 1 (oH f.out.1),f.out.2 j Y]
     by_cases e:j=q
     ·subst e;rw [if_pos rfl,if_pos ⟨oM,aV.out⟩]
     ·rw [if_neg e]
      by_cases e2:j<q∧zaC a j=true
      ·rw [if_pos e2,if_pos ⟨oM,e2.2⟩]
      ·rw [if_neg e2,if_neg (fun h=>e2 ⟨oM,h.2⟩)]⟩)
    have bh:Ext R (wr.setCell ⟨G,q,none⟩ (.int .i64 (1:Nat))):=hx.setCell (p:=⟨G,q,none⟩) aT _;clear c hx hb;go_wp2_with fail
    go_roundw
    case rel=>exact⟨q+1,_,gM,oM,ag,a6,bh⟩
    case measure=>simp [intOf];omega
   |false =>
    have ag:=za (show cs.length=m∧∀ j,j<m->fnL cs j=if j<q+1∧zaC a j=true then 1 else 0 from ⟨f.out.1,fun j Y=>by
     rw [f.out.2 j Y]
     by_cases e:j=q
     ·subst e;rw [if_neg (fun h=>oM),if_neg (fun h=>by have:=aV.out;rw [h.2] at this;cases this)]
     ·by_cases e2:j<q∧zaC a j=true
      ·rw [if_pos e2,if_pos ⟨oM,e2.2⟩]
      ·rw [if_neg e2,if_neg (fun h=>e2 ⟨oM,h.2⟩)]⟩)
    clear hb;go_wp2_with fail
    go_roundw
    case rel=>exact⟨q+1,_,gM,oM,ag,c,hx⟩
    case measure=>simp [intOf];omega
  ·obtain rfl:m=q:=oM;have aU:=za (ClsI.zero (a:=a) (cs:=cs) (by rw [f.out.1,S.out]) (fun j Y=>by
    rw [f.out.2 j (by rw [S.out];exact Y)]
    by_cases e:zaC a j=true
    ·rw [if_pos ⟨by rw [S.out];exact Y,e⟩,if_pos e]
    ·rw [if_neg (fun h=>e h.2),if_neg e]))
   have ah:=za (zn c aT);have hx0:=za hx;clear c hx c1 f;go_wp2_with fail
   go_loopw [3,5,6,7,8,9,10,12,13,14] (fun v3 v5 _ _ _ _ _ _ _ _ wr=>∃ (g:Nat) (cs:List Nat) (K:Nat),v3=.slice (some g) m m∧v5=.int .i64 K∧K<=m∧Hid (ClsI a cs K)∧Hid (wr.ownsRow R.heap.size 3 1 (.slice (some g) m m) m (zad cs))∧Hid (Ext R wr)) (fun _ v5 _ _ _ _ _ _ _ _ _=>m+1 - (intOf v5).toNat)
   case atStart=>exact⟨G,cs,0,rfl,rfl,dG _,aU,ah,hx0⟩
   case round =>
    clear aU ah hx0;obtain⟨g,cs,K,rfl,rfl,hK,hI,c,hx⟩:=hrel;obtain⟨Q,aK⟩:∃ Q,Q=wr:=⟨_,rfl⟩;subst aK;have an:Ext Q (Q.alloc (.map #[] 0)):=(cY _).alloc _;have af:MapC (Q.alloc (.map #[] 0)) Q.heap.size 0 (fun _=>none):=MapN.made Q;go_upto_region 10 with fail
    obtain⟨mb,a2⟩:∃ mb,Hid (mb=Q.heap.size):=⟨_,rfl⟩;rw [← a2.out] at af ⊢;have bu:R.heap.size<=mb:=by have:=a2.out;have:=hx.out.size;omega
    generalize Q.alloc (.map #[] 0)=w4 at *;go_upto_region 11 with (at_make;refine zbc w4 w4 rfl _ _ 110 rfl 3 _ 1 8 Tryz.underlying110 zQ _ _ m rfl rfl (cY _) oM lM ?_;intro w5 hx45 zjX hx5 hsz5)
    rw [made_z] at zjX;clear hx5;obtain⟨n,aE⟩:∃ n,Hid (n=w4.heap.size):=⟨_,rfl⟩;rw [← aE.out] at zjX ⊢;have aY:R.heap.size<=n:=by have:=aE.out;have:=hx.out.size;have:=an.size;omega
    have ay:=za (hx.out.trans (an.trans hx45));have E:=za (zn zjX aY);have u:=za (af.ext hx45);have au:=za (zi c.out (an.trans hx45));have be:=za (fun (e:g=mb)=>u.out.g.aj au.out (by rw [e];rfl));have aZ:=za (show g≠n from fun e=>by
     have h1:=(c.out.lt g rfl).2;have h2:=an.size;have h3:=aE.out;omega)
    have av:=za (show n≠mb from fun e=>u.out.g.aj zjX (by rw [e];rfl));have k1:=(V.ext ay.out).cell;clear an af hx45 zjX hsz5 c;go_wp2_with fail
    go_loopw [8,9,10,12,13,14,40] (fun _ _ _ _ _ _ i wr=>∃ (k t:Nat) (I:List Nat) (M:ByteArray->Option Nat),i=.int .i64 k∧k<=m∧Hid (I.length=k)∧Hid (zhR (kyR a cs) I t M)∧Hid (MapC wr mb t M)∧Hid (wr.ownsRow R.heap.size 3 1 (.slice (some n) m m) m (zad (I++dQ (m - k) 0)))∧Hid (Frm (fun b=>b=mb∨b=n) w5 wr)) (fun _ _ _ _ _ _ i _=>m - (intOf i).toNat)
    case atStart=>exact⟨0,0,[],_,rfl,dG _,za rfl,za zhR.zero,u,E,za (Frm.refl _ _)⟩
    case round =>
     clear u E k1;obtain⟨k,t,I,M,rfl,hk,o,L,l,O,ap⟩:=hrel;have F:=za (ay.out.frm ap.out (fun b hb e=>by rcases e with e|e<;>omega))
     have aW:=za (zf au.out ap.out (fun b hb e=>by
      have h1:g=b:=by simpa [Value.ownBlock] using hb
      rcases e with e|e
      ·exact be.out (h1.trans e)
      ·exact aZ.out (h1.trans e)))
     have k1:=(V.ext F.out).cell
     by_cases hlt:k<m
     ·obtain⟨ad,Ak,ck,row,rfl,_,_,ax,bd,a4⟩:=(HN.out wr (aq.trans F.out)).row hlt;obtain⟨bf,a3⟩:=aQ.out k row ax.out;have a8:=za a3;have a9:=za a4;have a1:(k:Int)<(m:Int):=oM;have bw:row.length<=6:=oM;have aB:∀ j,j<m->wr.cell? ⟨g,j,none⟩=some (.int .i64 (fnL cs j:Nat)):=fun j Y=>by
       rw [aW.out.cellAt j oM];unfold zad;rw [dO,ziv (by rw [hI.out.len,← S.out];exact Y)];rfl
      have ba:=za aB;have aS:=aB k hlt;have bg:=za (show a.next.getD k []=row by rw [dE,ax.out];rfl);obtain⟨x,aL⟩:∃ x,Hid (fnL cs k=x):=⟨_,rfl⟩;have am:x<100:=by rw [← aL.out];exact hI.out.lt k
      rw [aL.out] at aS;obtain⟨z0,aN⟩:∃ z0,Hid (kyB (fnL cs) x (row.take 0)=z0):=⟨_,rfl⟩;have J:=za (fun W=>lib_Itoa x am W);rw [← kyB_zero (fnL cs) x row,aN.out] at J;clear a4 a3 bf aB;go_upto_region 15 with (go_at_call 267;refine (J.out _).mono ?_;rintro e w6 ⟨rfl,rfl⟩)
      clear aS k1 bd;obtain⟨Q,aK⟩:∃ Q,Q=wr:=⟨_,rfl⟩;subst aK;go_wp2_with fail
      go_loopw [10,12,52] (fun v10 _ jv wr=>∃ j:Nat,v10=.string (kyB (fnL cs) x (row.take j))∧jv=.int .i64 j∧j<=row.length∧wr=Q) (fun _ _ jv _=>row.length - (intOf jv).toNat)
      case atStart=>exact⟨0,by rw [aN.out],rfl,dG _,rfl⟩
      case round =>
       clear aN J;obtain⟨j,rfl,rfl,Y,rfl⟩:=hrel;have Z:=kyB_size hI.out.lt am (row.take j);rw [List.length_take] at Z;obtain⟨H,aF⟩:∃ H,Hid (kyB (fnL cs) x (row.take j)=H):=⟨_,rfl⟩;rw [aF.out] at Z ⊢;have br:H.size<=20:=oM;clear Z
       by_cases hjl:j<row.length
       ·have bq:(j:Int)<(row.length:Int):=oM;obtain⟨bF,y0,rfl,_,_,a7,bJ⟩:=a9.out.int hjl;obtain⟨y1,y2⟩:=a8.out y0 (dB a7.out);obtain⟨y,rfl⟩:∃ y:Nat,y0=y:=⟨y0.toNat,oM⟩;have bi:y<m:=oH S.out;have bx:(y:Int)<(m:Int):=oM;have cy:=ba.out y bi;obtain⟨v,aJ⟩:∃ v,Hid (fnL cs y=v):=⟨_,rfl⟩;have ak:v<100:=by rw [← aJ.out];exact hI.out.lt y
        rw [aJ.out] at cy;have aH:=za (kyB_snoc (x:=x) a7.out aJ.out);rw [aF.out] at aH;obtain⟨z,hz⟩:∃ z:ByteArray,Hid ((⟨(Lib.decDigits v).toArray⟩:ByteArray)=z):=⟨_,rfl⟩;have bN:z.size<=2:=by rw [← hz.out];exact (show (Lib.decDigits v).toArray.size<=2 by simpa using dig_len ak)
        have J:=za (fun W=>lib_Itoa v ak W);rw [hz.out] at J aH;have q1:¬ 9223372036854775807<1+z.size:=oM;have q2:¬ 9223372036854775807<H.size+(1+z.size):=oM;clear y1 y2;go_wp2_with (go_at_call 267;refine (J.out _).mono ?_;rintro e w6 ⟨rfl,rfl⟩)
        go_roundw
        case rel=>exact⟨j+1,by rw [aH.out],gM,oM,trivial⟩
        case measure=>simp [intOf];omega
       ·obtain rfl:j=row.length:=oM;have aa:=za (show kyR a cs I.length=H by
         show kyB (fnL cs) (fnL cs I.length) (a.next.getD I.length [])=H;rw [o.out,bg.out,aL.out,← aF.out,List.take_length])
        have aC:=za (show domC H by show H.size<=_;omega);obtain⟨o0,g0⟩:=zaD O.out k oM;have f0:=O.out.frozenAt k;cases hM:M H with
        |some v =>
         have r:=(O.out.stored k (.int .i64 (v:Nat))).1;rw [fill_z o.out hlt] at r;have U:=za r;have C:=za (L.out.hit (v:=v) (by rw [aa.out,hM]));have X:=za (ap.out.cell (p:=⟨n,k,none⟩) (.inr rfl) (.int .i64 (v:Nat)));have ae:=za (l.out.frm (dF wr n k (.int .i64 (v:Nat))) (fun e=>av.out e.symm));have aI:(M H).isSome=true:=by rw [hM];rfl
         have aA:=za hM;clear hM r;go_upto_region 21 with (refine zaG (key:=H) _ keyS rfl _ _ rfl rfl l.out.g rfl aC.out ?_;rw [aI];intro cc hcc;obtain rfl:=hcc v aA.out;clear hcc)
         go_wp2_with fail
         go_roundw
         case rel=>exact⟨k+1,t,I++[v],M,gM,oM,za (by have:=o.out;simp;omega),C,ae,U,X⟩
         case measure=>simp [intOf];omega
        |none =>
         have C:=za (L.out.miss (by rw [aa.out,hM]));rw [aa.out] at C;have bM:t<=k:=by have:=zir L.out.fo (dD _);have:=L.out.ct;have:=o.out;omega
         have aI:(M H).isSome=false:=by rw [hM];rfl
         have aA:=za hM;clear hM;go_upto_region 21 with (refine zaG (key:=H) _ keyS rfl _ _ rfl rfl l.out.g rfl aC.out ?_;rw [aI];intro cc hcc;clear hcc)
         go_upto_region 24 with (first
          |(at_len;refine zds _ keyS rfl _ rfl rfl l.out ?_)
          |(refine zij (key:=H) (v9:=t) (b:=mb) _ keyS rfl _ _ _ rfl rfl l.out oM rfl rfl aC.out oM aA.out ?_;intro w7 hm7 hg7))
         have aD:Frm (fun b=>some mb=some b) wr w7:=Frm.ab hg7;have D:=zf O.out aD (fun b hb e=>by
          obtain rfl:=Option.some.inj e;exact l.out.g.aj O.out hb)
         obtain⟨o7,g7⟩:=zaD D k oM;have f7:=D.frozenAt k;have r:=(D.stored k (.int .i64 (t:Nat))).1;rw [fill_z o.out hlt] at r;have U:=za r;have X:=za ((ap.out.trans (aD.mono (T:=fun b=>b=mb∨b=n) (fun b _ e=>.inl (Option.some.inj e).symm))).cell (p:=⟨n,k,none⟩) (.inr rfl) (.int .i64 (t:Nat)));have ae:=za (hm7.frm (dF w7 n k (.int .i64 (t:Nat))) (fun e=>av.out e.symm));clear r hm7 hg7 aD D g0 f0;go_wp2_with fail
         go_roundw
         case rel=>exact⟨k+1,t+1,I++[t],_,gM,oM,za (by have:=o.out;simp;omega),C,ae,U,X⟩
         case measure=>simp [intOf];omega
     ·obtain rfl:m=k:=oM;have aX:=za (show I.length=a.next.length by rw [o.out,S.out]);have aw:=za (show wr.ownsRow R.heap.size 3 1 (.slice (some n) m m) m (zad I) by
       have:=O.out;rwa [Nat.sub_self,List.replicate_zero,List.append_nil] at this)
      obtain⟨s,ab,aG⟩:=hI.out.step L.out aX.out (oH S.out) (oH S.out);have az:=za s
      by_cases hE:t=K
      ·subst hE;have a5:=za (show RetClz w a (.returned (.slice (some n) m m)) wr from ⟨I,n,by rw [S.out],by
        have:=zn aw.out aq.size;rwa [S.out] at this,hI.out.stop L.out aX.out Hv.out,aq.trans F.out⟩)
       clear s ab aG;go_wp2_with (at_len;refine zds _ keyS rfl _ rfl rfl l.out ?_)
       go_ret;exact a5.out
      ·have bH:¬ (t:Int)=(K:Int):=oM;have bI:=ab hE;have a0:t<=m:=by rw [S.out];exact aG
       clear s ab aG;go_wp2_with (at_len;refine zds _ keyS rfl _ rfl rfl l.out ?_)
       go_roundw
       case rel=>exact⟨n,I,t,rfl,rfl,a0,az,aw,F⟩
       case measure=>simp [intOf];omega
end Go.Proofs.YtckbjnndaaoddaaGreatDoor
