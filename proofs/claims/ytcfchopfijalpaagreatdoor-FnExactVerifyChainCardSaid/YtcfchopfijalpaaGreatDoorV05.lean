/- The closure -/
import Derived.Test.YtcfchopfijalpaaGreatDoorV04
set_option maxHeartbeats 8000000
set_option maxRecDepth 100000
namespace Go.Proofs.YtcfchopfijalpaaGreatDoor
open Go Go.RowKit
open Blk renaming new->eX
open Bool renaming and_eq_true->eG,and_false->jT
open Ext renaming bl_->eR,refl->dB
open Int renaming natCast_ediv->jW,natCast_emod->jF,natCast_mul->gK,toNat_natCast->fC
open List renaming all_eq_true->fF,getElem?_eq_getElem->dC,length_append->eO,length_map->eQ,map_cons->gJ,mem_of_getElem?->eB,take_add_one->eH,take_length->fI,take_of_length_le->eE
open Nat renaming div_le_self->jA,le_mul_of_pos_right->j7,le_trans->eJ,mul_le_mul->fX,ne_of_lt->fU,or_lt_two_pow->e9,pow_le_pow_right->eW,zero_le->eD
variable {A B:Option Addr} {R xs:List Nat} {a p:Aut} {c hi j k lo m n r:Nat} {s:Sys} {ss:List Sys} {w:World}
def zbJ (ss:List Sys) (a p:Aut) (x l:Nat):List Nat:=(nx ss (x / p.next.length / a.next.length) l).1.map fun y=>y*a.next.length*p.next.length+(aGo a (x / p.next.length % a.next.length) l*p.next.length+aGo p (x % p.next.length) l)
theorem zcI (ss:List Sys) (a p:Aut):zbJ ss a p=pnx (zaW ss [a,p]):=by
 funext x l
 rw [zbJ,zaW,gJ,gJ,List.map_nil,pnx_under]
theorem mix_set {f:Nat->Nat} (hr:R[j]?=some r):(zU (xs++(R.take j).map f++R.drop j)).set (xs.length+j) (.int .i64 (f r:Nat))=zU (xs++(R.take (j+1)).map f++R.drop (j+1)):=by
 have b:=(List.getElem?_eq_some_iff.1 hr).1;have a:R.drop j=r :: R.drop (j+1):=by
  have:=(List.getElem?_eq_some_iff.1 hr).2;rw [← this];exact List.drop_eq_getElem_cons b
 unfold zU;rw [← List.map_set]
 congr 1
 rw [eH,hr,Option.toList_some,List.map_append,a,List.set_append_right _ _ (by simp;omega)];have:xs.length+j - (xs++(R.take j).map f).length=0:=by simp;omega
 rw [this];simp
theorem mix_get {f:Nat->Nat} (hr:R[j]?=some r):(zU (xs++(R.take j).map f++R.drop j))[xs.length+j]?=some (.int .i64 (r:Nat)):=by
 have a:=(List.getElem?_eq_some_iff.1 hr).1;unfold zU;rw [List.getElem?_map,List.getElem?_append_right (by simp;omega)];have:xs.length+j - (xs++(R.take j).map f).length=0:=by simp;omega
 rw [this,List.getElem?_drop,Nat.add_zero,hr];rfl
def RetBrk (w:World) (base:Nat) (v:Value) (ys:List Nat) (e:Ending) (w':World):Prop:=∃ A' c',e=.returned (.slice A' ys.length c')∧w'.ownsRow base 3 1 (.slice A' ys.length c') ys.length (zU ys)∧Frm (fun b=>v.ownBlock=some b) w w'
theorem brk_next {w0:World} {g8 g10 g11 g12 g13 base x l c0 dm uc rc:Nat} {M UA RA Ao:Option Addr}   (h:BCaps w0 g8 g10 g11 g12 g13 A M UA RA k c dm uc rc ss a p)(hT:Tab w0)(hw:Ext w0 w)(hs:∀ s∈ss,Sml s)(hk:k<=3)(hv:zj a=true)(hp:zj p=true)
  (hx:x<zD (zaW ss [a,p])) (hl:l<6) (hb0:w0.heap.size<=base) (hb:base<=w.heap.size) (hm:m<=1099511627776) (zjc:w.ownsRow base 3 1 (.slice Ao m c0) m (zU xs)) :
  Calls Tryz.prog 179 #[.int .i64 (x:Nat),.int .i64 (l:Nat),.slice Ao m c0,.pointer (some g10),.pointer (some g13),.pointer (some g12),.pointer (some g11),.pointer (some g8)] w (RetBrk w base (.slice Ao m c0) (xs++zbJ ss a p x l)):=by
 obtain⟨_,⟨a1,a2⟩,_,_⟩:=zk hv;obtain⟨_,⟨p1,p2⟩,_,_⟩:=zk hp;have aF:=za (fun q (hq:q<a.next.length)=>zdc hv hq hl);have aD:=za (fun q (hq:q<p.next.length)=>zdc hp hq hl);have bV:zD (zaW ss [a,p])<=4096*144:=by
  have u:zaW ss [a,p]=ss.map zdv++[zbl a,zbl p]:=rfl;rw [u,zbD];have h2:=zcR hs;obtain⟨lo,Y,ad,aa,h3⟩:=h.pt;have h4:16 ^ ss.length<=4096:=by
   calc 16 ^ ss.length<=16 ^ 3:=eW oM (oH h3.sys.1)
    _=4096:=dM
  have h5:zD [zbl a,zbl p]<=144:=by
   simp only [zD,zah,zbl,gJ,List.map_nil,Nat.mul_one];exact fX a2 p2
  exact fX (eJ h2 h4) h5
 have I:=za (fun y hy=>zhW (ms:=zaW ss [a,p]) (x:=x) (fun mm hmm=>by
  rcases List.mem_append.1 hmm with u|u
  ·obtain⟨s,bp,rfl⟩:=List.mem_map.1 u;exact zdZ (hs s bp)
  ·obtain⟨b,B,rfl⟩:=List.mem_map.1 u;simp at B;rcases B with rfl|rfl
   ·exact zbm hv
   ·exact zbm hp) hl y hy)
 have J:=za (nx_len hs (x / p.next.length / a.next.length) l);have O:=za (show zbJ ss a p x l=(nx ss (x / p.next.length / a.next.length) l).1.map fun y=>y*a.next.length*p.next.length+(aGo a (x / p.next.length % a.next.length) l*p.next.length+aGo p (x % p.next.length) l) from rfl);have be:=za (show ∀ y∈zbJ ss a p x l,y<589824 from fun y hy=>by
  rw [zcI] at hy;have:=I.out y hy;omega)
 have HC:=za (fun W (hW:Ext w0 W)=>h.ext hW);have ag:∃ lo Y ad aa,∀ W,Ext w0 W->PtAt W lo Y A k ad aa M ss:=by
  obtain⟨lo,Y,ad,aa,h3⟩:=h.pt;exact⟨lo,Y,ad,aa,fun W hW=>h3.ext hW⟩
 obtain⟨lo,Y,ad,aa,ag⟩:=ag;have aQ:=za ag;have HT:=za (fun W (hW:Ext w0 W)=>hT.ext hW);have Hs:=za hs;clear h hT hs hv hp I ag;obtain⟨N,hN⟩:∃ N,Hid (a.next.length=N):=⟨_,rfl⟩;obtain⟨r,af⟩:∃ r,Hid (p.next.length=r):=⟨_,rfl⟩;rw [hN.out] at a1 a2 aF J O;rw [af.out] at p1 p2 aD J O;have aY:x / r % N<N:=Nat.mod_lt _ a1;have aX:x % r<r:=Nat.mod_lt _ p1;have hu:=aF.out _ aY;have hr:=aD.out _ aX;obtain⟨ug,uo,rfl,V⟩:∃ g o,UA=some ⟨g,o,none⟩∧∀ W,Ext w0 W->W.cell? ⟨g,o+x / r % N*6+l,none⟩=some (.int .i64 (aGo a (x / r % N) l:Nat)):=by
  obtain⟨l1,u,aK⟩:=(HC.out w0 (dB _)).tu;obtain⟨g,o,e,hc⟩:=aK.at_ (q:=x / r % N) (by rw [hN.out];exact aY) hl;exact⟨g,o,e,fun W hW=>hW.aa hc⟩
 obtain⟨rg,ro,rfl,U⟩:∃ g o,RA=some ⟨g,o,none⟩∧∀ W,Ext w0 W->W.cell? ⟨g,o+x % r*6+l,none⟩=some (.int .i64 (aGo p (x % r) l:Nat)):=by
  obtain⟨l1,u,aK⟩:=(HC.out w0 (dB _)).tr;obtain⟨g,o,e,hc⟩:=aK.at_ (q:=x % r) (by rw [af.out];exact aX) hl;exact⟨g,o,e,fun W hW=>hW.aa hc⟩
 have bW:(x:Int) / (r:Int)=((x / r:Nat):Int):=(jW x r).symm;have a3:((x / r:Nat):Int) / (N:Int)=((x / r / N:Nat):Int):=(jW _ N).symm;have bZ:((x / r:Nat):Int) % (N:Int)=((x / r % N:Nat):Int):=(jF _ N).symm;have bD:(x:Int) % (r:Int)=((x % r:Nat):Int):=(jF x r).symm;have bt:x<=589824:=oM;have bs:x / r<=589824:=eJ (jA _ _) bt;have b5:x / r / N<=589824:=eJ (jA _ _) bs;have bU:¬ (N=0):=oM;have bT:¬ (r=0):=oM;have aH:aGo a (x / r % N) l*r<=12*12:=fX oM oM;obtain⟨rest,E⟩:∃ z:Nat,Hid (aGo a (x / r % N) l*r+aGo p (x % r) l=z):=⟨_,rfl⟩;obtain⟨um,ah⟩:∃ z:Nat,Hid (aGo a (x / r % N) l*r=z):=⟨_,rfl⟩;have bq:((aGo a (x / r % N) l:Nat):Int)*(r:Int)=(um:Int):=by rw [← ah.out];exact (gK _ r).symm
 rw [ah.out] at aH;have L:rest=um+aGo p (x % r) l:=by rw [← E.out,ah.out]
 have F:=za L;clear L;rw [E.out] at O;generalize aGo a (x / r % N) l=au at *;generalize aGo p (x % r) l=ap at *;generalize x / r % N=q1 at *;generalize x % r=q2 at *;generalize hxE:x / r / N=xe at *;have bf:=za hxE;clear hxE;generalize x / r=xd at *;clear aF aD E ah;have b0:(q1:Int)<(N:Int):=oM;have b1:(q2:Int)<(r:Int):=oM;have bY:(l:Int)<6:=oM;have aR:∀ W,Ext w0 W->∀ i,W.cell? ⟨g10,i,none⟩=#[Value.slice (some ⟨ug,uo,none⟩) N uc][i]?:=fun W hW=>by have:=(HC.out W hW).h10.cell;rw [hN.out] at this;exact this
 have aS:∀ W,Ext w0 W->∀ i,W.cell? ⟨g11,i,none⟩=#[Value.slice (some ⟨rg,ro,none⟩) r rc][i]?:=fun W hW=>by have:=(HC.out W hW).h11.cell;rw [af.out] at this;exact this
 have aT:∀ W,Ext w0 W->∀ i,W.cell? ⟨g12,i,none⟩=#[Value.int .i64 (N:Nat)][i]?:=fun W hW=>by have:=(HC.out W hW).h12.cell;rw [hN.out] at this;exact this
 have aU:∀ W,Ext w0 W->∀ i,W.cell? ⟨g13,i,none⟩=#[Value.int .i64 (r:Nat)][i]?:=fun W hW=>by have:=(HC.out W hW).h13.cell;rw [af.out] at this;exact this
 have K8:∀ W,Ext w0 W->∀ i,W.cell? ⟨g8,i,none⟩=#[Value.slice A k c,Value.slice M k dm][i]?:=fun W hW=>(HC.out W hW).h8.cell;have Hk:=za (And.intro aR (And.intro aS (And.intro aT (And.intro aU K8))));have aP:=za (And.intro V U);have ay:xs.length=m:=by have:=zcW zjc;simp [zU] at this;omega
 have C:=za ay;clear aR aS aT aU K8 V U ay;have aZ:=za (show (nx ss xe l).1.length<=4096 from eJ J.out (by
  obtain hh:=(aQ.out w hw).sys.1
  calc 16 ^ ss.length<=16 ^ 3:=eW oM oM
   _=4096:=by decide))
 have CN:=za (fun W (hW:Ext w W)=>impl_next (c:=c) (d:=dm) (m:=xe) (l:=l) (v:=.slice Ao m c0) (n:=m) (xs:=zU xs) (base:=base) (aQ.out W (hw.trans hW)) Hs.out oM oM hl (HT.out W (hw.trans hW)) (zg zjc hW) (eJ hb hW.size) hm);have b2:rest<=1000:=oH F.out;have bo:(um:Int)+(ap:Int)=(rest:Int):=oH F.out;generalize (nx ss xe l).1=R at *;have a6:=za (fun b (B:(Value.slice Ao m c0).ownBlock=some b)=>(zjc.lt b B).1);clear J bf zjc;have ao:=fun W (hW:Ext w W)=>Hk.out.1 W (hw.trans hW);have aq:=fun W (hW:Ext w W)=>Hk.out.2.1 W (hw.trans hW);have G:=fun W (hW:Ext w W)=>Hk.out.2.2.1 W (hw.trans hW);have H:=fun W (hW:Ext w W)=>Hk.out.2.2.2.1 W (hw.trans hW);have aG:=fun W (hW:Ext w W)=>Hk.out.2.2.2.2 W (hw.trans hW);have V:=fun W (hW:Ext w W)=>aP.out.1 W (hw.trans hW);have U:=fun W (hW:Ext w W)=>aP.out.2 W (hw.trans hW);have t:=dB w
 go_enter Tryz.func179,Tryz.ntmps179
 go_upto_region 1 with fail
 go_cut [12] (fun v wx=>v=.int .i64 (rest:Nat)∧Ext w wx)
 case first =>
  have b6:=ao w t;have b7:=aq w t;have a9:=G w t;have ba:=H w t;have b9:=V w t;have b8:=U w t
  go_quiet (fail)
  go_wp2_with fail
  go_meet;exact⟨gM,t.drewN _⟩
 case rest =>
  obtain⟨rfl,Q⟩:=hcut;clear V U ao aq;replace aG:=fun W (hW:Ext wc W)=>aG W (Q.trans hW);replace G:=fun W (hW:Ext wc W)=>G W (Q.trans hW);replace H:=fun W (hW:Ext wc W)=>H W (Q.trans hW);have ai:=dB wc;go_upto_region 3 with fail
  refine uR (fun X=>Ext wc X) [8] (zu.of [0,1,2,3,4,5,6,7,8,9]) ?_;refine uQ ?_;refine zb fun K hK=>?_;go_simp;have bn:IntKind.i64.wrap ((IntKind.i64.wrap (xd:Int)).tdiv (N:Int))=(xe:Int):=by
   rw [zgm xd oM,Int.tdiv_eq_ediv_of_nonneg oM,a3,zgm xe oM]
  rw [bn];refine (CN.out _ (Q.trans ai.drew)).mono ?_;rintro e w5 ⟨v',rfl,S,an,aw⟩;refine hK.out _ _ ?_;refine pT ?_;refine uQ ?_;refine zf ?_;rw [show zU xs++zU R=zU (xs++(R.take 0).map (fun y=>y*N*r+rest)++R.drop 0) by simp [zU]] at S;have bk:(zU xs).length=m:=by rw [← C.out];simp [zU]
  rw [bk] at S;obtain⟨A5,c5,rfl⟩:=zi S;have D:Frm (fun b=>(Value.slice Ao m c0).ownBlock=some b) w w5:=((Q.trans ai.drew).ak).trans (an.mono fun _ _ h=>h);have aE:Ext w0 w5:=(hw.ak.trans (D.mono fun b hb1 hb2=>hb2)).mono (T:=fun _=>False) (fun b hb1 hb2=>by have:=a6.out b hb2;omega);have ax:∀ b,(Value.slice A5 (m+R.length) c5).ownBlock=some b->(Value.slice Ao m c0).ownBlock=some b∨w.heap.size<=b:=fun b B=>by
   rcases aw with u|⟨b',u,h2⟩
   ·rw [u] at B;exact Or.inl B
   ·rw [u] at B;have:=Option.some.inj B;have:=(Q.trans ai.drew).size;exact Or.inr oM
  have ak:=za ax;clear aw ax aG an G H ai;have Hx:=za (fun (W:World) (hW:Frm (fun b=>(Value.slice Ao m c0).ownBlock=some b) w W)=>show Ext w0 W from (hw.ak.trans (hW.mono fun b _ h=>h)).mono (T:=fun _=>False) (fun b hb1 hb2=>by have:=a6.out b hb2;omega));have bl:m+R.length<=1099511627776+4096:=oH aZ.out;obtain⟨Z,hZ⟩:∃ Z,Hid (m+R.length=Z):=⟨_,rfl⟩;rw [hZ.out] at bl S;rw [hZ.out] at ak;rw [hZ.out];go_wp2_with fail
  go_loopw [14] (fun i wr=>∃ i' j:Nat,i=.int .i64 (i':Nat)∧Hid (i'=m+j)∧j<=R.length∧wr.ownsRow base 3 1 (.slice A5 Z c5) Z (zU (xs++(R.take j).map (fun y=>y*N*r+rest)++R.drop j))∧Frm (fun b=>(Value.slice Ao m c0).ownBlock=some b) w wr) (fun i _=>Z - (intOf i).toNat)
  case atStart=>exact⟨m,0,rfl,rfl,eD _,S,D⟩
  case round =>
   clear S D aE;obtain⟨i,j,rfl,Y,hj,zjc,D⟩:=hrel
   by_cases hlt:j<R.length
   ·obtain⟨y,hy⟩:∃ y,Hid (R[j]?=some y):=⟨_,za (dC hlt)⟩;have av:=be.out (y*N*r+rest) (by rw [O.out];exact List.mem_map.2 ⟨y,eB hy.out,rfl⟩);have hx0:=Hx.out wr D;have bX:i<Z:=by have:=Y.out;have:=hZ.out;omega
    obtain⟨g5,rfl⟩:∃ g,A5=some ⟨g,0,none⟩:=by
     rcases zjc.2 with ⟨u,h2⟩|⟨g,bP,bQ,u,_⟩
     ·injection u;omega
     ·injection u with u;exact⟨g,u⟩
    have bm:=za (mix_get (xs:=xs) (f:=fun y=>y*N*r+rest) hy.out);have a0:wr.cell? ⟨g5,i,none⟩=some (.int .i64 (y:Nat)):=by
     have:=zjc.cellAt i oM;rw [this,← bm.out,C.out,Y.out]
    have ab:=mix_set (xs:=xs) (f:=fun y=>y*N*r+rest) hy.out;rw [C.out,← Y.out] at ab;have a9:=fun W (hW:Ext wr W)=>Hk.out.2.2.1 W (hx0.trans hW);have ba:=fun W (hW:Ext wr W)=>Hk.out.2.2.2.1 W (hx0.trans hW);have CY:∀ W,Ext wr W->W.cell? ⟨g5,i,none⟩=some (.int .i64 (y:Nat)):=fun W hW=>hW.aa a0;have a7:y*N<=y*N*r:=j7 _ p1;obtain⟨yn,aL⟩:∃ z:Nat,Hid (y*N=z):=⟨_,rfl⟩;have bF:(y:Int)*(N:Int)=(yn:Int):=by rw [← aL.out];exact (gK y N).symm
    rw [aL.out] at av ab a7;obtain⟨ym,a8⟩:∃ z:Nat,Hid (yn*r=z):=⟨_,rfl⟩;have bE:(yn:Int)*(r:Int)=(ym:Int):=by rw [← a8.out];exact (gK yn r).symm
    rw [a8.out] at av ab a7;have bu:y<=y*N:=j7 _ a1;rw [aL.out] at bu;have a5:(i:Int)<(Z:Int):=oM;have b3:IntKind.i64.wrap (yn:Int)=(yn:Int):=zgm yn oM;have b4:IntKind.i64.wrap (ym:Int)=(ym:Int):=zgm ym oM;have br:IntKind.i64.wrap ((ym:Int)+(rest:Int))=((ym+rest:Nat):Int):=by rw [← Int.natCast_add];exact zgm (ym+rest) oM
    have t:=dB wr;clear a0 hx0;go_upto_region 7 with fail
    refine uR (fun X=>Ext wr X) [13] (zu.of [0,1,2,3,4,5,6,7,8,9,10,11,12,13]) ?_;refine uQ ?_;have aj:=zg zjc t.drew;have am:=D.ext t.drew;clear zjc D a9 ba CY t;generalize wr.drew=wd at *;obtain⟨o0,g0⟩:=zab aj i oM;have f0:=aj.frozenAt i;have aJ:=aj.stored i (.int .i64 ((ym+rest:Nat):Int));rw [ab] at aJ;have aI:=aJ.1;have a4:Frm (fun b=>(Value.slice Ao m c0).ownBlock=some b) w (wd.setCell ⟨g5,i,none⟩ (.int .i64 ((ym+rest:Nat):Int))):=by
     rcases ak.out g5 rfl with u|u
     ·exact am.cell (p:=⟨g5,i,none⟩) u _
     ·have h2:Frm (fun b=>(Value.slice Ao m c0).ownBlock=some b∨b=g5) w (wd.setCell ⟨g5,i,none⟩ (.int .i64 ((ym+rest:Nat):Int))):=(am.mono fun _ _ h=>Or.inl h).trans ((Frm.setCell wd g5 i _).mono fun _ _ h=>Or.inr h);exact h2.mono fun b hb h=>h.elim id (fun e=>oM)
    clear aJ ab aj;have bj:=za (show i+1=m+(j+1) by rw [Y.out];omega);refine zb fun K hK=>?_;go_simp;refine hK.out _ _ ?_;refine zf ?_
    first|rw [br]|skip
    go_wp2_with fail
    go_roundw
    case rel=>exact⟨i+1,j+1,gM,bj,oM,aI,a4⟩
    case measure=>simp [intOf];omega
   ·obtain rfl:j=R.length:=oM;have bA:=za (show wr.ownsRow base 3 1 (.slice A5 (xs++zbJ ss a p x l).length c5) (xs++zbJ ss a p x l).length (zU (xs++zbJ ss a p x l)) by
     rw [O.out,eO,eQ,C.out,hZ.out];rw [fI,List.drop_length,List.append_nil] at zjc;exact zjc)
    have ar:(xs++zbJ ss a p x l).length=Z:=by rw [O.out,eO,eQ,C.out,hZ.out]
    have hres:=za (show RetBrk w base (.slice Ao m c0) (xs++zbJ ss a p x l) (.returned (.slice A5 Z c5)) wr from ⟨A5,c5,by rw [ar],bA.out,D⟩);clear ar;have a5:¬ (i:Int)<(Z:Int):=by have:=Y.out;have:=hZ.out;omega
    clear zjc;go_wp2;go_ret;exact hres.out
theorem eqSystemS_any {lo' hi':Nat}    {d:Nat} {l l':List Sys} (h:zda w lo hi A n l)(h':zda w lo' hi' B m l')(hll:l=l') :
  Calls Tryz.prog 33 #[.slice A n c,.slice B m d] w fun e w'=>e=.returned (.bool true)∧Ext w w':=by
 subst hll;have U:=h.len;have T:=h'.len;obtain rfl:n=m:=by rw [h.1,h'.1]
 go_enter Tryz.func33,Tryz.ntmps33
 go_wp2
 go_loopw [5] (fun i wr=>∃ k:Nat,k<=n∧i=.int .i64 k∧Ext w wr) (fun i _=>n - (intOf i).toNat)
 case atStart=>exact⟨0,eD _,rfl,dB _⟩
 case round =>
  obtain⟨k,hk,rfl,a⟩:=hrel
  by_cases hlt:k<n
  ·obtain⟨b,o,x,q,r,z,rfl,_,_,t,v,C,D,p⟩:=(h.ext a).sys hlt;obtain⟨g,u,y,I,J,L,rfl,_,_,f,E,F,G,s⟩:=(h'.ext a).sys hlt;obtain rfl:x=y:=by have t:=t.out;have f:=f.out;rw [t] at f;exact Option.some.inj f
   have M:∀ W,Ext wr W->W.cell? ⟨b,o+k*3,none⟩=some (.int .i64 x.al):=fun W hW=>hW.aa v;have O:∀ W,Ext wr W->W.cell? ⟨b,o+k*3+1,none⟩=some (.int .i64 x.st):=fun W hW=>hW.aa C;have Q:∀ W,Ext wr W->W.cell? ⟨b,o+k*3+2,none⟩=some (.slice q r z):=fun W hW=>hW.aa D;have R:∀ W,Ext wr W->W.cell? ⟨g,u+k*3,none⟩=some (.int .i64 x.al):=fun W hW=>hW.aa E;have g1:∀ W,Ext wr W->W.cell? ⟨g,u+k*3+1,none⟩=some (.int .i64 x.st):=fun W hW=>hW.aa F;have S:∀ W,Ext wr W->W.cell? ⟨g,u+k*3+2,none⟩=some (.slice I J L):=fun W hW=>hW.aa G;clear v C D E F G;have H:=dB wr;go_wp2_with fail
   go_region_held3 (fun W=>Ext wr W) (first|assumption|(refine Ext.drew ?_;assumption)|(refine Ext.trans ?_ aM;assumption)|(refine Ext.trans ?_ aM;refine Ext.drew ?_;assumption)) ((go_at_call 22;refine (eqSystem_any (p.ext ?_) (s.ext ?_)).mono ?_;assumption;assumption;rw [sysEq_self];rintro e V ⟨rfl,j⟩))
   go_wp2;go_roundw
   case rel=>exact⟨k+1,oM,gM,a.trans aM⟩
   case measure=>simp [intOf];omega
  ·obtain rfl:k=n:=oM;go_wp2;go_ret;exact⟨rfl,a⟩
theorem areParts_1 (h:zN w lo hi A n s) :
  Calls Tryz.prog 172 #[.agg #[s.al,s.st,.slice A n c]] w fun e w'=>e=.returned (.bool (!zl s))∧Ext w w':=by
 go_enter Tryz.func172,Tryz.ntmps172
 go_wp2_with (go_at_call 108;refine (zaS (h.ext ?_)).mono ?_;exact (dB _).alloc _;rintro e w' ⟨rfl,a⟩)
 go_ret;exact⟨rfl,((dB _).alloc _).trans a⟩
theorem zgK (h:zda w lo hi A n ss) :
  Calls Tryz.prog 239 #[.slice A n c,.func (.func 172) #[] #[]] w fun e w'=>∃ r:Int,e=.returned (.int .i64 r)∧decide (0<=r)=ss.any (fun s=>!zl s) ∧ -1<=r∧Ext w w':=by
 have z:=h.len;have p:=za h.1
 go_enter Tryz.func239,Tryz.ntmps239
 go_wp2
 go_loopw [8] (fun i wr=>∃ k:Nat,k<=n∧i=.int .i64 k∧Hid ((ss.take k).any (fun s=>!zl s)=false)∧Ext w wr) (fun i _=>n - (intOf i).toNat)
 case atStart=>exact⟨0,eD _,rfl,rfl,dB _⟩
 case round =>
  obtain⟨k,hk,rfl,f,a⟩:=hrel
  by_cases hlt:k<n
  ·obtain⟨b,o,s,B,q,d,rfl,u,t,l,v,x,y,j⟩:=(h.ext a).sys hlt;cases hb:zl s
   all_goals
    have g:=za hb;clear hb;go_wp2_with (go_at_call 172;refine (areParts_1 j).mono ?_;rw [g.out];rintro e w' ⟨rfl,m⟩)
   ·go_ret;exact⟨k,rfl,by rw [List.any_eq_true.2 ⟨s,eB l.out,by rw [g.out];rfl⟩];simp,oM,a.trans m⟩
   ·go_roundw
    case rel=>exact⟨k+1,oM,gM,by unfold Hid;rw [eH,l.out,List.any_append,f.out];simp [g.out],a.trans m⟩
    case measure=>simp [intOf];omega
  ·obtain rfl:k=n:=oM;go_wp2;go_ret;have:=f.out;rw [p.out,fI] at this;exact⟨-1,rfl,by rw [this];decide,oM,a⟩
theorem zfa (h:zda w lo hi A n ss) :
  Calls Tryz.prog 171 #[.slice A n c,.func (.func 172) #[] #[]] w fun e w'=>e=.returned (.bool (ss.any (fun s=>!zl s)))∧Ext w w':=by
 go_enter Tryz.func171,Tryz.ntmps171
 cases hb:ss.any (fun s=>!zl s)
 all_goals
  have b:=za hb;clear hb;go_wp2_with (go_at_call 239;refine (zgK h).mono ?_;rw [b.out];rintro e w' ⟨r,rfl,d,f,g⟩)
  go_ret;exact⟨zm (by have a:=d;simp at a;simp<;>omega),g⟩
def zA (ss:List Sys):Bool:=decide (1<=ss.length)&&(decide (ss.length<=3)&&ss.all zl)
theorem zaB (h:zda w lo hi A n ss) :
  Calls Tryz.prog 94 #[.slice A n c] w fun e w'=>e=.returned (.bool (zA ss))∧Ext w w':=by
 have f:=h.len;have a:=za h.1;have hA:ss.any (fun s=>!zl s)=!ss.all zl:=by rw [Bool.eq_iff_iff];simp
 have b:=za hA;clear hA
 by_cases h1:1<=n
 ·by_cases h3:n<=3
  ·go_enter Tryz.func94,Tryz.ntmps94
   go_wp2_with (go_at_call 171;refine (zfa h).mono ?_;rw [b.out];rintro e w' ⟨rfl,d⟩)
   go_ret;exact⟨zm (by have:=a.out;unfold zA;rw [decide_eq_true oM,decide_eq_true oM];simp),d⟩
  ·go_enter Tryz.func94,Tryz.ntmps94
   go_wp2;go_ret;exact⟨zm (by have:=a.out;unfold zA;rw [decide_eq_false (by omega:¬ ss.length<=3)];simp),dB _⟩
 ·go_enter Tryz.func94,Tryz.ntmps94
  go_wp2;go_ret;exact⟨zm (by have:=a.out;unfold zA;rw [decide_eq_false (by omega:¬ 1<=ss.length)];simp),dB _⟩
theorem zP (lo hi:Nat) (A:Option Addr) (n c:Nat) (A':Option Addr) (n' c':Nat) (a:Aut) (w:World)(h:zC w lo hi A n A' n' a) :
  Calls Tryz.prog 95 #[.agg #[a.al,.slice A n c,.slice A' n' c']] w fun e w'=>e=.returned (.bool (zj a))∧Ext w w':=by
 have C:=h.n1;have H:=h.n2;have p:=za (show zj a=(decide (0<=a.al∧a.al<=63)&&(decide (1<=n∧n<=12)&&(decide (n'=n)&&a.next.all (rowB (letters a.al.toNat 6).length n)))) by unfold zj;rw [← C,← H]);have S:=h.1.len;have T:=h.2.2.len;clear C H
 by_cases hal:0<=a.al∧a.al<=63
 ·have t:=za (show decide (0<=a.al∧a.al<=63)=true by simp;omega)
  by_cases hn:1<=n∧n<=12
  ·have O:decide ((n:Int)<1)=false:=by simp;omega
   have Q:decide (12<(n:Int))=false:=by simp;omega
   by_cases hn':n'=n
   ·subst hn';obtain⟨al,d⟩:∃ al:Nat,Hid (a.al=al):=⟨a.al.toNat,by unfold Hid;omega⟩;have F:Sm al:=by have:=d.out;unfold Sm;omega
    have D:=zJ al 6;rw [d.out];rw [d.out] at t;rw [d.out,fC] at p;clear hal;have I:=fun W (hW:Ext w W)=>h.1.ext hW;have L:=za I;clear I
    go_enter Tryz.func95,Tryz.ntmps95
    go_wp2_with (first
     |(go_at_call 173;refine (zan _ _).mono ?_;rw [t.out];rintro e w' ⟨rfl,rfl⟩)
     |(go_at_call 158;refine (zaa _ F _).mono ?_;rintro e X ⟨Z,c2,rfl,Y,b⟩;have r:=zbY b))
    go_loopw [40] (fun i wr=>∃ k:Nat,k<=n'∧i=.int .i64 k∧Hid ((a.next.take k).all (rowB (letters al 6).length n')=true)∧Ext X wr)
     (fun i _=>n' - (intOf i).toNat)
    case atStart=>exact⟨0,eD _,rfl,rfl,dB _⟩
    case round =>
     obtain⟨k,hk,rfl,f,v⟩:=hrel;have J:∀ W,Ext wr W->∀ j,W.cell? ⟨w.heap.size,j,none⟩=#[Value.int .i64 al,Value.slice A n' c,Value.slice A' n' c'][j]?:=fun W hW=>zbY ((b.trans v).trans hW);have V:=dB wr;clear r;have o:Ext w wr:=(((dB _).alloc _).trans b).trans v
     by_cases hlt:k<n'
     ·obtain⟨ad,Ak,ck,l,rfl,U,R,B,s,y⟩:=(L.out wr o).row hlt
      by_cases hlk:l.length=(letters al 6).length
      ·obtain⟨m,E⟩:∃ m,Hid ((letters al 6).length=m):=⟨_,rfl⟩;have u:Hid (l.length=m):=by have:=E.out;unfold Hid;omega
       rw [E.out] at D ⊢;rw [E.out] at f p;rw [u.out] at s y;clear hlk;go_wp2_with fail
       go_loop [50] (fun i=>∃ j:Nat,j<=m∧i=.int .i64 j∧Hid ((l.take j).all (fun q=>decide (0<=q∧q<n'))=true)) (fun i=>m - (intOf i).toNat)
       case atStart=>exact⟨0,eD _,rfl,rfl⟩
       case round =>
        obtain⟨j,hj,rfl,g⟩:=hrel
        by_cases hltj:j<m
        ·obtain⟨M,x,rfl,_,_,G,z⟩:=y.int hltj
         by_cases h0:x<0
         ·go_wp2;go_ret;exact⟨zm (by rw [p.out,zaA B.out (by rw [rowB,zaA G.out (by simp;omega),jT])];simp),o⟩
         ·by_cases C:(n':Int)<=x
          ·go_wp2;go_ret;exact⟨zm (by rw [p.out,zaA B.out (by rw [rowB,zaA G.out (by simp;omega),jT])];simp),o⟩
          ·go_wp2
           go_round
           case rel=>exact⟨j+1,oM,gM,zco G.out g.out (by simp;omega)⟩
           case measure=>simp [intOf];omega
        ·obtain rfl:j=m:=oM;go_wp2;go_roundw
         case rel=>exact⟨k+1,oM,gM,zco B.out f.out (by rw [rowB,zeB (oH u.out) g.out,u.out];simp),v⟩
         case measure=>simp [intOf];omega
      ·have hne:((l.length:Int) != ((letters al 6).length:Int))=true:=by simp;omega
       go_wp2;go_ret;exact⟨zm (by rw [p.out,zaA B.out (by simp [rowB,hlk])];simp),o⟩
     ·obtain rfl:k=n':=oM;go_wp2;go_ret;exact⟨zm (by rw [p.out,zeB (oH h.n1) f.out,t.out];simp;omega),o⟩
   ·have hne:((n':Int) != (n:Int))=true:=by simp;omega
    go_enter Tryz.func95,Tryz.ntmps95
    go_wp2_with (go_at_call 173;refine (zan _ _).mono ?_;rw [t.out];rintro e w' ⟨rfl,rfl⟩)
    go_ret;exact⟨zm (by rw [p.out];simp [hn']),(dB _).alloc _⟩
  ·go_enter Tryz.func95,Tryz.ntmps95
   go_wp2_with (go_at_call 173;refine (zan _ _).mono ?_;rw [t.out];rintro e w' ⟨rfl,rfl⟩)
   all_goals go_ret
   all_goals exact⟨zm (by rw [p.out];simp [hn]),(dB _).alloc _⟩
 ·go_enter Tryz.func95,Tryz.ntmps95
  have t:decide (0<=a.al∧a.al<=63)=false:=by simp;omega
  go_wp2_with (go_at_call 173;refine (zan _ _).mono ?_;rw [t];rintro e w' ⟨rfl,rfl⟩)
  go_ret;exact⟨zm (by rw [p.out];simp;omega),(dB _).alloc _⟩
def autNone (a:Aut):Bool:=decide (a.al=0)&&(decide (a.next.length=0)&&decide (a.acc.length=0))
def zE (ss:List Sys):Nat:=ss.foldl (fun a s=>a|||s.al.toNat) 0
theorem zcG (h:ss[k]?=some s):zE (ss.take (k+1))=zE (ss.take k)|||s.al.toNat:=by
 rw [eH,h];simp [zE]
theorem zF (h:zl s=true):0<=s.al∧s.al<=63:=by
 simp only [zl,eG,decide_eq_true_eq] at h;exact h.1
def zbd (ss:List Sys):Int:=if zA ss then (zE ss:Int) else -1
theorem zaD (h:zda w lo hi A n ss) :
  Calls Tryz.prog 207 #[.slice A n c] w fun e w'=>e=.returned (.int .i64 (zbd ss))∧Ext w w':=by
 have R:=h.len;have t:=za h.1
 by_cases r:n<1
 ·go_enter Tryz.func207,Tryz.ntmps207
  go_wp2;go_ret;exact⟨zG (by have:=t.out;unfold zbd zA;rw [decide_eq_false oM];simp),dB _⟩
 by_cases h3:n>3
 ·go_enter Tryz.func207,Tryz.ntmps207
  go_wp2;go_ret;exact⟨zG (by have:=t.out;unfold zbd zA;rw [decide_eq_false (by omega:¬ ss.length<=3)];simp),dB _⟩
 go_enter Tryz.func207,Tryz.ntmps207
 go_wp2
 go_loopw [3,4] (fun v i wr=>∃ k:Nat,k<=n∧i=.int .i64 k∧∃ u:Nat,v=.int .i64 u∧u<=63∧Hid (u=zE (ss.take k))∧Hid ((ss.take k).all zl=true)∧Ext w wr) (fun _ i _=>n - (intOf i).toNat)
 case atStart=>exact⟨0,eD _,rfl,0,rfl,oM,rfl,rfl,dB _⟩
 case round =>
  obtain⟨k,hk,rfl,u,rfl,S,m,g,f⟩:=hrel
  by_cases hlt:k<n
  ·obtain⟨b,o,s,B,q,d,rfl,M,L,z,G,O,Q,l⟩:=(h.ext f).sys hlt;cases hb:zl s
   ·have j:=za hb;clear hb;go_wp2_with (go_at_call 199;refine (zay l).mono ?_;rw [j.out];rintro e w' ⟨rfl,p⟩)
    go_ret;exact⟨zG (by unfold zbd;rw [if_neg];unfold zA;simp;intro _ _;exact⟨s,eB z.out,j.out⟩),f.trans p⟩
   ·obtain⟨I,J⟩:=zF hb;have j:=za hb;clear hb;have F:=za (zcG z.out);have E:=za (zaV (a:=u) (b:=s.al.toNat) tM tM);have D:=za (show ((s.al.toNat:Nat):Int)=s.al by omega);go_wp2_with (go_at_call 199;refine (zay l).mono ?_;rw [j.out];rintro e w' ⟨rfl,p⟩;have H:=p.aa G)
    go_roundw
    case rel=>exact⟨k+1,oM,gM,u|||s.al.toNat,by have:=E.out;rw [D.out] at this;rw [← this],by have:=e9 (n:=6) (x:=u) (y:=s.al.toNat) oM oM;omega,by unfold Hid;rw [F.out,m.out],by unfold Hid;rw [eH,z.out,List.all_append,g.out];simp [j.out],f.trans p⟩
    case measure=>simp [intOf];omega
  ·obtain rfl:k=n:=oM;go_wp2;go_ret;exact⟨zG (by have:=t.out;have r:=m.out;have C:=g.out;rw [this,fI] at r C;unfold zbd zA;rw [decide_eq_true oM,decide_eq_true oM,C,r];rfl),f⟩
theorem zcK (h:zda w lo hi A n ss) :
  Calls Tryz.prog 104 #[.slice A n c] w fun e w'=>e=.returned (.int .i64 (zbd ss))∧Ext w w':=by
 have O:=h.len;have H:=za h.1;have m:=za (fun W (hW:Ext w W)=>h.ext hW);clear h;cases hp:zA ss
 ·have p:=za hp;have z:=za (show zbd ss = -1 by unfold zbd;rw [hp];rfl);clear hp
  go_enter Tryz.func104,Tryz.ntmps104
  go_wp2_with (go_at_call 94;refine (zaB (m.out _ (dB _))).mono ?_;rw [p.out];rintro e J ⟨rfl,f⟩)
  go_ret;exact⟨zG (by rw [z.out]),f⟩
 ·have p:=za hp;have z:=za (show zbd ss=(zE ss:Int) by unfold zbd;rw [hp];rfl);have I:=za (show ∀ s∈ss,zl s=true by
   unfold zA at hp;simp only [eG,fF] at hp;exact hp.2.2)
  clear hp
  go_enter Tryz.func104,Tryz.ntmps104
  go_wp2_with (go_at_call 94;refine (zaB (m.out _ (dB _))).mono ?_;rw [p.out];rintro e J ⟨rfl,f⟩)
  go_loopw [3,5,11] (fun v _ i wr=>∃ k u:Nat,k<=n∧i=.int .i64 k∧v=.int .i64 u∧u<=63∧Hid (u=zE (ss.take k))∧Ext w wr) (fun _ _ i _=>n - (intOf i).toNat)
  case atStart=>exact⟨0,0,eD _,rfl,rfl,oM,rfl,f⟩
  case round =>
   clear f;obtain⟨k,u,hk,rfl,rfl,R,g,f⟩:=hrel
   by_cases hlt:k<n
   ·obtain⟨b,o,s,B,q,d,rfl,_,_,E,G,L,M,_⟩:=(m.out wr f).sys hlt;obtain⟨r,t⟩:=zF (I.out s (eB E.out));obtain⟨al,j⟩:∃ al:Nat,Hid (s.al=al):=⟨s.al.toNat,by unfold Hid;omega⟩;rw [j.out] at G r t;have F:=za (show zE (ss.take (k+1))=u|||al by rw [zcG E.out,j.out,fC,g.out]);have D:=za (zaV (a:=u) (b:=al) tM tM);have l:u|||al<=63:=by have:=e9 (n:=6) (x:=u) (y:=al) oM oM;omega
    have Q:=D.out;clear g;go_wp2_with fail
    go_roundw
    case rel=>exact⟨k+1,u|||al,oM,gM,by first|rfl|rw [D.out],l,F.out.symm,by first|exact f.alloc _|exact (f.alloc _).drew⟩
    case measure=>simp [intOf];omega
   ·obtain rfl:n=k:=oM;have C:=za (show zbd ss=(u:Int) by rw [z.out,g.out,eE (oH H.out)]);go_wp2;go_ret;exact⟨zG (by rw [C.out]),f⟩
theorem yV05d1 {P:Prop}(h:P:=by
 have Kh10:=h10.cell 0;have Zh10:=h10.frozen 0;refine zb fun K hK=>?_;go_simp;have hx2:=hx0.frm (Frm.setCell w23 g10 0 (.slice UA a.next.length uc)) (fun k hk e=>oH hGh10);have hA2:=hA.set h10 dM (.slice UA a.next.length uc);have hP2:=hP.set h10 dM (.slice UA a.next.length uc);have h102:Blk (w23.setCell g10 (.slice UA a.next.length uc)) g10 177 #[.slice UA a.next.length uc]:=by simpa using h10.ab 0 (.slice UA a.next.length uc)
 have h112:=h11.far (p:=⟨g10,0,none⟩) (by first|exact hne|exact hne.symm) (.slice UA a.next.length uc)
 refine hK.out _ _ ?_;refine pT ?_;clear hA hP h10 h11 Kh10 Zh10 hx0;generalize w23.setCell g10 (.slice UA a.next.length uc)=w24 at *;have hA:=hA2;have hP:=hP2;have h10:=h102;have h11:=h112;have hx0:=hx2;clear hA2 hP2 h102 h112 hx2;have Kh11:=h11.cell 0;have Zh11:=h11.frozen 0;refine zb fun K hK=>?_;go_simp;have hx2:=hx0.frm (Frm.setCell w24 g11 0 (.slice RA p.next.length rc)) (fun k hk e=>oH hGh11);have hA2:=hA.set h11 dM (.slice RA p.next.length rc);have hP2:=hP.set h11 dM (.slice RA p.next.length rc);have h112:Blk (w24.setCell g11 (.slice RA p.next.length rc)) g11 177 #[.slice RA p.next.length rc]:=by simpa using h11.ab 0 (.slice RA p.next.length rc)
 have h102:=h10.far (p:=⟨g11,0,none⟩) (by first|exact hne|exact hne.symm) (.slice RA p.next.length rc)
 refine hK.out _ _ ?_;refine pT ?_;clear hA hP h10 h11 Kh11 Zh11 hx0;generalize w24.setCell g11 (.slice RA p.next.length rc)=w25 at *;have hA:=hA2;have hP:=hP2;have h10:=h102;have h11:=h112;have hx0:=hx2;clear hA2 hP2 h102 h112 hx2;refine zf ?_;go_wp2_with fail
 go_meet;exact⟨g10,g11,UA,RA,uc,rc,rfl,rfl,hx0,h10,h11,hA,hP⟩
 ):P:=h
theorem yV05c1 {P:Prop}(h:P:=by
 refine zb fun K hK=>?_;go_simp;refine (hTP.out _ hx0).mono ?_;rintro e w23 ⟨RA,rc,rfl,hP,hx1⟩;replace hx0:=hx0.trans hx1;replace h10:=h10.ext hx1;replace h11:=h11.ext hx1;replace hA:=hA.ext hx1;clear hx1;refine hK.out _ _ ?_;refine pT ?_;exact yV05d1
 ):P:=h
theorem yV05b1 {P:Prop}(h:P:=by
 refine ze fun K hK=>?_;go_simp;refine (hTA.out _ hx0).mono ?_;rintro e w22 ⟨UA,uc,rfl,hA,hx1⟩;replace hx0:=hx0.trans hx1;replace h10:=h10.ext hx1;replace h11:=h11.ext hx1;clear hx1;refine hK.out _ _ hx0 ?_;refine pT ?_;exact yV05c1
 ):P:=h
theorem yV05c2 {P:Prop}(h:P:=by
 exact yV05d1
 ):P:=h
theorem yV05b3 {P:Prop}(h:P:=by
 refine ze fun K hK=>?_;go_simp;have hne:=Nat.ne_of_lt h11.lt;have hGh10:=hx0.size;have hx1:=(Ext.refl w22).alloc (.cells #[()] 177);replace hx0:=hx0.trans hx1;replace h11:=h11.ext hx1;replace hA:=hA.ext hx1;replace hP:=hP.ext hx1;clear hx1;refine hK.out _ _ hx0 ?_;refine pT ?_;generalize U0:w22.alloc _=w23 at *;have h10:=Ext.bl_ U0;clear U0;generalize w22.heap.size=g10 at *;exact yV05c2
 ):P:=h
theorem yV05b4 {P:Prop}(h:P:=by
 exact yV05c1
 ):P:=h
def zbv (a p:Aut) (x:Nat):Bool:=zck a (x / p.next.length % a.next.length)&&!zck p (x % p.next.length)
theorem yV05a1 {P:Prop}(h:P:=by
 refine zn (fun K hK=>?_) (fun K hK=>?_)
 ·go_simp;refine (hTA.out _ hx0).mono ?_;rintro e w21 ⟨UA,uc,rfl,hA,hx1⟩;replace hx0:=hx0.trans hx1;replace h11:=h11.ext hx1;clear hx1;refine hK.out _ _ hx0 ?_;refine pT ?_;refine zn (fun K hK=>?_) (fun K hK=>?_)
  ·go_simp;refine (hTP.out _ hx0).mono ?_;rintro e w22 ⟨RA,rc,rfl,hP,hx1⟩;replace hx0:=hx0.trans hx1;replace h11:=h11.ext hx1;replace hA:=hA.ext hx1;clear hx1;refine hK.out _ _ hx0 ?_;refine pT ?_;exact yV05b3
  ·go_simp;have hne:=Nat.ne_of_lt h11.lt;have hGh10:=hx0.size;have hx1:=(Ext.refl w21).alloc (.cells #[()] 177);replace hx0:=hx0.trans hx1;replace h11:=h11.ext hx1;replace hA:=hA.ext hx1;clear hx1;refine hK.out _ _ hx0 ?_;refine pT ?_;generalize U0:w21.alloc _=w22 at *;have h10:=Ext.bl_ U0;clear U0;generalize w21.heap.size=g10 at *;exact yV05b4
 ·go_simp;have hne:=Nat.ne_of_lt h11.lt;have hGh10:=hx0.size;have hx1:=(Ext.refl w20).alloc (.cells #[()] 177);replace hx0:=hx0.trans hx1;replace h11:=h11.ext hx1;clear hx1;refine hK.out _ _ hx0 ?_;refine pT ?_;generalize U0:w20.alloc _=w21 at *;have h10:=Ext.bl_ U0;clear U0;generalize w20.heap.size=g10 at *;exact yV05b1
 ):P:=h
theorem yV05b2 {P:Prop}(h:P:=by
 refine ze fun K hK=>?_;go_simp;have hne:=Nat.ne_of_lt h10.lt;have hGh11:=hx0.size;have hx1:=(Ext.refl w22).alloc (.cells #[()] 177);replace hx0:=hx0.trans hx1;replace h10:=h10.ext hx1;replace hA:=hA.ext hx1;replace hP:=hP.ext hx1;clear hx1;refine hK.out _ _ hx0 ?_;refine pT ?_;generalize U0:w22.alloc _=w23 at *;have h11:=Ext.bl_ U0;clear U0;generalize w22.heap.size=g11 at *;exact yV05c2
 ):P:=h
theorem yV05a2 {P:Prop}(h:P:=by
 refine zn (fun K hK=>?_) (fun K hK=>?_)
 ·go_simp;refine (hTA.out _ hx0).mono ?_;rintro e w21 ⟨UA,uc,rfl,hA,hx1⟩;replace hx0:=hx0.trans hx1;replace h10:=h10.ext hx1;clear hx1;refine hK.out _ _ hx0 ?_;refine pT ?_;refine zn (fun K hK=>?_) (fun K hK=>?_)
  ·go_simp;refine (hTP.out _ hx0).mono ?_;rintro e w22 ⟨RA,rc,rfl,hP,hx1⟩;replace hx0:=hx0.trans hx1;replace h10:=h10.ext hx1;replace hA:=hA.ext hx1;clear hx1;refine hK.out _ _ hx0 ?_;refine pT ?_;exact yV05b2
  ·go_simp;have hne:=Nat.ne_of_lt h10.lt;have hGh11:=hx0.size;have hx1:=(Ext.refl w21).alloc (.cells #[()] 177);replace hx0:=hx0.trans hx1;replace h10:=h10.ext hx1;replace hA:=hA.ext hx1;clear hx1;refine hK.out _ _ hx0 ?_;refine pT ?_;generalize U0:w21.alloc _=w22 at *;have h11:=Ext.bl_ U0;clear U0;generalize w21.heap.size=g11 at *;exact yV05b4
 ·go_simp;have hne:=Nat.ne_of_lt h10.lt;have hGh11:=hx0.size;have hx1:=(Ext.refl w20).alloc (.cells #[()] 177);replace hx0:=hx0.trans hx1;replace h10:=h10.ext hx1;clear hx1;refine hK.out _ _ hx0 ?_;refine pT ?_;generalize U0:w20.alloc _=w21 at *;have h11:=Ext.bl_ U0;clear U0;generalize w20.heap.size=g11 at *;exact yV05b1
 ):P:=h
theorem yV05c3 {P:Prop}(h:P:=by
 refine zb fun K hK=>?_;go_simp;refine (key.out _ hx0 _ _ _ _ _ hI hIL).mono ?_;rintro e w23 ⟨hx1,hcase⟩;have hx2:=hw9.trans (hx0.trans hx1);rcases hcase with ⟨v,rfl,hF⟩|⟨rfl,hF⟩
 ·have hres:=za (show zK w (zbJ ss a p) [0] (zbv a p) (letters (U|||al) 6) _ w23 from ⟨hx2,Or.inl ⟨v,rfl,hF⟩⟩);refine hK.out _ _ ?_;refine pT ?_;refine uQ ?_;refine zf ?_;go_wp2_with fail
  go_ret2;exact hres.out
 ·have hres:=za (show zK w (zbJ ss a p) [0] (zbv a p) (letters (U|||al) 6) _ w23 from ⟨hx2,Or.inr ⟨rfl,hF⟩⟩);refine hK.out _ _ ?_;refine pT ?_;refine uQ ?_;refine zf ?_;go_wp2_with fail
  go_ret2;exact hres.out
 ):P:=h
theorem yV05b6 {P:Prop}(h:P:=by
 exact yV05c3
 ):P:=h
theorem yV05a3 {P:Prop}(h:P:=by
 refine hK.out _ _ hx0 ?_;refine pT ?_;refine uQ ?_;refine zn (fun K hK=>?_) (fun K hK=>?_)
 ·go_simp;have hI:=zcO (x:=0) (Blk.new w20 3 #[.int .i64 ((0:Nat):Int)]);have hx1:=(Ext.refl w20).alloc (.cells #[.int .i64 ((0:Nat):Int)] 3);replace hx0:=hx0.trans hx1;clear hx1;refine hK.out _ _ hx0 ?_;refine pT ?_;generalize w20.alloc _=w21 at *;generalize w20.heap.size=g1 at *;refine ze fun K hK=>?_;go_simp;refine (hLT.out w21).mono ?_;rintro e w22 ⟨AL,cL,rfl,hownL,hx1⟩;have hIL:=zaf.own hownL;clear hownL;replace hx0:=hx0.trans hx1;replace hI:=hI.ext hx1;clear hx1;refine hK.out _ _ hx0 ?_;refine pT ?_;exact yV05b6
 ·go_simp;refine (hLT.out w20).mono ?_;rintro e w21 ⟨AL,cL,rfl,hownL,hx1⟩;have hIL:=zaf.own hownL;clear hownL;replace hx0:=hx0.trans hx1;clear hx1;refine hK.out _ _ hx0 ?_;refine pT ?_;refine ze fun K hK=>?_;go_simp;have hI:=zcO (x:=0) (Blk.new w21 3 #[.int .i64 ((0:Nat):Int)]);have hx1:=(Ext.refl w21).alloc (.cells #[.int .i64 ((0:Nat):Int)] 3);replace hx0:=hx0.trans hx1;replace hIL:=hIL.ext hx1;clear hx1;refine hK.out _ _ hx0 ?_;refine pT ?_;generalize w21.alloc _=w22 at *;generalize w21.heap.size=g1 at *;exact yV05b6
 ):P:=h
theorem yV05a4 {P:Prop}(h:P:=by
 refine ze fun K hK=>?_;go_simp;refine hK.out _ _ hx0 ?_;refine pT ?_;refine uQ ?_;exact yV05b1
 ):P:=h
theorem yV05a5 {P:Prop}(h:P:=by
 exact yV05b2
 ):P:=h
theorem yV05a6 {P:Prop}(h:P:=by
 exact yV05b3
 ):P:=h
theorem yV05a7 {P:Prop}(h:P:=by
 exact yV05b4
 ):P:=h
theorem yV05a8 {P:Prop}(h:P:=by
 have Kh12:=h12.cell 0;have Zh12:=h12.frozen 0;refine ze fun K hK=>?_;go_simp;have hx2:=hx0.frm (Frm.setCell w21 g12 0 (.int .i64 (a.next.length:Nat))) (fun k hk e=>oH hGh12);have h122:Blk (w21.setCell g12 (.int .i64 (a.next.length:Nat))) g12 3 #[.int .i64 (a.next.length:Nat)]:=by simpa using h12.ab 0 (.int .i64 (a.next.length:Nat))
 have h132:=h13.far (p:=⟨g12,0,none⟩) (by first|exact hne|exact hne.symm) (.int .i64 (a.next.length:Nat))
 refine hK.out _ _ hx2 ?_;refine pT ?_;clear h12 h13 Kh12 Zh12 hx0;generalize w21.setCell g12 (.int .i64 (a.next.length:Nat))=w22 at *;have h12:=h122;have h13:=h132;have hx0:=hx2;clear h122 h132 hx2;have Kh13:=h13.cell 0;have Zh13:=h13.frozen 0;refine zb fun K hK=>?_;go_simp;have hx2:=hx0.frm (Frm.setCell w22 g13 0 (.int .i64 (p.next.length:Nat))) (fun k hk e=>oH hGh13);have h132:Blk (w22.setCell g13 (.int .i64 (p.next.length:Nat))) g13 3 #[.int .i64 (p.next.length:Nat)]:=by simpa using h13.ab 0 (.int .i64 (p.next.length:Nat))
 have h122:=h12.far (p:=⟨g13,0,none⟩) (by first|exact hne|exact hne.symm) (.int .i64 (p.next.length:Nat))
 refine hK.out _ _ ?_;refine pT ?_;clear h12 h13 Kh13 Zh13 hx0;generalize w22.setCell g13 (.int .i64 (p.next.length:Nat))=w23 at *;have h12:=h122;have h13:=h132;have hx0:=hx2;clear h122 h132 hx2;refine zf ?_;go_wp2_with fail
 go_meet;exact⟨g12,g13,rfl,rfl,hx0,h12,h13⟩
 ):P:=h
theorem yV05b5 {P:Prop}(h:P:=by
 refine hK.out _ _ hx0 ?_;refine pT ?_;refine uQ ?_;refine ze fun K hK=>?_;go_simp;refine (hLT.out w21).mono ?_;rintro e w22 ⟨AL,cL,rfl,hownL,hx1⟩;have hIL:=zaf.own hownL;clear hownL;replace hx0:=hx0.trans hx1;replace hI:=hI.ext hx1;clear hx1;refine hK.out _ _ hx0 ?_;refine pT ?_;exact yV05c3
 ):P:=h
theorem yV05a9 {P:Prop}(h:P:=by
 refine ze fun K hK=>?_;go_simp;refine (hSZ.out _ hx0).mono (mQ fun w21 hx1=>?_);replace hx0:=hx0.trans hx1;replace hI:=hI.ext hx1;clear hx1;exact yV05b5
 ):P:=h
theorem yV05a10 {P:Prop}(h:P:=by
 refine ze fun K hK=>?_;go_simp;exact yV05b5
 ):P:=h
theorem zgf {ga:Nat}    {m1 d1:Nat} {B':Option Addr} {m1' d1' lo1 hi1:Nat} {C:Option Addr} {m2 d2:Nat} {C':Option Addr} {m2' d2' lo2 hi2:Nat}  
  (h:zda w lo hi A k ss) (hap:zA ss=true) (hT:Tab w) (hga:Blk w ga 31 #[a.al,.slice B m1 d1,.slice B' m1' d1']) (hA0:zC w lo1 hi1 B m1 B' m1' a) (hv:zj a=true) (hP0:zC w lo2 hi2 C m2 C' m2' p) (hp:zj p=true) :
  Calls Tryz.prog 102 #[.slice A k c,.pointer (some ga),.agg #[p.al,.slice C m2 d2,.slice C' m2' d2']] w (zK w (zbJ ss a p) [0] (zbv a p) (letters (zE ss|||a.al.toNat) 6)):=by
 have I:∀ s∈ss,zl s=true:=by
  unfold zA at hap;simp only [eG,fF] at hap;exact hap.2.2
 have aw:k<=3:=by
  unfold zA at hap;simp only [eG,decide_eq_true_eq] at hap;have:=h.1;omega
 have t:=za (fun (s:Sys) (hs:s∈ss)=>zbV (I s hs));have av:=za (fun (s:Sys) (hs:s∈ss)=>show Few 16 s.edges from by
  obtain⟨q,_,_,hq,hf⟩:=zeg (I s hs);exact fun e he=>by have:=hf e he;omega)
 have hU:zE ss<=63:=by
  have key:∀ l:List Sys,(∀ s∈l,zl s=true)->zE l<=63:=by
   intro l hl;have:∀ n,zE (l.take n)<=63:=by
    intro n
    induction n with
    |zero=>simp [zE]
    |succ n ih =>
     rcases Nat.lt_or_ge n l.length with O|O
     ·rw [zcG (dC O)];have:=zF (hl _ (List.getElem_mem O));have:=e9 (n:=6) (x:=zE (l.take n)) (y:=l[n].al.toNat) oM oM;omega
     ·rw [eE oM];rw [eE O] at ih;exact ih
   have h2:=this l.length;rwa [fI] at h2
  exact key ss I
 have aF:=(zk hv).1;obtain⟨al,E⟩:∃ al:Nat,Hid (a.al=al):=⟨a.al.toNat,by unfold Hid;omega⟩;have a1:al<=63:=oH E.out;have aI:=za (show zbd ss=(zE ss:Int) by unfold zbd;rw [hap];rfl);have ar:=za (show a.al.toNat=al by have:=E.out;omega);have a2:=za (show 0<=p.al∧p.al<=63 from (zk hp).1);rw [ar.out];have HS:=za (fun W (hW:Ext w W)=>h.ext hW);have HT:=za (fun W (hW:Ext w W)=>hT.ext hW);have HA:=za (fun W (hW:Ext w W)=>hA0.ext hW);have HP:=za (fun W (hW:Ext w W)=>hP0.ext hW);have af:=za (fun W (hW:Ext w W)=>hga.ext hW);have Hv:=za hv;have Hp:=za hp;generalize hUe:zE ss=U at *;have HU:=za hUe;clear hUe h hT hA0 hP0 hga hv hp hap I aF
 go_enter Tryz.func102,Tryz.ntmps102
 go_upto_region 1 with fail
 generalize U0:(w.alloc _).alloc _=w2 at *;obtain⟨F,b4,b5⟩:=Ext.x2_ U0;clear U0;go_upto_region 2 with (go_at_call 178;refine (zfg (HS.out _ F) av.out oM).mono ?_;rintro e w3 ⟨M,dm,rfl,ax,Z⟩)
 have aN:=F.trans Z;have b8:=eX w3 204 #[.slice A k c,.slice M k dm];have L:=Z.alloc (.cells #[.slice A k c,.slice M k dm] 204);have Q:=ax.ext ((dB w3).alloc (.cells #[.slice A k c,.slice M k dm] 204));generalize hg8:w3.heap.size=g8 at *;clear ax hg8;generalize w3.alloc _=w4 at *;have Y:=F.trans L;clear aN Z;go_upto_region 3 with (go_at_call 104;refine (zcK (HS.out _ Y)).mono ?_;rw [aI.out];rintro e o ⟨rfl,u⟩)
 have T:=b4.ext (L.trans u);have ag:=b5.ext (L.trans u);have ah:=b8.ext u;have R:=Q.ext u;have J:=Y.trans u;have k4:=T.cell 0;clear L u b4 b5 b8 Q F Y;go_upto_region 5 with fail
 clear k4;have ai:=za (fun W (hW:Ext o W)=>T.ext hW);have aj:=za (fun W (hW:Ext o W)=>ag.ext hW);have aC:=za (fun W (hW:Ext o W)=>ah.ext hW);have ao:=za (fun W (hW:Ext o W)=>R.ext hW);clear T ag ah R;have v:=za (fun W (hW:Ext o W)=>af.out W (J.trans hW));have ae:=za (fun W (hW:Ext o W)=>HA.out W (J.trans hW));clear af HA
 go_cut [10,11] (fun v10 v11 wx=>∃ (g10 g11:Nat) (UA RA:Option Addr) (uc rc:Nat),v10=.pointer (some g10)∧v11=.pointer (some g11)∧Ext o wx∧Blk wx g10 177 #[.slice UA a.next.length uc]∧Blk wx g11 177 #[.slice RA p.next.length rc]∧TbO wx UA uc a∧TbO wx RA rc p)
 case first =>
  have c4:∀ W,Ext o W->W.cell? w.heap.size=some (.pointer (some ga)):=fun W hW=>by rw [(ai.out W hW).cell];rfl
  have ca:∀ W,Ext o W->∀ j,W.cell? ⟨ga,j,none⟩=#[Value.int .i64 a.al,.slice B m1 d1,.slice B' m1' d1'][j]?:=fun W hW=>(v.out W hW).cell;have c5:∀ W,Ext o W->∀ j,W.cell? ⟨w.heap.size+1,j,none⟩=#[Value.int .i64 p.al,.slice C m2 d2,.slice C' m2' d2'][j]?:=fun W hW=>(aj.out W hW).cell;have hTA:=za (fun W (hW:Ext o W)=>zcM (d:=d1) (d':=d1') (ae.out W hW) Hv.out);have hTP:=za (fun W (hW:Ext o W)=>zcM (d:=d2) (d':=d2') (HP.out W (J.trans hW)) Hp.out);have G:=dB o;refine uR (fun X=>Ext o X) [5,8,9] (zu.app [0,4] (zu.three 1 (zu.app [2] (zu.three 3 (zu.three 5 (zu.two 6 (zu.of [7,8,9]) 7 (zu.of [6,8,9])) 6 (zu.two 5 (zu.of [7,8,9]) 7 (zu.of [5,8,9])) 7 (zu.two 5 (zu.of [6,8,9]) 6 (zu.of [5,8,9]))) 6 (zu.two 3 (zu.two 5 (zu.of [7,8,9]) 7 (zu.of [5,8,9])) 7 (zu.of [3,5,8,9])) 7 (zu.two 3 (zu.two 5 (zu.of [6,8,9]) 6 (zu.of [5,8,9])) 6 (zu.of [3,5,8,9])))) 6 (zu.two 1 (zu.app [2] (zu.two 3 (zu.two 5 (zu.of [7,8,9]) 7 (zu.of [5,8,9])) 7 (zu.of [3,5,8,9]))) 7 (zu.of [1,2,3,5,8,9])) 7 (zu.two 1 (zu.app [2] (zu.two 3 (zu.two 5 (zu.of [6,8,9]) 6 (zu.of [5,8,9])) 6 (zu.of [3,5,8,9]))) 6 (zu.of [1,2,3,5,8,9])))) ?_;refine uQ ?_;have hx0:Ext o o.drew:=G.drew;generalize o.drew=f at *;refine uQ ?_;refine zaz (fun K hK=>?_) (fun K hK=>?_) (fun K hK=>?_)
  ·go_simp;refine hK.out _ _ hx0 ?_;refine pT ?_;refine uQ ?_;refine zaz (fun K hK=>?_) (fun K hK=>?_) (fun K hK=>?_)
   ·go_simp;refine (hTA.out _ hx0).mono ?_;rintro e w20 ⟨UA,uc,rfl,hA,hx1⟩;replace hx0:=hx0.trans hx1;clear hx1;refine hK.out _ _ hx0 ?_;refine pT ?_;refine zaz (fun K hK=>?_) (fun K hK=>?_) (fun K hK=>?_)
    ·go_simp;refine (hTP.out _ hx0).mono ?_;rintro e w21 ⟨RA,rc,rfl,hP,hx1⟩;replace hx0:=hx0.trans hx1;replace hA:=hA.ext hx1;clear hx1;refine hK.out _ _ hx0 ?_;refine pT ?_;refine zn (fun K hK=>?_) (fun K hK=>?_)
     ·go_simp;have hGh10:=hx0.size;have hx1:=(dB w21).alloc (.cells #[()] 177);replace hx0:=hx0.trans hx1;replace hA:=hA.ext hx1;replace hP:=hP.ext hx1;clear hx1;refine hK.out _ _ hx0 ?_;refine pT ?_;generalize U0:w21.alloc _=w22 at *;have h10:=eR U0;clear U0;generalize w21.heap.size=g10 at *;exact yV05a5
     ·go_simp;have hGh11:=hx0.size;have hx1:=(dB w21).alloc (.cells #[()] 177);replace hx0:=hx0.trans hx1;replace hA:=hA.ext hx1;replace hP:=hP.ext hx1;clear hx1;refine hK.out _ _ hx0 ?_;refine pT ?_;generalize U0:w21.alloc _=w22 at *;have h11:=eR U0;clear U0;generalize w21.heap.size=g11 at *;exact yV05a6
    ·go_simp;have hGh10:=hx0.size;have hx1:=(dB w20).alloc (.cells #[()] 177);replace hx0:=hx0.trans hx1;replace hA:=hA.ext hx1;clear hx1;refine hK.out _ _ hx0 ?_;refine pT ?_;generalize U0:w20.alloc _=w21 at *;have h10:=eR U0;clear U0;generalize w20.heap.size=g10 at *;refine zn (fun K hK=>?_) (fun K hK=>?_)
     ·go_simp;refine (hTP.out _ hx0).mono ?_;rintro e w22 ⟨RA,rc,rfl,hP,hx1⟩;replace hx0:=hx0.trans hx1;replace h10:=h10.ext hx1;replace hA:=hA.ext hx1;clear hx1;refine hK.out _ _ hx0 ?_;refine pT ?_;exact yV05a5
     ·go_simp;have hne:=fU h10.lt;have hGh11:=hx0.size;have hx1:=(dB w21).alloc (.cells #[()] 177);replace hx0:=hx0.trans hx1;replace h10:=h10.ext hx1;replace hA:=hA.ext hx1;clear hx1;refine hK.out _ _ hx0 ?_;refine pT ?_;generalize U0:w21.alloc _=w22 at *;have h11:=eR U0;clear U0;generalize w21.heap.size=g11 at *;exact yV05a7
    ·go_simp;have hGh11:=hx0.size;have hx1:=(dB w20).alloc (.cells #[()] 177);replace hx0:=hx0.trans hx1;replace hA:=hA.ext hx1;clear hx1;refine hK.out _ _ hx0 ?_;refine pT ?_;generalize U0:w20.alloc _=w21 at *;have h11:=eR U0;clear U0;generalize w20.heap.size=g11 at *;refine zn (fun K hK=>?_) (fun K hK=>?_)
     ·go_simp;refine (hTP.out _ hx0).mono ?_;rintro e w22 ⟨RA,rc,rfl,hP,hx1⟩;replace hx0:=hx0.trans hx1;replace h11:=h11.ext hx1;replace hA:=hA.ext hx1;clear hx1;refine hK.out _ _ hx0 ?_;refine pT ?_;exact yV05a6
     ·go_simp;have hne:=fU h11.lt;have hGh10:=hx0.size;have hx1:=(dB w21).alloc (.cells #[()] 177);replace hx0:=hx0.trans hx1;replace h11:=h11.ext hx1;replace hA:=hA.ext hx1;clear hx1;refine hK.out _ _ hx0 ?_;refine pT ?_;generalize U0:w21.alloc _=w22 at *;have h10:=eR U0;clear U0;generalize w21.heap.size=g10 at *;exact yV05a7
   ·go_simp;have hGh10:=hx0.size;have hx1:=(dB f).alloc (.cells #[()] 177);replace hx0:=hx0.trans hx1;clear hx1;refine hK.out _ _ hx0 ?_;refine pT ?_;generalize U0:f.alloc _=w20 at *;have h10:=eR U0;clear U0;generalize f.heap.size=g10 at *;exact yV05a2
   ·go_simp;have hGh11:=hx0.size;have hx1:=(dB f).alloc (.cells #[()] 177);replace hx0:=hx0.trans hx1;clear hx1;refine hK.out _ _ hx0 ?_;refine pT ?_;generalize U0:f.alloc _=w20 at *;have h11:=eR U0;clear U0;generalize f.heap.size=g11 at *;exact yV05a1
  ·go_simp;have hGh10:=hx0.size;have hx1:=(dB f).alloc (.cells #[()] 177);replace hx0:=hx0.trans hx1;clear hx1;refine hK.out _ _ hx0 ?_;refine pT ?_;generalize U0:f.alloc _=w20 at *;have h10:=eR U0;clear U0;generalize f.heap.size=g10 at *;refine zn (fun K hK=>?_) (fun K hK=>?_)
   ·go_simp;refine hK.out _ _ hx0 ?_;refine pT ?_;refine uQ ?_;exact yV05a2
   ·go_simp;have hne:=fU h10.lt;have hGh11:=hx0.size;have hx1:=(dB w20).alloc (.cells #[()] 177);replace hx0:=hx0.trans hx1;replace h10:=h10.ext hx1;clear hx1;refine hK.out _ _ hx0 ?_;refine pT ?_;generalize U0:w20.alloc _=w21 at *;have h11:=eR U0;clear U0;generalize w20.heap.size=g11 at *;exact yV05a4
  ·go_simp;have hGh11:=hx0.size;have hx1:=(dB f).alloc (.cells #[()] 177);replace hx0:=hx0.trans hx1;clear hx1;refine hK.out _ _ hx0 ?_;refine pT ?_;generalize U0:f.alloc _=w20 at *;have h11:=eR U0;clear U0;generalize f.heap.size=g11 at *;refine zn (fun K hK=>?_) (fun K hK=>?_)
   ·go_simp;refine hK.out _ _ hx0 ?_;refine pT ?_;refine uQ ?_;exact yV05a1
   ·go_simp;have hne:=fU h11.lt;have hGh10:=hx0.size;have hx1:=(dB w20).alloc (.cells #[()] 177);replace hx0:=hx0.trans hx1;replace h11:=h11.ext hx1;clear hx1;refine hK.out _ _ hx0 ?_;refine pT ?_;generalize U0:w20.alloc _=w21 at *;have h10:=eR U0;clear U0;generalize w20.heap.size=g10 at *;exact yV05a4
 case rest =>
  obtain⟨g10,g11,UA,RA,uc,rc,rfl,rfl,i,h10,h11,hA,hP⟩:=hcut;have am:=za (fun W (hW:Ext wc W)=>h10.ext hW);have an:=za (fun W (hW:Ext wc W)=>h11.ext hW);have aO:=J.trans i;go_upto_region 6 with fail
  go_cut [12,13] (fun v12 v13 wx=>∃ (g12 g13:Nat),v12=.pointer (some g12)∧v13=.pointer (some g13)∧Ext wc wx∧Blk wx g12 3 #[.int .i64 (a.next.length:Nat)]∧Blk wx g13 3 #[.int .i64 (p.next.length:Nat)])
  case first =>
   have a6:∀ W,Ext wc W->W.cell? g10=some (.slice UA a.next.length uc):=fun W hW=>by rw [(am.out W hW).cell];rfl
   have a7:∀ W,Ext wc W->W.cell? g11=some (.slice RA p.next.length rc):=fun W hW=>by rw [(an.out W hW).cell];rfl
   have G:=dB wc;clear h10 h11 hA hP;refine uR (fun X=>Ext wc X) [7] (zu.app [0,1,2,3] (zu.two 4 (zu.of [5,6,7]) 5 (zu.of [4,6,7]))) ?_;refine uQ ?_;have hx0:Ext wc wc.drew:=G.drew;generalize wc.drew=f at *;refine uQ ?_;refine zn (fun K hK=>?_) (fun K hK=>?_)
   ·go_simp;have hGh12:=hx0.size;have hx1:=(dB f).alloc (.cells #[(0:Int)] 3);replace hx0:=hx0.trans hx1;clear hx1;refine hK.out _ _ hx0 ?_;refine pT ?_;generalize U0:f.alloc _=w20 at *;have h12:=eR U0;clear U0;generalize f.heap.size=g12 at *;refine ze fun K hK=>?_;go_simp;have hne:=fU h12.lt;have hGh13:=hx0.size;have hx1:=(dB w20).alloc (.cells #[(0:Int)] 3);replace hx0:=hx0.trans hx1;replace h12:=h12.ext hx1;clear hx1;refine hK.out _ _ hx0 ?_;refine pT ?_;generalize U0:w20.alloc _=w21 at *;have h13:=eR U0;clear U0;generalize w20.heap.size=g13 at *;exact yV05a8
   ·go_simp;have hGh13:=hx0.size;have hx1:=(dB f).alloc (.cells #[(0:Int)] 3);replace hx0:=hx0.trans hx1;clear hx1;refine hK.out _ _ hx0 ?_;refine pT ?_;generalize U0:f.alloc _=w20 at *;have h13:=eR U0;clear U0;generalize f.heap.size=g13 at *;refine ze fun K hK=>?_;go_simp;have hne:=fU h13.lt;have hGh12:=hx0.size;have hx1:=(dB w20).alloc (.cells #[(0:Int)] 3);replace hx0:=hx0.trans hx1;replace h13:=h13.ext hx1;clear hx1;refine hK.out _ _ hx0 ?_;refine pT ?_;generalize U0:w20.alloc _=w21 at *;have h12:=eR U0;clear U0;generalize w20.heap.size=g12 at *;exact yV05a8
  case rest =>
   obtain⟨g12,g13,rfl,rfl,g,h12,h13⟩:=hcut;rename World=>w7
   have hw9:=aO.trans g;have hC:BCaps w7 g8 g10 g11 g12 g13 A M UA RA k c dm uc rc ss a p:=by
    obtain⟨aP,aG,aL⟩:=hA.at_;obtain⟨aQ,aH,aK⟩:=hP.at_;exact⟨aC.out _ (i.trans g),h10.ext g,h11.ext g,h12,h13,⟨_,_,_,_,ao.out _ (i.trans g)⟩,⟨aP,aG,aL.ext g⟩,⟨aQ,aH,aK.ext g⟩⟩
   have V:GCaps w7 w.heap.size ga (w.heap.size+1) g12 g13 a p:=⟨ai.out _ (i.trans g),⟨B,m1,d1,B',m1',d1',lo1,hi1,v.out _ (i.trans g),ae.out _ (i.trans g)⟩,⟨C,m2,d2,C',m2',d2',lo2,hi2,aj.out _ (i.trans g),HP.out _ hw9⟩,h12,h13⟩;obtain⟨N,hN⟩:∃ N:Nat,Hid (zD (zaW ss [a,p])=N):=⟨_,rfl⟩;obtain⟨⟨_,aT⟩,⟨_,aR⟩⟩:=And.intro (zk Hv.out).2.1 (zk Hp.out).2.1;obtain⟨⟨n1,_⟩,⟨aS,_⟩⟩:=And.intro (zk Hv.out).2.1 (zk Hp.out).2.1;obtain⟨S,hS⟩:∃ S:Nat,Hid (zD (ss.map zdv)=S):=⟨_,rfl⟩;have ap:1<=S∧S<=4096:=by
    rw [← hS.out];refine⟨zdA t.out,eJ (zcR t.out) ?_⟩;have:=(HS.out w (dB _)).1
    calc 16 ^ ss.length<=16 ^ 3:=eW oM oM
     _=4096:=dM
   have H:S*a.next.length*p.next.length=N:=by
    rw [← hN.out,← hS.out,show zaW ss [a,p]=ss.map zdv++[zbl a,zbl p] from rfl,zbD];simp [zD,zah,zbl,Nat.mul_assoc]
   have aq:S*a.next.length<=4096*12:=fX ap.2 aT;have a0:N<=4096*12*12:=by rw [← H];exact fX aq aR
   have bd:1<=N:=by rw [← H];exact Nat.mul_pos (Nat.mul_pos ap.1 n1) aS
   obtain⟨sn,ay⟩:∃ z:Nat,Hid (S*a.next.length=z):=⟨_,rfl⟩;rw [ay.out] at H aq;have a3:(S:Int)*(a.next.length:Int)=(sn:Int):=by rw [← ay.out];exact (gK S _).symm
   have be:(sn:Int)*(p.next.length:Int)=(N:Int):=by rw [← H];exact (gK sn _).symm
   have Hd:=za (show ∀ x l,x<N->l<6->∀ y∈zbJ ss a p x l,y<N from fun x l _ hl y hy=>by
    rw [zcI] at hy;rw [← hN.out];refine zhW (fun mm hmm=>?_) hl y hy;rcases List.mem_append.1 hmm with O|O
    ·obtain⟨s,aJ,rfl⟩:=List.mem_map.1 O;exact zdZ (t.out s aJ)
    ·obtain⟨b,au,rfl⟩:=List.mem_map.1 O;simp at au;rcases au with rfl|rfl
     ·exact zbm Hv.out
     ·exact zbm Hp.out)
   have aB:=za (show ∀ x l,(zbJ ss a p x l).length<=4096 from fun x l=>by
    unfold zbJ;rw [eQ];refine eJ (nx_len t.out _ l) ?_;have:=(HS.out w (dB _)).1
    calc 16 ^ ss.length<=16 ^ 3:=eW oM oM
     _=4096:=by decide)
   have r:=za (zfW (U|||al));have key:=za (fun W (hW:Ext w7 W) A1 c1 AL q' cL (hA1:zaf W A1 1 [0]) (hL:zaf W AL q' (letters (U|||al) 6))=>zfb (w:=W) (N:=N) (kn:=179) (kg:=181) (m:=1) (c:=c1) (cL:=cL)
    (capn:=#[.pointer (some g10),.pointer (some g13),.pointer (some g12),.pointer (some g11),.pointer (some g8)])
    (capg:=#[.pointer (some w.heap.size),.pointer (some g13),.pointer (some g12),.pointer (some ⟨w.heap.size+1,0,none⟩)])
    (goal:=zbv a p) (d:=zbJ ss a p) (D:=4096) hA1 (fun n hn=>by simp at hn;omega) oM hL r.out oM oM (fun args W=>kM) (fun args W=>kM)
    (fun W' hW' n hn=>brk_goal (V.ext (hW.trans hW')) Hv.out Hp.out oM)
    (fun n l hn hl=>⟨aB.out n l,Hd.out n l hn (r.out.1 l hl)⟩)
    (fun W' hW' n l hn hl base A m c xs hb0 hb hm zjc=>brk_next (hC.ext hW) (HT.out _ (hw9.trans hW)) hW' t.out aw Hv.out Hp.out (by rw [hN.out];exact hn) (r.out.1 l hl) hb0 hb hm zjc))
   have hSZ:=za (show ∀ W,Ext w7 W->Calls Tryz.prog 183 #[.agg #[.slice A k c,.slice M k dm]] W fun e w'=>e=.returned (.int .i64 (S:Nat))∧Ext W w' from fun W hW=>by
    have:=zhV (c:=c) (dm:=dm) (ao.out W ((i.trans g).trans hW)) t.out aw;rw [hS.out] at this;exact this)
   have hLT:=za (fun W=>zaa (U|||al) (by have:=e9 (n:=6) (x:=U) (y:=al) oM oM;unfold Sm;omega) W);have bg:bits .or .i64 (U:Int) (al:Int)=((U|||al:Nat):Int):=zaV tM tM;have c8:=fun W (hW:Ext w7 W)=>(hC.h8.ext hW).cell;have a8:∀ W,Ext w7 W->W.cell? g12=some (.int .i64 (a.next.length:Nat)):=fun W hW=>by rw [(hC.h12.ext hW).cell];rfl
   have a9:∀ W,Ext w7 W->W.cell? g13=some (.int .i64 (p.next.length:Nat)):=fun W hW=>by rw [(hC.h13.ext hW).cell];rfl
   have c4:∀ W,Ext w7 W->W.cell? w.heap.size=some (.pointer (some ga)):=fun W hW=>by rw [(V.h4.ext hW).cell];rfl
   have ca:∀ W,Ext w7 W->∀ j,W.cell? ⟨ga,j,none⟩=#[Value.int .i64 (al:Nat),.slice B m1 d1,.slice B' m1' d1'][j]?:=fun W hW=>by
    have:=(v.out W ((i.trans g).trans hW)).cell;rw [E.out] at this;exact this
   have bh:IntKind.i64.wrap (sn:Int)=(sn:Int):=zgm sn oM;have F:IntKind.i64.wrap (N:Int)=(N:Int):=zgm N oM;have G:=dB w7;clear hC V h10 h11 h12 h13 hA hP;go_upto_region 9 with fail
   refine uR (fun X=>Ext w7 X) [16] (zu.app [0,2,4,7,8,14,15] (zu.three 1 (zu.app [3,5] (zu.two 6 (zu.of [9,10,11,12,13,16,17,18,19,20]) 9 (zu.app [10,11,12] (zu.two 6 (zu.of [13,16,17,18,19,20]) 13 (zu.of [6,16,17,18,19,20]))))) 6 (zu.two 1 (zu.of [3,5,9,10,11,12,13,16,17,18,19,20]) 9 (zu.of [10,11,12,1,3,5,13,16,17,18,19,20])) 9 (zu.app [10,11,12] (zu.two 1 (zu.app [3,5] (zu.two 6 (zu.of [13,16,17,18,19,20]) 13 (zu.of [6,16,17,18,19,20]))) 6 (zu.of [1,3,5,13,16,17,18,19,20]))))) ?_;refine uQ ?_;have hx0:Ext w7 w7.drew:=G.drew;generalize w7.drew=f at *;refine uQ ?_;refine zaz (fun K hK=>?_) (fun K hK=>?_) (fun K hK=>?_)
   ·go_simp;refine (hSZ.out _ hx0).mono (mQ fun w20 hx1=>?_);replace hx0:=hx0.trans hx1;clear hx1;refine hK.out _ _ hx0 ?_;refine pT ?_;refine uQ ?_;refine zn (fun K hK=>?_) (fun K hK=>?_)
    ·go_simp;have hI:=zcO (x:=0) (eX w20 3 #[.int .i64 ((0:Nat):Int)]);have hx1:=(dB w20).alloc (.cells #[.int .i64 ((0:Nat):Int)] 3);replace hx0:=hx0.trans hx1;clear hx1;refine hK.out _ _ hx0 ?_;refine pT ?_;generalize w20.alloc _=w21 at *;generalize w20.heap.size=g1 at *;exact yV05a10
    ·go_simp;exact yV05a3
   ·go_simp;have hI:=zcO (x:=0) (eX f 3 #[.int .i64 ((0:Nat):Int)]);have hx1:=(dB f).alloc (.cells #[.int .i64 ((0:Nat):Int)] 3);replace hx0:=hx0.trans hx1;clear hx1;refine hK.out _ _ hx0 ?_;refine pT ?_;generalize f.alloc _=w20 at *;generalize f.heap.size=g1 at *;refine zn (fun K hK=>?_) (fun K hK=>?_)
    ·go_simp;refine (hSZ.out _ hx0).mono (mQ fun w21 hx1=>?_);replace hx0:=hx0.trans hx1;replace hI:=hI.ext hx1;clear hx1;refine hK.out _ _ hx0 ?_;refine pT ?_;refine uQ ?_;exact yV05a10
    ·go_simp;refine hK.out _ _ hx0 ?_;refine pT ?_;refine uQ ?_;exact yV05a9
   ·go_simp;refine hK.out _ _ hx0 ?_;refine pT ?_;refine uQ ?_;refine zn (fun K hK=>?_) (fun K hK=>?_)
    ·go_simp;refine (hSZ.out _ hx0).mono (mQ fun w20 hx1=>?_);replace hx0:=hx0.trans hx1;clear hx1;exact yV05a3
    ·go_simp;have hI:=zcO (x:=0) (eX f 3 #[.int .i64 ((0:Nat):Int)]);have hx1:=(dB f).alloc (.cells #[.int .i64 ((0:Nat):Int)] 3);replace hx0:=hx0.trans hx1;clear hx1;refine hK.out _ _ hx0 ?_;refine pT ?_;generalize f.alloc _=w20 at *;generalize f.heap.size=g1 at *;exact yV05a9
end Go.Proofs.YtcfchopfijalpaaGreatDoor
