/- The law FnCh -/
import Derived.Test.YtckbjnndaaoddaaGreatDoorF14
set_option maxHeartbeats 4000000
set_option maxRecDepth 100000
namespace Go.Proofs.YtckbjnndaaoddaaGreatDoor
open Go Go.RowKit
open Ext renaming refl->cY
open List renaming nil_append->eA
open Nat renaming zero_add->dP,zero_le->dG
theorem sl_three {W:World} {g lo hi lo2 hi2 n c m d k e:Nat} {A B C:Option Addr} {x y z:Sys}(hb:Blk W g 38 #[x.al,x.st,.slice A n c,y.al,y.st,.slice B m d,z.al,z.st,.slice C k e])
  (h:zR W lo hi A n x) (h':zR W lo hi B m y) (h3:zR W lo2 hi2 C k z):∃ lo hi,zcC W lo hi (some ⟨g,0,none⟩) 3 [x,y,z]:=by
 refine⟨0,hi+hi2+g+1,rfl,[.int .i64 x.al,.int .i64 x.st,.slice A n c,.int .i64 y.al,.int .i64 y.st,.slice B m d,.int .i64 z.al,.int .i64 z.st,.slice C k e],⟨rfl,oM,fun _=>⟨_,rfl,dG _,by dsimp only;omega,fun j u hu=>?_⟩⟩,fun j u hu=>?_⟩
 ·rw [zP,dP,hb.cell];simpa using hu
 ·match j with
  |0 =>
   simp at hu;subst hu;exact⟨A,n,c,rfl,rfl,rfl,h.1,h.2.more (dG _) oM⟩
  |1 =>
   simp at hu;subst hu;exact⟨B,m,d,rfl,rfl,rfl,h'.1,h'.2.more (dG _) oM⟩
  |2 =>
   simp at hu;subst hu;exact⟨C,k,e,rfl,rfl,rfl,h3.1,h3.2.more (dG _) oM⟩
  |j+3=>simp at hu
theorem yZLawChfFewera1 {P:Prop}(h:P:=by
 go_wp2_with (first
  |(go_at_call 22;with_reducible refine (HI.out _ hcur).mono (mQ fun wz hz=>?_);replace hcur:=hcur.trans hz;replace h2:=h2.trans hz;clear hz)
  |(go_at_call 24;with_reducible refine (HR.out _ hcur).mono (mQ fun wz hz=>?_);replace hcur:=hcur.trans hz;replace h2:=h2.trans hz;clear hz))
 go_ret;exact⟨zl sM,hx1.trans hcur⟩
 ):P:=h
theorem law_ChainFewer {A0:Option Addr} {n0 c0:Nat} {w:World}(h:Bytes w A0 n0)(hn:n0<=9223372036854775807)(hc:n0<=c0)(hc2:c0<=9223372036854775807)(hT:Tab w) :
  Calls Tryz.prog 5 #[.slice A0 n0 c0] w fun e w'=>e=.returned (.bool true)∧Ext w w':=by
 have Hh:=za h;have HT:=za (fun W (hW:Ext w W)=>hT.ext hW);clear h hT
 by_cases hbig:1048576<n0
 ·have S:(1048576:Int)<(n0:Int):=oM
  go_enter Tryz.func5,Tryz.ntmps5
  go_wp2;go_ret;exact⟨rfl,cY _⟩
 have S:(n0:Int)<=1048576:=oM;clear hbig
 go_enter Tryz.func5,Tryz.ntmps5
 go_upto_region 4 with (first
  |(go_at_call 21;refine (spec_DrawChainFault Hh.out hn hc hc2).mono ?_;rintro e F ⟨l,k,g,c,p,A,n,c1,A',n',c2,f,B,m,d,B',m',d',u,C,q,e1,C',q',M,hl,O,bV,rfl,D,⟨hp,hf,hu⟩,aj,-,hx1⟩))
 clear S hn hc hc2;obtain⟨ss,aC⟩:∃ ss,Hid (l.map Ent.s=ss):=⟨_,rfl⟩;rw [aC.out] at D;have HS:=za (fun W (hW:Ext F W)=>D.ext hW);have HP:=za (fun W (hW:Ext F W)=>hp.ext hW);have HF:=za (fun W (hW:Ext F W)=>hf.ext hW);have HU:=za (fun W (hW:Ext F W)=>hu.ext hW);have aw:=za (fun W (hW:Ext F W)=>HT.out W (hx1.trans hW));have hcur:Ext F ((F.alloc (.cells #[p.al,.slice A n c1,.slice A' n' c2] 27)).alloc (.cells #[f.al,.slice B m d,.slice B' m' d',u.al,.slice C q e1,.slice C' q' M] 31)):=((cY _).alloc _).alloc _;obtain⟨b1,b2⟩:=zS (cY ((F.alloc (.cells #[p.al,.slice A n c1,.slice A' n' c2] 27)).alloc (.cells #[f.al,.slice B m d,.slice B' m' d',u.al,.slice C q e1,.slice C' q' M] 31)));clear D hp hf hu Hh HT;obtain⟨w2,aE⟩:∃ w2,w2=(F.alloc (.cells #[p.al,.slice A n c1,.slice A' n' c2] 27)).alloc (.cells #[f.al,.slice B m d,.slice B' m' d',u.al,.slice C q e1,.slice C' q' M] 31):=⟨_,rfl⟩;rw [← aE] at hcur b1 b2 ⊢;clear aE;generalize F.heap.size=G at *;have cP:=b1.cells;have cC:=b2.cells;have h2:=cY w2;clear b1 b2;have HI:=za (fun W (hW:Ext F W)=>impl_ChainFault (c:=c) (d1:=c1) (d1':=c2) (d2:=d) (d2':=d') (d3:=e1) (d3':=M) (HS.out _ hW) (HP.out _ hW) (HF.out _ hW) (HU.out _ hW) (aw.out _ hW));have HR:=za (fun W (hW:Ext F W)=>spec_ChainFault (c:=c) (d1:=c1) (d1':=c2) (d2:=d) (d2':=d') (d3:=e1) (d3':=M) (HS.out _ hW) (HP.out _ hW) (HF.out _ hW) (HU.out _ hW))
 by_cases hz:zaC ss p f u=0
 case neg =>
  have z0:(zaC ss p f u != 0)=true:=by simpa using hz
  generalize zaC ss p f u=z at *;clear hz;exact yZLawChfFewera1
 case pos =>
  obtain⟨x,y,z,ah,-,-⟩:=(chain_sound hz).2;subst ah;obtain rfl:k=3:=(HS.out F (cY _)).1;obtain⟨Bx,V,cx,q0,q1,q2,aG⟩:=(HS.out F (cY _)).ar (k:=0) (s:=x) rfl;obtain⟨By,ny,cy,r0,r1,r2,aH⟩:=(HS.out F (cY _)).ar (k:=1) (s:=y) rfl;obtain⟨Bz,nz,cz,s0,s1,s2,aI⟩:=(HS.out F (cY _)).ar (k:=2) (s:=z) rfl;have ab:∀ W,Ext w2 W->W.cell? g=some (.int .i64 x.al)∧W.cell? ⟨g,1,none⟩=some (.int .i64 x.st)∧W.cell? ⟨g,2,none⟩=some (.slice Bx V cx)∧W.cell? ⟨g,3,none⟩=some (.int .i64 y.al)∧W.cell? ⟨g,4,none⟩=some (.int .i64 y.st)∧W.cell? ⟨g,5,none⟩=some (.slice By ny cy)∧W.cell? ⟨g,6,none⟩=some (.int .i64 z.al)∧W.cell? ⟨g,7,none⟩=some (.int .i64 z.st)∧W.cell? ⟨g,8,none⟩=some (.slice Bz nz cz):=fun W hW=>by
   have H:=hcur.trans hW;exact⟨H.aa (by simpa using q0),H.aa (by simpa using q1),H.aa (by simpa using q2),H.aa (by simpa using r0),H.aa (by simpa using r1),H.aa (by simpa using r2),H.aa (by simpa using s0),H.aa (by simpa using s1),H.aa (by simpa using s2)⟩
  have be:nz<=cz∧nz<=50000:=by
   have e1:(l.map Ent.s)[2]?=some z:=by rw [aC.out];rfl
   rw [List.getElem?_map,Option.map_eq_some_iff] at e1;obtain⟨en,e2,-⟩:=e1;obtain⟨e3,e4,e5⟩:=aj.out 2 en e2;have e6:F.cell? ⟨g,8,none⟩=some (.slice Bz nz cz):=by simpa using s2
   have e7:F.cell? ⟨g,8,none⟩=some (.slice en.A en.n en.c):=e5;rw [e6] at e7;injection e7 with e7
   injection e7 with e8 e9 e10
   omega
  clear q0 q1 q2 r0 r1 r2 s0 s1 s2;have HX:=za (fun W (hW:Ext F W)=>aG.ext hW);have HY:=za (fun W (hW:Ext F W)=>aH.ext hW);have HZ:=za (fun W (hW:Ext F W)=>aI.ext hW);clear aG aH aI;have aD:zj z=true:=by
   obtain⟨x',y',z',ah,h3,-⟩:=zeQ.1 hz;have:=(zap (zcQ.1 h3).2.1).2;exact this z sM
  have E:=za (chain_fewer (z:=z) (u:=tailS z) (valid_tail aD) rfl (fun e (he:e∈z.edges.drop 1)=>List.mem_of_mem_drop he) hz);rw [hz] at HI HR;have bu:(3:Int)<=(c:Int):=oM;have aB:=za ((HZ.out _ (cY _)).1);clear hz aD O
  by_cases hk0:nz=0
  ·subst hk0;clear HX HY HZ E aB aj;exact yZLawChfFewera1
  ·obtain⟨Y,rfl⟩:∃ Y,nz=Y+1:=⟨nz - 1,oM⟩;have bW:((Y:Int)+1==0)=false:=by simp;omega
   obtain⟨ad,aA,_,_,_⟩:=(HZ.out F (cY _)).2.at_ (k:=0) oM;subst aA;clear hk0 aj;go_upto_region 7 with (first
    |(go_at_call 22;with_reducible refine (HI.out _ hcur).mono (mQ fun wz hz=>?_);replace hcur:=hcur.trans hz;replace h2:=h2.trans hz;clear hz)
    |(go_at_call 24;with_reducible refine (HR.out _ hcur).mono (mQ fun wz hz=>?_);replace hcur:=hcur.trans hz;replace h2:=h2.trans hz;clear hz))
   obtain⟨a,bf⟩:∃ a,a=wz:=⟨_,rfl⟩;subst bf;have aW:=za (HZ.out _ hcur);have bX:(1:Int)<=(Y:Int)+1:=oM
   go_cut [7] (fun v wx=>∃ GG:Nat,v=.pointer (some GG)∧NewSys a wx GG (tailS z))
   case first =>
     have br:∀ W,Ext a W->W.cell? ⟨g,6,none⟩=some (.int .i64 z.al)∧W.cell? ⟨g,7,none⟩=some (.int .i64 z.st)∧W.cell? ⟨g,8,none⟩=some (.slice (some ad) (Y+1) cz):=fun W hW=>(ab W (h2.trans hW)).2.2.2.2.2.2;have T:=za (show Y=(tailS z).edges.length by have:=aB.out;simp [tailS];omega);have bY:Y+1<=cz∧Y+1<=100000:=⟨be.1,oM⟩;clear cP cC ab HI HR HX HY HZ E
     by_cases hc1:cz=1
     ·obtain rfl:Y=0:=oM;have t:=T.out;have af:z.edges.drop 1=[]:=List.eq_nil_of_length_eq_zero t.symm;have D:Reads a w.heap.size G 3 (some ad) 0 (zq (z.edges.drop 1)):=by rw [af];exact⟨rfl,oM,fun h=>absurd h oM⟩
      have R:=za t;clear af t;subst hc1;refine tR (fun X=>Ext a X) [17] (Ord.app [0,1,2,3,4,5,6,7,9,10,11,12,13] (Ord.two 8 (Ord.two 14 (Ord.of [15,16,17]) 16 (Ord.of [14,15,17])) 16 (Ord.of [8,14,15,17]))) ?_;refine tQ ?_;refine zeK (fun K hK=>?_) (fun K hK=>?_)
      ·go_simp;have i:Ext a (a.alloc (.cells #[] 117)).drew:=((cY a).alloc _).drew;have r:(a.alloc (.cells #[] 117)).drew.ownsRow a.heap.size 117 3 (.slice (some a.heap.size) 0 0) 0 []:=edge_lit a;have E:(a.alloc (.cells #[] 117)).drew.heap.size=a.heap.size+1:=sM;refine hK.out _ _ i ?_;refine pT ?_;generalize (a.alloc (.cells #[] 117)).drew=J at *;refine zeK (fun K hK=>?_) (fun K hK=>?_)
       ·refine zu _ _ _ _ rfl a.heap.size 117 _ 3 24 Tryz.underlying36 zaT rfl dM (.slice (some a.heap.size) 0 0) 0 [] rfl r _ _ _ _ _ (zq (z.edges.drop 1)) rfl (D.ext i) (zcW _) lM oM i.size ?_;intro v w3 zhO hg3 hat3;rw [dP,eA] at zhO;obtain⟨A3,Z,rfl⟩:=zi zhO;have j:Ext a w3:=i.grown hg3 (fun k O=>by simp [Value.ownBlock] at O;omega);refine hK.out _ _ j ?_;refine pT ?_;refine tQ ?_;refine zC fun K hK=>?_;go_simp;refine hK.out _ _ (j.alloc _) ?_;refine pT ?_;refine tQ ?_;refine zO fun K hK=>?_;go_simp;refine hK.out _ _ ?_;refine zai ?_;go_wp2_with fail
        go_meet;exact⟨w3.heap.size,rfl,new_alloc (s:=tailS z) j R.out zhO⟩
       ·go_simp;have b:=i.alloc (.cells #[(0:Int),(0:Int),()] 38);have U:=(cY J).alloc (.cells #[(0:Int),(0:Int),()] 38);replace r:=zg r U;refine hK.out _ _ b ?_;generalize U0:J.alloc _=w8 at *;have I:=Ext.bl_ U0;clear U0;rw [E] at I;refine pT ?_;refine zC (fun K hK=>?_);refine zu _ _ _ _ rfl a.heap.size 117 _ 3 24 Tryz.underlying36 zaT rfl dM (.slice (some a.heap.size) 0 0) 0 [] rfl r _ _ _ _ _ (zq (z.edges.drop 1)) rfl (D.ext b) (zcW _) lM oM b.size ?_;intro v w3 zhO hg3 hat3;rw [dP,eA] at zhO;obtain⟨A3,Z,rfl⟩:=zi zhO;have j:Ext a w3:=b.grown hg3 (fun k O=>by simp [Value.ownBlock] at O;omega);have o:Blk w3 (a.heap.size+1) 38 #[.int .i64 0,.int .i64 0,.slice none 0 0]:=I.frm (Frm.ae hg3) (by simp [Value.ownBlock]);refine hK.out _ _ j ?_;refine pT ?_;refine tQ ?_;have cE:=o.cell;have fE:=o.frozen;refine zO fun K hK=>?_;go_simp;refine hK.out _ _ ?_;refine zai ?_;go_wp2_with fail
        go_meet;exact⟨_,rfl,new_fill (s:=tailS z) j R.out zhO o oM⟩
      ·go_simp;have i:Ext a (a.alloc (.cells #[(0:Int),(0:Int),()] 38)).drew:=((cY a).alloc _).drew;have ai:Blk (a.alloc (.cells #[(0:Int),(0:Int),()] 38)).drew a.heap.size 38 #[.int .i64 0,.int .i64 0,.slice none 0 0]:=Blk.new a _ _;have E:(a.alloc (.cells #[(0:Int),(0:Int),()] 38)).drew.heap.size=a.heap.size+1:=sM;refine hK.out _ _ i ?_;refine pT ?_;generalize (a.alloc (.cells #[(0:Int),(0:Int),()] 38)).drew=J at *;refine zC fun K hK=>?_;go_simp;have b:=i.alloc (.cells #[] 117);have r:(J.alloc (.cells #[] 117)).ownsRow a.heap.size 117 3 (.slice (some ⟨a.heap.size+1,0,none⟩) 0 0) 0 []:=by
        rw [← E];exact World.ownsRow_lit J #[] 0 i.size lM rfl
       have I:=ai.ext ((cY J).alloc (.cells #[] 117));refine hK.out _ _ b ?_;generalize J.alloc _=w8 at *;refine pT ?_;refine zC (fun K hK=>?_);refine zu _ _ _ _ rfl a.heap.size 117 _ 3 24 Tryz.underlying36 zaT rfl dM (.slice (some ⟨a.heap.size+1,0,none⟩) 0 0) 0 [] rfl r _ _ _ _ _ (zq (z.edges.drop 1)) rfl (D.ext b) (zcW _) lM oM b.size ?_;intro v w3 zhO hg3 hat3;rw [dP,eA] at zhO;obtain⟨A3,Z,rfl⟩:=zi zhO;have j:Ext a w3:=b.grown hg3 (fun k O=>by simp [Value.ownBlock] at O;omega);have o:Blk w3 a.heap.size 38 #[.int .i64 0,.int .i64 0,.slice none 0 0]:=I.frm (Frm.ae hg3) (by simp [Value.ownBlock]);refine hK.out _ _ j ?_;refine pT ?_;refine tQ ?_;have cE:=o.cell;have fE:=o.frozen;refine zO fun K hK=>?_;go_simp;refine hK.out _ _ ?_;refine zai ?_;go_wp2_with fail
       go_meet;exact⟨_,rfl,new_fill (s:=tailS z) j R.out zhO o (Nat.le_refl _)⟩
     ·have t:=T;have D:Reads a w.heap.size G 3 (some (ad.add 3)) Y (zq (z.edges.drop 1)):=aW.out.tail;refine tR (fun X=>Ext a X) [17] (Ord.app [0,1,2,3,4,5,6,7,9,10,11,12,13] (Ord.two 8 (Ord.two 14 (Ord.of [15,16,17]) 16 (Ord.of [14,15,17])) 16 (Ord.of [8,14,15,17]))) ?_;refine tQ ?_;refine zeK (fun K hK=>?_) (fun K hK=>?_)
      ·go_simp;have i:Ext a (a.alloc (.cells #[] 117)).drew:=((cY a).alloc _).drew;have r:(a.alloc (.cells #[] 117)).drew.ownsRow a.heap.size 117 3 (.slice (some a.heap.size) 0 0) 0 []:=edge_lit a;have E:(a.alloc (.cells #[] 117)).drew.heap.size=a.heap.size+1:=sM;refine hK.out _ _ i ?_;refine pT ?_;generalize (a.alloc (.cells #[] 117)).drew=J at *;refine zeK (fun K hK=>?_) (fun K hK=>?_)
       ·refine zu _ _ _ _ rfl a.heap.size 117 _ 3 24 Tryz.underlying36 zaT rfl dM (.slice (some a.heap.size) 0 0) 0 [] rfl r _ _ _ _ _ (zq (z.edges.drop 1)) rfl (D.ext i) (zcW _) lM oM i.size ?_;intro v w3 zhO hg3 hat3;rw [dP,eA] at zhO;obtain⟨A3,Z,rfl⟩:=zi zhO;have j:Ext a w3:=i.grown hg3 (fun k O=>by simp [Value.ownBlock] at O;omega);refine hK.out _ _ j ?_;refine pT ?_;refine tQ ?_;refine zC fun K hK=>?_;go_simp;refine hK.out _ _ (j.alloc _) ?_;refine pT ?_;refine tQ ?_;refine zO fun K hK=>?_;go_simp;refine hK.out _ _ ?_;refine zai ?_;go_wp2_with fail
        go_meet;exact⟨w3.heap.size,rfl,new_alloc (s:=tailS z) j t.out zhO⟩
       ·go_simp;have b:=i.alloc (.cells #[(0:Int),(0:Int),()] 38);have U:=(cY J).alloc (.cells #[(0:Int),(0:Int),()] 38);replace r:=zg r U;refine hK.out _ _ b ?_;generalize U0:J.alloc _=w8 at *;have I:=Ext.bl_ U0;clear U0;rw [E] at I;refine pT ?_;refine zC (fun K hK=>?_);refine zu _ _ _ _ rfl a.heap.size 117 _ 3 24 Tryz.underlying36 zaT rfl dM (.slice (some a.heap.size) 0 0) 0 [] rfl r _ _ _ _ _ (zq (z.edges.drop 1)) rfl (D.ext b) (zcW _) lM oM b.size ?_;intro v w3 zhO hg3 hat3;rw [dP,eA] at zhO;obtain⟨A3,Z,rfl⟩:=zi zhO;have j:Ext a w3:=b.grown hg3 (fun k O=>by simp [Value.ownBlock] at O;omega);have o:Blk w3 (a.heap.size+1) 38 #[.int .i64 0,.int .i64 0,.slice none 0 0]:=I.frm (Frm.ae hg3) (by simp [Value.ownBlock]);refine hK.out _ _ j ?_;refine pT ?_;refine tQ ?_;have cE:=o.cell;have fE:=o.frozen;refine zO fun K hK=>?_;go_simp;refine hK.out _ _ ?_;refine zai ?_;go_wp2_with fail
        go_meet;exact⟨_,rfl,new_fill (s:=tailS z) j t.out zhO o oM⟩
      ·go_simp;have i:Ext a (a.alloc (.cells #[(0:Int),(0:Int),()] 38)).drew:=((cY a).alloc _).drew;have ai:Blk (a.alloc (.cells #[(0:Int),(0:Int),()] 38)).drew a.heap.size 38 #[.int .i64 0,.int .i64 0,.slice none 0 0]:=Blk.new a _ _;have E:(a.alloc (.cells #[(0:Int),(0:Int),()] 38)).drew.heap.size=a.heap.size+1:=sM;refine hK.out _ _ i ?_;refine pT ?_;generalize (a.alloc (.cells #[(0:Int),(0:Int),()] 38)).drew=J at *;refine zC fun K hK=>?_;go_simp;have b:=i.alloc (.cells #[] 117);have r:(J.alloc (.cells #[] 117)).ownsRow a.heap.size 117 3 (.slice (some ⟨a.heap.size+1,0,none⟩) 0 0) 0 []:=by
        rw [← E];exact World.ownsRow_lit J #[] 0 i.size lM rfl
       have I:=ai.ext ((cY J).alloc (.cells #[] 117));refine hK.out _ _ b ?_;generalize J.alloc _=w8 at *;refine pT ?_;refine zC (fun K hK=>?_);refine zu _ _ _ _ rfl a.heap.size 117 _ 3 24 Tryz.underlying36 zaT rfl dM (.slice (some ⟨a.heap.size+1,0,none⟩) 0 0) 0 [] rfl r _ _ _ _ _ (zq (z.edges.drop 1)) rfl (D.ext b) (zcW _) lM oM b.size ?_;intro v w3 zhO hg3 hat3;rw [dP,eA] at zhO;obtain⟨A3,Z,rfl⟩:=zi zhO;have j:Ext a w3:=b.grown hg3 (fun k O=>by simp [Value.ownBlock] at O;omega);have o:Blk w3 a.heap.size 38 #[.int .i64 0,.int .i64 0,.slice none 0 0]:=I.frm (Frm.ae hg3) (by simp [Value.ownBlock]);refine hK.out _ _ j ?_;refine pT ?_;refine tQ ?_;have cE:=o.cell;have fE:=o.frozen;refine zO fun K hK=>?_;go_simp;refine hK.out _ _ ?_;refine zai ?_;go_wp2_with fail
       go_meet;exact⟨_,rfl,new_fill (s:=tailS z) j t.out zhO o (Nat.le_refl _)⟩
   case rest =>
     obtain⟨GG,rfl,B3,n3,Z,aF,b3,h3⟩:=hcut;replace hcur:=hcur.trans aF;replace h2:=h2.trans aF;have k3:=b3.cells;have bs:∀ W,Ext wc W->W.cell? g=some (.int .i64 x.al)∧W.cell? ⟨g,1,none⟩=some (.int .i64 x.st)∧W.cell? ⟨g,2,none⟩=some (.slice Bx V cx)∧W.cell? ⟨g,3,none⟩=some (.int .i64 y.al)∧W.cell? ⟨g,4,none⟩=some (.int .i64 y.st)∧W.cell? ⟨g,5,none⟩=some (.slice By ny cy):=fun W hW=>by
      obtain⟨a0,a1,a2,a3,a4,a5,-⟩:=ab W (h2.trans hW);exact⟨a0,a1,a2,a3,a4,a5⟩
     have bQ:=fun W (hW:Ext wc W)=>cP W (h2.trans hW);have bP:=fun W (hW:Ext wc W)=>cC W (h2.trans hW);clear cP cC ab;have bg:=cY wc;go_upto_region 8 with fail
     have ae:Ext wc wc.drew:=bg.drew;refine uR (fun X=>Ext wc X) [10] (zv.of [0,1,2,3,4,5,6,8,9,7,10,11,12]) ?_;refine uQ ?_;generalize wc.drew=wd at *;refine zd fun K hK=>?_;go_simp;have Q:=ae.alloc (.cells #[x.al,x.st,.slice Bx V cx,y.al,y.st,.slice By ny cy,.int .i64 (tailS z).al,.int .i64 (tailS z).st,.slice B3 n3 Z] 38);have L:=(cY wd).alloc (.cells #[x.al,x.st,.slice Bx V cx,y.al,y.st,.slice By ny cy,.int .i64 (tailS z).al,.int .i64 (tailS z).st,.slice B3 n3 Z] 38);obtain⟨b0,bU,ag⟩:=sl_three (Blk.new wd 38 #[x.al,x.st,.slice Bx V cx,y.al,y.st,.slice By ny cy,.int .i64 (tailS z).al,.int .i64 (tailS z).st,.slice B3 n3 Z]) ((HX.out _ (hcur.trans ae)).ext L) ((HY.out _ (hcur.trans ae)).ext L) ((h3.ext ae).ext L);have HC:=za (impl_ChainFault (c:=3) (d1:=c1) (d1':=c2) (d2:=d) (d2':=d') (d3:=e1) (d3':=M) ag (HP.out _ (hcur.trans Q)) (HF.out _ (hcur.trans Q)) (HU.out _ (hcur.trans Q)) (aw.out _ (hcur.trans Q)));rw [E.out] at HC;clear ag L;refine hK.out _ _ Q ?_;refine pT ?_;refine zb fun K hK=>?_;go_simp;refine HC.out.mono (mQ fun wy hy=>?_);refine hK.out _ _ ?_;refine pT ?_;refine uQ ?_;refine ze ?_;go_wp2_with fail
     go_ret;exact⟨zl sM,hx1.trans (hcur.trans (Q.trans hy))⟩
end Go.Proofs.YtckbjnndaaoddaaGreatDoor
