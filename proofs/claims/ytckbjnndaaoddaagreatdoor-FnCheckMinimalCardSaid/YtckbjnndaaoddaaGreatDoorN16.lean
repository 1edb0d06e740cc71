/- impl.trim an -/
import Derived.Test.YtckbjnndaaoddaaGreatDoorN15
import Derived.Lib.ItoaNum
import Derived.Shelf.Strconv.Itoa1
import Derived.WideKeyArr
set_option maxHeartbeats 6400000
set_option maxRecDepth 100000
namespace Go.Proofs.YtckbjnndaaoddaaGreatDoor
open Go Go.RowKit
open Bool renaming and_eq_true->dI,or_eq_true->gJ
open Ext renaming refl->dB
open Frm renaming setCell->dH
open Int renaming toNat_natCast->eN
open List renaming append_assoc->gW,cons_append->gP,flatMap_cons->iJ,getD_eq_getElem?_getD->dF,getElem?_append_left->dJ,getElem?_append_right->dP,getElem?_eq_getElem->dD,getElem?_eq_none->eC,getElem?_map->dS,length_append->dN,length_map->dQ,length_singleton->dZ,map_append->eK,map_singleton->iS,mem_of_getElem?->dC,nil_append->eG,replicate->dT,take_add_one->dO,take_length->eI
open Nat renaming le_of_lt_succ->eQ,le_refl->dE,lt_or_eq_of_le->eF,zero_le->dG
open Option renaming toList_some->eD
variable {B B':Option Addr} {N b b0 cap d d' hi i j k l lo m m' n q v x y:Nat} {S:Nat->Prop} {W w:World} {a t:Aut} {ds:List Nat} {r:List Int}
structure zdE (a t:Aut) (xs:List Nat):Prop where
 al:t.al=a.al
 nb:NbI (aGo a) (letters a.al.toNat 6) 0 xs t.next []
 len:t.next.length=xs.length
 acc:t.acc=xs.map (zaC a)
section
variable {a t:Aut} {xs:List Nat}
theorem zdE.lt (h:zdE a t xs)(ha:Fit N a):∀ x∈xs,x<a.next.length:=by
 intro x hx;obtain⟨v,b,rfl⟩:=h.nb.reach x hx;exact zea ha (fun l hl=>(zG.1 (b l hl)).1) (q:=0) (oH ha.row.2.1)
theorem zdE.few (h:zdE a t xs)(ha:Fit N a):xs.length<=a.next.length:=zdb h.nb.nd (h.lt ha)
theorem zdE.go (h:zdE a t xs) (hx:xs[i]?=some x)(hl:l<6):xs[aGo t i l]?=some (aGo a x l):=by
 have k:=(List.getElem?_eq_some_iff.1 hx).1;unfold aGo;rw [h.al];cases hb:a.al.toNat.testBit l
 ·rw [if_neg dM,if_neg dM];exact hx
 ·rw [if_pos rfl,if_pos rfl];obtain⟨r,d,-,f⟩:=h.nb.done i x (by rw [h.len];exact k) hx;obtain⟨m,g,j⟩:=f (place a.al.toNat l) l (zgS hb 6 hl);have b:t.next.getD i []=r:=by rw [dF,d];rfl
  have c:r.getD (place a.al.toNat l) 0=(m:Int):=by rw [dF,g];rfl
  rw [b,c,eN,j];unfold aGo;rw [if_pos hb]
theorem zdE.run (h:zdE a t xs):∀ (n:Nat) (v:List Nat),v.length=n->(∀ l∈v,l<6)->xs[zbh t 0 v]?=some (zbh a 0 v):=by
 intro n
 induction n with
 |zero =>
  intro v hl _;obtain rfl:=List.eq_nil_of_length_eq_zero hl;exact h.nb.x0
 |succ n ih =>
  intro v hl hv;rcases zaf v with rfl|⟨w,l,rfl⟩
  ·simp at hl
  rw [zco,zco];exact h.go (ih w (by simpa using hl) (fun x hx=>hv x (by simp [hx]))) (hv l sM)
theorem zdE.acc_ (h:zdE a t xs) (hx:xs[i]?=some x):zaC t i=zaC a x:=by
 unfold zaC;rw [h.acc,dF,dS,hx];rfl
theorem zdE.acc_run (h:zdE a t xs) {v:List Nat}(hv:∀ l∈v,l<6):zaC t (zbh t 0 v)=zaC a (zbh a 0 v):=h.acc_ (h.run _ v rfl hv)
end
def TrK (b0 g:Nat) (a:Aut) (f:Int->Option Nat):zht:=fun _ W S =>
 (∀ n x,f n=some x↔(n=(x:Int)∧x<a.next.length))∧(∀ k,¬ S k)∧b0<=W.heap.size∧g<b0∧∃ (U:Option Addr) (n uc lo hi:Nat),Blk W g 148 #[.slice U n uc]∧n=a.next.length∧TbAt W lo hi U a∧hi<=b0
theorem TrK.ok (b0 g:Nat) (a:Aut) (f:Int->Option Nat):zht.Ok b0 (TrK b0 g a f):=by
 refine⟨fun h k hk=>absurd hk (h.2.1 k),fun h k hk=>absurd hk (h.2.1 k),fun h hf hT=>?_,fun h _=>h⟩;obtain⟨b,c,d,i,U,n,r,q,p,j,l,m,o⟩:=h;exact⟨b,c,Nat.le_trans d hf.size,i,U,n,r,q,p,j.frm hf (fun e=>by have:=(hT g oM e).1;omega),l,Reads.frm m hf (fun k hk1 hk2 e=>by have:=(hT k oM e).1;omega),o⟩
theorem trim_step {g B:Nat}  {f:Int->Option Nat}   {n:Int} (h:TrK b0 g a f B W S)(hn:f n=some x)(hv:Fit N a)(hl:l<6) :
  Calls Tryz.prog 268 (#[.int .i64 n,.int .i64 (l:Nat)]++#[.pointer (some g)]) W (RetNext (TrK b0 g a) (aGo a) f B S W x l):=by
 obtain⟨b,k,q,r,U,m,C,z,t,c,o,d,s⟩:=h;obtain⟨rfl,p⟩:=(b n x).1 hn;have i:=aGo_ltF hv p hl;obtain⟨F,G,rfl,E⟩:=d.at_ p hl;have j:=za (show RetNext (TrK b0 g a) (aGo a) f B S W x l (.returned (.int .i64 (aGo a x l:Nat))) W from
  ⟨f,_,S,rfl,SubF.refl f,(b _ _).2 ⟨rfl,i⟩,Kp.refl ⟨b,k,q,r,_,m,C,z,t,c,o,d,s⟩⟩)
 have D:=c.cell;have v:(x:Int)<(m:Int):=by rw [o];omega
 have u:(l:Int)<6:=oM;clear b k c d hn;generalize aGo a x l=y at *;show Calls Tryz.prog 268 #[.int .i64 (x:Nat),.int .i64 (l:Nat),.pointer (some g)] W _
 go_enter Tryz.func268,Tryz.ntmps268
 go_wp2_with fail
 go_ret;exact j.out
def stF (N:Nat) (n:Int):Option Nat:=if 0<=n∧n<(N:Int) then some n.toNat else none
theorem stF_iff (n:Int) (x:Nat):stF N n=some x↔(n=(x:Int)∧x<N):=by
 unfold stF;constructor
 ·intro h
  split at h
  ·rename_i h1;have:=Option.some.inj h;omega
  ·cases h
 ·rintro ⟨rfl,h⟩;rw [if_pos oM,eN]
theorem TrK.start {g:Nat}   {U:Option Addr} {uc:Nat}(hb:Blk w g 148 #[.slice U a.next.length uc])(hU:TbO w U uc a)(hx:Ext w W) (B:Nat):TrK w.heap.size g a (stF a.next.length) B W (fun _=>False):=by
 obtain⟨b,c⟩:=hU;exact⟨stF_iff,fun _ h=>h,hx.size,hb.lt,U,_,uc,b,w.heap.size,hb.ext hx,rfl,Reads.ext (Reads.af c) hx,dE _⟩
def RetTrim (w:World) (a:Aut) (e:Ending) (w':World):Prop:=
 ∃ (t:Aut) (xs:List Nat) (A:Option Addr) (n c:Nat) (A':Option Addr) (n' c':Nat),e=.returned (.agg #[t.al,.slice A n c,.slice A' n' c'])∧zZ w' w.heap.size A n c A' n' c' t∧zdE a t xs∧Ext w w'
theorem impl_trimF {NN:Nat}      (h:zH w lo hi B m B' m' a)(hv:Fit NN a)(hNN:NN<=100) :
  Calls Tryz.prog 193 #[.agg #[a.al,.slice B m d,.slice B' m' d']] w (RetTrim w a):=by
 obtain⟨⟨aQ,aR⟩,⟨n1,bP⟩,aa,-⟩:=hv.row;obtain⟨al,V⟩:∃ al:Nat,Hid (a.al=al):=⟨a.al.toNat,by unfold Hid;omega⟩;have a7:Sm al:=by have:=V.out;unfold Sm;omega
 have aP:=za (show letters al 6=letters a.al.toNat 6 by rw [V.out];rfl);have HA:=za (fun W (hW:Ext w W)=>h.ext hW);have Hv:=za hv;have a5:=za h.n2;have ao:=za aa;clear h hv aQ aR aa
 go_enter Tryz.func193,Tryz.ntmps193
 go_upto_region 1 with fail
 generalize U0:(w.alloc _).alloc _=w0 at *;obtain⟨Z,b1,b2⟩:=Ext.x2_ U0;clear U0;have CA:=b1.cells;have aE:=dB w0;go_upto_region 2 with (first
  |(go_at_call 119;refine (zfm (HA.out _ Z) Hv.out hNN).mono ?_;rintro e w1 ⟨U,uc,rfl,⟨bU,-,ax⟩,aF⟩;have hU:TbO w1 U uc a:=⟨bU,ax⟩;clear ax))
 have u:=(dB w1).alloc (.cells #[.slice U a.next.length uc] 148);have ay:=hU.ext u;have J:=aF.trans u;clear hU aF u;generalize U0:w1.alloc _=z at *;have b3:=Ext.bl_ U0;have bu:w1.heap.size<z.heap.size:=by rw [← U0];simp
 clear U0;generalize w1.heap.size=g3 at *;have ab:=b2.ext J;have I:=za (show a.next.length<=100 by omega);have T:=za n1;have ah:=za (fun W (hW:Ext z W) (AL:Option Addr) (cL bL:Nat) (ho:W.ownsRow bL 3 1 (.slice AL (letters al 6).length cL) (letters al 6).length (zae (letters al 6))) =>
  ziB (K:=TrK z.heap.size g3 a) (D:=aGo a) (LL:=letters al 6) (x0:=0) (n0:=0) (lim:=a.next.length) (Bm:=1000) (B0:=0) (b0:=z.heap.size) (kn:=268) (cap:=#[.pointer (some g3)]) (S0:=fun _=>False) (f0:=stF a.next.length) (w:=W)
   (TrK.ok z.heap.size g3 a) (fun f B W S h n m x O h2=>by rw [((h.1 n x).1 O).1,((h.1 m x).1 h2).1]) (fun f B W S h n x O=>by have:=(h.1 n x).1 O;unfold domZ;omega)
   (fun _ _=>rfl) (fun f B W S n x l hK _ hf hl=>trim_step hK hf Hv.out (zG.1 hl).1)
   (TrK.start b3 ay hW 0) ((stF_iff 0 0).2 ⟨rfl,oH T.out⟩) hW.size ho (fun _ _ h=>h) (zy al 6) T.out (oH I.out) (oH I.out))
 have aO:∀ W,Ext z W->∀ q,W.cell? ⟨w.heap.size,q,none⟩=#[Value.int .i64 al,.slice B m d,.slice B' m' d'][q]?:=fun W hW=>by
  have:=CA W (J.trans hW);rwa [V.out] at this
 have C3:=b3.cells;obtain⟨N,hN⟩:∃ N,Hid (a.next.length=N):=⟨_,rfl⟩;rw [hN.out] at ah C3;clear CA aE b1 b2 b3 ay;have ba:=dB z
 go_cut [4,5] (fun v4 v5 wx=>∃ (c:List Nat) (g:List (List Int)) (A4:Option Addr) (c4:Nat) (r:Option Addr) (s:Nat),v4=.slice A4 c.length c4∧v5=.slice r c.length s∧Hid (NbI (aGo a) (letters al 6) 0 c g [])∧Hid (g.length=c.length)∧wx.ownsRow z.heap.size 3 1 (.slice A4 c.length c4) c.length (zae c)∧zed wx z.heap.size (.slice r c.length s) g∧Ext z wx)
 case first =>
  have y:Ext z z.drew:=ba.drew;refine uR (fun X=>Ext z X) [6] (zw.of [0,1,3,4,5,2,6,7,8,9,10,11,12,13]) ?_;refine uQ ?_;refine zd fun K hK=>?_;go_simp;refine (zbv al a7 _).mono ?_;rintro e w3 ⟨AL,cL,rfl,aH,bc⟩;have E:=y.trans bc;refine hK.out _ _ E ?_;refine pT ?_;refine zb fun K hK=>?_;go_simp;refine (ah.out w3 E AL cL _ aH).mono ?_;rintro e w4 ⟨f,Bx,S',aC,am,bK,ak⟩;have aG:Ext z w4:=am.toExt E (fun k hk=>hk.elim);have aA:=am.j.1;rcases ak with ⟨rfl,c,O,h2,h3⟩|⟨A4,c4,r,s,ns,c,g,rfl,O,h2,h3,⟨h4,h5⟩,h6,h7⟩
  ·exfalso;have:=zdb (p:=a.next.length) O (fun x Q=>by
    obtain⟨v,h4,rfl⟩:=h3 x Q;exact zea Hv.out (fun l hl=>(zG.1 (h4 l hl)).1) (q:=0) (oH T.out))
   have:=hN.out;omega
  have aB:ints ns=zae c:=by
   refine List.ext_getElem? fun j=>?_;unfold ints zae;rw [dS,dS];cases hj:ns[j]? with
   |none=>rw [eC (by have:=List.getElem?_eq_none_iff.1 hj;omega)];rfl
   |some n =>
    obtain⟨x,Q,hf⟩:=h5 j n hj;rw [Q,((aA n x).1 hf).1];rfl
  rw [aB] at h6;have af:=E.size;have M:=za (And.intro (zn h6 af) (And.intro (h7.less af) aG));have hI:=za h2;have Y:=za h3;clear aC am aA O h2 h3 h4 h5 h6 h7 aB;refine hK.out _ _ ?_;refine pT ?_;refine uQ ?_;refine ze ?_;go_wp2_with fail
  go_meet;exact⟨c,g,A4,c4,r,s,rfl,rfl,hI,Y,M.out.1,M.out.2.1,M.out.2.2⟩
 case rest =>
 obtain⟨c,g,A4,c4,r,s,rfl,rfl,hI,Y,o4,o5,L⟩:=hcut;clear ah C3;go_upto_region 4 with fail
 have bG:=Blk.new wc 27 #[al,.slice r c.length s,()];have u:=(dB wc).alloc (.cells #[al,.slice r c.length s,()] 27);have ae:=za (show ∀ x∈c,x<a.next.length from fun x Q=>by
  obtain⟨v,h4,rfl⟩:=hI.out.reach x Q;exact zea Hv.out (fun l hl=>(zG.1 (h4 l hl)).1) (q:=0) (oH T.out))
 have bw:c.length<=100:=by
  have:=zdb hI.out.nd ae.out;have:=I.out;omega
 have bh:=zh o4 u;obtain⟨G,hG⟩:∃ G,Hid (wc.heap.size=G):=⟨_,za rfl⟩;rw [hG.out] at bG;have av:wc.heap.size<=G:=oH hG.out;rw [hG.out];generalize wc.alloc _=w6 at *;go_wp2_with fail
 go_loopw [29] (fun iv wr=>∃ (i:Nat) (vA:Value),iv=.int .i64 i∧i<=c.length∧Blk wr G 27 #[al,.slice r c.length s,vA]∧wr.ownsRow wc.heap.size 4 1 vA i (zaw ((c.take i).map (zaC a)))∧Ext wc wr) (fun iv _=>c.length - (intOf iv).toNat)
 case atStart=>exact⟨0,_,rfl,dG _,bG,World.ownsRow_nil _ _ _ _,u⟩
 case round =>
  clear bG u bh;obtain⟨i,vA,rfl,hi,hB,H,t⟩:=hrel
  by_cases hlt:i<c.length
  ·have bs:(i:Int)<(c.length:Int):=oM;obtain⟨x,Q⟩:∃ x,c[i]?=some x:=⟨_,dD hlt⟩;have be:=ae.out x (dC Q);obtain⟨g4,rfl,-,-⟩:=zag o4 oM;have ai:=zcB (zh o4 t) hlt;rw [dF,Q,Option.getD_some] at ai;have a4:x<m':=by rw [a5.out,ao.out];exact be
   obtain⟨ad,bb,rfl,-,-,hb,cb⟩:=(HA.out wr (Z.trans (J.trans (L.trans t)))).2.2.bool a4;have bt:(x:Int)<(m':Int):=oM;have K4:∀ W,Ext wr W->W.cell? ⟨g4,i,none⟩=some (.int .i64 (x:Nat)):=fun W hW=>hW.aa ai;have KB:∀ W,Ext wr W->W.cell? (ad.add x)=some (.bool bb):=fun W hW=>hW.aa cb;have KA:=fun W (hW:Ext wr W)=>aO W (L.trans (t.trans hW));have KG:=hB.cells;have a8:=za (show zaw ((c.take (i+1)).map (zaC a))=zaw ((c.take i).map (zaC a))++[.bool bb] by
    have a1:zaC a x=bb:=by unfold zaC;rw [dF,hb.out];rfl
    rw [dO,Q,eD,eK,iS,a1];simp [zaw])
   have aD:=dB wr;clear ai cb Q hb;go_wp2_with fail
   refine uR (fun X=>Ext wr X) [8,10] (zw.of [0,1,2,3,4,5,6,7,8,9,10]) ?_;refine uQ ?_;have y:=aD.drew;generalize wr.drew=wd at *;refine zd fun K hK=>?_;go_simp;refine hK.out _ _ (y.alloc _) ?_;refine pT ?_;refine zb fun K hK=>?_;have o:=zh H y;refine zaE wc wd _ _ _ rfl 4 _ 1 1 Tryz.underlying25 zaT rfl dM vA i (zaw ((c.take i).map (zaC a))) _ _ rfl rfl (t.trans y).size o rfl (by simp [Value.oneCell']) lM oM ?_;intro g8 cap8 w8 hown8 hg8 hat8 hlt8;refine hK.out _ _ ?_;refine pT ?_;refine uQ ?_;have F:=hB.ext y;have R:Blk w8 G 27 #[.int .i64 al,.slice r c.length s,vA]:=(hg8.block G F.lt (fun e=>zq o F dM e.symm rfl)).trans F;have bM:g8≠G:=by
    rcases hat8 with O|O
    ·exact zq o F dM O
    ·have:=F.lt;omega
   have k8:=R.cell 2;have f8:=R.frozen 2;have bd:=za (((t.trans y).grown hg8 (fun k hk=>(o.lt k hk).1)).setCell (p:=⟨G,2,none⟩) av (.slice (some g8) (i+1) cap8));have aY:=za (show Blk (w8.setCell ⟨G,2,none⟩ (.slice (some g8) (i+1) cap8)) G 27 #[al,.slice r c.length s,.slice (some g8) (i+1) cap8] by simpa using R.ae 2 (.slice (some g8) (i+1) cap8));have a6:=za (zf hown8 (dH w8 G 2 (.slice (some g8) (i+1) cap8)) (fun b hv hS=>by
    have:g8=b:=by simpa [Value.ownBlock] using hv
    omega))
   clear hown8 hg8 hat8 o H hB F R K4 KB KA KG;refine zb fun K hK=>?_;go_simp;refine hK.out _ _ ?_;refine ze ?_;clear k8 f8;go_wp2_with fail
   go_roundw
   case rel=>exact⟨i+1,_,gM,oM,aY.out,by rw [a8.out];exact a6.out,bd.out⟩
   case measure=>simp [intOf];omega
  ·obtain rfl:i=c.length:=oM;rw [eI] at H;obtain⟨AA,cA,rfl⟩:=zg H;have C:=ab.ext (L.trans t);have kz:=C.cell;have fz:=C.frozen;have kG:=hB.cell;have hZ:=ab.lt;have az:=zZ.keep (show zZ wr z.heap.size r c.length s AA c.length cA ⟨a.al,g,c.map (zaC a)⟩ from ⟨o5.ext t,Y.out.symm,zn H L.size,sM⟩) (zV wr (w.heap.size+1) (.int .i64 al) (.slice r c.length s) (.slice AA c.length cA)) (fun b hb e=>oM);have a9:=za (show zdE a ⟨a.al,g,c.map (zaC a)⟩ c from ⟨rfl,by rw [← aP.out];exact hI.out,Y.out,rfl⟩);have bf:=za ((Z.trans (J.trans (L.trans t))).frm (zV wr (w.heap.size+1) (.int .i64 al) (.slice r c.length s) (.slice AA c.length cA)) (fun k hk e=>oM));have a3:=za (zaq C rfl (.int .i64 al) (.slice r c.length s) (.slice AA c.length cA));have M:=za (show RetTrim w a (.returned (.agg #[al,.slice r c.length s,.slice AA c.length cA])) _ from ⟨⟨a.al,g,c.map (zaC a)⟩,c,r,c.length,s,AA,c.length,cA,by rw [← V.out],az.less (by have:=Z.size;have:=J.size;omega),a9.out,bf.out⟩);clear az C H hB;go_wp2_with fail
   have cf:=a3.out.cell;exact bodyPost_ret (v:=.agg #[al,.slice r c.length s,.slice AA c.length cA]) (by simp [results,Tryz.results193,go_sem,cf]) rfl M.out
theorem zdE.fit {xs:List Nat}(h:zdE a t xs)(ha:Fit N a):Fit N t:=by
 obtain⟨⟨i,n⟩,⟨B,v⟩,-,-⟩:=ha.row;have z:=h.few ha;have y:1<=xs.length:=by have:=(List.getElem?_eq_some_iff.1 h.nb.x0).1;omega
 refine⟨by rw [h.al];exact⟨i,n⟩,⟨by rw [h.len];omega,by rw [h.len];omega⟩,by rw [h.acc,dQ,h.len],fun j row hj=>?_⟩;have b:=(List.getElem?_eq_some_iff.1 hj).1;obtain⟨x,u⟩:∃ x,xs[j]?=some x:=⟨_,dD (by rw [← h.len];exact b)⟩;obtain⟨r,d,f,o⟩:=h.nb.done j x b u;rw [hj] at d;obtain rfl:=Option.some.inj d;rw [h.al];refine⟨f,fun q hq=>?_⟩;obtain⟨k,hk⟩:=List.getElem?_of_mem hq;have c:=(List.getElem?_eq_some_iff.1 hk).1;obtain⟨l,s⟩:∃ l,(letters a.al.toNat 6)[k]?=some l:=⟨_,dD (by rw [← f];exact c)⟩;obtain⟨m,g,p⟩:=o k l s;rw [hk] at g;obtain rfl:=Option.some.inj g;have:=(List.getElem?_eq_some_iff.1 p).1;rw [h.len];omega
structure HomA (p q:Aut) (f:Nat->Nat):Prop where
 al:q.al=p.al
 zero:f 0=0
 go:∀ i l,i<p.next.length->l<6->f (aGo p i l)=aGo q (f i) l
 acc:∀ i,i<p.next.length->zaC q (f i)=zaC p i
section
variable {p q r:Aut} {f:Nat->Nat}
theorem HomA.run (h:HomA p q f)(hp:Fit N p):∀ (n:Nat) (v:List Nat),v.length=n->(∀ l∈v,l<6)->f (zbh p 0 v)=zbh q 0 v:=by
 intro n
 induction n with
 |zero =>
  intro v hv _;obtain rfl:v=[]:=List.length_eq_zero_iff.1 hv;exact h.zero
 |succ n ih =>
  intro v hv hl;obtain⟨u,l,rfl⟩:∃ u l,v=u++[l]:=⟨v.dropLast,v.getLast (by intro e;rw [e] at hv;simp at hv),(List.dropLast_concat_getLast _).symm⟩;have a:∀ x∈u,x<6:=fun x hx=>hl x (by simp [hx]);have b:0<p.next.length:=oH hp.row.2.1;rw [zco,zco,h.go _ _ (zea hp a b) (hl l sM),ih u (by simpa using hv) a]
theorem HomA.accF (h:HomA p q f)(hp:Fit N p) {v:List Nat}(hv:∀ l∈v,l<6):zaC p (zbh p 0 v)=zaC q (zbh q 0 v):=by
 have a:0<p.next.length:=oH hp.row.2.1;rw [← h.run hp _ v rfl hv,h.acc _ (zea hp hv a)]
end
def quoA (a:Aut) (c:Nat->Nat) (rs:List Nat):Aut:=⟨a.al,rs.map fun q=>(a.next.getD q []).map fun x=>(c x.toNat:Int),rs.map (zaC a)⟩
structure Stb (a:Aut) (c:Nat->Nat) (rs:List Nat):Prop where
 zero:c 0=0
 rep:∀ q,q<a.next.length->∃ r,rs[c q]?=some r∧r<a.next.length∧c r=c q
 acc:∀ q r,q<a.next.length->r<a.next.length->c q=c r->zaC a q=zaC a r
 go:∀ q r k,q<a.next.length->r<a.next.length->c q=c r->c ((a.next.getD q []).getD k 0).toNat=c ((a.next.getD r []).getD k 0).toNat
theorem getD_map {α β:Type} (f:α->β) (l:List α) (k:Nat) (d:α):(l.map f).getD k (f d)=f (l.getD k d):=by
 rw [dF,dF,dS];cases l[k]?<;>rfl
section
variable {a:Aut} {c:Nat->Nat} {rs:List Nat}
theorem Stb.hom (h:Stb a c rs):HomA a (quoA a c rs) c:=by
 refine⟨rfl,h.zero,fun i l hi hl=>?_,fun i hi=>?_⟩
 ·obtain⟨r,b,d,f⟩:=h.rep i hi;unfold aGo;show (c (if a.al.toNat.testBit l=true then _ else i))=if a.al.toNat.testBit l=true then (((rs.map fun q=>(a.next.getD q []).map fun x=>(c x.toNat:Int)).getD (c i) []).getD (place a.al.toNat l) 0).toNat else c i
  by_cases hb:a.al.toNat.testBit l=true
  ·rw [if_pos hb,if_pos hb];have g:(rs.map fun q=>(a.next.getD q []).map fun x=>(c x.toNat:Int)).getD (c i) []=(a.next.getD r []).map fun x=>(c x.toNat:Int):=by
    rw [dF,dS,b];rfl
   have j:((a.next.getD r []).map fun x=>(c x.toNat:Int)).getD (place a.al.toNat l) 0=(c ((a.next.getD r []).getD (place a.al.toNat l) 0).toNat:Int):=by
    have:=getD_map (fun x:Int=>(c x.toNat:Int)) (a.next.getD r []) (place a.al.toNat l) 0;simp only [Int.toNat_zero,h.zero] at this;exact this
   rw [g,j,eN];exact h.go i r _ hi d f.symm
  ·rw [if_neg hb,if_neg hb]
 ·obtain⟨r,b,d,f⟩:=h.rep i hi;show (rs.map (zaC a)).getD (c i) false=_;rw [dF,dS,b];exact h.acc r i d hi f
end
section
variable {a t:Aut} {c:Nat->Nat} {rs xs:List Nat} {N:Nat}
theorem Stb.fit (h:Stb a c rs)(ha:Fit N a)(hf:rs.length<=a.next.length)(hr:∀ r∈rs,r<a.next.length):Fit N (quoA a c rs):=by
 obtain⟨⟨g,i⟩,⟨t,p⟩,-,b⟩:=ha.row;have j:1<=rs.length:=by
  obtain⟨r,d,-⟩:=h.rep 0 oM;have:=(List.getElem?_eq_some_iff.1 d).1;omega
 unfold Fit quoA;simp only [dQ];refine⟨⟨g,i⟩,⟨j,oM⟩,trivial,fun q row hrow'=>?_⟩;rw [dS] at hrow';obtain⟨r,n,rfl⟩:=Option.map_eq_some_iff.1 hrow';have f:=hr r (dC n);have m:a.next[r]?=some (a.next.getD r []):=by
  rw [dF,dD f];rfl
 obtain⟨d,k⟩:=b r _ m;rw [dQ];refine⟨d,fun y hy=>?_⟩;obtain⟨x,o,rfl⟩:=List.mem_map.1 hy;have s:=k x o;obtain⟨u,l,-⟩:=h.rep x.toNat oM;have:=(List.getElem?_eq_some_iff.1 l).1;omega
theorem Stb.minF (h:Stb a c rs)(ha:Fit N a)(ht:zdE (quoA a c rs) t xs) {v:List Nat}(hv:∀ l∈v,l<6):zaC t (zbh t 0 v)=zaC a (zbh a 0 v):=
 (ht.acc_run hv).trans (h.hom.accF ha hv).symm
end
def ctn (c:Nat->Nat):Nat->Nat
 |0=>0
 |k+1=>max (ctn c k) (c k+1)
def FO (c:Nat->Nat) (n:Nat):Prop:=∀ k,k<n->c k<=ctn c k
section
variable {c d:Nat->Nat} {n:Nat}
theorem zhR (c:Nat->Nat) :∀ {k:Nat},j<k->c j<ctn c k
 |0,h=>oM
 |k+1,h=>by
  unfold ctn
  rcases eF (eQ h) with h1|rfl
  ·have:=zhR c h1
   omega
  ·omega
theorem fo_hit (h:FO c n) :∀ {k:Nat},k<=n->x<ctn c k->∃ j,j<k∧c j=x
 |0,_,hx=>by simp [ctn] at hx
 |k+1,hk,hx=>by
  unfold ctn at hx
  by_cases h1:x<ctn c k
  ·obtain⟨j,h2,h3⟩:=fo_hit h oM h1
   exact⟨j,oM,h3⟩
  ·have:=h k oM
   exact⟨k,oM,oM⟩
theorem fo_step (hc:FO c n)(hd:FO d n)(hr:∀ q r,q<n->r<n->d q=d r->c q=c r) (hk:k<n) :
  ctn c (k+1)+ctn d k<=ctn d (k+1)+ctn c k∧(d k<ctn d k->c k<ctn c k):=by
 have g:=hc k hk;have i:=hd k hk
 by_cases hlt:d k<ctn d k
 ·obtain⟨j,f,e⟩:=fo_hit hd oM hlt;have b:=hr j k oM hk e;have a:=zhR c f;rw [b] at a;refine⟨?_,fun _=>a⟩;simp only [ctn];omega
 ·refine⟨?_,fun h=>absurd h hlt⟩;simp only [ctn];omega
theorem yN16a1 {P:Prop}(h:P:=by
 intro k
 induction k with
 |zero=>intro _;exact Nat.le_refl _
 |succ k ih =>
  intro hk;have:=ih oM;have:=(fo_step hc hd hr (k:=k) oM).1;omega
 ):P:=h
theorem fo_eq (hc:FO c n)(hd:FO d n)(hr:∀ q r,q<n->r<n->d q=d r->c q=c r)(he:ctn d n=ctn c n):∀ k,k<n->d k=c k:=by
 have h:∀ k,k<=n->ctn c k<=ctn d k:=by
  exact yN16a1
 have a:∀ i k,k+i=n->ctn d k<=ctn c k:=by
  intro i
  induction i with
  |zero=>
   intro k hk;obtain rfl:k=n:=oM
   omega
  |succ i ih =>
   intro k hk;have:=ih (k+1) oM;have:=(fo_step hc hd hr (k:=k) oM).1;omega
 have b:∀ k,k<=n->ctn d k=ctn c k:=fun k hk=>Nat.le_antisymm (a (n - k) k oM) (h k hk);intro k
 induction k using Nat.strongRecOn with
 |ind k ih =>
  intro hk;have m:=hc k hk;have o:=hd k hk;have l:=b k oM;have f:=b (k+1) oM
  by_cases hlt:d k<ctn d k
  ·obtain⟨j,g,e⟩:=fo_hit hd oM hlt;have p:=hr j k oM hk e;have s:=ih j g oM;omega
  ·simp only [ctn] at f;omega
end
structure RepI (c:Nat->Nat) (k:Nat) (rs:List Nat):Prop where
 len:rs.length=ctn c k
 lt:∀ r∈rs,r<k
 rep:∀ j,j<k->∃ r,rs[c j]?=some r∧r<k∧c r=c j
section
variable {c:Nat->Nat} {n k:Nat} {rs:List Nat}
theorem RepI.zero:RepI c 0 []:=⟨rfl,fun r h=>by simp at h,fun j h=>oM⟩
theorem RepI.skip (h:RepI c k rs)(hk:c k<rs.length)(hc:FO c n)(hkn:k<n):RepI c (k+1) rs:=by
 have g:ctn c (k+1)=ctn c k:=by
  have:=h.len;simp only [ctn];omega
 refine⟨by rw [g];exact h.len,fun r hr=>by have:=h.lt r hr;omega,fun j hj=>?_⟩;rcases eF (eQ hj) with l|rfl
 ·obtain⟨r,b,d,a⟩:=h.rep j l;exact⟨r,b,oM,a⟩
 ·obtain⟨i,b,d⟩:=fo_hit hc (k:=j) oM (x:=c j) (oH h.len);obtain⟨r,a,m,f⟩:=h.rep i b;rw [d] at a f;exact⟨r,a,oM,f⟩
theorem RepI.push (h:RepI c k rs)(hk:¬ c k<rs.length)(hc:FO c n)(hkn:k<n):RepI c (k+1) (rs++[k]):=by
 have g:=hc k hkn;have i:=h.len;have b:c k=rs.length:=oM;refine⟨?_,fun r hr=>?_,fun j hj=>?_⟩
 ·rw [dN,dZ];simp only [ctn];omega
 ·rcases List.mem_append.1 hr with hr|hr
  ·have:=h.lt r hr;omega
  ·obtain rfl:r=k:=by simpa using hr
   omega
 ·rcases eF (eQ hj) with d|rfl
  ·obtain⟨r,a,l,f⟩:=h.rep j d;exact⟨r,by rw [dJ (List.getElem?_eq_some_iff.1 a).1];exact a,oM,f⟩
  ·exact⟨j,by rw [b,dP (dE _)];simp,oM,rfl⟩
theorem zhQ (hc:FO c n):∀ {k:Nat},k<=n->ctn c k<=k
 |0,_=>dE _
 |k+1,h=>by
  have h1:=zhQ hc (k:=k) oM
  have h2:=hc k oM
  simp only [ctn]
  omega
theorem RepI.few (h:RepI c n rs)(hc:FO c n):rs.length<=n:=by rw [h.len];exact zhQ hc (dE _)
theorem stb_of (hn:n=a.next.length)(h0:0<n)(hc:FO c n)(hr:RepI c n rs) (zjf:∀ q r,q<n->r<n->c q=c r->zaC a q=zaC a r)
  (hrow:∀ q r,q<n->r<n->c q=c r->(a.next.getD q []).map (fun x=>c x.toNat)=(a.next.getD r []).map (fun x=>c x.toNat)):Stb a c rs:=by
 subst hn;have f:c 0=0:=by
  have:=hc 0 h0;simpa [ctn] using this
 refine⟨f,hr.rep,zjf,fun q r k hq hr' e=>?_⟩;have b:=getD_map (fun x:Int=>c x.toNat) (a.next.getD q []) k 0;have d:=getD_map (fun x:Int=>c x.toNat) (a.next.getD r []) k 0;rw [← b,← d,hrow q r hq hr' e]
end
def keyL (f:Nat->List UInt8) (x:Nat) (r:List Nat):List UInt8:=f x++r.flatMap fun y=>44 :: f y
section
variable {f:Nat->List UInt8} {B:Nat}
theorem keyL_snoc (x:Nat) (r:List Nat) (y:Nat):keyL f x (r++[y])=keyL f x r++(44 :: f y):=by
 unfold keyL;rw [List.flatMap_append,gW];simp
theorem zhi:∀ {u v s t:List UInt8},44∉u->44∉v->(s=[]∨∃ s',s=44 :: s')->(t=[]∨∃ t',t=44 :: t')->u++s=v++t->u=v∧s=t
 |[],[],_,_,_,_,_,_,h=>⟨rfl,h⟩
 |[],b :: v,s,t,_,hv,hs,_,h=>by
  exfalso
  rcases hs with rfl|⟨s',rfl⟩
  ·simp at h
  ·simp only [eG,gP,List.cons.injEq] at h
   exact hv (by simp [h.1])
 |a :: u,[],s,t,hu,_,_,ht,h=>by
  exfalso
  rcases ht with rfl|⟨t',rfl⟩
  ·simp at h
  ·simp only [eG,gP,List.cons.injEq] at h
   exact hu (by simp [h.1])
 |a :: u,b :: v,s,t,hu,hv,hs,ht,h=>by
  simp only [gP,List.cons.injEq] at h
  obtain⟨rfl,h⟩:=h
  obtain⟨h1,h2⟩:=zhi (fun h=>hu (by simp [h])) (fun h=>hv (by simp [h])) hs ht h
  exact⟨by rw [h1],h2⟩
theorem tail_form (r:List Nat):(r.flatMap fun y=>44 :: f y)=[]∨∃ s',(r.flatMap fun y=>44 :: f y)=44 :: s':=by
 cases r with
 |nil=>exact .inl rfl
 |cons y r=>exact .inr ⟨f y++r.flatMap fun y=>44 :: f y,sM⟩
theorem keyL_inj (hf:∀ x,x<B->44∉f x)(hi:∀ x y,x<B->y<B->f x=f y->x=y):∀ {r t:List Nat} {x y:Nat},x<B->y<B->(∀ z∈r,z<B)->(∀ z∈t,z<B)->keyL f x r=keyL f y t->x=y∧r=t
 |r,t,x,y,hx,hy,hr,ht,h=>by
  unfold keyL at h
  obtain⟨h1,h2⟩:=zhi (hf x hx) (hf y hy) (tail_form r) (tail_form t) h
  refine⟨hi x y hx hy h1,?_⟩
  cases r with
  |nil=>cases t with
   |nil=>rfl
   |cons b t=>simp at h2
  |cons a r=>cases t with
   |nil=>simp at h2
   |cons b t =>
    rw [iJ,iJ,gP,gP,List.cons.injEq] at h2
    obtain⟨h3,h4⟩:=keyL_inj hf hi (r:=r) (t:=t) (hr a sM) (ht b sM) (fun z hz=>hr z (by simp [hz])) (fun z hz=>ht z (by simp [hz])) h2.2
    rw [h3,h4]
termination_by r=>r.length
end
theorem dig_comma (h:x<100):(44:UInt8)∉Lib.decDigits x:=by
 intro hm
 by_cases h1:x<10
 ·rw [Lib.decDigits_one h1] at hm;have:=congrArg UInt8.toNat (List.mem_singleton.1 hm);simp at this;omega
 ·rw [Lib.decDigits_two h1 h] at hm;rcases List.mem_cons.1 hm with e|e
  ·have:=congrArg UInt8.toNat e;simp at this;omega
  ·have:=congrArg UInt8.toNat (List.mem_singleton.1 e);simp at this;omega
theorem dig_inj (hx:x<100)(hy:y<100)(h:Lib.decDigits x=Lib.decDigits y):x=y:=by
 by_cases h1:x<10<;>by_cases h2:y<10
 ·rw [Lib.decDigits_one h1,Lib.decDigits_one h2] at h;have:=congrArg UInt8.toNat (List.cons.inj h).1;simp at this;omega
 ·rw [Lib.decDigits_one h1,Lib.decDigits_two h2 hy] at h;have:=congrArg List.length h;simp at this
 ·rw [Lib.decDigits_two h1 hx,Lib.decDigits_one h2] at h;have:=congrArg List.length h;simp at this
 ·rw [Lib.decDigits_two h1 hx,Lib.decDigits_two h2 hy] at h;have a:=congrArg UInt8.toNat (List.cons.inj h).1;have b:=congrArg UInt8.toNat (List.cons.inj (List.cons.inj h).2).1;simp at a b;omega
theorem dig_len (h:x<100):(Lib.decDigits x).length<=2:=by
 by_cases h1:x<10
 ·rw [Lib.decDigits_one h1];simp
 ·rw [Lib.decDigits_two h1 h];simp
def rowC (c:Nat->Nat) (r:List Int):List Nat:=r.map fun x=>c x.toNat
def kyB (c:Nat->Nat) (x:Nat) (r:List Int):ByteArray:=⟨(keyL Lib.decDigits x (rowC c r)).toArray⟩
theorem kyB_inj {c:Nat->Nat}(hc:∀ q,c q<100) (hx:x<100)(hy:y<100) {t:List Int}(h:kyB c x r=kyB c y t):x=y∧rowC c r=rowC c t:=by
 unfold kyB at h;have a:=congrArg (fun z:ByteArray=>z.data.toList) h;simp only at a;refine keyL_inj (B:=100) (fun x hx=>dig_comma hx) (fun x y hx hy=>dig_inj hx hy) hx hy (fun z hz=>?_) (fun z hz=>?_) a
 ·obtain⟨q,-,rfl⟩:=List.mem_map.1 hz;exact hc _
 ·obtain⟨q,-,rfl⟩:=List.mem_map.1 hz;exact hc _
theorem keyL_size {c:Nat->Nat}(hc:∀ q,c q<100) (hx:x<100) (r:List Int):(keyL Lib.decDigits x (rowC c r)).length<=2+3*r.length:=by
 unfold keyL rowC;rw [dN,List.length_flatMap];have b:=dig_len hx;have a:∀ l:List Int,((l.map fun x=>c x.toNat).map fun y=>((44:UInt8) :: Lib.decDigits y).length).sum<=3*l.length:=by
  intro l
  induction l with
  |nil=>simp
  |cons z l ih =>
   have d:=dig_len (hc z.toNat);simp only [List.map_cons,List.sum_cons,List.length_cons] at ih ⊢;omega
 have:=a r;omega
theorem kyB_size {c:Nat->Nat}(hc:∀ q,c q<100) (hx:x<100) (r:List Int):(kyB c x r).size<=2+3*r.length:=by
 have:=keyL_size hc hx r;show (kyB c x r).data.size<=_;unfold kyB;simpa using this
theorem zgL {c d:Nat->Nat}:∀ {k:Nat},(∀ j,j<k->c j=d j)->ctn c k=ctn d k
 |0,_=>rfl
 |k+1,h=>by
  simp only [ctn]
  rw [zgL (k:=k) (fun j hj=>h j oM),h k oM]
def fnL (ds:List Nat) (j:Nat):Nat:=ds.getD j 0
theorem ziv (h:j<ds.length):fnL (ds++[v]) j=fnL ds j:=by
 unfold fnL;rw [dF,dF,dJ h]
theorem fnL_end :fnL (ds++[v]) ds.length=v:=by
 unfold fnL;rw [dF,dP (dE _)];simp
theorem zhU (h:j<ds.length):ds[j]?=some (fnL ds j):=by
 unfold fnL;rw [dF,dD h];rfl
structure zhs (ky:Nat->ByteArray) (ds:List Nat) (nm:Nat) (M:ByteArray->Option Nat):Prop where
 some_:∀ z v,M z=some v->∃ j,j<ds.length∧ky j=z
 at_:∀ j v,ds[j]?=some v->M (ky j)=some v
 inj:∀ z z' v,M z=some v->M z'=some v->z=z'
 ct:ctn (fnL ds) ds.length=nm
 fo:FO (fnL ds) ds.length
section
variable {ky:Nat->ByteArray} {ds:List Nat} {nm:Nat} {M:ByteArray->Option Nat}
theorem zhs.zero:zhs ky [] 0 (fun _=>none):=
 ⟨fun _ _ h=>(by cases h),fun _ _ h=>(by simp at h),fun _ _ _ h=>(by cases h),rfl,fun _ hk=>(by simp at hk)⟩
theorem zhs.lt (h:zhs ky ds nm M) {z:ByteArray} (hz:M z=some v):v<nm:=by
 obtain⟨j,b,rfl⟩:=h.some_ z v hz;have a:=h.at_ j _ (zhU b);rw [hz] at a;rw [Option.some.inj a,← h.ct];exact zhR _ b
theorem zhs.ctn_step (h:zhs ky ds nm M) (v:Nat):ctn (fnL (ds++[v])) (ds++[v]).length=max nm (v+1):=by
 rw [dN,dZ];simp only [ctn];rw [fnL_end,zgL (d:=fnL ds) (fun j hj=>ziv hj),h.ct]
theorem zhs.fo_step (h:zhs ky ds nm M) (hv:v<=nm):FO (fnL (ds++[v])) (ds++[v]).length:=by
 intro k hk;rw [dN,dZ] at hk;rw [zgL (d:=fnL ds) (fun j hj=>ziv oM)];rcases eF (eQ hk) with a|rfl
 ·rw [ziv a];exact h.fo k a
 ·rw [fnL_end,h.ct];exact hv
theorem zhs.hit (h:zhs ky ds nm M) (hv:M (ky ds.length)=some v):zhs ky (ds++[v]) nm M:=by
 have d:=h.lt hv;refine⟨fun z u hz=>?_,fun j u a=>?_,h.inj,by rw [h.ctn_step];omega,h.fo_step oM⟩
 ·obtain⟨j,a,e⟩:=h.some_ z u hz;exact⟨j,by simp;omega,e⟩
 ·have b:=(List.getElem?_eq_some_iff.1 a).1;rw [dN,dZ] at b;rcases eF (eQ b) with c|rfl
  ·rw [dJ c] at a;exact h.at_ j u a
  ·rw [dP (dE _)] at a;simp at a;rw [hv,a]
theorem zhs.miss (h:zhs ky ds nm M)(hv:M (ky ds.length)=none):zhs ky (ds++[nm]) (nm+1) (updG M (ky ds.length) nm):=by
 refine⟨fun z u hz=>?_,fun j u c=>?_,fun z z' u b a=>?_,by rw [h.ctn_step];omega,h.fo_step (dE _)⟩
 ·by_cases e:z=ky ds.length
  ·exact⟨ds.length,sM,e.symm⟩
  ·rw [zdQ M _ e] at hz;obtain⟨j,c,f⟩:=h.some_ z u hz;exact⟨j,by simp;omega,f⟩
 ·have d:=(List.getElem?_eq_some_iff.1 c).1;rw [dN,dZ] at d;rcases eF (eQ d) with b|rfl
  ·rw [dJ b] at c;have a:=h.at_ j u c;have e:ky j≠ky ds.length:=fun e=>by rw [e,hv] at a;cases a
   rw [zdQ M _ e,a]
  ·rw [dP (dE _)] at c;simp at c;rw [zdR,c]
 ·by_cases e:z=ky ds.length<;>by_cases e':z'=ky ds.length
  ·rw [e,e']
  ·rw [e,zdR] at b;rw [zdQ M _ e'] at a;have:=h.lt a;have:=Option.some.inj b;omega
  ·rw [e',zdR] at a;rw [zdQ M _ e] at b;have:=h.lt b;have:=Option.some.inj a;omega
  ·rw [zdQ M _ e] at b;rw [zdQ M _ e'] at a;exact h.inj z z' u b a
theorem zhs.same (h:zhs ky ds nm M) {r:Nat}(hq:q<ds.length)(hr:r<ds.length) (e:fnL ds q=fnL ds r):ky q=ky r:=by
 have a:=h.at_ q _ (zhU hq);have b:=h.at_ r _ (zhU hr);rw [e] at a;exact h.inj _ _ _ a b
end
structure ClsI (a:Aut) (cs:List Nat) (K:Nat):Prop where
 len:cs.length=a.next.length
 lt:∀ q,fnL cs q<100
 acc:∀ q r,q<a.next.length->r<a.next.length->fnL cs q=fnL cs r->zaC a q=zaC a r
 fo:K≠0->FO (fnL cs) cs.length∧ctn (fnL cs) cs.length=K
structure ClsR (a:Aut) (cs:List Nat):Prop where
 len:cs.length=a.next.length
 fo:FO (fnL cs) a.next.length
 acc:∀ q r,q<a.next.length->r<a.next.length->fnL cs q=fnL cs r->zaC a q=zaC a r
 row:∀ q r,q<a.next.length->r<a.next.length->fnL cs q=fnL cs r->(a.next.getD q []).map (fun x=>fnL cs x.toNat)=(a.next.getD r []).map (fun x=>fnL cs x.toNat)
section
variable {a:Aut} {cs ds:List Nat} {K nm N:Nat} {M:ByteArray->Option Nat}
theorem fo_le {c d:Nat->Nat} (hc:FO c n)(hd:FO d n)(hr:∀ q r,q<n->r<n->d q=d r->c q=c r):∀ k,k<=n->ctn c k<=ctn d k:=by
 exact yN16a1
theorem fo_small {c:Nat->Nat} (h:FO c n) (hq:q<n):c q<n:=by
 have a:=zhR c hq;have b:=zhQ h (dE n);omega
abbrev kyR (a:Aut) (cs:List Nat) (q:Nat):ByteArray:=kyB (fnL cs) (fnL cs q) (a.next.getD q [])
theorem ClsI.keys (h:ClsI a cs K)(hn:zhs (kyR a cs) ds nm M)(hl:ds.length=a.next.length) {r:Nat}(hq:q<a.next.length)(hr:r<a.next.length) (e:fnL ds q=fnL ds r) :
  fnL cs q=fnL cs r∧rowC (fnL cs) (a.next.getD q [])=rowC (fnL cs) (a.next.getD r []):=
 kyB_inj h.lt (h.lt q) (h.lt r) (hn.same oM oM e)
theorem ClsI.step (h:ClsI a cs K)(hn:zhs (kyR a cs) ds nm M)(hl:ds.length=a.next.length)(h0:1<=a.next.length)(hN:a.next.length<=99):ClsI a ds nm∧(nm≠K->K<nm)∧nm<=a.next.length:=by
 have b:FO (fnL ds) a.next.length:=by rw [← hl];exact hn.fo
 have c:ctn (fnL ds) a.next.length=nm:=by rw [← hl];exact hn.ct
 refine⟨⟨hl,fun q=>?_,fun q r hq hr e=>h.acc q r hq hr (h.keys hn hl hq hr e).1,fun _=>⟨hn.fo,hn.ct⟩⟩,fun hne=>?_,?_⟩
 ·by_cases hq:q<a.next.length
  ·have:=fo_small b hq;omega
  ·unfold fnL;rw [dF,eC oM];decide
 ·by_cases hK:K=0
  ·have:=zhR (fnL ds) (j:=0) (k:=a.next.length) oM;omega
  ·obtain⟨d,f⟩:=h.fo hK;rw [h.len] at d f;have:=fo_le d b (fun q r hq hr e=>(h.keys hn hl hq hr e).1) a.next.length (dE _);omega
 ·rw [← c];exact zhQ b (dE _)
theorem ClsI.stop (h:ClsI a cs K)(hn:zhs (kyR a cs) ds K M)(hl:ds.length=a.next.length)(ha:Fit N a):ClsR a ds:=by
 have c:FO (fnL ds) a.next.length:=by rw [← hl];exact hn.fo
 have d:ctn (fnL ds) a.next.length=K:=by rw [← hl];exact hn.ct
 have l:=ha.row.2.1.1;have hK:K≠0:=by
  have:=zhR (fnL ds) (j:=0) (k:=a.next.length) oM;omega
 obtain⟨g,i⟩:=h.fo hK;rw [h.len] at g i;have f:=fo_eq g c (fun q r hq hr e=>(h.keys hn hl hq hr e).1) (by rw [d,i]);have b:∀ q,q<a.next.length->(a.next.getD q []).map (fun x=>fnL ds x.toNat)=rowC (fnL cs) (a.next.getD q []):=fun q hq=>by
  unfold rowC;refine List.map_congr_left fun x hx=>?_;have m:=(ha.row.2.2.2 q _ (by rw [dF,dD hq];rfl)).2 x hx;exact f _ oM
 exact⟨hl,c,fun q r hq hr e=>h.acc q r hq hr (h.keys hn hl hq hr e).1,fun q r hq hr e=>by rw [b q hq,b r hr];exact (h.keys hn hl hq hr e).2⟩
theorem ClsI.zero (h:cs.length=a.next.length)(hc:∀ q,q<a.next.length->fnL cs q=if zaC a q=true then 1 else 0):ClsI a cs 0:=by
 refine⟨h,fun q=>?_,fun q r hq hr e=>?_,fun h=>absurd rfl h⟩
 ·by_cases hq:q<a.next.length
  ·rw [hc q hq]
   split<;>decide
  ·unfold fnL;rw [dF,eC oM];decide
 ·rw [hc q hq,hc r hr] at e;cases h1:zaC a q<;>cases h2:zaC a r<;>simp_all
theorem ClsR.stb {rs:List Nat}(h:ClsR a cs)(ha:Fit N a)(hr:RepI (fnL cs) a.next.length rs):Stb a (fnL cs) rs:=
 stb_of rfl (oH ha.row.2.1.1) h.fo hr h.acc h.row
end
section
open Go.Maps
section
variable {α:Type} {mt kt:TypeId} {val:α->Value} {lit:α->Lit} {dom:α->Prop}
def MapN (kt:TypeId) (lit:α->Lit) (dom:α->Prop) (w:World) (b n:Nat) (M:α->Option Nat):Prop:=
 ∃ D:DataW Unit,w.ownsMap Tryz.prog kt (plainElem Tryz.prog 3) b n D∧Maps.size D=n∧∀ x,dom x->Maps.has D (lit x)=(M x).isSome∧∀ v,M x=some v->D.atKey (lit x) (.lit (.int .i64 0))=.lit (.int .i64 (v:Int))
section
variable {w w':World} {b n:Nat} {M:α->Option Nat}
theorem MapN.g (h:MapN kt lit dom w b n M):MapG kt lit dom w b n M:=by
 obtain⟨D,a,-,c⟩:=h;exact⟨D,a,c⟩
theorem MapN.made (w:World):MapN kt lit dom (w.alloc (.map #[] 0)) w.heap.size 0 (fun _=>none):=
 ⟨.map [],World.ownsMap_made _ _ _ _,rfl,fun x hx=>⟨rfl,fun v hv=>by cases hv⟩⟩
theorem MapN.frm (h:MapN kt lit dom w b n M)(hf:Frm S w w')(hS:¬ S b):MapN kt lit dom w' b n M:=by
 obtain⟨D,⟨d,a,c,r⟩,f,g⟩:=h;exact⟨D,⟨d,a,(hf.block b (Array.getElem?_eq_some_iff.1 c).1 hS).trans c,r⟩,f,g⟩
theorem MapN.ext (h:MapN kt lit dom w b n M)(hx:Ext w w'):MapN kt lit dom w' b n M:=h.frm hx id
end
variable (w:World) {ops:Array Oper} {rest:List Oper} {o:Oper} {a:Act} {Q:Exit->Act->World->Prop}
theorem zhL (K:KeyG mt kt val lit dom)(hg:o.guard=none) (m x v:Operand)(hop:o.op=Op.mapUpdate mt m x v)  {M:α->Option Nat}
  (hm:a.eval m=.map (some b)) (h:MapN kt lit dom w b n M) (hn:n<1152921504606846976) (key:α) (v9:Nat) (hx:a.eval x=val key) (hv:a.eval v=.int .i64 (v9:Int)) (hk:dom key) (hv9:v9<1152921504606846976) (hnew:M key=none)
  (hK:∀ w',MapN kt lit dom w' b (n+1) (updG M key v9)->w.grownBy w' (some b)->wpList Tryz.prog ops Q rest (a.put o.dst undef) w'):wpList Tryz.prog ops Q (o :: rest) a w:=by
 refine wpList_plain hg fun K' hK'=>?_;obtain⟨D,d,l,k⟩:=h;have c:=K.key hk;obtain⟨w',i,p,q⟩:=d.update K.keyed K.und lM c (plainElem_int (H:=Unit) Tryz.underlying3 (wfG hv9));have j:Maps.size (D.put (lit key) (.lit (.int .i64 (v9:Int))))=n+1:=by
  rw [size_put (d.tidy K.keyed),(k key hk).1,hnew];simp [l]
 have f:MapN kt lit dom w' b (n+1) (updG M key v9):=⟨_,p,j,fun y hy=>by
  unfold updG
  by_cases e:y=key
  ·subst e;rw [if_pos rfl];exact⟨has_put_same d.isMap (K.keyed.key c) _,fun u hu=>by rw [atKey_put_same d.isMap (K.keyed.key c)];cases hu;rfl⟩
  ·have g:lit y≠lit key:=fun h=>e (K.inj hy hk h);rw [if_neg e,has_put_other g,atKey_put_other g];exact k y hy⟩
 unfold Oper.wp;simp [execOp,hop,hm,hx,hv,i,Result.andThen];exact hK' _ _ (hK w' f q)
theorem zcR (K:KeyG mt kt val lit dom)(hg:o.guard=none) (m:Operand)(hop:o.op=Op.call { callee:=Callee.builtin Builtin.len,args:=#[m],argTypes:=#[mt] })  {M:α->Option Nat}
  (hm:a.eval m=.map (some b)) (h:MapN kt lit dom w b n M) (hK:wpList Tryz.prog ops Q rest (a.put o.dst (.int .i64 (n:Int))) w):wpList Tryz.prog ops Q (o :: rest) a w:=by
 obtain⟨D,c,d,-⟩:=h;refine wpList_len_own w hg m mt hop kt 3 K.und _ b n D hm c ?_;rw [d];exact hK
end
end
section
open Go.Lib
theorem itoa_small (i:Nat)(h:i<100) (w:World) :
  Calls Tryz.prog 303 #[i] w fun e w'=>e=.returned (.string ⟨(Lib.decDigits i).toArray⟩)∧w=w':=by
 go_enter Tryz.func303,Tryz.ntmps303
 go_name_bytes_deep 45 SM hSM
 have b:SM=Lib.smalls:=by rw [← hSM];decide +kernel
 subst b;clear hSM
 go_name_bytes_deep 30 DG hDG
 have a:DG=Lib.digits36:=by rw [← hDG];decide +kernel
 subst a;clear hDG
 by_cases h10:i<10
 ·have c:∀ w,(Instr.slice 9 (.string Lib.digits36) (some (.int .i64 (i:Int))) (some (.int .i64 ((i:Int)+1))) none).run Tryz.prog w=.ok (.string (Lib.digits36.extract i (i+1))) w:=fun w=>by
   rw [run_slice_string w 9 Lib.digits36 .i64 .i64 _ _ Tryz.underlying9 oM oM (by rw [Lib.digits36_size];omega),show ((i:Int)).toNat=i by omega,show ((i:Int)+1).toNat=i+1 by omega]
  go_wp2;go_ret;refine⟨?_,rfl⟩;show Ending.returned (Value.string (Lib.digits36.extract i (i+1)))=_;rw [AnyPlain.small_ba (Lib.digits36.extract i (i+1)) (Lib.decDigits i) (by rw [Lib.extract_data];exact Lib.digits36_piece h10)]
 ·have c:∀ w,(Instr.slice 9 (.string Lib.smalls) (some (.int .i64 ((i:Int)*2))) (some (.int .i64 ((i:Int)*2+2))) none).run Tryz.prog w=.ok (.string (Lib.smalls.extract (i*2) (i*2+2))) w:=fun w=>by
   rw [run_slice_string w 9 Lib.smalls .i64 .i64 _ _ Tryz.underlying9 oM oM (by rw [Lib.smalls_size];omega),show ((i:Int)*2).toNat=i*2 by omega,show ((i:Int)*2+2).toNat=i*2+2 by omega]
  go_wp2;go_ret;refine⟨?_,rfl⟩;show Ending.returned (Value.string (Lib.smalls.extract (i*2) (i*2+2)))=_;rw [AnyPlain.small_ba (Lib.smalls.extract (i*2) (i*2+2)) (Lib.decDigits i) (by rw [Lib.extract_data];exact Lib.smalls_piece h10 h)]
theorem itoa_format (i:Nat)(h:i<100) (w:World) :
  Calls Tryz.prog 302 #[i,(10:Int)] w fun e w'=>e=.returned (.string ⟨(Lib.decDigits i).toArray⟩)∧w=w':=by
 have a:=za (itoa_small i h);have b:(0:Int)<=(i:Int)∧(i:Int)<100:=oM
 go_enter Tryz.func302,Tryz.ntmps302
 go_wp2_with (go_at_call 303;refine (a.out _).mono ?_;rintro e c ⟨rfl,rfl⟩)
 go_ret;exact⟨rfl,rfl⟩
theorem itoa_in (i:Nat)(h:i<100) (w:World) :
  Calls Tryz.prog 296 #[i] w fun e w'=>e=.returned (.string ⟨(Lib.decDigits i).toArray⟩)∧w=w':=by
 go_enter Tryz.func296,Tryz.ntmps296
 go_wp2_with (go_at_call 302;refine (itoa_format i h _).mono ?_;rintro e a ⟨rfl,rfl⟩)
 go_ret;exact⟨rfl,rfl⟩
theorem lib_Itoa (i:Nat)(h:i<100) (w:World) :
  Calls Tryz.prog 267 #[i] w fun e w'=>e=.returned (.string ⟨(Lib.decDigits i).toArray⟩)∧w=w':=by
 go_enter Tryz.func267,Tryz.ntmps267
 go_wp2_with (go_at_call 296;refine (itoa_in i h _).mono ?_;rintro e a ⟨rfl,rfl⟩)
 go_ret;exact⟨rfl,rfl⟩
end
section
open Go.WideMaps Go.Maps
theorem keyS:KeyG 169 9 (fun x:ByteArray=>.string x) (fun x=>.string x.data.toList) (fun x=>x.size<=9223372036854775807):=
 ⟨string_keyed Tryz.underlying9,Tryz.underlying169,fun {x} h=>by simp [keyOf,Tryz.underlying9,mapKey,maxLen,h],fun _ _ e=>by
  injection e with e
  exact ByteArray.ext (Array.ext' e)⟩
end
abbrev domC (x:ByteArray):Prop:=x.size<=9223372036854775807
abbrev MapC (w:World) (b n:Nat) (M:ByteArray->Option Nat):Prop:=MapN 9 (fun x:ByteArray=>Lit.string x.data.toList) domC w b n M
theorem made_z (n:Nat):(madeCells (Value.int .i64 0).cells (n*1)).toList=zae (dT n 0):=by
 simp [Value.cells,toList_madeCells_one,zae]
theorem kyB_snoc {c:Nat->Nat}  (hr:r[j]?=some (y:Int))(hv:c y=v):kyB c x (r.take (j+1))=kyB c x (r.take j)++((⟨#[44]⟩:ByteArray)++(⟨(Lib.decDigits v).toArray⟩:ByteArray)):=by
 have h:rowC c (r.take (j+1))=rowC c (r.take j)++[v]:=by
  unfold rowC;rw [dO,hr,eD,eK,iS,eN,hv]
 unfold kyB;rw [h,keyL_snoc];refine ByteArray.ext ?_;simp
theorem kyB_zero (c:Nat->Nat) (x:Nat) (r:List Int):kyB c x (r.take 0)=(⟨(Lib.decDigits x).toArray⟩:ByteArray):=by
 simp [kyB,keyL,rowC]
theorem fill_z (hk:ds.length=k)(hm:k<m):(zae (ds++dT (m - k) 0)).set k (.int .i64 (v:Nat))=zae ((ds++[v])++dT (m - (k+1)) 0):=by
 rw [← zdY,List.set_append_right _ _ oM,hk,Nat.sub_self,show m - k=(m - (k+1))+1 by omega,List.replicate_succ,List.set_cons_zero,gW];rfl
theorem fnL_set {cs:List Nat}  (v:Nat)(hq:q<cs.length):fnL (cs.set q v) j=if j=q then v else fnL cs j:=by
 unfold fnL;rw [dF,dF,List.getElem?_set]
 by_cases e:q=j
 ·subst e;rw [if_pos rfl,if_pos hq,if_pos rfl];rfl
 ·rw [if_neg e,if_neg (fun h=>e h.symm)]
def RetClz (w:World) (a:Aut) (e:Ending) (w':World):Prop:=
 ∃ (ds:List Nat) (g:Nat),e=.returned (.slice (some g) a.next.length a.next.length)∧w'.ownsRow w.heap.size 3 1 (.slice (some g) a.next.length a.next.length) a.next.length (zae ds)∧ClsR a ds∧Ext w w'
theorem zhw (h:zH w lo hi B m B' m' a)(hv:Fit N a)(hN:N<=99) :
  Calls Tryz.prog 192 #[.agg #[a.al,.slice B m d,.slice B' m' d']] w (RetClz w a):=by
 obtain⟨-,⟨n1,bo⟩,au,aj⟩:=hv.row;have S:=za h.n1;have aR:=za (show m'=m by rw [h.n1,h.n2,au]);have HN:=za (fun W (hW:Ext w W)=>h.1.ext hW);have HB:=za (fun W (hW:Ext w W)=>h.2.2.ext hW);have aS:=za aj;have Hv:=za hv;have bz:m<=99:=by rw [h.n1];omega
 have bO:1<=m:=by rw [h.n1];omega
 have h6:=zy a.al.toNat 6;have bP:=@run_makeMap Tryz.prog;clear aj h n1 bo hv hN au
 go_enter Tryz.func192,Tryz.ntmps192
 go_upto_region 1 with fail
 generalize U0:w.alloc _=R at *;obtain⟨ar,V⟩:=Ext.x1_ U0;clear U0;have c1:=V.cell;go_upto_region 2 with (at_make;refine zbm R R rfl _ _ 110 rfl 3 _ 1 8 Tryz.underlying110 zS _ _ m rfl rfl (dB _) oM lM ?_;intro w2 hx12 zjo hx2 hsz2)
 rw [made_z] at zjo;clear c1 hx2 hsz2;have c1:=(V.ext hx12).cell;obtain⟨G,hG⟩:∃ G,Hid (G=R.heap.size):=⟨_,rfl⟩;have aV:R.heap.size<=G:=oH hG.out;have ai:w2.ownsRow G 3 1 (.slice (some ⟨G,0,none⟩) m m) m (zae (dT m 0)):=by rw [hG.out];exact zjo
 rw [← hG.out];clear zjo;go_wp2_with fail
 go_loopw [4,21] (fun _ i wr=>∃ (q:Nat) (cs:List Nat),i=.int .i64 q∧q<=m∧Hid (cs.length=m∧∀ j,j<m->fnL cs j=if j<q∧zaC a j=true then 1 else 0)∧wr.ownsRow G 3 1 (.slice (some G) m m) m (zae cs)∧Ext R wr) (fun _ i _=>m - (intOf i).toNat)
 case atStart=>exact⟨0,_,rfl,dG _,za ⟨sM,fun j Y=>by rw [if_neg oM];unfold fnL;rw [dF,List.getElem?_replicate,if_pos Y];rfl⟩,ai,hx12⟩
 case round =>
  clear ai hx12 c1;obtain⟨q,cs,rfl,hq,f,c,hx⟩:=hrel;have c1:=(V.ext hx).cell
  by_cases hlt:q<m
  ·have a3:(q:Int)<(m:Int):=oM;have bx:(q:Int)<(m':Int):=oH aR.out;obtain⟨ad,bb,rfl,-,-,hb,cb⟩:=(HB.out wr (ar.trans hx)).bool (k:=q) (oH aR.out);have aX:=za (show zaC a q=bb by unfold zaC;rw [dF,hb.out];rfl);obtain⟨o0,g0⟩:=zaM c q oM;have f0:=c.frozenAt q;cases bb with
   |true =>
    have a8:=(c.stored q (.int .i64 (1:Nat))).1;rw [← zdY] at a8;have ag:=za (show (cs.set q 1).length=m∧∀ j,j<m->fnL (cs.set q 1) j=if j<q+1∧zaC a j=true then 1 else 0 from ⟨by rw [List.length_set];exact f.out.1,fun j Y=>by
     rw [fnL_set 1 (oH f.out.1),f.out.2 j Y]
     by_cases e:j=q
     ·subst e;rw [if_pos rfl,if_pos ⟨oM,aX.out⟩]
     ·rw [if_neg e]
      by_cases e2:j<q∧zaC a j=true
      ·rw [if_pos e2,if_pos ⟨oM,e2.2⟩]
      ·rw [if_neg e2,if_neg (fun h=>e2 ⟨oM,h.2⟩)]⟩)
    have bl:Ext R (wr.setCell ⟨G,q,none⟩ (.int .i64 (1:Nat))):=hx.setCell (p:=⟨G,q,none⟩) aV _;clear c hx hb;go_wp2_with fail
    go_roundw
    case rel=>exact⟨q+1,_,gM,oM,ag,a8,bl⟩
    case measure=>simp [intOf];omega
   |false =>
    have ag:=za (show cs.length=m∧∀ j,j<m->fnL cs j=if j<q+1∧zaC a j=true then 1 else 0 from ⟨f.out.1,fun j Y=>by
     rw [f.out.2 j Y]
     by_cases e:j=q
     ·subst e;rw [if_neg (fun h=>oM),if_neg (fun h=>by have:=aX.out;rw [h.2] at this;cases this)]
     ·by_cases e2:j<q∧zaC a j=true
      ·rw [if_pos e2,if_pos ⟨oM,e2.2⟩]
      ·rw [if_neg e2,if_neg (fun h=>e2 ⟨oM,h.2⟩)]⟩)
    clear hb;go_wp2_with fail
    go_roundw
    case rel=>exact⟨q+1,_,gM,oM,ag,c,hx⟩
    case measure=>simp [intOf];omega
  ·obtain rfl:m=q:=oM;have aW:=za (ClsI.zero (a:=a) (cs:=cs) (by rw [f.out.1,S.out]) (fun j Y=>by
    rw [f.out.2 j (by rw [S.out];exact Y)]
    by_cases e:zaC a j=true
    ·rw [if_pos ⟨by rw [S.out];exact Y,e⟩,if_pos e]
    ·rw [if_neg (fun h=>e h.2),if_neg e]))
   have ah:=za (zn c aV);have a9:=za hx;clear c hx c1 f;go_wp2_with fail
   go_loopw [3,5,6,7,8,9,10,12,13,14] (fun v3 v5 _ _ _ _ _ _ _ _ wr=>∃ (g:Nat) (cs:List Nat) (K:Nat),v3=.slice (some g) m m∧v5=.int .i64 K∧K<=m∧Hid (ClsI a cs K)∧Hid (wr.ownsRow R.heap.size 3 1 (.slice (some g) m m) m (zae cs))∧Hid (Ext R wr)) (fun _ v5 _ _ _ _ _ _ _ _ _=>m+1 - (intOf v5).toNat)
   case atStart=>exact⟨G,cs,0,rfl,rfl,dG _,aW,ah,a9⟩
   case round =>
    clear aW ah a9;obtain⟨g,cs,K,rfl,rfl,hK,hI,c,hx⟩:=hrel;obtain⟨Q,aN⟩:∃ Q,Q=wr:=⟨_,rfl⟩;subst aN;have ao:Ext Q (Q.alloc (.map #[] 0)):=(dB _).alloc _;have af:MapC (Q.alloc (.map #[] 0)) Q.heap.size 0 (fun _=>none):=MapN.made Q;go_upto_region 10 with fail
    obtain⟨mb,a4⟩:∃ mb,Hid (mb=Q.heap.size):=⟨_,rfl⟩;rw [← a4.out] at af ⊢;have bA:R.heap.size<=mb:=by have:=a4.out;have:=hx.out.size;omega
    generalize Q.alloc (.map #[] 0)=w4 at *;go_upto_region 11 with (at_make;refine zbm w4 w4 rfl _ _ 110 rfl 3 _ 1 8 Tryz.underlying110 zS _ _ m rfl rfl (dB _) oM lM ?_;intro w5 hx45 zjq hx5 hsz5)
    rw [made_z] at zjq;clear hx5;obtain⟨n,aG⟩:∃ n,Hid (n=w4.heap.size):=⟨_,rfl⟩;rw [← aG.out] at zjq ⊢;have a0:R.heap.size<=n:=by have:=aG.out;have:=hx.out.size;have:=ao.size;omega
    have aA:=za (hx.out.trans (ao.trans hx45));have E:=za (zn zjq a0);have u:=za (af.ext hx45);have aw:=za (zh c.out (ao.trans hx45));have bi:=za (fun (e:g=mb)=>u.out.g.ao aw.out (by rw [e];rfl));have a1:=za (show g≠n from fun e=>by
     have h1:=(c.out.lt g rfl).2;have h2:=ao.size;have h3:=aG.out;omega)
    have ax:=za (show n≠mb from fun e=>u.out.g.ao zjq (by rw [e];rfl));have k1:=(V.ext aA.out).cell;clear ao af hx45 zjq hsz5 c;go_wp2_with fail
    go_loopw [8,9,10,12,13,14,40] (fun _ _ _ _ _ _ i wr=>∃ (k t:Nat) (I:List Nat) (M:ByteArray->Option Nat),i=.int .i64 k∧k<=m∧Hid (I.length=k)∧Hid (zhs (kyR a cs) I t M)∧Hid (MapC wr mb t M)∧Hid (wr.ownsRow R.heap.size 3 1 (.slice (some n) m m) m (zae (I++dT (m - k) 0)))∧Hid (Frm (fun b=>b=mb∨b=n) w5 wr)) (fun _ _ _ _ _ _ i _=>m - (intOf i).toNat)
    case atStart=>exact⟨0,0,[],_,rfl,dG _,za rfl,za zhs.zero,u,E,za (Frm.refl _ _)⟩
    case round =>
     clear u E k1;obtain⟨k,t,I,M,rfl,hk,o,L,l,O,aq⟩:=hrel;have F:=za (aA.out.frm aq.out (fun b hb e=>by rcases e with e|e<;>omega))
     have aY:=za (zf aw.out aq.out (fun b hb e=>by
      have h1:g=b:=by simpa [Value.ownBlock] using hb
      rcases e with e|e
      ·exact bi.out (h1.trans e)
      ·exact a1.out (h1.trans e)))
     have k1:=(V.ext F.out).cell
     by_cases hlt:k<m
     ·obtain⟨ad,Ak,ck,row,rfl,_,_,az,bh,a6⟩:=(HN.out wr (ar.trans F.out)).row hlt;obtain⟨bj,a5⟩:=aS.out k row az.out;have bc:=za a5;have bd:=za a6;have a3:(k:Int)<(m:Int):=oM;have bB:row.length<=6:=oM;have aD:∀ j,j<m->wr.cell? ⟨g,j,none⟩=some (.int .i64 (fnL cs j:Nat)):=fun j Y=>by
       rw [aY.out.cellAt j oM];unfold zae;rw [dS,zhU (by rw [hI.out.len,← S.out];exact Y)];rfl
      have be:=za aD;have aU:=aD k hlt;have bk:=za (show a.next.getD k []=row by rw [dF,az.out];rfl);obtain⟨x,aO⟩:∃ x,Hid (fnL cs k=x):=⟨_,rfl⟩;have an:x<100:=by rw [← aO.out];exact hI.out.lt k
      rw [aO.out] at aU;obtain⟨z0,aP⟩:∃ z0,Hid (kyB (fnL cs) x (row.take 0)=z0):=⟨_,rfl⟩;have J:=za (fun W=>lib_Itoa x an W);rw [← kyB_zero (fnL cs) x row,aP.out] at J;clear a6 a5 bj aD;go_upto_region 15 with (go_at_call 267;refine (J.out _).mono ?_;rintro e w6 ⟨rfl,rfl⟩)
      clear aU k1 bh;obtain⟨Q,aN⟩:∃ Q,Q=wr:=⟨_,rfl⟩;subst aN;go_wp2_with fail
      go_loopw [10,12,52] (fun v10 _ jv wr=>∃ j:Nat,v10=.string (kyB (fnL cs) x (row.take j))∧jv=.int .i64 j∧j<=row.length∧wr=Q) (fun _ _ jv _=>row.length - (intOf jv).toNat)
      case atStart=>exact⟨0,by rw [aP.out],rfl,dG _,rfl⟩
      case round =>
       clear aP J;obtain⟨j,rfl,rfl,Y,rfl⟩:=hrel;have Z:=kyB_size hI.out.lt an (row.take j);rw [List.length_take] at Z;obtain⟨H,aH⟩:∃ H,Hid (kyB (fnL cs) x (row.take j)=H):=⟨_,rfl⟩;rw [aH.out] at Z ⊢;have bw:H.size<=20:=oM;clear Z
       by_cases hjl:j<row.length
       ·have bu:(j:Int)<(row.length:Int):=oM;obtain⟨bJ,y0,rfl,_,_,ba,bN⟩:=bd.out.int hjl;obtain⟨y1,y2⟩:=bc.out y0 (dC ba.out);obtain⟨y,rfl⟩:∃ y:Nat,y0=y:=⟨y0.toNat,oM⟩;have bm:y<m:=oH S.out;have bC:(y:Int)<(m:Int):=oM;have cy:=be.out y bm;obtain⟨v,aL⟩:∃ v,Hid (fnL cs y=v):=⟨_,rfl⟩;have ak:v<100:=by rw [← aL.out];exact hI.out.lt y
        rw [aL.out] at cy;have aJ:=za (kyB_snoc (x:=x) ba.out aL.out);rw [aH.out] at aJ;obtain⟨z,hz⟩:∃ z:ByteArray,Hid ((⟨(Lib.decDigits v).toArray⟩:ByteArray)=z):=⟨_,rfl⟩;have bR:z.size<=2:=by rw [← hz.out];exact (show (Lib.decDigits v).toArray.size<=2 by simpa using dig_len ak)
        have J:=za (fun W=>lib_Itoa v ak W);rw [hz.out] at J aJ;have q1:¬ 9223372036854775807<1+z.size:=oM;have q2:¬ 9223372036854775807<H.size+(1+z.size):=oM;clear y1 y2;go_wp2_with (go_at_call 267;refine (J.out _).mono ?_;rintro e w6 ⟨rfl,rfl⟩)
        go_roundw
        case rel=>exact⟨j+1,by rw [aJ.out],gM,oM,trivial⟩
        case measure=>simp [intOf];omega
       ·obtain rfl:j=row.length:=oM;have aa:=za (show kyR a cs I.length=H by
         show kyB (fnL cs) (fnL cs I.length) (a.next.getD I.length [])=H;rw [o.out,bk.out,aO.out,← aH.out,eI])
        have aE:=za (show domC H by show H.size<=_;omega);obtain⟨o0,g0⟩:=zaM O.out k oM;have f0:=O.out.frozenAt k;cases hM:M H with
        |some v =>
         have r:=(O.out.stored k (.int .i64 (v:Nat))).1;rw [fill_z o.out hlt] at r;have U:=za r;have C:=za (L.out.hit (v:=v) (by rw [aa.out,hM]));have X:=za (aq.out.cell (p:=⟨n,k,none⟩) (.inr rfl) (.int .i64 (v:Nat)));have ae:=za (l.out.frm (dH wr n k (.int .i64 (v:Nat))) (fun e=>ax.out e.symm));have aK:(M H).isSome=true:=by rw [hM];rfl
         have aC:=za hM;clear hM r;go_upto_region 21 with (refine zbV (key:=H) _ keyS rfl _ _ rfl rfl l.out.g rfl aE.out ?_;rw [aK];intro cc hcc;obtain rfl:=hcc v aC.out;clear hcc)
         go_wp2_with fail
         go_roundw
         case rel=>exact⟨k+1,t,I++[v],M,gM,oM,za (by have:=o.out;simp;omega),C,ae,U,X⟩
         case measure=>simp [intOf];omega
        |none =>
         have C:=za (L.out.miss (by rw [aa.out,hM]));rw [aa.out] at C;have bQ:t<=k:=by have:=zhQ L.out.fo (dE _);have:=L.out.ct;have:=o.out;omega
         have aK:(M H).isSome=false:=by rw [hM];rfl
         have aC:=za hM;clear hM;go_upto_region 21 with (refine zbV (key:=H) _ keyS rfl _ _ rfl rfl l.out.g rfl aE.out ?_;rw [aK];intro cc hcc;clear hcc)
         go_upto_region 24 with (first
          |(at_len;refine zcR _ keyS rfl _ rfl rfl l.out ?_)
          |(refine zhL (key:=H) (v9:=t) (b:=mb) _ keyS rfl _ _ _ rfl rfl l.out oM rfl rfl aE.out oM aC.out ?_;intro w7 hm7 hg7))
         have aF:Frm (fun b=>some mb=some b) wr w7:=Frm.ab hg7;have D:=zf O.out aF (fun b hb e=>by
          obtain rfl:=Option.some.inj e;exact l.out.g.ao O.out hb)
         obtain⟨o7,g7⟩:=zaM D k oM;have f7:=D.frozenAt k;have r:=(D.stored k (.int .i64 (t:Nat))).1;rw [fill_z o.out hlt] at r;have U:=za r;have X:=za ((aq.out.trans (aF.mono (T:=fun b=>b=mb∨b=n) (fun b _ e=>.inl (Option.some.inj e).symm))).cell (p:=⟨n,k,none⟩) (.inr rfl) (.int .i64 (t:Nat)));have ae:=za (hm7.frm (dH w7 n k (.int .i64 (t:Nat))) (fun e=>ax.out e.symm));clear r hm7 hg7 aF D g0 f0;go_wp2_with fail
         go_roundw
         case rel=>exact⟨k+1,t+1,I++[t],_,gM,oM,za (by have:=o.out;simp;omega),C,ae,U,X⟩
         case measure=>simp [intOf];omega
     ·obtain rfl:m=k:=oM;have aZ:=za (show I.length=a.next.length by rw [o.out,S.out]);have ay:=za (show wr.ownsRow R.heap.size 3 1 (.slice (some n) m m) m (zae I) by
       have:=O.out;rwa [Nat.sub_self,List.replicate_zero,List.append_nil] at this)
      obtain⟨s,ab,aI⟩:=hI.out.step L.out aZ.out (oH S.out) (oH S.out);have aB:=za s
      by_cases hE:t=K
      ·subst hE;have a7:=za (show RetClz w a (.returned (.slice (some n) m m)) wr from ⟨I,n,by rw [S.out],by
        have:=zn ay.out ar.size;rwa [S.out] at this,hI.out.stop L.out aZ.out Hv.out,ar.trans F.out⟩)
       clear s ab aI;go_wp2_with (at_len;refine zcR _ keyS rfl _ rfl rfl l.out ?_)
       go_ret;exact a7.out
      ·have bL:¬ (t:Int)=(K:Int):=oM;have bM:=ab hE;have a2:t<=m:=by rw [S.out];exact aI
       clear s ab aI;go_wp2_with (at_len;refine zcR _ keyS rfl _ rfl rfl l.out ?_)
       go_roundw
       case rel=>exact⟨n,I,t,rfl,rfl,a2,aB,ay,F⟩
       case measure=>simp [intOf];omega
structure Sfx where
 s:Sys
 p:Aut
 L:Nat
 A:Option Addr
 n:Nat
 c:Nat
 B:Option Addr
 m:Nat
 d:Nat
 B':Option Addr
 m':Nat
 d':Nat
 mv:Nat
 RA:Option Addr
 rc:Nat
 HA:Option Addr
 hc:Nat
 G:Nat
 mb:Nat
 b0:Nat
 lo:Nat
 w9:World
section
variable {F:Sfx} {Ts:List (List Nat)} {n:Nat} {nx:Nat->Nat->Int} {us:List Bool} {k:Nat} {M:List Nat->Option Nat} {vs vn vu:Value} {W W':World}
theorem own_sl {g:Nat}(h:(Value.slice (some g) n cap).ownBlock=some q):q=g:=by simpa [Value.ownBlock] using h.symm
end
theorem zho (W:World) {base:Nat}(h:base<=W.heap.size):∃ wb:World,wb.heap.size=base∧Ext wb W:=by
 refine⟨{ W with heap:=W.heap.extract 0 base },by simp;omega,⟨rfl,rfl,rfl,by simp;omega,fun k hk _=>?_⟩⟩
 have a:k<base:=by simp at hk;omega
 show W.heap[k]?=(W.heap.extract 0 base)[k]?;rw [Array.getElem?_extract];simp only [Nat.sub_zero,Nat.zero_add];rw [if_pos oM]
structure zhr (W:World) (S:Nat->Prop) (base N G:Nat) (al:Int) (v:Value) (ls:List (List Int)) (vA:Value) (acc:List Bool):Prop where
 gra:∃ wb:World,wb.heap.size=base∧Gra wb W G al v ls vA acc∧∃ rows,W.ownsRow base 110 1 v ls.length rows∧zE W base rows ls∧∀ (i:Nat) (r:Value) (b:Nat),rows[i]?=some r->r.ownBlock=some b->¬ S b∧b<N
 fG:¬ S G
 fv:∀ b,v.ownBlock=some b->¬ S b
 fA:∀ b,vA.ownBlock=some b->¬ S b
section
variable {J:zht} {B b0 base N G:Nat} {S S':Nat->Prop} {W W':World} {al:Int} {v vA:Value} {ls:List (List Int)} {acc:List Bool}
theorem zhr.blk (h:zhr W S base N G al v ls vA acc):Blk W G 27 #[.int .i64 al,v,vA]:=by
 obtain⟨b,rfl,a,-⟩:=h.gra;exact a.blk
theorem zhr.frmT {T:Nat->Prop}(h:zhr W S base N G al v ls vA acc)(hf:Frm T W W')(hT:∀ b,b<W.heap.size->T b->S b∨(∀ (t:TypeId) (cs:Array Value),Blk W b t cs->t≠27∧t≠110∧t≠4∧t≠3))(hS:∀ b,b<W.heap.size->¬ S b->¬ S' b):zhr W' S' base N G al v ls vA acc:=by
 obtain⟨x,rfl,f,d,m,o,p⟩:=h.gra;obtain⟨wc,c,s⟩:=zho W' (base:=x.heap.size) (Nat.le_trans f.ext.size hf.size);have D:¬ T G:=fun ht=>by
  rcases hT G f.blk.lt ht with j|j
  ·exact h.fG j
  ·exact (j _ _ f.blk).1 rfl
 have a:∀ {e:TypeId} {size n:Nat} {u:Value} {xs:List Value},W.ownsRow x.heap.size e size u n xs->(e=110∨e=4∨e=3)->(∀ b,u.ownBlock=some b->¬ S b)->∀ b,u.ownBlock=some b->¬ T b:=fun k he hs b hb ht=>by
  rcases hT b (k.lt b hb).2 ht with j|j
  ·exact hs b hb j
  ·rcases k.2 with ⟨q,_⟩|⟨g,B,C,q,_,E,_⟩
   ·rw [q] at hb;simp [Value.ownBlock] at hb
   ·rw [q] at hb;have:g=b:=by simpa [Value.ownBlock] using hb
    subst this;have:=j _ _ E;rcases he with rfl|rfl|rfl
    ·exact this.2.1 rfl
    ·exact this.2.2.1 rfl
    ·exact this.2.2.2 rfl
 have y:=zf m hf (a m (.inl rfl) h.fv);have z:zE W' x.heap.size d ls:=o.frm hf (fun i r b hr hb=>by
  obtain⟨l,_,k⟩:=o.row hr;exact a k (.inr (.inr rfl)) (fun b hb=>(p i r b hr hb).1) b hb)
 have F:=zf f.acc hf (a f.acc (.inr (.inl rfl)) h.fA);refine⟨⟨wc,c,⟨f.blk.frm hf D,⟨d,by rw [c];exact y,by rw [c];exact z⟩,by rw [c];exact F,s,by rw [c];exact f.hG⟩,d,y,z,fun i r b hr hb=>?_⟩,hS G f.blk.lt h.fG,fun b hb=>hS b (m.lt b hb).2 (h.fv b hb),fun b hb=>hS b (f.acc.lt b hb).2 (h.fA b hb)⟩;obtain⟨l,_,k⟩:=o.row hr;exact⟨hS b (k.lt b hb).2 (p i r b hr hb).1,(p i r b hr hb).2⟩
theorem zhr.ext (h:zhr W S base N G al v ls vA acc)(hx:Ext W W'):zhr W' S base N G al v ls vA acc:=h.frmT hx (fun _ _ h=>h.elim) (fun _ _ hn=>hn)
theorem zhr.reN (h:zhr W S base N G al v ls vA acc):zhr W S base W.heap.size G al v ls vA acc:=by
 obtain⟨k,rfl,g,a,d,c,f⟩:=h.gra;refine⟨⟨k,rfl,g,a,d,c,fun i r b hr hb=>⟨(f i r b hr hb).1,?_⟩⟩,h.fG,h.fv,h.fA⟩;obtain⟨l,_,j⟩:=c.row hr;exact (j.lt b hb).2
theorem zhr.push {l:List Int} {g:Nat} {row:Value} {rows:List Value}(h:zhr W S base N G al v ls vA acc) (r1:W.ownsRow base 110 1 v ls.length rows) (r2:zE W base rows ls) (r3:∀ (i:Nat) (r:Value) (b:Nat),rows[i]?=some r->r.ownBlock=some b->¬ S b∧b<N)(hN:base<=N)
  (hrow:W.ownsRow N 3 1 row l.length (ints l)) (hrS:∀ b,row.ownBlock=some b->¬ S b) (hfr:∀ q,W.heap.size<=q->¬ S q)
  (zje:W'.ownsRow base 110 1 (.slice (some g) (ls.length+1) cap) (ls.length+1) (rows++[row])) (hg:W.grownBy W' v.ownBlock) (hat:v.ownBlock=some g∨g=W.heap.size+1) :
  Blk W' G 27 #[al,v,vA]∧zhr (W'.setCell ⟨G,1,none⟩ (.slice (some g) (ls.length+1) cap)) S base (W'.setCell ⟨G,1,none⟩ (.slice (some g) (ls.length+1) cap)).heap.size G al (.slice (some g) (ls.length+1) cap) (ls++[l]) vA acc:=by
 obtain⟨s,rfl,a,-⟩:=h.gra;have p:Frm (fun k=>v.ownBlock=some k) W W':=Frm.ab hg;have o:Blk W' G 27 #[.int .i64 al,v,vA]:=a.blk.frm p (fun e=>zq r1 a.blk dM e rfl);have t:g≠G:=by
  rcases hat with f|f
  ·exact zq r1 a.blk dM f
  ·have:=a.blk.lt;omega
 have m:zE W' s.heap.size (rows++[row]) (ls++[l]):=(r2.snoc2 (fun i r b hr hb=>(r3 i r b hr hb).2) hN hrow).frm p (fun i r b hr hb hS=>by
  obtain⟨z,_,j⟩:=(r2.snoc2 (fun i r b hr hb=>(r3 i r b hr hb).2) hN hrow).row hr;exact zaI j r1 dM hb hS)
 have n:=zf a.acc p (fun b hb hS=>zaI a.acc r1 dM hb hS);have c:=dH W' G 1 (.slice (some g) (ls.length+1) cap);have C:(ls++[l]).length=ls.length+1:=sM;have B:(W'.setCell ⟨G,1,none⟩ (.slice (some g) (ls.length+1) cap)).ownsRow s.heap.size 110 1 (.slice (some g) (ls.length+1) cap) (ls++[l]).length (rows++[row]):=by
  rw [C];exact zf zje c (fun b hb e=>by obtain rfl:=own_sl hb;exact t e)
 have x:zE (W'.setCell ⟨G,1,none⟩ (.slice (some g) (ls.length+1) cap)) s.heap.size (rows++[row]) (ls++[l]):=m.frm c (fun i r b hr hb hS=>by
  obtain⟨z,_,j⟩:=m.row hr;exact zq j o dM hb hS)
 have D:=zf n c (fun b hb hS=>zq n o dM hb hS);obtain⟨wc,d,u⟩:=zho (W'.setCell ⟨G,1,none⟩ (.slice (some g) (ls.length+1) cap)) (base:=s.heap.size) (by have f:=a.ext.size;have y:=p.size;have E:=c.size;omega);refine⟨o,⟨⟨wc,d,⟨by simpa using o.ae 1 (.slice (some g) (ls.length+1) cap),⟨rows++[row],by rw [d];exact B,by rw [d];exact x⟩,by rw [d];exact D,u,by rw [d];exact a.hG⟩,rows++[row],B,x,fun i r b hr hb=>?_⟩,h.fG,fun b hb=>?_,h.fA⟩⟩
 ·obtain⟨z,_,j⟩:=x.row hr;refine⟨?_,(j.lt b hb).2⟩;rcases Nat.lt_or_ge i rows.length with f|f
  ·rw [dJ f] at hr;exact (r3 i r b hr hb).1
  ·rw [dP f] at hr;have y:i - rows.length=0:=by
    have:=(List.getElem?_eq_some_iff.1 hr).1;simp at this;omega
   rw [y] at hr;obtain rfl:row=r:=by simpa using hr
   exact hrS b hb
 ·obtain rfl:=own_sl hb;rcases hat with e|e
  ·exact h.fv _ e
  ·exact hfr _ oM
theorem zhr.pushA {x:Bool} {g:Nat}(h:zhr W S base N G al v ls vA acc)(hfr:∀ q,W.heap.size<=q->¬ S q)
  (zje:W'.ownsRow base 4 1 (.slice (some g) (acc.length+1) cap) (acc.length+1) (zaw acc++[.bool x])) (hg:W.grownBy W' vA.ownBlock) (hat:vA.ownBlock=some g∨g=W.heap.size+1) :
  Blk W' G 27 #[al,v,vA]∧zhr (W'.setCell ⟨G,2,none⟩ (.slice (some g) (acc.length+1) cap)) S base N G al v ls (.slice (some g) (acc.length+1) cap) (acc++[x]):=by
 obtain⟨m,rfl,a,d,y,z,F⟩:=h.gra;have l:Frm (fun k=>vA.ownBlock=some k) W W':=Frm.ab hg;have j:Blk W' G 27 #[.int .i64 al,v,vA]:=a.blk.frm l (fun e=>zq a.acc a.blk dM e rfl);have o:g≠G:=by
  rcases hat with n|n
  ·exact zq a.acc a.blk dM n
  ·have:=a.blk.lt;omega
 have t:=zf y l (fun b hb hS=>zaI y a.acc dM hb hS);have u:zE W' m.heap.size d ls:=z.frm l (fun i r b hr hb hS=>by
  obtain⟨E,_,p⟩:=z.row hr;exact zaI p a.acc dM hb hS)
 have c:=dH W' G 2 (.slice (some g) (acc.length+1) cap);have D:(acc++[x]).length=acc.length+1:=sM;have B:=zf t c (fun b hb hS=>zq t j dM hb hS);have C:zE (W'.setCell ⟨G,2,none⟩ (.slice (some g) (acc.length+1) cap)) m.heap.size d ls:=u.frm c (fun i r b hr hb hS=>by
  obtain⟨E,_,p⟩:=u.row hr;exact zq p j dM hb hS)
 have H:(W'.setCell ⟨G,2,none⟩ (.slice (some g) (acc.length+1) cap)).ownsRow m.heap.size 4 1 (.slice (some g) (acc.length+1) cap) (acc++[x]).length (zaw (acc++[x])):=by
  rw [D,show zaw (acc++[x])=zaw acc++[.bool x] by simp [zaw]];exact zf zje c (fun b hb e=>by obtain rfl:=own_sl hb;exact o e)
 obtain⟨wc,f,s⟩:=zho (W'.setCell ⟨G,2,none⟩ (.slice (some g) (acc.length+1) cap)) (base:=m.heap.size) (by have n:=a.ext.size;have I:=l.size;have J:=c.size;omega);refine⟨j,⟨⟨wc,f,⟨by simpa using j.ae 2 (.slice (some g) (acc.length+1) cap),⟨d,by rw [f];exact B,by rw [f];exact C⟩,by rw [f];exact H,s,by rw [f];exact a.hG⟩,d,B,C,F⟩,h.fG,h.fv,fun b hb=>?_⟩⟩;obtain rfl:=own_sl hb;rcases hat with e|e
 ·exact h.fA _ e
 ·exact hfr _ oM
theorem zhr.own {A A':Option Addr} {c n' c':Nat}(h:zhr W S base N G al (.slice A n c) ls (.slice A' n' c') acc):zZ W base A n c A' n' c' ⟨al,ls,acc⟩:=by
 obtain⟨q,rfl,b,d,k,o,p⟩:=h.gra;have m:n=ls.length:=by
  rcases k.2 with ⟨a,l⟩|⟨g,f,i,a,_⟩
  ·injection a with _ h3;omega
  ·injection a
 have j:n'=acc.length:=by
  rcases b.acc.2 with ⟨a,l⟩|⟨g,f,i,a,_⟩
  ·injection a with _ h3;omega
  ·injection a
 subst m;subst j;exact⟨⟨d,k,o⟩,rfl,b.acc,rfl⟩
end
theorem gra_first {G:Nat} {al:Int}(hx:Ext w W)(hb:Blk W G 27 #[al,(),()])(hG:w.heap.size<=G)(hS:¬ S G):zhr W S w.heap.size W.heap.size G al (.slice none 0 0) [] (.slice none 0 0) []:=
 ⟨⟨w,rfl,⟨hb,⟨[],World.ownsRow_nil _ _ _ _,zE.nil _ _⟩,World.ownsRow_nil _ _ _ _,hx,hG⟩,[],World.ownsRow_nil _ _ _ _,zE.nil _ _,fun i r b hr=>by simp at hr⟩,hS,fun b hb=>by simp [Value.ownBlock] at hb,fun b hb=>by simp [Value.ownBlock] at hb⟩
structure MinR (N:Nat) (a t:Aut):Prop where
 fit:Fit N t
 al:t.al=a.al
 acc:∀ v:List Nat,(∀ l∈v,l<6)->zaC t (zbh t 0 v)=zaC a (zbh a 0 v)
theorem MinR.same (h:MinR 12 a t)(ha:zi a=true):zfF a t:=⟨h.al,ha,h.fit.valid h.fit.row.2.1.2,fun v hv=>(h.acc v hv).symm⟩
def RetMin (w:World) (N:Nat) (a:Aut) (e:Ending) (w':World):Prop:=
 ∃ (t:Aut) (A:Option Addr) (n c:Nat) (A':Option Addr) (n' c':Nat),e=.returned (.agg #[t.al,.slice A n c,.slice A' n' c'])∧zZ w' w.heap.size A n c A' n' c' t∧MinR N a t∧Ext w w'
def zeF (a:Aut) (cs:List Nat) (q:Nat):List Int:=(a.next.getD q []).map fun x=>(fnL cs x.toNat:Int)
theorem quoA_eq (a:Aut) (cs rs:List Nat):quoA a (fnL cs) rs=⟨a.al,rs.map (zeF a cs),rs.map (zaC a)⟩:=rfl
theorem ziA (h:zH w lo hi B m B' m' a)(hv:Fit N a)(hN:N<=99) :
  Calls Tryz.prog 101 #[.agg #[a.al,.slice B m d,.slice B' m' d']] w (RetMin w N a):=by
 obtain⟨-,⟨n1,bN⟩,ah,R⟩:=hv.row;have Hn:=za h.n1;have bq:=za (show m'=m by rw [h.n1,h.n2,ah]);have HA:=za (fun W (hW:Ext w W)=>h.ext hW);have aQ:=za R;have Hv:=za hv;have bX:m<=99:=by rw [h.n1];omega
 have h6:=zy a.al.toNat 6;have HN:=za hN;clear R h n1 bN hv hN ah
 go_enter Tryz.func101,Tryz.ntmps101
 go_upto_region 1 with fail
 generalize U0:(w.alloc _).alloc _=w0 at *;obtain⟨a6,b1,b2⟩:=Ext.x2_ U0;clear U0;have k1:=b1.cell;go_upto_region 2 with (go_at_call 192;refine (zhw (HA.out _ a6) Hv.out HN.out).mono ?_;rintro e C ⟨s,g,rfl,aG,hC,af⟩)
 rw [← Hn.out] at aG ⊢;have HC:=za hC;have B1:=za (b1.ext af);have B2:=za (b2.ext af);have U:=za (a6.trans af);have bc:=za aG;clear k1 b1 b2 af hC aG;have k1:=B1.out.cell;go_upto_region 3 with fail
 have bG:=Blk.new C 27 #[a.al,(),()];have aB:=(dB C).alloc (.cells #[a.al,(),()] 27);obtain⟨G,hG⟩:∃ G,Hid (G=C.heap.size):=⟨_,rfl⟩;rw [← hG.out] at bG ⊢;have ai:=za (gra_first (S:=fun _=>False) aB bG (oH hG.out) id);have ao:=za aB;clear k1 aB bG;generalize C.alloc _=w2 at *;have aa:=za (show FO (fnL s) m by rw [Hn.out];exact HC.out.fo);have bZ:w.heap.size+1<C.heap.size:=B2.out.lt;go_wp2_with fail
 go_loopw [5,6,7,9,17] (fun _ _ _ _ iv wr=>∃ (i:Nat) (v vA:Value) (l:List Nat),iv=.int .i64 i∧i<=m∧Hid (RepI (fnL s) i l)∧Hid (zhr wr (fun _=>False) C.heap.size wr.heap.size G a.al v (l.map (zeF a s)) vA (l.map (zaC a)))∧Hid (Ext C wr)) (fun _ _ _ _ iv _=>m - (intOf iv).toNat)
 case atStart=>exact⟨0,_,_,[],rfl,dG _,za RepI.zero,za (ai.out.reN),ao⟩
 case round =>
  clear ai ao;obtain⟨i,v,vA,l,rfl,hi,hR,z,T⟩:=hrel;have ch:l.length<=i:=by rw [hR.out.len];exact zhQ aa.out hi
  by_cases hlt:i<m
  ·have bW:(i:Int)<(m:Int):=oM;have aU:wr.cell? ⟨g,i,none⟩=some (.int .i64 (fnL s i:Nat)):=by
    rw [(zh bc.out T.out).cellAt i oM];unfold zae;rw [dS,zhU (by rw [HC.out.len,← Hn.out];exact hlt)];rfl
   obtain⟨f,r1,r2,r3⟩:∃ f,wr.ownsRow C.heap.size 110 1 v (l.map (zeF a s)).length f∧zE wr C.heap.size f (l.map (zeF a s))∧∀ (j:Nat) (r:Value) (b:Nat),f[j]?=some r->r.ownBlock=some b->¬ False∧b<wr.heap.size:=by
    obtain⟨wb,H,-,f,h⟩:=z.out.gra;exact⟨f,h⟩
   obtain⟨Av,cv,rfl⟩:=zg r1;rw [dQ] at r1;have kG:=z.out.blk.cell;rw [dQ] at kG;have ar:=za z.out;rw [dQ] at ar;clear r1 r2 r3 z;obtain⟨x,aD⟩:∃ x,Hid (fnL s i=x):=⟨_,rfl⟩;rw [aD.out] at aU
   by_cases hsk:x<l.length
   ·have a2:(x:Int)<(l.length:Int):=oM;have ax:=za (hR.out.skip (by rw [aD.out];exact hsk) aa.out hlt);go_wp2_with fail
    go_roundw
    case rel=>exact⟨i+1,_,_,l,gM,oM,ax,ar,T⟩
    case measure=>simp [intOf];omega
   ·have a2:¬ (x:Int)<(l.length:Int):=oM;have ax:=za (hR.out.push (by rw [aD.out];exact hsk) aa.out hlt);have Z:=za (HA.out wr (U.out.trans T.out));obtain⟨ad,Ak,ck,o,rfl,_,_,an,bB,aZ⟩:=Z.out.1.row hlt;obtain⟨bI,aY⟩:=aQ.out i o an.out;have bo:=za aY;have bY:o.length<=6:=oM;have bp:=za (fun W (hW:Ext wr W)=>aZ.ext hW);have bJ:=za (show zeF a s i=o.map fun x=>(fnL s x.toNat:Int) by unfold zeF;rw [dF,an.out];rfl);have k1:=(B1.out.ext T.out).cell;clear aZ bI aY;obtain⟨wo,bK⟩:∃ wo,wo=wr:=⟨_,rfl⟩;subst bK;go_upto_region 9 with fail
    go_wp2_with fail
    go_loopw [7,9,33] (fun v7 _ jv wr=>∃ j:Nat,jv=.int .i64 j∧j<=o.length∧Hid (wr.ownsRow wo.heap.size 3 1 v7 j (ints ((o.map fun x=>(fnL s x.toNat:Int)).take j)))∧Hid (Ext wo wr)) (fun _ _ jv _=>o.length - (intOf jv).toNat)
    case atStart=>exact⟨0,rfl,dG _,za (World.ownsRow_nil _ _ _ _),za (dB _)⟩
    case round =>
     clear aU kG k1 bB;obtain⟨j,rfl,hj,Q,I⟩:=hrel;obtain⟨A7,c7,rfl⟩:=zg Q.out
     by_cases hjl:j<o.length
     ·have bV:(j:Int)<(o.length:Int):=oM;obtain⟨b8,y0,rfl,_,_,a8,ce⟩:=(bp.out wr I.out).int hjl;obtain⟨y1,y2⟩:=bo.out y0 (dC a8.out);obtain⟨y,rfl⟩:∃ y:Nat,y0=y:=⟨y0.toNat,oM⟩;have bM:y<m:=oH Hn.out;have b0:(y:Int)<(m:Int):=oM;have cy:wr.cell? ⟨g,y,none⟩=some (.int .i64 (fnL s y:Nat)):=by
       rw [(zh bc.out (T.out.trans I.out)).cellAt y oM];unfold zae;rw [dS,zhU (by rw [HC.out.len,← Hn.out];exact bM)];rfl
      have ae:=za (show ints ((o.map fun x=>(fnL s x.toNat:Int)).take (j+1))=ints ((o.map fun x=>(fnL s x.toNat:Int)).take j)++[.int .i64 (fnL s y:Nat)] by
       rw [dO,dS,a8.out,ints,ints,eK];rfl)
      clear y1 y2;go_wp2_with (at_builtin;refine zQ wo wr rfl _ _ _ rfl 3 _ 1 8 Tryz.underlying110 zS rfl dM (.slice A7 j c7) j _ _ _ rfl rfl I.out.size Q.out rfl (zaL _) lM oM ?_;intro g9 cap9 w9 hown9 hg9 hat9 hlt9)
      have a1:=za (show w9.ownsRow wo.heap.size 3 1 (.slice (some g9) (j+1) cap9) (j+1) (ints ((o.map fun x=>(fnL s x.toNat:Int)).take (j+1))) by rw [ae.out];exact hown9);have aA:=za (I.out.grown hg9 (fun k hk=>(Q.out.lt k hk).1));go_roundw
      case rel=>exact⟨j+1,gM,oM,a1,aA⟩
      case measure=>simp [intOf];omega
     ·obtain rfl:j=o.length:=oM;have am:=za (show wr.ownsRow wo.heap.size 3 1 (.slice A7 o.length c7) (zeF a s i).length (ints (zeF a s i)) by
       have:=Q.out;rw [List.take_of_length_le sM] at this;rw [bJ.out,dQ];exact this)
      have F:=za (ar.out.ext I.out);obtain⟨f,r1,r2,r3⟩:∃ f,wr.ownsRow C.heap.size 110 1 (.slice Av l.length cv) (l.map (zeF a s)).length f∧zE wr C.heap.size f (l.map (zeF a s))∧∀ (j:Nat) (r:Value) (b:Nat),f[j]?=some r->r.ownBlock=some b->¬ False∧b<wo.heap.size:=by
       obtain⟨wb,H,-,f,h⟩:=F.out.gra;exact⟨f,h⟩
      have au:=za r1;have aO:=za r2;have aP:=za r3;have kG:=F.out.blk.cell;have aC:=za (T.out.trans I.out);have a4:=T.out.size;have a3:C.heap.size<=wr.heap.size:=aC.out.size;have cg:(l.map (zeF a s)).length<=99:=by rw [dQ];omega
      have J:=za r1;rw [dQ] at J;have bH:=za (fun (b:Nat) (_:(Value.slice A7 o.length c7).ownBlock=some b) (h:False)=>h);have bF:=za (show (l.map (zeF a s)).length=l.length from dQ _);have bE:=za (show (l.map (zaC a)).length=l.length from dQ _);clear r1 r2 r3;go_upto_region 14 with (at_builtin;refine zQ C wr rfl _ _ _ rfl 110 _ 1 24 Tryz.underlying24 zbw rfl dM (.slice Av l.length cv) l.length f _ _ rfl rfl a3 J.out rfl (zaF _ _ _) lM oM ?_;intro g7 cap7 w7 hown7 hg7 hat7 hlt7;rw [← bF.out] at hown7;obtain⟨av,L⟩:=F.out.push au.out aO.out aP.out a4 am.out bH.out (fun _ _ h=>h) hown7 hg7 hat7;have k7:=av.cell;have f7:=av.frozen;rw [dQ] at L)
      have az:=za ((aC.out.grown hg7 (fun k hk=>(au.out.lt k hk).1)).setCell (p:=⟨G,1,none⟩) (by have:=hG.out;show C.heap.size<=G;omega) (.slice (some g7) (l.length+1) cap7));have E:=za L;clear hown7 hg7 hat7 av L k7 f7 kG au aO aP am Q F aC J;generalize w7.setCell ⟨G,1,none⟩ (.slice (some g7) (l.length+1) cap7)=w8 at *;have aX:i<m':=oH bq.out;have bD:(i:Int)<(m':Int):=oM;obtain⟨aR,bb,rfl,-,-,hb,cb⟩:=(HA.out w8 (U.out.trans az.out)).2.2.bool aX;have bz:=za (show zaC a i=bb by unfold zaC;rw [dF,hb.out];rfl);have KB:∀ W,Ext w8 W->W.cell? (aR.add i)=some (.bool bb):=fun W hW=>hW.aa cb;have KA:∀ W,Ext w8 W->∀ q,W.cell? ⟨w.heap.size,q,none⟩=#[Value.int .i64 a.al,.slice (some ad) m d,.slice (some aR) m' d'][q]?:=fun W hW=>((B1.out.ext az.out).ext hW).cell;obtain⟨wb,H,ab,-⟩:=E.out.gra;have u:=ab.acc;rw [H,dQ] at u;obtain⟨AA,cA,rfl⟩:=zg u;have KG:=fun W (hW:Ext w8 W)=>(E.out.blk.ext hW).cell;have a5:=dB w8;clear cb hb ab H;refine uR (fun X=>Ext w8 X) [8,10] (zw.of [0,1,2,3,4,5,6,7,8,9,10]) ?_;refine uQ ?_;have V:=a5.drew;have aj:=za (E.out.ext V);have D:=zh u V;have ap:=za (az.out.trans V);clear KB KA KG a5 E u;generalize w8.drew=wd at *;refine zd fun K hK=>?_;go_simp;refine hK.out _ _ (V.alloc _) ?_;refine pT ?_;refine zb fun K hK=>?_;refine zaE C wd _ _ _ rfl 4 _ 1 1 Tryz.underlying25 zaT rfl dM (.slice AA l.length cA) l.length (zaw (l.map (zaC a))) _ _ rfl rfl ap.out.size D rfl (by simp [Value.oneCell']) lM oM ?_;intro g8 cap8 w9 hown8 hg8 hat8 hlt8;refine hK.out _ _ ?_;refine pT ?_;rw [← bE.out] at hown8;obtain⟨aw,M⟩:=aj.out.pushA (x:=bb) (fun _ _ h=>h) hown8 hg8 hat8;rw [dQ] at M;have k8:=aw.cell;have f8:=aw.frozen;have aA:=za ((ap.out.grown hg8 (fun k hk=>(D.lt k hk).1)).setCell (p:=⟨G,2,none⟩) (by have:=hG.out;show C.heap.size<=G;omega) (.slice (some g8) (l.length+1) cap8));have ak:=za M.reN;have O:=za (show l.map (zeF a s)++[zeF a s i]=(l++[i]).map (zeF a s)∧l.map (zaC a)++[bb]=(l++[i]).map (zaC a) from ⟨sM,by simp [bz.out]⟩);rw [O.out.1,O.out.2] at ak;clear hown8 hg8 hat8 D V aj M aw;refine uQ ?_;refine zb fun K hK=>?_;go_simp;refine hK.out _ _ ?_;refine ze ?_;clear k8 f8;go_wp2_with fail
      go_roundw
      case rel=>exact⟨i+1,_,_,l++[i],gM,oM,ax,ak,aA⟩
      case measure=>simp [intOf];omega
  ·obtain rfl:m=i:=oM;have ae:=za (HC.out.stb Hv.out (by rw [← Hn.out];exact hR.out));have aV:=za (hR.out.few aa.out);have aW:=za (ae.out.fit Hv.out (by rw [← Hn.out];exact aV.out) (fun r hr=>by rw [← Hn.out];exact hR.out.lt r hr));obtain⟨Av,cv,rfl⟩:∃ Av cv,v=.slice Av l.length cv:=by
    obtain⟨wb,H,-,f,h,-⟩:=z.out.gra;rw [dQ] at h;exact zg h
   obtain⟨AA,cA,rfl⟩:∃ AA cA,vA=.slice AA l.length cA:=by
    obtain⟨wb,H,ab,-⟩:=z.out.gra;have h:=ab.acc;rw [dQ] at h;exact zg h
   have kG:=z.out.blk.cell;have Z:=za (z.out.own.reads);rw [← quoA_eq] at Z;have bu:=za (impl_trimF (d:=cv) (d':=cA) Z.out aW.out (oH HN.out));have bA:=za (B2.out.ext T.out);go_wp2_with (go_at_call 193;refine bu.out.mono ?_;rintro e w5 ⟨t,xs,A,n,c,A',n',c',rfl,bw,ay,a7⟩;have Y:=bA.out.ext a7;have kz:=Y.cell;have fz:=Y.frozen)
   have hZ:=Y.lt;have bL:=za ((U.out.trans (T.out.trans a7)).frm (zV w5 (w.heap.size+1) (.int .i64 t.al) (.slice A n c) (.slice A' n' c')) (fun k hk e=>by have e':k=w.heap.size+1:=e;omega));have aT:=za ((bw.keep (zV w5 (w.heap.size+1) (.int .i64 t.al) (.slice A n c) (.slice A' n' c')) (fun b hb e=>by
    have e':b=w.heap.size+1:=e;have:=T.out.size;omega)).less (show w.heap.size<=wr.heap.size by have:=T.out.size;omega))
   have bC:=za (zaq Y rfl (.int .i64 t.al) (.slice A n c) (.slice A' n' c'));have a0:=za (show RetMin w N a (.returned (.agg #[t.al,.slice A n c,.slice A' n' c'])) _ from ⟨t,A,n,c,A',n',c',rfl,aT.out,⟨ay.fit aW.out,by rw [ay.al];rfl,fun v hv=>ae.out.minF Hv.out ay hv⟩,bL.out⟩);have cf:=bC.out.cell;exact bodyPost_ret (v:=.agg #[t.al,.slice A n c,.slice A' n' c']) (by simp [results,Tryz.results101,go_sem,cf]) rfl a0.out
def RetMz (w:World) (a:Aut) (e:Ending) (w':World):Prop:=
 ∃ (t:Aut) (A:Option Addr) (n c:Nat) (A':Option Addr) (n' c':Nat),e=.returned (.tuple #[.agg #[t.al,.slice A n c,.slice A' n' c'],.bool true])∧zZ w' w.heap.size A n c A' n' c' t∧zfF a t∧Ext w w'
theorem impl_MinimizeAutomaton (h:zH w lo hi B m B' m' a)(hv:zi a=true) :
  Calls Tryz.prog 37 #[.agg #[a.al,.slice B m d,.slice B' m' d']] w (RetMz w a):=by
 have H:=za (fun W (hW:Ext w W)=>h.ext hW);have D:=za (fun W (hW:Ext w W)=>zF _ _ _ _ d _ _ d' _ _ (h.ext hW));rw [hv] at D;have E:=za hv;clear h hv
 go_enter Tryz.func37,Tryz.ntmps37
 go_upto_region 1 with fail
 generalize U0:(w.alloc _).alloc _=U at *;obtain⟨q,F,I⟩:=Ext.x2_ U0;clear U0;have O:=F.cell;go_upto_region 3 with (go_at_call 25;refine (D.out _ q).mono (mQ fun Q i=>?_))
 have f:=q.trans i;have u:=F.ext i;have l:=I.ext i;have O:=u.cell;go_upto_region 99 with fail
 refine (ziA (H.out _ f) (fit_of E.out) oM).mono ?_;rintro e G ⟨t,A,n,c,j,s,o,rfl,x,z,r⟩;have g:=l.ext r;have T:=g.cell;have R:=g.frozen;have S:=l.lt;have C:=za ((f.trans r).frm (zV G (w.heap.size+1) (.int .i64 t.al) (.slice A n c) (.slice j s o)) (fun k hk e=>by have L:k=w.heap.size+1:=e;omega));have p:=za ((x.keep (zV G (w.heap.size+1) (.int .i64 t.al) (.slice A n c) (.slice j s o)) (fun b hb e=>by
  have L:b=w.heap.size+1:=e;omega)).less (show w.heap.size<=Q.heap.size by have:=f.size;omega))
 have y:=za (zaq g rfl (.int .i64 t.al) (.slice A n c) (.slice j s o));have M:=za (z.same E.out);go_wp2_with fail
 have J:=y.out.cell;exact bodyPost_ret (v:=.tuple #[.agg #[t.al,.slice A n c,.slice j s o],.bool true]) (by simp [results,Tryz.results37,go_sem,J]) rfl ⟨t,A,n,c,j,s,o,rfl,p.out,M.out,C.out⟩
theorem valid_len {s:Sys}(h:zk s=true):s.edges.length<=1536:=by
 unfold zk at h;simp only [dI,decide_eq_true_eq,List.all_eq_true] at h;obtain⟨-,⟨B,C⟩,f⟩:=h;have j:∀ (k:Nat) (e:Edg),s.edges[k]?=some e->(k:Int)<=(e.fr*6+e.le)*16+e.ta∧(e.fr*6+e.le)*16+e.ta<1536:=by
  intro k
  induction k with
  |zero =>
   intro e he;have:=f 0 (List.mem_range.2 (List.getElem?_eq_some_iff.1 he).1);unfold zbi at this;rw [he] at this;simp only [edgB,dI,decide_eq_true_eq] at this;obtain⟨⟨⟨m,n⟩,⟨o,p⟩,r,c⟩,-⟩:=this;unfold hasB at c;simp only [dI,decide_eq_true_eq] at c;omega
  |succ k ih =>
   intro e he;have hk:=(List.getElem?_eq_some_iff.1 he).1;have:=f (k+1) (List.mem_range.2 hk);unfold zbi at this;rw [he] at this;obtain⟨q,i⟩:∃ q,s.edges[k]?=some q:=⟨_,dD oM⟩;have t:=ih q i;rw [show k+1 - 1=k by omega,i] at this;simp only [edgB,dI,gJ,decide_eq_true_eq] at this;obtain⟨⟨⟨m,n⟩,⟨o,p⟩,r,c⟩,d⟩:=this;unfold hasB at c;simp only [dI,decide_eq_true_eq] at c;have a:=d.resolve_left oM;have b:=f k (List.mem_range.2 oM);unfold zbi at b;rw [i] at b;simp only [edgB,dI,gJ,decide_eq_true_eq] at b;obtain⟨⟨⟨u,v⟩,⟨x,y⟩,z,l⟩,-⟩:=b;unfold hasB at l;simp only [dI,decide_eq_true_eq] at l;unfold ltE at a
   split at a
   ·split at a
    ·rw [decide_eq_true_eq] at a;omega
    ·rw [decide_eq_true_eq] at a;omega
   ·rw [decide_eq_true_eq] at a;omega
 rcases Nat.lt_or_ge 1536 s.edges.length with a|g
 ·have:=j 1536 _ (dD a);omega
 ·exact g
section
open Go.ChangeShapes Go.WideShapes Go.ChangeAt Go.Deep
def BytesAt (w:World) (A:Option Addr) (n c:Nat):Prop:=Bytes w A n∧n<=9223372036854775807∧n<=c∧c<=9223372036854775807
theorem arg_bytes {H:Type} {enc:TypeId × Value->H}  {spare:Nat->Bool} {held:Bool} {r:Reach}  {v:Value} {d:DataW H} {p:List MemPlace}(hv:Value.okWide Tryz.prog w r b0 22 v)(h:DataW.Trod enc Tryz.prog w 0 spare held 22 v d p) :
  ∃ (A:Option Addr) (n c:Nat),v=.slice A n c∧BytesAt w A n c:=by
 obtain⟨a,l,k,rfl⟩:=okWide_slice Tryz.underlying22 hv;obtain⟨t,F⟩:=h;rcases open_slice1 Tryz.underlying22 kM F with ⟨f,_⟩|⟨s,L,B,m,n,V,D,M,f,R,G,J,q,_,z⟩
 ·simp [Value.cells] at f;obtain⟨rfl,rfl,rfl⟩:=f;exact⟨_,_,_,rfl,fun h=>absurd h oM,oM,dE _,oM⟩
 ·simp [Value.cells] at f;obtain⟨rfl,rfl,rfl⟩:=f;unfold maxLen at J;have I:l<=m:=by rw [q];split<;>omega
  refine⟨_,_,_,rfl,fun hn=>?_,oM,G,oM⟩;have u:=(z 0 oM).1;have y:=zcU u;have g:=World.block_lt_of_cell? w _ u;rw [zhN] at g;refine⟨s.block,s.off,by rw [← y],g,fun j hj=>?_⟩;obtain⟨x,C⟩:=z j oM;obtain⟨b,i,_,o⟩:=DataW.trod_int Tryz.underlying5 C;have E:V j=.int .u8 b:=by simpa using i
  rw [E,y,zX] at x;have S:0<=b∧b<256:=by
   simp only [Lit.wf,dI,decide_eq_true_eq] at o;have O:IntKind.u8.min=0:=rfl;have Q:IntKind.u8.max=255:=rfl;omega
  refine⟨b.toNat,oM,?_⟩;rw [x];have:((b.toNat:Nat):Int)=b:=oM;rw [this]
end
end Go.Proofs.YtckbjnndaaoddaaGreatDoor
