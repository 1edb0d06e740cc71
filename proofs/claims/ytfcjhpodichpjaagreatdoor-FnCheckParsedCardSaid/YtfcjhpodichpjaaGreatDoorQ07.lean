/- spec.l4First -/
import Derived.Test.YtfcjhpodichpjaaGreatDoorQ06
set_option maxHeartbeats 8000000
set_option maxRecDepth 100000
namespace Go.Proofs.YtfcjhpodichpjaaGreatDoor
open Go Go.RowKit
open Ext renaming refl->cW
open Frm renaming setCell->dE
open Int renaming natCast_add->iN,natCast_ediv->gV,natCast_emod->fR,natCast_mul->fC,toNat_natCast->eM
open List renaming append_nil->gQ,drop_eq_getElem_cons->fL,drop_zero->jF,eq_nil_of_length_eq_zero->dU,getD_eq_getElem?_getD->dI,getElem?_append_right->dP,getElem?_eq_getElem->dC,getElem?_map->dQ,getElem?_range->gH,length_append->dL,length_map->dO,length_replicate->iQ,length_take->eO,map_append->eP,map_congr_left->gT,map_cons->eQ,map_map->fV,map_set->iC,mem_of_getElem?->cX,range->fI,replicate->dN,set_append_right->gW,take_add_one->dH,take_length->eC,take_of_length_le->dG
open Nat renaming div_le_self->gS,le_mul_of_pos_right->jC,le_refl->cY,le_trans->dJ,mod_lt->fX,mul_le_mul->eK,pow_le_pow_right->dV,sub_self->eW,zero_add->dS,zero_le->dD
open Option renaming map_eq_some_iff->fN,map_some->gC,toList_some->eD
open Reads renaming af->dY
variable {A B B' M RA UA:Option Addr} {R xs:List Nat} {a p:Aut} {base c d d' dm g10 g11 g12 g13 g4 g5 g8 ga hi hi' j k l lo lo' m m' n q r rc uc x:Nat} {ss:List Sys} {w w':World}
theorem prodS_snoc (l:List Nat) (x:Nat):zay (l++[x])=zay l*x:=by rw [zcB];simp [zay]
theorem encF_zero (sz:List Nat):∀ n,encF 0 sz (dN n 0)=0:=by
 have a:∀ (sz:List Nat) (n:Nat),encF 0 sz (dN n 0)=0:=by
  intro sz
  induction sz with
  |nil=>intro n;cases n<;>rfl
  |cons s r ih =>
   intro n;cases n with
   |zero=>rfl
   |succ n=>rw [List.replicate_succ,encF,Nat.zero_mul,dS];exact ih n
 exact a sz
def ds0 (goal:Nat->Bool) (k:Nat):List Int:=(fI k).map fun x=>if goal x then 0 else -1
theorem ds0_get {goal:Nat->Bool}  {v:Int}(h:(ds0 goal k)[x]?=some v):v=if goal x then 0 else -1:=by
 unfold ds0 at h;rw [dQ,fN] at h;obtain⟨y,b,c⟩:=h;have d:=(List.getElem?_eq_some_iff.1 b);obtain⟨f,a⟩:=d;rw [List.getElem_range] at a;subst a;exact c.symm
theorem zdu {PA AA SA:Option Addr} {pn pc an ac sc:Nat} {K G:Int} {L:Nat}  {us:List Aut} {goal:Nat->Bool} (h:zeO w PA pn AA an ss us)(hok:zcX ss us)(hS:Lst zbo w lo hi SA (dN n 0))(hn:(szs ss us).length=n)(hL:L<64)
  (HF:∀ W,Ext w W->∀ (x:Nat) (A:Option Addr) (l h c:Nat) (mv:Value),x<zZ (zbe ss us)->Lst zbo W l h A (dec (szs ss us) x)->Calls Tryz.prog 208 #[.agg #[.slice PA pn pc,.slice AA an ac,.slice SA n sc,L,K,G],.slice A n c,mv] W fun e W'=>e=.returned (.bool (goal x))∧Ext W W') :
  Calls Tryz.prog 173 #[.agg #[.slice PA pn pc,.slice AA an ac,.slice SA n sc,L,K,G]] w (zO w (pnx (zbe ss us)) [0] goal (letters L 6)):=by
 obtain⟨w1,U0⟩:∃ x,Hid (w.alloc (.cells #[.slice PA pn pc,.slice AA an ac,.slice SA n sc,L,K,G] 178)=x):=⟨_,za rfl⟩;have bG:Ext w w1:=((cW w).alloc _).trans (Ext.eq_ U0.out);have bk:=Ext.bl_ U0.out;have HN:=za (fun W (hW:Ext w W)=>h.ext hW);have bY:=za (fun W (hW:Ext w W)=>hS.ext zbo.ok hW);have bV:=za HF;have be:=za hok;have Hn:=za hn;have da:n<=5:=by rw [← hn];exact hok.len
 have Hz:=za hok.le16;have bf:=za (fun k=>hok.total ((szs ss us).take k) (List.take_sublist _ _));have b6:Sm L:=tM;obtain⟨N,aK⟩:∃ N:Nat,Hid (zay (szs ss us)=N):=⟨_,rfl⟩;have b7:1<=N∧N<=1048576:=by rw [← aK.out];exact hok.total _ (List.Sublist.refl _)
 have bb:=za (show zZ (zbe ss us)=N by unfold zZ;rw [zfd];exact aK.out);obtain⟨c4,aJ⟩:=b7;have Hd:=za (show ∀ x l,x<N->l∈letters L 6->∀ y∈pnx (zbe ss us) x l,y<N from fun x l _ hl y hy=>by rw [← bb.out];exact pnx_lt hok.ok (zW.1 hl).1 y hy);have O:=za (show Rise (letters L 6) from ⟨fun l hl=>(zW.1 hl).1,fun a b x y f hy hab=>by
  have:=List.pairwise_iff_getElem.1 (zhR L 6) a b (List.getElem?_eq_some_iff.1 f).1 (List.getElem?_eq_some_iff.1 hy).1 hab;rw [(List.getElem?_eq_some_iff.1 f).2,(List.getElem?_eq_some_iff.1 hy).2] at this;exact this⟩)
 clear h hok hS hn HF;generalize hdd:pnx (zbe ss us)=d at *;have bZ:=za hdd;clear hdd;generalize hLL:letters L 6=B at *;have aG:=za hLL;clear hLL
 go_enter Tryz.func173,Tryz.ntmps173
 go_upto_region 1 with fail
 rw [U0.out] at *;have c0:=bk.cell;go_upto_region 2 with (go_at_call 206;go_loud (refine (spec_l4Sizes (HN.out _ bG) be.out).mono ?_);rintro e w2 ⟨Az,cz,rfl,a2,S⟩)
 rw [Hn.out] at a2;rw [Hn.out];have ar:=za (fun W (hW:Ext w2 W)=>(Lst.ah (xs:=szs ss us) (c:=cz) (A:=Az) (by rw [Hn.out];exact a2)).ext zbo.ok hW);have bH:=bG.trans S;have bn:=bk.ext S;clear a2 c0;go_wp2_with fail
 go_loopw [5,6] (fun v i wr=>∃ k y:Nat,i=.int .i64 k∧v=.int .i64 y∧k<=n∧y<=1048576∧Hid (y=zay ((szs ss us).take k))∧wr=w2) (fun _ i _=>n - (intOf i).toNat)
 case atStart=>exact⟨0,1,rfl,rfl,dD _,oM,rfl,rfl⟩
 case round =>
  obtain⟨k,y,rfl,rfl,hk,hy,a1,rfl⟩:=hrel
  by_cases hlt:k<n
  ·obtain⟨bz,oz,z,rfl,_,_,hz,hc⟩:=(ar.out _ (cW _)).num (show k<(szs ss us).length by rw [Hn.out];exact hlt);have t:=za (show y*z=zay ((szs ss us).take (k+1)) by rw [dH,hz.out,eD,prodS_snoc,a1.out]);have bw:y*z<=1048576:=by rw [t.out];exact (bf.out (k+1)).2
   obtain⟨yz,bN⟩:∃ q:Nat,Hid (y*z=q):=⟨_,rfl⟩;have cD:(y:Int)*(z:Int)=(yz:Int):=by rw [← bN.out];exact (fC y z).symm
   rw [bN.out] at bw t;go_wp2_with fail
   go_roundw
   case rel=>exact⟨k+1,yz,gM,gM,oM,bw,t,by first|rfl|trivial⟩
   case measure=>simp [intOf];omega
  ·obtain rfl:n=k:=oM;obtain rfl:y=N:=by rw [a1.out,dG (by rw [Hn.out];exact cY _)];exact aK.out
   clear a1 hy;have c0:=bn.cell;have ba:=za (show Calls Tryz.prog 207 #[.agg #[.slice PA pn pc,.slice AA an ac,.slice SA n sc,L,K,G],.slice Az n cz,.int .i64 (y:Nat)] wr (RetMv wr (mvs d B y)) from by
    have:=spec_l4Moves (pc:=pc) (ac:=ac) (sv:=.slice SA n sc) (K:=K) (G:=G) (N:=y) (sc:=cz) (HN.out _ bH) be.out (ar.out _ (cW _)) Hn.out hL aJ;rw [bZ.out,aG.out] at this;exact this)
   go_upto_region 8 with (go_at_call 207;refine ba.out.mono ?_;rintro e w3 ⟨Am,cm,rfl,bx,ax⟩)
   rw [zcP];have bI:=bH.trans ax;have aL:=bn.ext ax;have HM:=za (fun W (hW:Ext w3 W)=>bx.ext P3.ok hW);clear bx ba c0;go_upto_region 9 with (at_make;refine zbD w3 w3 rfl _ _ 74 rfl 3 _ 1 8 Tryz.underlying74 zae _ _ y rfl rfl (cW _) oM lM ?_;intro w4 hw34 hown4 hx34 hsz4)
   have D:w4.ownsRow w3.heap.size 3 1 (.slice (some w3.heap.size) y y) y (ints (ds0 goal 0++dN y 0)):=by simpa [ints,ds0,Value.cells,toList_madeCells_one] using hown4
   clear hown4;obtain⟨gd,aO⟩:∃ gd,Hid (w3.heap.size=gd):=⟨_,rfl⟩;rw [aO.out] at D;rw [aO.out];clear hx34 hsz4;have aj:w3.heap.size<=gd:=oH aO.out;go_wp2_with fail
   go_loopw [9] (fun i wr=>∃ k:Nat,i=.int .i64 k∧k<=y∧wr.ownsRow gd 3 1 (.slice (some gd) y y) y (ints (ds0 goal k++dN (y - k) 0))∧Ext w3 wr) (fun i _=>y - (intOf i).toNat)
   case atStart=>exact⟨0,rfl,dD _,D,hw34⟩
   case round =>
    clear D hw34;obtain⟨k,rfl,hk,M,f⟩:=hrel
    by_cases hlt:k<y
    ·obtain⟨o0,g0⟩:=zaX M k oM;have f0:=M.frozenAt k;have R:=M.stored k (.int .i64 (-1));have bE:k<(ints (ds0 goal k++dN (y - k) 0)).length:=by rw [zfv M];omega
     have E:(ints (ds0 goal k++dN (y - k) 0)).set k (.int .i64 (-1))=ints (ds0 goal k++(-1) :: dN (y - k - 1) 0):=by
      rw [ints,ints,← iC]
      congr 1
      rw [gW _ _ (by simp [ds0]),show (ds0 goal k).length=k by simp [ds0],eW];obtain⟨m,hm⟩:∃ m,y - k=m+1:=⟨y - k - 1,oM⟩;rw [hm];rfl
     rw [E] at R;have bQ:=R.1;have ak:Ext w3 (wr.setCell ⟨gd,k,none⟩ (.int .i64 (-1))):=f.setCell (p:=⟨gd,k,none⟩) aj _;clear R E M;go_upto_region 13 with fail
     clear g0 f0;have cQ:=za bE;clear bE;generalize wr.setCell ⟨gd,k,none⟩ (.int .i64 (-1))=w5 at *;obtain⟨bm,om,v,cj,rfl,_,_,_,br,Ar,cr,rfl,_⟩:=(HM.out w5 ak).get (show k<(mvs d B y).length by rw [zcP];exact hlt);have cf:=bI.trans ak;have CB:∀ W,Ext w5 W->∀ j,W.cell? ⟨w.heap.size,j,none⟩=#[Value.slice PA pn pc,.slice AA an ac,.slice SA n sc,.int .i64 L,.int .i64 K,.int .i64 G][j]?:=fun W hW=>((aL.ext ak).ext hW).cell;have CM:∀ W,Ext w5 W->W.cell? ⟨bm,om+k,none⟩=some (.slice Ar cj.length cr):=fun W hW=>hW.aa br;have CD:=za (fun W (hW:Ext w5 W)=>zfj (c:=cz) (y0:=k) (ar.out W ((ax.trans ak).trans hW)) Hn.out oM Hz.out oM);have c7:(k:Int)<(y:Int):=oM;have aX:=cW w5;clear br;refine uR (fun X=>Ext w5 X) [8] (zw.of [0,1,2,4,5,6,7,3,8]) ?_;refine uQ ?_;refine zd fun K hK=>?_;go_simp;refine (CD.out _ aX.drew).mono ?_;rintro e w6 ⟨A6,c6,rfl,s,F⟩;have aQ:(dec (szs ss us) k).length=n:=by rw [zcL];exact Hn.out
     have bh:=Lst.ah s;rw [aQ];have Y:=aX.drew.trans F;refine hK.out _ _ Y ?_;refine pT ?_;refine uQ ?_;have a7:=za (fun mv=>bV.out w6 (cf.trans Y) k A6 _ _ c6 mv (by rw [bb.out];exact hlt) bh);have U:=zg bQ Y;have aE:=ak.trans Y;clear CD CB CM aX s bh F bQ;cases hgk:goal k
     ·have ab:=za hgk;clear hgk;refine zb fun K hK=>?_;go_simp;refine (a7.out _).mono ?_;rw [ab.out];rintro e w7 ⟨rfl,I⟩;refine hK.out _ _ ?_;refine pT ?_;refine uQ ?_;refine ze ?_;have ay:=zg U I;rw [show ds0 goal k++(-1) :: dN (y - k - 1) 0=ds0 goal (k+1)++dN (y - (k+1)) 0 by
       rw [ds0,ds0,List.range_succ,eP];simp [ab.out,Nat.sub_sub]] at ay
      go_wp2_with fail
      go_roundw
      case rel=>exact⟨k+1,gM,oM,ay,aE.trans I⟩
      case measure=>simp [intOf];omega
     ·have ab:=za hgk;clear hgk;refine zb fun K hK=>?_;go_simp;refine (a7.out _).mono ?_;rw [ab.out];rintro e w7 ⟨rfl,I⟩;refine hK.out _ _ ?_;refine pT ?_;refine uQ ?_;refine ze ?_;have Q:=zg U I;have bL:=aE.trans I;obtain⟨o1,g1⟩:=zaX Q k oM;have f1:=Q.frozenAt k;have R:=Q.stored k (.int .i64 0);have E:(ints (ds0 goal k++(-1) :: dN (y - k - 1) 0)).set k (.int .i64 0)=ints (ds0 goal (k+1)++dN (y - (k+1)) 0):=by
       rw [ints,ints,← iC]
       congr 1
       rw [gW _ _ (by simp [ds0]),show (ds0 goal k).length=k by simp [ds0],eW,ds0,ds0,List.range_succ,eP];simp [ab.out,Nat.sub_sub]
      rw [E] at R;have ay:=R.1;have bM:Ext w3 (w7.setCell ⟨gd,k,none⟩ (0:Int)):=bL.setCell (p:=⟨gd,k,none⟩) aj _;clear R E;go_wp2_with fail
      go_roundw
      case rel=>exact⟨k+1,gM,oM,ay,bM⟩
      case measure=>simp [intOf];omega
    ·obtain rfl:y=k:=oM;rw [eW,List.replicate_zero,gQ] at M;have b4:=za (zbw.init (d:=d) (L:=B) (goal:=goal) (N:=y) (ds:=ds0 goal y) (by simp [ds0]) (fun x v hv=>ds0_get hv));have af:=za (spec_l4Dist (c:=cm) (cap:=y) (d:=d) (L:=B) (goal:=goal) (HM.out wr f) (Or.inr aj) M b4.out aJ Hd.out);clear M;go_upto_region 16 with (go_at_call 210;refine af.out.mono ?_;rintro e w6 ⟨rfl,ds,C,s,aB⟩)
     have F:Ext w3 w6:=f.frm aB (fun k hk e=>oM);clear af f aB;have HD:=za (fun W (hW:Ext w6 W)=>(Lst.bf (xs:=ds) (A:=some ⟨gd,0,none⟩) (by rw [C.out.1];exact dY s)).ext IntP.ok hW);have bs:Hid (ds.length=y):=C.out.1;clear s;have aW:=bI.trans F;have c6:=(aL.ext F).cell;have HE:=za (show Calls Tryz.prog 211 #[.slice Az n cz,.slice SA n sc] w6 fun e w'=>e=.returned (.int .i64 0)∧Ext w6 w' from by
      have:=ziQ (c:=cz) (d:=sc) (ar.out w6 (ax.trans F)) (bY.out w6 aW) (by rw [iQ];exact Hn.out) (fun k _=>by rw [List.take_replicate,encF_zero];omega) (fun x f=>(Hz.out x f).2) (fun x f=>by rw [(List.mem_replicate.1 f).2];omega);rw [Hn.out,iQ,encF_zero] at this;exact this)
     go_upto_region 17 with (go_at_call 211;refine HE.out.mono (mQ fun w7 I=>?_))
     have al:=I.alloc (.cells #[(0:Int)] 3);have bo:=Blk.new w7 3 #[(0:Int)];have az:Lst zbo (w7.alloc (.cells #[(0:Int)] 3)) w7.heap.size (w7.alloc (.cells #[(0:Int)] 3)).heap.size (some ⟨w7.heap.size,0,none⟩) [0]:=Lst.bh ⟨rfl,sM,fun _=>⟨_,rfl,cY _,sM,fun j u hu=>by
      rw [zK,dS,bo.cell];cases j with
      |zero=>simpa [zas] using hu
      |succ j=>simp [zas] at hu⟩⟩
     clear I bo HE c6;generalize hga:w7.heap.size=ga at *;clear hga;generalize w7.alloc _=w8 at *;have c8:=(aL.ext (F.trans al)).cell;have a9:=za (show Calls Tryz.prog 61 #[.int .i64 (L:Nat)] w8 (zbJ w8 B) from by
      have:=zU L b6 w8;rw [aG.out] at this;exact this)
     go_upto_region 18 with (go_at_call 61;refine a9.out.mono ?_;rintro e w9 ⟨AL,cL,rfl,ah,a0⟩)
     have H:=al.trans a0;have HL:=za (fun W (hW:Ext w9 W)=>(Lst.ah ah).ext zbo.ok hW);have ae:=az.ext zbo.ok a0;clear ah az c8 a9 a0 al;obtain⟨bd,od,v0,hA,_,_,bF,bp⟩:=(HD.out w9 H).int (show 0<ds.length by rw [bs.out];omega);obtain⟨rfl,rfl⟩:gd=bd∧0=od:=by injection hA with e;injection e with e1 e2;exact⟨e1,e2⟩
     rw [dS] at bp;have bq:=ae.num2 (k:=0) (x:=0) rfl;rw [dS] at bq;clear hA;rcases C.out.2 0 v0 bF.out with ⟨rfl,cb⟩|⟨r0,rfl,hM⟩
     ·have ai:=za (show zO w d [0] goal B (.returned (.tuple #[ByteArray.empty,.bool false])) w9 from ⟨aW.trans H,Or.inr ⟨rfl,lost_of cb⟩⟩);go_wp2_with fail
      go_loopw [10,12,13,14,15] (fun _ o v _ _ wr=>o=.string ByteArray.empty∧v=.int .i64 (-1)∧wr=w9) (fun _ _ _ _ _ _=>0)
      case atStart=>exact⟨rfl,rfl,rfl⟩
      case round =>
       obtain⟨rfl,rfl,rfl⟩:=hrel;go_wp2;go_ret2;exact ai.out
     ·have dc:=hM.lt oM Hd.out;have HG:=za (zdq.begin_ hM);clear hM;go_wp2_with fail
      go_loopw [10,12,13,14,15] (fun a o v _ _ wr=>∃ (r:Nat) (g Z:List Nat) (A:Option Addr) (c lo hi:Nat),a=.slice A g.length c∧o=.string (wstr Z)∧v=.int .i64 (r:Nat)∧Hid (zdq d B goal [0] g Z r)∧Lst zbo wr lo hi A g∧Z.length+r=r0∧Ext w9 wr) (fun _ _ v _ _ _=>(intOf v).toNat)
      case atStart=>exact⟨r0,[0],[],_,_,_,_,rfl,rfl,rfl,HG,ae,sM,cW _⟩
      case round =>
       clear HG ae bq bp bF;obtain⟨r,g,Z,Aa,ca,la,ha,rfl,rfl,rfl,hG,b8,cA,f⟩:=hrel;have h6:=za (fun l hl=>O.out.1 l hl);have cg:=zhr Z
       by_cases hr:0<r
       ·obtain⟨q,rfl⟩:∃ q,r=q+1:=⟨r - 1,oM⟩;obtain⟨K0,l0,av,x0,n0,aV,aY,bj⟩:=hG.out.exists_;have cx:=(List.getElem?_eq_some_iff.1 av).1;have aA:=za (fun n (hn:n∈g)=>(goes_congr (d:=d) (d':=d) (L:=B) (start:=[0]) (N:=y) (fun x f=>by simp at f;omega) (fun x l f hl=>⟨fun _=>Iff.rfl,Hd.out x l f hl⟩) hG.out.letters).2 (hG.out.goes n hn).1);have V:=za (fun (n:Nat) (hn:n∈g) (l:Nat) (hl:l∈B) (x:Nat) (f:x∈d n l)=>C.out.val (n:=q) (Hd.out n l (aA.out n hn) hl x f));have bW:=za (show ∃ n∈g,x0∈d n l0∧ds[x0]?=some (q:Int) from ⟨n0,aV,aY,(V.out n0 aV l0 (cX av) x0 aY).2 bj⟩);have a8:=za av;clear av aY bj aV;have c3:B.length<=6:=by rw [← aG.out];exact zB L 6
        have CC:=za (fun W (hW:Ext wr W) (k l:Nat) (hl:B[k]?=some l)=>ziP (c:=cm) (c':=y) (c2:=ca) (r:=(q:Int)) (HM.out W (F.trans ((H.trans f).trans hW))) (HD.out W ((H.trans f).trans hW)) (b8.ext zbo.ok hW) rfl aA.out hl bs.out aJ Hd.out);obtain⟨l1,bt⟩:∃ l1,Hid (B[0]?=some l1):=⟨_,za (dC oM)⟩;have cc:((q+1:Nat):Int) - 1=(q:Int):=oM;go_upto_region 24 with (go_at_call 212;refine (CC.out wr (cW _) 0 l1 bt.out).mono ?_;rintro e dj ⟨nx,⟨cI,cT,rfl,T,aC⟩,bB⟩)
        have ag:=Lst.ah T;clear T;go_wp2_with fail
        go_loopw [14,15] (fun k v wr2=>∃ (J l:Nat) (nx:List Nat) (A:Option Addr) (c lo hi:Nat),k=.int .i64 J∧v=.slice A nx.length c∧Lst zbo wr2 lo hi A nx∧J<=K0∧Hid (B[J]?=some l∧(∀ x,x∈nx↔∃ n∈g,x∈d n l∧ds[x]?=some (q:Int))∧∀ (j m:Nat),j<J->B[j]?=some m->∀ n∈g,∀ x∈d n m,ds[x]?≠some (q:Int))∧Ext wr wr2) (fun k _ _=>B.length - (intOf k).toNat)
        case atStart=>exact⟨0,l1,nx,_,_,_,_,rfl,rfl,ag,dD _,(show Hid _ from ⟨bt.out,bB.out.2,fun j m hj=>oM⟩),aC⟩
        case round =>
         clear ag bB aC;obtain⟨J,l,nx,An,cn,ln,db,rfl,rfl,bA,c9,t,S⟩:=hrel;have cB:=bA.len
         by_cases hz0:nx.length=0
         ·have c5:J<K0:=by
           rcases Nat.lt_or_ge J K0 with h1|h1
           ·exact h1
           ·exfalso;obtain rfl:J=K0:=oM;obtain⟨n,h2,h3,h4⟩:=bW.out;have h5:=t.out.1;rw [a8.out] at h5;obtain rfl:=Option.some.inj h5;have:=(t.out.2.1 x0).2 ⟨n,h2,h3,h4⟩;rw [dU hz0] at this;cases this
          obtain⟨l2,bu⟩:∃ l2,Hid (B[J+1]?=some l2):=⟨_,za (dC oM)⟩;have ch:((nx.length:Int)==0)=true:=by simp [hz0]
          have aN:=za (CC.out _ S (J+1) l2 bu.out);have b9:((J+1:Nat):Int)=(J:Int)+1:=oM;rw [b9] at aN;go_upto_region 26 with fail
          go_wp2_with (go_at_call 212;refine aN.out.mono ?_;rintro e dk ⟨bO,⟨cJ,cU,rfl,aw,bJ⟩,bC⟩)
          have bD:=za (show B[J+1]?=some l2∧(∀ x,x∈bO↔∃ n∈g,x∈d n l2∧ds[x]?=some (q:Int))∧∀ (j m:Nat),j<J+1->B[j]?=some m->∀ n∈g,∀ x∈d n m,ds[x]?≠some (q:Int) from ⟨bu.out,bC.out.2,fun j m hj hm n hn x f=>by
           by_cases e:j=J
           ·subst e;have h5:=t.out.1;rw [hm] at h5;obtain rfl:=Option.some.inj h5;intro h6;have:=(t.out.2.1 x).2 ⟨n,hn,f,h6⟩;rw [dU hz0] at this;cases this
           ·exact t.out.2.2 j m oM hm n hn x f⟩)
          have aS:=Lst.ah aw;have aZ:=S.trans bJ;go_roundw
          case rel=>exact⟨J+1,l2,bO,_,_,_,_,gM,rfl,aS,oM,bD,aZ⟩
          case measure=>simp [intOf];omega
         ·have ch:((nx.length:Int)==0)=false:=by rw [beq_eq_false_iff_ne];omega
          have b5:=za (show zdq d B goal [0] nx (Z++[l]) q from by
           obtain⟨h1,h2,h3⟩:=t.out;refine hG.out.step O.out h1 (fun x=>?_) (fun e=>hz0 (by rw [e];rfl)) (fun j m hj hm n hn x f=>?_)
           ·rw [h2 x];constructor
            ·rintro ⟨n,h4,h5,h6⟩;exact⟨n,h4,h5,(V.out n h4 l (cX h1) x h5).1 h6⟩
            ·rintro ⟨n,h4,h5,h6⟩;exact⟨n,h4,h5,(V.out n h4 l (cX h1) x h5).2 h6⟩
           ·intro hM;exact h3 j m hj hm n hn x f ((V.out n hn m (cX hm) x f).2 hM))
          obtain⟨bl,ol,l',rfl,_,_,aP,aN⟩:=(HL.out _ (f.trans S)).num (show J<B.length by omega);obtain rfl:l=l':=by have h1:=aP.out;rw [t.out.1] at h1;exact Option.some.inj h1
          have aQ:=h6.out l (cX aP.out);have cC:(wstr Z).size+(strOfNums [((97+l:Nat):Int)]).size<=9223372036854775807:=by rw [cg,zdS];omega
          have ce:¬ 9223372036854775807<Z.length+1:=oM;have c1:=zdS ((97+l:Nat):Int);have cd:=za (wstr_snoc Z l);have aR:(Z++[l]).length+q=r0:=by rw [dL,List.length_singleton];omega
          clear aP;go_wp2_with (go_at_call 111;refine (zel aQ).mono (mQ fun dl aD=>?_))
          have bK:=(f.trans S).trans aD;have aT:=bA.ext zbo.ok aD;go_roundw
          case rel=>exact⟨q,nx,Z++[l],_,_,_,_,rfl,by rw [cd.out,iN];rfl,by first|rfl|rw [cc],b5,aT,aR,bK⟩
          case measure=>simp [intOf]
       ·obtain rfl:r=0:=oM;have ai:=za (show zO w d [0] goal B (.returned (.tuple #[.string (wstr Z),.bool true])) wr from ⟨aW.trans (H.trans f),Or.inl ⟨Z,rfl,hG.out.fin O.out.1⟩⟩);go_wp2;go_ret2;exact ai.out
theorem info_row6:(Tryz.prog.info? 170).map (fun i=>(i.zero,i.size,i.bytes))=some (some (.agg (Array.replicate 6 (.int .i64 0))),6,48):=kM
theorem letters_get {a:Nat}(hb:a.testBit l=true):∀ n,l<n->(letters a n)[place a l]?=some l:=by
 intro n
 induction n with
 |zero=>intro h;omega
 |succ n ih =>
  intro h;rw [zbh]
  by_cases e:n=l
  ·subst e;rw [dP (by exact cY _)];simp [place,hb]
  ·have b:=ih oM;rw [List.getElem?_append_left (List.getElem?_eq_some_iff.1 b).1];exact b
theorem zix {a:Nat}(h:(letters a n)[k]?=some l):place a l=k:=by
 have f:=zW.1 (cX h);have i:=letters_get f.2 n f.1;have g:=List.pairwise_iff_getElem.1 (show (letters a n).Pairwise (·<·) from List.Pairwise.filter _ List.pairwise_lt_range);obtain⟨c,j⟩:=List.getElem?_eq_some_iff.1 h;obtain⟨d,m⟩:=List.getElem?_eq_some_iff.1 i;rcases Nat.lt_trichotomy (place a l) k with b|b|b
 ·have:=g _ _ d c b;omega
 ·exact b
 ·have:=g _ _ c d b;omega
def tbC (n:Nat) (f:Nat->Nat->Nat):List Value:=zas ((fI (n*6)).map fun i=>f (i / 6) (i % 6))
theorem tbC_set {v:Nat} {f g:Nat->Nat->Nat}(hq:q<n)(hl:l<6)(h:∀ a b,a<n->b<6->g a b=if a=q∧b=l then v else f a b):(tbC n f).set (q*6+l) (.int .i64 (v:Nat))=tbC n g:=by
 unfold tbC zas;rw [fV,fV];refine List.ext_getElem? fun i=>?_;rw [List.getElem?_set];simp only [dO,List.length_range,dQ]
 by_cases hi:i<n*6
 ·rw [gH hi];simp only [gC,Function.comp];rw [h (i / 6) (i % 6) oM oM]
  by_cases e:q*6+l=i
  ·rw [if_pos e,if_pos oM,if_pos ⟨oM,oM⟩]
  ·rw [if_neg e,if_neg oM]
 ·rw [List.getElem?_eq_none (l:=fI (n*6)) (by simp;omega)]
  by_cases e:q*6+l=i
  ·omega
  ·rw [if_neg e];rfl
theorem tbC_get {f:Nat->Nat->Nat}(hq:q<n)(hl:l<6):(tbC n f)[q*6+l]?=some (.int .i64 (f q l:Nat)):=by
 unfold tbC zas;rw [dQ,dQ,gH oM];simp only [gC];rw [show (q*6+l) / 6=q by omega,show (q*6+l) % 6=l by omega]
theorem tbC_congr {f g:Nat->Nat->Nat}(h:∀ a b,a<n->b<6->f a b=g a b):tbC n f=tbC n g:=by
 unfold tbC
 congr 1
 refine gT fun i hi=>?_;rw [List.mem_range] at hi;exact h _ _ oM oM
theorem tb_made (n:Nat):(madeCells (Value.agg (Array.replicate 6 (.int .i64 0))).cells (n*6)).toList=tbC n (fun _ _=>0):=by
 unfold madeCells tbC zas;simp only [Value.cells,Array.toList_map,Array.toList_range,fV];refine gT fun i _=>?_;simp only [Function.comp,Array.size_replicate];rw [getElem!_pos _ _ (by simp;omega),Array.getElem_replicate];rfl
def TbAt (w:World) (lo hi:Nat) (A:Option Addr) (a:Aut):Prop:=Reads w lo hi 6 A a.next.length (tbC a.next.length (aGo a))
theorem TbAt.ext (h:TbAt w lo hi A a)(hx:Ext w w'):TbAt w' lo hi A a:=Reads.ext h hx
theorem TbAt.at_ (h:TbAt w lo hi A a)(hq:q<a.next.length)(hl:l<6):∃ g o,A=some ⟨g,o,none⟩∧w.cell? ⟨g,o+q*6+l,none⟩=some (.int .i64 (aGo a q l:Nat)):=by
 obtain⟨b,e,_,_,d⟩:=Reads.at_ h hq;have i:=d (0*6+0) _ (tbC_get oM oM);have f:=zcK i;have c:=d (q*6+l) _ (tbC_get hq hl);rw [f,zK,← Nat.add_assoc] at c;exact⟨b.block,b.off,by rw [e,← f],c⟩
def TbO (w:World) (A:Option Addr) (c:Nat) (a:Aut):Prop:=∃ base,w.ownsRow base 170 6 (.slice A a.next.length c) a.next.length (tbC a.next.length (aGo a))
theorem TbO.at_ (h:TbO w A c a):∃ lo hi,TbAt w lo hi A a:=by
 obtain⟨b,h⟩:=h;exact⟨_,_,dY h⟩
theorem TbO.ext (h:TbO w A c a)(hx:Ext w w'):TbO w' A c a:=by
 obtain⟨b,h⟩:=h;exact⟨b,zg h hx⟩
theorem TbO.set {g:Nat}   {cs:Array Value} {t:TypeId}(h:TbO w A c a)(hg:Blk w g t cs)(ht:170≠t) (v:Value):TbO (w.setCell g v) A c a:=by
 obtain⟨d,h⟩:=h;exact⟨d,zf h (dE w g 0 v) (fun b hb e=>by
  subst e;rcases h.2 with ⟨f,_⟩|⟨k,i,j,f,_,l,_⟩
  ·rw [f] at hb;simp [Value.ownBlock] at hb
  ·rw [f] at hb;have:k=b:=by simpa [Value.ownBlock] using hb
   subst this;unfold Blk at hg;rw [l] at hg;injection hg with hg
   injection hg with _ h2
   exact ht h2)⟩
def RetTb (w:World) (a:Aut) (e:Ending) (w':World):Prop:=∃ A c,e=.returned (.slice A a.next.length c)∧TbO w' A c a∧Ext w w'
def RetTb2 (w:World) (a:Aut) (e:Ending) (w':World):Prop:=∃ A c,e=.returned (.slice A a.next.length c)∧(∃ base,w.heap.size<=base∧w'.ownsRow base 170 6 (.slice A a.next.length c) a.next.length (tbC a.next.length (aGo a)))∧Ext w w'
theorem zis {N:Nat}      (h:zI w lo hi B m B' m' a)(hv:Fit N a)(hN:N<=100) :
  Calls Tryz.prog 167 #[.agg #[a.al,.slice B m d,.slice B' m' d']] w (RetTb2 w a):=by
 obtain⟨⟨aB,aC⟩,⟨n1,aJ⟩,_,G⟩:=hv.row;obtain⟨al,O⟩:∃ al:Nat,Hid (a.al=al):=⟨a.al.toNat,by unfold Hid;omega⟩;have aH:Sm al:=by have:=O.out;unfold Sm;omega
 have M:=za (show a.al.toNat=al by have:=O.out;omega);have Hn:=za h.n1;have HN:=za (fun W (hW:Ext w W)=>h.1.ext hW);have ae:=za G;have aN:m<=100:=by rw [h.n1];omega
 have aX:=zB al 6;clear G h n1 aJ hv hN;rw [O.out];clear aB aC
 go_enter Tryz.func167,Tryz.ntmps167
 go_upto_region 1 with fail
 generalize U0:w.alloc _=f at *;obtain⟨T,Q⟩:=Ext.x1_ U0;clear U0;have c1:=Q.cell;go_upto_region 2 with (at_make;refine zbD f f rfl _ _ 168 rfl 170 _ 6 48 Tryz.underlying168 info_row6 _ _ m rfl rfl (cW _) oM lM ?_;intro w2 hx12 zjm hx2 hsz2)
 rw [tb_made] at zjm;have c2:=(Q.ext hx12).cell;clear hx2 hsz2;go_upto_region 3 with (go_at_call 55;refine (zbr al aH _).mono ?_;rintro e w3 ⟨AL,cL,rfl,E,ap⟩)
 have L:=hx12.trans ap;have av:=zg zjm ap;have c:=Lst.ah E;have aI:=hx12.size;have c3:=(Q.ext L).cell;have aV:f.heap.size<w2.heap.size:=by
  have:=(zjm.lt f.heap.size rfl).2;exact this
 clear E c2 zjm;generalize hlq:letters al 6=u at *;have z:=za hlq;clear hlq;go_wp2_with fail
 go_loopw [5,6,7,8,9,20] (fun _ _ _ _ _ i wr=>∃ (q:Nat) (F:Nat->Nat->Nat),i=.int .i64 q∧q<=m∧Hid (∀ x y,x<q->y<6->F x y=aGo a x y)∧wr.ownsRow f.heap.size 170 6 (.slice (some f.heap.size) m m) m (tbC m F)∧Ext f wr∧Lst zbo wr w2.heap.size w3.heap.size AL u) (fun _ _ _ _ _ i _=>m - (intOf i).toNat)
 case atStart=>exact⟨0,_,rfl,dD _,(show Hid _ from fun x y h=>oM),av,L,c⟩
 case round =>
  clear av c c3;obtain⟨q,F,rfl,hq,o,b,t,c⟩:=hrel
  by_cases hlt:q<m
  ·obtain⟨ad,Ak,ck,row,rfl,_,_,J,ag,am⟩:=(HN.out f T).row hlt;obtain⟨S,ak⟩:=ae.out q row J.out;rw [M.out,z.out] at S;have ay:=za ak;have ab:=za S;have az:=za (fun W (hW:Ext f W)=>am.ext hW);have ah:=t.aa ag;clear am ak ag S;go_wp2_with fail
   go_loopw [7,25] (fun _ i wr=>∃ (l:Nat) (F:Nat->Nat->Nat),i=.int .i64 l∧l<=6∧Hid ((∀ x y,x<q->y<6->F x y=aGo a x y)∧∀ y,y<l->F q y=q)∧wr.ownsRow f.heap.size 170 6 (.slice (some f.heap.size) m m) m (tbC m F)∧Ext f wr∧Lst zbo wr w2.heap.size w3.heap.size AL u) (fun _ i _=>6 - (intOf i).toNat)
   case atStart=>exact⟨0,F,rfl,dD _,(show Hid _ from ⟨o.out,fun y h=>oM⟩),b,t,c⟩
   case round =>
    clear b t c o ah;obtain⟨l,F,rfl,hl,o,b,t,c⟩:=hrel
    by_cases R:l<6
    ·obtain⟨o0,g0⟩:=zaX b (q*6+l) oM;have f0:=b.frozenAt (q*6+l);have s:=b.stored (q*6+l) (.int .i64 (q:Nat));rw [tbC_set (g:=fun x y=>if x=q∧y=l then q else F x y) hlt R (fun _ _ _ _=>rfl)] at s;have r:=s.1;have V:Ext f (wr.setCell ⟨f.heap.size,q*6+l,none⟩ (.int .i64 (q:Nat))):=t.setCell (p:=⟨f.heap.size,q*6+l,none⟩) (cY _) _;have D:Lst zbo (wr.setCell ⟨f.heap.size,q*6+l,none⟩ (.int .i64 (q:Nat))) w2.heap.size w3.heap.size AL u:=c.frm zbo.ok (dE wr f.heap.size (q*6+l) _) (fun k H h2 e=>oM);have C:=za (show (∀ x y,x<q->y<6->(if x=q∧y=l then q else F x y)=aGo a x y)∧∀ y,y<l+1->(if q=q∧y=l then q else F q y)=q from ⟨fun x y H h2=>by rw [if_neg oM];exact o.out.1 x y H h2,fun y h=>by
      by_cases e:y=l
      ·rw [if_pos ⟨rfl,e⟩]
      ·rw [if_neg oM];exact o.out.2 y oM⟩)
     clear s b c t;go_wp2_with fail
     go_roundw
     case rel=>exact⟨l+1,_,gM,oM,C,r,V,D⟩
     case measure=>simp [intOf];omega
    ·have aj:=za (show 6<=l by omega);go_wp2_with fail
     go_loopw [8,9,37] (fun _ _ i wr=>∃ (k:Nat) (F:Nat->Nat->Nat),i=.int .i64 k∧k<=u.length∧Hid ((∀ x y,x<q->y<6->F x y=aGo a x y)∧(∀ (j y:Nat),j<k->u[j]?=some y->F q y=aGo a q y)∧∀ y,y<6->(∀ j,j<k->u[j]?≠some y)->F q y=q)∧wr.ownsRow f.heap.size 170 6 (.slice (some f.heap.size) m m) m (tbC m F)∧Ext f wr∧Lst zbo wr w2.heap.size w3.heap.size AL u) (fun _ _ i _=>u.length - (intOf i).toNat)
     case atStart=>exact⟨0,F,rfl,dD _,(show Hid _ from ⟨o.out.1,fun j y h=>oM,fun y h _=>o.out.2 y (oH aj.out)⟩),b,t,c⟩
     case round =>
      clear b t c o;obtain⟨k,F,rfl,hk,o,b,t,c⟩:=hrel
      by_cases hkl:k<u.length
      ·obtain⟨bl,ol,l,rfl,_,_,hl,aU⟩:=c.num hkl;have R:l<6:=by
        have:=cX hl.out;rw [← z.out] at this;exact (zW.1 this).1
       have aG:=za (zix (a:=al) (n:=6) (k:=k) (l:=l) (by rw [z.out];exact hl.out));have af:=za (show al.testBit l=true from by
        have:=cX hl.out;rw [← z.out] at this;exact (zW.1 this).2)
       obtain⟨aA,x,rfl,_,_,aq,ai⟩:=(az.out wr t).int (show k<row.length by have:=ab.out;omega);obtain⟨x0,x1⟩:=ay.out x (cX aq.out);obtain⟨v,rfl⟩:∃ v:Nat,x=v:=⟨x.toNat,oM⟩;have hv:=za (show aGo a q l=v by
        unfold aGo;rw [M.out,af.out,if_pos rfl,aG.out];simp only [dI,J.out,Option.getD_some,aq.out];rfl)
       obtain⟨o0,g0⟩:=zaX b (q*6+l) oM;have f0:=b.frozenAt (q*6+l);have U:=cW wr;have CX:∀ W,Ext wr W->W.cell? (aA.add k)=some (.int .i64 (v:Nat)):=fun W hW=>hW.aa ai;have aW:(k:Int)<(row.length:Int):=oH ab.out;have aY:(q:Int)<(m:Int):=oM;have aL:(l:Int)<6:=oM;clear ai;go_upto_region 14 with fail
       refine uR (fun X=>Ext wr X) [9] (zw.of [0,1,2,3,4,5,6,7,8,9]) ?_;refine uQ ?_;have g1:wr.drew.cell? ⟨f.heap.size,q*6+l,none⟩=some o0:=g0;have f1:wr.drew.frozen? ⟨f.heap.size,q*6+l,none⟩=false:=f0;have au:wr.drew.ownsRow f.heap.size 170 6 (.slice (some f.heap.size) m m) m (tbC m F):=zg b U.drew;have ao:=t.drew;have I:=c.ext zbo.ok U.drew;clear CX g0 f0 b t c U;generalize wr.drew=wd at *;have s:=au.stored (q*6+l) (.int .i64 (v:Nat));have V:Ext f (wd.setCell ⟨f.heap.size,q*6+l,none⟩ (.int .i64 (v:Nat))):=ao.setCell (p:=⟨f.heap.size,q*6+l,none⟩) (cY _) _;have D:Lst zbo (wd.setCell ⟨f.heap.size,q*6+l,none⟩ (.int .i64 (v:Nat))) w2.heap.size w3.heap.size (some ⟨bl,ol,none⟩) u:=I.frm zbo.ok (dE wd f.heap.size (q*6+l) _) (fun k H h2 e=>oM);obtain⟨Y,aF,C⟩:∃ Y:Nat->Nat->Nat,(tbC m F).set (q*6+l) (.int .i64 (v:Nat))=tbC m Y∧Hid ((∀ x y,x<q->y<6->Y x y=aGo a x y)∧(∀ (j y:Nat),j<k+1->u[j]?=some y->Y q y=aGo a q y)∧∀ y,y<6->(∀ j,j<k+1->u[j]?≠some y)->Y q y=q):=by
        refine⟨fun x y=>if x=q∧y=l then v else F x y,tbC_set hlt R (fun _ _ _ _=>rfl),⟨fun x y H h2=>?_,fun j y Z hy=>?_,fun y h6 hy=>?_⟩⟩
        ·show (if x=q∧y=l then v else F x y)=_;rw [if_neg oM];exact o.out.1 x y H h2
        ·show (if q=q∧y=l then v else F q y)=_
         by_cases e:y=l
         ·rw [if_pos ⟨rfl,e⟩,e,hv.out]
         ·rw [if_neg (fun h=>e h.2)]
          by_cases e2:j=k
          ·subst e2;have:=hl.out;rw [hy] at this;exact absurd (Option.some.inj this) e
          ·exact o.out.2.1 j y oM hy
        ·show (if q=q∧y=l then v else F q y)=_;rw [if_neg (fun h=>hy k oM (by rw [h.2];exact hl.out))];exact o.out.2.2 y h6 (fun j Z=>hy j oM)
       rw [aF] at s;have r:=s.1;refine zb fun K hK=>?_;go_simp;refine hK.out _ _ ?_;refine ze ?_;clear s au I ao;go_wp2_with fail
       go_roundw
       case rel=>exact⟨k+1,Y,gM,oM,C,r,V,D⟩
       case measure=>simp [intOf];omega
      ·obtain rfl:k=u.length:=oM;have C:=za (show ∀ x y,x<q+1->y<6->F x y=aGo a x y from fun x y H h2=>by
        by_cases e:x=q
        ·subst e
         by_cases hb:y∈u
         ·obtain⟨j,Z⟩:=List.getElem?_of_mem hb;exact o.out.2.1 j y (List.getElem?_eq_some_iff.1 Z).1 Z
         ·rw [o.out.2.2 y h2 (fun j _ Z=>hb (cX Z))];unfold aGo;rw [M.out,if_neg];intro hbt;exact hb (by rw [← z.out];exact zW.2 ⟨h2,hbt⟩)
        ·exact o.out.1 x y oM h2)
       go_wp2_with fail
       go_roundw
       case rel=>exact⟨q+1,F,gM,oM,C,b,t,c⟩
       case measure=>simp [intOf];omega
  ·obtain rfl:m=q:=oM;have an:=za (show RetTb2 w a (.returned (.slice (some f.heap.size) m m)) wr from by
    refine⟨_,m,by rw [Hn.out],⟨f.heap.size,T.size,?_⟩,T.trans t⟩;have H:=b;rw [Hn.out,tbC_congr (g:=aGo a) (fun x y t hy=>o.out x y (oH Hn.out) hy)] at H;rw [Hn.out];exact H)
   clear b;go_wp2;go_ret;exact an.out
theorem zir (h:zI w lo hi B m B' m' a)(hv:zh a=true) :
  Calls Tryz.prog 167 #[.agg #[a.al,.slice B m d,.slice B' m' d']] w (RetTb2 w a):=zis h (fit_of hv) oM
theorem zcc (h:zI w lo hi B m B' m' a)(hv:zh a=true) :
  Calls Tryz.prog 167 #[.agg #[a.al,.slice B m d,.slice B' m' d']] w (RetTb w a):=by
 refine (zir h hv).mono ?_;rintro e j ⟨A,c,f,⟨b,-,g⟩,i⟩;exact⟨A,c,f,⟨b,g⟩,i⟩
theorem nats_oneC (l:List Nat):∀ u∈zas l,u.oneCell'=true:=by
 intro u hu;obtain⟨x,_,rfl⟩:=List.mem_map.1 hu;rfl
def RetNx (w:World) (base:Nat) (v:Value) (xs:List Value) (R:List Nat) (e:Ending) (w':World):Prop:=
 ∃ v',e=.returned v'∧w'.ownsRow base 3 1 v' (xs.length+R.length) (xs++zas R)∧Frm (fun b=>v.ownBlock=some b) w w'∧(v'.ownBlock=v.ownBlock∨∃ b,v'.ownBlock=some b∧w.heap.size<=b)
theorem flat_snoc {l:List Nat} {a:Nat} (f:Nat->List Nat)(h:l[a]?=some q):(l.take (a+1)).flatMap f=(l.take a).flatMap f++f q:=by
 rw [dH,h];simp
theorem drop_cons {s:Sys}(h:ss[j]?=some s):ss.drop j=s :: ss.drop (j+1):=by
 obtain⟨a,rfl⟩:=List.getElem?_eq_some_iff.1 h;exact fL a
theorem impl_next {v:Value} {xs:List Value} (h:PtAt w lo hi A k lo' hi' M ss)(hs:∀ s∈ss,Sml s)(hk4:k<=4)(hm:m<=4611686018427387904)(hl:l<6)(hT:Tab w)
  (zjc:w.ownsRow base 3 1 v n xs) (hb:base<=w.heap.size) (hn:n<=1099511627776) :
  Calls Tryz.prog 199 #[.agg #[.slice A k c,.slice M k d],m,l,v] w (RetNx w base v xs (nx ss m l).1):=by
 have HP:=za (fun W (hW:Ext w W)=>h.ext hW);have HT:=za (fun W (hW:Ext w W)=>hT.ext hW);have HO:=za (fun W (hW:Ext w W)=>zg zjc hW);have Hs:=za hs;have bg:=za h.sys.1;have be:=za (fun j=>nx_facts (ss:=ss.drop j) (fun s hx=>hs s (List.mem_of_mem_drop hx)) m l);have aN:=za (fun j=>nx_len (ss:=ss.drop j) (fun s hx=>hs s (List.mem_of_mem_drop hx)) m l);have aC:=za (show ∀ j,16 ^ (ss.drop j).length<=65536 from fun j=>by
  have:(ss.drop j).length<=4:=by rw [List.length_drop,← h.sys.1];omega
  exact dJ (dV oM this) dM)
 have cj:=zjc.1;clear h hs hT zjc
 go_enter Tryz.func199,Tryz.ntmps199
 have bp:Blk (w.alloc (.cells #[.slice A k c,.slice M k d] 217)) w.heap.size 217 #[.slice A k c,.slice M k d]:=Blk.new w _ _;have aU:=(cW w).alloc (.cells #[.slice A k c,.slice M k d] 217);have Y:=World.ownsRow_lit (base:=w.heap.size) (e:=3) (size:=1) (w.alloc (.cells #[.slice A k c,.slice M k d] 217)) #[(0:Int)] 1 aU.size dM rfl;rw [show (w.alloc (.cells #[.slice A k c,.slice M k d] 217)).heap.size=w.heap.size+1 by simp] at Y;have aA:=bp.ext ((cW _).alloc (.cells #[(0:Int)] 3));have cp:=aA.cell;go_upto_region 2 with fail
 generalize U0:(w.alloc _).alloc _=w2 at *;have E:=aU.trans (Ext.al_ U0);clear U0;go_wp2_with fail
 go_loopw [1,9,10,11] (fun f rv wt i wr=>∃ (j nd' W:Nat) (R:List Nat),j<=k∧i=.int .i64 ((j:Int) - 1)∧f=.int .i64 (nd':Nat)∧wt=.int .i64 (W:Nat)∧Hid (nx (ss.drop j) m l=(R,W,nd'))∧wr.ownsRow w.heap.size 3 1 rv R.length (zas R)∧Ext w2 wr) (fun _ _ _ i _=>(intOf i+1).toNat)
 case atStart=>exact⟨k,m,1,[0],cY _,gM,rfl,rfl,za (by rw [List.drop_of_length_le (by rw [← bg.out];exact cY _)];rfl),Y,cW _⟩
 case round =>
  clear Y cp;obtain⟨j,f,W,R,hj,rfl,rfl,rfl,aw,hR,I⟩:=hrel;have ad:=aA.ext I;have cp:=ad.cell
  by_cases hlt:1<=j
  ·obtain⟨i,rfl⟩:∃ i,j=i+1:=⟨j - 1,oM⟩;obtain⟨g,o,s,B,q,c',rfl,_,_,hs,c0,c1,c2,-⟩:=(HP.out wr (E.trans I)).sys.sys (k:=i) oM;have t:=za (Hs.out s (cX hs.out));obtain⟨p,hp⟩:∃ p:Nat,Hid (s.st=p):=⟨s.st.toNat,za (oH t.out.1)⟩;have ce:1<=p∧p<=16:=by have:=t.out.1;have:=t.out.2.1;have:=hp.out;omega
   obtain⟨al,ab⟩:∃ al:Nat,Hid (s.al=al):=⟨s.al.toNat,za (oH t.out.2.2.2)⟩;have bq:Sm al:=by have:=t.out.2.2.2;have:=ab.out;unfold Sm;omega
   rw [ab.out] at c0;rw [hp.out] at c1;have bf:(((i+1:Nat):Int) - 1)=(i:Int):=oM;rw [bf];have hF:=be.out (i+1);have aF:=aN.out (i+1);have aE:=aC.out (i+1);rw [aw.out] at hF aF;obtain⟨ba,bb,aI,a8,bk⟩:=hF;have a3:=za aI;clear aI a8;dsimp only at ba bb bk aF;obtain⟨T,H⟩:∃ T,Hid (cho s (f % p) l=T):=⟨_,za rfl⟩;have b9:T.length<=16:=by
    have:=cho_len t.out (i:=f % p) (l:=l) (by have:=hp.out;have:=fX f (show 0<p by omega);omega);rw [H.out] at this;have:=hp.out;omega
   have aK:=za (show ∀ q∈T,q<16 from fun q hq=>by
    have:=cho_lt t.out (i:=f % p) (l:=l) (by have:=hp.out;have:=fX f (show 0<p by omega);omega) q (by rw [H.out];exact hq);have:=hp.out;omega)
   have bO:((f:Int)).tmod (p:Int)=((f % p:Nat):Int):=rfl;have bN:((f:Int)).tdiv (p:Int)=((f / p:Nat):Int):=rfl;have cc:(i:Int)<(k:Int):=oM;have U:=(cW wr).alloc (.cells #[al,p,.slice B q c'] 39);have bP:(f:Int)<=4611686018427387904:=oM;have cg:((p:Int)==0)=false:=by simp;omega
   go_upto_region 6 with fail
   clear c0 c1 c2 cp;have cp:=(ad.ext U).cell;have aj:=ad.ext U;have aG:=zg hR U;have S:=I.trans U;generalize U0:wr.alloc _=w3 at *;have bs:=Ext.bl_ U0;clear U0;generalize wr.heap.size=G3 at *;have c3:=bs.cell;go_upto_region 7 with fail
   obtain⟨z,ag⟩:∃ z:Nat,Hid (f % p=z):=⟨_,za rfl⟩;have hz:((f:Int) % (p:Int))=(z:Int):=by rw [← ag.out];exact (fR f p).symm
   have bA:z<16:=by have:=fX f (show 0<p by omega);have:=ag.out;omega
   rw [hz];rw [ag.out] at H;have af:=(cW w3).alloc (.cells #[(z:Int)] 3);have h4:=World.ownsRow_lit (base:=w.heap.size) (e:=3) (size:=1) w3 #[(z:Int)] 1 (dJ (dJ E.size S.size) (cY _)) dM rfl;have J:=aj.ext af;have V:=bs.ext af;have aH:=zg aG af;have F:=S.trans af;clear c3 cp bs aj aG S hR I ad U;generalize w3.alloc _=w4 at *;generalize w3.heap.size=G4 at *;have c4:=V.cell;have a7:hasB al (l:Nat)=al.testBit l:=by simp [hasB]
   go_upto_if 41 with (go_at_call 84;refine (zbY al l bq _).mono ?_;rw [a7];rintro e w4 ⟨rfl,rfl⟩)
   go_cut [13] (fun tv wx=>∃ (A':Option Addr) (c2:Nat),tv=.slice A' T.length c2∧Reads wx 0 wx.heap.size 1 A' T.length (zas T)∧Ext w4 wx)
   case first =>
    cases hbt:al.testBit l
    ·have aa:T=[z]:=by
      rw [← H.out,cho,ab.out,eM,hbt];rfl
     subst aa;go_wp2_with fail
     go_meet;exact⟨_,_,rfl,(dY h4).more (dD _) (cY _),cW _⟩
    ·have aa:T=letters (succ s.edges (z:Nat) (l:Nat)) 32:=by
      rw [← H.out,cho,ab.out,eM,hbt];rfl
     go_upto_region 8 with fail
     clear c4;obtain⟨bB,bi,bj⟩:=(HP.out _ (E.trans F)).mov;obtain⟨a4,u,rfl,_,_,hu,aL⟩:=bi.one (k:=i) oM;obtain⟨b,bc,rfl⟩:∃ b,bB[i]?=some b∧u=.pointer (some ⟨b,0,none⟩):=by
      have:=hu.out;simp only [ptrs,dQ,fN] at this;obtain⟨b,Y,h2⟩:=this;exact⟨b,Y,h2.symm⟩
     have aO:=(bj.2 i b s bc hs.out).at_;have bD:Few 16 s.edges:=fun e he=>by
      have:=t.out.2.2.1 e he;have:=hp.out;omega
     have s1:=succ_sm bD (cY _) (z:Nat) (l:Nat);have cP:=J.cells;have cS:=fun W (hW:Ext w4 W)=>(V.ext hW).cell;have cM:∀ W,Ext w4 W->W.cell? (a4.add i)=some (.pointer (some b)):=fun W hW=>hW.aa aL;have cV:∀ W,Ext w4 W->W.cell? ⟨b,z*6+l,none⟩=some (.int .i64 (succ s.edges (z:Nat) (l:Nat):Nat)):=fun W hW=>hW.aa (aO z l bA hl);have bW:(z:Int)<16:=oM;have cd:(l:Int)<6:=oM;have bl:¬ (p=0):=oM;have a9:=za aa;generalize succ s.edges (z:Nat) (l:Nat)=sc at *;have D:=cW w4;clear aL aO aa;refine uR (fun X=>Ext w4 X) [14] (zw.of [0,1,2,3,4,5,6,7,8,9,10,11,12,13,14,15]) ?_;refine uQ ?_;refine zd fun K hK=>?_;go_simp;refine hK.out _ _ D.drew ?_;refine pT ?_;refine uQ ?_;refine zd fun K hK=>?_;go_simp;refine (impl_members sc s1 _ (HT.out _ (E.trans (F.trans D.drew)))).mono ?_;rintro e w5 ⟨A5,c5,rfl,ah,bw⟩;have ap:=D.drew.trans bw;rw [← a9.out] at ah ⊢;refine hK.out _ _ ap ?_;refine pT ?_;refine uQ ?_;refine ze ?_;go_wp2_with fail
     go_meet;exact⟨_,_,rfl,(dY ah).more (dD _) (cY _),ap⟩
   case rest =>
    obtain⟨A',c2,rfl,aJ,C⟩:=hcut;have Z:=zg aH C;have a6:=V.ext C;have aq:=F.trans C;have bM:=J.ext C;clear h4 aH V F J C c4;have ca:=aJ.len;have bY:=za Z;obtain⟨AR,cR,rfl⟩:=zi Z;have au:=dY Z;have ar:R.length<=65536:=oM;clear Z;go_wp2_with fail
    go_loopw [14,59] (fun mv ia wx=>∃ a:Nat,a<=T.length∧ia=.int .i64 (a:Nat)∧wx.ownsRow wc.heap.size 3 1 mv ((T.take a).flatMap fun q=>R.map fun x=>q*W+x).length (zas ((T.take a).flatMap fun q=>R.map fun x=>q*W+x))∧Ext wc wx) (fun _ ia _=>T.length - (intOf ia).toNat)
    case atStart=>exact⟨0,dD _,rfl,World.ownsRow_nil _ _ _ _,cW _⟩
    case round =>
     obtain⟨a,ha,rfl,av,ae⟩:=hrel
     by_cases hat:a<T.length
     ·obtain⟨b2,qv,rfl,_,_,bn,bm⟩:=(aJ.ext ae).one (k:=a) hat;obtain⟨G,aR,rfl⟩:∃ G,Hid (T[a]?=some G)∧qv=.int .i64 (G:Nat):=by
       have:=bn.out;simp only [zas,dQ,fN] at this;obtain⟨x,Y,h2⟩:=this;exact⟨x,za Y,h2.symm⟩
      have bS:=aK.out G (cX aR.out);have br:=za (flat_snoc (fun q=>R.map fun x=>q*W+x) aR.out);have cf:((T.take a).flatMap fun q=>R.map fun x=>q*W+x).length<=16*65536:=by
       have:∀ L:List Nat,(L.flatMap fun q=>R.map fun x=>q*W+x).length=L.length*R.length:=by
        intro L
        induction L with
        |nil=>simp
        |cons x r ih=>rw [List.flatMap_cons,dL,ih,dO,List.length_cons,Nat.add_mul,Nat.one_mul,Nat.add_comm]
       rw [this,eO];exact eK oM ar
      generalize (T.take a).flatMap (fun q=>R.map fun x=>q*W+x)=P at *;go_upto_region 13 with fail
      clear bm;go_wp2_with fail
      go_loopw [14,65] (fun mv ib wy=>∃ b:Nat,b<=R.length∧ib=.int .i64 (b:Nat)∧wy.ownsRow wc.heap.size 3 1 mv (P++(R.take b).map fun x=>G*W+x).length (zas (P++(R.take b).map fun x=>G*W+x))∧Ext wc wy) (fun _ ib _=>R.length - (intOf ib).toNat)
      case atStart=>exact⟨0,dD _,rfl,by simpa using av,ae⟩
      case round =>
       obtain⟨b,cb,rfl,O,ay⟩:=hrel
       by_cases hbt:b<R.length
       ·obtain⟨b1,rv,rfl,_,_,bo,ch⟩:=(au.ext ay).one (k:=b) hbt;obtain⟨r1,aS,rfl⟩:∃ r1,Hid (R[b]?=some r1)∧rv=.int .i64 (r1:Nat):=by
         have:=bo.out;simp only [zas,dQ,fN] at this;obtain⟨x,Y,h2⟩:=this;exact⟨x,za Y,h2.symm⟩
        have bU:=a3.out r1 (cX aS.out);have aQ:G*W<=16*65536:=eK oM oM;have b8:(P++(R.take b).map fun x=>G*W+x).length<=17*65536:=by
         rw [dL,dO,eO];omega
        obtain⟨qw,ax⟩:∃ qw:Nat,Hid (G*W=qw):=⟨_,za rfl⟩;have bT:(G:Int)*(W:Int)=(qw:Int):=by rw [← ax.out];exact (fC G W).symm
        have aT:=za (show (P++(R.take (b+1)).map fun x=>G*W+x)=(P++(R.take b).map fun x=>G*W+x)++[qw+r1] by
         rw [dH,aS.out,← ax.out]
         simp)
        rw [ax.out] at aQ;generalize P++(R.take b).map (fun x=>G*W+x)=P3 at *;go_wp2_with (at_builtin;refine zL wc wr rfl _ _ _ rfl 3 _ 1 8 Tryz.underlying74 zae rfl dM u14 _ _ _ _ rfl rfl ay O rfl (zbq _) lM oM ?_;intro v' w1 hext1 zjl hg1 hat1)
        go_roundw
        case rel=>exact⟨b+1,oM,gM,by rw [aT.out,dL];simpa [zas] using zjl,hext1⟩
        case measure=>simp [intOf];omega
       ·obtain rfl:b=R.length:=oM;rw [eC] at O;go_wp2_with fail
        go_roundw
        case rel=>exact⟨a+1,oM,gM,by rw [br.out];exact O,ay⟩
        case measure=>simp [intOf];omega
     ·obtain rfl:a=T.length:=oM;rw [eC] at av;have c5:=(a6.ext ae).cell;have bd:((f:Int) / (p:Int))=((f / p:Nat):Int):=(gV f p).symm;have bu:W*p<=65536*16:=eK oM oM;obtain⟨wp,Q⟩:∃ wp:Nat,Hid (W*p=wp):=⟨_,za rfl⟩;have bV:(W:Int)*(p:Int)=(wp:Int):=by rw [← Q.out];exact (fC W p).symm
      rw [Q.out] at bu;have an:=za (show nx (ss.drop i) m l=(T.flatMap (fun q=>R.map fun x=>q*W+x),wp,f / p) by
       rw [drop_cons hs.out,nx,aw.out,← Q.out,← H.out];have e:s.st.toNat=p:=oH hp.out;rw [e,ag.out])
      have bl:¬ (p=0):=oM;have bz:=aq.trans ae;have bt:w.heap.size<=wc.heap.size:=dJ E.size aq.size;have aP:=zn av bt;obtain⟨aV,ak⟩:∃ y:Nat,Hid (f / p=y):=⟨_,za rfl⟩;rw [ak.out] at bd an;have bR:aV<=f:=by rw [← ak.out];exact gS _ _
      go_wp2_with fail
      go_roundw
      case rel=>exact⟨i,aV,wp,_,oM,gM,gM,gM,an,aP,bz⟩
      case measure=>simp [intOf]
  ·obtain rfl:j=0:=oM;have am:=za (show (nx ss m l).1=R by
    have:=aw.out;rw [jF] at this;rw [this])
   have bh:=aN.out 0;have aE:=aC.out 0;rw [jF,am.out] at bh;rw [jF] at aE;have hO:=HO.out wr (E.trans I);have D:=E.trans I;have bx:xs.length=n:=oM;obtain⟨AR,cR,rfl⟩:=zi hR;have au:=dY hR;have bQ:¬ (0<=(((0:Nat):Int) - 1)):=oM;go_wp2_with (at_builtin;refine wpList_onto wr rfl _ _ 74 rfl base 3 _ 1 8 Tryz.underlying74 zae rfl dM v n xs rfl hO _ _ AR R.length cR (zas R) rfl au (nats_oneC R) lM oM (dJ hb D.size) ?_;intro v' w5 ah hg5 hat5)
   go_ret;refine⟨v',rfl,by rw [bx,am.out];exact ah,D.ai.trans ((Frm.ae hg5).mono fun b _ h=>h),?_⟩;rcases hat5 with h|h
   ·exact .inl h
   ·exact .inr ⟨_,h,D.size⟩
structure BCaps (w:World) (g8 g10 g11 g12 g13:Nat) (A M UA RA:Option Addr) (k c dm uc rc:Nat) (ss:List Sys) (a p:Aut):Prop where
 h8:Blk w g8 217 #[.slice A k c,.slice M k dm]
 h10:Blk w g10 168 #[.slice UA a.next.length uc]
 h11:Blk w g11 168 #[.slice RA p.next.length rc]
 h12:Blk w g12 3 #[.int .i64 (a.next.length:Nat)]
 h13:Blk w g13 3 #[.int .i64 (p.next.length:Nat)]
 pt:∃ lo hi lo' hi',PtAt w lo hi A k lo' hi' M ss
 tu:∃ lo hi,TbAt w lo hi UA a
 tr:∃ lo hi,TbAt w lo hi RA p
theorem BCaps.ext (h:BCaps w g8 g10 g11 g12 g13 A M UA RA k c dm uc rc ss a p)(hx:Ext w w'):BCaps w' g8 g10 g11 g12 g13 A M UA RA k c dm uc rc ss a p:=by
 obtain⟨q,o,g,b,l⟩:=h.pt;obtain⟨i,d,m⟩:=h.tu;obtain⟨j,f,n⟩:=h.tr;exact⟨h.h8.ext hx,h.h10.ext hx,h.h11.ext hx,h.h12.ext hx,h.h13.ext hx,⟨q,o,g,b,l.ext hx⟩,⟨i,d,m.ext hx⟩,⟨j,f,n.ext hx⟩⟩
theorem zdh (h:∀ s∈ss,Sml s):1<=zZ (ss.map zeE):=prodN_pos fun m hm=>by
 obtain⟨s,hs,rfl⟩:=List.mem_map.1 hm
 exact zfy (h s hs)
theorem zcA (h:∀ s∈ss,Sml s):zZ (ss.map zeE)<=16 ^ ss.length:=by
 have a:∀ x∈(ss.map zeE).map Prod.fst,x<=16:=fun x hx=>by
  rw [fV] at hx;obtain⟨s,b,rfl⟩:=List.mem_map.1 hx;have a:=(h s b).1;have c:=(h s b).2.1;simp only [Function.comp,zeE];omega
 have:=prodS_le a;simpa [zZ] using this
theorem zhU (h:PtAt w lo hi A k lo' hi' M ss)(hs:∀ s∈ss,Sml s)(hk:k<=3) :
  Calls Tryz.prog 202 #[.agg #[.slice A k c,.slice M k dm]] w fun e w'=>e=.returned (.int .i64 (zZ (ss.map zeE):Nat))∧Ext w w':=by
 have E:=za (fun W (hW:Ext w W)=>h.sys.ext hW);have I:=za h.sys.1;have G:=za hs;have F:=za (show ∀ j,1<=zZ ((ss.take j).map zeE)∧zZ ((ss.take j).map zeE)<=4096 from fun j=>by
  have x:∀ s∈ss.take j,Sml s:=fun s hs'=>hs s (List.mem_of_mem_take hs');refine⟨zdh x,dJ (zcA x) ?_⟩;have H:(ss.take j).length<=3:=by rw [eO];have:=h.sys.1;omega
  calc 16 ^ (ss.take j).length<=16 ^ 3:=dV oM H
   _=4096:=by decide)
 clear hs h
 go_enter Tryz.func202,Tryz.ntmps202
 go_upto_region 1 with fail
 generalize U0:w.alloc _=S at *;obtain⟨r,n⟩:=Ext.x1_ U0;clear U0;have u:=n.cell;go_wp2_with fail
 go_loopw [3,5,9] (fun v _ i wr=>∃ j y:Nat,i=.int .i64 j∧j<=k∧v=.int .i64 y∧y<=4096∧Hid (y=zZ ((ss.take j).map zeE))∧Ext w wr) (fun _ _ i _=>k - (intOf i).toNat)
 case atStart=>exact⟨0,1,rfl,dD _,rfl,oM,rfl,r⟩
 case round =>
  obtain⟨j,y,rfl,Q,rfl,R,l,m⟩:=hrel
  by_cases hlt:j<k
  ·obtain⟨b,o,s,B,q,d,rfl,_,_,hs,L,u,O,_⟩:=(E.out wr m).sys hlt;have g:=G.out s (cX hs.out);obtain⟨p,C⟩:∃ p:Nat,Hid (s.st=p):=⟨s.st.toNat,by have:=g.1;unfold Hid;omega⟩;have f:=za (show zZ ((ss.take (j+1)).map zeE)=y*p by
    rw [dH,hs.out,eD,eP,zce,← l.out];simp [zZ,zay,zeE,C.out])
   have a:=(F.out (j+1)).2;rw [f.out] at a;obtain⟨z,D⟩:∃ z:Nat,Hid (y*p=z):=⟨_,rfl⟩;have J:(y:Int)*(p:Int)=(z:Int):=by rw [← D.out];exact (fC y p).symm
   rw [D.out] at a f;rw [C.out] at u;clear g;go_wp2_with fail
   go_roundw
   case rel=>exact⟨j+1,z,gM,oM,gM,a,f.symm,by first|exact m.alloc _|exact (m.alloc _).drew⟩
   case measure=>simp [intOf];omega
  ·obtain rfl:k=j:=oM;have t:=za (show y=zZ (ss.map zeE) by rw [l.out,dG (oH I.out)]);go_wp2;go_ret;exact⟨zD (by rw [t.out]),m⟩
structure GCaps (w:World) (g4 ga g5 g12 g13:Nat) (a p:Aut):Prop where
 h4:Blk w g4 172 #[.pointer (some ga)]
 ha:∃ (B:Option Addr) (m d:Nat) (B':Option Addr) (m' d' lo hi:Nat),Blk w ga 26 #[a.al,.slice B m d,.slice B' m' d']∧zI w lo hi B m B' m' a
 h5:∃ (B:Option Addr) (m d:Nat) (B':Option Addr) (m' d' lo hi:Nat),Blk w g5 26 #[p.al,.slice B m d,.slice B' m' d']∧zI w lo hi B m B' m' p
 h12:Blk w g12 3 #[.int .i64 (a.next.length:Nat)]
 h13:Blk w g13 3 #[.int .i64 (p.next.length:Nat)]
theorem GCaps.ext (h:GCaps w g4 ga g5 g12 g13 a p)(hx:Ext w w'):GCaps w' g4 ga g5 g12 g13 a p:=by
 obtain⟨B,m,d,g,u,k,t,s,l,o⟩:=h.ha;obtain⟨C,n,c,i,v,j,f,b,q,r⟩:=h.h5;exact⟨h.h4.ext hx,⟨B,m,d,g,u,k,t,s,l.ext hx,o.ext hx⟩,⟨C,n,c,i,v,j,f,b,q.ext hx,r.ext hx⟩,h.h12.ext hx,h.h13.ext hx⟩
theorem zcJ (h:zI w lo hi B m B' m' a)(hq:q<m'):∃ ad,B'=some ad∧w.cell? (ad.add q)=some (.bool (zdr a q)):=by
 obtain⟨ad,x,rfl,_,_,c,b⟩:=h.2.2.bool hq;exact⟨ad,rfl,by rw [b];unfold zdr;rw [dI,c.out];rfl⟩
theorem brk_goal (h:GCaps w g4 ga g5 g12 g13 a p)(hv:zh a=true)(hp:zh p=true)(hx:x<=4611686018427387904) :
  Calls Tryz.prog 200 #[.int .i64 (x:Nat),.pointer (some g4),.pointer (some g13),.pointer (some g12),.pointer (some g5)] w fun e w'=>e=.returned (.bool (zdr a (x / p.next.length % a.next.length)&&!zdr p (x % p.next.length)))∧Ext w w':=by
 obtain⟨_,⟨s,J⟩,L,_⟩:=zk hv;obtain⟨_,⟨E,p2⟩,p3,_⟩:=zk hp;obtain⟨B,m,d,B',z,d',lo,hi,v,i⟩:=h.ha;obtain⟨C,n,c,C',D,c',af,V,u,l⟩:=h.h5;have o:=i.n2;have r:=l.n2;have t:=h.h4;have f:=h.h12;have g:=h.h13;clear h hv hp;generalize hNa:a.next.length=N at *;generalize hNp:p.next.length=b at *;have k:x / b % N<N:=fX _ s;have j:x % b<b:=fX _ E;obtain⟨ad,rfl,S⟩:=zcJ i (q:=x / b % N) oM;obtain⟨M,rfl,T⟩:=zcJ l (q:=x % b) oM;have U:(x:Int) / (b:Int)=((x / b:Nat):Int):=(gV x b).symm;have X:((x / b:Nat):Int) % (N:Int)=((x / b % N:Nat):Int):=(fR _ N).symm;have y:(x:Int) % (b:Int)=((x % b:Nat):Int):=(fR x b).symm;have ae:x / b<=4611686018427387904:=dJ (gS _ _) hx;have R:¬ (N=0):=oM;have Q:¬ (b=0):=oM;have aa:x / b % N<z:=oM;have ab:x % b<D:=oM;have K4:=t.cell 0;have Ka:=v.cell;have K5:=u.cell;have H:=f.cell 0;have I:=g.cell 0;clear t f g v u i l o r L p3 hNa hNp k j s J E p2;generalize x / b % N=F at *;generalize x % b=G at *;generalize x / b=xd at *;have Y:(F:Int)<(z:Int):=oM;have Z:(G:Int)<(D:Int):=oM;generalize zdr a F=O at *;generalize zdr p G=b2 at *;cases O
 all_goals
  go_enter Tryz.func200,Tryz.ntmps200
  go_wp2_with fail
  go_quiet (fail)
  go_wp2_with fail
  go_ret;exact⟨zj sM,(cW _).drewN _⟩
def zbP (ss:List Sys) (a p:Aut) (x l:Nat):List Nat:=(nx ss (x / p.next.length / a.next.length) l).1.map fun y=>y*a.next.length*p.next.length+(aGo a (x / p.next.length % a.next.length) l*p.next.length+aGo p (x % p.next.length) l)
theorem zdM (ss:List Sys) (a p:Aut):zbP ss a p=pnx (zbe ss [a,p]):=by
 funext x l
 rw [zbP,zbe,eQ,eQ,List.map_nil,pnx_under]
theorem mix_set {f:Nat->Nat} (hr:R[j]?=some r):(zas (xs++(R.take j).map f++R.drop j)).set (xs.length+j) (.int .i64 (f r:Nat))=zas (xs++(R.take (j+1)).map f++R.drop (j+1)):=by
 have b:=(List.getElem?_eq_some_iff.1 hr).1;have a:R.drop j=r :: R.drop (j+1):=by
  have:=(List.getElem?_eq_some_iff.1 hr).2;rw [← this];exact fL b
 unfold zas;rw [← iC]
 congr 1
 rw [dH,hr,eD,eP,a,gW _ _ (by simp;omega)];have:xs.length+j - (xs++(R.take j).map f).length=0:=by simp;omega
 rw [this];simp
theorem mix_get {f:Nat->Nat} (hr:R[j]?=some r):(zas (xs++(R.take j).map f++R.drop j))[xs.length+j]?=some (.int .i64 (r:Nat)):=by
 have a:=(List.getElem?_eq_some_iff.1 hr).1;unfold zas;rw [dQ,dP (by simp;omega)];have:xs.length+j - (xs++(R.take j).map f).length=0:=by simp;omega
 rw [this,List.getElem?_drop,Nat.add_zero,hr];rfl
def RetBrk (w:World) (base:Nat) (v:Value) (ys:List Nat) (e:Ending) (w':World):Prop:=∃ A' c',e=.returned (.slice A' ys.length c')∧w'.ownsRow base 3 1 (.slice A' ys.length c') ys.length (zas ys)∧Frm (fun b=>v.ownBlock=some b) w w'
theorem brk_next {w0:World} {c0:Nat} {Ao:Option Addr}   (h:BCaps w0 g8 g10 g11 g12 g13 A M UA RA k c dm uc rc ss a p)(hT:Tab w0)(hw:Ext w0 w)(hs:∀ s∈ss,Sml s)(hk:k<=3)(hv:zh a=true)(hp:zh p=true)
  (hx:x<zZ (zbe ss [a,p])) (hl:l<6) (hb0:w0.heap.size<=base) (hb:base<=w.heap.size) (hm:m<=1099511627776) (zjc:w.ownsRow base 3 1 (.slice Ao m c0) m (zas xs)) :
  Calls Tryz.prog 198 #[.int .i64 (x:Nat),.int .i64 (l:Nat),.slice Ao m c0,.pointer (some g10),.pointer (some g13),.pointer (some g12),.pointer (some g11),.pointer (some g8)] w (RetBrk w base (.slice Ao m c0) (xs++zbP ss a p x l)):=by
 obtain⟨_,⟨a1,a2⟩,_,_⟩:=zk hv;obtain⟨_,⟨p1,p2⟩,_,_⟩:=zk hp;have aF:=za (fun q (hq:q<a.next.length)=>zfF hv hq hl);have aD:=za (fun q (hq:q<p.next.length)=>zfF hp hq hl);have bX:zZ (zbe ss [a,p])<=4096*144:=by
  have u:zbe ss [a,p]=ss.map zeE++[zdx a,zdx p]:=rfl;rw [u,zce];have h2:=zcA hs;obtain⟨lo,Y,ad,aa,h3⟩:=h.pt;have h4:16 ^ ss.length<=4096:=by
   calc 16 ^ ss.length<=16 ^ 3:=dV oM (oH h3.sys.1)
    _=4096:=dM
  have h5:zZ [zdx a,zdx p]<=144:=by
   simp only [zZ,zay,zdx,eQ,List.map_nil,Nat.mul_one];exact eK a2 p2
  exact eK (dJ h2 h4) h5
 have I:=za (fun y hy=>pnx_lt (ms:=zbe ss [a,p]) (x:=x) (fun mm hmm=>by
  rcases List.mem_append.1 hmm with u|u
  ·obtain⟨s,br,rfl⟩:=List.mem_map.1 u;exact zfy (hs s br)
  ·obtain⟨b,B,rfl⟩:=List.mem_map.1 u;simp at B;rcases B with rfl|rfl
   ·exact zcY hv
   ·exact zcY hp) hl y hy)
 have J:=za (nx_len hs (x / p.next.length / a.next.length) l);have O:=za (show zbP ss a p x l=(nx ss (x / p.next.length / a.next.length) l).1.map fun y=>y*a.next.length*p.next.length+(aGo a (x / p.next.length % a.next.length) l*p.next.length+aGo p (x % p.next.length) l) from rfl);have bg:=za (show ∀ y∈zbP ss a p x l,y<589824 from fun y hy=>by
  rw [zdM] at hy;have:=I.out y hy;omega)
 have HC:=za (fun W (hW:Ext w0 W)=>h.ext hW);have ag:∃ lo Y ad aa,∀ W,Ext w0 W->PtAt W lo Y A k ad aa M ss:=by
  obtain⟨lo,Y,ad,aa,h3⟩:=h.pt;exact⟨lo,Y,ad,aa,fun W hW=>h3.ext hW⟩
 obtain⟨lo,Y,ad,aa,ag⟩:=ag;have aR:=za ag;have HT:=za (fun W (hW:Ext w0 W)=>hT.ext hW);have Hs:=za hs;clear h hT hs hv hp I ag;obtain⟨N,hN⟩:∃ N,Hid (a.next.length=N):=⟨_,rfl⟩;obtain⟨r,af⟩:∃ r,Hid (p.next.length=r):=⟨_,rfl⟩;rw [hN.out] at a1 a2 aF J O;rw [af.out] at p1 p2 aD J O;have aZ:x / r % N<N:=fX _ a1;have aY:x % r<r:=fX _ p1;have hu:=aF.out _ aZ;have hr:=aD.out _ aY;obtain⟨ug,uo,rfl,V⟩:∃ g o,UA=some ⟨g,o,none⟩∧∀ W,Ext w0 W->W.cell? ⟨g,o+x / r % N*6+l,none⟩=some (.int .i64 (aGo a (x / r % N) l:Nat)):=by
  obtain⟨l1,u,aK⟩:=(HC.out w0 (cW _)).tu;obtain⟨g,o,e,hc⟩:=aK.at_ (q:=x / r % N) (by rw [hN.out];exact aZ) hl;exact⟨g,o,e,fun W hW=>hW.aa hc⟩
 obtain⟨rg,ro,rfl,U⟩:∃ g o,RA=some ⟨g,o,none⟩∧∀ W,Ext w0 W->W.cell? ⟨g,o+x % r*6+l,none⟩=some (.int .i64 (aGo p (x % r) l:Nat)):=by
  obtain⟨l1,u,aK⟩:=(HC.out w0 (cW _)).tr;obtain⟨g,o,e,hc⟩:=aK.at_ (q:=x % r) (by rw [af.out];exact aY) hl;exact⟨g,o,e,fun W hW=>hW.aa hc⟩
 have bY:(x:Int) / (r:Int)=((x / r:Nat):Int):=(gV x r).symm;have a4:((x / r:Nat):Int) / (N:Int)=((x / r / N:Nat):Int):=(gV _ N).symm;have b1:((x / r:Nat):Int) % (N:Int)=((x / r % N:Nat):Int):=(fR _ N).symm;have bF:(x:Int) % (r:Int)=((x % r:Nat):Int):=(fR x r).symm;have bw:x<=589824:=oM;have bu:x / r<=589824:=dJ (gS _ _) bw;have b7:x / r / N<=589824:=dJ (gS _ _) bu;have bW:¬ (N=0):=oM;have bV:¬ (r=0):=oM;have aH:aGo a (x / r % N) l*r<=12*12:=eK oM oM;obtain⟨rest,E⟩:∃ z:Nat,Hid (aGo a (x / r % N) l*r+aGo p (x % r) l=z):=⟨_,rfl⟩;obtain⟨um,ah⟩:∃ z:Nat,Hid (aGo a (x / r % N) l*r=z):=⟨_,rfl⟩;have bs:((aGo a (x / r % N) l:Nat):Int)*(r:Int)=(um:Int):=by rw [← ah.out];exact (fC _ r).symm
 rw [ah.out] at aH;have L:rest=um+aGo p (x % r) l:=by rw [← E.out,ah.out]
 have F:=za L;clear L;rw [E.out] at O;generalize aGo a (x / r % N) l=au at *;generalize aGo p (x % r) l=ap at *;generalize x / r % N=q1 at *;generalize x % r=q2 at *;generalize hxE:x / r / N=xe at *;have bh:=za hxE;clear hxE;generalize x / r=xd at *;clear aF aD E ah;have b2:(q1:Int)<(N:Int):=oM;have b3:(q2:Int)<(r:Int):=oM;have b0:(l:Int)<6:=oM;have aS:∀ W,Ext w0 W->∀ i,W.cell? ⟨g10,i,none⟩=#[Value.slice (some ⟨ug,uo,none⟩) N uc][i]?:=fun W hW=>by have:=(HC.out W hW).h10.cell;rw [hN.out] at this;exact this
 have aT:∀ W,Ext w0 W->∀ i,W.cell? ⟨g11,i,none⟩=#[Value.slice (some ⟨rg,ro,none⟩) r rc][i]?:=fun W hW=>by have:=(HC.out W hW).h11.cell;rw [af.out] at this;exact this
 have aU:∀ W,Ext w0 W->∀ i,W.cell? ⟨g12,i,none⟩=#[Value.int .i64 (N:Nat)][i]?:=fun W hW=>by have:=(HC.out W hW).h12.cell;rw [hN.out] at this;exact this
 have aV:∀ W,Ext w0 W->∀ i,W.cell? ⟨g13,i,none⟩=#[Value.int .i64 (r:Nat)][i]?:=fun W hW=>by have:=(HC.out W hW).h13.cell;rw [af.out] at this;exact this
 have K8:∀ W,Ext w0 W->∀ i,W.cell? ⟨g8,i,none⟩=#[Value.slice A k c,Value.slice M k dm][i]?:=fun W hW=>(HC.out W hW).h8.cell;have Hk:=za (And.intro aS (And.intro aT (And.intro aU (And.intro aV K8))));have aQ:=za (And.intro V U);have ay:xs.length=m:=by have:=zfv zjc;simp [zas] at this;omega
 have C:=za ay;clear aS aT aU aV K8 V U ay;have a0:=za (show (nx ss xe l).1.length<=4096 from dJ J.out (by
  obtain hh:=(aR.out w hw).sys.1
  calc 16 ^ ss.length<=16 ^ 3:=dV oM oM
   _=4096:=by decide))
 have CN:=za (fun W (hW:Ext w W)=>impl_next (c:=c) (d:=dm) (m:=xe) (l:=l) (v:=.slice Ao m c0) (n:=m) (xs:=zas xs) (base:=base) (aR.out W (hw.trans hW)) Hs.out oM oM hl (HT.out W (hw.trans hW)) (zg zjc hW) (dJ hb hW.size) hm);have b4:rest<=1000:=oH F.out;have bq:(um:Int)+(ap:Int)=(rest:Int):=oH F.out;generalize (nx ss xe l).1=R at *;have a7:=za (fun b (B:(Value.slice Ao m c0).ownBlock=some b)=>(zjc.lt b B).1);clear J bh zjc;have ao:=fun W (hW:Ext w W)=>Hk.out.1 W (hw.trans hW);have aq:=fun W (hW:Ext w W)=>Hk.out.2.1 W (hw.trans hW);have G:=fun W (hW:Ext w W)=>Hk.out.2.2.1 W (hw.trans hW);have H:=fun W (hW:Ext w W)=>Hk.out.2.2.2.1 W (hw.trans hW);have aG:=fun W (hW:Ext w W)=>Hk.out.2.2.2.2 W (hw.trans hW);have V:=fun W (hW:Ext w W)=>aQ.out.1 W (hw.trans hW);have U:=fun W (hW:Ext w W)=>aQ.out.2 W (hw.trans hW);have t:=cW w
 go_enter Tryz.func198,Tryz.ntmps198
 go_upto_region 1 with fail
 go_cut [12] (fun v wx=>v=.int .i64 (rest:Nat)∧Ext w wx)
 case first =>
  have b8:=ao w t;have b9:=aq w t;have bb:=G w t;have bc:=H w t;have cb:=V w t;have ca:=U w t
  go_quiet (fail)
  go_wp2_with fail
  go_meet;exact⟨gM,t.drewN _⟩
 case rest =>
  obtain⟨rfl,Q⟩:=hcut;clear V U ao aq;replace aG:=fun W (hW:Ext wc W)=>aG W (Q.trans hW);replace G:=fun W (hW:Ext wc W)=>G W (Q.trans hW);replace H:=fun W (hW:Ext wc W)=>H W (Q.trans hW);have ai:=cW wc;go_upto_region 3 with fail
  refine uR (fun X=>Ext wc X) [8] (zw.of [0,1,2,3,4,5,6,7,8,9]) ?_;refine uQ ?_;refine zb fun K hK=>?_;go_simp;have bp:IntKind.i64.wrap ((IntKind.i64.wrap (xd:Int)).tdiv (N:Int))=(xe:Int):=by
   rw [zge xd oM,Int.tdiv_eq_ediv_of_nonneg oM,a4,zge xe oM]
  rw [bp];refine (CN.out _ (Q.trans ai.drew)).mono ?_;rintro e w5 ⟨v',rfl,S,an,aw⟩;refine hK.out _ _ ?_;refine pT ?_;refine uQ ?_;refine ze ?_;rw [show zas xs++zas R=zas (xs++(R.take 0).map (fun y=>y*N*r+rest)++R.drop 0) by simp [zas]] at S;have bm:(zas xs).length=m:=by rw [← C.out];simp [zas]
  rw [bm] at S;obtain⟨A5,c5,rfl⟩:=zi S;have D:Frm (fun b=>(Value.slice Ao m c0).ownBlock=some b) w w5:=((Q.trans ai.drew).ai).trans (an.mono fun _ _ h=>h);have aE:Ext w0 w5:=(hw.ai.trans (D.mono fun b hb1 hb2=>hb2)).mono (T:=fun _=>False) (fun b hb1 hb2=>by have:=a7.out b hb2;omega);have ax:∀ b,(Value.slice A5 (m+R.length) c5).ownBlock=some b->(Value.slice Ao m c0).ownBlock=some b∨w.heap.size<=b:=fun b B=>by
   rcases aw with u|⟨b',u,h2⟩
   ·rw [u] at B;exact Or.inl B
   ·rw [u] at B;have:=Option.some.inj B;have:=(Q.trans ai.drew).size;exact Or.inr oM
  have ak:=za ax;clear aw ax aG an G H ai;have Hx:=za (fun (W:World) (hW:Frm (fun b=>(Value.slice Ao m c0).ownBlock=some b) w W)=>show Ext w0 W from (hw.ai.trans (hW.mono fun b _ h=>h)).mono (T:=fun _=>False) (fun b hb1 hb2=>by have:=a7.out b hb2;omega));have bn:m+R.length<=1099511627776+4096:=oH a0.out;obtain⟨Z,hZ⟩:∃ Z,Hid (m+R.length=Z):=⟨_,rfl⟩;rw [hZ.out] at bn S;rw [hZ.out] at ak;rw [hZ.out];go_wp2_with fail
  go_loopw [14] (fun i wr=>∃ i' j:Nat,i=.int .i64 (i':Nat)∧Hid (i'=m+j)∧j<=R.length∧wr.ownsRow base 3 1 (.slice A5 Z c5) Z (zas (xs++(R.take j).map (fun y=>y*N*r+rest)++R.drop j))∧Frm (fun b=>(Value.slice Ao m c0).ownBlock=some b) w wr) (fun i _=>Z - (intOf i).toNat)
  case atStart=>exact⟨m,0,rfl,rfl,dD _,S,D⟩
  case round =>
   clear S D aE;obtain⟨i,j,rfl,Y,hj,zjc,D⟩:=hrel
   by_cases hlt:j<R.length
   ·obtain⟨y,hy⟩:∃ y,Hid (R[j]?=some y):=⟨_,za (dC hlt)⟩;have av:=bg.out (y*N*r+rest) (by rw [O.out];exact List.mem_map.2 ⟨y,cX hy.out,rfl⟩);have aL:=Hx.out wr D;have bZ:i<Z:=by have:=Y.out;have:=hZ.out;omega
    obtain⟨g5,rfl⟩:∃ g,A5=some ⟨g,0,none⟩:=by
     rcases zjc.2 with ⟨u,h2⟩|⟨g,bR,bS,u,_⟩
     ·injection u;omega
     ·injection u with u;exact⟨g,u⟩
    have bo:=za (mix_get (xs:=xs) (f:=fun y=>y*N*r+rest) hy.out);have a3:wr.cell? ⟨g5,i,none⟩=some (.int .i64 (y:Nat)):=by
     have:=zjc.cellAt i oM;rw [this,← bo.out,C.out,Y.out]
    have ab:=mix_set (xs:=xs) (f:=fun y=>y*N*r+rest) hy.out;rw [C.out,← Y.out] at ab;have bb:=fun W (hW:Ext wr W)=>Hk.out.2.2.1 W (aL.trans hW);have bc:=fun W (hW:Ext wr W)=>Hk.out.2.2.2.1 W (aL.trans hW);have CY:∀ W,Ext wr W->W.cell? ⟨g5,i,none⟩=some (.int .i64 (y:Nat)):=fun W hW=>hW.aa a3;have a9:y*N<=y*N*r:=jC _ p1;obtain⟨yn,aN⟩:∃ z:Nat,Hid (y*N=z):=⟨_,rfl⟩;have bH:(y:Int)*(N:Int)=(yn:Int):=by rw [← aN.out];exact (fC y N).symm
    rw [aN.out] at av ab a9;obtain⟨ym,ba⟩:∃ z:Nat,Hid (yn*r=z):=⟨_,rfl⟩;have bG:(yn:Int)*(r:Int)=(ym:Int):=by rw [← ba.out];exact (fC yn r).symm
    rw [ba.out] at av ab a9;have bx:y<=y*N:=jC _ a1;rw [aN.out] at bx;have a6:(i:Int)<(Z:Int):=oM;have b5:IntKind.i64.wrap (yn:Int)=(yn:Int):=zge yn oM;have b6:IntKind.i64.wrap (ym:Int)=(ym:Int):=zge ym oM;have bt:IntKind.i64.wrap ((ym:Int)+(rest:Int))=((ym+rest:Nat):Int):=by rw [← iN];exact zge (ym+rest) oM
    have t:=cW wr;clear a3 aL;go_upto_region 7 with fail
    refine uR (fun X=>Ext wr X) [13] (zw.of [0,1,2,3,4,5,6,7,8,9,10,11,12,13]) ?_;refine uQ ?_;have aj:=zg zjc t.drew;have am:=D.ext t.drew;clear zjc D bb bc CY t;generalize wr.drew=wd at *;obtain⟨o0,g0⟩:=zaX aj i oM;have f0:=aj.frozenAt i;have aJ:=aj.stored i (.int .i64 ((ym+rest:Nat):Int));rw [ab] at aJ;have aI:=aJ.1;have a5:Frm (fun b=>(Value.slice Ao m c0).ownBlock=some b) w (wd.setCell ⟨g5,i,none⟩ (.int .i64 ((ym+rest:Nat):Int))):=by
     rcases ak.out g5 rfl with u|u
     ·exact am.cell (p:=⟨g5,i,none⟩) u _
     ·have h2:Frm (fun b=>(Value.slice Ao m c0).ownBlock=some b∨b=g5) w (wd.setCell ⟨g5,i,none⟩ (.int .i64 ((ym+rest:Nat):Int))):=(am.mono fun _ _ h=>Or.inl h).trans ((dE wd g5 i _).mono fun _ _ h=>Or.inr h);exact h2.mono fun b hb h=>h.elim id (fun e=>oM)
    clear aJ ab aj;have bl:=za (show i+1=m+(j+1) by rw [Y.out];omega);refine zb fun K hK=>?_;go_simp;refine hK.out _ _ ?_;refine ze ?_
    first|rw [bt]|skip
    go_wp2_with fail
    go_roundw
    case rel=>exact⟨i+1,j+1,gM,bl,oM,aI,a5⟩
    case measure=>simp [intOf];omega
   ·obtain rfl:j=R.length:=oM;have bC:=za (show wr.ownsRow base 3 1 (.slice A5 (xs++zbP ss a p x l).length c5) (xs++zbP ss a p x l).length (zas (xs++zbP ss a p x l)) by
     rw [O.out,dL,dO,C.out,hZ.out];rw [eC,List.drop_length,gQ] at zjc;exact zjc)
    have ar:(xs++zbP ss a p x l).length=Z:=by rw [O.out,dL,dO,C.out,hZ.out]
    have a8:=za (show RetBrk w base (.slice Ao m c0) (xs++zbP ss a p x l) (.returned (.slice A5 Z c5)) wr from ⟨A5,c5,by rw [ar],bC.out,D⟩);clear ar;have a6:¬ (i:Int)<(Z:Int):=by have:=Y.out;have:=hZ.out;omega
    clear zjc;go_wp2;go_ret;exact a8.out
end Go.Proofs.YtfcjhpodichpjaaGreatDoor
