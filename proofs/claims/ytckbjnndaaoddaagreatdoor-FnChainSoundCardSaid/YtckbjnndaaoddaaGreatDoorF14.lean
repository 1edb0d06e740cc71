/- A list of sy -/
import Derived.Test.YtckbjnndaaoddaaGreatDoorF13
set_option maxHeartbeats 4000000
set_option maxRecDepth 100000
namespace Go.Proofs.YtckbjnndaaoddaaGreatDoor
open Go Go.RowKit
open Blk renaming new->dU
open Bool renaming and_eq_true->dF
open Ext renaming al_->gC,bl_->dV,eq_->gJ,refl->cY
open Frm renaming setCell->dE
open Int renaming toNat_natCast->eJ
open List renaming all_eq_true->eC,drop_zero->jB,getElem?_append_right->dN,getElem?_cons_succ->fT,getElem?_eq_getElem->dC,getElem?_map->dQ,length_append->dO,length_cons->fJ,length_set->fB,length_take->eK,mem_of_getElem?->dB,mem_singleton->eP,take_of_length_le->dI
open Nat renaming le_refl->dD,zero_le->dG
open Option renaming map_eq_some_iff->eR
open Reads renaming af->dY
variable {A A':Option Addr} {G L M R Z base c g hi k lo n n' x:Nat} {W w w0:World} {a p:Aut} {es:List Edg} {s y z:Sys} {ss:List Sys} {v:Value}
structure Ent where
 s:Sys
 A:Option Addr
 n:Nat
 c:Nat
def Ent.cs (e:Ent):List Value:=[.int .i64 e.s.al,.int .i64 e.s.st,.slice e.A e.n e.c]
def zfm (l:List Ent):List Value:=l.flatMap Ent.cs
theorem entC_snoc (l:List Ent) (e:Ent):zfm (l++[e])=zfm l++e.cs:=by simp [zfm]
theorem entC_length (l:List Ent):(zfm l).length=l.length*3:=by
 induction l with
 |nil=>rfl
 |cons e r ih =>
  show (e.cs++zfm r).length=_;rw [dO,ih,fJ];show 3+_=_;omega
theorem zha {l:List Ent}  {e:Ent}(h:l[k]?=some e):(zfm l)[k*3]?=some (.int .i64 e.s.al)∧(zfm l)[k*3+1]?=some (.int .i64 e.s.st)∧(zfm l)[k*3+2]?=some (.slice e.A e.n e.c):=by
 induction l generalizing k with
 |nil=>simp at h
 |cons a r ih =>
  have d:zfm (a :: r)=a.cs++zfm r:=rfl;rw [d];cases k with
  |zero =>
   simp at h;subst h;exact⟨rfl,rfl,rfl⟩
  |succ k =>
   simp only [fT] at h;obtain⟨f,g,i⟩:=ih h;have b:a.cs.length=3:=rfl;refine⟨?_,?_,?_⟩
   ·rw [dN oM,b,show (k+1)*3 - 3=k*3 by omega];exact f
   ·rw [dN oM,b,show (k+1)*3+1 - 3=k*3+1 by omega];exact g
   ·rw [dN oM,b,show (k+1)*3+2 - 3=k*3+2 by omega];exact i
def Ent.ok (e:Ent) (W:World) (R:Nat):Prop:=zbO W R e.A e.n e.s∧e.n<=50000∧e.n<=e.c
structure Sld (w0 W:World) (R M:Nat) (v:Value) (l:List Ent):Prop where
 own:W.ownsRow w0.heap.size 38 3 v l.length (zfm l)
 ent:∀ e∈l,e.ok W R
 rd:Rd W R M
 dr:Dr R w0 W
 hR:R<w0.heap.size
theorem own_sys {size:Nat}  {xs:List Value}(h:w.ownsRow base 38 size v n xs) (hk:v.ownBlock=some k):∀ cs,w.heap[k]?≠some (.cells cs 117 (0,0)):=by
 rcases h.2 with ⟨rfl,_⟩|⟨g,a,b,rfl,_,c,_⟩
 ·simp [Value.ownBlock] at hk
 ·have:g=k:=by simpa [Value.ownBlock] using hk
  subst this;intro cs e;rw [c] at e;injection e with e
  injection e with _ e2
  exact absurd e2 dM
section
variable {w0 W W':World} {R M N:Nat} {v:Value} {l:List Ent}
theorem Ent.ok.dr {e:Ent}(h:e.ok W R)(hd:Dr R W W'):e.ok W' R:=⟨h.1.dr hd,h.2⟩
theorem Sld.drawn (h:Sld w0 W R M v l)(hd:Dr R W W')(hr:Rd W' R N):Sld w0 W' R N v l:=
 ⟨zaA h.own hd (fun b h1 e=>oH h.hR),fun e he=>(h.ent e he).dr hd,hr,h.dr.trans hd,h.hR⟩
theorem Sld.ext (h:Sld w0 W R M v l)(hx:Ext W W'):Sld w0 W' R M v l:=h.drawn hx.dr (h.rd.ext hx)
theorem Sld.more (h:Sld w0 W R M v l)(hM:M<=N):Sld w0 W R N v l:={ h with rd:=h.rd.more hM }
theorem Sld.less {w1:World}(h:Sld w0 W R M v l)(hd:Dr R w1 w0)(hR:R<w1.heap.size):Sld w1 W R M v l:=
 ⟨zo h.own hd.size,h.ent,h.rd,hd.trans h.dr,hR⟩
theorem Sld.grown (h:Sld w0 W R M v l)(hg:W.grownBy W' v.ownBlock):(∀ e:Ent,e.ok W R->e.ok W' R)∧Dr R w0 W'∧Rd W' R M:=by
 have a:=h.hR;refine⟨fun e he=>⟨he.1.frm (Frm.ae hg) (fun k hk _=>own_sys h.own hk),he.2⟩,h.dr.grown hg (fun k hk=>(h.own.lt k hk).1),h.rd.frm (Frm.ae hg) (fun k hk hS=>by have:=(h.own.lt k hS).1;omega)⟩
theorem Sld.push {e:Ent} {cap:Nat}(h:Sld w0 W R M v l)(he:e.ok W R)
  (zhD:W'.ownsRow w0.heap.size 38 3 (.slice (some g) (l.length+1) cap) (l.length+1) (zfm l++e.cs)) (hg:W.grownBy W' v.ownBlock) :
  Sld w0 W' R M (.slice (some g) (l.length+1) cap) (l++[e]):=by
 obtain⟨b,c,d⟩:=h.grown hg;refine⟨by rw [entC_snoc,dO,List.length_singleton];exact zhD,fun x a=>?_,d,c,h.hR⟩;rcases List.mem_append.1 a with a|a
 ·exact b x (h.ent x a)
 ·rw [eP] at a;subst a;exact b _ he
theorem Sld.sl (h:Sld w0 W R M (.slice A n c) l)(hn:n=l.length):zcC W (R+1) W.heap.size A n (l.map Ent.s):=by
 have b:=h.own;rw [← hn] at b;have i:=dY b;refine⟨by simpa using hn,zfm l,i.more (oH h.hR) (dD _),fun k s hs=>?_⟩;rw [dQ,eR] at hs;obtain⟨e,a,rfl⟩:=hs;obtain⟨d,f,g⟩:=zha a;exact⟨e.A,e.n,e.c,d,f,g,(h.ent e (dB a)).1.at_⟩
end
theorem Sld.nil (hr:Rd W R M)(hd:Dr R w0 W)(hR:R<w0.heap.size):Sld w0 (W.alloc (.cells #[] 38)) R M (.slice (some W.heap.size) 0 0) []:=
 ⟨zo (World.ownsRow_lit W #[] 0 (dD _) lM rfl) hd.size,fun _ h=>by simp at h,hr.ext ((cY _).alloc _),hd.alloc _,hR⟩
theorem Sld.three {a b c:Ent}(hr:Rd W R M)(hd:Dr R w0 W)(hR:R<w0.heap.size)(ha:a.ok W R)(hb:b.ok W R)(hc:c.ok W R) :
  Sld w0 (W.alloc (.cells #[a.s.al,a.s.st,.slice a.A a.n a.c,b.s.al,b.s.st,.slice b.A b.n b.c,c.s.al,c.s.st,.slice c.A c.n c.c] 38)) R M (.slice (some W.heap.size) 3 3) [a,b,c]:=by
 have d:=(cY W).alloc (.cells #[a.s.al,a.s.st,.slice a.A a.n a.c,b.s.al,b.s.st,.slice b.A b.n b.c,c.s.al,c.s.st,.slice c.A c.n c.c] 38);refine⟨zo (World.ownsRow_lit W _ 3 (dD _) lM rfl) hd.size,fun e he=>?_,hr.ext d,hd.alloc _,hR⟩;simp only [List.mem_cons,List.not_mem_nil,or_false] at he;rcases he with rfl|rfl|rfl
 ·exact ha.dr d.dr
 ·exact hb.dr d.dr
 ·exact hc.dr d.dr
theorem pickA {p:Nat}(h:1<=(p:Int)->(x:Int)<p)(h0:(p:Int)<1->x=0):x<p+1:=by
 rcases Nat.lt_or_ge 0 p with a|a
 ·have:=h oM;omega
 ·have:=h0 oM;omega
theorem e_filledA {M' E y p:Nat} {w2 w4:World}(hb:Blk w4 E 117 #[(0:Int),(0:Int),(0:Int)])(hr:Rd w4 R M')(hd:Dr R w2 w4)(hE:w2.heap.size<=E)(hR:R<w2.heap.size)(hx:x<p+1)(hy:y<p+1)(hM:M'<=M) :
  ∃ E' x' y':Nat,Value.pointer (some E)=.pointer (some E')∧x'<p+1∧y'<p+1∧w2.heap.size<=E'∧Blk (((w4.setCell E x).setCell ⟨E,1,none⟩ (0:Int)).setCell ⟨E,2,none⟩ y) E' 117 #[x',(0:Int),y']∧Rd (((w4.setCell E x).setCell ⟨E,1,none⟩ (0:Int)).setCell ⟨E,2,none⟩ y) R M∧Dr R w2 (((w4.setCell E x).setCell ⟨E,1,none⟩ (0:Int)).setCell ⟨E,2,none⟩ y):=by
 have a:=zbZ w4 E (.int .i64 x) (.int .i64 0) (.int .i64 y);refine⟨E,x,y,rfl,oM,oM,hE,by simpa using ((hb.ab 0 (.int .i64 x)).ab 1 (.int .i64 0)).ab 2 (.int .i64 y),(hr.frm a (fun k h1 h2=>oM)).more hM,?_⟩;exact ((hd.ag (p:=⟨E,0,none⟩) hE _).ag (p:=⟨E,1,none⟩) hE _).ag (p:=⟨E,2,none⟩) hE _
theorem zgD {a p:Nat}   (h:Rd w R M)(hM:M<=900000000)(hs:zbO w R A n ⟨a,p,es⟩)(ha:a<64)(hp:p<=16)(hfew:Few (p+1) es)(hn:n<=L)(hL:L<=100000) :
  Calls Tryz.prog 182 #[.pointer (some R),.agg #[a,p,.slice A n c]] w (RetA R (M+10) (L+1) w):=by
 have hRl:=h.lt;have bc:=hs.at_.2;have b7:=za hs.1;have aW:=za hfew;have bH:Sm a:=tM;obtain⟨w1,U0⟩:∃ x,Hid (((w.alloc (.cells #[a,p,.slice A n c] 38)).alloc (.cells #[(0:Int),(0:Int),()] 38)).alloc (.cells #[a,p,()] 38)=x):=⟨_,za rfl⟩;have bh:Ext w w1:=((((cY _).alloc _).alloc _).alloc _).trans (gJ U0.out);obtain⟨bS,bZ,bG⟩:=zaa (gJ U0.out);have aU:=za bS;have aV:=za bZ;have aq:=za bG;have ar:=za bh;clear bS bZ bG bh hs hfew
 go_enter Tryz.func182,Tryz.ntmps182
 go_wp2_with fail
 rw [U0.out] at *;refine (zw (h.ext ar.out) oM).mono ?_;rintro e Y ⟨aa,rfl,-,-,V,aj⟩;have cd:=aq.out.lt;have aA:=aU.out.dr aj oM;have a2:=aV.out.dr aj oM;have ax:=aq.out.dr aj oM;have bf:=ar.out.dr.trans aj;have cS:∀ W,Dr R Y W->∀ q,W.cell? ⟨w.heap.size,q,none⟩=#[Value.int .i64 a,.int .i64 p,.slice A n c][q]?:=fun W hW=>(aA.dr hW oM).cell;go_upto_region 3 with fail
 go_cut [7] (fun s7 wx=>∃ E x y:Nat,s7=.pointer (some E)∧x<p+1∧y<p+1∧Y.heap.size<=E∧Blk wx E 117 #[x,(0:Int),y]∧Rd wx R (M+3)∧Dr R Y wx)
 case first =>
  refine tR (fun X=>Dr R Y X) [10] (Ord.app [0,1,2,4,5,6] (Ord.two 3 (Ord.two 7 (Ord.of [8,9,10]) 9 (Ord.of [7,8,10])) 9 (Ord.of [3,7,8,10]))) ?_;refine tQ ?_;refine zeK (fun K hK=>?_) (fun K hK=>?_)
  ·go_simp;refine (zw (n:=p) (V.ext ((cY _).drew)) oM).mono ?_;rintro e w3 ⟨x,rfl,hx,aQ,O,D⟩;have r:Dr R Y w3:=((Dr.refl R Y).drew).trans D;refine hK.out _ _ r ?_;refine pT ?_;refine zeK (fun K hK=>?_) (fun K hK=>?_)
   ·go_simp;refine (zw (n:=p) O oM).mono ?_;rintro e w4 ⟨y,rfl,hy,ak,G,T⟩;have j:=r.trans T;refine hK.out _ _ j ?_;refine pT ?_;refine tQ ?_;refine zC fun K hK=>?_;go_simp;refine hK.out _ _ (j.alloc _) ?_;refine pT ?_;refine tQ ?_;refine zO fun K hK=>?_;go_simp;refine hK.out _ _ ?_;refine zai ?_;go_wp2_with fail
    go_meet;exact⟨w4.heap.size,x,y,rfl,oM,oM,j.size,dU _ _ _,G.ext ((cY _).alloc _),j.alloc _⟩
   ·go_simp;have bj:=(cY w3).alloc (.cells #[(0:Int),(0:Int),(0:Int)] 117);have ab:=r.ext bj;have be:=O.ext bj;have a7:=O.lt;refine hK.out _ _ ab ?_;generalize U0:w3.alloc _=cj at *;have aJ:=dV U0;clear U0;refine pT ?_;refine zC fun K hK=>?_;go_simp;refine (zw (n:=p) be oM).mono ?_;rintro e w4 ⟨y,rfl,hy,ak,G,T⟩;have j:=ab.trans T;have S:=aJ.dr T oM;refine hK.out _ _ j ?_;refine pT ?_;refine tQ ?_;have cE:=S.cell;have fE:=S.frozen;refine zO fun K hK=>?_;go_simp;refine hK.out _ _ ?_;refine zai ?_;go_wp2_with fail
    go_meet;exact e_filledA S G j r.size V.lt (pickA hx aQ) (pickA hy ak) oM
  ·go_simp;have bi:=((cY Y).alloc (.cells #[(0:Int),(0:Int),(0:Int)] 117)).drew;have bz:Blk (Y.alloc (.cells #[(0:Int),(0:Int),(0:Int)] 117)).drew Y.heap.size 117 #[.int .i64 0,.int .i64 0,.int .i64 0]:=dU Y _ _;have bd:=V.ext bi;have a7:=V.lt;have am:Dr R Y (Y.alloc (.cells #[(0:Int),(0:Int),(0:Int)] 117)).drew:=bi.dr;refine hK.out _ _ am ?_;generalize (Y.alloc (.cells #[(0:Int),(0:Int),(0:Int)] 117)).drew=ci at *;refine pT ?_;refine zC fun K hK=>?_;go_simp;refine (zw (n:=p) bd oM).mono ?_;rintro e w3 ⟨x,rfl,hx,aQ,O,D⟩;have r:=am.trans D;have aJ:=bz.dr D oM;refine hK.out _ _ r ?_;refine pT ?_;refine zC fun K hK=>?_;go_simp;refine (zw (n:=p) O oM).mono ?_;rintro e w4 ⟨y,rfl,hy,ak,G,T⟩;have j:=r.trans T;have S:=aJ.dr T oM;refine hK.out _ _ j ?_;refine pT ?_;refine tQ ?_;have cE:=S.cell;have fE:=S.frozen;refine zO fun K hK=>?_;go_simp;refine hK.out _ _ ?_;refine zai ?_;go_wp2_with fail
   go_meet;exact e_filledA S G j (dD _) a7 (pickA hx aQ) (pickA hy ak) oM
 case rest =>
  obtain⟨E,x,y,rfl,hx,hy,hE,aK,O,D⟩:=hcut;have bg:=bf.trans D;have aB:=aA.dr D oM;have a3:=a2.dr D oM;have aZ:=ax.dr D oM;have ce:=ax.lt;clear cS;have cS:=aB.cell;go_wp2_with fail
  refine (zT a bH _).mono ?_;rintro e w4 ⟨B,d,rfl,ae,Q⟩;have aN:=bg.ext Q;have aC:=aB.ext Q;have aE:=a3.ext Q;have ay:=aZ.ext Q;have au:=aK.ext Q;have G:=O.ext Q;have b2:=aK.lt;have bB:=zB a 6;have bb:=za (fun k (hk:k∈letters a 6)=>(zcZ.1 hk).1);have an:=(dY ae);have bV:=D.size;have bW:=Q.size;have b4:=V.lt;clear cS ae Q aB a3 aZ aK O bg aU aV aq ar aA a2 ax bf V;generalize letters a 6=ls at *;go_upto_region 5 with fail
  go_cut [9] (fun s9 wx=>∃ b:Bool,s9=.bool b∧(b=true->0<ls.length)∧Rd wx R (M+4)∧Dr R w4 wx)
  case first =>
   by_cases hl:0<ls.length
   ·go_wp2_with fail
    refine (zw G oM).mono ?_;rintro e w5 ⟨z,rfl,-,-,af,J⟩;go_wp2_with fail
    go_meet;exact⟨_,rfl,fun _=>hl,af,J⟩
   ·go_wp2_with fail
    go_meet;exact⟨false,rfl,fun h=>by (first|cases h|omega),G.more oM,Dr.refl _ _⟩
  case rest =>
   obtain⟨b,rfl,aL,af,J⟩:=hcut;go_upto_if 42 with fail
   go_cut [] (fun wx=>∃ l:Nat,l<6∧Blk wx E 117 #[x,l,y]∧Blk wx w.heap.size 38 #[a,p,.slice A n c]∧Blk wx (w.heap.size+1) 38 #[(0:Int),(0:Int),()]∧Blk wx (w.heap.size+1+1) 38 #[a,p,()]∧Rd wx R (M+5)∧Dr R w wx)
   case first =>
    have aD:=aC.dr J oM;have aF:=aE.dr J oM;have az:=ay.dr J oM;have av:=au.dr J oM;have aO:=aN.trans J;clear aC aE ay au aN G;cases b
    ·go_wp2_with fail
     go_meet;exact⟨0,oM,av,aD,aF,az,af.more oM,aO⟩
    ·have b9:=aL rfl;have bA:(1:Int)<=(ls.length:Int):=oM;clear aL;go_wp2_with fail
     refine (zw af oM).mono ?_;rintro e w6 ⟨z,rfl,hz,-,hr6,U⟩;have cf:=hz bA;have bl:z<ls.length:=oM;obtain⟨ad,l,rfl,_,_,hl,ca⟩:=((an.dr J oM).dr U oM).nat bl;have ba:=bb.out l (dB hl.out);have bt:=aD.dr U oM;have bu:=aF.dr U oM;have bs:=az.dr U oM;have aw:=av.dr U oM;have hw6:=aO.trans U;have cE:=aw.cell;have fE:=aw.frozen;have hf:=dE w6 E 1 (.int .i64 (l:Nat));clear hz aD aF az av aO;go_wp2_with fail
     go_meet;exact⟨l,ba,by simpa using aw.ab 1 (.int .i64 (l:Nat)),bt.frm hf oM,bu.frm hf oM,bs.frm hf oM,(hr6.frm hf (fun k h1 h2=>oM)),hw6.ag (by dsimp only;omega) _⟩
   case rest =>
    obtain⟨l,hl,bE,bS,bZ,bG,bF,a8⟩:=hcut;clear aC aE ay au aN G J af bb an bB aL;obtain⟨wB,bI⟩:∃ wB,wB=wc:=⟨_,rfl⟩;subst bI;have f:Acc w wB wB R (w.heap.size+1+1) (M+5) a p (.slice none 0 0) []:=⟨bG,World.ownsRow_nil _ _ _ _,bF,a8,Frm.refl _ _,hRl,a8.size,oM⟩;have b3:=bE.lt;have b5:=bG.lt;clear bG;go_wp2_with fail
    go_loopw [9,10] (fun v i wr=>∃ (b:Bool) (k:Nat),k<=n∧i=.int .i64 k∧v=.bool b∧∃ (u:Value) (m:List Edg),Acc w wB wr R (w.heap.size+1+1) (M+5) a p u m∧m.length+b.toNat<=k+1∧Hid (Few (p+1) m)) (fun _ i _=>n - (intOf i).toNat)
    case atStart=>exact⟨b,0,dG _,rfl,rfl,_,[],f,by cases b<;>decide,few_nil (p+1)⟩
    case round =>
     clear f;obtain⟨b,k,hk,rfl,rfl,u,m,f,o,F⟩:=hrel;have I:=bS.frm f.fr oM;have t:=bE.frm f.fr oM;have cS:=I.cell;have ao:(0<=(x:Int)∧(x:Int)<((p+1:Nat):Int))∧(0<=(l:Int)∧(l:Int)<6)∧(0<=(y:Int)∧(y:Int)<((p+1:Nat):Int)):=oM
     by_cases hlt:k<n
     ·obtain⟨b0,o0,C,rfl,cb,b8,he,c0,c1,c2⟩:=(bc.dr f.dr oM).edge hlt;have a9:=za (aW.out C (dB he.out));go_upto_region 11 with fail
      clear cS
      go_cut [67] (fun s wx=>∃ q:Bool,s=.bool q∧(q=true->b=true)∧Ext wr wx)
      case first =>
       have cS:=I.cells;have cE:=t.cells;have C0:∀ W,Ext wr W->W.cell? ⟨b0,o0+k*3,none⟩=some (.int .i64 C.fr):=fun W hW=>hW.aa c0;have C1:∀ W,Ext wr W->W.cell? ⟨b0,o0+k*3+1,none⟩=some (.int .i64 C.le):=fun W hW=>hW.aa c1;have C2:∀ W,Ext wr W->W.cell? ⟨b0,o0+k*3+2,none⟩=some (.int .i64 C.ta):=fun W hW=>hW.aa c2;have bK:=cY wr;cases b
       ·go_wp2_with fail
        go_quiet (fail)
        go_wp2_with fail
        go_meet;exact⟨false,rfl,fun h=>h,(cY _).drewN _⟩
       ·go_wp2_with fail
        go_region_held3 (fun W=>Ext wr W) (first|assumption|(refine Ext.drew ?_;assumption)|(refine Ext.trans ?_ aM;assumption)|(refine Ext.trans ?_ aM;refine Ext.drew ?_;assumption)) ((go_at_call 261;refine (zdg (a:=⟨x,l,y⟩) (b:=C)).mono (mQ fun w5 cc=>?_)))
        go_wp2_with fail
        go_meet;exact⟨_,rfl,fun _=>by trivial,aM⟩
      case rest =>
       obtain⟨q,rfl,hq,H⟩:=hcut;replace f:=f.ext H;replace t:=t.ext H;go_upto_if 67 with fail
       go_cut [9] (fun s9 wx=>∃ (b:Bool) (u:Value) (m:List Edg),s9=.bool b∧Acc w wB wx R (w.heap.size+1+1) (M+5) a p u m∧m.length+b.toNat<=k+1∧Hid (Few (p+1) m))
       case first =>
        cases q
        ·go_wp2_with fail
         go_meet;exact⟨b,u,m,rfl,f,o,F⟩
        ·obtain rfl:=hq rfl;have cG:=f.blk.cell;have cE:=t.cell;simp only [Bool.toNat_true] at o;clear hq;go_wp2_with (at_builtin;refine zao wB _ rfl _ _ _ rfl 117 _ 3 24 Tryz.underlying36 zaT rfl dM u m.length (zq m) _ _ rfl rfl f.fr.size f.own rfl (by simp [Value.oneCell']) lM oM ?_;intro g cap w3 zhO hg3 hat3 hlt3;obtain⟨h1,h2,h3⟩:=f.push (e:=⟨x,l,y⟩) zhO hg3 hat3;have a5:=h1.out)
         go_meet;exact⟨false,_,_,rfl,h3,by simp;omega,zfz F.out ao⟩
       case rest =>
        clear f o F I t c0 c1 c2 H hq;obtain⟨b,u,m,rfl,f,o,F⟩:=hcut;obtain⟨wr,aP⟩:∃ wr,wr=wc:=⟨_,rfl⟩;subst aP;have I:=bS.frm f.fr oM;have t:=bE.frm f.fr oM;obtain⟨c0,c1,c2⟩:=(bc.dr f.dr oM).edge2 he.out;go_upto_region 14 with fail
        go_cut [83] (fun s wx=>∃ q:Bool,s=.bool q∧Ext wr wx)
        case first =>
         have cS:=I.cells;have cE:=t.cells;have C0:∀ W,Ext wr W->W.cell? ⟨b0,o0+k*3,none⟩=some (.int .i64 C.fr):=fun W hW=>hW.aa c0;have C1:∀ W,Ext wr W->W.cell? ⟨b0,o0+k*3+1,none⟩=some (.int .i64 C.le):=fun W hW=>hW.aa c1;have C2:∀ W,Ext wr W->W.cell? ⟨b0,o0+k*3+2,none⟩=some (.int .i64 C.ta):=fun W hW=>hW.aa c2;have bK:=cY wr;cases b
         ·go_wp2_with fail
          go_quiet (fail)
          go_wp2_with fail
          go_meet;exact⟨false,rfl,(cY _).drewN _⟩
         ·go_wp2_with fail
          refine sR (fun X=>Ext wr X) [0,1,2,3,4,5,6,7,8,9] (fun hS=>?_);refine sQ ?_;have HE:=eq_edge (x:Int) (l:Int) (y:Int) C.fr C.le C.ta;refine seq_read (v:=.bool (((x:Int)==C.fr)&&(((l:Int)==C.le)&&((y:Int)==C.ta)))) rfl rfl rfl (fun X hX=>?_) aM ?_
          ·go_simp
          ·clear HE;refine pT ?_;generalize (((x:Int)==C.fr)&&(((l:Int)==C.le)&&((y:Int)==C.ta)))=q;refine sQ ?_;refine zbT ?_;go_wp2_with fail
           go_meet;exact⟨_,rfl,(cY _).drew⟩
        case rest =>
         obtain⟨q,rfl,H⟩:=hcut;replace f:=f.ext H;replace I:=I.ext H;replace c0:=H.aa c0;replace c1:=H.aa c1;replace c2:=H.aa c2;clear t H;go_upto_if 83 with fail
         go_cut [9] (fun s9 wx=>∃ b':Bool,s9=.bool b'∧b'.toNat<=b.toNat∧wc=wx)
         case first =>
          cases q
          ·go_wp2_with fail
           go_meet;exact⟨b,rfl,dD _,rfl⟩
          ·go_wp2_with fail
           go_meet;exact⟨false,rfl,dG _,rfl⟩
         case rest =>
          obtain⟨b',rfl,b6,bJ⟩:=hcut;subst bJ
          by_cases hgo:k=aa
          ·have bC:((k:Int) != (aa:Int))=false:=by simp [hgo]
           have bY:=za hgo;clear hgo;go_wp2_with fail
           go_roundw
           case rel=>exact⟨b',k+1,oM,gM,rfl,u,m,f,oM,F⟩
           case measure=>simp [intOf];omega
          ·have bC:((k:Int) != (aa:Int))=true:=by simp;omega
           clear hgo;obtain⟨wr,aP⟩:∃ wr,wr=wc:=⟨_,rfl⟩;subst aP;have cS:=I.cells;have cG:=fun W (hW:Ext wr W)=>(f.blk.ext hW).cell;have C0:∀ W,Ext wr W->W.cell? ⟨b0,o0+k*3,none⟩=some (.int .i64 C.fr):=fun W hW=>hW.aa c0;have C1:∀ W,Ext wr W->W.cell? ⟨b0,o0+k*3+1,none⟩=some (.int .i64 C.le):=fun W hW=>hW.aa c1;have C2:∀ W,Ext wr W->W.cell? ⟨b0,o0+k*3+2,none⟩=some (.int .i64 C.ta):=fun W hW=>hW.aa c2;go_wp2_with fail
           refine tR (fun X=>Ext wr X) [8,10] (Ord.of [0,1,2,3,4,5,6,7,8,9,10]) ?_;refine tQ ?_;refine zC fun K hK=>?_;go_simp;refine hK.out _ _ ((cY _).drew.alloc _) ?_;refine pT ?_;refine zO fun K hK=>?_;refine zaI wB wr.drew _ _ _ rfl 117 _ 3 24 Tryz.underlying36 zaT rfl dM u m.length (zq m) _ _ rfl rfl f.fr.size f.own rfl (by simp [Value.oneCell']) lM oM ?_;intro g cap w3 zhO hg3 hat3 hlt3;refine hK.out _ _ ?_;refine pT ?_;refine tQ ?_;obtain⟨h1,h2,h3⟩:=(f.ext ((cY _).drew)).push (e:=C) (W':=w3) zhO hg3 hat3;have a5:=h1.out;refine zO fun K hK=>?_;go_simp;refine hK.out _ _ ?_;refine zai ?_;go_wp2_with fail
           go_roundw
           case rel=>exact⟨b',k+1,oM,gM,rfl,_,_,h3,by simp;omega,zfz F.out a9.out⟩
           case measure=>simp [intOf];omega
     ·obtain rfl:k=n:=oM;go_upto_if 97 with fail
      go_cut [] (fun wx=>∃ (u:Value) (m:List Edg),Acc w wB wx R (w.heap.size+1+1) (M+5) a p u m∧m.length<=k+1∧Hid (Few (p+1) m))
      case first =>
       cases b
       ·go_wp2_with fail
        go_meet;exact⟨u,m,f,by simpa using o,F⟩
       ·have cG:=f.blk.cell;have cE:=t.cell;simp only [Bool.toNat_true] at o;go_wp2_with (at_builtin;refine zao wB _ rfl _ _ _ rfl 117 _ 3 24 Tryz.underlying36 zaT rfl dM u m.length (zq m) _ _ rfl rfl f.fr.size f.own rfl (by simp [Value.oneCell']) lM oM ?_;intro g cap w3 zhO hg3 hat3 hlt3;obtain⟨h1,h2,h3⟩:=f.push (e:=⟨x,l,y⟩) zhO hg3 hat3;have a5:=h1.out)
        go_meet;exact⟨_,_,h3,by simp;omega,zfz F.out ao⟩
      case rest =>
       clear f o F cS I t;obtain⟨u,m,f,o,F⟩:=hcut;obtain⟨A',n',c',rfl⟩:=f.form;obtain⟨rfl,_⟩:=f.reads;have bQ:=zhh f.own;have cG:=f.blk.cell;have a4:=bZ.frm f.fr oM;have cz:=a4.cell;have cg:=bZ.lt;have fz:=a4.frozen;obtain⟨f1,f2,f3⟩:=f.fin (Z:=w.heap.size+1) oM oM (.int .i64 a) (.int .i64 p) (.slice A' m.length c');have aX:=za (show RetA R (M+10) (L+1) w (.returned (.agg #[a,p,.slice A' m.length c'])) _ from ⟨⟨a,p,m⟩,A',m.length,c',rfl,f1,oM,f2.more oM,f3⟩);clear f1 f2 f3;go_wp2_with fail
       exact bodyPost_ret (v:=.agg #[a,p,.slice A' m.length c']) (by simp [results,Tryz.results182,go_sem,cz]) rfl aX.out
theorem zgE (h:Rd w R M)(hM:M<=900000000)(hs:zbO w R A n s)(hf:Fair s)(hn:n<=L)(hL:L<=100000) :
  Calls Tryz.prog 182 #[.pointer (some R),.agg #[s.al,s.st,.slice A n c]] w (RetA R (M+10) (L+1) w):=by
 obtain⟨al,st,j⟩:=s;obtain⟨a,p,b,g,d,i,f⟩:=hf;simp only at b d f;subst b;subst d;exact zgD h hM hs g i f hn hL
def TextsAt (W:World) (base g n:Nat):Prop:=
 ∀ k<n,∃ (b:Nat) (l:List ByteArray),W.cell? ⟨g,k,none⟩=some (.slice (some b) 4 4)∧l.length=4∧(∀ x∈l,x.size<=40)∧W.ownsRow base 9 1 (.slice (some b) 4 4) 4 (zM l)
def RetTLL (w:World) (e:Ending) (w':World):Prop:=∃ g,e=.returned (.slice (some ⟨g,0,none⟩) 5 5)∧w.heap.size<=g∧TextsAt w' w.heap.size g 5∧Ext w w'
theorem lit5 (w:World) {u1 u2 u3 u4 u5:Array Value}
  (h1:zM (u1.toList.map zfu)=u1.toList) (h2:zM (u2.toList.map zfu)=u2.toList) (h3:zM (u3.toList.map zfu)=u3.toList) (h4:zM (u4.toList.map zfu)=u4.toList) (h5:zM (u5.toList.map zfu)=u5.toList)
  (k1:u1.size=4) (k2:u2.size=4) (k3:u3.size=4) (k4:u4.size=4) (k5:u5.size=4)
  (b1:∀ x∈u1.toList.map zfu,x.size<=40) (b2:∀ x∈u2.toList.map zfu,x.size<=40) (b3:∀ x∈u3.toList.map zfu,x.size<=40) (b4:∀ x∈u4.toList.map zfu,x.size<=40) (b5:∀ x∈u5.toList.map zfu,x.size<=40) :
  RetTLL w (.returned (.slice (some ⟨w.heap.size+5,0,none⟩) 5 5)) ((((((w.alloc (.cells u1 9)).alloc (.cells u2 9)).alloc (.cells u3 9)).alloc (.cells u4 9)).alloc (.cells u5 9)).alloc (.cells #[.slice (some w.heap.size) 4 4,.slice (some ⟨w.heap.size+1,0,none⟩) 4 4,.slice (some ⟨w.heap.size+2,0,none⟩) 4 4,.slice (some ⟨w.heap.size+3,0,none⟩) 4 4,.slice (some ⟨w.heap.size+4,0,none⟩) 4 4] 88)):=by
 have o1:=zcP w h1 k1 oM;have y:=(cY w).alloc (.cells u1 9);have q:(w.alloc (.cells u1 9)).heap.size=w.heap.size+1:=sM;generalize w.alloc (.cells u1 9)=d at *;have o2:=zcP d h2 k2 oM;have u:=(cY d).alloc (.cells u2 9);have r:(d.alloc (.cells u2 9)).heap.size=w.heap.size+2:=by simp [q]
 rw [q] at o2;generalize d.alloc (.cells u2 9)=f at *;have n:=zcP f h3 k3 oM;have m:=(cY f).alloc (.cells u3 9);have s:(f.alloc (.cells u3 9)).heap.size=w.heap.size+3:=by simp [r]
 rw [r] at n;generalize f.alloc (.cells u3 9)=g at *;have o:=zcP g h4 k4 oM;have i:=(cY g).alloc (.cells u4 9);have t:(g.alloc (.cells u4 9)).heap.size=w.heap.size+4:=by simp [s]
 rw [s] at o;generalize g.alloc (.cells u4 9)=h at *;have p:=zcP h h5 k5 oM;have c:=(cY h).alloc (.cells u5 9);have v:(h.alloc (.cells u5 9)).heap.size=w.heap.size+5:=by simp [t]
 rw [t] at p;generalize h.alloc (.cells u5 9)=l at *;have a:=dU l 88 #[.slice (some w.heap.size) 4 4,.slice (some ⟨w.heap.size+1,0,none⟩) 4 4,.slice (some ⟨w.heap.size+2,0,none⟩) 4 4,.slice (some ⟨w.heap.size+3,0,none⟩) 4 4,.slice (some ⟨w.heap.size+4,0,none⟩) 4 4];have b:=(cY l).alloc (.cells #[.slice (some w.heap.size) 4 4,.slice (some ⟨w.heap.size+1,0,none⟩) 4 4,.slice (some ⟨w.heap.size+2,0,none⟩) 4 4,.slice (some ⟨w.heap.size+3,0,none⟩) 4 4,.slice (some ⟨w.heap.size+4,0,none⟩) 4 4] 88);rw [v] at a;generalize l.alloc _=z at *;refine⟨_,rfl,oM,fun k hk=>?_,((((y.trans u).trans m).trans i).trans c).trans b⟩;have j:k=0∨k=1∨k=2∨k=3∨k=4:=oM;rcases j with rfl|rfl|rfl|rfl|rfl
 ·exact⟨_,_,a.cell 0,by simp [k1],b1,zg o1 ((((u.trans m).trans i).trans c).trans b)⟩
 ·exact⟨_,_,a.cell 1,by simp [k2],b2,zo (zg o2 (((m.trans i).trans c).trans b)) oM⟩
 ·exact⟨_,_,a.cell 2,by simp [k3],b3,zo (zg n ((i.trans c).trans b)) oM⟩
 ·exact⟨_,_,a.cell 3,by simp [k4],b4,zo (zg o (c.trans b)) oM⟩
 ·exact⟨_,_,a.cell 4,by simp [k5],b5,zo (zg p b) oM⟩
theorem zhq :Calls Tryz.prog 204 #[] w (RetTLL w):=by
 go_enter Tryz.func204,Tryz.ntmps204
 go_wp2_with fail
 go_ret;exact lit5 w rfl rfl rfl rfl rfl rfl rfl rfl rfl rfl (by decide +kernel) (by decide +kernel) (by decide +kernel) (by decide +kernel) (by decide +kernel)
def RetL14 (R M:Nat) (w:World) (e:Ending) (w':World):Prop:=
 ∃ (l:List Ent) (g c:Nat) (b:Aut) (A:Option Addr) (n c1:Nat) (A':Option Addr) (n' c2:Nat),l.length=3∧e=.returned (.tuple #[.slice (some g) 3 c,.agg #[b.al,.slice A n c1,.slice A' n' c2]])∧Sld w w' R M (.slice (some g) 3 c) l∧zK w' (R+1) A n c1 A' n' c2 b∧Hid (BdA 50 b)∧Hid (∀ e∈l,e.n<=40000)
theorem union_le14 (h:zx ss=true):zJ ss<=63:=by
 have c:∀ s∈ss,zj s=true:=by
  unfold zx at h;simp only [dF,eC] at h;exact h.2.2
 have:∀ n,zJ (ss.take n)<=63:=by
  intro n
  induction n with
  |zero=>simp [zJ]
  |succ n ih =>
   rcases Nat.lt_or_ge n ss.length with a|a
   ·rw [zbL (dC a)];have:=zI (c _ (List.getElem_mem a));have:=Nat.or_lt_two_pow (n:=6) (x:=zJ (ss.take n)) (y:=ss[n].al.toNat) oM oM;omega
   ·rw [dI oM];rw [dI a] at ih;exact ih
 have b:=this ss.length;rwa [List.take_length] at b
theorem partsA_cases (ss:List Sys):(∃ a:Nat,zaF ss=(a:Int)∧a<64)∨zaF ss = -1:=by
 unfold zaF;cases h:zx ss
 ·exact .inr rfl
 ·exact .inl ⟨zJ ss,rfl,by have:=union_le14 h;omega⟩
theorem Sld.box {gb:Nat}  {l:List Ent} {cs:Array Value}(h:Sld w0 W R M v l)(hB:Blk W gb 38 cs)(hv:∀ b,v.ownBlock=some b->b≠gb)(hg:w0.heap.size<=gb) (u0 u1 u2:Value) :
  Sld w0 (((W.setCell gb u0).setCell ⟨gb,1,none⟩ u1).setCell ⟨gb,2,none⟩ u2) R M v l:=by
 have a:=h.hR;have c:=zbZ W gb u0 u1 u2;exact⟨zf h.own c (fun b hb e=>hv b hb e),fun e he=>⟨(h.ent e he).1.far hB dM c,(h.ent e he).2⟩,h.rd.frm c (fun k hk e=>oM),((h.dr.ag (p:=⟨gb,0,none⟩) hg _).ag (p:=⟨gb,1,none⟩) hg _).ag (p:=⟨gb,2,none⟩) hg _,a⟩
theorem fin14 {N K:Nat} {l:List Ent} {b:Aut}  {c1 c2:Nat} {cs:Array Value}(hl:l.length=3)(hs:Sld w W R M (.slice (some g) 3 c) l)(ho:zK W K A n c1 A' n' c2 b)(hK:R+1<=K)(hZK:Z<K)(hb:BdA 50 b)(hle:∀ e∈l,e.n<=40000) (bz:Blk W Z 27 cs)(hc:cs.size=3)(hZ:w.heap.size<=Z)(hM:M<=N) :
  Hid (RetL14 R N w (.returned (.tuple #[.slice (some g) 3 c,.agg #[b.al,.slice A n c1,.slice A' n' c2]])) (((W.setCell Z b.al).setCell ⟨Z,1,none⟩ (.slice A n c1)).setCell ⟨Z,2,none⟩ (.slice A' n' c2))) ∧
  Blk (((W.setCell Z b.al).setCell ⟨Z,1,none⟩ (.slice A n c1)).setCell ⟨Z,2,none⟩ (.slice A' n' c2)) Z 27 #[.int .i64 b.al,.slice A n c1,.slice A' n' c2]:=by
 have d:=hs.hR;have a:=zab W Z (.int .i64 b.al) (.slice A n c1) (.slice A' n' c2);refine⟨za ⟨l,g,c,b,A,n,c1,A',n',c2,hl,rfl,⟨zf hs.own a (fun k hv e=>zp hs.own bz dM hv e),fun e he=>⟨(hs.ent e he).1.far bz dM a,(hs.ent e he).2⟩,(hs.rd.more hM).frm a (fun k hk e=>oM),?_,d⟩,(ho.ak a (fun k h1 e=>oM)).less hK,za hb,za hle⟩,zaj bz hc _ _ _⟩;exact ((hs.dr.ag (p:=⟨Z,0,none⟩) hZ _).ag (p:=⟨Z,1,none⟩) hZ _).ag (p:=⟨Z,2,none⟩) hZ _
theorem spec_l14Draw (h:Rd w R M)(hM:M<=600000000) :
  Calls Tryz.prog 115 #[.pointer (some R)] w (RetL14 R (M+100000) w):=by
 have hRl:=h.lt
 go_enter Tryz.func115,Tryz.ntmps115
 go_wp2_with fail
 generalize U0:w.alloc _=w1 at *;have hxz:=gC U0;have bz:=dV U0;have cj:w1.heap.size=w.heap.size+1:=by rw [← U0];simp
 clear U0;refine (zw (h.ext hxz) oM).mono ?_;rintro e w2 ⟨z,rfl,-,-,aP,aE⟩;have au:=hxz.dr.trans aE;have ah:=bz.dr aE oM
 by_cases hz:z=0
 ·subst hz;have bB:=au.size;go_wp2_with fail
  refine (zhq).mono ?_;rintro e w3 ⟨g,rfl,hg,hT,Y⟩;have br:=au.ext Y;have a1:=ah.ext Y;have b8:=Y.size;have co:=ah.lt;go_wp2_with fail
  refine (zw (aP.ext Y) oM).mono ?_;rintro e w4 ⟨j,rfl,hj,-,aq,y⟩;have bc:j<5:=by have:=hj oM;omega
  have bu:=br.trans y;have a2:=a1.dr y oM;obtain⟨bt,lt,aD,ca,V,aK⟩:=hT j bc;have a6:=y.aa aD (by dsimp only;omega);have aL:=zaA aK y (fun b J e=>oM);have bO:(j:Int)<5:=oM;have ae:=Sld.nil (w0:=w) aq bu hRl;have av:=(cY w4).alloc (.cells #[] 38);have Z:=zg aL av;have F:=a2.ext av;clear hj hT aD aK;go_upto_region 5 with fail
  generalize hg4:w4.heap.size=g4 at *;generalize w4.alloc _=w5 at *;go_wp2_with fail
  go_loopw [6,7] (fun v i wr=>∃ (k:Nat) (vl:Value) (l:List Ent),k<=3∧vl=v∧i=.int .i64 k∧Hid (l.length=k)∧Hid (∀ e∈l,e.n<=40000)∧Sld w wr R (M+2+20*k) vl l∧Blk wr w.heap.size 27 #[(0:Int),(),()]∧wr.ownsRow w2.heap.size 9 1 (.slice (some bt) 4 4) 4 (zM lt)) (fun _ i _=>3 - (intOf i).toNat)
  case atStart=>exact⟨0,_,[],dG _,rfl,rfl,rfl,za (fun _ h=>by simp at h),ae.more oM,F,Z⟩
  case round =>
   clear ae F Z av a6;obtain⟨k,vl,l,hk,rfl,rfl,U,ap,f,m,d⟩:=hrel
   by_cases hlt:k<3
   ·obtain⟨ad,x,e1,_,_,hx,cx⟩:=(dY d).str (show k<4 by omega);obtain rfl:=Option.some.inj e1;have bA:=V x (dB hx.out);rw [zP,Nat.zero_add] at cx;have bC:=m.lt;go_wp2_with fail
    refine (zfq f.rd oM).mono ?_;rintro e L ⟨s,A1,n1,c1,ok,rfl,bm,⟨-,a9⟩,be,aO,E⟩;have p:=(cY L).alloc (.cells #[s.al,s.st,.slice A1 n1 c1] 38);have bs:=dU L 38 #[s.al,s.st,.slice A1 n1 c1];have o:=(f.drawn E aO).ext p;have r:=(m.dr E oM).ext p;have aa:=zg (zaA d E (fun b J e=>oM)) p;have aQ:=bm.ext p;have cn:=r.lt;have bq:∀ b,vl.ownBlock=some b->b≠L.heap.size:=fun b hb=>by have:=(f.own.lt b hb).2;have:=E.size;omega
    have b9:=(f.drawn E aO).dr.size;have bM:=E.size;go_upto_region 9 with fail
    generalize hgb:L.heap.size=gb at *;generalize L.alloc _=wb at *;go_wp2_with fail
    refine (zw o.rd oM).mono ?_;rintro e wc ⟨q,rfl,-,-,bk,G⟩;have C:=o.drawn G bk;have O:=bs.dr G oM;have aj:=r.dr G oM;have H:=zaA aa G (fun b J e=>oM);have ar:=aQ.dr G;clear bs r aa aQ o d m cx p;go_upto_if 39 with fail
    go_cut [] (fun wx=>∃ Q:Ent,Blk wx gb 38 #[Q.s.al,Q.s.st,.slice Q.A Q.n Q.c]∧Q.ok wx R∧Q.n<=40000∧Sld w wx R (M+2+20*k+15) vl l∧Blk wx w.heap.size 27 #[(0:Int),(),()]∧wx.ownsRow w2.heap.size 9 1 (.slice (some bt) 4 4) 4 (zM lt))
    case first =>
     by_cases hq:q=0
     ·subst hq;have cs:=O.cell;go_wp2_with fail
      refine (zgE C.rd oM ar a9 be.1 oM).mono ?_;rintro e wd ⟨s2,A2,n2,c2,rfl,bn,cb,bl,T⟩;have D:=O.dr T oM;have bY:=D.cell;have b4:=D.frozen;have aT:=(C.drawn T bl).box D bq oM (.int .i64 s2.al) (.int .i64 s2.st) (.slice A2 n2 c2);have ao:=zbZ wd gb (.int .i64 s2.al) (.int .i64 s2.st) (.slice A2 n2 c2);have ab:=zaA H T (fun b J e=>oM);go_wp2_with fail
      go_meet;exact⟨⟨s2,A2,n2,c2⟩,blk_fill D rfl _ _ _,⟨bn.far D dM ao,by dsimp only;omega,by dsimp only;omega⟩,by dsimp only;omega,aT.more oM,(aj.dr T oM).frm ao oM,zf ab ao (fun b hb e=>zp ab D dM hb e)⟩
     ·have ch:((q:Int)==0)=false:=by simp;omega
      go_wp2_with fail
      go_meet;exact⟨⟨s,A1,n1,c1⟩,O,⟨ar,by dsimp only;omega,by dsimp only;omega⟩,by dsimp only;omega,C.more oM,aj,H⟩
    case rest =>
     clear C O aj H ar;obtain⟨Q,a0,a8,aI,B,m,d⟩:=hcut;have bZ:=a0.cell;have aJ:=U.out;go_wp2_with (at_builtin;refine zdA w _ rfl _ _ _ rfl 38 _ 3 40 Tryz.underlying23 info_sys rfl dM vl l.length (zfm l) _ _ rfl rfl B.dr.size B.own rfl (by simp [Value.oneCell']) lM oM ?_;intro g5 cap5 w5' zhP hg5 hat5 hlt5)
     have aN:=B.push a8 zhP hg5;rw [aJ] at aN;go_roundw
     case rel=>exact⟨k+1,_,l++[Q],oM,rfl,gM,by unfold Hid;rw [dO,aJ];rfl,za (fun e he=>by rcases List.mem_append.1 he with J|J;exact ap.out e J;rw [eP] at J;subst J;exact aI),aN.more (show M+2+20*k+15<=M+2+20*(k+1) by omega),(hg5.block _ m.lt (fun e=>zp B.own m dM e.symm rfl)).trans m,zf d (Frm.ae hg5) (fun b hb hS=>zaW d B.own dM hb hS)⟩
     case measure=>simp [intOf];omega
   ·have bd:k=3:=oM;subst bd;obtain⟨g,cg,rfl⟩:∃ g cg,vl=.slice (some ⟨g,0,none⟩) 3 cg:=by
     have ho:=f.own.2;rw [U.out] at ho;rcases ho with ⟨_,h0⟩|⟨g,a4,b0,J,_⟩
     ·omega
     ·exact⟨g,a4,J⟩
    obtain⟨ad,x,e1,_,_,hx,cx⟩:=(dY d).str (show 3<4 by omega);obtain rfl:=Option.some.inj e1;have bA:=V x (dB hx.out);rw [zP,Nat.zero_add] at cx;have bC:=m.lt;go_wp2_with fail
    refine (zci f.rd oM).mono ?_;rintro e L ⟨b,A1,n1,c1,A2,n2,c2,ok,rfl,aA,aC,bj,aH⟩;have ci:=f.dr.size;have p:=(cY L).alloc (.cells #[b.al,.slice A1 n1 c1,.slice A2 n2 c2] 27);have bb:=dU L 27 #[b.al,.slice A1 n1 c1,.slice A2 n2 c2];have o:=(f.drawn aH bj).ext p;have r:=(m.dr aH oM).ext p;have aB:=aA.ext p;clear aA d m cx;go_upto_region 13 with fail
    generalize hgb:L.heap.size=gb at *;generalize L.alloc _=wb at *;have cB:=bb.cells;have cz:=r.cell;have fz:=r.frozen;have an:Ext wb wb.drew:=(cY _).drew;obtain⟨-,f2⟩:=fin14 (N:=M+100000) U.out o aB oM oM (BdL.more aC.out oM) ap.out r rfl (dD _) oM;obtain⟨f1,-⟩:=fin14 (N:=M+100000) U.out (o.ext an) (aB.ext an) oM oM (BdL.more aC.out oM) ap.out (r.ext an) rfl (dD _) oM;go_wp2_with fail
    refine tR (fun X=>Ext wb X) [3] (Ord.of [0,1,2,3]) ?_;refine tQ ?_;refine zO fun K hK=>?_;go_simp;refine hK.out _ _ ?_;refine zai ?_;go_wp2_with fail
    have cf:=f2.cell;exact bodyPost_ret (v:=.tuple #[.slice (some g) 3 cg,.agg #[b.al,.slice A1 n1 c1,.slice A2 n2 c2]]) (by simp [results,Tryz.results115,go_sem,cf]) rfl f1.out
 ·have ck:((z:Int)==0)=false:=by simp;omega
  go_wp2_with fail
  refine (zcy aP oM).mono ?_;rintro e w3 ⟨s,A3,n3,c3,rfl,bo,-,cc,bg,aF⟩;go_wp2_with fail
  refine (zcy bg oM).mono ?_;rintro e w4 ⟨t,A4,n4,c4,rfl,V,-,cd,aq,y⟩;go_wp2_with fail
  refine (zcy aq oM).mono ?_;rintro e w5 ⟨u,A5,n5,c5,rfl,bp,-,ce,bh,S⟩;have aU:=((au.trans aF).trans y).trans S;have F:=((ah.dr aF oM).dr y oM).dr S oM;have f:=Sld.three (w0:=w) (a:=⟨s,A3,n3,c3⟩) (b:=⟨t,A4,n4,c4⟩) (c:=⟨u,A5,n5,c5⟩) bh aU hRl ⟨(bo.dr y).dr S,by dsimp only;omega,by dsimp only;omega⟩ ⟨V.dr S,by dsimp only;omega,by dsimp only;omega⟩ ⟨bp,by dsimp only;omega,by dsimp only;omega⟩;dsimp only at f;have bx:=(cY w5).alloc (.cells #[s.al,s.st,.slice A3 n3 c3,t.al,t.st,.slice A4 n4 c4,u.al,u.st,.slice A5 n5 c5] 38);have a3:=F.ext bx;have cl:=F.lt;generalize hg6:w5.heap.size=g6 at *;go_upto_region 15 with fail
  generalize w5.alloc _=w6 at *;have hA:=partsA_cases [s,t,u];have aR:=f.sl rfl;have bB:=aU.size;go_wp2_with (first
   |(go_at_call 206;refine (zac aR).mono (mQ fun w7 aV=>?_);have I:=f.ext aV;have bz7:=a3.ext aV;have cm:=bz7.lt;have hr7:=I.dr.size)
   |(go_at_call 205;refine (zft I.rd oM hA).mono ?_;rintro e w8 ⟨b,A8,n8,d8,A9,n9,d9,rfl,bf,ba,bi,aG⟩;have ai:=bz7.dr aG oM;have b1:=ai.cell;have b5:=ai.frozen;have aS:=I.drawn aG bi))
  obtain⟨f1,f2⟩:=fin14 (N:=M+100000) rfl aS bf oM oM ((BdA.of ba.out).more oM) (fun e he=>by simp only [List.mem_cons,List.not_mem_nil,or_false] at he;rcases he with rfl|rfl|rfl<;>(dsimp only;omega)) ai rfl (dD _) oM
  have cf:=f2.cell;exact bodyPost_ret (v:=.tuple #[.slice (some g6) 3 3,.agg #[b.al,.slice A8 n8 d8,.slice A9 n9 d9]]) (by simp [results,Tryz.results115,go_sem,cf]) rfl f1.out
theorem zfy (h:zh a=true∨a=noA):BdA 12 a:=by
 rcases h with h|rfl
 ·obtain⟨f,⟨g,b⟩,i,c⟩:=zk h;refine⟨b,oM,fun l hl=>?_⟩;obtain⟨q,d⟩:=List.getElem?_of_mem hl;rw [(c q l d).1];exact Nat.le_trans (zB _ _) oM
 ·exact⟨dG _,dG _,fun l hl=>by simp [noA] at hl⟩
theorem spec_l3Texts :Calls Tryz.prog 168 #[] w (RetTexts 30 w):=by
 go_enter Tryz.func168,Tryz.ntmps168
 go_wp2;go_ret;exact⟨_,_,_,_,rfl,dM,zcP w rfl rfl oM,by decide +kernel,(cY _).alloc _⟩
theorem yF14a2 {P:Prop}(h:P:=by
 obtain⟨a,rfl,ha⟩:∃ a:Nat,al=a∧a<64:=⟨al.toNat,by simp at hal;omega,by simp at hal;omega⟩;clear hal;have hs6:=hw6.size;go_wp2_with fail
 refine (zcj hr6 oM ha).mono ?_;rintro e w7 ⟨b,A,n,c,A',n',c',rfl,zhD,hsh,hr7,hd7⟩;obtain⟨f1,f2⟩:=zdX (N:=M+1000) (sh:=BdA 31) hxz (zhD.less hs6) (BdL.more (BdA.of hsh.out) oM) hr7 (hw6.trans hd7) bz rfl hRl (Nat.le_refl _) oM;have bz7:=bz.dr (hw6.trans hd7) oM;have cZ:=bz7.cell;have fZ:=bz7.frozen;go_wp2_with fail
 have cf:=f2.cell;exact bodyPost_ret (v:=.agg #[b.al,.slice A n c,.slice A' n' c']) (by simp [results,Tryz.results76,go_sem,cf]) rfl f1.out
 ):P:=h
theorem spec_l3Draw (h:Rd w R M)(hM:M<=700000000) :
  Calls Tryz.prog 76 #[.pointer (some R)] w (zfl R (M+1000) (BdA 31) w):=by
 have hRl:=h.lt
 go_enter Tryz.func76,Tryz.ntmps76
 go_wp2_with fail
 generalize U0:w.alloc _=H at *;have hxz:=gC U0;have bz:=dV U0;clear U0;have J:=bz.lt;refine (zw (h.ext hxz) oM).mono ?_;rintro e w2 ⟨y,rfl,-,-,j,f⟩
 by_cases hy:y=0
 ·subst hy;go_wp2_with fail
  refine (spec_l3Texts).mono ?_;rintro e w3 ⟨A,n,c,l,rfl,O,zhD,L,p⟩;have Q:=f.size;go_wp2_with fail
  refine (l19Rd_of (j.ext p) oM (dY zhD) oM O).mono ?_;rintro e X ⟨x,S,rfl,D,u⟩;have T:=L x S;go_wp2_with fail
  refine (zci D oM).mono ?_;rintro e G ⟨b,B,m,d,r,F,s,V,rfl,C,t,k,z⟩;have o:Dr R H X:=(f.ext p).trans u;have i:Dr R H G:=o.trans z;have E:=o.size;have a:=(cY G).alloc (.cells #[b.al,.slice B m d,.slice r F s] 27);have I:=dU G 27 #[b.al,.slice B m d,.slice r F s];cases V
  ·go_wp2_with fail
   have q:=(zaV [3,6,7,5,1,0,2] 7 #[(3:Int),(6:Int),(7:Int),(5:Int),(1:Int),(0:Int),(2:Int)] rfl rfl oM oM (k.ext a) oM);simp only [World.size_alloc] at q;refine q.mono ?_;rintro e Y ⟨al,hal,rfl,hr6,g⟩;have hw6:=((i.ext a).ext ((cY _).alloc _)).trans g;exact yF14a2
  ·have Z:=I.cell;obtain⟨f1,f2⟩:=zdX (N:=M+1000) (sh:=BdA 31) hxz ((C.less E).ext a) (BdL.more t.out oM) (k.ext a) (i.ext a) bz rfl hRl (dD _) oM;have bz7:=bz.dr (i.ext a) oM;have cZ:=bz7.cell;have fZ:=bz7.frozen;go_wp2_with fail
   have cf:=f2.cell;exact bodyPost_ret (v:=.agg #[b.al,.slice B m d,.slice r F s]) (by simp [results,Tryz.results76,go_sem,cf]) rfl f1.out
 ·have U:((y:Int)==0)=false:=by simp;omega
  go_wp2_with fail
  have q:=(zaV [3,6,7,5,1,0,2] 7 #[(3:Int),(6:Int),(7:Int),(5:Int),(1:Int),(0:Int),(2:Int)] rfl rfl oM oM j oM);refine q.mono ?_;rintro e Y ⟨al,hal,rfl,hr6,g⟩;have hw6:=(f.ext ((cY _).alloc _)).trans g;exact yF14a2
theorem entC_take (l:List Ent) (k:Nat):zfm (l.take k)=(zfm l).take (k*3):=by
 induction l generalizing k with
 |nil=>simp [zfm]
 |cons e r ih =>
  cases k with
  |zero=>simp [zfm]
  |succ k =>
   show e.cs++zfm (r.take k)=(e.cs++zfm r).take ((k+1)*3);rw [ih,List.take_append,show e.cs.length=3 by rfl,show (k+1)*3 - 3=k*3 by omega,dI (show e.cs.length<=(k+1)*3 by rw [show e.cs.length=3 by rfl];omega)]
section
variable {w0 W:World} {R M g n c:Nat} {l:List Ent}
theorem Sld.take (h:Sld w0 W R M (.slice (some g) n c) l)(hn:n=l.length)(hk:k<=n):Sld w0 W R M (.slice (some g) k c) (l.take k):=by
 subst hn;have p:(l.take k).length=k:=by rw [eK];omega
 refine⟨?_,fun e he=>h.ent e (List.mem_of_mem_take he),h.rd,h.dr,h.hR⟩;have q:=h.own;rw [p,entC_take];refine⟨by rw [eK,entC_length];omega,.inr ?_⟩;rcases q.2 with ⟨a,_⟩|⟨r,d,b,a,f,i,s,j,m,o⟩
 ·simp at a
 ·injection a with a h8 h9
  injection a with a
  injection a with a
  subst a;subst h9;refine⟨g,c,b,rfl,f,i,oM,j,m,?_⟩;rw [← o,List.take_take,Nat.min_eq_left oM]
theorem Sld.cap (h:Sld w0 W R M (.slice (some g) n c) l)(hn:n=l.length):n<=c:=by
 subst hn;rcases h.own.2 with ⟨a,_⟩|⟨d,cap,b,a,f,i,j,_⟩
 ·simp at a
 ·injection a with a h8 h9
  omega
theorem Sld.set1 {e:Ent}(h:Sld w0 W R M (.slice (some g) n c) l)(hn:n=l.length)(h2:2<=n)(he:e.ok W R) :
  Sld w0 (((W.setCell ⟨g,3,none⟩ e.s.al).setCell ⟨g,4,none⟩ e.s.st).setCell ⟨g,5,none⟩ (.slice e.A e.n e.c)) R M (.slice (some g) n c) (l.set 1 e):=by
 subst hn;have m:=(h.own.lt g rfl).1;have i:=h.hR;have o:Frm (fun k=>k=g) W (((W.setCell ⟨g,3,none⟩ e.s.al).setCell ⟨g,4,none⟩ e.s.st).setCell ⟨g,5,none⟩ (.slice e.A e.n e.c)):=
  ((dE W g 3 _).trans (dE _ g 4 _)).trans (dE _ g 5 _)
 have f:∀ x:Ent,x.ok W R->x.ok (((W.setCell ⟨g,3,none⟩ e.s.al).setCell ⟨g,4,none⟩ e.s.st).setCell ⟨g,5,none⟩ (.slice e.A e.n e.c)) R:=fun x d =>
  ⟨d.1.frm o (fun k hk _=>by subst hk;exact own_sys h.own rfl),d.2⟩
 refine⟨?_,fun x d=>?_,h.rd.frm o (fun k hk e=>oM),((h.dr.ag (p:=⟨g,3,none⟩) m _).ag (p:=⟨g,4,none⟩) m _).ag (p:=⟨g,5,none⟩) m _,i⟩
 ·have q:=(((h.own.stored 3 (.int .i64 e.s.al)).1.stored 4 (.int .i64 e.s.st)).1.stored 5 (.slice e.A e.n e.c)).1;rw [fB];have j:(((zfm l).set 3 (.int .i64 e.s.al)).set 4 (.int .i64 e.s.st)).set 5 (.slice e.A e.n e.c)=zfm (l.set 1 e):=by
   match l,h2 with
   |a :: b :: r,_=>rfl
  rw [← j];exact q
 ·rcases List.mem_or_eq_of_mem_set d with d|d
  ·exact f x (h.ent x d)
  ·subst d;exact f _ he
theorem Sld.at_ {i:Nat} {e:Ent}(h:Sld w0 W R M (.slice (some g) n c) l)(hn:n=l.length)(he:l[i]?=some e) :
  W.cell? ⟨g,i*3,none⟩=some (.int .i64 e.s.al)∧W.cell? ⟨g,i*3+1,none⟩=some (.int .i64 e.s.st)∧W.cell? ⟨g,i*3+2,none⟩=some (.slice e.A e.n e.c):=by
 subst hn;have f:=(List.getElem?_eq_some_iff.1 he).1;obtain⟨a,b,d⟩:=zha he;exact⟨(h.own.cellAt (i*3) oM).trans a,(h.own.cellAt (i*3+1) oM).trans b,(h.own.cellAt (i*3+2) oM).trans d⟩
end
def RetL14A (R M:Nat) (w:World) (e:Ending) (w':World):Prop:=
 ∃ (l:List Ent) (k g c:Nat) (b:Aut) (A:Option Addr) (n c1:Nat) (A':Option Addr) (n' c2:Nat),Hid (k=l.length)∧k<=4∧e=.returned (.tuple #[.slice (some g) k c,.agg #[b.al,.slice A n c1,.slice A' n' c2]])∧Sld w w' R M (.slice (some g) k c) l∧zK w' (R+1) A n c1 A' n' c2 b∧Hid (BdA 100 b)
structure L14S (w0 W:World) (R G M g k c:Nat) (l:List Ent) (b:Aut) (A:Option Addr) (n c1:Nat) (A':Option Addr) (n' c2:Nat):Prop where
 sld:Sld w0 W R M (.slice (some g) k c) l
 len:Hid (k=l.length)
 blk:Blk W (G) 27 #[b.al,.slice A n c1,.slice A' n' c2]
 own:zK W (R+1) A n c1 A' n' c2 b
 bd:Hid (BdA 100 b)
 z:Blk W w0.heap.size 27 #[(0:Int),(),()]
 hG:w0.heap.size<G
section
variable {w0 W W':World} {R G M N g k c:Nat} {l:List Ent} {b:Aut} {A:Option Addr} {n c1:Nat} {A':Option Addr} {n' c2:Nat}
theorem L14S.drawn (h:L14S w0 W R G M g k c l b A n c1 A' n' c2)(hd:Dr R W W')(hr:Rd W' R N):L14S w0 W' R G N g k c l b A n c1 A' n' c2:=
 have hR:=h.sld.hR
 ⟨h.sld.drawn hd hr,h.len,h.blk.dr hd (oH h.hG),h.own.ak hd (fun b h1 e=>oM),h.bd,h.z.dr hd oM,h.hG⟩
theorem L14S.more (h:L14S w0 W R G M g k c l b A n c1 A' n' c2)(hM:M<=N):L14S w0 W R G N g k c l b A n c1 A' n' c2:={ h with sld:=h.sld.more hM }
theorem L14S.far (h:L14S w0 W R G M g k c l b A n c1 A' n' c2):g≠w0.heap.size∧g≠G:=⟨zp h.sld.own h.z dM rfl,zp h.sld.own h.blk dM rfl⟩
theorem L14S.setP {b1:Aut} {A1:Option Addr} {n1 d1:Nat} {A2:Option Addr} {n2 d2:Nat}(h:L14S w0 W R G M g k c l b A n c1 A' n' c2)(ho:zK W (R+1) A1 n1 d1 A2 n2 d2 b1)(hb:BdA 100 b1) :
  L14S w0 (((W.setCell G b1.al).setCell ⟨G,1,none⟩ (.slice A1 n1 d1)).setCell ⟨G,2,none⟩ (.slice A2 n2 d2)) R G M g k c l b1 A1 n1 d1 A2 n2 d2:=by
 have f:=h.sld.hR;have d:=h.hG;have a:=zab W (G) (.int .i64 b1.al) (.slice A1 n1 d1) (.slice A2 n2 d2);refine⟨⟨zf h.sld.own a (fun k hv e=>zp h.sld.own h.blk dM hv e),fun e he=>⟨(h.sld.ent e he).1.far h.blk dM a,(h.sld.ent e he).2⟩,h.sld.rd.frm a (fun k hk e=>oM),?_,f⟩,h.len,zaj h.blk rfl _ _ _,ho.aq h.blk a dM,za hb,h.z.frm a oM,d⟩;exact ((h.sld.dr.ag (p:=⟨G,0,none⟩) (Nat.le_of_lt h.hG) _).ag (p:=⟨G,1,none⟩) (Nat.le_of_lt h.hG) _).ag (p:=⟨G,2,none⟩) (Nat.le_of_lt h.hG) _
theorem L14S.set1 {e:Ent}(h:L14S w0 W R G M g k c l b A n c1 A' n' c2)(h2:2<=k)(he:e.ok W R) :
  L14S w0 (((W.setCell ⟨g,3,none⟩ e.s.al).setCell ⟨g,4,none⟩ e.s.st).setCell ⟨g,5,none⟩ (.slice e.A e.n e.c)) R G M g k c (l.set 1 e) b A n c1 A' n' c2:=by
 obtain⟨f1,f2⟩:=h.far;have a:Frm (fun k'=>(Value.slice (some g) k c).ownBlock=some k') W (((W.setCell ⟨g,3,none⟩ e.s.al).setCell ⟨g,4,none⟩ e.s.st).setCell ⟨g,5,none⟩ (.slice e.A e.n e.c)):=
  (((dE W g 3 _).trans (dE _ g 4 _)).trans (dE _ g 5 _)).mono (fun k _ hk=>by subst hk;rfl)
 refine⟨h.sld.set1 h.len.out h2 he,za (by rw [fB];exact h.len.out),h.blk.frm a (fun e=>by simp [Value.ownBlock] at e;exact f2 e),h.own.farR h.sld.own a dM,h.bd,h.z.frm a (fun e=>by simp [Value.ownBlock] at e;exact f1 e),h.hG⟩
theorem L14S.fin (h:L14S w0 W R G M g k c l b A n c1 A' n' c2)(hk:k<=4)(hM:M<=N) :
  Hid (RetL14A R N w0 (.returned (.tuple #[.slice (some g) k c,.agg #[b.al,.slice A n c1,.slice A' n' c2]])) (((W.setCell w0.heap.size b.al).setCell ⟨w0.heap.size,1,none⟩ (.slice A n c1)).setCell ⟨w0.heap.size,2,none⟩ (.slice A' n' c2))) ∧
  Blk (((W.setCell w0.heap.size b.al).setCell ⟨w0.heap.size,1,none⟩ (.slice A n c1)).setCell ⟨w0.heap.size,2,none⟩ (.slice A' n' c2)) w0.heap.size 27 #[.int .i64 b.al,.slice A n c1,.slice A' n' c2]:=by
 have d:=h.sld.hR;have f:=h.hG;have a:=zab W w0.heap.size (.int .i64 b.al) (.slice A n c1) (.slice A' n' c2);refine⟨za ⟨l,k,g,c,b,A,n,c1,A',n',c2,h.len,hk,rfl,⟨zf h.sld.own a (fun k hv e=>zp h.sld.own h.z dM hv e),fun e he=>⟨(h.sld.ent e he).1.far h.z dM a,(h.sld.ent e he).2⟩,(h.sld.rd.more hM).frm a (fun k hk e=>oM),?_,d⟩,h.own.aq h.z a dM,h.bd⟩,zaj h.z rfl _ _ _⟩;exact ((h.sld.dr.ag (p:=⟨w0.heap.size,0,none⟩) (dD _) _).ag (p:=⟨w0.heap.size,1,none⟩) (dD _) _).ag (p:=⟨w0.heap.size,2,none⟩) (dD _) _
end
theorem spec_l14Any (h:Rd w R M)(hM:M<=500000000) :
  Calls Tryz.prog 47 #[.pointer (some R)] w (RetL14A R (M+200000) w):=by
 have hRl:=h.lt
 go_enter Tryz.func47,Tryz.ntmps47
 go_wp2_with fail
 generalize U0:w.alloc _=w1 at *;have hxz:=gC U0;have bz:=dV U0;have aY:w1.heap.size=w.heap.size+1:=by rw [← U0];simp
 clear U0;refine (spec_l14Draw (h.ext hxz) oM).mono ?_;rintro e w2 ⟨l,g,c,b,A,n,i,A',n',j,t,rfl,f,u,m,ab⟩;have C:=(cY w2).alloc (.cells #[b.al,.slice A n i,.slice A' n' j] 27);have bb:=dU w2 27 #[b.al,.slice A n i,.slice A' n' j];have B:=(f.less hxz.dr hRl).ext C;have aZ:=f.dr.size;have a:=(⟨B,za t.symm,bb,u.ext C,za (BdL.more m.out oM),(bz.dr f.dr oM).ext C,oM⟩:L14S w _ R w2.heap.size (M+100000) g 3 c l b A n i A' n' j);have D:=m;clear B f bb u m C bz hxz;go_upto_region 2 with fail
 generalize hG:w2.heap.size=G at *;generalize w2.alloc _=w3 at *;go_wp2_with fail
 refine (zw a.sld.rd oM).mono ?_;rintro e w4 ⟨y,rfl,-,-,ae,Z⟩;replace a:=a.drawn Z ae;go_upto_block 0 with fail
 go_cut [4] (fun v wx=>∃ (l:List Ent) (k g c:Nat) (b:Aut) (A:Option Addr) (n i:Nat) (A':Option Addr) (n' j:Nat),v=.slice (some g) k c∧k<=4∧L14S w wx R G (M+150000) g k c l b A n i A' n' j)
 case first =>
  by_cases hy0:y=0
  ·subst hy0;go_wp2_with fail
   refine (zw a.sld.rd oM).mono ?_;rintro e w5 ⟨q,rfl,hq,-,S,I⟩;have aW:q<3:=by have:=hq oM;omega
   replace a:=a.drawn I S;have aX:q<=c:=by have:=a.sld.cap t.symm;omega
   go_wp2_with fail
   go_meet;exact⟨l.take q,q,g,c,b,A,n,i,A',n',j,rfl,oM,⟨(a.sld.take a.len.out oM).more oM,za (by rw [eK,t];omega),a.blk,a.own,a.bd,a.z,a.hG⟩⟩
  by_cases hy1:y=1
  ·subst hy1;go_wp2_with fail
   refine (zcy a.sld.rd oM).mono ?_;rintro e w5 ⟨s,A5,n5,c5,rfl,ap,-,aU,S,I⟩;replace a:=a.drawn I S;have an:(⟨s,A5,n5,c5⟩:Ent).ok w5 R:=⟨ap,by dsimp only;omega,by dsimp only;omega⟩;go_wp2_with (at_builtin;refine zdA w _ rfl _ _ _ rfl 38 _ 3 40 Tryz.underlying23 info_sys rfl dM (.slice (some g) 3 c) l.length (zfm l) _ _ rfl rfl a.sld.dr.size a.sld.own rfl (by simp [Value.oneCell']) lM oM ?_;intro g5 cap5 w6 zhP hg5 hat5 hlt5)
   have ad:=a.sld.push an zhP hg5;rw [t] at ad;obtain⟨f1,f2⟩:=a.far;go_meet;exact⟨l++[⟨s,A5,n5,c5⟩],4,g5,cap5,b,A,n,i,A',n',j,rfl,oM,⟨ad.more oM,za (by simp [t]),(hg5.block _ a.blk.lt (fun e=>f2 (by simpa [Value.ownBlock] using e.symm))).trans a.blk,a.own.farR a.sld.own (Frm.ae hg5) dM,a.bd,(hg5.block _ a.z.lt (fun e=>f1 (by simpa [Value.ownBlock] using e.symm))).trans a.z,a.hG⟩⟩
  by_cases hy2:y=2
  ·subst hy2;obtain⟨p,r⟩:∃ p,l[1]?=some p:=⟨l[1]' oM,dC _⟩;obtain⟨c0,U,V⟩:=a.sld.at_ t.symm r;have d:p.ok w4 R∧p.n<=40000:=⟨a.sld.ent p (dB r),ab.out p (dB r)⟩;go_wp2_with fail
   refine (zdz (L:=p.n) a.sld.rd oM d.1.1 (dD _) (oH d.2)).mono ?_;rintro e v1 ⟨s1,A1,n1,d1,rfl,ao,aR,J,E⟩;replace a:=a.drawn E J;clear c0 U V r;have o:=za d;clear d;go_wp2_with fail
   refine (zdz (L:=n1) a.sld.rd oM ao (dD _) (oH o.out.2)).mono ?_;rintro e v2 ⟨s2,A2,n2,d2,rfl,f,aS,O,F⟩;replace a:=a.drawn F O;go_wp2_with fail
   refine (zdz (L:=n2) a.sld.rd oM f (dD _) (oH o.out.2)).mono ?_;rintro e v3 ⟨s3,A3,n3,d3,rfl,B,aT,Q,H⟩;replace a:=a.drawn H Q;have aA:n3<=50000:=oH o.out.2;obtain⟨aN,aa⟩:∃ p,l[1]?=some p:=⟨l[1]' oM,dC _⟩;obtain⟨c0,U,V⟩:=a.sld.at_ t.symm aa;have x:=a.sld.own;rw [t] at x;have f3:=x.frozenAt;have fin:=a.set1 (e:=⟨s3,A3,n3,d3⟩) oM ⟨B,by dsimp only;omega,by dsimp only;omega⟩;go_wp2_with fail
   go_meet;exact⟨l.set 1 ⟨s3,A3,n3,d3⟩,3,g,c,b,A,n,i,A',n',j,rfl,oM,fin.more oM⟩
  by_cases hy3:y=3
  ·subst hy3;have cG:=a.blk.cell;go_wp2_with fail
   refine (zbv a.sld.rd oM a.own D.out oM).mono ?_;rintro e w5 ⟨b1,A1,n1,d1,B1,m1,e1,rfl,am,aj,J,E⟩;have aO:=a.sld.dr.size;replace a:=a.drawn E J;have aP:=a.sld.dr.size;clear cG;go_wp2_with fail
   refine (zbv a.sld.rd oM (am.less oM) aj.out oM).mono ?_;rintro e w6 ⟨b2,A2,n2,d2,B2,m2,e2,rfl,u,m,O,F⟩;replace a:=a.drawn F O;go_wp2_with fail
   refine (zbv a.sld.rd oM (u.less oM) m.out oM).mono ?_;rintro e w7 ⟨b3,A3,n3,d3,B3,m3,e3,rfl,x,ak,Q,H⟩;have aQ:=a.sld.dr.size;replace a:=a.drawn H Q;have cG:=a.blk.cell;have fG:=a.blk.frozen;have fin:=a.setP (x.less oM) (BdL.more ak.out oM);go_wp2_with fail
   go_meet;exact⟨l,3,g,c,b3,A3,n3,d3,B3,m3,e3,rfl,oM,fin.more oM⟩
  have h0:((y:Int)==0)=false:=by simp;omega
  have h1:((y:Int)==1)=false:=by simp;omega
  have h2:((y:Int)==2)=false:=by simp;omega
  have h3:((y:Int)==3)=false:=by simp;omega
  clear hy0 hy1 hy2 hy3;go_wp2_with fail
  go_meet;exact⟨l,3,g,c,b,A,n,i,A',n',j,rfl,oM,a.more oM⟩
 case rest =>
  clear a t ab D ae Z;obtain⟨l,k,g,c,b,A,n,i,A',n',j,rfl,hk,a⟩:=hcut;obtain⟨T,aq⟩:∃ T,T=wc:=⟨_,rfl⟩;subst aq;have cB:=fun W (hW:Ext T W)=>(a.blk.ext hW).cell;have cz:=a.z.cell;have fz:=a.z.frozen;have Y:Ext T T.drew:=(cY _).drew;obtain⟨-,f2⟩:=a.fin hk (show M+150000<=M+200000 by omega);obtain⟨f1,-⟩:=(a.drawn Y.dr (a.sld.rd.ext Y)).fin hk (show M+150000<=M+200000 by omega);go_wp2_with fail
  refine tR (fun X=>Ext T X) [3] (Ord.of [0,1,2,3]) ?_;refine tQ ?_;refine zO fun K hK=>?_;go_simp;refine hK.out _ _ ?_;refine zai ?_;go_wp2_with fail
  have cf:=f2.cell;exact bodyPost_ret (v:=.tuple #[.slice (some g) k c,.agg #[b.al,.slice A n i,.slice A' n' j]]) (by simp [results,Tryz.results47,go_sem,cf]) rfl f1.out
theorem zK.at_new {c':Nat} (h:zK w base A n c A' n' c' a)(hl:lo<=base):zE w lo w.heap.size A n A' n' a:=(h.less hl).reads
theorem sl_of {l:List Ent}(ho:W.ownsRow base 38 3 (.slice A n c) n (zfm l))(hn:n=l.length)(he:∀ e∈l,e.ok W R)(hb:lo<=base)(hR:lo<=R+1):zcC W lo W.heap.size A n (l.map Ent.s):=by
 have g:=dY ho;refine⟨by simpa using hn,zfm l,g.more hb (dD _),fun k s hs=>?_⟩;rw [dQ,eR] at hs;obtain⟨e,a,rfl⟩:=hs;obtain⟨b,d,f⟩:=zha a;exact⟨e.A,e.n,e.c,b,d,f,(he e (dB a)).1.at_.more hR (dD _)⟩
theorem frm_cell {S:Nat->Prop} {w':World}(h:Frm S w w') {p:Addr} (hv:w.cell? p=some v)(hp:¬ S p.block):w'.cell? p=some v:=
 (World.cell?_of_block (w:=w) (h.block _ (World.block_lt_of_cell? w p hv) hp)).trans hv
theorem vcT_none (h:three ss p=false):vcT ss p=⟨3,noA,noA,⟨#[]⟩,0⟩:=by
 unfold vcT;split
 ·rename_i x y z;have:zW [x,y,z] p = -1:=by unfold zW;rw [h];rfl
  rw [this];rfl
 ·rfl
theorem judgeC_asm {x:Sys}   :zh (zcg x y z p L a).2.2=true∨(zcg x y z p L a).2.2=noA:=by
 unfold zcg;split
 ·exact .inr rfl
 ·split
  ·exact vpT_asm y z a
  ·split
   ·exact .inr rfl
   ·exact .inr rfl
theorem chT_asm {x:Sys}  (hL:L<64) (fu:Nat):∀ (k:Nat) (o:Option (List ByteArray × List ByteArray)),zdo L (zr x p L) o ->
  (zh (chT x y z p L fu k o).fst=true∨(chT x y z p L fu k o).fst=noA)∧(zh (chT x y z p L fu k o).snd=true∨(chT x y z p L fu k o).snd=noA):=by
 induction fu with
 |zero=>intro k o _;exact⟨.inr rfl,.inr rfl⟩
 |succ fu ih =>
  intro k o ho
  match o with
  |none=>exact⟨.inr rfl,.inr rfl⟩
  |some (rs,cs) =>
   obtain⟨b,a⟩:=ho rs cs rfl;rw [chT];split
   ·exact⟨.inl (zcE b a hL),judgeC_asm⟩
   ·split
    ·exact⟨.inr rfl,.inr rfl⟩
    ·split
     ·exact⟨.inr rfl,.inr rfl⟩
     ·exact ih _ _ (zdo.learn b _)
theorem vcT_asm (ss:List Sys) (p:Aut):BdA 12 (vcT ss p).fst∧BdA 12 (vcT ss p).snd:=by
 cases h:three ss p
 ·rw [vcT_none h];exact⟨zfy (.inr rfl),zfy (.inr rfl)⟩
 ·obtain⟨x,y,z,rfl⟩:=zbw h;obtain⟨c,d,f⟩:=zca h;have e:vcT [x,y,z] p=chT x y z p c 12 0 ((zar c (zr x p c) [⟨#[]⟩] 11 [⟨#[]⟩]).map fun r=>(r,[⟨#[]⟩])):=by
   unfold vcT;dsimp only;rw [d,if_pos oM,eJ]
  rw [e];obtain⟨a,b⟩:=chT_asm (x:=x) (y:=y) (z:=z) (p:=p) (show c<64 by omega) 12 0 _ (zdo.new c (zr x p c));exact⟨zfy a,zfy b⟩
theorem zeX {lo1 hi1 m d m' d':Nat} {B B':Option Addr}  (h:zcC w lo hi A n ss)(hp:zE w lo1 hi1 B m B' m' p)(hhi:hi<=w.heap.size)(hhi1:hi1<=w.heap.size) :
  Calls Tryz.prog 18 #[.slice A n c,.agg #[p.al,.slice B m d,.slice B' m' d']] w (zfK w (vcT ss p)):=by
 cases h3:three ss p
 ·rw [vcT_none h3];exact zeV h hp h3
 ·obtain⟨x,y,z,rfl⟩:=zbw h3;obtain⟨q,a,f⟩:=zca h3;have e:vcT [x,y,z] p=chT x y z p q 12 0 ((zar q (zr x p q) [⟨#[]⟩] 11 [⟨#[]⟩]).map fun r=>(r,[⟨#[]⟩])):=by
   unfold vcT;dsimp only;rw [a,if_pos oM,eJ]
  rw [e];obtain rfl:n=3:=h.1;obtain⟨b,o,s,i,g,j,rfl,_,_,_⟩:=h.sys (k:=0) oM;exact zeW h hp h3 a oM hhi hhi1
theorem chain_and (ss:List Sys) (p:Aut):(∃ a:Nat,a<64∧bits .and .i64 (zW ss p) 63=(a:Int))∧∃ a:Nat,a<64∧bits .and .i64 (zaM ss p) 63=(a:Int):=by
 have f:bits .and .i64 (-1) 63=((63:Nat):Int):=dM;have g:∀ a:Nat,a<64->∃ b:Nat,b<64∧bits .and .i64 (a:Int) 63=(b:Int):=fun a ha=>by
  refine⟨a&&&63,by have:=Nat.and_le_left (n:=a) (m:=63);omega,?_⟩;exact zbz (a:=a) (b:=63) tM tM
 cases h:three ss p
 ·have j:zW ss p = -1:=by unfold zW;rw [h];rfl
  have k:zaM ss p = -1:=by unfold zaM;rw [h];rfl
  rw [j,k];exact⟨⟨63,dM,f⟩,⟨63,dM,f⟩⟩
 ·obtain⟨x,y,z,rfl⟩:=zbw h;obtain⟨c,l,o⟩:=zca h;obtain⟨_,i⟩:=zeq h;obtain⟨-,d,-⟩:=zcQ.1 h;have q:=zI ((zap d).2 z sM);rw [l,i];have:=Nat.and_le_right (n:=y.al.toNat|||(zW [x,y,z] p).toNat) (m:=z.al.toNat);exact⟨g c oM,g _ oM⟩
def DrawnL (W:World) (g:Nat) (l:List Ent):Prop:=∀ (i:Nat) (x:Ent),l[i]?=some x->x.n<=x.c∧x.n<=50000∧W.cell? ⟨g,i*3+2,none⟩=some (.slice x.A x.n x.c)
def RetDF (w:World) (x:Ending) (w':World):Prop:=
 ∃ (l:List Ent) (k g c:Nat) (p:Aut) (A:Option Addr) (n c1:Nat) (A':Option Addr) (n' c2:Nat) (f:Aut) (B:Option Addr) (m d:Nat) (B':Option Addr) (m' d':Nat) (u:Aut) (C:Option Addr) (q e:Nat) (C':Option Addr) (q' e':Nat),
  Hid (k=l.length)∧k<=4∧k<=c∧x=.returned (.tuple #[.slice (some g) k c,.agg #[p.al,.slice A n c1,.slice A' n' c2],.agg #[f.al,.slice B m d,.slice B' m' d',u.al,.slice C q e,.slice C' q' e']]) ∧
  zcC w' w.heap.size w'.heap.size (some ⟨g,0,none⟩) k (l.map Ent.s)∧(zE w' w.heap.size w'.heap.size A n A' n' p∧zE w' w.heap.size w'.heap.size B m B' m' f∧zE w' w.heap.size w'.heap.size C q C' q' u)∧Hid (DrawnL w' g l)∧Hid (BdA 100 p∧BdA 100 f∧BdA 100 u)∧Ext w w'
structure CfS (w1 W:World) (R M K Z G7 G9 g k c:Nat) (l:List Ent) (p:Aut) (A:Option Addr) (n c1:Nat) (A':Option Addr) (n' c2:Nat) (f:Aut) (B:Option Addr) (m d:Nat) (B':Option Addr) (m' d':Nat) (u:Aut) (C:Option Addr) (q e:Nat) (C':Option Addr) (q' e':Nat):Prop where
 sld:Sld w1 W R M (.slice (some g) k c) l
 own:zK W (R+1) A n c1 A' n' c2 p
 b7:Blk W G7 27 #[p.al,.slice A n c1,.slice A' n' c2]
 b9:Blk W G9 31 #[f.al,.slice B m d,.slice B' m' d',u.al,.slice C q e,.slice C' q' e']
 o1:zK W (R+1) B m d B' m' d' f
 o2:zK W (R+1) C q e C' q' e' u
 bd:Hid (BdA K f∧BdA K u)
 z1:Blk W Z 27 #[(0:Int),(),()]
 z2:Blk W (Z+1) 31 #[(0:Int),(),(),(0:Int),(),()]
 hZ:Z+1<R
 hG:w1.heap.size<=G7∧w1.heap.size<=G9∧G7≠G9
section
variable {w w0 w1 W W':World} {R M N K J Z G7 G9 g k c n c1 n' c2 m d m' d' q e q' e' i j i' j' r s r' s':Nat} {l:List Ent} {p f u f2 u2:Aut} {A A' B B' C C' D D' E E':Option Addr}
theorem CfS.drawn (h:CfS w1 W R M K Z G7 G9 g k c l p A n c1 A' n' c2 f B m d B' m' d' u C q e C' q' e')(hd:Dr R W W')(hr:Rd W' R N):CfS w1 W' R N K Z G7 G9 g k c l p A n c1 A' n' c2 f B m d B' m' d' u C q e C' q' e':=by
 have j:=h.sld.hR;have i:=h.hZ;have a:=h.hG;exact⟨h.sld.drawn hd hr,h.own.ak hd (fun b h1 e=>oM),h.b7.dr hd oM,h.b9.dr hd oM,h.o1.ak hd (fun b h1 e=>oM),h.o2.ak hd (fun b h1 e=>oM),h.bd,h.z1.dr hd oM,h.z2.dr hd oM,i,a⟩
theorem CfS.ext (h:CfS w1 W R M K Z G7 G9 g k c l p A n c1 A' n' c2 f B m d B' m' d' u C q e C' q' e')(hx:Ext W W'):CfS w1 W' R M K Z G7 G9 g k c l p A n c1 A' n' c2 f B m d B' m' d' u C q e C' q' e':=h.drawn hx.dr (h.sld.rd.ext hx)
theorem CfS.more (h:CfS w1 W R M K Z G7 G9 g k c l p A n c1 A' n' c2 f B m d B' m' d' u C q e C' q' e')(hM:M<=N)(hK:K<=J):CfS w1 W R N J Z G7 G9 g k c l p A n c1 A' n' c2 f B m d B' m' d' u C q e C' q' e':={ h with sld:=h.sld.more hM,bd:=za ⟨BdL.more h.bd.out.1 hK,BdL.more h.bd.out.2 hK⟩ }
theorem CfS.turn (h:CfS w1 W R M K Z G7 G9 g k c l p A n c1 A' n' c2 f B m d B' m' d' u C q e C' q' e')(hf:Frm (fun k=>k=G9) W W')(hb:Blk W' G9 31 #[f2.al,.slice D i j,.slice D' i' j',u2.al,.slice E r s,.slice E' r' s']) (o1:zK W (R+1) D i j D' i' j' f2) (o2:zK W (R+1) E r s E' r' s' u2)(hbd:BdA J f2∧BdA J u2) :
  CfS w1 W' R M J Z G7 G9 g k c l p A n c1 A' n' c2 f2 D i j D' i' j' u2 E r s E' r' s':=by
 have b:=h.sld.hR;have o:=h.hZ;have a:=h.hG;exact⟨⟨zf h.sld.own hf (fun k hv e=>zp h.sld.own h.b9 dM hv e),fun e he=>⟨(h.sld.ent e he).1.far h.b9 dM hf,(h.sld.ent e he).2⟩,h.sld.rd.frm hf (fun k hk e=>oM),h.sld.dr.far hf a.2.1,b⟩,
  h.own.aq h.b9 hf dM,h.b7.frm hf a.2.2,hb,o1.aq h.b9 hf dM,o2.aq h.b9 hf dM,za hbd,h.z1.frm hf oM,h.z2.frm hf oM,o,a⟩
theorem set6_frm (W:World) (Z:Nat) (u0 u1 u2 u3 u4 u5:Value):Frm (fun k=>k=Z) W ((((((W.setCell Z (u0)).setCell ⟨Z,1,none⟩ (u1)).setCell ⟨Z,2,none⟩ (u2)).setCell ⟨Z,3,none⟩ (u3)).setCell ⟨Z,4,none⟩ (u4)).setCell ⟨Z,5,none⟩ (u5)):=
 (((((dE W _ 0 _).trans (dE _ _ 1 _)).trans (dE _ _ 2 _)).trans (dE _ _ 3 _)).trans (dE _ _ 4 _)).trans (dE _ _ 5 _)
theorem set6_blk {t:TypeId} {vs:Array Value}(h:Blk W Z t vs)(h6:vs.size=6) (u0 u1 u2 u3 u4 u5:Value):Blk ((((((W.setCell Z (u0)).setCell ⟨Z,1,none⟩ (u1)).setCell ⟨Z,2,none⟩ (u2)).setCell ⟨Z,3,none⟩ (u3)).setCell ⟨Z,4,none⟩ (u4)).setCell ⟨Z,5,none⟩ (u5)) Z t #[u0,u1,u2,u3,u4,u5]:=by
 obtain⟨a⟩:=vs
 match a,h6 with
 |[a0,a1,a2,a3,a4,a5],_=>simpa using (((((h.ab 0 u0).ab 1 u1).ab 2 u2).ab 3 u3).ab 4 u4).ab 5 u5
theorem CfS.fin (h:CfS w1 W R M K w.heap.size G7 G9 g k c l p A n c1 A' n' c2 f B m d B' m' d' u C q e C' q' e')(hk:k<=4)(hl:k=l.length)(hx:Ext w w1)(hK:K<=100)(hp:BdA 100 p) :
  Hid (RetDF w (.returned (.tuple #[.slice (some g) k c,.agg #[p.al,.slice A n c1,.slice A' n' c2],.agg #[f.al,.slice B m d,.slice B' m' d',u.al,.slice C q e,.slice C' q' e']])) (((((((((W.setCell w.heap.size p.al).setCell ⟨w.heap.size,1,none⟩ (.slice A n c1)).setCell ⟨w.heap.size,2,none⟩ (.slice A' n' c2)).setCell ⟨w.heap.size+1,0,none⟩ f.al).setCell ⟨w.heap.size+1,1,none⟩ (.slice B m d)).setCell ⟨w.heap.size+1,2,none⟩ (.slice B' m' d')).setCell ⟨w.heap.size+1,3,none⟩ u.al).setCell ⟨w.heap.size+1,4,none⟩ (.slice C q e)).setCell ⟨w.heap.size+1,5,none⟩ (.slice C' q' e')).drew) ∧
  Hid (Blk (((((((((W.setCell w.heap.size p.al).setCell ⟨w.heap.size,1,none⟩ (.slice A n c1)).setCell ⟨w.heap.size,2,none⟩ (.slice A' n' c2)).setCell ⟨w.heap.size+1,0,none⟩ f.al).setCell ⟨w.heap.size+1,1,none⟩ (.slice B m d)).setCell ⟨w.heap.size+1,2,none⟩ (.slice B' m' d')).setCell ⟨w.heap.size+1,3,none⟩ u.al).setCell ⟨w.heap.size+1,4,none⟩ (.slice C q e)).setCell ⟨w.heap.size+1,5,none⟩ (.slice C' q' e')) w.heap.size 27 #[p.al,.slice A n c1,.slice A' n' c2]∧Blk (((((((((W.setCell w.heap.size p.al).setCell ⟨w.heap.size,1,none⟩ (.slice A n c1)).setCell ⟨w.heap.size,2,none⟩ (.slice A' n' c2)).setCell ⟨w.heap.size+1,0,none⟩ f.al).setCell ⟨w.heap.size+1,1,none⟩ (.slice B m d)).setCell ⟨w.heap.size+1,2,none⟩ (.slice B' m' d')).setCell ⟨w.heap.size+1,3,none⟩ u.al).setCell ⟨w.heap.size+1,4,none⟩ (.slice C q e)).setCell ⟨w.heap.size+1,5,none⟩ (.slice C' q' e')) (w.heap.size+1) 31 #[f.al,.slice B m d,.slice B' m' d',u.al,.slice C q e,.slice C' q' e']):=by
 obtain⟨Z,z⟩:∃ Z,w.heap.size=Z:=⟨_,rfl⟩;rw [z] at h ⊢;have I:=h.sld.hR;have L:=h.hZ;have J:=h.hG;have r:=zab W Z (.int .i64 p.al) (.slice A n c1) (.slice A' n' c2);have D:=zaj h.z1 rfl (.int .i64 p.al) (.slice A n c1) (.slice A' n' c2);have G:=h.z2.frm r oM;have F:Ext w W:=Dr.new hx oM h.sld.dr;have y:Frm (fun k=>k=Z∨k=Z+1) W (((W.setCell ⟨Z,0,none⟩ p.al).setCell ⟨Z,1,none⟩ (.slice A n c1)).setCell ⟨Z,2,none⟩ (.slice A' n' c2)):=r.mono (fun k _ hk=>.inl hk);generalize ((W.setCell ⟨Z,0,none⟩ p.al).setCell ⟨Z,1,none⟩ (.slice A n c1)).setCell ⟨Z,2,none⟩ (.slice A' n' c2)=v at *;have s:=set6_frm v (Z+1) (.int .i64 f.al) (.slice B m d) (.slice B' m' d') (.int .i64 u.al) (.slice C q e) (.slice C' q' e');have E:=set6_blk G rfl (.int .i64 f.al) (.slice B m d) (.slice B' m' d') (.int .i64 u.al) (.slice C q e) (.slice C' q' e');have j:=D.frm s oM;have a:Frm (fun k=>k=Z∨k=Z+1) W ((((((v.setCell ⟨Z+1,0,none⟩ f.al).setCell ⟨Z+1,1,none⟩ (.slice B m d)).setCell ⟨Z+1,2,none⟩ (.slice B' m' d')).setCell ⟨Z+1,3,none⟩ u.al).setCell ⟨Z+1,4,none⟩ (.slice C q e)).setCell ⟨Z+1,5,none⟩ (.slice C' q' e')):=y.trans (s.mono (fun k _ hk=>.inr hk));generalize (((((v.setCell ⟨Z+1,0,none⟩ f.al).setCell ⟨Z+1,1,none⟩ (.slice B m d)).setCell ⟨Z+1,2,none⟩ (.slice B' m' d')).setCell ⟨Z+1,3,none⟩ u.al).setCell ⟨Z+1,4,none⟩ (.slice C q e)).setCell ⟨Z+1,5,none⟩ (.slice C' q' e')=W' at *;have o:Ext W' W'.drew:=(cY W').drew;refine⟨za ⟨l,k,g,c,p,A,n,c1,A',n',c2,f,B,m,d,B',m',d',u,C,q,e,C',q',e',za hl,hk,h.sld.cap hl,rfl,?_,⟨?_,?_,?_⟩,za ?_,za ⟨hp,BdL.more h.bd.out.1 hK,BdL.more h.bd.out.2 hK⟩,?_⟩,za ⟨j,E⟩⟩
 ·have H:=zaA h.sld.own a (fun b h1 e=>oM);rw [← hl] at H;exact (sl_of (base:=w1.heap.size) (c:=c) (R:=R) H hl (fun e he=>⟨(h.sld.ent e he).1.frm a (fun k hk I=>oM),(h.sld.ent e he).2⟩) oM oM).ext o
 ·exact ((h.own.ak a (fun b h1 e=>oM)).at_new oM).ext o
 ·exact ((h.o1.ak a (fun b h1 e=>oM)).at_new oM).ext o
 ·exact ((h.o2.ak a (fun b h1 e=>oM)).at_new oM).ext o
 ·intro i x hi;have t:=(h.sld.ent x (dB hi)).2;have:=(h.sld.own.lt g rfl).1;exact⟨t.2,t.1,o.aa (frm_cell a (h.sld.at_ hl hi).2.2 (by dsimp only;omega))⟩
 ·exact (F.frm a (fun k hk e=>oM)).drew
end
section
variable {w:World}
theorem yF14a1 {P:Prop}(h:P:=by
 rintro e1 w10 ⟨f2,D,i,j,D',i',j',rfl,od,gd,hr10,hd10⟩;have h10:=h9.drawn hd10 hr10;clear c9 f9;have c9:=h10.b9.cell;have f9:=h10.b9.frozen;have hs9:=h9.sld.rd.lt;have zhG:=za ((h10.turn (W':=(((w10.setCell ⟨G9,3,none⟩ f2.al).setCell ⟨G9,4,none⟩ (.slice D i j)).setCell ⟨G9,5,none⟩ (.slice D' i' j'))) (((Frm.setCell w10 _ 3 _).trans (Frm.setCell _ _ 4 _)).trans (Frm.setCell _ _ 5 _)) (by simpa using ((h10.b9.ab 3 (.int .i64 f2.al)).ab 4 (.slice D i j)).ab 5 (.slice D' i' j')) h10.o1 (od.less oM) ⟨BdL.more h10.bd.out.1 oM,gd.out⟩).more (N:=400000) (J:=80) oM oM);go_wp2_with fail
 go_meet;exact⟨_,_,_,_,_,_,_,_,_,_,_,_,_,_,zhG.out⟩
 ):P:=h
theorem yF14a3 {P:Prop}(h:P:=by
 have zhG:=za ((h10.turn (W':=(((w10.setCell G9 f2.al).setCell ⟨G9,1,none⟩ (.slice D i j)).setCell ⟨G9,2,none⟩ (.slice D' i' j'))) (((Frm.setCell w10 _ 0 _).trans (Frm.setCell _ _ 1 _)).trans (Frm.setCell _ _ 2 _)) (by simpa using ((h10.b9.ab 0 (.int .i64 f2.al)).ab 1 (.slice D i j)).ab 2 (.slice D' i' j')) (od.less oM) h10.o2 ⟨gd.out,BdL.more h10.bd.out.2 oM⟩).more (N:=400000) (J:=80) oM oM);go_wp2_with fail
 go_meet;exact⟨_,_,_,_,_,_,_,_,_,_,_,_,_,_,zhG.out⟩
 ):P:=h
theorem spec_DrawChainFault {A0:Option Addr} {n0 c0:Nat}(h:Bytes w A0 n0)(hn:n0<=9223372036854775807)(hc:n0<=c0)(hc2:c0<=9223372036854775807) :
  Calls Tryz.prog 21 #[.slice A0 n0 c0] w (RetDF w):=by
 obtain⟨w0,U0⟩:∃ x,Hid ((w.alloc (.cells #[(0:Int),(),()] 27)).alloc (.cells #[(0:Int),(),(),(0:Int),(),()] 31)=x):=⟨_,za rfl⟩;have ar:Ext w w0:=(((cY _).alloc _).alloc _).trans (gJ U0.out);obtain⟨z1,z2⟩:=zS (gJ U0.out);have hh:=za (h.ext ar);have aU:w0.heap.size=w.heap.size+2:=by rw [← U0.out];simp
 clear h
 go_enter Tryz.func21,Tryz.ntmps21
 go_upto_region 1 with fail
 rw [U0.out] at *;go_wp2_with fail
 refine (spec_l19Open hh.out hn hc hc2).mono ?_;rintro e w1 ⟨R,rfl,hR,ao,ae⟩;have hRl:=ao.lt;have au:=ar.trans ae;have aL:w.heap.size+1<R:=oM;clear hh hn hc hc2 aU hR;go_upto_region 3 with (first
  |(go_at_call 47;refine (spec_l14Any ao oM).mono ?_;rintro e w2 ⟨l,k,g,c,p,A,n,O,A',n',Q,hl,hk,rfl,hs,ho,hb⟩))
 have aT:=hs.dr.size;obtain⟨V,am⟩:∃ V,Hid (w2.heap.size=V):=⟨_,rfl⟩;have an:w1.heap.size<=V:=by rw [← am.out];exact aT
 generalize U0:w2.alloc _=w3 at *;have I:=gC U0;have b7:=dV U0;have T:=hs.ext I;have aa:=ho.ext I;have az:=((z1.ext ae).dr hs.dr oM).ext I;have aA:=((z2.ext ae).dr hs.dr oM).ext I;clear U0;rw [am.out] at b7 ⊢;have aY:=b7.lt;clear z1 z2 hs ho I;have ah:=za (zeX (c:=c) (d:=O) (d':=Q) (T.sl hl.out) aa.reads (dD _) (dD _));have aq:=za (vcT_asm (l.map Ent.s) p);generalize vcT (l.map Ent.s) p=v at *;have c7:=b7.cell;go_upto_region 4 with (first
  |(go_at_call 18;refine ah.out.mono ?_;rintro e w4 ⟨B,m,d,o,F,d',C,q,e,t,G,z,rfl,o1,o2,av⟩))
 have aX:=T.rd.lt;generalize U0:w4.alloc _=w5 at *;have U:=gC U0;have b8:=dV U0;have aw:=(o1.less (show R+1<=w3.heap.size by omega)).ext U;have ax:=(o2.less (show R+1<=w3.heap.size by omega)).ext U;have L:=av.trans U;clear U0;generalize w4.heap.size=G8 at *;have c8:=b8.cell;clear c7;go_upto_region 5 with fail
 have M:=(cY w5).alloc (.cells #[v.fst.al,.slice B m d,.slice o F d',v.snd.al,.slice C q e,.slice t G z] 31);have b9:=dU w5 31 #[v.fst.al,.slice B m d,.slice o F d',v.snd.al,.slice C q e,.slice t G z];have a:=L.trans M;have ak:=L.size;replace b8:=b8.ext M;have h6:CfS w1 (w5.alloc (.cells #[v.fst.al,.slice B m d,.slice o F d',v.snd.al,.slice C q e,.slice t G z] 31)) R _ 12 w.heap.size V w5.heap.size g k c l p A n O A' n' Q v.fst B m d o F d' v.snd C q e t G z:=
  ⟨T.ext a,aa.ext a,b7.ext a,b9,aw.ext M,ax.ext M,aq,az.ext a,aA.ext a,aL,an,oM,oM⟩
 generalize w5.alloc _=w6 at *;generalize w5.heap.size=G9 at *;clear b9 M L U a aw ax o1 o2 az aA b7 T aa ah ak av c8;have c8:=b8.cell
 go_cut [31] (fun bv wx=>∃ bb:Bool,bv=.bool bb∧CfS w1 wx R (200000+1+1) 12 w.heap.size V G9 g k c l p A n O A' n' Q v.fst B m d o F d' v.snd C q e t G z)
 case first =>
  by_cases hv0:v.code=0
  ·have e0:(v.code != 0)=false:=by simpa using hv0
   go_wp2_with (first
    |(go_at_call 73;refine (zw h6.sld.rd oM).mono ?_;rintro e w7 ⟨y,rfl,-,-,hr7,hd7⟩))
   go_meet;exact⟨_,rfl,(h6.drawn hd7 hr7).more oM oM⟩
  ·have e0:(v.code != 0)=true:=by simpa using hv0
   go_wp2_with fail
   go_meet;exact⟨true,rfl,h6.more oM oM⟩
 case rest =>
  obtain⟨bb,rfl,h7⟩:=hcut;clear h6 c8 b8;go_upto_if 31 with fail
  go_cut [] (fun wx=>∃ (f:Aut) (B:Option Addr) (m d:Nat) (o:Option Addr) (F d':Nat) (u:Aut) (C:Option Addr) (q e:Nat) (t:Option Addr) (G z:Nat),CfS w1 wx R 300000 16 w.heap.size V G9 g k c l p A n O A' n' Q f B m d o F d' u C q e t G z)
  case first =>
   cases bb
   ·go_wp2_with fail
    go_meet;exact⟨_,_,_,_,_,_,_,_,_,_,_,_,_,_,h7.more oM oM⟩
   ·have aC:=za (zba (c:=c) (d:=O) (d':=Q) (h7.sld.sl hl.out) h7.own.reads);obtain⟨⟨a1,aN,e1⟩,a2,aO,e2⟩:=chain_and (l.map Ent.s) p;generalize zW (l.map Ent.s) p=k1 at *;generalize zaM (l.map Ent.s) p=k2 at *;have c7:=h7.b7.cell;go_wp2_with fail
    refine aC.out.mono (mQ fun w8 aV=>?_);clear c7;have X:=h7.ext aV;go_wp2_with fail
    with_reducible refine (zcj X.sld.rd oM aN).mono ?_
    rintro e w9 ⟨f2,D,i,j,D',i',j',rfl,od,gd,H,S⟩;have h9:=X.drawn S H;go_wp2_with fail
    with_reducible refine (zcj h9.sld.rd oM aO).mono ?_
    rintro e w10 ⟨u2,E,r,s,E',r',s',rfl,oe,aI,hr10,hd10⟩;have h10:=h9.drawn hd10 hr10;have c9:=h10.b9.cell;have f9:=h10.b9.frozen;have bp:=X.sld.rd.lt;have hs9:=H.lt;have zhG:=za ((h10.turn (set6_frm w10 G9 (.int .i64 f2.al) (.slice D i j) (.slice D' i' j') (.int .i64 u2.al) (.slice E r s) (.slice E' r' s')) (set6_blk h10.b9 rfl _ _ _ _ _ _) ((od.less oM).ak hd10 (fun b h1 e=>oM)) (oe.less oM) ⟨BdA.of gd.out,BdA.of aI.out⟩).more (N:=300000) (J:=16) oM oM);go_wp2_with fail
    go_meet;exact⟨_,_,_,_,_,_,_,_,_,_,_,_,_,_,zhG.out⟩
  case rest =>
   obtain⟨f,B,m,d,o,F,d',u,C,q,e,t,G,z,X⟩:=hcut;clear h7 aq;go_upto_block 0 with (first
    |(go_at_call 73;refine (zw X.sld.rd oM).mono ?_;rintro e9 w9 ⟨y,rfl,-,-,H,S⟩))
   have h9:=X.drawn S H;clear X S H
   go_cut [] (fun wx=>∃ (f:Aut) (B:Option Addr) (m d:Nat) (o:Option Addr) (F d':Nat) (u:Aut) (C:Option Addr) (q e:Nat) (t:Option Addr) (G z:Nat),CfS w1 wx R 400000 80 w.heap.size V G9 g k c l p A n O A' n' Q f B m d o F d' u C q e t G z)
   case first =>
    have c9:=h9.b9.cell;have f9:=h9.b9.frozen
    by_cases hy0:y=0
    ·subst hy0;go_wp2_with fail
     refine (zeI h9.sld.rd oM h9.o1 h9.bd.out.1 oM).mono ?_;rintro e1 w10 ⟨f2,D,i,j,D',i',j',rfl,od,gd,hr10,hd10⟩;have h10:=h9.drawn hd10 hr10;clear c9 f9;have c9:=h10.b9.cell;have f9:=h10.b9.frozen;have hs9:=h9.sld.rd.lt;exact yF14a3
    by_cases hy1:y=1
    ·subst hy1;go_wp2_with fail
     refine (zeI h9.sld.rd oM h9.o2 h9.bd.out.2 oM).mono ?_;exact yF14a1
    have h0:((y:Int)==0)=false:=by simp;omega
    have h1:((y:Int)==1)=false:=by simp;omega
    by_cases hy2:y=2
    ·subst hy2;go_wp2_with fail
     refine (spec_l3Draw h9.sld.rd oM).mono ?_;exact yF14a1
    have h2:((y:Int)==2)=false:=by simp;omega
    by_cases hy3:y=3
    ·subst hy3;have hs9:=h9.sld.rd.lt;go_wp2_with fail
     with_reducible refine (zbv h9.sld.rd oM h9.o1 h9.bd.out.1 oM).mono ?_
     rintro e1 wa ⟨fa,Da,ia,ja,a9,bs,bu,rfl,oa,ga,ab,aQ⟩;have ha:=h9.drawn aQ ab;have bq:=ab.lt;go_wp2_with fail
     with_reducible refine (zbv ab oM (oa.less oM) ga.out oM).mono ?_
     rintro e1 wb ⟨fb,Db,ib,jb,ba,bt,bw,rfl,ob,gb,ad,aR⟩;have aP:=ha.drawn aR ad;have br:=ad.lt;go_wp2_with fail
     with_reducible refine (zbv ad oM (ob.less oM) gb.out oM).mono ?_
     rintro e1 w10 ⟨f2,D,i,j,D',i',j',rfl,od,gd,hr10,hd10⟩;have h10:=aP.drawn hd10 hr10;clear c9 f9;have c9:=h10.b9.cell;have f9:=h10.b9.frozen;exact yF14a3
    have h3:((y:Int)==3)=false:=by simp;omega
    go_wp2_with fail
    go_meet;exact⟨_,_,_,_,_,_,_,_,_,_,_,_,_,_,h9.more oM oM⟩
   case rest =>
    obtain⟨f,B,m,d,o,F,d',u,C,q,e,t,G,z,h10⟩:=hcut;clear h9;obtain⟨F1,F2⟩:=h10.fin hk hl.out au oM hb.out;have hG:=h10.hG;have aJ:=h10.sld.hR;have C7:∀ W,Frm (fun b=>b=w.heap.size) wc W->∀ j,W.cell? ⟨V,j,none⟩=#[Value.int .i64 p.al,.slice A n O,.slice A' n' Q][j]?:=fun W hW=>(h10.b7.frm hW oM).cell;have C9:∀ W,Frm (fun b=>b=w.heap.size) wc W->∀ j,W.cell? ⟨G9,j,none⟩=#[Value.int .i64 f.al,.slice B m d,.slice o F d',.int .i64 u.al,.slice C q e,.slice t G z][j]?:=fun W hW=>(h10.b9.frm hW oM).cell;have bx:=h10.z1.cell;have bg:=h10.z1.frozen;have Z:=za (zab wc w.heap.size (.int .i64 p.al) (.slice A n O) (.slice A' n' Q));have bz:=(h10.z2.frm Z.out oM).cell;have bh:=(h10.z2.frm Z.out oM).frozen;have aK:Frm (fun b=>b=w.heap.size) wc wc.drew:=⟨rfl,rfl,rfl,dD _,fun _ _ _=>rfl⟩;clear h10 hG aJ;go_upto_region 17 with fail
    refine zaJ (fun Y=>Frm (fun b=>b=w.heap.size) wc Y) [5] (zv.of [0,1,2,3,4,5]) kM kM kM kM kM (fun _ _ _ _ _ h=>h) aK ?_;refine uQ ?_;refine zd fun K hK=>?_;go_simp;refine hK.out _ _ Z.out.drew ?_;refine pT ?_;refine zb fun K hK=>?_;go_simp;refine hK.out _ _ ?_;refine ze ?_;go_wp2_with fail
    have aG:=F2.out.1.cell;have aH:=F2.out.2.cell;exact bodyPost_ret (v:=.tuple #[.slice (some g) k c,.agg #[p.al,.slice A n O,.slice A' n' Q],.agg #[f.al,.slice B m d,.slice o F d',u.al,.slice C q e,.slice t G z]]) (by simp [results,Tryz.results21,go_sem,aG,aH]) rfl F1.out
end
section
open Go.ChangeShapes Go.WideShapes Go.ChangeAt Go.Deep
def BytesAt (w:World) (A:Option Addr) (n c:Nat):Prop:=Bytes w A n∧n<=9223372036854775807∧n<=c∧c<=9223372036854775807
theorem arg_bytes {H:Type} {enc:TypeId × Value->H}  {spare:Nat->Bool} {held:Bool} {r:Reach} {b0:Nat}  {d:DataW H} {p:List MemPlace}(hv:Value.okWide Tryz.prog w r b0 22 v)(h:DataW.Trod enc Tryz.prog w 0 spare held 22 v d p) :
  ∃ (A:Option Addr) (n c:Nat),v=.slice A n c∧BytesAt w A n c:=by
 obtain⟨a,l,k,rfl⟩:=okWide_slice Tryz.underlying22 hv;obtain⟨t,F⟩:=h;rcases open_slice1 Tryz.underlying22 kM F with ⟨f,_⟩|⟨s,L,B,m,n,V,D,M,f,R,G,J,q,_,z⟩
 ·simp [Value.cells] at f;obtain⟨rfl,rfl,rfl⟩:=f;exact⟨_,_,_,rfl,fun h=>absurd h oM,oM,dD _,oM⟩
 ·simp [Value.cells] at f;obtain⟨rfl,rfl,rfl⟩:=f;unfold maxLen at J;have I:l<=m:=by rw [q];split<;>omega
  refine⟨_,_,_,rfl,fun hn=>?_,oM,G,oM⟩;have u:=(z 0 oM).1;have y:=zcD u;have g:=World.block_lt_of_cell? w _ u;rw [zdB] at g;refine⟨s.block,s.off,by rw [← y],g,fun j hj=>?_⟩;obtain⟨x,C⟩:=z j oM;obtain⟨b,i,_,o⟩:=DataW.trod_int Tryz.underlying5 C;have E:V j=.int .u8 b:=by simpa using i
  rw [E,y,zP] at x;have S:0<=b∧b<256:=by
   simp only [Lit.wf,dF,decide_eq_true_eq] at o;have O:IntKind.u8.min=0:=rfl;have Q:IntKind.u8.max=255:=rfl;omega
  refine⟨b.toNat,oM,?_⟩;rw [x];have:((b.toNat:Nat):Int)=b:=oM;rw [this]
end
def tailS (s:Sys):Sys:=⟨s.al,s.st,s.edges.drop 1⟩
theorem valid_tail (h:zj s=true):zj (tailS s)=true:=by
 obtain⟨al,d,c⟩:=s;cases c with
 |nil=>exact h
 |cons e r =>
  simp only [zj,tailS,dF,decide_eq_true_eq,eC,List.mem_range,List.drop_succ_cons,jB,fJ] at h ⊢;refine⟨h.1,h.2.1,fun k hk=>?_⟩;have a:=h.2.2 (k+1) oM;unfold zaO at a ⊢;simp only [fT] at a;cases hx:r[k]? with
  |none=>rw [hx] at a;exact a
  |some x =>
   rw [hx] at a;simp only [dF] at a ⊢;refine⟨a.1,?_⟩;cases k with
   |zero=>simp
   |succ k =>
    have b:=a.2;simp only [Nat.add_sub_cancel,fT] at b ⊢;simpa using b
theorem zR.tail {ad:Addr} (h:zR w lo hi (some ad) (n+1) s):Reads w lo hi 3 (some (ad.add 3)) n (zq (s.edges.drop 1)):=by
 obtain⟨d,c⟩:=h;obtain⟨a,e,i,g,f⟩:=c.at_ (k:=0) oM;obtain rfl:ad=a:=by injection e
 have b:=c.length;rw [zaw] at b;refine⟨by rw [zaw,List.length_drop];omega,oH c.len,fun _=>⟨_,rfl,by rw [zdB];exact i,by rw [zdB];exact g,fun j u hu=>?_⟩⟩;rw [addr_add];refine f _ _ ?_;cases hes:s.edges with
 |nil=>rw [hes] at d;simp at d
 |cons x r =>
  rw [hes] at hu;simp only [List.drop_succ_cons,jB] at hu;rw [show 3+j=j+1+1+1 by omega];simp only [zq,fT];exact hu
theorem own_off {cs:Array Value} (zhD:W.ownsRow base 117 3 (.slice A n c) n (zq es))(hB:Blk W G 38 cs):∀ b,(Value.slice A n c).ownBlock=some b->b≠G:=by
 rintro b a rfl;rcases zhD.2 with ⟨d,_⟩|⟨g,f,h,d,_,j,_⟩
 ·rw [d] at a;simp [Value.ownBlock] at a
 ·rw [d] at a;have i:g=b:=by simpa [Value.ownBlock] using a
  subst i;unfold Blk at hB;rw [j] at hB;injection hB with hB
  injection hB with _ ht
  exact absurd ht dM
def NewSys (w W:World) (G:Nat) (s:Sys):Prop:=∃ (A:Option Addr) (n c:Nat),Ext w W∧Blk W G 38 #[s.al,s.st,.slice A n c]∧zR W w.heap.size W.heap.size A n s
theorem new_alloc (hx:Ext w W)(hn:n=s.edges.length) (zhD:W.ownsRow w.heap.size 117 3 (.slice A n c) n (zq s.edges)):NewSys w (W.alloc (.cells #[s.al,s.st,.slice A n c] 38)) W.heap.size s:=
 ⟨A,n,c,hx.alloc _,dU _ _ _,hn,dY (zg zhD ((cY _).alloc _))⟩
theorem new_fill (hx:Ext w W)(hn:n=s.edges.length) (zhD:W.ownsRow w.heap.size 117 3 (.slice A n c) n (zq s.edges))(hB:Blk W G 38 #[(0:Int),(0:Int),()])(hG:w.heap.size<=G) :
  NewSys w (((W.setCell G s.al).setCell ⟨G,1,none⟩ s.st).setCell ⟨G,2,none⟩ (.slice A n c)) G s:=by
 have a:=zbZ W G (.int .i64 s.al) (.int .i64 s.st) (.slice A n c);exact⟨A,n,c,((hx.setCell (p:=⟨G,0,none⟩) hG _).setCell (p:=⟨G,1,none⟩) hG _).setCell (p:=⟨G,2,none⟩) hG _,blk_fill hB rfl _ _ _,hn,dY (zf zhD a (fun b hv hS=>own_off zhD hB b hv hS))⟩
end Go.Proofs.YtckbjnndaaoddaaGreatDoor
