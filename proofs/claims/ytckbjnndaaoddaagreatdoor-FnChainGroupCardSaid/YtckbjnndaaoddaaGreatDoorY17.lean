/- spec.l14Draw -/
import Derived.Test.YtckbjnndaaoddaaGreatDoorY16
import Derived.Shelf.Sort.Plain
import Derived.Lib.SlicesCompact
import Derived.Sort.Grow
import Derived.Shelf.SlSortFuncK.ComposeK
import Derived.Shelf.SlSortCmp.NoneTotal
set_option maxHeartbeats 4000000
set_option maxRecDepth 100000
namespace Go.Proofs.YtckbjnndaaoddaaGreatDoor
open Go Go.RowKit
open Blk renaming new->eX
open Ext renaming refl->dE
open Frm renaming ae->fV,setCell->eB
open Int renaming toNat_natCast->fF
open List renaming append_assoc->iZ,append_nil->gS,drop_of_length_le->gW,flatMap_append->jT,flatMap_cons->jB,getD_eq_getElem?_getD->eE,getElem?_append_left->eH,getElem?_eq_getElem->dH,getElem?_eq_none->eR,getElem?_map->eM,getElem?_of_mem->eU,getElem?_set_self->fP,getElem_mem->gI,idxOf_lt_length_of_mem->jH,length_append->eK,length_cons->gJ,length_map->eT,length_set->gU,length_take->fL,mem_map->kS,mem_of_getElem?->dG,mem_singleton->fN,nil_append->e9,take_add_one->eG,take_length->fB,take_of_length_le->eF
open Nat renaming le_of_lt->kU,le_refl->dI,lt_or_ge->fM,lt_trichotomy->fQ,mod_eq_of_lt->iJ,or_lt_two_pow->e7,zero_add->eO,zero_le->eC
open Option renaming map_eq_some_iff->fS,map_some->iV
open Reads renaming af->eW
variable {A A' B:Option Addr} {L P:List Nat} {M N R Z b base c c1 c2 d g hi hi' i k l lo lo' m n n' size x:Nat} {W a w w':World} {cs:Array Value} {e t:TypeId} {es:List Edg} {p:Aut} {s u:Sys} {ss:List Sys} {v:Value}
def RetL14 (R M:Nat) (w:World) (e:Ending) (w':World):Prop:=
 ∃ (l:List Ent) (g c:Nat) (b:Aut) (A:Option Addr) (n c1:Nat) (A':Option Addr) (n' c2:Nat),l.length=3∧e=.returned (.tuple #[.slice (some g) 3 c,.agg #[b.al,.slice A n c1,.slice A' n' c2]])∧Sld w w' R M (.slice (some g) 3 c) l∧zN w' (R+1) A n c1 A' n' c2 b∧Hid (BdA 50 b)∧Hid (∀ e∈l,e.n<=40000)
theorem union_le14 (h:zy ss=true):zB ss<=63:=by
 have c:∀ s∈ss,zk s=true:=by
  unfold zy at h;simp only [Bool.and_eq_true,List.all_eq_true] at h;exact h.2.2
 have:∀ n,zB (ss.take n)<=63:=by
  intro n
  induction n with
  |zero=>simp [zB]
  |succ n ih =>
   rcases fM n ss.length with a|a
   ·rw [zcs (dH a)];have:=zG (c _ (gI a));have:=e7 (n:=6) (x:=zB (ss.take n)) (y:=ss[n].al.toNat) oM oM;omega
   ·rw [eF oM];rw [eF a] at ih;exact ih
 have b:=this ss.length;rwa [fB] at b
theorem partsA_cases (ss:List Sys):(∃ a:Nat,zaZ ss=(a:Int)∧a<64)∨zaZ ss = -1:=by
 unfold zaZ;cases h:zy ss
 ·exact .inr rfl
 ·exact .inl ⟨zB ss,rfl,by have:=union_le14 h;omega⟩
theorem Sld.box {w0:World} {gb:Nat}  {l:List Ent} (h:Sld w0 W R M v l)(hB:Blk W gb 38 cs)(hv:∀ b,v.ownBlock=some b->b≠gb)(hg:w0.heap.size<=gb) (u0 u1 u2:Value) :
  Sld w0 (((W.setCell gb u0).setCell ⟨gb,1,none⟩ u1).setCell ⟨gb,2,none⟩ u2) R M v l:=by
 have a:=h.hR;have c:=zdm W gb u0 u1 u2;exact⟨zf h.own c (fun b hb e=>hv b hb e),fun e he=>⟨(h.ent e he).1.far hB dM c,(h.ent e he).2⟩,h.rd.frm c (fun k hk e=>oM),((h.dr.ag (p:=⟨gb,0,none⟩) hg _).ag (p:=⟨gb,1,none⟩) hg _).ag (p:=⟨gb,2,none⟩) hg _,a⟩
theorem fin14 {K:Nat} {l:List Ent} {b:Aut}   (hl:l.length=3)(hs:Sld w W R M (.slice (some g) 3 c) l)(ho:zN W K A n c1 A' n' c2 b)(hK:R+1<=K)(hZK:Z<K)(hb:BdA 50 b)(hle:∀ e∈l,e.n<=40000) (bz:Blk W Z 27 cs)(hc:cs.size=3)(hZ:w.heap.size<=Z)(hM:M<=N) :
  Hid (RetL14 R N w (.returned (.tuple #[.slice (some g) 3 c,.agg #[b.al,.slice A n c1,.slice A' n' c2]])) (((W.setCell Z b.al).setCell ⟨Z,1,none⟩ (.slice A n c1)).setCell ⟨Z,2,none⟩ (.slice A' n' c2))) ∧
  Blk (((W.setCell Z b.al).setCell ⟨Z,1,none⟩ (.slice A n c1)).setCell ⟨Z,2,none⟩ (.slice A' n' c2)) Z 27 #[.int .i64 b.al,.slice A n c1,.slice A' n' c2]:=by
 have d:=hs.hR;have a:=zZ W Z (.int .i64 b.al) (.slice A n c1) (.slice A' n' c2);refine⟨za ⟨l,g,c,b,A,n,c1,A',n',c2,hl,rfl,⟨zf hs.own a (fun k hv e=>zr hs.own bz dM hv e),fun e he=>⟨(hs.ent e he).1.far bz dM a,(hs.ent e he).2⟩,(hs.rd.more hM).frm a (fun k hk e=>oM),?_,d⟩,(ho.keep a (fun k h1 e=>oM)).less hK,za hb,za hle⟩,zaf bz hc _ _ _⟩;exact ((hs.dr.ag (p:=⟨Z,0,none⟩) hZ _).ag (p:=⟨Z,1,none⟩) hZ _).ag (p:=⟨Z,2,none⟩) hZ _
theorem spec_l14Draw (h:Rd w R M)(hM:M<=600000000) :
  Calls Tryz.prog 115 #[.pointer (some R)] w (RetL14 R (M+100000) w):=by
 have aB:=h.lt
 go_enter Tryz.func115,Tryz.ntmps115
 go_wp2_with fail
 generalize U0:w.alloc _=w1 at *;have aY:=Ext.al_ U0;have bz:=Ext.bl_ U0;have cr:w1.heap.size=w.heap.size+1:=by rw [← U0];simp
 clear U0;refine (zH (h.ext aY) oM).mono ?_;rintro e w2 ⟨z,rfl,-,-,aR,aG⟩;have au:=aY.dr.trans aG;have ah:=bz.dr aG oM
 by_cases hz:z=0
 ·subst hz;have bH:=au.size;go_wp2_with fail
  refine (zjS).mono ?_;rintro e w3 ⟨g,rfl,hg,hT,Y⟩;have bD:=au.ext Y;have a4:=ah.ext Y;have ch:=Y.size;have cy:=ah.lt;go_wp2_with fail
  refine (zH (aR.ext Y) oM).mono ?_;rintro e w4 ⟨j,rfl,hj,-,aq,y⟩;have bj:j<5:=by have:=hj oM;omega
  have bE:=bD.trans y;have a5:=a4.dr y oM;obtain⟨bt,lt,aF,cj,V,aN⟩:=hT j bj;have ba:=y.aa aF (by dsimp only;omega);have aO:=zaF aN y (fun b J e=>oM);have bU:(j:Int)<5:=oM;have ae:=Sld.nil (w0:=w) aq bE aB;have av:=(dE w4).alloc (.cells #[] 38);have Z:=zh aO av;have F:=a5.ext av;clear hj hT aF aN;go_upto_region 5 with fail
  generalize hg4:w4.heap.size=g4 at *;generalize w4.alloc _=w5 at *;go_wp2_with fail
  go_loopw [6,7] (fun v i wr=>∃ (k:Nat) (vl:Value) (l:List Ent),k<=3∧vl=v∧i=.int .i64 k∧Hid (l.length=k)∧Hid (∀ e∈l,e.n<=40000)∧Sld w wr R (M+2+20*k) vl l∧Blk wr w.heap.size 27 #[(0:Int),(),()]∧wr.ownsRow w2.heap.size 9 1 (.slice (some bt) 4 4) 4 (zM lt)) (fun _ i _=>3 - (intOf i).toNat)
  case atStart=>exact⟨0,_,[],eC _,rfl,rfl,rfl,za (fun _ h=>by simp at h),ae.more oM,F,Z⟩
  case round =>
   clear ae F Z av ba;obtain⟨k,vl,l,hk,rfl,rfl,U,ap,f,m,d⟩:=hrel
   by_cases hlt:k<3
   ·obtain⟨ad,x,e1,_,_,hx,cx⟩:=(eW d).str (show k<4 by omega);obtain rfl:=Option.some.inj e1;have bG:=V x (dG hx.out);rw [zT,eO] at cx;have bI:=m.lt;go_wp2_with fail
    refine (zgU f.rd oM).mono ?_;rintro e L ⟨s,A1,n1,c1,ok,rfl,bw,⟨-,bh⟩,bl,aQ,E⟩;have p:=(dE L).alloc (.cells #[s.al,s.st,.slice A1 n1 c1] 38);have bs:=eX L 38 #[s.al,s.st,.slice A1 n1 c1];have o:=(f.drawn E aQ).ext p;have r:=(m.dr E oM).ext p;have aa:=zh (zaF d E (fun b J e=>oM)) p;have aS:=bw.ext p;have cw:=r.lt;have bC:∀ b,vl.ownBlock=some b->b≠L.heap.size:=fun b hb=>by have:=(f.own.lt b hb).2;have:=E.size;omega
    have ci:=(f.drawn E aQ).dr.size;have bS:=E.size;go_upto_region 9 with fail
    generalize hgb:L.heap.size=gb at *;generalize L.alloc _=wb at *;go_wp2_with fail
    refine (zH o.rd oM).mono ?_;rintro e wc ⟨q,rfl,-,-,br,G⟩;have C:=o.drawn G br;have O:=bs.dr G oM;have aj:=r.dr G oM;have H:=zaF aa G (fun b J e=>oM);have ar:=aS.dr G;clear bs r aa aS o d m cx p;go_upto_if 39 with fail
    go_cut [] (fun wx=>∃ Q:Ent,Blk wx gb 38 #[Q.s.al,Q.s.st,.slice Q.A Q.n Q.c]∧Q.ok wx R∧Q.n<=40000∧Sld w wx R (M+2+20*k+15) vl l∧Blk wx w.heap.size 27 #[(0:Int),(),()]∧wx.ownsRow w2.heap.size 9 1 (.slice (some bt) 4 4) 4 (zM lt))
    case first =>
     by_cases hq:q=0
     ·subst hq;have cs:=O.cell;go_wp2_with fail
      refine (ziB C.rd oM ar bh bl.1 oM).mono ?_;rintro e wd ⟨s2,A2,n2,c2,rfl,bx,ck,bu,T⟩;have D:=O.dr T oM;have b5:=D.cell;have cb:=D.frozen;have aV:=(C.drawn T bu).box D bC oM (.int .i64 s2.al) (.int .i64 s2.st) (.slice A2 n2 c2);have ao:=zdm wd gb (.int .i64 s2.al) (.int .i64 s2.st) (.slice A2 n2 c2);have ab:=zaF H T (fun b J e=>oM);go_wp2_with fail
      go_meet;exact⟨⟨s2,A2,n2,c2⟩,blk_fill D rfl _ _ _,⟨bx.far D dM ao,by dsimp only;omega,by dsimp only;omega⟩,by dsimp only;omega,aV.more oM,(aj.dr T oM).frm ao oM,zf ab ao (fun b hb e=>zr ab D dM hb e)⟩
     ·have co:((q:Int)==0)=false:=by simp;omega
      go_wp2_with fail
      go_meet;exact⟨⟨s,A1,n1,c1⟩,O,⟨ar,by dsimp only;omega,by dsimp only;omega⟩,by dsimp only;omega,C.more oM,aj,H⟩
    case rest =>
     clear C O aj H ar;obtain⟨Q,a3,bg,aK,B,m,d⟩:=hcut;have b6:=a3.cell;have aL:=U.out;go_wp2_with (at_builtin;refine zeS w _ rfl _ _ _ rfl 38 _ 3 40 Tryz.underlying23 info_sys rfl dM vl l.length (zgP l) _ _ rfl rfl B.dr.size B.own rfl (by simp [Value.oneCell']) lM oM ?_;intro g5 cap5 w5' zkr hg5 hat5 hlt5)
     have aP:=B.push bg zkr hg5;rw [aL] at aP;go_roundw
     case rel=>exact⟨k+1,_,l++[Q],oM,rfl,gM,by unfold Hid;rw [eK,aL];rfl,za (fun e he=>by rcases List.mem_append.1 he with J|J;exact ap.out e J;rw [fN] at J;subst J;exact aK),aP.more (show M+2+20*k+15<=M+2+20*(k+1) by omega),(hg5.block _ m.lt (fun e=>zr B.own m dM e.symm rfl)).trans m,zf d (fV hg5) (fun b hb hS=>zas d B.own dM hb hS)⟩
     case measure=>simp [intOf];omega
   ·have bk:k=3:=oM;subst bk;obtain⟨g,cg,rfl⟩:∃ g cg,vl=.slice (some ⟨g,0,none⟩) 3 cg:=by
     have ho:=f.own.2;rw [U.out] at ho;rcases ho with ⟨_,h0⟩|⟨g,a7,b7,J,_⟩
     ·omega
     ·exact⟨g,a7,J⟩
    obtain⟨ad,x,e1,_,_,hx,cx⟩:=(eW d).str (show 3<4 by omega);obtain rfl:=Option.some.inj e1;have bG:=V x (dG hx.out);rw [zT,eO] at cx;have bI:=m.lt;go_wp2_with fail
    refine (zfy f.rd oM).mono ?_;rintro e L ⟨b,A1,n1,c1,A2,n2,c2,ok,rfl,aC,aE,bq,aJ⟩;have cq:=f.dr.size;have p:=(dE L).alloc (.cells #[b.al,.slice A1 n1 c1,.slice A2 n2 c2] 27);have bb:=eX L 27 #[b.al,.slice A1 n1 c1,.slice A2 n2 c2];have o:=(f.drawn aJ bq).ext p;have r:=(m.dr aJ oM).ext p;have aD:=aC.ext p;clear aC d m cx;go_upto_region 13 with fail
    generalize hgb:L.heap.size=gb at *;generalize L.alloc _=wb at *;have cB:=bb.cells;have cz:=r.cell;have fz:=r.frozen;have an:Ext wb wb.drew:=(dE _).drew;obtain⟨-,f2⟩:=fin14 (N:=M+100000) U.out o aD oM oM (BdL.more aE.out oM) ap.out r rfl (dI _) oM;obtain⟨f1,-⟩:=fin14 (N:=M+100000) U.out (o.ext an) (aD.ext an) oM oM (BdL.more aE.out oM) ap.out (r.ext an) rfl (dI _) oM;go_wp2_with fail
    refine tR (fun X=>Ext wb X) [3] (Ord.of [0,1,2,3]) ?_;refine tQ ?_;refine zab fun K hK=>?_;go_simp;refine hK.out _ _ ?_;refine zaD ?_;go_wp2_with fail
    have cf:=f2.cell;exact bodyPost_ret (v:=.tuple #[.slice (some g) 3 cg,.agg #[b.al,.slice A1 n1 c1,.slice A2 n2 c2]]) (by simp [results,Tryz.results115,go_sem,cf]) rfl f1.out
 ·have ct:((z:Int)==0)=false:=by simp;omega
  go_wp2_with fail
  refine (zdz aR oM).mono ?_;rintro e w3 ⟨s,A3,n3,c3,rfl,bA,-,cl,bn,aH⟩;go_wp2_with fail
  refine (zdz bn oM).mono ?_;rintro e w4 ⟨t,A4,n4,c4,rfl,V,-,cm,aq,y⟩;go_wp2_with fail
  refine (zdz aq oM).mono ?_;rintro e w5 ⟨u,A5,n5,c5,rfl,bB,-,cn,bo,S⟩;have aW:=((au.trans aH).trans y).trans S;have F:=((ah.dr aH oM).dr y oM).dr S oM;have f:=Sld.three (w0:=w) (a:=⟨s,A3,n3,c3⟩) (b:=⟨t,A4,n4,c4⟩) (c:=⟨u,A5,n5,c5⟩) bo aW aB ⟨(bA.dr y).dr S,by dsimp only;omega,by dsimp only;omega⟩ ⟨V.dr S,by dsimp only;omega,by dsimp only;omega⟩ ⟨bB,by dsimp only;omega,by dsimp only;omega⟩;dsimp only at f;have bF:=(dE w5).alloc (.cells #[s.al,s.st,.slice A3 n3 c3,t.al,t.st,.slice A4 n4 c4,u.al,u.st,.slice A5 n5 c5] 38);have a6:=F.ext bF;have cu:=F.lt;generalize hg6:w5.heap.size=g6 at *;go_upto_region 15 with fail
  generalize w5.alloc _=w6 at *;have hA:=partsA_cases [s,t,u];have aT:=f.sl rfl;have bH:=aW.size;go_wp2_with (first
   |(go_at_call 206;refine (zaC aT).mono (mQ fun w7 aX=>?_);have I:=f.ext aX;have az:=a6.ext aX;have cv:=az.lt;have cp:=I.dr.size)
   |(go_at_call 205;refine (zgX I.rd oM hA).mono ?_;rintro e w8 ⟨b,A8,n8,d8,A9,n9,d9,rfl,bm,bi,bp,aI⟩;have ai:=az.dr aI oM;have b8:=ai.cell;have cc:=ai.frozen;have aU:=I.drawn aI bp))
  obtain⟨f1,f2⟩:=fin14 (N:=M+100000) rfl aU bm oM oM ((BdA.of bi.out).more oM) (fun e he=>by simp only [List.mem_cons,List.not_mem_nil,or_false] at he;rcases he with rfl|rfl|rfl<;>(dsimp only;omega)) ai rfl (dI _) oM
  have cf:=f2.cell;exact bodyPost_ret (v:=.tuple #[.slice (some g6) 3 3,.agg #[b.al,.slice A8 n8 d8,.slice A9 n9 d9]]) (by simp [results,Tryz.results115,go_sem,cf]) rfl f1.out
theorem entC_take (l:List Ent) (k:Nat):zgP (l.take k)=(zgP l).take (k*3):=by
 induction l generalizing k with
 |nil=>simp [zgP]
 |cons e r ih =>
  cases k with
  |zero=>simp [zgP]
  |succ k =>
   show e.cs++zgP (r.take k)=(e.cs++zgP r).take ((k+1)*3);rw [ih,List.take_append,show e.cs.length=3 by rfl,show (k+1)*3 - 3=k*3 by omega,eF (show e.cs.length<=(k+1)*3 by rw [show e.cs.length=3 by rfl];omega)]
section
variable {w0 W:World} {R M g n c:Nat} {l:List Ent}
theorem Sld.take (h:Sld w0 W R M (.slice (some g) n c) l)(hn:n=l.length)(hk:k<=n):Sld w0 W R M (.slice (some g) k c) (l.take k):=by
 subst hn;have p:(l.take k).length=k:=by rw [fL];omega
 refine⟨?_,fun e he=>h.ent e (List.mem_of_mem_take he),h.rd,h.dr,h.hR⟩;have q:=h.own;rw [p,entC_take];refine⟨by rw [fL,entC_length];omega,.inr ?_⟩;rcases q.2 with ⟨a,_⟩|⟨r,d,b,a,f,i,s,j,m,o⟩
 ·simp at a
 ·injection a with a h8 h9
  injection a with a
  injection a with a
  subst a;subst h9;refine⟨g,c,b,rfl,f,i,oM,j,m,?_⟩;rw [← o,List.take_take,Nat.min_eq_left oM]
theorem Sld.cap (h:Sld w0 W R M (.slice (some g) n c) l)(hn:n=l.length):n<=c:=by
 subst hn;rcases h.own.2 with ⟨a,_⟩|⟨d,cap,b,a,f,i,j,_⟩
 ·simp at a
 ·injection a with a h8 h9
  omega
theorem Sld.set1 {e:Ent}(h:Sld w0 W R M (.slice (some g) n c) l)(hn:n=l.length)(h2:2<=n)(he:e.ok W R) :
  Sld w0 (((W.setCell ⟨g,3,none⟩ e.s.al).setCell ⟨g,4,none⟩ e.s.st).setCell ⟨g,5,none⟩ (.slice e.A e.n e.c)) R M (.slice (some g) n c) (l.set 1 e):=by
 subst hn;have j:=(h.own.lt g rfl).1;have f:=h.hR;have m:Frm (fun k=>k=g) W (((W.setCell ⟨g,3,none⟩ e.s.al).setCell ⟨g,4,none⟩ e.s.st).setCell ⟨g,5,none⟩ (.slice e.A e.n e.c)):=
  ((eB W g 3 _).trans (eB _ g 4 _)).trans (eB _ g 5 _)
 have d:∀ x:Ent,x.ok W R->x.ok (((W.setCell ⟨g,3,none⟩ e.s.al).setCell ⟨g,4,none⟩ e.s.st).setCell ⟨g,5,none⟩ (.slice e.A e.n e.c)) R:=fun x hx =>
  ⟨hx.1.frm m (fun k hk _=>by subst hk;exact own_sys h.own rfl),hx.2⟩
 refine⟨?_,fun x hx=>?_,h.rd.frm m (fun k hk e=>oM),((h.dr.ag (p:=⟨g,3,none⟩) j _).ag (p:=⟨g,4,none⟩) j _).ag (p:=⟨g,5,none⟩) j _,f⟩
 ·have o:=(((h.own.stored 3 (.int .i64 e.s.al)).1.stored 4 (.int .i64 e.s.st)).1.stored 5 (.slice e.A e.n e.c)).1;rw [gU];have i:(((zgP l).set 3 (.int .i64 e.s.al)).set 4 (.int .i64 e.s.st)).set 5 (.slice e.A e.n e.c)=zgP (l.set 1 e):=by
   match l,h2 with
   |a :: b :: r,_=>rfl
  rw [← i];exact o
 ·rcases List.mem_or_eq_of_mem_set hx with hx|hx
  ·exact d x (h.ent x hx)
  ·subst hx;exact d _ he
theorem Sld.at_ {e:Ent}(h:Sld w0 W R M (.slice (some g) n c) l)(hn:n=l.length)(he:l[i]?=some e) :
  W.cell? ⟨g,i*3,none⟩=some (.int .i64 e.s.al)∧W.cell? ⟨g,i*3+1,none⟩=some (.int .i64 e.s.st)∧W.cell? ⟨g,i*3+2,none⟩=some (.slice e.A e.n e.c):=by
 subst hn;have f:=(List.getElem?_eq_some_iff.1 he).1;obtain⟨a,b,d⟩:=zjx he;exact⟨(h.own.cellAt (i*3) oM).trans a,(h.own.cellAt (i*3+1) oM).trans b,(h.own.cellAt (i*3+2) oM).trans d⟩
end
def RetL14A (R M:Nat) (w:World) (e:Ending) (w':World):Prop:=
 ∃ (l:List Ent) (k g c:Nat) (b:Aut) (A:Option Addr) (n c1:Nat) (A':Option Addr) (n' c2:Nat),Hid (k=l.length)∧k<=4∧e=.returned (.tuple #[.slice (some g) k c,.agg #[b.al,.slice A n c1,.slice A' n' c2]])∧Sld w w' R M (.slice (some g) k c) l∧zN w' (R+1) A n c1 A' n' c2 b∧Hid (BdA 100 b)
structure L14S (w0 W:World) (R G M g k c:Nat) (l:List Ent) (b:Aut) (A:Option Addr) (n c1:Nat) (A':Option Addr) (n' c2:Nat):Prop where
 sld:Sld w0 W R M (.slice (some g) k c) l
 len:Hid (k=l.length)
 blk:Blk W (G) 27 #[b.al,.slice A n c1,.slice A' n' c2]
 own:zN W (R+1) A n c1 A' n' c2 b
 bd:Hid (BdA 100 b)
 z:Blk W w0.heap.size 27 #[(0:Int),(),()]
 hG:w0.heap.size<G
section
variable {w0 W W':World} {R G M N g k c:Nat} {l:List Ent} {b:Aut} {A:Option Addr} {n c1:Nat} {A':Option Addr} {n' c2:Nat}
theorem L14S.drawn (h:L14S w0 W R G M g k c l b A n c1 A' n' c2)(hd:Dr R W W')(hr:Rd W' R N):L14S w0 W' R G N g k c l b A n c1 A' n' c2:=
 have hR:=h.sld.hR
 ⟨h.sld.drawn hd hr,h.len,h.blk.dr hd (oH h.hG),h.own.keep hd (fun b h1 e=>oM),h.bd,h.z.dr hd oM,h.hG⟩
theorem L14S.more (h:L14S w0 W R G M g k c l b A n c1 A' n' c2)(hM:M<=N):L14S w0 W R G N g k c l b A n c1 A' n' c2:={ h with sld:=h.sld.more hM }
theorem L14S.far (h:L14S w0 W R G M g k c l b A n c1 A' n' c2):g≠w0.heap.size∧g≠G:=⟨zr h.sld.own h.z dM rfl,zr h.sld.own h.blk dM rfl⟩
theorem L14S.setP {b1:Aut} {A1:Option Addr} {n1 d1:Nat} {A2:Option Addr} {n2 d2:Nat}(h:L14S w0 W R G M g k c l b A n c1 A' n' c2)(ho:zN W (R+1) A1 n1 d1 A2 n2 d2 b1)(hb:BdA 100 b1) :
  L14S w0 (((W.setCell G b1.al).setCell ⟨G,1,none⟩ (.slice A1 n1 d1)).setCell ⟨G,2,none⟩ (.slice A2 n2 d2)) R G M g k c l b1 A1 n1 d1 A2 n2 d2:=by
 have f:=h.sld.hR;have d:=h.hG;have a:=zZ W (G) (.int .i64 b1.al) (.slice A1 n1 d1) (.slice A2 n2 d2);refine⟨⟨zf h.sld.own a (fun k hv e=>zr h.sld.own h.blk dM hv e),fun e he=>⟨(h.sld.ent e he).1.far h.blk dM a,(h.sld.ent e he).2⟩,h.sld.rd.frm a (fun k hk e=>oM),?_,f⟩,h.len,zaf h.blk rfl _ _ _,ho.aq h.blk a dM,za hb,h.z.frm a oM,d⟩;exact ((h.sld.dr.ag (p:=⟨G,0,none⟩) (kU h.hG) _).ag (p:=⟨G,1,none⟩) (kU h.hG) _).ag (p:=⟨G,2,none⟩) (kU h.hG) _
theorem L14S.set1 {e:Ent}(h:L14S w0 W R G M g k c l b A n c1 A' n' c2)(h2:2<=k)(he:e.ok W R) :
  L14S w0 (((W.setCell ⟨g,3,none⟩ e.s.al).setCell ⟨g,4,none⟩ e.s.st).setCell ⟨g,5,none⟩ (.slice e.A e.n e.c)) R G M g k c (l.set 1 e) b A n c1 A' n' c2:=by
 obtain⟨d,f⟩:=h.far;have a:Frm (fun k'=>(Value.slice (some g) k c).ownBlock=some k') W (((W.setCell ⟨g,3,none⟩ e.s.al).setCell ⟨g,4,none⟩ e.s.st).setCell ⟨g,5,none⟩ (.slice e.A e.n e.c)):=
  (((eB W g 3 _).trans (eB _ g 4 _)).trans (eB _ g 5 _)).mono (fun k _ hk=>by subst hk;rfl)
 refine⟨h.sld.set1 h.len.out h2 he,za (by rw [gU];exact h.len.out),h.blk.frm a (fun e=>by simp [Value.ownBlock] at e;exact f e),h.own.farR h.sld.own a dM,h.bd,h.z.frm a (fun e=>by simp [Value.ownBlock] at e;exact d e),h.hG⟩
theorem L14S.fin (h:L14S w0 W R G M g k c l b A n c1 A' n' c2)(hk:k<=4)(hM:M<=N) :
  Hid (RetL14A R N w0 (.returned (.tuple #[.slice (some g) k c,.agg #[b.al,.slice A n c1,.slice A' n' c2]])) (((W.setCell w0.heap.size b.al).setCell ⟨w0.heap.size,1,none⟩ (.slice A n c1)).setCell ⟨w0.heap.size,2,none⟩ (.slice A' n' c2))) ∧
  Blk (((W.setCell w0.heap.size b.al).setCell ⟨w0.heap.size,1,none⟩ (.slice A n c1)).setCell ⟨w0.heap.size,2,none⟩ (.slice A' n' c2)) w0.heap.size 27 #[.int .i64 b.al,.slice A n c1,.slice A' n' c2]:=by
 have d:=h.sld.hR;have f:=h.hG;have a:=zZ W w0.heap.size (.int .i64 b.al) (.slice A n c1) (.slice A' n' c2);refine⟨za ⟨l,k,g,c,b,A,n,c1,A',n',c2,h.len,hk,rfl,⟨zf h.sld.own a (fun k hv e=>zr h.sld.own h.z dM hv e),fun e he=>⟨(h.sld.ent e he).1.far h.z dM a,(h.sld.ent e he).2⟩,(h.sld.rd.more hM).frm a (fun k hk e=>oM),?_,d⟩,h.own.aq h.z a dM,h.bd⟩,zaf h.z rfl _ _ _⟩;exact ((h.sld.dr.ag (p:=⟨w0.heap.size,0,none⟩) (dI _) _).ag (p:=⟨w0.heap.size,1,none⟩) (dI _) _).ag (p:=⟨w0.heap.size,2,none⟩) (dI _) _
end
theorem spec_l14Any (h:Rd w R M)(hM:M<=500000000) :
  Calls Tryz.prog 47 #[.pointer (some R)] w (RetL14A R (M+200000) w):=by
 have ap:=h.lt
 go_enter Tryz.func47,Tryz.ntmps47
 go_wp2_with fail
 generalize U0:w.alloc _=w1 at *;have V:=Ext.al_ U0;have bz:=Ext.bl_ U0;have a6:w1.heap.size=w.heap.size+1:=by rw [← U0];simp
 clear U0;refine (spec_l14Draw (h.ext V) oM).mono ?_;rintro e w2 ⟨l,g,c,b,A,n,j,i,r,m,x,rfl,f,B,o,af⟩;have E:=(dE w2).alloc (.cells #[b.al,.slice A n j,.slice i r m] 27);have bb:=eX w2 27 #[b.al,.slice A n j,.slice i r m];have D:=(f.less V.dr ap).ext E;have a7:=f.dr.size;have a:=(⟨D,za x.symm,bb,B.ext E,za (BdL.more o.out oM),(bz.dr f.dr oM).ext E,oM⟩:L14S w _ R w2.heap.size (M+100000) g 3 c l b A n j i r m);have F:=o;clear D f bb B o E bz V;go_upto_region 2 with fail
 generalize hG:w2.heap.size=G at *;generalize w2.alloc _=w3 at *;go_wp2_with fail
 refine (zH a.sld.rd oM).mono ?_;rintro e w4 ⟨y,rfl,-,-,ah,ad⟩;replace a:=a.drawn ad ah;go_upto_block 0 with fail
 go_cut [4] (fun v wx=>∃ (l:List Ent) (k g c:Nat) (b:Aut) (A:Option Addr) (n j:Nat) (i:Option Addr) (r m:Nat),v=.slice (some g) k c∧k<=4∧L14S w wx R G (M+150000) g k c l b A n j i r m)
 case first =>
  by_cases hy0:y=0
  ·subst hy0;go_wp2_with fail
   refine (zH a.sld.rd oM).mono ?_;rintro e w5 ⟨q,rfl,hq,-,U,O⟩;have a4:q<3:=by have:=hq oM;omega
   replace a:=a.drawn O U;have a5:q<=c:=by have:=a.sld.cap x.symm;omega
   go_wp2_with fail
   go_meet;exact⟨l.take q,q,g,c,b,A,n,j,i,r,m,rfl,oM,⟨(a.sld.take a.len.out oM).more oM,za (by rw [fL,x];omega),a.blk,a.own,a.bd,a.z,a.hG⟩⟩
  by_cases hy1:y=1
  ·subst hy1;go_wp2_with fail
   refine (zdz a.sld.rd oM).mono ?_;rintro e w5 ⟨s,A5,n5,c5,rfl,ax,-,a2,U,O⟩;replace a:=a.drawn O U;have av:(⟨s,A5,n5,c5⟩:Ent).ok w5 R:=⟨ax,by dsimp only;omega,by dsimp only;omega⟩;go_wp2_with (at_builtin;refine zeS w _ rfl _ _ _ rfl 38 _ 3 40 Tryz.underlying23 info_sys rfl dM (.slice (some g) 3 c) l.length (zgP l) _ _ rfl rfl a.sld.dr.size a.sld.own rfl (by simp [Value.oneCell']) lM oM ?_;intro g5 cap5 w6 zkr hg5 hat5 hlt5)
   have ag:=a.sld.push av zkr hg5;rw [x] at ag;obtain⟨f1,f2⟩:=a.far;go_meet;exact⟨l++[⟨s,A5,n5,c5⟩],4,g5,cap5,b,A,n,j,i,r,m,rfl,oM,⟨ag.more oM,za (by simp [x]),(hg5.block _ a.blk.lt (fun e=>f2 (by simpa [Value.ownBlock] using e.symm))).trans a.blk,a.own.farR a.sld.own (fV hg5) dM,a.bd,(hg5.block _ a.z.lt (fun e=>f1 (by simpa [Value.ownBlock] using e.symm))).trans a.z,a.hG⟩⟩
  by_cases hy2:y=2
  ·subst hy2;obtain⟨t,u⟩:∃ t,l[1]?=some t:=⟨l[1]' oM,dH _⟩;obtain⟨c0,Z,aa⟩:=a.sld.at_ x.symm u;have d:t.ok w4 R∧t.n<=40000:=⟨a.sld.ent t (dG u),af.out t (dG u)⟩;go_wp2_with fail
   refine (zeO (L:=t.n) a.sld.rd oM d.1.1 (dI _) (oH d.2)).mono ?_;rintro e v1 ⟨s1,A1,n1,d1,rfl,aw,aZ,Q,H⟩;replace a:=a.drawn H Q;clear c0 Z aa u;have p:=za d;clear d;go_wp2_with fail
   refine (zeO (L:=n1) a.sld.rd oM aw (dI _) (oH p.out.2)).mono ?_;rintro e v2 ⟨s2,A2,n2,d2,rfl,f,a0,S,I⟩;replace a:=a.drawn I S;go_wp2_with fail
   refine (zeO (L:=n2) a.sld.rd oM f (dI _) (oH p.out.2)).mono ?_;rintro e v3 ⟨s3,A3,n3,d3,rfl,D,a1,T,J⟩;replace a:=a.drawn J T;have aH:n3<=50000:=oH p.out.2;obtain⟨aV,ae⟩:∃ t,l[1]?=some t:=⟨l[1]' oM,dH _⟩;obtain⟨c0,Z,aa⟩:=a.sld.at_ x.symm ae;have C:=a.sld.own;rw [x] at C;have f3:=C.frozenAt;have fin:=a.set1 (e:=⟨s3,A3,n3,d3⟩) oM ⟨D,by dsimp only;omega,by dsimp only;omega⟩;go_wp2_with fail
   go_meet;exact⟨l.set 1 ⟨s3,A3,n3,d3⟩,3,g,c,b,A,n,j,i,r,m,rfl,oM,fin.more oM⟩
  by_cases hy3:y=3
  ·subst hy3;have cG:=a.blk.cell;go_wp2_with fail
   refine (zeP a.sld.rd oM a.own F.out oM).mono ?_;rintro e w5 ⟨b1,A1,n1,d1,B1,m1,e1,rfl,au,aq,Q,H⟩;have aW:=a.sld.dr.size;replace a:=a.drawn H Q;have aX:=a.sld.dr.size;clear cG;go_wp2_with fail
   refine (zeP a.sld.rd oM (au.less oM) aq.out oM).mono ?_;rintro e w6 ⟨b2,A2,n2,d2,B2,m2,e2,rfl,B,o,S,I⟩;replace a:=a.drawn I S;go_wp2_with fail
   refine (zeP a.sld.rd oM (B.less oM) o.out oM).mono ?_;rintro e w7 ⟨b3,A3,n3,d3,B3,m3,e3,rfl,C,ar,T,J⟩;have aY:=a.sld.dr.size;replace a:=a.drawn J T;have cG:=a.blk.cell;have fG:=a.blk.frozen;have fin:=a.setP (C.less oM) (BdL.more ar.out oM);go_wp2_with fail
   go_meet;exact⟨l,3,g,c,b3,A3,n3,d3,B3,m3,e3,rfl,oM,fin.more oM⟩
  have h0:((y:Int)==0)=false:=by simp;omega
  have h1:((y:Int)==1)=false:=by simp;omega
  have h2:((y:Int)==2)=false:=by simp;omega
  have h3:((y:Int)==3)=false:=by simp;omega
  clear hy0 hy1 hy2 hy3;go_wp2_with fail
  go_meet;exact⟨l,3,g,c,b,A,n,j,i,r,m,rfl,oM,a.more oM⟩
 case rest =>
  clear a x af F ah ad;obtain⟨l,k,g,c,b,A,n,j,i,r,m,rfl,hk,a⟩:=hcut;obtain⟨Y,ay⟩:∃ Y,Y=wc:=⟨_,rfl⟩;subst ay;have cB:=fun W (hW:Ext Y W)=>(a.blk.ext hW).cell;have cz:=a.z.cell;have fz:=a.z.frozen;have ab:Ext Y Y.drew:=(dE _).drew;obtain⟨-,f2⟩:=a.fin hk (show M+150000<=M+200000 by omega);obtain⟨f1,-⟩:=(a.drawn ab.dr (a.sld.rd.ext ab)).fin hk (show M+150000<=M+200000 by omega);go_wp2_with fail
  refine tR (fun X=>Ext Y X) [3] (Ord.of [0,1,2,3]) ?_;refine tQ ?_;refine zab fun K hK=>?_;go_simp;refine hK.out _ _ ?_;refine zaD ?_;go_wp2_with fail
  have cf:=f2.cell;exact bodyPost_ret (v:=.tuple #[.slice (some g) k c,.agg #[b.al,.slice A n j,.slice i r m]]) (by simp [results,Tryz.results47,go_sem,cf]) rfl f1.out
def RetDC (w:World) (e:Ending) (w':World):Prop:=
 ∃ (ss:List Sys) (k g c:Nat) (b:Aut) (A:Option Addr) (n c1:Nat) (A':Option Addr) (n' c2:Nat),Hid (k=ss.length)∧k<=4∧k<=c∧e=.returned (.tuple #[.slice (some g) k c,.agg #[b.al,.slice A n c1,.slice A' n' c2]])∧zdG w' w.heap.size w'.heap.size (some ⟨g,0,none⟩) k ss∧zF w' w.heap.size w'.heap.size A n A' n' b∧Hid (BdA 100 b)∧Ext w w'
theorem zN.at_new {c':Nat} {a:Aut}(h:zN w base A n c A' n' c' a)(hl:lo<=base):zF w lo w.heap.size A n A' n' a:=(h.less hl).reads
theorem sl_of {l:List Ent}(ho:W.ownsRow base 38 3 (.slice A n c) n (zgP l))(hn:n=l.length)(he:∀ e∈l,e.ok W R)(hb:lo<=base)(hR:lo<=R+1):zdG W lo W.heap.size A n (l.map Ent.s):=by
 have g:=eW ho;refine⟨by simpa using hn,zgP l,g.more hb (dI _),fun k s hs=>?_⟩;rw [eM,fS] at hs;obtain⟨e,a,rfl⟩:=hs;obtain⟨b,d,f⟩:=zjx a;exact⟨e.A,e.n,e.c,b,d,f,(he e (dG a)).1.at_.more hR (dI _)⟩
theorem draw_cl {w1:World} {l:List Ent} {b:Aut}   (hl:k=l.length)(hk:k<=4)(hs:Sld w1 W R M (.slice (some g) k c) l)(ho:zN W (R+1) A n c1 A' n' c2 b)(hb:BdA 100 b)(hR:w.heap.size<R)(hx:Ext w w1)(hz:Blk W w.heap.size 27 cs)(hc:cs.size=3) :
  RetDC w (.returned (.tuple #[.slice (some g) k c,.agg #[b.al,.slice A n c1,.slice A' n' c2]])) (((W.setCell w.heap.size b.al).setCell ⟨w.heap.size,1,none⟩ (.slice A n c1)).setCell ⟨w.heap.size,2,none⟩ (.slice A' n' c2)) ∧
  Blk (((W.setCell w.heap.size b.al).setCell ⟨w.heap.size,1,none⟩ (.slice A n c1)).setCell ⟨w.heap.size,2,none⟩ (.slice A' n' c2)) w.heap.size 27 #[.int .i64 b.al,.slice A n c1,.slice A' n' c2]:=by
 have a:=zZ W w.heap.size (.int .i64 b.al) (.slice A n c1) (.slice A' n' c2);have d:Ext w W:=Dr.new hx oM hs.dr;have f:=hs.hR;refine⟨⟨l.map Ent.s,k,g,c,b,A,n,c1,A',n',c2,za (by rw [eT];exact hl),hk,hs.cap hl,rfl,?_,?_,za hb,((d.setCell (p:=⟨w.heap.size,0,none⟩) (dI _) _).setCell (p:=⟨w.heap.size,1,none⟩) (dI _) _).setCell (p:=⟨w.heap.size,2,none⟩) (dI _) _⟩,zaf hz hc _ _ _⟩
 ·refine sl_of (base:=w1.heap.size) (c:=c) ?_ hl (fun e he=>(⟨(hs.ent e he).1.far hz dM a,(hs.ent e he).2⟩:e.ok _ R)) oM oM;have ho:=hs.own;rw [← hl] at ho;exact zaF ho a (fun b h1 e=>oM)
 ·exact (ho.keep a (fun b h1 e=>oM)).at_new oM
theorem vcT_none (h:three ss p=false):vcT ss p=⟨3,noA,noA,⟨#[]⟩,0⟩:=by
 unfold vcT;split
 ·rename_i x y z;have:zay [x,y,z] p = -1:=by unfold zay;rw [h];rfl
  rw [this];rfl
 ·rfl
theorem spec_VerifyChainA {lo1 hi1 m' d':Nat} {B':Option Addr}  (h:zdG w lo hi A n ss)(hp:zF w lo1 hi1 B m B' m' p)(hhi:hi<=w.heap.size)(hhi1:hi1<=w.heap.size) :
  Calls Tryz.prog 18 #[.slice A n c,.agg #[p.al,.slice B m d,.slice B' m' d']] w (zhr w (vcT ss p)):=by
 cases h3:three ss p
 ·rw [vcT_none h3];exact zgx h hp h3
 ·obtain⟨x,y,z,rfl⟩:=zdX h3;obtain⟨q,a,f⟩:=zgo h3;have e:vcT [x,y,z] p=chT x y z p q 12 0 ((zX q (zo x p q) [⟨#[]⟩] 11 [⟨#[]⟩]).map fun r=>(r,[⟨#[]⟩])):=by
   unfold vcT;dsimp only;rw [a,if_pos oM,fF]
  rw [e];obtain rfl:n=3:=h.1;obtain⟨b,o,s,i,g,j,rfl,_,_,_⟩:=h.sys (k:=0) oM;exact zgy h hp h3 a oM hhi hhi1
theorem spec_DrawVerifyChain (h:Bytes w A n)(hn:n<=9223372036854775807)(hc:n<=c)(hc2:c<=9223372036854775807) :
  Calls Tryz.prog 15 #[.slice A n c] w (RetDC w):=by
 have d:=(dE w).alloc (.cells #[(0:Int),(),()] 27);have B:=za (h.ext d);clear h
 go_enter Tryz.func15,Tryz.ntmps15
 go_wp2_with fail
 generalize U0:w.alloc _=L at *;have m:=Ext.bl_ U0;have F:=m.lt;clear U0;refine (spec_l19Open B.out hn hc hc2).mono ?_;rintro e M ⟨R,rfl,J,o,f⟩;have j:=d.trans f;have i:=m.ext f;go_wp2_with fail
 refine (spec_l14Any o oM).mono ?_;rintro e O ⟨l,k,g,c,b,A,n,t,r,G,u,D,C,rfl,q,E,z⟩;have a:=i.dr q.dr oM;have H:=a.cell;have I:=a.frozen;obtain⟨p,y⟩:=draw_cl D.out C q E z.out oM j a rfl;have s:=za p;clear p m i d f;go_wp2_with fail
 have x:=y.cell;exact bodyPost_ret (v:=.tuple #[.slice (some g) k c,.agg #[b.al,.slice A n t,.slice r G u]]) (by simp [results,Tryz.results15,go_sem,x]) rfl s.out
section
variable {lo hi lo' hi' n c m d n' c' m' d':Nat} {A B A' B':Option Addr} {w:World}
theorem yY17a1 {P:Prop}(h:P:=by
 obtain rfl:x=y:=Option.some.inj (hx.out.symm.trans hy.out);go_wp2
 go_quiet (fail)
 go_wp2;go_roundw
 case rel=>exact⟨k+1,oM,gM,zkh.drewN _⟩
 case measure=>simp [intOf];omega
 ):P:=h
theorem agIntsI_same {l:List Int}(h:Reads w lo hi 1 A n (ints l))(h':Reads w lo' hi' 1 B m (ints l)) :
  Calls Tryz.prog 201 #[.slice A n c,.slice B m d] w fun e w'=>e=.returned (.bool true)∧Ext w w':=by
 have r:=h.len;have b:=h.length;have f:=h'.length;rw [zdc] at b f;obtain rfl:n=m:=oM;clear b f;have g:=za (fun W (hW:Ext w W)=>h.ext hW);have a:=za (fun W (hW:Ext w W)=>h'.ext hW)
 go_enter Tryz.func201,Tryz.ntmps201
 go_wp2
 go_loopw [5] (fun v wr=>∃ k:Nat,k<=n∧v=.int .i64 k∧Ext w wr) (fun v _=>n - (intOf v).toNat)
 case atStart=>exact⟨0,eC _,rfl,dE _⟩
 case round =>
  obtain⟨k,q,rfl,zkh⟩:=hrel
  by_cases hlt:k<n
  ·obtain⟨o,x,rfl,_,_,hx,p⟩:=(g.out wr zkh).int hlt;obtain⟨i,y,rfl,_,_,hy,j⟩:=(a.out wr zkh).int hlt;exact yY17a1
  ·obtain rfl:k=n:=oM;go_wp2;go_ret;exact⟨rfl,zkh⟩
theorem agBools_same {l:List Bool}(h:Reads w lo hi 1 A n (zak l))(h':Reads w lo' hi' 1 B m (zak l)) :
  Calls Tryz.prog 200 #[.slice A n c,.slice B m d] w fun e w'=>e=.returned (.bool true)∧Ext w w':=by
 have r:=h.len;have b:=h.length;have f:=h'.length;rw [zbT] at b f;obtain rfl:n=m:=oM;clear b f;have g:=za (fun W (hW:Ext w W)=>h.ext hW);have a:=za (fun W (hW:Ext w W)=>h'.ext hW)
 go_enter Tryz.func200,Tryz.ntmps200
 go_wp2
 go_loopw [5] (fun v wr=>∃ k:Nat,k<=n∧v=.int .i64 k∧Ext w wr) (fun v _=>n - (intOf v).toNat)
 case atStart=>exact⟨0,eC _,rfl,dE _⟩
 case round =>
  obtain⟨k,q,rfl,zkh⟩:=hrel
  by_cases hlt:k<n
  ·obtain⟨o,x,rfl,_,_,hx,p⟩:=(g.out wr zkh).bool hlt;obtain⟨i,y,rfl,_,_,hy,j⟩:=(a.out wr zkh).bool hlt;exact yY17a1
  ·obtain rfl:k=n:=oM;go_wp2;go_ret;exact⟨rfl,zkh⟩
theorem zez {a:Aut}(h:zF w lo hi A n A' n' a)(h':zF w lo' hi' B m B' m' a) :
  Calls Tryz.prog 111 #[.agg #[a.al,.slice A n c,.slice A' n' c'],.agg #[a.al,.slice B m d,.slice B' m' d']] w fun e w'=>e=.returned (.bool true)∧Ext w w':=by
 have U:=h.1.len;obtain rfl:n=m:=h.1.1.trans h'.1.1.symm;have u:=za (fun W (hW:Ext w W)=>h.1.ext hW);have i:=za (fun W (hW:Ext w W)=>h'.1.ext hW);have s:=za (fun W (hW:Ext w W)=>agBools_same (c:=c') (d:=d') (h.2.2.ext hW) (h'.2.2.ext hW));clear h h'
 go_enter Tryz.func111,Tryz.ntmps111
 go_upto_region 1 with fail
 generalize U0:(w.alloc _).alloc _=r at *;obtain⟨b,y,z⟩:=Ext.x2_ U0;clear U0;have C:=y.cells;have E:=z.cells;have J:=dE r;go_wp2_with (first
  |(go_at_call 200;refine (s.out _ b).mono (mQ fun V o=>?_)))
 go_loopw [5] (fun v wr=>∃ k:Nat,k<=n∧v=.int .i64 k∧Ext r wr) (fun v _=>n - (intOf v).toNat)
 case atStart=>exact⟨0,eC _,rfl,o⟩
 case round =>
  obtain⟨k,T,rfl,zkh⟩:=hrel
  by_cases hlt:k<n
  ·obtain⟨Q,M,G,l,rfl,_,_,hx,I,q⟩:=(u.out wr (b.trans zkh)).row hlt;obtain⟨x,O,H,L,rfl,_,_,hy,j,f⟩:=(i.out wr (b.trans zkh)).row hlt;obtain rfl:l=L:=Option.some.inj (hx.out.symm.trans hy.out);have t:=za (fun W (hW:Ext wr W)=>agIntsI_same (c:=G) (d:=H) (q.ext hW) (f.ext hW));clear q f;have g:=dE wr;have R:=fun W (hW:Ext wr W)=>hW.aa I;have S:=fun W (hW:Ext wr W)=>hW.aa j;have D:=fun W (hW:Ext wr W)=>C W (zkh.trans hW);have F:=fun W (hW:Ext wr W)=>E W (zkh.trans hW);go_upto_region 6 with fail
   refine uR (fun X=>Ext wr X) [10] (zw.of [0,1,2,3,4,5,6,7,8,9,10,11]) ?_;refine uQ ?_;refine zb fun K hK=>?_;go_simp;refine (t.out _ g.drew).mono (mQ fun Y p=>?_);refine hK.out _ _ ?_;refine pT ?_;refine uQ ?_;refine zg ?_;go_wp2_with fail
   go_roundw
   case rel=>exact⟨k+1,oM,gM,zkh.trans (g.drew.trans p)⟩
   case measure=>simp [intOf];omega
  ·obtain rfl:k=n:=oM;go_wp2_with fail
   go_ret;exact⟨rfl,b.trans zkh⟩
end
section
variable {lo hi lo' hi' lo1 hi1 lo2 hi2 n c m d n' c' m' d' k e k' e' q f0 q' f0':Nat} {A B A' B' C C' D D':Option Addr} {w:World}
theorem zjj {f u:Aut}(h:zF w lo hi A n A' n' f)(h':zF w lo' hi' B m B' m' f) (g:zF w lo1 hi1 C k C' k' u) (g':zF w lo2 hi2 D q D' q' u) :
  Calls Tryz.prog 55 #[.agg #[f.al,.slice A n c,.slice A' n' c',u.al,.slice C k e,.slice C' k' e'],.agg #[f.al,.slice B m d,.slice B' m' d',u.al,.slice D q f0,.slice D' q' f0']] w fun e w'=>e=.returned (.bool true)∧Ext w w':=by
 have p:=za (fun W (hW:Ext w W)=>zez (c:=c) (c':=c') (d:=d) (d':=d') (h.ext hW) (h'.ext hW));have r:=za (fun W (hW:Ext w W)=>zez (c:=e) (c':=e') (d:=f0) (d':=f0') (g.ext hW) (g'.ext hW));clear g g';clear h h'
 go_enter Tryz.func55,Tryz.ntmps55
 go_upto_region 1 with fail
 generalize U0:(w.alloc _).alloc _=t at *;obtain⟨a,l,o⟩:=Ext.x2_ U0;clear U0;have v:=l.cells;have x:=o.cells;have s:=dE t;clear l o;go_wp2_with (first
  |(go_at_call 111;with_reducible refine (p.out _ a).mono (mQ fun y b=>?_))
  |(go_at_call 111;with_reducible refine (r.out _ (a.trans b)).mono (mQ fun z j=>?_);have i:=b.trans j))
 go_ret;exact⟨rfl,a.trans i⟩
theorem agChainVerdicts_same {v:Vc}(h:zF w lo hi A n A' n' v.fst)(h':zF w lo' hi' B m B' m' v.fst) (g:zF w lo1 hi1 C k C' k' v.snd) (g':zF w lo2 hi2 D q D' q' v.snd) :
  Calls Tryz.prog 17 #[.agg #[v.code,v.fst.al,.slice A n c,.slice A' n' c',v.snd.al,.slice C k e,.slice C' k' e',v.tr,v.ro],.agg #[v.code,v.fst.al,.slice B m d,.slice B' m' d',v.snd.al,.slice D q f0,.slice D' q' f0',v.tr,v.ro]] w fun e w'=>e=.returned (.bool true)∧Ext w w':=by
 have j:=za (fun W (hW:Ext w W)=>zjj (c:=c) (c':=c') (d:=d) (d':=d') (e:=e) (e':=e') (f0:=f0) (f0':=f0') (h.ext hW) (h'.ext hW) (g.ext hW) (g'.ext hW));clear g g';clear h h'
 go_enter Tryz.func17,Tryz.ntmps17
 go_upto_region 1 with fail
 generalize U0:(w.alloc _).alloc _=o at *;obtain⟨a,f,i⟩:=Ext.x2_ U0;clear U0;have p:=f.cells;have r:=i.cells;have l:=dE o;clear f i;go_wp2_with (first
  |(go_at_call 55;with_reducible refine (j.out _ a).mono (mQ fun s b=>?_)))
 go_ret;exact⟨rfl,a.trans b⟩
end
def Jst (s u:Sys) (q m l n:Nat):Prop:=
 (if s.al.toNat.testBit l then E s.edges (m / q) l (n / q) else n / q=m / q)∧(if u.al.toNat.testBit l then E u.edges (m % q) l (n % q) else n % q=m % q)
structure zfC (s u:Sys) (q:Nat) (x:Sys):Prop where
 valid:zk x=true
 al:x.al=(s.al.toNat|||u.al.toNat:Nat)
 pairs:∃ P:List Nat,x.st=P.length∧P[0]?=some 0∧(∀ a l b,E x.edges a l b↔(s.al.toNat|||u.al.toNat).testBit l=true∧∃ m n,P[a]?=some m∧P[b]?=some n∧Jst s u q m l n) ∧
  ∀ m∈P,∀ l n,(s.al.toNat|||u.al.toNat).testBit l=true->Jst s u q m l n->n∈P
def nxt (s u:Sys) (m l:Nat):List Nat:=(nx [s,u] m l).1
theorem zeI (h:zk s=true):Sml s:=by
 obtain⟨p,d,f,g,c⟩:=zcE h;obtain⟨⟨a,b⟩,_⟩:=zgg.1 h;refine⟨oM,oM,?_,a,b⟩;rw [d,fF];exact c
theorem cho_E (h:Sml s) :k∈cho s i l↔if s.al.toNat.testBit l then E s.edges i l k else k=i:=by
 unfold cho;split
 ·rw [zD];constructor
  ·rintro ⟨_,f⟩;obtain⟨e,a,⟨b,c⟩,d⟩:=(zcU s.edges i l k).1 f;obtain⟨_,_,⟨g,_⟩⟩:=h.2.2.1 e a;exact⟨e,a,b,c,oM⟩
  ·rintro ⟨e,a,b,c,d⟩;obtain⟨_,_,⟨g,j⟩⟩:=h.2.2.1 e a;have:=h.2.1;exact⟨oM,(zcU s.edges i l k).2 ⟨e,a,⟨b,c⟩,oM⟩⟩
 ·exact fN
theorem nxt_eq (s u:Sys) (m l:Nat):nxt s u m l=(cho s (m / u.st.toNat % s.st.toNat) l).flatMap fun i=>(cho u (m % u.st.toNat) l).map fun k=>i*u.st.toNat+k:=by
 unfold nxt;have:∀ L:List Nat,(L.flatMap fun q=>[0].map fun x=>q*1+x)=L:=fun L=>by
  induction L with
  |nil=>rfl
  |cons a r ih=>rw [jB,ih];simp
 simp only [nx,Nat.one_mul];rw [this]
theorem mem_nxt (hs:Sml s)(hu:Sml u) (hm:m<s.st.toNat*u.st.toNat):n∈nxt s u m l↔Jst s u u.st.toNat m l n:=by
 have c:0<u.st.toNat:=oH hu.1;have b:m / u.st.toNat<s.st.toNat:=by
  rw [Nat.div_lt_iff_lt_mul c];exact hm
 rw [nxt_eq,iJ b];unfold Jst;rw [← cho_E hs,← cho_E hu];constructor
 ·intro h;obtain⟨i,p,h⟩:=List.mem_flatMap.1 h;obtain⟨k,d,rfl⟩:=List.mem_map.1 h;have a:=ziK hu (Nat.mod_lt m c) k d;have f:(i*u.st.toNat+k) / u.st.toNat=i:=by rw [Nat.add_comm,Nat.add_mul_div_right _ _ c,Nat.div_eq_of_lt a,eO]
  have g:(i*u.st.toNat+k) % u.st.toNat=k:=by rw [Nat.add_comm,Nat.add_mul_mod_self_right,iJ a]
  rw [f,g];exact⟨p,d⟩
 ·rintro ⟨j,o⟩;refine List.mem_flatMap.2 ⟨_,j,List.mem_map.2 ⟨_,o,?_⟩⟩;rw [Nat.mul_comm];exact Nat.div_add_mod n _
theorem nxt_lt (hs:Sml s)(hu:Sml u) (h:n∈nxt s u m l):n<s.st.toNat*u.st.toNat:=by
 have:=(zhj (ss:=[s,u]) (fun x hx=>by simp at hx;rcases hx with rfl|rfl<;>assumption) m l).2.2.1 n h
 simp only [nx,Nat.one_mul] at this;rw [Nat.mul_comm];exact this
theorem nxt_nodup (hs:Sml s)(hu:Sml u) (m l:Nat):(nxt s u m l).Nodup:=
 (zhj (ss:=[s,u]) (fun x hx=>by simp at hx;rcases hx with rfl|rfl<;>assumption) m l).2.2.2.1
theorem nxt_len (hs:Sml s)(hu:Sml u) (m l:Nat):(nxt s u m l).length<=256:=by
 have:=nx_len (ss:=[s,u]) (fun x hx=>by simp at hx;rcases hx with rfl|rfl<;>assumption) m l
 simpa [nxt] using this
def eA (s u:Sys) (P:List Nat) (a l m:Nat):List Edg:=(nxt s u m l).map fun n=>⟨(a:Nat),(l:Nat),(P.idxOf n:Nat)⟩
def eL (s u:Sys) (P:List Nat) (L:List Nat) (a m:Nat):List Edg:=L.flatMap fun l=>eA s u P a l m
def eP (s u:Sys) (P:List Nat) (L:List Nat) (k:Nat):List Edg:=(List.range k).flatMap fun a=>eL s u P L a (P.getD a 0)
theorem mem_eP {e:Edg}:e∈eP s u P L k↔∃ a l n,a<k∧l∈L∧n∈nxt s u (P.getD a 0) l∧e=⟨(a:Nat),(l:Nat),(P.idxOf n:Nat)⟩:=by
 simp only [eP,eL,eA,List.mem_flatMap,kS,List.mem_range];constructor
 ·rintro ⟨a,b,l,c,n,d,rfl⟩;exact⟨a,l,n,b,c,d,rfl⟩
 ·rintro ⟨a,l,n,b,c,d,rfl⟩;exact⟨a,b,l,c,n,d,rfl⟩
theorem zhC (h:n∈P):P[P.idxOf n]?=some n:=by
 have a:=jH h;rw [dH a,List.getElem_idxOf a]
theorem idx_inj (hm:m∈P)(hn:n∈P)(h:P.idxOf m=P.idxOf n):m=n:=by
 have a:=zhC hm;rw [h,zhC hn] at a;exact (Option.some.inj a).symm
theorem flat_pair {α β:Type} {l:List α} {f:α->List β} {R:β->β->Prop}(h:l.Pairwise fun a b=>∀ x∈f a,∀ y∈f b,R x y)(hf:∀ a∈l,(f a).Pairwise R):(l.flatMap f).Pairwise R:=by
 induction l with
 |nil=>simp
 |cons a r ih =>
  rw [jB,List.pairwise_append];rw [List.pairwise_cons] at h;refine⟨hf a List.mem_cons_self,ih h.2 fun b c=>hf b (List.mem_cons_of_mem _ c),fun x hx y hy=>?_⟩;obtain⟨b,c,hy⟩:=List.mem_flatMap.1 hy;exact h.1 b c x hx y hy
theorem eP_nodup (hs:Sml s)(hu:Sml u)(hL:L.Nodup)(hc:∀ a,a<k->∀ l∈L,∀ n∈nxt s u (P.getD a 0) l,n∈P):(eP s u P L k).Nodup:=by
 unfold eP;refine flat_pair ?_ fun a c=>?_
 ·refine List.Pairwise.imp_of_mem ?_ (List.nodup_range (n:=k));intro a b c hb hab x hx y hy hxy;simp only [eL,eA,List.mem_flatMap,kS] at hx hy;obtain⟨l,_,n,_,rfl⟩:=hx;obtain⟨f,_,d,_,rfl⟩:=hy;simp only [Edg.mk.injEq] at hxy;exact hab oM
 ·have c:=List.mem_range.1 c;unfold eL;refine flat_pair ?_ fun l hl=>?_
  ·refine List.Pairwise.imp_of_mem ?_ hL;intro l f _ _ hll x hx y hy hxy;simp only [eA,kS] at hx hy;obtain⟨n,_,rfl⟩:=hx;obtain⟨d,_,rfl⟩:=hy;simp only [Edg.mk.injEq] at hxy;exact hll oM
  ·unfold eA;rw [List.pairwise_map];refine List.Pairwise.imp_of_mem ?_ (nxt_nodup hs hu _ _);intro n d hn hn' hne hxy;simp only [Edg.mk.injEq] at hxy;exact hne (idx_inj (hc a c l hl n hn) (hc a c l hl d hn') oM)
theorem comp_spec (hs:Sml s)(hu:Sml u)(hL:L=letters (s.al.toNat|||u.al.toNat) 6)(hP0:P[0]?=some 0)(hP16:P.length<=16)(hPn:P.Nodup)(hPq:∀ m∈P,m<s.st.toNat*u.st.toNat)
  (hc:∀ m∈P,∀ l∈L,∀ n∈nxt s u m l,n∈P) (hes:Srt es) (hp:es.Perm (eP s u P L P.length)):zfC s u u.st.toNat ⟨(s.al.toNat|||u.al.toNat:Nat),(P.length:Nat),es⟩:=by
 have M:s.al.toNat|||u.al.toNat<2 ^ 6:=e7 (oH hs.2.2.2) (oH hu.2.2.2)
 have t:∀ l,(s.al.toNat|||u.al.toNat).testBit l=true->l<6:=fun l h=>by
  rcases fM l 6 with k|k
  ·exact k
  ·rw [Nat.testBit_lt_two_pow (Nat.lt_of_lt_of_le M (Nat.pow_le_pow_right oM k))] at h;cases h
 have d:∀ l,l∈L↔(s.al.toNat|||u.al.toNat).testBit l=true:=fun l=>by
  rw [hL,zD];exact⟨fun h=>h.2,fun h=>⟨t l h,h⟩⟩
 have o:∀ a m,P[a]?=some m->P.getD a 0=m:=fun a m h=>by rw [eE,h];rfl
 have H:0<P.length:=(List.getElem?_eq_some_iff.1 hP0).1;have v:∀ a,a<P.length->∀ l∈L,∀ n∈nxt s u (P.getD a 0) l,n∈P:=fun a c=>hc _ (by
  rw [o a P[a] (dH c)];exact gI c)
 have f:∀ e,e∈es↔∃ a l n,a<P.length∧l∈L∧n∈nxt s u (P.getD a 0) l∧e=⟨(a:Nat),(l:Nat),(P.idxOf n:Nat)⟩:=fun e=>by rw [hp.mem_iff,mem_eP]
 have J:es.Nodup:=hp.symm.nodup_iff.1 (eP_nodup hs hu (by rw [hL];exact zee _ _) v);refine⟨?_,rfl,P,rfl,hP0,fun a l b=>?_,fun m hm l n g E=>hc m hm l ((d l).2 g) n ((mem_nxt hs hu (hPq m hm)).2 E)⟩
 ·refine zgg.2 ⟨⟨sM,by simp only;omega⟩,⟨by simp only;omega,by simp only;omega⟩,fun e F=>?_,fun i j x y hx hy hij=>?_⟩
  ·obtain⟨a,l,n,c,g,p,rfl⟩:=(f e).1 F;have Q:=jH (v a c l g n p);have V:=t l ((d l).1 g);have G:=(d l).1 g;simp [edgB,hasB,fF,G];omega
  ·rcases ltE_tri x y with h|h|h
   ·exact h
   ·subst h;obtain⟨Q,k⟩:=List.getElem?_eq_some_iff.1 hx;obtain⟨U,D⟩:=List.getElem?_eq_some_iff.1 hy;exact absurd (k.trans D.symm) (List.pairwise_iff_getElem.1 J i j Q U hij)
   ·exact absurd h (hes i j x y hx hy hij)
 ·constructor
  ·rintro ⟨e,F,k,D,T⟩;obtain⟨S,R,n,c,g,p,rfl⟩:=(f e).1 F;simp only at k D T;obtain rfl:S=a:=oM;obtain rfl:R=l:=oM;have z:=dH c;rw [o _ _ z] at p;have I:=hc _ (gI c) R g n p;exact⟨(d _).1 g,_,n,z,by rw [show b=P.idxOf n by omega];exact zhC I,(mem_nxt hs hu (hPq _ (gI c))).1 p⟩
  ·rintro ⟨g,m,n,c,O,E⟩;have p:=(mem_nxt hs hu (hPq m (dG c))).2 E;refine⟨⟨(a:Nat),(l:Nat),(P.idxOf n:Nat)⟩,(f _).2 ⟨a,l,n,(List.getElem?_eq_some_iff.1 c).1,(d l).2 g,by rw [o a m c];exact p,rfl⟩,rfl,rfl,?_⟩;have k:=zhC (dG O);obtain⟨q,r⟩:=List.getElem?_eq_some_iff.1 O;obtain⟨B,C⟩:=List.getElem?_eq_some_iff.1 k;have:P.idxOf n=b:=by
    rcases fQ (P.idxOf n) b with h|h|h
    ·exact absurd (C.trans r.symm) (List.pairwise_iff_getElem.1 hPn _ _ B q h)
    ·exact h
    ·exact absurd (r.trans C.symm) (List.pairwise_iff_getElem.1 hPn _ _ q B h)
   simp only;omega
section
open Go.Lib Go.Shelf
def sortInt_ren:Go.Shelf.Ren:=⟨fun|189=>69|125=>157|257=>156|128=>239|129=>240|294=>230|295=>231|296=>232|297=>233|298=>234|299=>235|216=>236|300=>237|301=>238|328=>283|329=>284|330=>285|331=>286|332=>287|215=>249|343=>299|n=>n,fun|28=>110|3=>3|46=>194|0=>0|51=>257|53=>259|4=>4|183=>252|182=>251|131=>114|5=>5|9=>9|218=>286|222=>290|228=>298|229=>48|n=>n,fun|n=>n⟩
theorem sortInt:Go.Proofs.Lays.n189 Tryz.prog sortInt_ren where
 mixed:=kM
 f125:=Tryz.func157.trans (congrArg some kM)
 f128:=Tryz.func239.trans (congrArg some kM)
 f129:=Tryz.func240.trans (congrArg some kM)
 f189:=Tryz.func69.trans (congrArg some kM)
 f215:=Tryz.func249.trans (congrArg some kM)
 f216:=Tryz.func236.trans (congrArg some kM)
 f257:=Tryz.func156.trans (congrArg some kM)
 f294:=Tryz.func230.trans (congrArg some kM)
 f295:=Tryz.func231.trans (congrArg some kM)
 f296:=Tryz.func232.trans (congrArg some kM)
 f297:=Tryz.func233.trans (congrArg some kM)
 f298:=Tryz.func234.trans (congrArg some kM)
 f299:=Tryz.func235.trans (congrArg some kM)
 f300:=Tryz.func237.trans (congrArg some kM)
 f301:=Tryz.func238.trans (congrArg some kM)
 f328:=Tryz.func283.trans (congrArg some kM)
 f329:=Tryz.func284.trans (congrArg some kM)
 f330:=Tryz.func285.trans (congrArg some kM)
 f331:=Tryz.func286.trans (congrArg some kM)
 f332:=Tryz.func287.trans (congrArg some kM)
 f343:=Tryz.func299.trans (congrArg some kM)
 t0:=Tryz.underlying0
 a0:=Tryz.isAgg0
 z0:=Tryz.sizeOf0
 v0:=Tryz.zeroValue0
 t3:=Tryz.underlying3
 a3:=Tryz.isAgg3
 z3:=Tryz.sizeOf3
 v3:=Tryz.zeroValue3
 t4:=Tryz.underlying4
 a4:=Tryz.isAgg4
 z4:=Tryz.sizeOf4
 v4:=Tryz.zeroValue4
 t5:=Tryz.underlying5
 a5:=Tryz.isAgg5
 z5:=Tryz.sizeOf5
 v5:=Tryz.zeroValue5
 t9:=Tryz.underlying9
 a9:=Tryz.isAgg9
 z9:=Tryz.sizeOf9
 v9:=Tryz.zeroValue9
 t28:=Tryz.underlying110
 a28:=Tryz.isAgg110
 z28:=Tryz.sizeOf110
 v28:=Tryz.zeroValue110
 t46:=Tryz.underlying194
 a46:=Tryz.isAgg194
 z46:=Tryz.sizeOf194
 v46:=Tryz.zeroValue194
 t51:=Tryz.underlying257
 a51:=Tryz.isAgg257
 z51:=Tryz.sizeOf257
 v51:=Tryz.zeroValue257
 t53:=Tryz.underlying259
 a53:=Tryz.isAgg259
 z53:=Tryz.sizeOf259
 v53:=Tryz.zeroValue259
 t131:=Tryz.underlying114
 a131:=Tryz.isAgg114
 z131:=Tryz.sizeOf114
 v131:=Tryz.zeroValue114
 t182:=Tryz.underlying251
 a182:=Tryz.isAgg251
 z182:=Tryz.sizeOf251
 v182:=Tryz.zeroValue251
 t183:=Tryz.underlying252
 a183:=Tryz.isAgg252
 z183:=Tryz.sizeOf252
 v183:=Tryz.zeroValue252
 t218:=Tryz.underlying286
 a218:=Tryz.isAgg286
 z218:=Tryz.sizeOf286
 v218:=Tryz.zeroValue286
 t222:=Tryz.underlying290
 a222:=Tryz.isAgg290
 z222:=Tryz.sizeOf290
 v222:=Tryz.zeroValue290
 t228:=Tryz.underlying298
 a228:=Tryz.isAgg298
 z228:=Tryz.sizeOf298
 v228:=Tryz.zeroValue298
 t229:=Tryz.underlying48
 a229:=Tryz.isAgg48
 z229:=Tryz.sizeOf48
 v229:=Tryz.zeroValue48
theorem own_putRow {cap:Nat} {Q:List Nat}(h:w.ownsRow base 3 1 (.slice (some g) n cap) n (zac P))(hq:Q.length=n) :
  (Sort.putRow (Value.int .i64) w g 0 (Q.map fun x:Nat=>(x:Int)).toArray).ownsRow base 3 1 (.slice (some g) n cap) n (zac Q):=by
 refine⟨by rw [zde,hq,Nat.mul_one],?_⟩;rcases h.2 with ⟨a,_⟩|⟨q,l,b,a,o,p,i,c,d,j⟩
 ·simp at a
 ·simp only [Value.slice.injEq,Option.some.injEq,Addr.mk.injEq,and_true,true_and] at a;obtain⟨rfl,rfl⟩:=a;refine .inr ⟨g,cap,Sort.putCells (Value.int .i64) 0 (Q.map fun x:Nat=>(x:Int)).toArray b,rfl,o,?_,i,c,by simpa [Sort.putCells] using d,?_⟩
  ·simp [Sort.putRow,Sort.mapBlock,Array.getElem?_modify,p,Sort.onCells]
  ·apply List.ext_getElem?;intro k;rcases fM k n with m|m
   ·rw [List.getElem?_take_of_lt oM,Array.getElem?_toList,Sort.putCells,Array.getElem?_mapIdx,Array.getElem?_eq_getElem oM];have f:k<Q.length:=oM;simp only [iV,zac,eM,dH f];rw [if_pos ⟨eC _,by simpa using f⟩];rw [Nat.sub_zero,getElem!_pos _ k (by simpa using f)];simp
   ·rw [eR (by rw [fL];omega),eR (by rw [zde];omega)]
theorem holds_nats {cap:Nat} (h:w.ownsRow base 3 1 (.slice (some g) n cap) n (zac P)):Sort.Holds (Value.int .i64) w g 0 (P.map fun x:Nat=>(x:Int)).toArray:=by
 intro j hj;have b:=h.1;rw [zde,Nat.mul_one] at b;have a:j<P.length:=by simpa using hj
 refine⟨?_,by rw [eO];exact h.frozenAt j⟩;rw [eO,h.cellAt j oM,getElem!_pos _ j hj];simp [zac,dH a]
def RetSortI (w:World) (base g n cap:Nat) (P:List Nat) (e:Ending) (w':World):Prop:=
 e=.returned (.tuple #[])∧∃ P':List Nat,Hid (P'.Perm P∧P'.Pairwise (fun x y=>x<=y))∧w'.ownsRow base 3 1 (.slice (some g) n cap) n (zac P')∧Frm (fun k=>k=g) w w'
theorem sort_int {cap:Nat} (h:w.ownsRow base 3 1 (.slice (some g) n cap) n (zac P))(hn4:n<=1048576) :
  Calls Tryz.prog 69 #[.slice (some g) n cap] w (RetSortI w base g n cap P):=by
 have o:P.length=n:=by have:=h.1;rw [zde] at this;omega
 have f:=(h.lt g rfl).2;have d:=Any.slices_Sort_int sortInt g 0 cap (P.map fun x:Nat=>(x:Int)) w (holds_nats h) f (by rw [eT];omega);rw [eT,o] at d;change Calls Tryz.prog 69 _ _ _ at d;refine d.mono ?_;rintro e s ⟨rfl,m,p,rfl⟩;have l:((P.map fun x:Nat=>(x:Int)).mergeSort fun x y=>decide (x<=y))=(P.mergeSort fun x y=>decide (x<=y)).map fun x:Nat=>(x:Int):=by
  rw [List.map_mergeSort];intro a _ b _;simp
 rw [l];have i:Ext w (Sort.ahead w m):=⟨rfl,rfl,rfl,dI _,fun _ _ _=>rfl⟩;have q:=own_putRow (zh h i) (Q:=P.mergeSort fun x y=>decide (x<=y)) (by rw [List.length_mergeSort];exact o);have r:Frm (fun k=>k=g) (Sort.ahead w m) (Sort.putRow (Value.int .i64) (Sort.ahead w m) g 0 ((P.mergeSort fun x y=>decide (x<=y)).map fun x:Nat=>(x:Int)).toArray):=
  ⟨rfl,rfl,rfl,sM,fun k hk hne=>by
   simp only [Sort.putRow,Sort.mapBlock,Array.getElem?_modify];rw [if_neg (fun e=>hne e.symm)]⟩
 generalize Sort.putRow (Value.int .i64) (Sort.ahead w m) g 0 ((P.mergeSort fun x y=>decide (x<=y)).map fun x:Nat=>(x:Int)).toArray=j at *;have hx:Ext j (Sort.grow j p):=⟨rfl,rfl,rfl,by simp [Sort.grow],fun k hk _=>by
  show (j.heap++p)[k]?=j.heap[k]?;rw [Array.getElem?_append_left hk]⟩
 refine⟨rfl,_,za ⟨List.mergeSort_perm _ _,?_⟩,zh q hx,((i.ak).trans r).ext hx⟩;have:=List.pairwise_mergeSort (le:=fun x y:Nat=>decide (x<=y)) (fun a b c h1 h2=>by simp at *;omega) (fun a b=>by simp;omega) P;exact this.imp (fun h=>by simpa using h)
end
section
open Go.Lib
instance:Inhabited Edg:=⟨⟨0,0,0⟩⟩
instance:DecidableEq Edg:=fun a b=>decidable_of_iff (a.fr=b.fr∧a.le=b.le∧a.ta=b.ta) (by cases a;cases b;simp)
theorem zjp {d:Array Edg} (h:k<d.size):d.toList[k]?=some d[k]!:=by
 rw [Array.getElem?_toList,Array.getElem?_eq_getElem h,getElem!_pos d k h]
theorem zgI (w:World) (g:Nat):∀ (o:Nat) (vs:List Value),Frm (fun b=>b=g) w (w.setCells g o vs)
 |_,[]=>Frm.refl _ _
 |o,v :: r=>(eB w g o v).trans (zgI (w.setCell ⟨g,o,none⟩ v) g (o+1) r)
end
def zfn (w w':World):Prop:=∃ q os,w'=Sort.grow (w.drewN q) os
theorem zfn.refl (w:World):zfn w w:=⟨0,#[],by simp [Sort.grow,World.drewN]⟩
theorem zfn.drew (h:zfn a w):zfn a w.drew:=by
 obtain⟨q,b,rfl⟩:=h;exact⟨q+1,b,rfl⟩
theorem zfn.alloc (h:zfn a w) (o:Obj):zfn a (w.alloc o):=by
 obtain⟨q,b,rfl⟩:=h;exact⟨q,b++#[o],by rw [Sort.alloc_eq_grow,Sort.grow_grow]⟩
theorem zfn.trans {b c:World}(h:zfn a b) (k:zfn b c):zfn a c:=by
 obtain⟨q,f,rfl⟩:=h;obtain⟨g,d,rfl⟩:=k;exact⟨q+g,f++d,by simp [Sort.grow,World.drewN,Nat.add_assoc]⟩
theorem zfn.av {b:World}(h:zfn a b):Ext a b:=by
 obtain⟨q,c,rfl⟩:=h;refine⟨rfl,rfl,rfl,by simp [Sort.grow,World.drewN],fun k hk _=>?_⟩;show (a.heap++c)[k]?=a.heap[k]?;rw [Array.getElem?_append_left hk]
theorem zis {a b:Edg}  :
  Calls Tryz.prog 71 #[.agg #[a.fr,a.le,a.ta],.agg #[b.fr,b.le,b.ta]] w fun e w'=>e=.returned (.int .i64 (cmpE a b))∧zfn w w':=by
 go_enter Tryz.func71,Tryz.ntmps71
 go_wp2_with fail
 obtain⟨W,c⟩:∃ W:World,W=(w.alloc (.cells #[Value.int .i64 a.fr,a.le,a.ta] 117)).alloc (.cells #[Value.int .i64 b.fr,b.le,b.ta] 117):=⟨_,rfl⟩;have hx:zfn w W:=by rw [c];exact ((zfn.refl _).alloc _).alloc _
 have d:=zJ (show Ext ((w.alloc (.cells #[Value.int .i64 a.fr,a.le,a.ta] 117)).alloc (.cells #[Value.int .i64 b.fr,b.le,b.ta] 117)) W by rw [c];exact dE _);have f:∀ X,zfn W X->∀ j,X.cell? ⟨w.heap.size,j,none⟩=#[Value.int .i64 a.fr,.int .i64 a.le,.int .i64 a.ta][j]?:=fun X hX=>(d.1.ext hX.av).cell;have g:∀ X,zfn W X->∀ j,X.cell? ⟨w.heap.size+1,j,none⟩=#[Value.int .i64 b.fr,.int .i64 b.le,.int .i64 b.ta][j]?:=fun X hX=>(d.2.ext hX.av).cell;rw [← c];have h:=zfn.refl W;clear c d
 go_region_held3 (fun X=>zfn W X) (first|assumption|(refine zfn.drew ?_;assumption)|(refine zfn.alloc ?_ _;assumption)|(refine zfn.drew ?_;refine zfn.alloc ?_ _;assumption)|(refine zfn.trans ?_ aM;assumption)) (first|(go_at_call 160;refine (zhv _ _ _).mono ?_;rintro e w' ⟨rfl,rfl⟩)|(go_at_call 159;refine (cmp_Or (reads_lit 3 [zio a.fr b.fr,zio a.le b.le,zio a.ta b.ta] rfl rfl oM ((dE _).drew))).mono ?_;rintro e w' ⟨rfl,rfl⟩))
 all_goals (go_wp2_with fail;go_ret;exact⟨rfl,hx.trans (by first|assumption|(refine zfn.drew ?_;assumption)|(refine zfn.alloc ?_ _;assumption)|(refine zfn.drew ?_;refine zfn.alloc ?_ _;assumption))⟩)
section
open Go.Lib
def encE (e:Edg):List Value:=[.int .i64 e.fr,.int .i64 e.le,.int .i64 e.ta]
theorem zhA (d:Array Edg):Sort.flatK encE 3 d=(zn d.toList).toArray:=by
 apply Array.ext
 ·rw [Sort.size_flatK];simp [zL]
 ·intro i h1 h2;rw [Sort.size_flatK] at h1;have b:=Sort.get_flatK encE 3 d i h1;rw [getElem!_pos _ i (by rw [Sort.size_flatK];exact h1)] at b;rw [b];have f:i / 3<d.size:=oM;have a:=zcc (zjp f);generalize d[i / 3]! = e at *;have c:i % 3=0∨i % 3=1∨i % 3=2:=oM;have hx:∀ u,(zn d.toList)[i]?=some u->(zn d.toList).toArray[i]=u:=fun u hu=>by
   have:=(List.getElem?_eq_some_iff.1 hu).2;simpa using this
  rcases c with h|h|h
  ·rw [h,hx _ (by rw [show i=i / 3*3 by omega] ;exact a.1)];rfl
  ·rw [h,hx _ (by rw [show i=i / 3*3+1 by omega] ;exact a.2.1)];rfl
  ·rw [h,hx _ (by rw [show i=i / 3*3+2 by omega] ;exact a.2.2)];rfl
theorem ziP {cap:Nat} (h:w.ownsRow base 117 3 (.slice (some g) n cap) n (zn es)):Sort.HoldsK encE 3 w g 0 es.toArray:=by
 intro j hj;rw [zhA] at hj ⊢;have b:=h.1;have a:j<(zn es).length:=by simpa using hj
 refine⟨?_,by rw [eO];exact h.frozenAt j⟩;rw [eO,h.cellAt j oM,getElem!_pos _ j hj];simp [dH a]
theorem zgH {cap:Nat}  :∀ (vs xs:List Value) (o:Nat) (w:World),o+vs.length<=xs.length->w.ownsRow base e size (.slice (some g) n cap) n xs->(w.setCells g o vs).ownsRow base e size (.slice (some g) n cap) n (xs.take o++vs++xs.drop (o+vs.length))
 |[],xs,o,w,_,h=>by simpa [World.setCells] using h
 |v :: r,xs,o,w,hl,h=>by
  have h1:=(h.stored o v).1;have:=zgH r (xs.set o v) (o+1) (w.setCell ⟨g,o,none⟩ v) (by simp at hl ⊢;omega) h1;have e:(xs.set o v).take (o+1)++r++(xs.set o v).drop (o+1+r.length)=xs.take o++(v :: r)++xs.drop (o+(v :: r).length):=by
   simp only [gJ] at hl ⊢;rw [eG,fP oM,List.take_set_of_le oM,List.drop_set_of_lt oM,show o+1+r.length=o+(r.length+1) by omega];simp
  rw [e] at this;exact this
theorem zgJ:∀ (vs:List Value) (o:Nat) (xs:List Value),o+vs.length<=xs.length->Sort.setMany xs.toArray o vs=(xs.take o++vs++xs.drop (o+vs.length)).toArray
 |[],o,xs,_=>by simp [Sort.setMany]
 |v :: r,o,xs,hl=>by
  have:=zgJ r (o+1) (xs.set o v) (by simp at hl ⊢;omega);have e:(xs.set o v).take (o+1)++r++(xs.set o v).drop (o+1+r.length)=xs.take o++(v :: r)++xs.drop (o+(v :: r).length):=by
   simp only [gJ] at hl ⊢;rw [eG,fP oM,List.take_set_of_le oM,List.drop_set_of_lt oM,show o+1+r.length=o+(r.length+1) by omega];simp
  rw [e] at this;simpa [Sort.setMany] using this
theorem setMany_all (vs xs:List Value)(hl:vs.length=xs.length):Sort.setMany xs.toArray 0 vs=vs.toArray:=by
 rw [zgJ vs 0 xs oM,List.take_zero,e9,eO,gW oM,gS]
theorem own_sorted {cap:Nat} {es':List Edg} {os:Array Obj}(h:w.ownsRow base 117 3 (.slice (some g) n cap) n (zn es))(hl:es'.length=es.length) :
  (Go.Proofs.sortWorldK encE 3 w g 0 m es'.toArray os).ownsRow base 117 3 (.slice (some g) n cap) n (zn es')∧Frm (fun k=>k=g) w (Go.Proofs.sortWorldK encE 3 w g 0 m es'.toArray os):=by
 have a:Ext w (Sort.ahead w m):=⟨rfl,rfl,rfl,dI _,fun _ _ _=>rfl⟩;have d:=zh h a;have j:=ziP d;have o:Sort.putRowK encE 3 (Sort.ahead w m) g 0 es'.toArray=(Sort.ahead w m).setCells g 0 (zn es'):=by
  have i:=Sort.putRow_self id (Sort.ahead w m) g 0 (Sort.flatK encE 3 es.toArray) j;have c:=Sort.setCells_putRow (Sort.ahead w m) g 0 (zn es') 0 (Sort.flatK encE 3 es.toArray) (by rw [Sort.size_flatK,zL];simp [hl]);rw [i] at c;rw [Nat.add_zero] at c;rw [c];unfold Sort.putRowK
  congr 1
  rw [zhA,zhA];exact (setMany_all _ _ (by simp [zL,hl])).symm
 have f:=zgH (zn es') (zn es) 0 (Sort.ahead w m) (by rw [zL,zL];omega) d;rw [List.take_zero,e9,eO,gW (by rw [zL,zL];omega),gS] at f;have l:=zgI (Sort.ahead w m) g 0 (zn es');unfold Go.Proofs.sortWorldK;rw [o];generalize (Sort.ahead w m).setCells g 0 (zn es')=b at *;have hx:Ext b (Sort.grow b os):=(show zfn b (Sort.grow b os) from ⟨0,os,rfl⟩).av;exact⟨zh f hx,((a.ak).trans l).ext hx⟩
end
section
open Go.Lib Go.Shelf
def sortEdge_ren:Go.Shelf.Ren:=⟨fun|6=>70|15=>157|14=>158|28=>239|29=>240|20=>241|21=>242|22=>243|23=>244|24=>245|25=>246|26=>247|27=>248|46=>288|47=>284|48=>285|49=>289|50=>290|57=>300|n=>n,fun|22=>36|24=>117|25=>119|3=>3|39=>194|0=>0|53=>257|55=>259|4=>4|46=>252|45=>251|50=>114|5=>5|9=>9|66=>286|70=>290|76=>298|77=>48|n=>n,fun|n=>n⟩
theorem sortEdge:Go.Proofs.SlLaysF0.n6 Tryz.prog sortEdge_ren where
 mixed:=kM
 f6 := ⟨ "slices.SortFunc[[]loop.example/assumeguarantee/impl.Edge,loop.example/assumeguarantee/impl.Edge]", by decide, Tryz.func70.trans (congrArg some (by kernel_rfl))⟩
 f14 := ⟨ "slices.pdqsortCmpFunc[loop.example/assumeguarantee/impl.Edge]", by decide, Tryz.func158.trans (congrArg some (by kernel_rfl))⟩
 f15:=Tryz.func157.trans (congrArg some kM)
 f20 := ⟨ "slices.insertionSortCmpFunc[loop.example/assumeguarantee/impl.Edge]", by decide, Tryz.func241.trans (congrArg some (by kernel_rfl))⟩
 f21 := ⟨ "slices.heapSortCmpFunc[loop.example/assumeguarantee/impl.Edge]", by decide, Tryz.func242.trans (congrArg some (by kernel_rfl))⟩
 f22 := ⟨ "slices.breakPatternsCmpFunc[loop.example/assumeguarantee/impl.Edge]", by decide, Tryz.func243.trans (congrArg some (by kernel_rfl))⟩
 f23 := ⟨ "slices.choosePivotCmpFunc[loop.example/assumeguarantee/impl.Edge]", by decide, Tryz.func244.trans (congrArg some (by kernel_rfl))⟩
 f24 := ⟨ "slices.reverseRangeCmpFunc[loop.example/assumeguarantee/impl.Edge]", by decide, Tryz.func245.trans (congrArg some (by kernel_rfl))⟩
 f25 := ⟨ "slices.partialInsertionSortCmpFunc[loop.example/assumeguarantee/impl.Edge]", by decide, Tryz.func246.trans (congrArg some (by kernel_rfl))⟩
 f26 := ⟨ "slices.partitionEqualCmpFunc[loop.example/assumeguarantee/impl.Edge]", by decide, Tryz.func247.trans (congrArg some (by kernel_rfl))⟩
 f27 := ⟨ "slices.partitionCmpFunc[loop.example/assumeguarantee/impl.Edge]", by decide, Tryz.func248.trans (congrArg some (by kernel_rfl))⟩
 f28:=Tryz.func239.trans (congrArg some kM)
 f29:=Tryz.func240.trans (congrArg some kM)
 f46 := ⟨ "slices.siftDownCmpFunc[loop.example/assumeguarantee/impl.Edge]", by decide, Tryz.func288.trans (congrArg some (by kernel_rfl))⟩
 f47:=Tryz.func284.trans (congrArg some kM)
 f48:=Tryz.func285.trans (congrArg some kM)
 f49 := ⟨ "slices.medianAdjacentCmpFunc[loop.example/assumeguarantee/impl.Edge]", by decide, Tryz.func289.trans (congrArg some (by kernel_rfl))⟩
 f50 := ⟨ "slices.medianCmpFunc[loop.example/assumeguarantee/impl.Edge]", by decide, Tryz.func290.trans (congrArg some (by kernel_rfl))⟩
 f57 := ⟨ "slices.order2CmpFunc[loop.example/assumeguarantee/impl.Edge]", by decide, Tryz.func300.trans (congrArg some (by kernel_rfl))⟩
 t0:=Tryz.underlying0
 a0:=Tryz.isAgg0
 z0:=Tryz.sizeOf0
 v0:=Tryz.zeroValue0
 t3:=Tryz.underlying3
 a3:=Tryz.isAgg3
 z3:=Tryz.sizeOf3
 v3:=Tryz.zeroValue3
 t4:=Tryz.underlying4
 a4:=Tryz.isAgg4
 z4:=Tryz.sizeOf4
 v4:=Tryz.zeroValue4
 t5:=Tryz.underlying5
 a5:=Tryz.isAgg5
 z5:=Tryz.sizeOf5
 v5:=Tryz.zeroValue5
 t9:=Tryz.underlying9
 a9:=Tryz.isAgg9
 z9:=Tryz.sizeOf9
 v9:=Tryz.zeroValue9
 t22:=Tryz.underlying36
 a22:=Tryz.isAgg36
 z22:=Tryz.sizeOf36
 v22:=Tryz.zeroValue36
 t25:=Tryz.underlying119
 a25:=Tryz.isAgg119
 z25:=Tryz.sizeOf119
 v25:=Tryz.zeroValue119
 t39:=Tryz.underlying194
 a39:=Tryz.isAgg194
 z39:=Tryz.sizeOf194
 v39:=Tryz.zeroValue194
 t45:=Tryz.underlying251
 a45:=Tryz.isAgg251
 z45:=Tryz.sizeOf251
 v45:=Tryz.zeroValue251
 t46:=Tryz.underlying252
 a46:=Tryz.isAgg252
 z46:=Tryz.sizeOf252
 v46:=Tryz.zeroValue252
 t50:=Tryz.underlying114
 a50:=Tryz.isAgg114
 z50:=Tryz.sizeOf114
 v50:=Tryz.zeroValue114
 t53:=Tryz.underlying257
 a53:=Tryz.isAgg257
 z53:=Tryz.sizeOf257
 v53:=Tryz.zeroValue257
 t55:=Tryz.underlying259
 a55:=Tryz.isAgg259
 z55:=Tryz.sizeOf259
 v55:=Tryz.zeroValue259
 t66:=Tryz.underlying286
 a66:=Tryz.isAgg286
 z66:=Tryz.sizeOf286
 v66:=Tryz.zeroValue286
 t70:=Tryz.underlying290
 a70:=Tryz.isAgg290
 z70:=Tryz.sizeOf290
 v70:=Tryz.zeroValue290
 t76:=Tryz.underlying298
 a76:=Tryz.isAgg298
 z76:=Tryz.sizeOf298
 v76:=Tryz.zeroValue298
 t77:=Tryz.underlying48
 a77:=Tryz.isAgg48
 z77:=Tryz.sizeOf48
 v77:=Tryz.zeroValue48
theorem zjG (x y:Edg):ltOf cmpE x y=ltE x y:=by
 unfold ltOf;have:=cmpE_lt x y;cases h:ltE x y
 ·exact decide_eq_false (fun hc=>by rw [this.1 hc] at h;cases h)
 ·exact decide_eq_true (this.2 h)
theorem swoE:Sort.SWO (ltOf cmpE) where
 irrefl x:=by
  rw [zjG];cases h:ltE x x
  ·rfl
  ·exact absurd h ltE_irr
 trans x y z h1 h2:=by
  rw [zjG] at *;exact zhK h1 h2
 ntrans x y z h1 h2:=by
  rw [zjG] at *;cases h:ltE x z
  ·rfl
  ·rcases ltE_tri x y with a|a|a
   ·rw [a] at h1;cases h1
   ·subst a;rw [h] at h2;cases h2
   ·have:=zhK a h;rw [this] at h2;cases h2
def RetSort (w:World) (base g n cap:Nat) (es:List Edg) (e:Ending) (w':World):Prop:=
 e=.returned (.tuple #[])∧∃ es',Hid (es'.length=es.length∧Srt es'∧(∀ x,x∈es'↔x∈es)∧es'.Perm es)∧w'.ownsRow base 117 3 (.slice (some g) n cap) n (zn es')∧Frm (fun k=>k=g) w w'
theorem sort_any {cap:Nat} (h:w.ownsRow base 117 3 (.slice (some g) n cap) n (zn es))(hn4:n<=1048576) :
  Calls Tryz.prog 70 #[.slice (some g) n cap,.func (.func 71) #[] #[]] w (RetSort w base g n cap es):=by
 have s:es.length=n:=by have:=h.1;rw [zL] at this;omega
 have E:∀ args w,(callFunc 71 args).run Tryz.prog w=.ok (.enter 71 args) w:=enters_of Tryz.func71 kM rfl;have o:=(h.lt g rfl).2;have p:CmpLays Tryz.prog 71 #[] encE 3 cmpE g 0 es.toArray.size w:=fun _ _ _ _ x y=>zis;have b:=AnyQ.slices_SortFunc sortEdge 3 Tryz.isAgg117 Tryz.sizeOf117 encE (fun _=>rfl) (fun x v hv=>by simp [encE] at hv;rcases hv with rfl|rfl|rfl<;>rfl) cmpE swoE 71 #[] g 0 cap es.toArray w E p (ziP h) o (by simp;omega)
 change Calls Tryz.prog 70 _ _ _ at b;rw [show es.toArray.size=n by simpa using s] at b;refine b.mono ?_;rintro e H ⟨rfl,c,m,os,z,G,rfl⟩;have f:c.size=n:=by rw [z.1];simpa using s
 obtain⟨C,D⟩:=own_sorted (m:=m) (es':=c.toList) (os:=os) h (by simp;omega);rw [Array.toArray_toList] at C D;refine⟨rfl,c.toList,(show Hid _ from ⟨by simp;omega,fun i j x y hx hy hij=>?_,fun x=>?_,?_⟩),C,D⟩
 ·have F:j<n:=by rw [← f];simpa using (List.getElem?_eq_some_iff.1 hy).1
  have B:=G i j (eC _) hij F;have q:=zjp (d:=c) (k:=i) oM;have r:=zjp (d:=c) (k:=j) oM;rw [hx] at q;rw [hy] at r;rw [← Option.some.inj q,← Option.some.inj r,zjG] at B;rw [B];decide
 ·have l:=z.2.2.mem_iff (a:=x);have t:(c.extract 0 n).toList=c.toList:=by rw [← f];simp
  have u:(es.toArray.extract 0 n).toList=es:=by rw [← s];simp
  rw [t,u] at l;exact l
 ·have l:=z.2.2;have t:(c.extract 0 n).toList=c.toList:=by rw [← f];simp
  have u:(es.toArray.extract 0 n).toList=es:=by rw [← s];simp
  rw [t,u] at l;exact l
theorem sort_none (w:World):Calls Tryz.prog 70 #[(),.func (.func 71) #[] #[]] w fun e w'=>e=.returned (.tuple #[])∧w=w':=by
 have a:=AnyF.slices_SortFunc_none sortEdge none 0 (.func (.func 71) #[] #[]) w;change Calls Tryz.prog 70 _ _ _ at a;exact a.mono fun e w' ⟨h1,h2⟩=>⟨h1,h2.symm⟩
end
section
open Go.Maps
theorem keyedI:Keyed Tryz.prog 3:=int_keyed Tryz.underlying3
theorem zeroI (w:World):(zeroValue 3).run Tryz.prog w=.ok (.int .i64 0) w:=kM
theorem wfI (h:x<1152921504606846976):(Lit.int .i64 (x:Int)).wf=true:=WalkArith.wf_i64 oM
def ziF (w:World) (b n:Nat) (M:Nat->Option Nat):Prop:=
 ∃ D:DataW Unit,w.ownsMap Tryz.prog 3 (plainElem Tryz.prog 3) b n D∧∀ x:Nat,x<1152921504606846976->Maps.has D (.int .i64 (x:Int))=(M x).isSome∧∀ v,M x=some v->D.atKey (.int .i64 (x:Int)) (.lit (.int .i64 0))=.lit (.int .i64 (v:Int))
def updI (M:Nat->Option Nat) (x v:Nat):Nat->Option Nat:=fun y=>if y=x then some v else M y
theorem ziF.made (w:World):ziF (w.alloc (.map #[] 0)) w.heap.size 0 (fun _=>none):=
 ⟨.map [],World.ownsMap_made _ _ _ _,fun x hx=>⟨rfl,fun v hv=>by cases hv⟩⟩
theorem ziF.frm {S:Nat->Prop}   {M:Nat->Option Nat}(h:ziF w b n M)(hf:Frm S w w')(hS:¬ S b):ziF w' b n M:=by
 obtain⟨D,⟨d,a,c,r⟩,hx⟩:=h;exact⟨D,⟨d,a,(hf.block b (Array.getElem?_eq_some_iff.1 c).1 hS).trans c,r⟩,hx⟩
theorem ziF.ext {M:Nat->Option Nat}(h:ziF w b n M)(hx:Ext w w'):ziF w' b n M:=h.frm hx id
theorem ziF.far {M:Nat->Option Nat}(h:ziF w b n M)   (hg:Blk w g t cs):g≠b:=by
 rintro rfl;obtain⟨D,⟨d,c,a,_⟩,_⟩:=h;unfold Blk at hg;rw [hg] at a;injection a with a
 cases a
theorem ziF.aj {M:Nat->Option Nat}(h:ziF w b n M)     {xs:List Value}(ho:w.ownsRow base e size v k xs):v.ownBlock≠some b:=by
 intro hv;obtain⟨D,⟨l,c,a,_⟩,_⟩:=h;rcases ho.2 with ⟨rfl,_⟩|⟨g,d,f,rfl,_,j,_⟩
 ·simp [Value.ownBlock] at hv
 ·have i:g=b:=by simpa [Value.ownBlock] using hv
  subst i;rw [j] at a;injection a with a
  cases a
theorem lit_ne {y:Nat}(h:x≠y):Lit.int .i64 (x:Int)≠Lit.int .i64 (y:Int):=by
 intro e;injection e with _ e
 omega
section
variable (w:World) {ops:Array Oper} {rest:List Oper} {o:Oper} {a:Act} {Q:Exit->Act->World->Prop}
theorem zeo (hg:o.guard=none) (m x v:Operand)(hop:o.op=Op.mapUpdate 112 m x v∨o.op=Op.insert 112 m x v)  {M:Nat->Option Nat}
  (hm:a.eval m=.map (some b)) (h:ziF w b n M) (hn:n<1152921504606846976) (key val:Nat) (hx:a.eval x=.int .i64 (key:Int)) (hv:a.eval v=.int .i64 (val:Int)) (hk:key<1152921504606846976) (hv9:val<1152921504606846976)
  (hK:∀ w',ziF w' b (n+1) (updI M key val)->w.grownBy w' (some b)->wpList Tryz.prog ops Q rest (a.put o.dst undef) w'):wpList Tryz.prog ops Q (o :: rest) a w:=by
 refine wpList_plain hg fun K' hK'=>?_;obtain⟨D,c,i⟩:=h;have d:=keyOf_int_mk Tryz.underlying3 (wfI hk);obtain⟨w',g,j,k⟩:=c.update keyedI Tryz.underlying112 lM d (plainElem_int (H:=Unit) Tryz.underlying3 (wfI hv9));have f:ziF w' b (n+1) (updI M key val):=⟨_,j,fun y hy=>by
  unfold updI
  by_cases e:y=key
  ·subst e;rw [if_pos rfl];exact⟨has_put_same c.isMap (by trivial) _,fun u hu=>by rw [atKey_put_same c.isMap (by trivial)];cases hu;rfl⟩
  ·rw [if_neg e,has_put_other (lit_ne e),atKey_put_other (lit_ne e)];exact i y hy⟩
 unfold Oper.wp;rcases hop with hop|hop
 all_goals
  simp [execOp,hop,hm,hx,hv,g,Result.andThen];exact hK' _ _ (hK w' f k)
theorem zeR (hg:o.guard=none) (m x:Operand)(hop:o.op=Op.lookup 112 m x true)  {M:Nat->Option Nat}
  (hm:a.eval m=.map (some b)) (h:ziF w b n M) (key:Nat) (hx:a.eval x=.int .i64 (key:Int)) (hk:key<1152921504606846976)
  (hK:∀ c:Int,wpList Tryz.prog ops Q rest (a.put o.dst (.tuple #[c,.bool (M key).isSome])) w):wpList Tryz.prog ops Q (o :: rest) a w:=by
 obtain⟨D,d,f⟩:=h;refine wpList_lookup_own_ok_int w hg m x _ hop 3 3 .i64 keyedI Tryz.underlying112 Tryz.underlying3 (zeroI w) b n D hm d _ _ hx (keyOf_int_mk Tryz.underlying3 (wfI hk)) ?_;intro c _ _;rw [(f key hk).1];exact hK c
theorem wpList_mapAt (hg:o.guard=none) (m x:Operand)(hop:o.op=Op.lookup 112 m x false)  {M:Nat->Option Nat}
  (hm:a.eval m=.map (some b)) (h:ziF w b n M) (key val:Nat) (hx:a.eval x=.int .i64 (key:Int)) (hk:key<1152921504606846976) (hM:M key=some val)
  (hK:wpList Tryz.prog ops Q rest (a.put o.dst (.int .i64 (val:Int))) w):wpList Tryz.prog ops Q (o :: rest) a w:=by
 obtain⟨D,d,f⟩:=h;refine wpList_lookup_own_int w hg m x _ hop 3 3 .i64 keyedI Tryz.underlying112 Tryz.underlying3 (zeroI w) b n D hm d _ _ hx (keyOf_int_mk Tryz.underlying3 (wfI hk)) ?_;intro c hat _;have:=(f key hk).2 val hM;rw [this] at hat;injection hat with hat
 injection hat with _ hat
 rw [← hat];exact hK
end
end
theorem next_nil {M:Option Addr}  (h:PtAt w lo hi A k lo' hi' M ss)(hs:∀ s∈ss,Sml s)(hk4:k<=4)(hm:m<=4611686018427387904)(hl:l<6)(hT:Tab w) :
  Calls Tryz.prog 68 #[.agg #[.slice A k c,.slice M k d],m,l,()] w (zbI w (nx ss m l).1):=by
 refine (impl_next h hs hk4 hm hl hT (World.ownsRow_nil w w.heap.size _ _) (dI _) oM).mono ?_;rintro e n ⟨j,rfl,a,i,_⟩;simp only [List.length_nil,eO,e9] at a;obtain⟨f,g,rfl⟩:=zi a;exact⟨f,g,rfl,a,i.mono (fun b _ hb=>by simp [Value.ownBlock] at hb)⟩
theorem zdG.two {L:Nat}  (hs:zV w lo hi A n s)(hu:zV w lo' hi' B m u)
  (hL:Blk w L 38 #[s.al,s.st,.slice A n c,u.al,u.st,.slice B m d]):zdG w 0 (hi+hi'+w.heap.size) (some ⟨L,0,none⟩) 2 [s,u]:=by
 refine⟨rfl,[.int .i64 s.al,.int .i64 s.st,.slice A n c,.int .i64 u.al,.int .i64 u.st,.slice B m d],⟨rfl,oM,fun _=>⟨⟨L,0,none⟩,rfl,eC _,by have:=hL.lt;show L<_;omega,fun j x hx=>?_⟩⟩,fun k x hx=>?_⟩
 ·rw [zT,eO,hL.cell];simpa using hx
 ·match k with
  |0=>simp at hx;subst hx;exact⟨A,n,c,rfl,rfl,rfl,hs.more (eC _) oM⟩
  |1=>simp at hx;subst hx;exact⟨B,m,d,rfl,rfl,rfl,hu.more (eC _) oM⟩
  |k+2=>simp at hx
theorem PtAt.two {L lo2 hi2:Nat} {M:Option Addr} {bs:List Nat} (hs:zV w lo hi A n s)(hu:zV w lo' hi' B m u)
  (hL:Blk w L 38 #[s.al,s.st,.slice A n c,u.al,u.st,.slice B m d]) (hM:Reads w lo2 hi2 1 M 2 (ptrs bs)) (hmv:MovL w bs [s,u]) :
  PtAt w 0 (hi+hi'+w.heap.size) (some ⟨L,0,none⟩) 2 lo2 hi2 M [s,u]:=by
 exact⟨zdG.two hs hu hL,bs,hM,hmv⟩
theorem zhz (W:World) (Z:Nat) (u0 u1 u2:Value):Frm (fun k=>k=Z) W (((W.setCell Z u0).setCell ⟨Z,1,none⟩ u1).setCell ⟨Z,2,none⟩ u2):=
 ((eB W Z 0 u0).trans (eB _ Z 1 u1)).trans (eB _ Z 2 u2)
theorem zhy (h:Blk w Z t cs)(hc:cs.size=3) (u0 u1 u2:Value):Blk (((w.setCell Z u0).setCell ⟨Z,1,none⟩ u1).setCell ⟨Z,2,none⟩ u2) Z t #[u0,u1,u2]:=by
 obtain⟨l⟩:=cs
 match l,hc with
 |[a,b,c],_=>simpa using ((h.ab 0 u0).ab 1 u1).ab 2 u2
structure InvP (N:Nat) (P:List Nat):Prop where
 zero:P[0]?=some 0
 nodup:P.Nodup
 lt:∀ m∈P,m<N
 len:P.length<=16
theorem InvP.push (h:InvP N P)(hn:n∉P)(hN:n<N)(hl:P.length≠16):InvP N (P++[n]):=by
 refine⟨?_,?_,fun m hm=>?_,?_⟩
 ·rw [eH (List.getElem?_eq_some_iff.1 h.zero).1];exact h.zero
 ·rw [List.nodup_append];exact⟨h.nodup,sM,fun a ha b hb=>by
   rw [List.mem_singleton.1 hb];rintro rfl;exact hn ha⟩
 ·rcases List.mem_append.1 hm with c|c
  ·exact h.lt m c
  ·rw [List.mem_singleton.1 c];exact hN
 ·have:=h.len;rw [eK,List.length_singleton];omega
def CLd (s u:Sys) (Ls P:List Nat) (i:Nat):Prop:=∀ a,a<i->∀ m,P[a]?=some m->∀ l∈Ls,∀ n∈nxt s u m l,n∈P
theorem CLd.push {Ls:List Nat} (h:CLd s u Ls P i)(hi:i<=P.length):CLd s u Ls (P++[n]) i:=fun a ha m hm l hl k hk =>
 List.mem_append_left _ (h a ha m (by rwa [eH oM] at hm) l hl k hk)
def StP (w8 wr:World) (MB:Nat) (pv:Value) (P:List Nat):Prop:=
 wr.ownsRow w8.heap.size 3 1 pv P.length (zac P)∧(∃ Mf,ziF wr MB P.length Mf∧∀ x,x<1152921504606846976->((Mf x).isSome=true↔x∈P))∧Ext w8 wr
theorem StP.ext {w8 wr wr':World} {MB:Nat} {pv:Value} (h:StP w8 wr MB pv P)(hx:Ext wr wr'):StP w8 wr' MB pv P:=by
 obtain⟨b,⟨a,c,d⟩,f⟩:=h;exact⟨zh b hx,⟨a,c.ext hx,d⟩,f.trans hx⟩
def RetComp (w:World) (s u:Sys) (e:Ending) (w':World):Prop:=
 (e=.returned (.tuple #[.agg #[(0:Int),(0:Int),()],.bool false])∧Ext w w') ∨
 ∃ (x:Sys) (A:Option Addr) (n c:Nat),e=.returned (.tuple #[.agg #[x.al,x.st,.slice A n c],.bool true])∧Hid (zfC s u u.st.toNat x)∧zV w' w.heap.size w'.heap.size A n x∧Ext w w'
theorem impl_ComposeSystems {hi:Nat}   (h:zV w lo hi A n s)(h':zV w lo' hi' B m u)(hT:Tab w)(hvs:zk s=true)(hvu:zk u=true) :
  Calls Tryz.prog 19 #[.agg #[s.al,s.st,.slice A n c],.agg #[u.al,u.st,.slice B m d]] w (RetComp w s u):=by
 have HS:=za (fun W (hW:Ext w W)=>h.ext hW);have HU:=za (fun W (hW:Ext w W)=>h'.ext hW);have HT:=za (fun W (hW:Ext w W)=>hT.ext hW);have c2:=za hvs;have c3:=za hvu;have Y:=za (zeI hvs);have Z:=za (zeI hvu);clear h h' hT hvs hvu;obtain⟨a,ha⟩:∃ a:Nat,Hid (s.al=a):=⟨s.al.toNat,za (oH Y.out.2.2.2)⟩;obtain⟨b,V⟩:∃ b:Nat,Hid (u.al=b):=⟨u.al.toNat,za (oH Z.out.2.2.2)⟩;have dA:Sm a:=by have:=Y.out.2.2.2;have:=ha.out;unfold Sm;omega
 have dB:Sm b:=by have:=Z.out.2.2.2;have:=V.out;unfold Sm;omega
 obtain⟨al,be⟩:∃ al:Nat,Hid (s.al.toNat|||u.al.toNat=al):=⟨_,za rfl⟩;have dy:=za (show bits .or .i64 s.al u.al=(al:Int) by
  have t:=zbb dA dB;rw [← ha.out,← V.out] at t;rw [t,← be.out,show s.al.toNat=a by have:=ha.out;omega,show u.al.toNat=b by have:=V.out;omega])
 have dS:al<64:=by
  rw [← be.out];exact e7 (n:=6) (oH Y.out.2.2.2) (oH Z.out.2.2.2)
 have dC:Sm al:=tM;have cx:=za (show ∀ x∈[s,u],Few 16 x.edges from fun x hx e he=>by
  have cI:Sml x:=by simp at hx;rcases hx with rfl|rfl;exact Y.out;exact Z.out
  have:=cI.2.2.1 e he;have:=cI.2.1;omega)
 have d6:=@run_makeMap Tryz.prog
 go_enter Tryz.func19,Tryz.ntmps19
 go_upto_region 1 with fail
 generalize U0:((w.alloc _).alloc _).alloc _=w2 at *;obtain⟨E,b1,b2,bz⟩:=Ext.x3_ U0;have k1:=b1.cell;have k2:=b2.cell;clear U0;go_wp2_with fail
 refine (zaE (HS.out _ E)).mono ?_;rw [c2.out];rintro e w3 ⟨rfl,a1⟩;replace b1:=b1.ext a1;replace b2:=b2.ext a1;replace bz:=bz.ext a1;replace E:=E.trans a1;clear k1 k2;have k2:=b2.cell;go_wp2_with fail
 refine (zaE (HU.out _ E)).mono ?_;rw [c3.out];rintro e w4 ⟨rfl,a2⟩;replace b1:=b1.ext a2;replace b2:=b2.ext a2;replace bz:=bz.ext a2;replace E:=E.trans a2;clear k2 a1 a2;have k1:=b1.cell;have k2:=b2.cell;go_upto_region 4 with fail
 rw [dy.out];obtain⟨G,hG⟩:∃ G,Hid (G=w4.heap.size):=⟨_,za rfl⟩;have d1:w.heap.size+3<=G:=by have:=bz.lt;have:=hG.out;omega
 have bg:=(dE w4).alloc (.cells #[(al:Int),(0:Int),()] 38);have bG:=eX w4 38 #[(al:Int),(0:Int),()];rw [← hG.out] at bG;have dP:=bG.lt;replace b1:=b1.ext bg;replace b2:=b2.ext bg;replace bz:=bz.ext bg;replace E:=E.trans bg;rw [← hG.out];clear k1 k2;generalize w4.alloc _=w5 at *;have k1:=b1.cell;have k2:=b2.cell;have a3:=(dE w5).alloc (.cells #[s.al,s.st,.slice A n c,u.al,u.st,.slice B m d] 38);have bL:=eX w5 38 #[s.al,s.st,.slice A n c,u.al,u.st,.slice B m d];obtain⟨L,hL⟩:∃ L,Hid (L=w5.heap.size):=⟨_,za rfl⟩;rw [← hL.out] at bL;have d3:w.heap.size<=L:=by have:=hL.out;have:=E.size;omega
 have cq:=zdG.two (HS.out _ (E.trans a3)) (HU.out _ (E.trans a3)) bL;go_wp2_with fail
 rw [← hL.out];refine (zed cq cx.out oM).mono ?_;rintro e w6 ⟨M,dQ7,rfl,cp,ag⟩;have aF:=bL.ext ag;replace ag:=a3.trans ag;replace b1:=b1.ext ag;replace b2:=b2.ext ag;replace bz:=bz.ext ag;replace bG:=bG.ext ag;obtain⟨bs,ai,aK⟩:=cp.mov;obtain⟨bX,dU,ai⟩:∃ bX,G<bX∧Reads w6 bX w6.heap.size 1 M 2 (ptrs bs):=⟨_,oH a3.size,ai⟩;replace E:=E.trans ag;clear cp cq bL a3 ag k1 k2;go_upto_region 5 with fail
 have ax:=(dE w6).alloc (.cells #[.slice (some L) 2 2,.slice M 2 dQ7] 108);have bP:=eX w6 108 #[.slice (some L) 2 2,.slice M 2 dQ7];obtain⟨PB,cm⟩:∃ PB,Hid (PB=w6.heap.size):=⟨_,za rfl⟩;rw [← cm.out] at bP;replace bz:=bz.ext ax;replace bG:=bG.ext ax;replace aF:=aF.ext ax;replace ai:=ai.ext ax;replace aK:=aK.ext ax;replace E:=E.trans ax;rw [← cm.out];clear b1 b2 ax;generalize w6.alloc _=w7 at *;have kG:=bG.cell;have dQ:G<w7.heap.size:=bG.lt;go_wp2_with fail
 refine (zag al dC _).mono ?_;rintro e O ⟨AL,cL,rfl,dh,ay⟩;replace bz:=bz.ext ay;replace bG:=bG.ext ay;replace aF:=aF.ext ay;replace bP:=bP.ext ay;replace ai:=ai.ext ay;replace aK:=aK.ext ay;replace E:=E.trans ay;clear kG;have d2:=zA al 6;have cj:=za (show ∀ l∈letters al 6,l<6 from fun l hl=>(zD.1 hl).1);have ck:=eW dh;have HL:=za (show letters al 6=letters (s.al.toNat|||u.al.toNat) 6 by rw [be.out]);generalize letters al 6=Q at *;have bB:=World.ownsRow_lit (base:=O.heap.size) (e:=3) (size:=1) O #[(0:Int)] 1 (dI _) dM rfl;go_upto_region 7 with fail
 obtain⟨PG,cn⟩:∃ PG,Hid (PG=O.heap.size):=⟨_,za rfl⟩;rw [← cn.out] at bB ⊢;generalize U0:O.alloc _=w9 at *;have bV:=Ext.al_ U0;clear U0;have ad:=ziF.made w9;have dF:=bV.alloc (.map #[] 0);have bC:=zq (zh bB ((dE w9).alloc (.map #[] 0))) (Nat.le_of_eq cn.out.symm);have di:O.heap.size<=w9.heap.size:=bV.size;obtain⟨MB,aP⟩:∃ MB,Hid (MB=w9.heap.size):=⟨_,za rfl⟩;rw [← aP.out] at ad di;go_upto_region 8 with (refine zeo _ rfl _ _ _ (.inr rfl) (b:=MB) (by rw [aP.out];rfl) ad oM 0 0 rfl rfl oM oM ?_;intro w10 hM10 hg10)
 rw [← aP.out];obtain⟨N,hN⟩:∃ N,Hid (s.st.toNat*u.st.toNat=N):=⟨_,za rfl⟩;have dm:0<N:=by rw [← hN.out];exact Nat.mul_pos (oH Y.out.1) (oH Z.out.1)
 have dl:N<=16*16:=by rw [← hN.out];exact Nat.mul_le_mul (oH Y.out.2.1) (oH Z.out.2.1)
 have H:StP O w10 MB (.slice (some PG) 1 1) [0]:=by
  refine⟨zf bC (fV hg10) (fun b V hS=>?_),⟨_,hM10,fun x _=>?_⟩,(bV.alloc _).grown hg10 (fun k hk=>by injection hk with hk;omega)⟩
  ·exact ad.aj bC (by rw [V];exact hS.symm)
  ·unfold updI
   by_cases e:x=0<;>simp [e]
 have z:InvP N [0]:=⟨rfl,sM,fun m hm=>by rw [List.mem_singleton.1 hm];exact dm,dM⟩;clear hg10 hM10 bC ad dF bB;have dx:=za (fun (m l n:Nat) (h:n∈nxt s u m l)=>(show n<N by rw [← hN.out];exact nxt_lt Y.out Z.out h));have cF:=za (fun (m l:Nat)=>nxt_len Y.out Z.out m l);have cH:=za (show ∀ x∈[s,u],Sml x from fun x hx=>by simp at hx;rcases hx with rfl|rfl;exact Y.out;exact Z.out)
 have ce:=za (fun W (hW:Ext O W) m l (hm:m<=4611686018427387904) (hl:l<6)=>next_nil (c:=2) (d:=dQ7) (PtAt.two (HS.out W (E.trans hW)) (HU.out W (E.trans hW)) (aF.ext hW) (ai.ext hW) (aK.ext hW)) cH.out oM hm hl (HT.out W (E.trans hW)));have b6:=za (fun W (hW:Ext O W)=>ck.ext hW);have b8:=za (fun W (hW:Ext O W)=>bP.ext hW);go_wp2_with fail
 go_loopw [9,11] (fun pv iv wr=>∃ (P:List Nat) (i:Nat),i<=P.length∧iv=.int .i64 (i:Nat)∧Hid (InvP N P)∧Hid (CLd s u Q P i)∧StP O wr MB pv P) (fun _ iv _=>17 - (intOf iv).toNat)
 case atStart=>exact⟨[0],0,sM,rfl,za z,za (fun a ha=>absurd ha oM),H⟩
 case round =>
  clear H z;obtain⟨P,i,hi,rfl,z,T,H⟩:=hrel;obtain⟨o,C,r⟩:=H;have aG:=z.out.len;obtain⟨AP,cP,rfl⟩:=zi o
  by_cases S:i<P.length
  ·obtain⟨I,D⟩:∃ m,Hid (P[i]?=some m):=⟨_,za (dH S)⟩;have H:StP O wr MB (.slice AP P.length cP) P:=⟨o,C,r⟩;clear o C r;go_upto_region 11 with fail
   go_wp2_with fail
   go_loopw [9,59] (fun pv bv wr=>∃ (P:List Nat) (b:Nat),b<=Q.length∧bv=.int .i64 (b:Nat)∧i<P.length∧Hid (P[i]?=some I)∧Hid (InvP N P)∧Hid (CLd s u Q P i)∧Hid (∀ l∈Q.take b,∀ n∈nxt s u I l,n∈P)∧StP O wr MB pv P) (fun _ bv _=>Q.length - (intOf bv).toNat)
   case atStart=>exact⟨P,0,eC _,rfl,S,D,z,T,za (fun l hl=>by simp at hl),H⟩
   case round =>
    clear H T z hi aG D;obtain⟨P,b,dr,rfl,S,D,z,T,hB,H⟩:=hrel;obtain⟨o,C,r⟩:=H;have aG:=z.out.len;obtain⟨AP,cP,rfl⟩:=zi o
    by_cases hbt:b<Q.length
    ·obtain⟨c7,uv,rfl,_,_,bT,bS⟩:=(b6.out _ r).one (k:=b) hbt;obtain⟨l,aJ,rfl⟩:∃ l,Hid (Q[b]?=some l)∧uv=.int .i64 (l:Nat):=by
      have:=bT.out;simp only [zac,eM,fS] at this;obtain⟨x,t,h2⟩:=this;exact⟨x,za t,h2.symm⟩
     have bN:=cj.out l (dG aJ.out);obtain⟨a7,pv,rfl,_,_,cG,aZ⟩:=(eW o).one (k:=i) S;obtain rfl:pv=.int .i64 (I:Nat):=by
      have:=cG.out;simp only [zac,eM,D.out,iV,Option.some.injEq] at this;exact this.symm
     have cC:=z.out.lt I (dG D.out);go_upto_region 14 with fail
     clear bS;have c9:∀ W,Ext wr W->∀ q,W.cell? ⟨PB,q,none⟩=#[Value.slice (some L) 2 2,.slice M 2 dQ7][q]?:=fun W hW=>(b8.out W (r.trans hW)).cell;have da:∀ W,Ext wr W->W.cell? (a7.add i)=some (.int .i64 (I:Nat)):=fun W hW=>hW.aa aZ;have du:(i:Int)<(P.length:Int):=oM;have bU:=dE wr;have b7:=za o;clear aZ o;refine uR (fun X=>Ext wr X) [] (zw.of [0,1,2,3,4,5,8,6,7]) ?_;refine uQ ?_;refine ze fun K hK=>?_;go_simp;refine (ce.out _ (r.trans bU.drew) I l oM bN).mono ?_;rintro e dJ ⟨AR,cR,rfl,F,cJ⟩;have aw:=bU.drew.trans cJ;have dq:=cF.out I l;have dn:=za (dx.out I l);have bc:=za (show nxt s u I l=(nx [s,u] I l).1 from rfl);rw [← bc.out] at F ⊢;refine hK.out _ _ aw ?_;refine pT ?_;refine uQ ?_;refine zg ?_;have H:StP O dJ MB (.slice (some a7) P.length cP) P:=(show StP O wr MB (.slice (some a7) P.length cP) P from ⟨b7.out,C,r⟩).ext aw;have U:∀ g,(Value.slice AR (nxt s u I l).length cR).ownBlock=some g->(Value.slice (some a7) P.length cP).ownBlock≠some g:=fun g hg hg'=>by
      have t:=(F.lt g hg).1;have h2:=(b7.out.lt g hg').2;have h3:wr.drew.heap.size=wr.heap.size:=rfl;omega
     have aa:=zq F (show O.heap.size<=_ from r.size);clear c9 da bU aw F C r;generalize nxt s u I l=R at *;go_wp2_with fail
     go_loopw [9,71] (fun pv cv wr=>∃ (P:List Nat) (c:Nat),c<=R.length∧cv=.int .i64 (c:Nat)∧i<P.length∧Hid (P[i]?=some I)∧Hid (InvP N P)∧Hid (CLd s u Q P i)∧Hid (∀ l∈Q.take b,∀ n∈nxt s u I l,n∈P)∧Hid (∀ n∈R.take c,n∈P)∧StP O wr MB pv P∧wr.ownsRow O.heap.size 3 1 (.slice AR R.length cR) R.length (zac R)∧∀ g,(Value.slice AR R.length cR).ownBlock=some g->pv.ownBlock≠some g) (fun _ cv _=>R.length - (intOf cv).toNat)
     case atStart=>exact⟨P,0,eC _,rfl,S,D,z,T,hB,za (fun n hn=>by simp at hn),H,aa,U⟩
     case round =>
      clear H aa U hB T z D S aG du cG;obtain⟨P,c',hc,rfl,S,D,z,T,hB,hC,H,F,U⟩:=hrel;obtain⟨o,⟨Mf,C,aQ⟩,r⟩:=H;have aG:=z.out.len;obtain⟨AP,cP,rfl⟩:=zi o
      by_cases hct:c'<R.length
      ·obtain⟨c8,rv,rfl,_,_,bQ,dz⟩:=(eW F).one (k:=c') hct;obtain⟨nn,aL,rfl⟩:∃ x,Hid (R[c']?=some x)∧rv=.int .i64 (x:Nat):=by
        have:=bQ.out;simp only [zac,eM,fS] at this;obtain⟨x,t,h2⟩:=this;exact⟨x,za t,h2.symm⟩
       have cD:=dn.out nn (dG aL.out);have aR:=aQ nn oM;cases hok:(Mf nn).isSome
       ·have av:nn∉P:=fun hh=>by rw [aR.2 hh] at hok;cases hok
        by_cases h16:P.length=16
        ·have cr:((P.length:Int)==16)=true:=by rw [h16];rfl
         have ak:=bz.ext r;have cZ:=ak.cell;have fZ:=ak.frozen;have aH:=zhz wr (w.heap.size+1+1) (.int .i64 0) (.int .i64 0) (.slice none 0 0);have aV:=zhy ak rfl (.int .i64 0) (.int .i64 0) (.slice none 0 0);have a4:=(E.trans r).frm aH (fun k hk e=>oM);clear h16;go_wp2_with (refine zeR _ rfl _ _ rfl rfl C nn rfl oM ?_;intro cc;rw [hok])
         generalize ((wr.setCell ⟨w.heap.size+1+1,0,none⟩ (0:Int)).setCell ⟨w.heap.size+1+1,1,none⟩ (0:Int)).setCell ⟨w.heap.size+1+1,2,none⟩ ()=wf at *;have cf:=aV.cell;exact bodyPost_ret (v:=.tuple #[.agg #[(0:Int),(0:Int),()],.bool false]) (by simp [results,Tryz.results19,go_sem,cf]) rfl (Or.inl ⟨rfl,a4⟩)
        ·have cr:((P.length:Int)==16)=false:=by simp;omega
         go_wp2_with (first
          |(refine zeR _ rfl _ _ rfl rfl C nn rfl oM ?_;intro cc;rw [hok])
          |(refine zeo _ rfl _ _ _ (.inl rfl) rfl C oM nn 0 rfl rfl oM oM ?_;intro w12 hM12 hg12;have cK:=r.grown hg12 (fun k hk=>(show O.heap.size<=k by injection hk with hk;omega));have bo:=fV hg12;have br:=zf o bo (fun b V hS=>C.aj o (by rw [V];exact hS.symm)))
          |(at_builtin;refine zO O w12 rfl _ _ _ rfl 3 _ 1 8 Tryz.underlying110 zae rfl dM (.slice AP P.length cP) _ _ _ _ rfl rfl cK br rfl (zbg _) lM oM ?_;intro v13 w13 hx13 ho13 hg13 hat13))
         go_roundw
         case rel =>
          have bp:=fV hg13;have cB:=hM12.frm bp (fun e=>hM12.aj br e);refine⟨P++[nn],c'+1,oM,gM,by rw [eK];omega,za (by rw [eH S];exact D.out),za (z.out.push av cD h16),za (T.out.push (kU S)),
           za (fun l hl n hn=>List.mem_append_left _ (hB.out l hl n hn)),za (fun x hx=>?_),⟨by simpa [zac] using ho13,⟨_,by rw [eK];exact cB,fun x hx=>?_⟩,hx13⟩,?_,fun g hg=>?_⟩
          ·rw [eG,aL.out] at hx;rcases List.mem_append.1 hx with t|t
           ·exact List.mem_append_left _ (hC.out x t)
           ·simp at t;rw [t];simp
          ·unfold updI
           by_cases e:x=nn
           ·simp [e]
           ·rw [if_neg e,aQ x hx];simp [e]
          ·exact zf (zf F bo (fun b V hS=>C.aj F (by rw [V];exact hS.symm))) bp (fun b V hS=>U b V hS)
          ·rcases hat13 with t|t
           ·rw [t];exact U g hg
           ·rw [t];intro e;injection e with e
            have h2:=(F.lt g hg).2;have h3:=hg12.size;omega
         case measure=>simp [intOf];omega
       ·have av:=aR.1 hok;go_wp2_with (refine zeR _ rfl _ _ rfl rfl C nn rfl oM ?_;intro cc;rw [hok])
        go_roundw
        case rel=>exact⟨P,c'+1,oM,gM,S,D,z,T,hB,za (fun x hx=>by
         rw [eG,aL.out] at hx;rcases List.mem_append.1 hx with t|t
         ·exact hC.out x t
         ·simp at t;rw [t];exact av),⟨o,⟨Mf,C,aQ⟩,r⟩,F,U⟩
        case measure=>simp [intOf];omega
      ·obtain rfl:c'=R.length:=oM;have H:StP O wr MB (.slice AP P.length cP) P:=⟨o,⟨Mf,C,aQ⟩,r⟩;clear o C aQ r F U;go_wp2_with fail
       go_roundw
       case rel=>exact⟨P,b+1,oM,gM,S,D,z,T,za (fun x hx n hn=>by
        rw [eG,aJ.out] at hx;rcases List.mem_append.1 hx with t|t
        ·exact hB.out x t n hn
        ·simp at t;subst t;exact hC.out n (by rw [fB,bc.out];exact hn)),H⟩
       case measure=>simp [intOf];omega
    ·obtain rfl:b=Q.length:=oM;have H:StP O wr MB (.slice AP P.length cP) P:=⟨o,C,r⟩;clear o C r;go_wp2_with fail
     go_roundw
     case rel=>exact⟨P,i+1,S,gM,z,za (fun a ha m hm l hl n hn=>by
      rcases fM a i with t|t
      ·exact T.out a t m hm l hl n hn
      ·obtain rfl:a=i:=oM;rw [D.out] at hm;obtain rfl:=Option.some.inj hm;exact hB.out l (by rw [fB];exact hl) n hn),H⟩
     case measure=>simp [intOf];omega
  ·obtain rfl:i=P.length:=oM;obtain⟨gP,rfl⟩:∃ gP,AP=some ⟨gP,0,none⟩:=by
    rcases o.2 with ⟨_,h0⟩|⟨g,ca,db,hv,_⟩
    ·have:=(List.getElem?_eq_some_iff.1 z.out.zero).1;omega
    ·exact⟨g,by injection hv⟩
   obtain⟨c4,C,_⟩:=C;have dR:G<O.heap.size:=bG.lt;have d5:=(o.lt gP rfl).1;have bl:=za (show ∀ m∈P,∀ l∈Q,∀ n∈nxt s u m l,n∈P from fun m hm=>by
    obtain⟨a,ha⟩:=eU hm;exact T.out a (List.getElem?_eq_some_iff.1 ha).1 m ha)
   have bt:=za (sort_int o oM);clear hi T;go_upto_region 26 with (go_at_call 69;refine bt.out.mono ?_;rintro e eb ⟨rfl,f,aj,ar,aW⟩;have aq:=C.frm aW (fun e=>C.aj o (by rw [e];rfl));have aT:=r.frm aW (fun k hk e=>oM))
   have bO:f.length=P.length:=aj.out.1.length_eq;have J:Hid (InvP N f):=za (by
    refine⟨?_,aj.out.1.symm.nodup_iff.1 z.out.nodup,fun m hm=>z.out.lt m (aj.out.1.mem_iff.1 hm),by rw [bO];exact aG⟩;have h0:=aj.out.1.mem_iff.2 (dG z.out.zero);have cz:0<f.length:=List.length_pos_of_mem h0;obtain⟨j,hj⟩:=eU h0;obtain⟨bf,dw⟩:=List.getElem?_eq_some_iff.1 hj;rw [dH cz]
    congr 1
    rcases Nat.eq_zero_or_pos j with hz|hz
    ·subst hz;exact dw
    ·have:=List.pairwise_iff_getElem.1 aj.out.2 0 j cz bf hz;omega)
   have aO:Hid (∀ m∈f,∀ l∈Q,∀ n∈nxt s u m l,n∈f):=za (fun m hm l hl n hn=>aj.out.1.mem_iff.2 (bl.out m (aj.out.1.mem_iff.1 hm) l hl n hn));rw [← bO] at aq ar ⊢;clear o r z bl aj aW C bt;have co:f.length<=16:=J.out.len;clear S aG bO;go_wp2_with fail
   go_loopw [99] (fun kv wr=>∃ (k:Nat) (Mf:Nat->Option Nat),k<=f.length∧kv=.int .i64 (k:Nat)∧ziF wr MB (f.length+k) Mf∧Hid (∀ j m,j<k->f[j]?=some m->Mf m=some j)∧wr.ownsRow O.heap.size 3 1 (.slice (some gP) f.length cP) f.length (zac f)∧Ext O wr) (fun kv _=>f.length - (intOf kv).toNat)
   case atStart=>exact⟨0,c4,eC _,rfl,aq,za (fun j m hj=>absurd hj oM),ar,aT⟩
   case round =>
    clear aq ar aT;obtain⟨k,Mf,hk,rfl,hM,bI,o,r⟩:=hrel
    by_cases hkt:k<f.length
    ·obtain⟨I,D⟩:∃ m,Hid (f[k]?=some m):=⟨_,za (dH hkt)⟩;have cC:=J.out.lt I (dG D.out);have aZ:wr.cell? ⟨gP,k,none⟩=some (.int .i64 (I:Nat)):=by
      rw [o.cellAt k oM];simp [zac,D.out]
     go_wp2_with (refine zeo _ rfl _ _ _ (.inl rfl) rfl hM oM I k rfl rfl oM oM ?_;intro w16 hM16 hg16)
     go_roundw
     case rel =>
      refine⟨k+1,_,oM,gM,hM16,za (fun j x hj hx=>?_),zf o (fV hg16) (fun b V hS=>hM.aj o (by rw [V];exact hS.symm)),r.grown hg16 (fun q hq=>by injection hq with hq;omega)⟩
      unfold updI
      by_cases e:x=I
      ·subst e;rw [if_pos rfl];have bf:=List.getElem?_eq_some_iff.1 hx;have cy:=List.getElem?_eq_some_iff.1 D.out;rcases fQ j k with t|t|t
       ·exact absurd (bf.2.trans cy.2.symm) (List.pairwise_iff_getElem.1 J.out.nodup j k bf.1 cy.1 t)
       ·rw [t]
       ·omega
      ·rw [if_neg e];rcases fM j k with t|t
       ·exact bI.out j x t hx
       ·obtain rfl:j=k:=oM;rw [D.out] at hx;exact absurd (Option.some.inj hx).symm e
     case measure=>simp [intOf];omega
    ·obtain rfl:k=f.length:=oM;have dj:=za (show ∀ n∈f,Mf n=some (f.idxOf n) from fun n hn=>bI.out _ n (jH hn) (zhC hn));have aU:=bG.ext r;have kG:=aU.cell;have fG:=aU.frozen;have a9:Frm (fun q=>q=G) O (wr.setCell ⟨G,1,none⟩ (.int .i64 (f.length:Nat))):=(r.ak).trans (eB wr G 1 _);have aB:Blk (wr.setCell ⟨G,1,none⟩ (.int .i64 (f.length:Nat))) G 38 #[.int .i64 (al:Nat),.int .i64 (f.length:Nat),.slice none 0 0]:=by simpa using aU.ab 1 (.int .i64 (f.length:Nat))
     have aS:=zf o (eB wr G 1 (.int .i64 (f.length:Nat))) (fun b V e=>by have:=(o.lt b V).1;omega);have bn:=hM.frm (eB wr G 1 (.int .i64 (f.length:Nat))) (fun e=>hM.far aU e.symm);have ch:¬ (MB=G):=fun e=>bn.far aB e.symm;have ba:G<(wr.setCell ⟨G,1,none⟩ (.int .i64 (f.length:Nat))).heap.size:=aB.lt;clear hM bI o aU;go_upto_region 32 with fail
     clear kG fG r;generalize wr.setCell ⟨G,1,none⟩ (.int .i64 (f.length:Nat))=am at *;have bb:=za (fun W (hW:Frm (fun q=>q=G) O W)=>E.frm hW (fun k hk e=>oM));have bk:=za (fun W (hW:Frm (fun q=>q=G) O W) m l (hm:m<=4611686018427387904) (hl:l<6)=>next_nil (c:=2) (d:=dQ7)
      (PtAt.two (HS.out W (bb.out W hW)) (HU.out W (bb.out W hW)) (aF.frm hW (fun e=>oH hL.out)) (ai.frm hW (fun k t h2 e=>oM)) (aK.frm hW (fun b cs hc e=>by
       subst e;have:=bG;unfold Blk at hc this;rw [hc] at this;injection this with this
       injection this with _ ht
       exact absurd ht dM))) cH.out oM hm hl (HT.out W (bb.out W hW)))
     have bj:=za (fun W (hW:Frm (fun q=>q=G) O W)=>bP.frm hW (fun e=>by
       have:=bP;rw [e] at this;have h2:=bG;unfold Blk at this h2;rw [this] at h2;injection h2 with h2
       injection h2 with _ ht
       exact absurd ht dM))
     have bm:=za (fun W (hW:Frm (fun q=>q=G) O W)=>ck.frm hW (fun k t h2 e=>oM));have p:Gr2 am am G (al:Nat) (f.length:Nat) (.slice none 0 0) []:=⟨aB,World.ownsRow_nil _ _ _ _,Frm.refl _ _,ba⟩;have bJ:=za (fun k m (h:f[k]?=some m)=>(show f.getD k 0=m by rw [eE,h];rfl));clear ce b8 b6 aB;go_wp2_with fail
     go_loopw [113] (fun kv wr=>∃ (k:Nat) (ev:Value) (es:List Edg),k<=f.length∧kv=.int .i64 (k:Nat)∧Gr2 am wr G (al:Nat) (f.length:Nat) ev es∧Hid (es=eP s u f Q k)∧es.length<=k*1536∧Hid (es=[]->ev=.slice none 0 0)) (fun kv _=>f.length - (intOf kv).toNat)
     case atStart=>exact⟨0,_,[],eC _,rfl,p,za rfl,sM,za (fun _=>rfl)⟩
     case round =>
      clear p;obtain⟨k,ev,es,hk,rfl,p,af,cu,ae⟩:=hrel
      by_cases hkt:k<f.length
      ·obtain⟨I,D⟩:∃ m,Hid (f[k]?=some m):=⟨_,za (dH hkt)⟩;have cC:=J.out.lt I (dG D.out);have ct:=za (show eP s u f Q (k+1)=eP s u f Q k++eL s u f Q k I by
        simp only [eP,List.range_succ,jT,jB,List.flatMap_nil,gS,bJ.out k I D.out])
       have aZ:wr.cell? ⟨gP,k,none⟩=some (.int .i64 (I:Nat)):=by
        have ho:=zf aS p.fr (fun b V e=>by have:=(aS.lt b V).1;omega);rw [ho.cellAt k oM];simp [zac,D.out]
       go_upto_region 35 with fail
       clear aZ;go_wp2_with fail
       go_loopw [120] (fun bv wr=>∃ (b:Nat) (ev:Value) (es:List Edg),b<=Q.length∧bv=.int .i64 (b:Nat)∧Gr2 am wr G (al:Nat) (f.length:Nat) ev es∧Hid (es=eP s u f Q k++eL s u f (Q.take b) k I)∧es.length<=k*1536+b*256∧Hid (es=[]->ev=.slice none 0 0)) (fun bv _=>Q.length - (intOf bv).toNat)
       case atStart=>exact⟨0,ev,es,eC _,rfl,p,za (by rw [af.out];simp [eL]),oM,ae⟩
       case round =>
        clear p af cu ae;obtain⟨b,ev,es,dr,rfl,p,af,cu,ae⟩:=hrel
        by_cases hbt:b<Q.length
        ·obtain⟨c7,uv,dc,_,_,bT,bS⟩:=(bm.out _ (a9.trans p.fr)).one (k:=b) hbt;obtain⟨l,aJ,rfl⟩:∃ l,Hid (Q[b]?=some l)∧uv=.int .i64 (l:Nat):=by
          have:=bT.out;simp only [zac,eM,fS] at this;obtain⟨x,t,h2⟩:=this;exact⟨x,za t,h2.symm⟩
         subst dc;have bN:=cj.out l (dG aJ.out);have ds:=(bj.out _ (a9.trans p.fr)).cell;have ci:=p.own;obtain⟨AE,cE,rfl⟩:=zi ci;go_upto_region 38 with fail
         clear bS;go_wp2_with fail
         refine (bk.out _ (a9.trans p.fr) I l oM bN).mono ?_;rintro e ec ⟨AR,cR,rfl,F,bu⟩;have dq:=cF.out I l;have dp:=za (fun n hn=>aO.out I (dG D.out) l (dG aJ.out) n hn);have bc:=za (show nxt s u I l=(nx [s,u] I l).1 from rfl);have de:=za (show eL s u f (Q.take (b+1)) k I=eL s u f (Q.take b) k I++(nxt s u I l).map (fun n=>(⟨(k:Nat),(l:Nat),(f.idxOf n:Nat)⟩:Edg)) by
          simp only [eL,eG,aJ.out,Option.toList,jT,jB,List.flatMap_nil,gS];rfl)
         have aY:=p.aw bu;have aa:=zq F (show am.heap.size<=_ from p.fr.size);rw [← bc.out] at aa ⊢;clear F p ci ds bu;have cw:=af;generalize eP s u f Q k++eL s u f (Q.take b) k I=dY at af;have aD:=af.out;subst aD;generalize nxt s u I l=R at *;go_wp2_with fail
         go_loopw [129] (fun cv wr=>∃ (c:Nat) (ev:Value) (ah:List Edg),c<=R.length∧cv=.int .i64 (c:Nat)∧Gr2 am wr G (al:Nat) (f.length:Nat) ev ah∧Hid (ah=es++(R.take c).map (fun n=>(⟨(k:Nat),(l:Nat),(f.idxOf n:Nat)⟩:Edg)))∧ah.length<=k*1536+b*256+c∧Hid (ah=[]->ev=.slice none 0 0)∧wr.ownsRow am.heap.size 3 1 (.slice AR R.length cR) R.length (zac R)) (fun cv _=>R.length - (intOf cv).toNat)
         case atStart=>exact⟨0,_,es,eC _,rfl,aY,za sM,oM,ae,aa⟩
         case round =>
          clear aY aa ae;obtain⟨c',ev,ah,hc,rfl,p,aD,dT,ae,F⟩:=hrel
          by_cases hct:c'<R.length
          ·obtain⟨c8,rv,rfl,_,_,bQ,dz⟩:=(eW F).one (k:=c') hct;obtain⟨nn,aL,rfl⟩:∃ x,Hid (R[c']?=some x)∧rv=.int .i64 (x:Nat):=by
            have:=bQ.out;simp only [zac,eM,fS] at this;obtain⟨x,t,h2⟩:=this;exact⟨x,za t,h2.symm⟩
           have av:=dp.out nn (dG aL.out);have cD:=J.out.lt nn av;have aR:=dj.out nn av;have dk:=bn.frm p.fr ch;have dv:=jH av;obtain⟨ix,bq⟩:∃ ix,Hid (f.idxOf nn=ix):=⟨_,za rfl⟩;rw [bq.out] at aR dv;have dD:=za (show (R.take (c'+1)).map (fun n=>(⟨(k:Nat),(l:Nat),(f.idxOf n:Nat)⟩:Edg))=(R.take c').map (fun n=>(⟨(k:Nat),(l:Nat),(f.idxOf n:Nat)⟩:Edg))++[⟨(k:Nat),(l:Nat),(ix:Nat)⟩] by
            rw [eG,aL.out,List.map_append,← bq.out];rfl)
           have kG:=p.blk.cell;have bH:=p.own;go_wp2_with (first
            |(refine wpList_mapAt _ rfl _ _ rfl rfl dk nn ix rfl oM aR ?_)
            |(at_builtin;refine zW am wr rfl _ _ _ rfl 117 _ 3 24 Tryz.underlying36 zaV rfl dM ev ah.length (zn ah) _ _ rfl rfl p.fr.size p.own rfl (by simp [Value.oneCell']) lM oM ?_;intro g5 cap5 w18 zkr hg5 hat5 hlt5;obtain⟨q1,q2,q3⟩:=p.push (e:=⟨(k:Nat),(l:Nat),(ix:Nat)⟩) zkr hg5;have d9:=q1.out;clear kG))
           go_roundw
           case rel =>
            refine⟨c'+1,_,_,oM,gM,q3,za (by rw [dD.out,← iZ,← aD.out]),by rw [eK];simp;omega,za (fun h=>by simp at h),?_⟩;exact zf (zf F (fV hg5) (fun b V hS=>zas F bH dM V hS)) (eB w18 G 2 _) (fun b V e=>by have:=(F.lt b V).1;omega)
           case measure=>simp [intOf];omega
          ·obtain rfl:c'=R.length:=oM;clear F;go_wp2_with fail
           go_roundw
           case rel=>exact⟨b+1,ev,ah,oM,gM,p,za (by rw [de.out,← iZ,← cw.out,aD.out,fB]),oM,ae⟩
           case measure=>simp [intOf];omega
        ·obtain rfl:b=Q.length:=oM;go_wp2_with fail
         go_roundw
         case rel=>exact⟨k+1,ev,es,oM,gM,p,za (by rw [ct.out,af.out,fB]),oM,ae⟩
         case measure=>simp [intOf];omega
      ·obtain rfl:k=f.length:=oM;have cg:=a9.trans p.fr;have cN:=bb.out _ cg;have ak:=bz.frm cg (fun e=>oM);have a0:=za (fun (fs:List Edg) (t:Srt fs) (h2:fs.Perm es)=>(show zfC s u u.st.toNat ⟨(al:Nat),(f.length:Nat),fs⟩ by
        have:=comp_spec (P:=f) (es:=fs) Y.out Z.out HL.out J.out.zero co J.out.nodup (fun m hm=>by rw [hN.out];exact J.out.lt m hm) aO.out t (by rw [← af.out];exact h2);rw [be.out] at this;exact this))
       clear af aO J bk bj bm
       by_cases hemp:es=[]
       ·have dt:=ae.out hemp;subst dt;subst hemp;have kG:=p.blk.cell;have cZ:=ak.cell;have fZ:=ak.frozen;have aH:=zhz wr (w.heap.size+1+1) (.int .i64 (al:Nat)) (.int .i64 (f.length:Nat)) (.slice none 0 0);have aV:=zhy ak rfl (.int .i64 (al:Nat)) (.int .i64 (f.length:Nat)) (.slice none 0 0);have a4:=cN.frm aH (fun k hk e=>oM);have bZ:=za (show RetComp w s u (.returned (.tuple #[.agg #[.int .i64 (al:Nat),.int .i64 (f.length:Nat),()],.bool true])) (((wr.setCell ⟨w.heap.size+1+1,0,none⟩ (.int .i64 (al:Nat))).setCell ⟨w.heap.size+1+1,1,none⟩ (.int .i64 (f.length:Nat))).setCell ⟨w.heap.size+1+1,2,none⟩ ()) from
         Or.inr ⟨⟨(al:Nat),(f.length:Nat),[]⟩,none,0,0,rfl,za (a0.out [] (fun i j x y hx=>by simp at hx) (List.Perm.refl _)),⟨rfl,Reads.nil⟩,a4⟩)
        go_wp2_with (go_at_call 70;refine (sort_none _).mono ?_;rintro e w' ⟨rfl,rfl⟩)
        generalize ((wr.setCell ⟨w.heap.size+1+1,0,none⟩ (.int .i64 (al:Nat))).setCell ⟨w.heap.size+1+1,1,none⟩ (.int .i64 (f.length:Nat))).setCell ⟨w.heap.size+1+1,2,none⟩ ()=wf at *;have cf:=aV.cell;exact bodyPost_ret (v:=.tuple #[.agg #[.int .i64 (al:Nat),.int .i64 (f.length:Nat),()],.bool true]) (by simp [results,Tryz.results19,go_sem,cf]) rfl bZ.out
       ·have bE:=p.own;obtain⟨gE,cE,rfl⟩:∃ gE cE,ev=.slice (some ⟨gE,0,none⟩) es.length cE:=by
         rcases bE.2 with ⟨_,h0⟩|⟨g,ca,db,hv,_⟩
         ·exact absurd (List.eq_nil_of_length_eq_zero h0) hemp
         ·exact⟨g,ca,hv⟩
        have d4:=bE.lt gE rfl;have bR:=za (sort_any bE oM);have kG:=p.blk.cell;go_upto_region 46 with (go_at_call 70;refine bR.out.mono ?_;rintro e bY ⟨rfl,fs,bM,bF,aX⟩)
        have dg:¬ (G=gE):=oM;have au:=ak.frm aX oM;have bK:=p.blk.frm aX dg;have cM:=cN.frm aX (fun k hk e=>oM);clear kG;have kG:=bK.cell;have cZ:=au.cell;have fZ:=au.frozen;have cA:=bM.out.1;have aH:=zhz bY (w.heap.size+1+1) (.int .i64 (al:Nat)) (.int .i64 (f.length:Nat)) (.slice (some gE) es.length cE);have aV:=zhy au rfl (.int .i64 (al:Nat)) (.int .i64 (f.length:Nat)) (.slice (some gE) es.length cE);have a4:=cM.frm aH (fun k hk e=>oM);have bZ:=za (show RetComp w s u (.returned (.tuple #[.agg #[.int .i64 (al:Nat),.int .i64 (f.length:Nat),.slice (some gE) es.length cE],.bool true])) (((bY.setCell ⟨w.heap.size+1+1,0,none⟩ (.int .i64 (al:Nat))).setCell ⟨w.heap.size+1+1,1,none⟩ (.int .i64 (f.length:Nat))).setCell ⟨w.heap.size+1+1,2,none⟩ (.slice (some gE) es.length cE)) from
         Or.inr ⟨⟨(al:Nat),(f.length:Nat),fs⟩,_,_,_,rfl,za (a0.out fs bM.out.2.1 bM.out.2.2.2),⟨cA.symm,(eW (zaF bF aH (fun b t e=>oM))).more oM (dI _)⟩,a4⟩)
        clear cA;go_wp2_with fail
        generalize ((bY.setCell ⟨w.heap.size+1+1,0,none⟩ (.int .i64 (al:Nat))).setCell ⟨w.heap.size+1+1,1,none⟩ (.int .i64 (f.length:Nat))).setCell ⟨w.heap.size+1+1,2,none⟩ (.slice (some gE) es.length cE)=wf at *;have cf:=aV.cell;exact bodyPost_ret (v:=.tuple #[.agg #[.int .i64 (al:Nat),.int .i64 (f.length:Nat),.slice (some gE) es.length cE],.bool true]) (by simp [results,Tryz.results19,go_sem,cf]) rfl bZ.out
end Go.Proofs.YtckbjnndaaoddaaGreatDoor
