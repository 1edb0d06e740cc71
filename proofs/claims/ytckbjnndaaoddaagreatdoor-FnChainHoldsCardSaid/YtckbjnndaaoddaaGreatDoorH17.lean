/- spec.l14Draw -/
import Derived.Test.YtckbjnndaaoddaaGreatDoorH16
set_option maxHeartbeats 4000000
set_option maxRecDepth 100000
namespace Go.Proofs.YtckbjnndaaoddaaGreatDoor
open Go Go.RowKit
open Bool renaming and_eq_true->dH
open Ext renaming refl->dB
open Frm renaming setCell->dF
open List renaming getElem?_eq_getElem->dE,length_set->fX,length_take->e8,mem_of_getElem?->dC,take_of_length_le->dU
open Nat renaming le_of_lt->jZ,le_refl->dD,zero_le->dG
open Reads renaming af->eO
variable {A A':Option Addr} {M R base c c1 c2 g k lo n n':Nat} {W w:World} {a b p:Aut} {cs:Array Value} {ss:List Sys} {v:Value}
def RetL14 (R M:Nat) (w:World) (e:Ending) (w':World):Prop:=
 ∃ (l:List Ent) (g c:Nat) (b:Aut) (A:Option Addr) (n c1:Nat) (A':Option Addr) (n' c2:Nat),l.length=3∧e=.returned (.tuple #[.slice (some g) 3 c,.agg #[b.al,.slice A n c1,.slice A' n' c2]])∧Sld w w' R M (.slice (some g) 3 c) l∧zP w' (R+1) A n c1 A' n' c2 b∧Hid (BdA 50 b)∧Hid (∀ e∈l,e.n<=40000)
theorem union_le14 (h:zy ss=true):zC ss<=63:=by
 have c:∀ s∈ss,zk s=true:=by
  unfold zy at h;simp only [dH,List.all_eq_true] at h;exact h.2.2
 have:∀ n,zC (ss.take n)<=63:=by
  intro n
  induction n with
  |zero=>simp [zC]
  |succ n ih =>
   rcases Nat.lt_or_ge n ss.length with a|a
   ·rw [zcF (dE a)];have:=zF (c _ (List.getElem_mem a));have:=Nat.or_lt_two_pow (n:=6) (x:=zC (ss.take n)) (y:=ss[n].al.toNat) oM oM;omega
   ·rw [dU oM];rw [dU a] at ih;exact ih
 have b:=this ss.length;rwa [List.take_length] at b
theorem partsA_cases (ss:List Sys):(∃ a:Nat,zaI ss=(a:Int)∧a<64)∨zaI ss = -1:=by
 unfold zaI;cases h:zy ss
 ·exact .inr rfl
 ·exact .inl ⟨zC ss,rfl,by have:=union_le14 h;omega⟩
theorem Sld.box {w0:World} {gb:Nat}  {l:List Ent} (h:Sld w0 W R M v l)(hB:Blk W gb 38 cs)(hv:∀ b,v.ownBlock=some b->b≠gb)(hg:w0.heap.size<=gb) (u0 u1 u2:Value) :
  Sld w0 (((W.setCell gb u0).setCell ⟨gb,1,none⟩ u1).setCell ⟨gb,2,none⟩ u2) R M v l:=by
 have a:=h.hR;have c:=zdp W gb u0 u1 u2;exact⟨zg h.own c (fun b hb e=>hv b hb e),fun e he=>⟨(h.ent e he).1.far hB dM c,(h.ent e he).2⟩,h.rd.frm c (fun k hk e=>oM),((h.dr.ag (p:=⟨gb,0,none⟩) hg _).ag (p:=⟨gb,1,none⟩) hg _).ag (p:=⟨gb,2,none⟩) hg _,a⟩
theorem fin14 {N Z K:Nat} {l:List Ent}    (hl:l.length=3)(hs:Sld w W R M (.slice (some g) 3 c) l)(ho:zP W K A n c1 A' n' c2 b)(hK:R+1<=K)(hZK:Z<K)(hb:BdA 50 b)(hle:∀ e∈l,e.n<=40000) (bz:Blk W Z 27 cs)(hc:cs.size=3)(hZ:w.heap.size<=Z)(hM:M<=N) :
  Hid (RetL14 R N w (.returned (.tuple #[.slice (some g) 3 c,.agg #[b.al,.slice A n c1,.slice A' n' c2]])) (((W.setCell Z b.al).setCell ⟨Z,1,none⟩ (.slice A n c1)).setCell ⟨Z,2,none⟩ (.slice A' n' c2))) ∧
  Blk (((W.setCell Z b.al).setCell ⟨Z,1,none⟩ (.slice A n c1)).setCell ⟨Z,2,none⟩ (.slice A' n' c2)) Z 27 #[.int .i64 b.al,.slice A n c1,.slice A' n' c2]:=by
 have d:=hs.hR;have a:=zZ W Z (.int .i64 b.al) (.slice A n c1) (.slice A' n' c2);refine⟨za ⟨l,g,c,b,A,n,c1,A',n',c2,hl,rfl,⟨zg hs.own a (fun k hv e=>zr hs.own bz dM hv e),fun e he=>⟨(hs.ent e he).1.far bz dM a,(hs.ent e he).2⟩,(hs.rd.more hM).frm a (fun k hk e=>oM),?_,d⟩,(ho.keep a (fun k h1 e=>oM)).less hK,za hb,za hle⟩,zag bz hc _ _ _⟩;exact ((hs.dr.ag (p:=⟨Z,0,none⟩) hZ _).ag (p:=⟨Z,1,none⟩) hZ _).ag (p:=⟨Z,2,none⟩) hZ _
theorem spec_l14Draw (h:Rd w R M)(hM:M<=600000000) :
  Calls Tryz.prog 115 #[.pointer (some R)] w (RetL14 R (M+100000) w):=by
 have aB:=h.lt
 go_enter Tryz.func115,Tryz.ntmps115
 go_wp2_with fail
 generalize U0:w.alloc _=w1 at *;have aY:=Ext.al_ U0;have bz:=Ext.bl_ U0;have cr:w1.heap.size=w.heap.size+1:=by rw [← U0];simp
 clear U0;refine (zL (h.ext aY) oM).mono ?_;rintro e w2 ⟨z,rfl,-,-,aR,aG⟩;have au:=aY.dr.trans aG;have ah:=bz.dr aG oM
 by_cases hz:z=0
 ·subst hz;have bH:=au.size;go_wp2_with fail
  refine (zjL).mono ?_;rintro e w3 ⟨g,rfl,hg,hT,Y⟩;have bD:=au.ext Y;have a4:=ah.ext Y;have ch:=Y.size;have cy:=ah.lt;go_wp2_with fail
  refine (zL (aR.ext Y) oM).mono ?_;rintro e w4 ⟨j,rfl,hj,-,aq,y⟩;have bj:j<5:=by have:=hj oM;omega
  have bE:=bD.trans y;have a5:=a4.dr y oM;obtain⟨bt,lt,aF,cj,V,aN⟩:=hT j bj;have ba:=y.aa aF (by dsimp only;omega);have aO:=zaQ aN y (fun b J e=>oM);have bU:(j:Int)<5:=oM;have ae:=Sld.nil (w0:=w) aq bE aB;have av:=(dB w4).alloc (.cells #[] 38);have Z:=zh aO av;have F:=a5.ext av;clear hj hT aF aN;go_upto_region 5 with fail
  generalize hg4:w4.heap.size=g4 at *;generalize w4.alloc _=w5 at *;go_wp2_with fail
  go_loopw [6,7] (fun v i wr=>∃ (k:Nat) (vl:Value) (l:List Ent),k<=3∧vl=v∧i=.int .i64 k∧Hid (l.length=k)∧Hid (∀ e∈l,e.n<=40000)∧Sld w wr R (M+2+20*k) vl l∧Blk wr w.heap.size 27 #[(0:Int),(),()]∧wr.ownsRow w2.heap.size 9 1 (.slice (some bt) 4 4) 4 (zO lt)) (fun _ i _=>3 - (intOf i).toNat)
  case atStart=>exact⟨0,_,[],dG _,rfl,rfl,rfl,za (fun _ h=>by simp at h),ae.more oM,F,Z⟩
  case round =>
   clear ae F Z av ba;obtain⟨k,vl,l,hk,rfl,rfl,U,ap,f,m,d⟩:=hrel
   by_cases hlt:k<3
   ·obtain⟨ad,x,e1,_,_,hx,cx⟩:=(eO d).str (show k<4 by omega);obtain rfl:=Option.some.inj e1;have bG:=V x (dC hx.out);rw [zW,Nat.zero_add] at cx;have bI:=m.lt;go_wp2_with fail
    refine (zgX f.rd oM).mono ?_;rintro e L ⟨s,A1,n1,c1,ok,rfl,bw,⟨-,bh⟩,bl,aQ,E⟩;have p:=(dB L).alloc (.cells #[s.al,s.st,.slice A1 n1 c1] 38);have bs:=Blk.new L 38 #[s.al,s.st,.slice A1 n1 c1];have o:=(f.drawn E aQ).ext p;have r:=(m.dr E oM).ext p;have aa:=zh (zaQ d E (fun b J e=>oM)) p;have aS:=bw.ext p;have cw:=r.lt;have bC:∀ b,vl.ownBlock=some b->b≠L.heap.size:=fun b hb=>by have:=(f.own.lt b hb).2;have:=E.size;omega
    have ci:=(f.drawn E aQ).dr.size;have bS:=E.size;go_upto_region 9 with fail
    generalize hgb:L.heap.size=gb at *;generalize L.alloc _=wb at *;go_wp2_with fail
    refine (zL o.rd oM).mono ?_;rintro e wc ⟨q,rfl,-,-,br,G⟩;have C:=o.drawn G br;have O:=bs.dr G oM;have aj:=r.dr G oM;have H:=zaQ aa G (fun b J e=>oM);have ar:=aS.dr G;clear bs r aa aS o d m cx p;go_upto_if 39 with fail
    go_cut [] (fun wx=>∃ Q:Ent,Blk wx gb 38 #[Q.s.al,Q.s.st,.slice Q.A Q.n Q.c]∧Q.ok wx R∧Q.n<=40000∧Sld w wx R (M+2+20*k+15) vl l∧Blk wx w.heap.size 27 #[(0:Int),(),()]∧wx.ownsRow w2.heap.size 9 1 (.slice (some bt) 4 4) 4 (zO lt))
    case first =>
     by_cases hq:q=0
     ·subst hq;have cs:=O.cell;go_wp2_with fail
      refine (zix C.rd oM ar bh bl.1 oM).mono ?_;rintro e wd ⟨s2,A2,n2,c2,rfl,bx,ck,bu,T⟩;have D:=O.dr T oM;have b5:=D.cell;have cb:=D.frozen;have aV:=(C.drawn T bu).box D bC oM (.int .i64 s2.al) (.int .i64 s2.st) (.slice A2 n2 c2);have ao:=zdp wd gb (.int .i64 s2.al) (.int .i64 s2.st) (.slice A2 n2 c2);have ab:=zaQ H T (fun b J e=>oM);go_wp2_with fail
      go_meet;exact⟨⟨s2,A2,n2,c2⟩,blk_fill D rfl _ _ _,⟨bx.far D dM ao,by dsimp only;omega,by dsimp only;omega⟩,by dsimp only;omega,aV.more oM,(aj.dr T oM).frm ao oM,zg ab ao (fun b hb e=>zr ab D dM hb e)⟩
     ·have co:((q:Int)==0)=false:=by simp;omega
      go_wp2_with fail
      go_meet;exact⟨⟨s,A1,n1,c1⟩,O,⟨ar,by dsimp only;omega,by dsimp only;omega⟩,by dsimp only;omega,C.more oM,aj,H⟩
    case rest =>
     clear C O aj H ar;obtain⟨Q,a3,bg,aK,B,m,d⟩:=hcut;have b6:=a3.cell;have aL:=U.out;go_wp2_with (at_builtin;refine zeT w _ rfl _ _ _ rfl 38 _ 3 40 Tryz.underlying23 info_sys rfl dM vl l.length (zgP l) _ _ rfl rfl B.dr.size B.own rfl (by simp [Value.oneCell']) lM oM ?_;intro g5 cap5 w5' zkj hg5 hat5 hlt5)
     have aP:=B.push bg zkj hg5;rw [aL] at aP;go_roundw
     case rel=>exact⟨k+1,_,l++[Q],oM,rfl,gM,by unfold Hid;rw [List.length_append,aL];rfl,za (fun e he=>by rcases List.mem_append.1 he with J|J;exact ap.out e J;rw [List.mem_singleton] at J;subst J;exact aK),aP.more (show M+2+20*k+15<=M+2+20*(k+1) by omega),(hg5.block _ m.lt (fun e=>zr B.own m dM e.symm rfl)).trans m,zg d (Frm.ae hg5) (fun b hb hS=>zaB d B.own dM hb hS)⟩
     case measure=>simp [intOf];omega
   ·have bk:k=3:=oM;subst bk;obtain⟨g,cg,rfl⟩:∃ g cg,vl=.slice (some ⟨g,0,none⟩) 3 cg:=by
     have ho:=f.own.2;rw [U.out] at ho;rcases ho with ⟨_,h0⟩|⟨g,a7,b7,J,_⟩
     ·omega
     ·exact⟨g,a7,J⟩
    obtain⟨ad,x,e1,_,_,hx,cx⟩:=(eO d).str (show 3<4 by omega);obtain rfl:=Option.some.inj e1;have bG:=V x (dC hx.out);rw [zW,Nat.zero_add] at cx;have bI:=m.lt;go_wp2_with fail
    refine (zfy f.rd oM).mono ?_;rintro e L ⟨b,A1,n1,c1,A2,n2,c2,ok,rfl,aC,aE,bq,aJ⟩;have cq:=f.dr.size;have p:=(dB L).alloc (.cells #[b.al,.slice A1 n1 c1,.slice A2 n2 c2] 27);have bb:=Blk.new L 27 #[b.al,.slice A1 n1 c1,.slice A2 n2 c2];have o:=(f.drawn aJ bq).ext p;have r:=(m.dr aJ oM).ext p;have aD:=aC.ext p;clear aC d m cx;go_upto_region 13 with fail
    generalize hgb:L.heap.size=gb at *;generalize L.alloc _=wb at *;have cB:=bb.cells;have cz:=r.cell;have fz:=r.frozen;have an:Ext wb wb.drew:=(dB _).drew;obtain⟨-,f2⟩:=fin14 (N:=M+100000) U.out o aD oM oM (BdL.more aE.out oM) ap.out r rfl (dD _) oM;obtain⟨f1,-⟩:=fin14 (N:=M+100000) U.out (o.ext an) (aD.ext an) oM oM (BdL.more aE.out oM) ap.out (r.ext an) rfl (dD _) oM;go_wp2_with fail
    refine tR (fun X=>Ext wb X) [3] (Ord.of [0,1,2,3]) ?_;refine tQ ?_;refine zaa fun K hK=>?_;go_simp;refine hK.out _ _ ?_;refine zaG ?_;go_wp2_with fail
    have cf:=f2.cell;exact bodyPost_ret (v:=.tuple #[.slice (some g) 3 cg,.agg #[b.al,.slice A1 n1 c1,.slice A2 n2 c2]]) (by simp [results,Tryz.results115,go_sem,cf]) rfl f1.out
 ·have ct:((z:Int)==0)=false:=by simp;omega
  go_wp2_with fail
  refine (zdB aR oM).mono ?_;rintro e w3 ⟨s,A3,n3,c3,rfl,bA,-,cl,bn,aH⟩;go_wp2_with fail
  refine (zdB bn oM).mono ?_;rintro e w4 ⟨t,A4,n4,c4,rfl,V,-,cm,aq,y⟩;go_wp2_with fail
  refine (zdB aq oM).mono ?_;rintro e w5 ⟨u,A5,n5,c5,rfl,bB,-,cn,bo,S⟩;have aW:=((au.trans aH).trans y).trans S;have F:=((ah.dr aH oM).dr y oM).dr S oM;have f:=Sld.three (w0:=w) (a:=⟨s,A3,n3,c3⟩) (b:=⟨t,A4,n4,c4⟩) (c:=⟨u,A5,n5,c5⟩) bo aW aB ⟨(bA.dr y).dr S,by dsimp only;omega,by dsimp only;omega⟩ ⟨V.dr S,by dsimp only;omega,by dsimp only;omega⟩ ⟨bB,by dsimp only;omega,by dsimp only;omega⟩;dsimp only at f;have bF:=(dB w5).alloc (.cells #[s.al,s.st,.slice A3 n3 c3,t.al,t.st,.slice A4 n4 c4,u.al,u.st,.slice A5 n5 c5] 38);have a6:=F.ext bF;have cu:=F.lt;generalize hg6:w5.heap.size=g6 at *;go_upto_region 15 with fail
  generalize w5.alloc _=w6 at *;have hA:=partsA_cases [s,t,u];have aT:=f.sl rfl;have bH:=aW.size;go_wp2_with (first
   |(go_at_call 206;refine (zR aT).mono (mQ fun w7 aX=>?_);have I:=f.ext aX;have az:=a6.ext aX;have cv:=az.lt;have cp:=I.dr.size)
   |(go_at_call 205;refine (zhb I.rd oM hA).mono ?_;rintro e w8 ⟨b,A8,n8,d8,A9,n9,d9,rfl,bm,bi,bp,aI⟩;have ai:=az.dr aI oM;have b8:=ai.cell;have cc:=ai.frozen;have aU:=I.drawn aI bp))
  obtain⟨f1,f2⟩:=fin14 (N:=M+100000) rfl aU bm oM oM ((BdA.of bi.out).more oM) (fun e he=>by simp only [List.mem_cons,List.not_mem_nil,or_false] at he;rcases he with rfl|rfl|rfl<;>(dsimp only;omega)) ai rfl (dD _) oM
  have cf:=f2.cell;exact bodyPost_ret (v:=.tuple #[.slice (some g6) 3 3,.agg #[b.al,.slice A8 n8 d8,.slice A9 n9 d9]]) (by simp [results,Tryz.results115,go_sem,cf]) rfl f1.out
theorem entC_take (l:List Ent) (k:Nat):zgP (l.take k)=(zgP l).take (k*3):=by
 induction l generalizing k with
 |nil=>simp [zgP]
 |cons e r ih =>
  cases k with
  |zero=>simp [zgP]
  |succ k =>
   show e.cs++zgP (r.take k)=(e.cs++zgP r).take ((k+1)*3);rw [ih,List.take_append,show e.cs.length=3 by rfl,show (k+1)*3 - 3=k*3 by omega,dU (show e.cs.length<=(k+1)*3 by rw [show e.cs.length=3 by rfl];omega)]
section
variable {w0 W:World} {R M g n c:Nat} {l:List Ent}
theorem Sld.take (h:Sld w0 W R M (.slice (some g) n c) l)(hn:n=l.length)(hk:k<=n):Sld w0 W R M (.slice (some g) k c) (l.take k):=by
 subst hn;have p:(l.take k).length=k:=by rw [e8];omega
 refine⟨?_,fun e he=>h.ent e (List.mem_of_mem_take he),h.rd,h.dr,h.hR⟩;have q:=h.own;rw [p,entC_take];refine⟨by rw [e8,entC_length];omega,.inr ?_⟩;rcases q.2 with ⟨a,_⟩|⟨r,d,b,a,f,i,s,j,m,o⟩
 ·simp at a
 ·injection a with a h8 h9
  injection a with a
  injection a with a
  subst a;subst h9;refine⟨g,c,b,rfl,f,i,oM,j,m,?_⟩;rw [← o,List.take_take,Nat.min_eq_left oM]
theorem Sld.cap (h:Sld w0 W R M (.slice (some g) n c) l)(hn:n=l.length):n<=c:=by
 subst hn;rcases h.own.2 with ⟨a,_⟩|⟨d,cap,b,a,f,i,j,_⟩
 ·simp at a
 ·injection a with a h8 h9
  omega
theorem Sld.set1 {e:Ent}(h:Sld w0 W R M (.slice (some g) n c) l)(hn:n=l.length)(h2:2<=n)(he:e.ok W R) :
  Sld w0 (((W.setCell ⟨g,3,none⟩ e.s.al).setCell ⟨g,4,none⟩ e.s.st).setCell ⟨g,5,none⟩ (.slice e.A e.n e.c)) R M (.slice (some g) n c) (l.set 1 e):=by
 subst hn;have j:=(h.own.lt g rfl).1;have f:=h.hR;have m:Frm (fun k=>k=g) W (((W.setCell ⟨g,3,none⟩ e.s.al).setCell ⟨g,4,none⟩ e.s.st).setCell ⟨g,5,none⟩ (.slice e.A e.n e.c)):=
  ((dF W g 3 _).trans (dF _ g 4 _)).trans (dF _ g 5 _)
 have d:∀ x:Ent,x.ok W R->x.ok (((W.setCell ⟨g,3,none⟩ e.s.al).setCell ⟨g,4,none⟩ e.s.st).setCell ⟨g,5,none⟩ (.slice e.A e.n e.c)) R:=fun x hx =>
  ⟨hx.1.frm m (fun k hk _=>by subst hk;exact own_sys h.own rfl),hx.2⟩
 refine⟨?_,fun x hx=>?_,h.rd.frm m (fun k hk e=>oM),((h.dr.ag (p:=⟨g,3,none⟩) j _).ag (p:=⟨g,4,none⟩) j _).ag (p:=⟨g,5,none⟩) j _,f⟩
 ·have o:=(((h.own.stored 3 (.int .i64 e.s.al)).1.stored 4 (.int .i64 e.s.st)).1.stored 5 (.slice e.A e.n e.c)).1;rw [fX];have i:(((zgP l).set 3 (.int .i64 e.s.al)).set 4 (.int .i64 e.s.st)).set 5 (.slice e.A e.n e.c)=zgP (l.set 1 e):=by
   match l,h2 with
   |a :: b :: r,_=>rfl
  rw [← i];exact o
 ·rcases List.mem_or_eq_of_mem_set hx with hx|hx
  ·exact d x (h.ent x hx)
  ·subst hx;exact d _ he
theorem Sld.at_ {i:Nat} {e:Ent}(h:Sld w0 W R M (.slice (some g) n c) l)(hn:n=l.length)(he:l[i]?=some e) :
  W.cell? ⟨g,i*3,none⟩=some (.int .i64 e.s.al)∧W.cell? ⟨g,i*3+1,none⟩=some (.int .i64 e.s.st)∧W.cell? ⟨g,i*3+2,none⟩=some (.slice e.A e.n e.c):=by
 subst hn;have f:=(List.getElem?_eq_some_iff.1 he).1;obtain⟨a,b,d⟩:=zjq he;exact⟨(h.own.cellAt (i*3) oM).trans a,(h.own.cellAt (i*3+1) oM).trans b,(h.own.cellAt (i*3+2) oM).trans d⟩
end
def RetL14A (R M:Nat) (w:World) (e:Ending) (w':World):Prop:=
 ∃ (l:List Ent) (k g c:Nat) (b:Aut) (A:Option Addr) (n c1:Nat) (A':Option Addr) (n' c2:Nat),Hid (k=l.length)∧k<=4∧e=.returned (.tuple #[.slice (some g) k c,.agg #[b.al,.slice A n c1,.slice A' n' c2]])∧Sld w w' R M (.slice (some g) k c) l∧zP w' (R+1) A n c1 A' n' c2 b∧Hid (BdA 100 b)
structure L14S (w0 W:World) (R G M g k c:Nat) (l:List Ent) (b:Aut) (A:Option Addr) (n c1:Nat) (A':Option Addr) (n' c2:Nat):Prop where
 sld:Sld w0 W R M (.slice (some g) k c) l
 len:Hid (k=l.length)
 blk:Blk W (G) 27 #[b.al,.slice A n c1,.slice A' n' c2]
 own:zP W (R+1) A n c1 A' n' c2 b
 bd:Hid (BdA 100 b)
 z:Blk W w0.heap.size 27 #[(0:Int),(),()]
 hG:w0.heap.size<G
section
variable {w0 W W':World} {R G M N g k c:Nat} {l:List Ent} {b:Aut} {A:Option Addr} {n c1:Nat} {A':Option Addr} {n' c2:Nat}
theorem L14S.drawn (h:L14S w0 W R G M g k c l b A n c1 A' n' c2)(hd:Dr R W W')(hr:Rd W' R N):L14S w0 W' R G N g k c l b A n c1 A' n' c2:=
 have hR:=h.sld.hR
 ⟨h.sld.drawn hd hr,h.len,h.blk.dr hd (oH h.hG),h.own.keep hd (fun b h1 e=>oM),h.bd,h.z.dr hd oM,h.hG⟩
theorem L14S.more (h:L14S w0 W R G M g k c l b A n c1 A' n' c2)(hM:M<=N):L14S w0 W R G N g k c l b A n c1 A' n' c2:={ h with sld:=h.sld.more hM }
theorem L14S.far (h:L14S w0 W R G M g k c l b A n c1 A' n' c2):g≠w0.heap.size∧g≠G:=⟨zr h.sld.own h.z dM rfl,zr h.sld.own h.blk dM rfl⟩
theorem L14S.setP {b1:Aut} {A1:Option Addr} {n1 d1:Nat} {A2:Option Addr} {n2 d2:Nat}(h:L14S w0 W R G M g k c l b A n c1 A' n' c2)(ho:zP W (R+1) A1 n1 d1 A2 n2 d2 b1)(hb:BdA 100 b1) :
  L14S w0 (((W.setCell G b1.al).setCell ⟨G,1,none⟩ (.slice A1 n1 d1)).setCell ⟨G,2,none⟩ (.slice A2 n2 d2)) R G M g k c l b1 A1 n1 d1 A2 n2 d2:=by
 have f:=h.sld.hR;have d:=h.hG;have a:=zZ W (G) (.int .i64 b1.al) (.slice A1 n1 d1) (.slice A2 n2 d2);refine⟨⟨zg h.sld.own a (fun k hv e=>zr h.sld.own h.blk dM hv e),fun e he=>⟨(h.sld.ent e he).1.far h.blk dM a,(h.sld.ent e he).2⟩,h.sld.rd.frm a (fun k hk e=>oM),?_,f⟩,h.len,zag h.blk rfl _ _ _,ho.aq h.blk a dM,za hb,h.z.frm a oM,d⟩;exact ((h.sld.dr.ag (p:=⟨G,0,none⟩) (jZ h.hG) _).ag (p:=⟨G,1,none⟩) (jZ h.hG) _).ag (p:=⟨G,2,none⟩) (jZ h.hG) _
theorem L14S.set1 {e:Ent}(h:L14S w0 W R G M g k c l b A n c1 A' n' c2)(h2:2<=k)(he:e.ok W R) :
  L14S w0 (((W.setCell ⟨g,3,none⟩ e.s.al).setCell ⟨g,4,none⟩ e.s.st).setCell ⟨g,5,none⟩ (.slice e.A e.n e.c)) R G M g k c (l.set 1 e) b A n c1 A' n' c2:=by
 obtain⟨d,f⟩:=h.far;have a:Frm (fun k'=>(Value.slice (some g) k c).ownBlock=some k') W (((W.setCell ⟨g,3,none⟩ e.s.al).setCell ⟨g,4,none⟩ e.s.st).setCell ⟨g,5,none⟩ (.slice e.A e.n e.c)):=
  (((dF W g 3 _).trans (dF _ g 4 _)).trans (dF _ g 5 _)).mono (fun k _ hk=>by subst hk;rfl)
 refine⟨h.sld.set1 h.len.out h2 he,za (by rw [fX];exact h.len.out),h.blk.frm a (fun e=>by simp [Value.ownBlock] at e;exact f e),h.own.farR h.sld.own a dM,h.bd,h.z.frm a (fun e=>by simp [Value.ownBlock] at e;exact d e),h.hG⟩
theorem L14S.fin (h:L14S w0 W R G M g k c l b A n c1 A' n' c2)(hk:k<=4)(hM:M<=N) :
  Hid (RetL14A R N w0 (.returned (.tuple #[.slice (some g) k c,.agg #[b.al,.slice A n c1,.slice A' n' c2]])) (((W.setCell w0.heap.size b.al).setCell ⟨w0.heap.size,1,none⟩ (.slice A n c1)).setCell ⟨w0.heap.size,2,none⟩ (.slice A' n' c2))) ∧
  Blk (((W.setCell w0.heap.size b.al).setCell ⟨w0.heap.size,1,none⟩ (.slice A n c1)).setCell ⟨w0.heap.size,2,none⟩ (.slice A' n' c2)) w0.heap.size 27 #[.int .i64 b.al,.slice A n c1,.slice A' n' c2]:=by
 have d:=h.sld.hR;have f:=h.hG;have a:=zZ W w0.heap.size (.int .i64 b.al) (.slice A n c1) (.slice A' n' c2);refine⟨za ⟨l,k,g,c,b,A,n,c1,A',n',c2,h.len,hk,rfl,⟨zg h.sld.own a (fun k hv e=>zr h.sld.own h.z dM hv e),fun e he=>⟨(h.sld.ent e he).1.far h.z dM a,(h.sld.ent e he).2⟩,(h.sld.rd.more hM).frm a (fun k hk e=>oM),?_,d⟩,h.own.aq h.z a dM,h.bd⟩,zag h.z rfl _ _ _⟩;exact ((h.sld.dr.ag (p:=⟨w0.heap.size,0,none⟩) (dD _) _).ag (p:=⟨w0.heap.size,1,none⟩) (dD _) _).ag (p:=⟨w0.heap.size,2,none⟩) (dD _) _
end
theorem spec_l14Any (h:Rd w R M)(hM:M<=500000000) :
  Calls Tryz.prog 47 #[.pointer (some R)] w (RetL14A R (M+200000) w):=by
 have ap:=h.lt
 go_enter Tryz.func47,Tryz.ntmps47
 go_wp2_with fail
 generalize U0:w.alloc _=w1 at *;have V:=Ext.al_ U0;have bz:=Ext.bl_ U0;have a6:w1.heap.size=w.heap.size+1:=by rw [← U0];simp
 clear U0;refine (spec_l14Draw (h.ext V) oM).mono ?_;rintro e w2 ⟨l,g,c,b,A,n,j,i,r,m,x,rfl,f,B,o,af⟩;have E:=(dB w2).alloc (.cells #[b.al,.slice A n j,.slice i r m] 27);have bb:=Blk.new w2 27 #[b.al,.slice A n j,.slice i r m];have D:=(f.less V.dr ap).ext E;have a7:=f.dr.size;have a:=(⟨D,za x.symm,bb,B.ext E,za (BdL.more o.out oM),(bz.dr f.dr oM).ext E,oM⟩:L14S w _ R w2.heap.size (M+100000) g 3 c l b A n j i r m);have F:=o;clear D f bb B o E bz V;go_upto_region 2 with fail
 generalize hG:w2.heap.size=G at *;generalize w2.alloc _=w3 at *;go_wp2_with fail
 refine (zL a.sld.rd oM).mono ?_;rintro e w4 ⟨y,rfl,-,-,ah,ad⟩;replace a:=a.drawn ad ah;go_upto_block 0 with fail
 go_cut [4] (fun v wx=>∃ (l:List Ent) (k g c:Nat) (b:Aut) (A:Option Addr) (n j:Nat) (i:Option Addr) (r m:Nat),v=.slice (some g) k c∧k<=4∧L14S w wx R G (M+150000) g k c l b A n j i r m)
 case first =>
  by_cases hy0:y=0
  ·subst hy0;go_wp2_with fail
   refine (zL a.sld.rd oM).mono ?_;rintro e w5 ⟨q,rfl,hq,-,U,O⟩;have a4:q<3:=by have:=hq oM;omega
   replace a:=a.drawn O U;have a5:q<=c:=by have:=a.sld.cap x.symm;omega
   go_wp2_with fail
   go_meet;exact⟨l.take q,q,g,c,b,A,n,j,i,r,m,rfl,oM,⟨(a.sld.take a.len.out oM).more oM,za (by rw [e8,x];omega),a.blk,a.own,a.bd,a.z,a.hG⟩⟩
  by_cases hy1:y=1
  ·subst hy1;go_wp2_with fail
   refine (zdB a.sld.rd oM).mono ?_;rintro e w5 ⟨s,A5,n5,c5,rfl,ax,-,a2,U,O⟩;replace a:=a.drawn O U;have av:(⟨s,A5,n5,c5⟩:Ent).ok w5 R:=⟨ax,by dsimp only;omega,by dsimp only;omega⟩;go_wp2_with (at_builtin;refine zeT w _ rfl _ _ _ rfl 38 _ 3 40 Tryz.underlying23 info_sys rfl dM (.slice (some g) 3 c) l.length (zgP l) _ _ rfl rfl a.sld.dr.size a.sld.own rfl (by simp [Value.oneCell']) lM oM ?_;intro g5 cap5 w6 zkj hg5 hat5 hlt5)
   have ag:=a.sld.push av zkj hg5;rw [x] at ag;obtain⟨f1,f2⟩:=a.far;go_meet;exact⟨l++[⟨s,A5,n5,c5⟩],4,g5,cap5,b,A,n,j,i,r,m,rfl,oM,⟨ag.more oM,za (by simp [x]),(hg5.block _ a.blk.lt (fun e=>f2 (by simpa [Value.ownBlock] using e.symm))).trans a.blk,a.own.farR a.sld.own (Frm.ae hg5) dM,a.bd,(hg5.block _ a.z.lt (fun e=>f1 (by simpa [Value.ownBlock] using e.symm))).trans a.z,a.hG⟩⟩
  by_cases hy2:y=2
  ·subst hy2;obtain⟨t,u⟩:∃ t,l[1]?=some t:=⟨l[1]' oM,dE _⟩;obtain⟨c0,Z,aa⟩:=a.sld.at_ x.symm u;have d:t.ok w4 R∧t.n<=40000:=⟨a.sld.ent t (dC u),af.out t (dC u)⟩;go_wp2_with fail
   refine (zeP (L:=t.n) a.sld.rd oM d.1.1 (dD _) (oH d.2)).mono ?_;rintro e v1 ⟨s1,A1,n1,d1,rfl,aw,aZ,Q,H⟩;replace a:=a.drawn H Q;clear c0 Z aa u;have p:=za d;clear d;go_wp2_with fail
   refine (zeP (L:=n1) a.sld.rd oM aw (dD _) (oH p.out.2)).mono ?_;rintro e v2 ⟨s2,A2,n2,d2,rfl,f,a0,S,I⟩;replace a:=a.drawn I S;go_wp2_with fail
   refine (zeP (L:=n2) a.sld.rd oM f (dD _) (oH p.out.2)).mono ?_;rintro e v3 ⟨s3,A3,n3,d3,rfl,D,a1,T,J⟩;replace a:=a.drawn J T;have aH:n3<=50000:=oH p.out.2;obtain⟨aV,ae⟩:∃ t,l[1]?=some t:=⟨l[1]' oM,dE _⟩;obtain⟨c0,Z,aa⟩:=a.sld.at_ x.symm ae;have C:=a.sld.own;rw [x] at C;have f3:=C.frozenAt;have fin:=a.set1 (e:=⟨s3,A3,n3,d3⟩) oM ⟨D,by dsimp only;omega,by dsimp only;omega⟩;go_wp2_with fail
   go_meet;exact⟨l.set 1 ⟨s3,A3,n3,d3⟩,3,g,c,b,A,n,j,i,r,m,rfl,oM,fin.more oM⟩
  by_cases hy3:y=3
  ·subst hy3;have cG:=a.blk.cell;go_wp2_with fail
   refine (zeQ a.sld.rd oM a.own F.out oM).mono ?_;rintro e w5 ⟨b1,A1,n1,d1,B1,m1,e1,rfl,au,aq,Q,H⟩;have aW:=a.sld.dr.size;replace a:=a.drawn H Q;have aX:=a.sld.dr.size;clear cG;go_wp2_with fail
   refine (zeQ a.sld.rd oM (au.less oM) aq.out oM).mono ?_;rintro e w6 ⟨b2,A2,n2,d2,B2,m2,e2,rfl,B,o,S,I⟩;replace a:=a.drawn I S;go_wp2_with fail
   refine (zeQ a.sld.rd oM (B.less oM) o.out oM).mono ?_;rintro e w7 ⟨b3,A3,n3,d3,B3,m3,e3,rfl,C,ar,T,J⟩;have aY:=a.sld.dr.size;replace a:=a.drawn J T;have cG:=a.blk.cell;have fG:=a.blk.frozen;have fin:=a.setP (C.less oM) (BdL.more ar.out oM);go_wp2_with fail
   go_meet;exact⟨l,3,g,c,b3,A3,n3,d3,B3,m3,e3,rfl,oM,fin.more oM⟩
  have h0:((y:Int)==0)=false:=by simp;omega
  have h1:((y:Int)==1)=false:=by simp;omega
  have h2:((y:Int)==2)=false:=by simp;omega
  have h3:((y:Int)==3)=false:=by simp;omega
  clear hy0 hy1 hy2 hy3;go_wp2_with fail
  go_meet;exact⟨l,3,g,c,b,A,n,j,i,r,m,rfl,oM,a.more oM⟩
 case rest =>
  clear a x af F ah ad;obtain⟨l,k,g,c,b,A,n,j,i,r,m,rfl,hk,a⟩:=hcut;obtain⟨Y,ay⟩:∃ Y,Y=wc:=⟨_,rfl⟩;subst ay;have cB:=fun W (hW:Ext Y W)=>(a.blk.ext hW).cell;have cz:=a.z.cell;have fz:=a.z.frozen;have ab:Ext Y Y.drew:=(dB _).drew;obtain⟨-,f2⟩:=a.fin hk (show M+150000<=M+200000 by omega);obtain⟨f1,-⟩:=(a.drawn ab.dr (a.sld.rd.ext ab)).fin hk (show M+150000<=M+200000 by omega);go_wp2_with fail
  refine tR (fun X=>Ext Y X) [3] (Ord.of [0,1,2,3]) ?_;refine tQ ?_;refine zaa fun K hK=>?_;go_simp;refine hK.out _ _ ?_;refine zaG ?_;go_wp2_with fail
  have cf:=f2.cell;exact bodyPost_ret (v:=.tuple #[.slice (some g) k c,.agg #[b.al,.slice A n j,.slice i r m]]) (by simp [results,Tryz.results47,go_sem,cf]) rfl f1.out
def RetDC (w:World) (e:Ending) (w':World):Prop:=
 ∃ (ss:List Sys) (k g c:Nat) (b:Aut) (A:Option Addr) (n c1:Nat) (A':Option Addr) (n' c2:Nat),Hid (k=ss.length)∧k<=4∧k<=c∧e=.returned (.tuple #[.slice (some g) k c,.agg #[b.al,.slice A n c1,.slice A' n' c2]])∧zdE w' w.heap.size w'.heap.size (some ⟨g,0,none⟩) k ss∧zD w' w.heap.size w'.heap.size A n A' n' b∧Hid (BdA 100 b)∧Ext w w'
theorem zP.at_new {c':Nat} (h:zP w base A n c A' n' c' a)(hl:lo<=base):zD w lo w.heap.size A n A' n' a:=(h.less hl).reads
theorem sl_of {l:List Ent}(ho:W.ownsRow base 38 3 (.slice A n c) n (zgP l))(hn:n=l.length)(he:∀ e∈l,e.ok W R)(hb:lo<=base)(hR:lo<=R+1):zdE W lo W.heap.size A n (l.map Ent.s):=by
 have g:=eO ho;refine⟨by simpa using hn,zgP l,g.more hb (dD _),fun k s hs=>?_⟩;rw [List.getElem?_map,Option.map_eq_some_iff] at hs;obtain⟨e,a,rfl⟩:=hs;obtain⟨b,d,f⟩:=zjq a;exact⟨e.A,e.n,e.c,b,d,f,(he e (dC a)).1.at_.more hR (dD _)⟩
theorem draw_cl {w1:World} {l:List Ent}    (hl:k=l.length)(hk:k<=4)(hs:Sld w1 W R M (.slice (some g) k c) l)(ho:zP W (R+1) A n c1 A' n' c2 b)(hb:BdA 100 b)(hR:w.heap.size<R)(hx:Ext w w1)(hz:Blk W w.heap.size 27 cs)(hc:cs.size=3) :
  RetDC w (.returned (.tuple #[.slice (some g) k c,.agg #[b.al,.slice A n c1,.slice A' n' c2]])) (((W.setCell w.heap.size b.al).setCell ⟨w.heap.size,1,none⟩ (.slice A n c1)).setCell ⟨w.heap.size,2,none⟩ (.slice A' n' c2)) ∧
  Blk (((W.setCell w.heap.size b.al).setCell ⟨w.heap.size,1,none⟩ (.slice A n c1)).setCell ⟨w.heap.size,2,none⟩ (.slice A' n' c2)) w.heap.size 27 #[.int .i64 b.al,.slice A n c1,.slice A' n' c2]:=by
 have a:=zZ W w.heap.size (.int .i64 b.al) (.slice A n c1) (.slice A' n' c2);have d:Ext w W:=Dr.new hx oM hs.dr;have f:=hs.hR;refine⟨⟨l.map Ent.s,k,g,c,b,A,n,c1,A',n',c2,za (by rw [List.length_map];exact hl),hk,hs.cap hl,rfl,?_,?_,za hb,((d.setCell (p:=⟨w.heap.size,0,none⟩) (dD _) _).setCell (p:=⟨w.heap.size,1,none⟩) (dD _) _).setCell (p:=⟨w.heap.size,2,none⟩) (dD _) _⟩,zag hz hc _ _ _⟩
 ·refine sl_of (base:=w1.heap.size) (c:=c) ?_ hl (fun e he=>(⟨(hs.ent e he).1.far hz dM a,(hs.ent e he).2⟩:e.ok _ R)) oM oM;have ho:=hs.own;rw [← hl] at ho;exact zaQ ho a (fun b h1 e=>oM)
 ·exact (ho.keep a (fun b h1 e=>oM)).at_new oM
theorem vcT_none (h:three ss p=false):vcT ss p=⟨3,noA,noA,⟨#[]⟩,0⟩:=by
 unfold vcT;split
 ·rename_i x y z;have:zas [x,y,z] p = -1:=by unfold zas;rw [h];rfl
  rw [this];rfl
 ·rfl
theorem spec_VerifyChainA {hi lo1 hi1 m d m' d':Nat} {B B':Option Addr}  (h:zdE w lo hi A n ss)(hp:zD w lo1 hi1 B m B' m' p)(hhi:hi<=w.heap.size)(hhi1:hi1<=w.heap.size) :
  Calls Tryz.prog 18 #[.slice A n c,.agg #[p.al,.slice B m d,.slice B' m' d']] w (zhu w (vcT ss p)):=by
 cases h3:three ss p
 ·rw [vcT_none h3];exact zgA h hp h3
 ·obtain⟨x,y,z,rfl⟩:=zbm h3;obtain⟨q,a,f⟩:=zdd h3;have e:vcT [x,y,z] p=chT x y z p q 12 0 ((zX q (zo x p q) [⟨#[]⟩] 11 [⟨#[]⟩]).map fun r=>(r,[⟨#[]⟩])):=by
   unfold vcT;dsimp only;rw [a,if_pos oM,Int.toNat_natCast]
  rw [e];obtain rfl:n=3:=h.1;obtain⟨b,o,s,i,g,j,rfl,_,_,_⟩:=h.sys (k:=0) oM;exact zgB h hp h3 a oM hhi hhi1
theorem spec_DrawVerifyChain (h:Bytes w A n)(hn:n<=9223372036854775807)(hc:n<=c)(hc2:c<=9223372036854775807) :
  Calls Tryz.prog 15 #[.slice A n c] w (RetDC w):=by
 have d:=(dB w).alloc (.cells #[(0:Int),(),()] 27);have B:=za (h.ext d);clear h
 go_enter Tryz.func15,Tryz.ntmps15
 go_wp2_with fail
 generalize U0:w.alloc _=L at *;have m:=Ext.bl_ U0;have F:=m.lt;clear U0;refine (spec_l19Open B.out hn hc hc2).mono ?_;rintro e M ⟨R,rfl,J,o,f⟩;have j:=d.trans f;have i:=m.ext f;go_wp2_with fail
 refine (spec_l14Any o oM).mono ?_;rintro e O ⟨l,k,g,c,b,A,n,t,r,G,u,D,C,rfl,q,E,z⟩;have a:=i.dr q.dr oM;have H:=a.cell;have I:=a.frozen;obtain⟨p,y⟩:=draw_cl D.out C q E z.out oM j a rfl;have s:=za p;clear p m i d f;go_wp2_with fail
 have x:=y.cell;exact bodyPost_ret (v:=.tuple #[.slice (some g) k c,.agg #[b.al,.slice A n t,.slice r G u]]) (by simp [results,Tryz.results15,go_sem,x]) rfl s.out
section
variable {lo hi lo' hi' n c m d n' c' m' d':Nat} {A B A' B':Option Addr} {w:World}
theorem yH17a1 {P:Prop}(h:P:=by
 obtain rfl:x=y:=Option.some.inj (hx.out.symm.trans hy.out);go_wp2
 go_quiet (fail)
 go_wp2;go_roundw
 case rel=>exact⟨k+1,oM,gM,zjZ.drewN _⟩
 case measure=>simp [intOf];omega
 ):P:=h
theorem agIntsI_same {l:List Int}(h:Reads w lo hi 1 A n (ints l))(h':Reads w lo' hi' 1 B m (ints l)) :
  Calls Tryz.prog 201 #[.slice A n c,.slice B m d] w fun e w'=>e=.returned (.bool true)∧Ext w w':=by
 have r:=h.len;have b:=h.length;have f:=h'.length;rw [zdh] at b f;obtain rfl:n=m:=oM;clear b f;have g:=za (fun W (hW:Ext w W)=>h.ext hW);have a:=za (fun W (hW:Ext w W)=>h'.ext hW)
 go_enter Tryz.func201,Tryz.ntmps201
 go_wp2
 go_loopw [5] (fun v wr=>∃ k:Nat,k<=n∧v=.int .i64 k∧Ext w wr) (fun v _=>n - (intOf v).toNat)
 case atStart=>exact⟨0,dG _,rfl,dB _⟩
 case round =>
  obtain⟨k,q,rfl,zjZ⟩:=hrel
  by_cases hlt:k<n
  ·obtain⟨o,x,rfl,_,_,hx,p⟩:=(g.out wr zjZ).int hlt;obtain⟨i,y,rfl,_,_,hy,j⟩:=(a.out wr zjZ).int hlt;exact yH17a1
  ·obtain rfl:k=n:=oM;go_wp2;go_ret;exact⟨rfl,zjZ⟩
theorem agBools_same {l:List Bool}(h:Reads w lo hi 1 A n (zap l))(h':Reads w lo' hi' 1 B m (zap l)) :
  Calls Tryz.prog 200 #[.slice A n c,.slice B m d] w fun e w'=>e=.returned (.bool true)∧Ext w w':=by
 have r:=h.len;have b:=h.length;have f:=h'.length;rw [zcf] at b f;obtain rfl:n=m:=oM;clear b f;have g:=za (fun W (hW:Ext w W)=>h.ext hW);have a:=za (fun W (hW:Ext w W)=>h'.ext hW)
 go_enter Tryz.func200,Tryz.ntmps200
 go_wp2
 go_loopw [5] (fun v wr=>∃ k:Nat,k<=n∧v=.int .i64 k∧Ext w wr) (fun v _=>n - (intOf v).toNat)
 case atStart=>exact⟨0,dG _,rfl,dB _⟩
 case round =>
  obtain⟨k,q,rfl,zjZ⟩:=hrel
  by_cases hlt:k<n
  ·obtain⟨o,x,rfl,_,_,hx,p⟩:=(g.out wr zjZ).bool hlt;obtain⟨i,y,rfl,_,_,hy,j⟩:=(a.out wr zjZ).bool hlt;exact yH17a1
  ·obtain rfl:k=n:=oM;go_wp2;go_ret;exact⟨rfl,zjZ⟩
theorem zez (h:zD w lo hi A n A' n' a)(h':zD w lo' hi' B m B' m' a) :
  Calls Tryz.prog 111 #[.agg #[a.al,.slice A n c,.slice A' n' c'],.agg #[a.al,.slice B m d,.slice B' m' d']] w fun e w'=>e=.returned (.bool true)∧Ext w w':=by
 have U:=h.1.len;obtain rfl:n=m:=h.1.1.trans h'.1.1.symm;have u:=za (fun W (hW:Ext w W)=>h.1.ext hW);have i:=za (fun W (hW:Ext w W)=>h'.1.ext hW);have s:=za (fun W (hW:Ext w W)=>agBools_same (c:=c') (d:=d') (h.2.2.ext hW) (h'.2.2.ext hW));clear h h'
 go_enter Tryz.func111,Tryz.ntmps111
 go_upto_region 1 with fail
 generalize U0:(w.alloc _).alloc _=r at *;obtain⟨b,y,z⟩:=Ext.x2_ U0;clear U0;have C:=y.cells;have E:=z.cells;have J:=dB r;go_wp2_with (first
  |(go_at_call 200;refine (s.out _ b).mono (mQ fun V o=>?_)))
 go_loopw [5] (fun v wr=>∃ k:Nat,k<=n∧v=.int .i64 k∧Ext r wr) (fun v _=>n - (intOf v).toNat)
 case atStart=>exact⟨0,dG _,rfl,o⟩
 case round =>
  obtain⟨k,T,rfl,zjZ⟩:=hrel
  by_cases hlt:k<n
  ·obtain⟨Q,M,G,l,rfl,_,_,hx,I,q⟩:=(u.out wr (b.trans zjZ)).row hlt;obtain⟨x,O,H,L,rfl,_,_,hy,j,f⟩:=(i.out wr (b.trans zjZ)).row hlt;obtain rfl:l=L:=Option.some.inj (hx.out.symm.trans hy.out);have t:=za (fun W (hW:Ext wr W)=>agIntsI_same (c:=G) (d:=H) (q.ext hW) (f.ext hW));clear q f;have g:=dB wr;have R:=fun W (hW:Ext wr W)=>hW.aa I;have S:=fun W (hW:Ext wr W)=>hW.aa j;have D:=fun W (hW:Ext wr W)=>C W (zjZ.trans hW);have F:=fun W (hW:Ext wr W)=>E W (zjZ.trans hW);go_upto_region 6 with fail
   refine uR (fun X=>Ext wr X) [10] (zv.of [0,1,2,3,4,5,6,7,8,9,10,11]) ?_;refine uQ ?_;refine zb fun K hK=>?_;go_simp;refine (t.out _ g.drew).mono (mQ fun Y p=>?_);refine hK.out _ _ ?_;refine pT ?_;refine uQ ?_;refine zf ?_;go_wp2_with fail
   go_roundw
   case rel=>exact⟨k+1,oM,gM,zjZ.trans (g.drew.trans p)⟩
   case measure=>simp [intOf];omega
  ·obtain rfl:k=n:=oM;go_wp2_with fail
   go_ret;exact⟨rfl,b.trans zjZ⟩
end
section
variable {lo hi lo' hi' lo1 hi1 lo2 hi2 n c m d n' c' m' d' k e k' e' q f0 q' f0':Nat} {A B A' B' C C' D D':Option Addr} {w:World}
theorem zjc {f u:Aut}(h:zD w lo hi A n A' n' f)(h':zD w lo' hi' B m B' m' f) (g:zD w lo1 hi1 C k C' k' u) (g':zD w lo2 hi2 D q D' q' u) :
  Calls Tryz.prog 55 #[.agg #[f.al,.slice A n c,.slice A' n' c',u.al,.slice C k e,.slice C' k' e'],.agg #[f.al,.slice B m d,.slice B' m' d',u.al,.slice D q f0,.slice D' q' f0']] w fun e w'=>e=.returned (.bool true)∧Ext w w':=by
 have p:=za (fun W (hW:Ext w W)=>zez (c:=c) (c':=c') (d:=d) (d':=d') (h.ext hW) (h'.ext hW));have r:=za (fun W (hW:Ext w W)=>zez (c:=e) (c':=e') (d:=f0) (d':=f0') (g.ext hW) (g'.ext hW));clear g g';clear h h'
 go_enter Tryz.func55,Tryz.ntmps55
 go_upto_region 1 with fail
 generalize U0:(w.alloc _).alloc _=t at *;obtain⟨a,l,o⟩:=Ext.x2_ U0;clear U0;have v:=l.cells;have x:=o.cells;have s:=dB t;clear l o;go_wp2_with (first
  |(go_at_call 111;with_reducible refine (p.out _ a).mono (mQ fun y b=>?_))
  |(go_at_call 111;with_reducible refine (r.out _ (a.trans b)).mono (mQ fun z j=>?_);have i:=b.trans j))
 go_ret;exact⟨rfl,a.trans i⟩
theorem agChainVerdicts_same {v:Vc}(h:zD w lo hi A n A' n' v.fst)(h':zD w lo' hi' B m B' m' v.fst) (g:zD w lo1 hi1 C k C' k' v.snd) (g':zD w lo2 hi2 D q D' q' v.snd) :
  Calls Tryz.prog 17 #[.agg #[v.code,v.fst.al,.slice A n c,.slice A' n' c',v.snd.al,.slice C k e,.slice C' k' e',v.tr,v.ro],.agg #[v.code,v.fst.al,.slice B m d,.slice B' m' d',v.snd.al,.slice D q f0,.slice D' q' f0',v.tr,v.ro]] w fun e w'=>e=.returned (.bool true)∧Ext w w':=by
 have j:=za (fun W (hW:Ext w W)=>zjc (c:=c) (c':=c') (d:=d) (d':=d') (e:=e) (e':=e') (f0:=f0) (f0':=f0') (h.ext hW) (h'.ext hW) (g.ext hW) (g'.ext hW));clear g g';clear h h'
 go_enter Tryz.func17,Tryz.ntmps17
 go_upto_region 1 with fail
 generalize U0:(w.alloc _).alloc _=o at *;obtain⟨a,f,i⟩:=Ext.x2_ U0;clear U0;have p:=f.cells;have r:=i.cells;have l:=dB o;clear f i;go_wp2_with (first
  |(go_at_call 55;with_reducible refine (j.out _ a).mono (mQ fun s b=>?_)))
 go_ret;exact⟨rfl,a.trans b⟩
end
theorem vcT_noneL (h:(vcT ss p).code≠0):(vcT ss p).fst=noA∧(vcT ss p).snd=noA:=by
 cases h3:three ss p
 ·rw [zen h3];exact⟨rfl,rfl⟩
 ·obtain⟨x,y,z,rfl⟩:=zbm h3;obtain⟨L,-,-,a⟩:=vcT_ok h3;exact a.none_ h
section
open Go.ChangeShapes Go.WideShapes Go.ChangeAt Go.Deep
def BytesAt (w:World) (A:Option Addr) (n c:Nat):Prop:=Bytes w A n∧n<=9223372036854775807∧n<=c∧c<=9223372036854775807
theorem arg_bytes {H:Type} {enc:TypeId × Value->H}  {spare:Nat->Bool} {held:Bool} {r:Reach} {b0:Nat}  {d:DataW H} {p:List MemPlace}(hv:Value.okWide Tryz.prog w r b0 22 v)(h:DataW.Trod enc Tryz.prog w 0 spare held 22 v d p) :
  ∃ (A:Option Addr) (n c:Nat),v=.slice A n c∧BytesAt w A n c:=by
 obtain⟨a,l,k,rfl⟩:=okWide_slice Tryz.underlying22 hv;obtain⟨t,E⟩:=h;rcases open_slice1 Tryz.underlying22 kM E with ⟨f,_⟩|⟨s,J,z,m,n,V,D,L,f,Q,F,I,q,_,hx⟩
 ·simp [Value.cells] at f;obtain⟨rfl,rfl,rfl⟩:=f;exact⟨_,_,_,rfl,fun h=>absurd h oM,oM,dD _,oM⟩
 ·simp [Value.cells] at f;obtain⟨rfl,rfl,rfl⟩:=f;unfold maxLen at I;have G:l<=m:=by rw [q];split<;>omega
  refine⟨_,_,_,rfl,fun hn=>?_,oM,F,oM⟩;have u:=(hx 0 oM).1;have y:=zdL u;have g:=World.block_lt_of_cell? w _ u;rw [ziD] at g;refine⟨s.block,s.off,by rw [← y],g,fun j hj=>?_⟩;obtain⟨x,B⟩:=hx j oM;obtain⟨b,i,_,o⟩:=DataW.trod_int Tryz.underlying5 B;have C:V j=.int .u8 b:=by simpa using i
  rw [C,y,zW] at x;have R:0<=b∧b<256:=by
   simp only [Lit.wf,dH,decide_eq_true_eq] at o;have M:IntKind.u8.min=0:=rfl;have O:IntKind.u8.max=255:=rfl;omega
  refine⟨b.toNat,oM,?_⟩;rw [x];have:((b.toNat:Nat):Int)=b:=oM;rw [this]
end
end Go.Proofs.YtckbjnndaaoddaaGreatDoor
