/- Drawn automa -/
import Derived.Test.YtckbjnndaaoddaaGreatDoorX15
import Derived.Laws.StructEq
set_option maxHeartbeats 4000000
set_option maxRecDepth 100000
namespace Go.Proofs.YtckbjnndaaoddaaGreatDoor
open Go Go.RowKit
open Blk renaming new->eB
open Ext renaming refl->cY
open Frm renaming setCell->dG
open List renaming getElem?_append_left->dJ,getElem?_eq_getElem->dC,getElem?_set_ne->fR,getElem?_set_self->eZ,length_set->fB,mem_of_getElem?->dD,mem_or_eq_of_mem_set->e8,nil_append->eJ,getElem?_eq_some_iff->kB
open Nat renaming le_refl->dE,le_trans->dL,zero_add->dX,zero_le->dH
open Reads renaming af->eF
open Bool renaming false->j3
open Go renaming Calls->j8,Value->j6,World->j2
open Go.Ending renaming returned->j7
open Go.IntKind renaming i64->iX
open Go.Value renaming agg->j4,pointer->kD,slice->fF
open Option renaming none->fW,some->fV
open Option.some renaming inj->kA
open _root_.Go.Proofs.Tryz renaming prog->j5
variable {A A' A2:Option Addr} {G L M N R Z a c c' d2 g i n n' n2:Nat} {W w w' w0 w1:j2} {acc:List Bool} {al st x:Int} {b:Aut} {cs us:Array j6} {es:List Edg} {l:List Int} {ls:List (List Int)} {s s2:Sys} {t:TypeId} {v v':j6}
section
variable {w0 W W':j2} {R G M N:Nat} {al:Int} {v vA:j6} {rows:List j6} {ls:List (List Int)} {acc:List Bool}
theorem zbO.of {a:Aut}(ho:zT W w0.heap.size A n c A' n' c' a)(hr:Rd W R M)(hd:Dr R w0 W)(hR:R<w0.heap.size) :
  ∃ rows,zbO w0 (W.alloc (.cells #[a.al,fF A n c,fF A' n' c'] 27)) R W.heap.size M a.al (fF A n c) rows a.next (fF A' n' c') a.acc:=by
 obtain⟨⟨rows,h1,d⟩,h3,f,g⟩:=ho;have b:=(cY W).alloc (.cells #[a.al,fF A n c,fF A' n' c'] 27);refine⟨rows,eB W _ _,zi h1 b,d.keep b.ak (fun _ _=>id),?_,hr.ext b,hd.ext b,hR,hd.size⟩;rw [<- g];exact zi f b
theorem zbO.setAcc {x:Bool}(h:zbO w0 W R G M al v rows ls (fF (fV g) n c) acc)(hn:n=acc.length) :
  zbO w0 (W.setCell ⟨g,i,fW⟩ (.bool x)) R G M al v rows ls (fF (fV g) n c) (acc.set i x):=by
 subst hn;have a:=dG W g i (.bool x);have f:=(h.acc.lt g rfl).1;have d:=h.hR;have hst:=(h.acc.stored i (.bool x)).1;rw [show (zaa acc).set i (.bool x)=zaa (acc.set i x) by simp [zaa,List.map_set]] at hst;refine⟨h.blk.frm a (fun e=>zr h.acc h.blk dM rfl e.symm),zf h.nx a (fun b hb hS=>?_),h.rows.frm a (fun i' r b hr hb hS=>?_),by simpa using hst,h.rd.frm a (fun k hk e=>oM),h.dr.ag (p:=⟨g,i,fW⟩) f _,d,h.hG⟩
 ·subst hS;exact zat h.nx h.acc dM hb rfl
 ·subst hS;obtain⟨l,_,j⟩:=h.rows.row hr;exact zat j h.acc dM hb rfl
theorem zbO.setRow {k:Nat}  (h:zbO w0 W R G M al v rows ls vA acc)(hr:rows[i]?=fV (fF (fV g) n c))(hl:ls[i]?=fV l)(hn:n=l.length) :
  zbO w0 (W.setCell ⟨g,k,fW⟩ x) R G M al v rows (ls.set i (l.set k x)) vA acc:=by
 subst hn;have a:=dG W g k (.int iX x);have d:=h.rows.2.1 i _ l hr hl;have o:=(d.lt g rfl).1;have f:=h.hR;have hst:=(d.stored k (.int iX x)).1;rw [show (ints l).set k (.int iX x)=ints (l.set k x) by simp [ints,List.map_set]] at hst;have m:Frm (Go.Proofs.YtckbjnndaaoddaaGreatDoor.blk (fV ⟨g,0,fW⟩)) W (W.setCell ⟨g,k,fW⟩ x):=a.mono (fun b _ hb=>⟨_,rfl,hb.symm⟩);refine⟨h.blk.frm a (fun e=>zr d h.blk dM rfl e.symm),?_,?_,zf h.acc a (fun b hb hS=>?_),h.rd.frm a (fun k hk e=>oM),h.dr.ag (p:=⟨g,k,fW⟩) o _,f,h.hG⟩
 ·rw [fB];exact zf h.nx a (fun b hb hS=>by subst hS;exact zat h.nx d dM hb rfl)
 ·have:=h.rows.ae (w':=W.setCell ⟨g,k,fW⟩ x) (j:=i) (l:=l.set k x) (A:=fV ⟨g,0,fW⟩) (c:=c) (by simpa using hr) m (by simpa using hst);exact this
 ·subst hS;exact zat h.acc d dM hb rfl
theorem zbO.row (h:zbO w0 W R G M al (fF (fV g) n c) rows ls vA acc)(hl:ls[i]?=fV l)(hn:n=ls.length) :
  ∃ Ar cr,rows[i]?=fV (fF Ar l.length cr)/\W.cell? ⟨g,i,fW⟩=fV (fF Ar l.length cr)/\W.ownsRow w0.heap.size 3 1 (fF Ar l.length cr) l.length (ints l):=by
 subst hn;have f:i<ls.length:=(kB.1 hl).1;have b:i<rows.length:=by rw [h.rows.1];exact f
 have a:rows[i]?=fV rows[i]:=dC b;have d:=h.rows.2.1 i _ l a hl;obtain⟨Ar,cr,e⟩:=zh d;rw [e] at a d;exact⟨Ar,cr,a,by rw [h.nx.cellAt i oM,a],d⟩
end
theorem zii {p:Nat} (h:Rd w R M)(hM:M<=900000000)(ha:a<64)(hp0:1<=p)(hp:p<=16) :
  j8 j5 162 #[kD (fV R),a,p] w (zgY R (M+400) (shA a p (letters a 6).length) w):=by
 have hRl:=h.lt
 go_enter Tryz.func162,Tryz.ntmps162
 go_wp2_with fail
 generalize U0:w.alloc _=X at *;have hxz:=Ext.al_ U0;have bz:=Ext.bl_ U0;have S:=bz.lt;clear U0;refine (zgo (h.ext hxz) hM ha hp).mono ?_;rintro e Y ⟨b,A,n,c,A',n',c',rfl,zkr,hsh,D,z⟩;obtain⟨t,zks⟩:=zbO.of zkr D z oM;obtain⟨s1,I,J,V⟩:=hsh.out;have F:n=b.next.length:=zkr.2.1;have s:n'=b.acc.length:=zkr.2.2.2;obtain⟨ae,u,ad⟩:=b;dsimp only at *;subst s1;rw [I] at F;rw [J] at s;replace F:=F.symm;replace s:=s.symm;subst F;subst s;have hG:=z.size;clear zkr D z hsh;have U:=za V;clear V;have ak:=zA a 6;generalize (letters a 6).length=k at *;obtain⟨O,rfl,ah,-⟩:=zN (J ▸ zks.acc) hp0;obtain⟨Q,rfl,ai,-⟩:=zN (I ▸ zks.nx) hp0;have T:=za I;have S3:=za J;clear I J;go_upto_region 2 with fail
 generalize Y.alloc _=w3 at *;generalize Y.heap.size=G at *;go_wp2_with fail
 go_loopw [8] (fun iv wr=>∃ (i:Nat) (q:List Bool),i<=p/\iv=.int iX (i:Nat)/\zbO X wr R G (M+400) a (fF (fV Q) p c) t u (fF (fV O) p c') q/\Hid (q.length=p)) (fun iv _=>p - (intOf iv).toNat)
 case atStart=>exact⟨0,_,dH _,rfl,zks,S3⟩
 case round =>
  clear zks;obtain⟨i,q,hi,rfl,zks,hal⟩:=hrel
  by_cases hip:i<p
  ·have cG:=zks.blk.cell;have H:=zks.acc;rw [hal.out] at H;obtain⟨o0,c0⟩:=zaF H i oM;have f0:=H.frozenAt i;have o:=zks.setAcc (i:=i) (x:=decide ((i:Int)<(p:Int) - 1)) hal.out.symm;clear H;go_wp2_with fail
   go_roundw
   case rel=>exact⟨i+1,_,oM,gM,o,za (by rw [fB];exact hal.out)⟩
   case measure=>exact uM
  ·clear hi;have hp1:p - 1<u.length:=oH T.out;obtain⟨l0,d⟩:∃ l,u[p - 1]?=fV l:=⟨_,dC hp1⟩;have f:=za (U.out l0 (dD d));have L:=za d;have al:((p:Int) - 1).toNat=p - 1:=oM;clear d hp1;go_wp2_with fail
   go_loopw [9] (fun iv wr=>∃ (j:Nat) (E:List (List Int)) (l:List Int),j<=k/\iv=.int iX (j:Nat)/\zbO X wr R G (M+400) a (fF (fV Q) p c) t E (fF (fV O) p c') q/\Hid (E.length=p)/\Hid (∀ l∈E,l.length=k)/\Hid (E[p - 1]?=fV l)) (fun iv _=>k - (intOf iv).toNat)
   case atStart=>exact⟨0,_,_,dH _,rfl,zks,T,U,L⟩
   case round =>
    clear zks f;obtain⟨j,E,l,hj,rfl,zks,r,B,d⟩:=hrel;have f:=B.out l (dD d.out);obtain⟨Ar,cr,C,y,m⟩:=zks.row d.out r.out.symm;have cG:=zks.blk.cell;rw [f] at C y m;have HR:=za C;clear C
    by_cases hjk:j<k
    ·obtain⟨g,rfl,-,-⟩:=zN m oM;obtain⟨o0,c0⟩:=zaF m j oM;have f0:=m.frozenAt j;have o:=zks.setRow (k:=j) (x:=(p:Int) - 1) HR.out d.out f.symm;clear m;have Z:=za f;clear f;go_wp2_with fail
     go_roundw
     case rel =>
      refine⟨j+1,_,l.set j ((p:Int) - 1),oM,gM,o,za (by rw [fB];exact r.out),za (fun l' hl'=>?_),za ?_⟩
      ·rcases e8 hl' with h1|h1
       ·exact B.out l' h1
       ·rw [h1,fB];exact Z.out
      ·have:=r.out;rw [eZ oM]
     case measure=>exact uM
    ·obtain⟨f1,f2⟩:=zks.fin (N:=M+400) (sh:=shA a p k) hxz bz rfl hRl (dE _) S oM ⟨rfl,r.out,hal.out,B.out⟩;have bz5:=bz.dr zks.dr oM;have cZ:=bz5.cell;have fZ:=bz5.frozen;clear m f;go_wp2_with fail
     have cf:=f2.cell;exact bodyPost_ret (v:=j4 #[a,fF (fV Q) p c,fF (fV O) p c']) (by simp [results,Tryz.results162,go_sem,cf]) rfl f1.out
def strOf:j6->ByteArray
 |.string s=>s
 |_=>⟨#[]⟩
def RetTexts (L:Nat) (w:j2) (e:Ending) (w':j2):Prop:=∃ (A:Option Addr) (n c:Nat) (l:List ByteArray),e=j7 (fF A n c)/\0<n/\w'.ownsRow w.heap.size 9 1 (fF A n c) n (zO l)/\(∀ x∈l,x.size<=L)/\Ext w w'
theorem zbK (w:j2)  (hu:zO (us.toList.map strOf)=us.toList)(hn:us.size=n)(h:n<=1000):(w.alloc (.cells us 9)).ownsRow w.heap.size 9 1 (fF (fV w.heap.size) n n) n (zO (us.toList.map strOf)):=by
 rw [hu];exact World.ownsRow_lit w us n (dE _) lM (by simpa using hn)
theorem spec_l2Texts :j8 j5 294 #[] w (RetTexts 100 w):=by
 go_enter Tryz.func294,Tryz.ntmps294
 go_wp2;go_ret;exact⟨_,_,_,_,rfl,dM,zbK w rfl rfl oM,by decide +kernel,(cY _).alloc _⟩
theorem reads_ints {e:TypeId} (l:List Int)(hu:us.toList=ints l)(hn:us.size=n)(hx:Ext (w.alloc (.cells us e)) w')(h63:n<=1000):Reads w' w.heap.size (w.heap.size+1) 1 (fV ⟨w.heap.size,0,fW⟩) n (ints l):=
 ⟨by rw [<- hu];simpa using hn,oM,fun _=>⟨_,rfl,dE _,sM,fun j u hj=>by
  have:=(zcC hx).cell j
  rw [zad,dX,this]
  rw [<- hu] at hj
  simpa using hj⟩⟩
theorem zaW (l:List Int) (n:Nat) (us:Array j6)(hu:us.toList=ints l)(hn:us.size=n)(h0:0<n)(h63:n<=1000)(h:Rd w R M)(hM:M<=1000000000) :
  j8 j5 163 #[kD (fV R),fF (fV w.heap.size) n n] (w.alloc (.cells us 3)) (RetNum R M l (w.alloc (.cells us 3))):=
 l19Rd_num (h.ext ((cY _).alloc _)) hM (reads_ints l hu hn (cY _) h63) h.lt h0
theorem zhs (hs:zbR W R A n s)(hg:Good s)(hn:n<=L/\n<=c)(hr:Rd W R M)(hd:Dr R w W)(hB:Blk W Z 38 cs)(hR:R<w.heap.size)(hZ:w.heap.size<=Z) :
  RetG R M L w (j7 (j4 #[s.al,s.st,fF A n c])) (((W.setCell Z s.al).setCell ⟨Z,1,fW⟩ s.st).setCell ⟨Z,2,fW⟩ (fF A n c)):=by
 have a:=zeS W Z (.int iX s.al) (.int iX s.st) (fF A n c);exact⟨s,A,n,c,rfl,hs.far hB dM a,hg,hn,hr.frm a (fun k h1 h2=>oM),((hd.ag (p:=⟨Z,0,fW⟩) hZ _).ag (p:=⟨Z,1,fW⟩) hZ _).ag (p:=⟨Z,2,fW⟩) hZ _⟩
theorem yX16a1 {P:Prop}(h:P:=by
 go_wp2_with fail
 refine (zaW [3,2,4,1,5] 5 #[(3:Int),(2:Int),(4:Int),(1:Int),(5:Int)] rfl rfl oM oM hr6 oM).mono ?_;rintro e w7 ⟨st,hst,rfl,hr7,hd7⟩;have hw7:=(hw6.ext ((Ext.refl _).alloc _)).trans hd7;have bz7:=(bz6.ext ((Ext.refl _).alloc _)).dr hd7 oM;go_wp2_with fail
 refine (zaW [3,2,4,6] 4 #[(3:Int),(2:Int),(4:Int),(6:Int)] rfl rfl oM oM hr7 oM).mono ?_;rintro e w8 ⟨fw,_,rfl,hr8,hd8⟩;have hw8:=(hw7.ext ((Ext.refl _).alloc _)).trans hd8;have bz8:=(bz7.ext ((Ext.refl _).alloc _)).dr hd8 oM;obtain⟨a,rfl,ha⟩:∃ a:Nat,al=a∧a<64:=⟨al.toNat,by simp at hal;omega,by simp at hal;omega⟩;obtain⟨p,rfl,hp1,hp⟩:∃ p:Nat,st=p∧1<=p∧p<=16:=⟨st.toNat,by simp at hst;omega,by simp at hst;omega,by simp at hst;omega⟩;clear hal hst;go_wp2_with fail
 refine (zer hr8 oM ha hp1 hp).mono ?_;rintro e w9 ⟨s9,A9,n9,c9,rfl,hs9,hg9,hn9,hr9,hd9⟩;have bz9:=bz8.dr hd9 oM;have hfin9:=za (zhs (R:=R) (M:=M+30000) (L:=20000) (c:=c9) hs9 hg9 hn9 (hr9.more oM) (hw8.trans hd9) bz9 hRl (Nat.le_refl _));have cz9:=bz9.cell;have fz9:=bz9.frozen;go_wp2_with fail
 exact bodyPost_ret (v:=.agg #[s9.al,s9.st,.slice A9 n9 c9]) (by simp [results,Tryz.results257,go_sem,cz9]) rfl hfin9.out
 ):P:=h
theorem zig (h:Rd w R M)(hM:M<=800000000) :
  j8 j5 257 #[kD (fV R)] w (RetG R (M+30000) 20000 w):=by
 have hRl:=h.lt;have t:=(cY w).alloc (.cells #[(0:Int),(0:Int),()] 38);have bz:=eB w 38 #[(0:Int),(0:Int),()]
 go_enter Tryz.func257,Tryz.ntmps257
 go_wp2_with fail
 refine (zE (h.ext t) oM).mono ?_;rintro e w1 ⟨y,rfl,_,_,p,k⟩;have q:=t.dr.trans k;have f:=bz.dr k oM;have V:=f.lt;clear bz
 by_cases hy:y=0
 ·subst hy;go_wp2_with fail
  refine (spec_l2Texts).mono ?_;rintro e w2 ⟨A,n,c,l,rfl,Q,zkr,O,i⟩;go_wp2_with fail
  refine (l19Rd_of (p.ext i) oM (eF zkr) oM Q).mono ?_;rintro e w3 ⟨x,S,rfl,z,o⟩;have T:=O x S;go_wp2_with fail
  refine (zcQ z oM).mono ?_;rintro e w4 ⟨s,B,m,d,X,rfl,I,⟨H,-⟩,hm,hr4,hd4⟩;have r:Dr R w w4:=((q.ext i).trans o).trans hd4;have j:=((f.ext i).dr o oM).dr hd4 oM;have a:=(cY w4).alloc (.cells #[s.al,s.st,fF B m d] 38);have G:=eB w4 38 #[s.al,s.st,fF B m d];cases X
  ·have C:=hr4.ext a;have D:=r.ext a;have bz5:=j.ext a;clear G a I H;go_wp2_with fail
   have F:=(zaW [3,6,7,5,1,0,12] 7 #[(3:Int),(6:Int),(7:Int),(5:Int),(1:Int),(0:Int),(12:Int)] rfl rfl oM oM C oM);simp only [World.size_alloc] at F;refine F.mono ?_;rintro e Y ⟨al,hal,rfl,hr6,hd6⟩;have hw6:=(D.ext ((cY _).alloc _)).trans hd6;have bz6:=(bz5.ext ((cY _).alloc _)).dr hd6 oM;exact yX16a1
  ·have g:=H rfl;have Z:=G.cell;have b:=j.ext a;have u:=b.cell;have J:=b.frozen;go_wp2_with fail
   generalize w4.alloc _=w5 at *;have E:=zhs (R:=R) (M:=M+30000) (L:=20000) (c:=d) (I.ext a) g oM ((hr4.more oM).ext a) (r.ext a) b hRl (dE _);exact bodyPost_ret (v:=j4 #[s.al,s.st,fF B m d]) (by simp [results,Tryz.results257,go_sem,u]) rfl E
 ·have U:((y:Int)==0)=j3:=(by rw [beq_eq_false_iff_ne];omega);go_wp2_with fail
  refine (zaW [3,6,7,5,1,0,12] 7 #[(3:Int),(6:Int),(7:Int),(5:Int),(1:Int),(0:Int),(12:Int)] rfl rfl oM oM p oM).mono ?_;rintro e Y ⟨al,hal,rfl,hr6,hd6⟩;have hw6:=(q.ext ((cY _).alloc _)).trans hd6;have bz6:=(f.ext ((cY _).alloc _)).dr hd6 oM;exact yX16a1
def zgX (b:Aut):Prop:=∃ a p:Nat,a<64/\1<=p/\p<=16/\shA a p (letters a 6).length b
theorem zgY.mono {sh sh':Aut->Prop}  {e:Ending}(h:zgY R M sh w e w')(hd:Dr R w0 w)(hM:M<=N)(hs:∀ b,sh b->sh' b):zgY R N sh' w0 e w':=by
 obtain⟨b,A,n,c,A',n',c',d,f,hsh,g,a⟩:=h;exact⟨b,A,n,c,A',n',c',d,f.less hd.size,za (hs b hsh.out),g.more hM,hd.trans a⟩
theorem zju {sh:Aut->Prop}   (hx:Ext w w0)(ho:zT W w0.heap.size A n c A' n' c' b)(hsh:sh b)(hr:Rd W R M)(hd:Dr R w0 W) (bz:Blk w0 Z t cs)(hc:cs.size=3)(hR:R<w.heap.size)(hZ:w.heap.size<=Z)(hM:M<=N) :
  Hid (zgY R N sh w (j7 (j4 #[b.al,fF A n c,fF A' n' c'])) (((W.setCell Z b.al).setCell ⟨Z,1,fW⟩ (fF A n c)).setCell ⟨Z,2,fW⟩ (fF A' n' c'))) /\
  Blk (((W.setCell Z b.al).setCell ⟨Z,1,fW⟩ (fF A n c)).setCell ⟨Z,2,fW⟩ (fF A' n' c')) Z t #[.int iX b.al,fF A n c,fF A' n' c']:=by
 have d:=bz.lt;have a:=zU W Z (.int iX b.al) (fF A n c) (fF A' n' c');refine⟨za ⟨b,A,n,c,A',n',c',rfl,(ho.keep a (fun b h1 e=>oM)).less hx.size,za hsh,(hr.more hM).frm a (fun k hk e=>oM),?_⟩,zai (bz.dr hd oM) hc _ _ _⟩;exact (((hx.dr.trans hd).ag (p:=⟨Z,0,fW⟩) hZ _).ag (p:=⟨Z,1,fW⟩) hZ _).ag (p:=⟨Z,2,fW⟩) hZ _
theorem spec_l1Some (h:Rd w R M)(hM:M<=900000000) :
  j8 j5 272 #[kD (fV R)] w (fun e w'=>∃ x:Nat,x<64/\e=j7 (.int iX x)/\Rd w' R (M+1)/\Dr R w w'):=by
 go_enter Tryz.func272,Tryz.ntmps272
 go_wp2_with fail
 refine (zaW [3,7,1,5,0,6,63,2,21] 9 #[(3:Int),(7:Int),(1:Int),(5:Int),(0:Int),(6:Int),(63:Int),(2:Int),(21:Int)] rfl rfl oM oM h oM).mono ?_;rintro e f ⟨x,c,rfl,b,a⟩;obtain⟨y,d,rfl⟩:∃ y:Nat,y<64/\x=(y:Int):=⟨x.toNat,by simp at c;omega,by simp at c;omega⟩;clear c;go_wp2_with fail
 go_ret;exact⟨y,d,rfl,b,((Dr.refl R w).alloc _).trans a⟩
theorem yX16a2 {P:Prop}(h:P:=by
 intro e w4 hret;obtain⟨b,A,n,c,A',n',c',rfl,zkr,hsh,hr4,hd4⟩:=hret.mono (N:=M+500) (sh':=zgX) hd13 oM (fun b hb=>⟨a,p,ha,hp1,oM,hb⟩);obtain⟨f1,f2⟩:=zju (N:=M+500) (sh:=zgX) hxz zkr hsh.out hr4 hd4 bz rfl hRl (Nat.le_refl _) (Nat.le_refl _);have bz5:=bz.dr hd4 oM;have cZ:=bz5.cell;have fZ:=bz5.frozen;go_wp2_with fail
 have cf:=f2.cell;exact bodyPost_ret (v:=.agg #[b.al,.slice A n c,.slice A' n' c']) (by simp [results,Tryz.results74,go_sem,cf]) rfl f1.out
 ):P:=h
theorem spec_l3Over (h:Rd w R M)(hM:M<=800000000)(ha:a<64) :
  j8 j5 74 #[kD (fV R),a] w (zgY R (M+500) zgX w):=by
 have hRl:=h.lt
 go_enter Tryz.func74,Tryz.ntmps74
 go_wp2_with fail
 generalize U0:w.alloc _=l at *;have hxz:=Ext.al_ U0;have bz:=Ext.bl_ U0;clear U0;refine (zE (h.ext hxz) oM).mono ?_;rintro e m ⟨y,rfl,-,-,g,f⟩
 by_cases hy:y=0
 ·subst hy;go_wp2_with fail
  refine (zaW [3,2,4,1] 4 #[(3:Int),(2:Int),(4:Int),(1:Int)] rfl rfl oM oM g oM).mono ?_;rintro e k ⟨x,b,rfl,d,c⟩;obtain⟨p,hp1,i,rfl⟩:∃ y:Nat,1<=y/\y<=4/\x=(y:Int):=⟨x.toNat,by simp at b;omega,by simp at b;omega,by simp at b;omega⟩;clear b;have hd13:=(f.alloc _).trans c;go_wp2_with fail
  refine (zii d oM ha hp1 oM).mono ?_;exact yX16a2
 ·have j:((y:Int)==0)=j3:=by simp;omega
  go_wp2_with fail
  refine (zaW [2,3,1,4,5] 5 #[(2:Int),(3:Int),(1:Int),(4:Int),(5:Int)] rfl rfl oM oM g oM).mono ?_;rintro e k ⟨x,b,rfl,d,c⟩;obtain⟨p,hp1,i,rfl⟩:∃ y:Nat,1<=y/\y<=5/\x=(y:Int):=⟨x.toNat,by simp at b;omega,by simp at b;omega,by simp at b;omega⟩;clear b;have hd13:=(f.alloc _).trans c;go_wp2_with fail
  refine (zgo d oM ha oM).mono ?_;exact yX16a2
section
variable {w0 W W':j2} {R G M N:Nat} {al:Int} {v vA:j6} {rows:List j6} {ls:List (List Int)} {acc:List Bool}
theorem zbO.setAl (h:zbO w0 W R G M al v rows ls vA acc) (x:Int):zbO w0 (W.setCell G x) R G M x v rows ls vA acc:=by
 have d:=h.hR;have a:=h.hG;have c:=dG W G 0 (.int iX x);refine⟨by simpa using h.blk.ae 0 _,zf h.nx c (fun b hb hS=>zr h.nx h.blk dM hb hS),h.rows.frm c (fun i r b hr hb hS=>?_),zf h.acc c (fun b hb hS=>zr h.acc h.blk dM hb hS),h.rd.frm c (fun k hk e=>oM),h.dr.ag (p:=⟨G,0,fW⟩) a _,d,a⟩;obtain⟨g,_,f⟩:=h.rows.row hr;exact zr f h.blk dM hb hS
theorem zbO.setNext (h:zbO w0 W R G M al v rows ls vA acc) (ho:W.ownsRow w0.heap.size 110 1 v' 0 []):zbO w0 (W.setCell ⟨G,1,fW⟩ v') R G M al v' [] [] vA acc:=by
 have c:=h.hR;have a:=h.hG;have d:=dG W G 1 v';exact⟨by simpa using h.blk.ae 1 _,zf ho d (fun b hb hS=>zr ho h.blk dM hb hS),zB.nil _ _,zf h.acc d (fun b hb hS=>zr h.acc h.blk dM hb hS),h.rd.frm d (fun k hk e=>oM),h.dr.ag (p:=⟨G,1,fW⟩) a _,c,a⟩
theorem zbO.setMarks (h:zbO w0 W R G M al v rows ls vA acc) (ho:W.ownsRow w0.heap.size 4 1 v' 0 []):zbO w0 (W.setCell ⟨G,2,fW⟩ v') R G M al v rows ls v' []:=by
 have d:=h.hR;have a:=h.hG;have c:=dG W G 2 v';refine⟨by simpa using h.blk.ae 2 _,zf h.nx c (fun b hb hS=>zr h.nx h.blk dM hb hS),h.rows.frm c (fun i r b hr hb hS=>?_),zf ho c (fun b hb hS=>zr ho h.blk dM hb hS),h.rd.frm c (fun k hk e=>oM),h.dr.ag (p:=⟨G,2,fW⟩) a _,d,a⟩;obtain⟨f,_,ho⟩:=h.rows.row hr;exact zr ho h.blk dM hb hS
theorem zbO.growRow {row:j6}   {cap gN cN nN:Nat}(h:zbO w0 W R G M al (fF (fV gN) nN cN) rows ls vA acc)(hn:nN=ls.length)(hr:rows[i]?=fV row)(hl:ls[i]?=fV l)
  (zkr:W'.ownsRow w0.heap.size 3 1 (fF (fV g) (l.length+1) cap) (l.length+1) (ints l++[.int iX x])) (hg:W.grownBy W' row.ownBlock) (hat:row.ownBlock=fV g\/g=W.heap.size+1) :
  (∀ u,W.cell? ⟨G,u,fW⟩=W'.cell? ⟨G,u,fW⟩)/\Hid (W'.cell? ⟨gN,i,fW⟩=fV row)/\W'.frozen? ⟨gN,i,fW⟩=j3 /\
  zbO w0 (W'.setCell ⟨gN,i,fW⟩ (fF (fV g) (l.length+1) cap)) R G M al (fF (fV gN) nN cN) (rows.set i (fF (fV g) (l.length+1) cap)) (ls.set i (l++[x])) vA acc:=by
 subst hn;have y:=h.hR;have v:=h.hG;have E:i<ls.length:=(kB.1 hl).1;have s:=h.rows.2.1 i _ l hr hl;have n:Frm (fun k=>row.ownBlock=fV k) W W':=Frm.ab hg;obtain⟨z,D⟩:=h.grown s hg;have t:Blk W' G 27 #[.int iX al,fF (fV gN) ls.length cN,vA]:=h.blk.frm n (fun e=>zr s h.blk dM e rfl);have a:W'.ownsRow w0.heap.size 110 1 (fF (fV gN) ls.length cN) ls.length rows:=zf h.nx n (fun b hb hS=>zat h.nx s dM hb hS);have zks:W'.ownsRow w0.heap.size 4 1 vA acc.length (zaa acc):=zf h.acc n (fun b hb hS=>zat h.acc s dM hb hS);have B:=(a.lt gN rfl).1;have q:=h.rows.1;have d:∀ (j:Nat) (r:j6) (b:Nat),j≠i->rows[j]?=fV r->r.ownBlock=fV b->b≠g:=fun j r b hji hj hb e=>by
  subst e;rcases hat with h1|h1
  ·exact h.rows.2.2 j i r row b hj hr hji hb h1
  ·have:=h.low j r b hj hb;omega
 have f:zB W' w0.heap.size (rows.set i (fF (fV g) (l.length+1) cap)) (ls.set i (l++[x])):=by
  refine⟨by simp [q],fun j r m hj hm=>?_,fun j j' r r' b hj hj' hne hb=>?_⟩
  ·by_cases hji:i=j
   ·subst hji;rw [eZ oM] at hj;rw [eZ E] at hm;obtain rfl:=kA hj;obtain rfl:=kA hm;simpa [ints] using zkr
   ·rw [fR hji] at hj hm;exact zf (h.rows.2.1 j r m hj hm) n (fun b hb hS=>h.rows.2.2 j i r row b hj hr (fun e=>hji e.symm) hb hS)
  ·by_cases hji:i=j
   ·subst hji;rw [eZ oM] at hj;obtain rfl:=kA hj;rw [fR hne] at hj';have o:g=b:=by simpa [Value.ownBlock] using hb
    subst o;exact fun hc=>d j' r' _ (fun e=>hne e.symm) hj' hc rfl
   ·rw [fR hji] at hj
    by_cases hji':i=j'
    ·subst hji';rw [eZ oM] at hj';obtain rfl:=kA hj';intro hc;have o:g=b:=by simpa [Value.ownBlock] using hc
     exact d j r b (fun e=>hji e.symm) hj hb o.symm
    ·rw [fR hji'] at hj';exact h.rows.2.2 j j' r r' b hj hj' hne hb
 have c:=dG W' gN i (fF (fV g) (l.length+1) cap);refine⟨fun u=>by rw [h.blk.cell,t.cell],za (by rw [a.cellAt i oM,hr]),a.frozenAt i,⟨t.frm c (fun e=>zr a t dM rfl e.symm),?_,?_,zf zks c (fun b hb hS=>?_),D.frm c (fun k hk e=>oM),z.ag (p:=⟨gN,i,fW⟩) B _,y,v⟩⟩
 ·rw [fB];exact (a.stored i _).1
 ·refine f.frm c (fun j r b hj hb hS=>?_);obtain⟨F,_,C⟩:=f.row hj;subst hS;exact zat C a dM hb rfl
 ·subst hS;exact zat zks a dM hb rfl
end
def BdL (L:Nat) (ls:List (List Int)) (acc:List Bool):Prop:=ls.length<=L/\acc.length<=L/\∀ l∈ls,l.length<=L
theorem BdL.more {K:Nat}  (h:BdL L ls acc)(hK:L<=K):BdL K ls acc:=⟨dL h.1 hK,dL h.2.1 hK,fun l hl=>dL (h.2.2 l hl) hK⟩
def BdA (L:Nat) (b:Aut):Prop:=BdL L b.next b.acc
theorem BdA.of (h:zgX b):BdA 16 b:=by
 obtain⟨a,p,ha,hp1,hp,h1,d,h3,c⟩:=h;exact⟨oM,oM,fun l hl=>by have:=c l hl;have:=zA a 6;omega⟩
theorem tot_le :∀ ls:List (List Int),(∀ l∈ls,l.length<=L)->tot ls<=ls.length*L
 |[],_=>by simp [tot]
 |l :: r,h=>by
  have:=tot_le r (fun x hx=>h x (by simp [hx]))
  have:=h l sM
  rw [tot_cons,List.length_cons,Nat.add_mul]
  omega
theorem BdA.size (h:BdA L b)(hL:L<=200):b.size<=1048576:=by
 have h1:=tot_le b.next h.2.2;have a:b.next.length*L<=200*200:=Nat.mul_le_mul (dL h.1 hL) hL;have h3:=h.1;have c:=h.2.1;unfold Aut.size;omega
theorem eq_edge (a b c d e f:Int) (w:j2):(Op.equalIn 10000 117 (j4 #[a,b,c]) (j4 #[d,e,f])).run j5 w=.ok (a==d&&(b==e&&c==f)) w:=by
 have i:=Tryz.underlying3;have h:=Tryz.isAgg3;have j:=Tryz.sizeOf3;have g:j5.underlying 117=fV (.struct (j5.fieldsOf 117)):=kM;have hp:j5.stoodInHeld 117=j3:=kM;rw [show (10000:Nat)=9999+1 from rfl,run_equalIn_agg w 9999 117 _ _ g hp];simp only [Program.fieldsOf,Tryz.underlying117];go_simp
 by_cases h1:a=d<;>by_cases h2:b=e<;>by_cases h3:c=f<;>simp [h1,h2,h3]
theorem wrong_acc (hr:Rd w R M)(hx:Ext w w1)(hR:R<w.heap.size)(hxW:Ext w1 W) (zkr:W.ownsRow w1.heap.size 117 3 v es.length (zw es))(hG:w1.heap.size<=G)(hB:Blk W G 38 #[al,st,v]) :
  Acc w w1 W R G M al st v es:=
 ⟨hB,zkr,hr.ext (hx.trans hxW),(hx.trans hxW).dr,hxW.ak,hR,hx.size,dL hx.size hG⟩
theorem edge_lit (w:j2):(w.alloc (.cells #[] 117)).drew.ownsRow w.heap.size 117 3 (fF (fV w.heap.size) 0 0) 0 []:=
 World.ownsRow_lit w #[] 0 (dE _) lM rfl
theorem zjF {base:Nat}  (hn:n=es.length)(h:W.ownsRow base 117 3 v n (zw es)):W.ownsRow base 117 3 v es.length (zw es):=by
 subst hn;exact h
theorem zgW (hr:Rd w R M)(hx:Ext w w1)(hR:R<w.heap.size)(hxW:Ext w1 W) (zkr:W.ownsRow w1.heap.size 117 3 v es.length (zw es))(hB:Blk W G 38 #[(0:Int),(0:Int),()])(hG:w1.heap.size<=G) :
  ∃ (G':Nat) (v':j6),Value.pointer (fV G)=.pointer (fV G')/\w1.heap.size<=G'/\Acc w w1 (((W.setCell G al).setCell ⟨G,1,fW⟩ st).setCell ⟨G,2,fW⟩ v) R G' M al st v' es:=by
 have h:=zeS W G (.int iX al) (.int iX st) v;have c:∀ b,v.ownBlock=fV b->b≠G:=by
  rintro b a rfl;rcases zkr.2 with ⟨rfl,_⟩|⟨g,d,f,rfl,_,j,_⟩
  ·simp [Value.ownBlock] at a
  ·have i:g=b:=by simpa [Value.ownBlock] using a
   subst i;unfold Blk at hB;rw [j] at hB;injection hB with hB
   injection hB with _ ht
   exact absurd ht dM
 refine⟨G,v,rfl,hG,wrong_acc hr hx hR ?_ (zf zkr h (fun b a hS=>c b a hS)) hG (by simpa using ((hB.ae 0 (.int iX al)).ae 1 (.int iX st)).ae 2 v)⟩;exact ((hxW.setCell (p:=⟨G,0,fW⟩) hG _).setCell (p:=⟨G,1,fW⟩) hG _).setCell (p:=⟨G,2,fW⟩) hG _
theorem zhj {wB:j2}     (h:Acc w0 wB W R G M al st (fF A n c) es)(hn:0<n):∃ g,A=fV ⟨g,0,fW⟩:=by
 rcases h.own.2 with ⟨a,f⟩|⟨g,b,d,a,_⟩
 ·injection a with _ h2 _;omega
 ·injection a with h1
  exact⟨g,h1⟩
theorem yX16a4 {P:Prop}(h:P:=by
 have h1':=h1.out;refine zQ fun K hK=>?_;go_simp;refine hK.out _ _ ?_;refine zap ?_;go_wp2_with fail
 go_meet;exact⟨_,_,_,_,h3.more oM,by have:=HnL.out;simp;omega⟩
 ):P:=h
theorem yX16a5 {P:Prop}(h:P:=by
 refine zQ fun K hK=>?_;go_simp;refine hK.out _ _ ?_;refine zap ?_;go_wp2_with fail
 go_meet;exact⟨_,_,_,_,hst.more oM,by have:=HnL.out;simp;omega⟩
 ):P:=h
theorem zcc (h:Rd w R M)(hM:M<=900000000)(hs:zbR w R A n s)(hn:n<=L)(hL:L<=100000) :
  j8 j5 117 #[kD (fV R),j4 #[s.al,s.st,fF A n c]] w (RetA R (M+10) (L+1) w):=by
 have hRl:=h.lt;have O:=hs.at_.2;have E:=za hs.1;obtain⟨al,st,b⟩:=s;simp only at O E ⊢;obtain⟨a,U0⟩:∃ x,Hid ((w.alloc (.cells #[al,st,fF A n c] 38)).alloc (.cells #[(0:Int),(0:Int),()] 38)=x):=⟨_,za rfl⟩;have ao:Ext w a:=(((cY _).alloc _).alloc _).trans (Ext.eq_ U0.out);obtain⟨bS,bZ⟩:=zJ (Ext.eq_ U0.out);have an:a.heap.size=w.heap.size+2:=by rw [<- U0.out];simp
 have au:=za bS;have ad:=za bZ;have C:=za ao;have av:=za an;clear bS bZ ao an hs
 go_enter Tryz.func117,Tryz.ntmps117
 go_wp2_with fail
 rw [U0.out] at *;have aX:w.heap.size+2<=a.heap.size:=by rw [av.out];exact dE _
 go_upto_region 1 with fail
 go_cut [5] (fun s5 wx=>∃ (G:Nat) (v:j6),s5=.pointer (fV G)/\a.heap.size<=G/\Acc w a wx R G M al st v b)
 case first =>
  have cS:=fun W (hW:Ext a W)=>(au.out.ext hW).cell;refine tR (fun X=>Ext a X) [10] (Ord.app [0,1,2,3,5,6] (Ord.two 4 (Ord.two 7 (Ord.of [8,9,10]) 9 (Ord.of [7,8,10])) 9 (Ord.of [4,7,8,10]))) ?_;refine tQ ?_;refine zgt (fun K hK=>?_) (fun K hK=>?_)
  ·go_simp;have j:Ext a (a.alloc (.cells #[] 117)).drew:=((cY a).alloc _).drew;have zkr:(a.alloc (.cells #[] 117)).drew.ownsRow a.heap.size 117 3 (fF (fV a.heap.size) 0 0) 0 []:=edge_lit a;have U:(a.alloc (.cells #[] 117)).drew.heap.size=a.heap.size+1:=sM;refine hK.out _ _ j ?_;refine pT ?_;generalize (a.alloc (.cells #[] 117)).drew=V at *;refine zgt (fun K hK=>?_) (fun K hK=>?_)
   ·refine zy _ _ _ _ rfl a.heap.size 117 _ 3 24 Tryz.underlying36 zbm rfl dM (fF (fV a.heap.size) 0 0) 0 [] rfl zkr (R+1) w.heap.size A n c (zw b) rfl (O.ext (C.out.trans j)) (zcZ b) lM oM j.size ?_;intro v Y zkC hg3 hat3;rw [dX,eJ] at zkC;obtain⟨A3,c3,rfl⟩:=zh zkC;have f:Ext a Y:=j.grown hg3 (fun k D=>by simp [Value.ownBlock] at D;omega);refine hK.out _ _ f ?_;refine pT ?_;refine tQ ?_;refine zD fun K hK=>?_;go_simp;refine hK.out _ _ (f.alloc _) ?_;refine pT ?_;refine tQ ?_;refine zQ fun K hK=>?_;go_simp;refine hK.out _ _ ?_;refine zap ?_;go_wp2_with fail
    go_meet;exact⟨Y.heap.size,fF A3 n c3,rfl,f.size,wrong_acc h C.out hRl (f.alloc _) (zi (zjF E.out zkC) ((cY _).alloc _)) f.size (eB _ _ _)⟩
   ·go_simp;have f:=j.alloc (.cells #[(0:Int),(0:Int),()] 38);have ap:=(cY V).alloc (.cells #[(0:Int),(0:Int),()] 38);replace zkr:=zi zkr ap;refine hK.out _ _ f ?_;generalize U0:V.alloc _=aZ at *;have I:=Ext.bl_ U0;clear U0;rw [U] at I;have j:=f;refine pT ?_;refine zD (fun K hK=>?_);refine zy _ _ _ _ rfl a.heap.size 117 _ 3 24 Tryz.underlying36 zbm rfl dM (fF (fV a.heap.size) 0 0) 0 [] rfl zkr (R+1) w.heap.size A n c (zw b) rfl (O.ext (C.out.trans j)) (zcZ b) lM oM j.size ?_;intro v Y zkC hg3 hat3;rw [dX,eJ] at zkC;obtain⟨A3,c3,rfl⟩:=zh zkC;have f:Ext a Y:=j.grown hg3 (fun k D=>by simp [Value.ownBlock] at D;omega);have r:Blk Y (a.heap.size+1) 38 #[.int iX 0,.int iX 0,fF fW 0 0]:=I.frm (Frm.ab hg3) (by simp [Value.ownBlock]);refine hK.out _ _ f ?_;refine pT ?_;refine tQ ?_;have cE:=r.cell;have fE:=r.frozen;refine zQ fun K hK=>?_;go_simp;refine hK.out _ _ ?_;refine zap ?_;go_wp2_with fail
    go_meet;exact zgW h C.out hRl f (zjF E.out zkC) r oM
  ·go_simp;have j:Ext a (a.alloc (.cells #[(0:Int),(0:Int),()] 38)).drew:=((cY a).alloc _).drew;have aw:Blk (a.alloc (.cells #[(0:Int),(0:Int),()] 38)).drew a.heap.size 38 #[.int iX 0,.int iX 0,fF fW 0 0]:=eB a _ _;have U:(a.alloc (.cells #[(0:Int),(0:Int),()] 38)).drew.heap.size=a.heap.size+1:=sM;refine hK.out _ _ j ?_;refine pT ?_;generalize (a.alloc (.cells #[(0:Int),(0:Int),()] 38)).drew=V at *;refine zD fun K hK=>?_;go_simp;have f:=j.alloc (.cells #[] 117);have zkr:(V.alloc (.cells #[] 117)).ownsRow a.heap.size 117 3 (fF (fV ⟨a.heap.size+1,0,fW⟩) 0 0) 0 []:=by
    rw [<- U];exact World.ownsRow_lit V #[] 0 j.size lM rfl
   have I:=aw.ext ((cY V).alloc (.cells #[] 117));refine hK.out _ _ f ?_;generalize V.alloc _=Y at *;refine pT ?_;refine zD (fun K hK=>?_);refine zy _ _ _ _ rfl a.heap.size 117 _ 3 24 Tryz.underlying36 zbm rfl dM (fF (fV ⟨a.heap.size+1,0,fW⟩) 0 0) 0 [] rfl zkr (R+1) w.heap.size A n c (zw b) rfl (O.ext (C.out.trans f)) (zcZ b) lM oM f.size ?_;intro v w4 hown4 hg4 hat4;rw [dX,eJ] at hown4;obtain⟨A4,c4,rfl⟩:=zh hown4;have aq:Ext a w4:=f.grown hg4 (fun k D=>by simp [Value.ownBlock] at D;omega);have r:Blk w4 a.heap.size 38 #[.int iX 0,.int iX 0,fF fW 0 0]:=I.frm (Frm.ab hg4) (by simp [Value.ownBlock]);refine hK.out _ _ aq ?_;refine pT ?_;refine tQ ?_;have cE:=r.cell;have fE:=r.frozen;refine zQ fun K hK=>?_;go_simp;refine hK.out _ _ ?_;refine zap ?_;go_wp2_with fail
   go_meet;exact zgW h C.out hRl aq (zjF E.out hown4) r (dE _)
 case rest =>
  obtain⟨G,v,rfl,aV,zks⟩:=hcut;obtain⟨A1,n1,c1,rfl⟩:=zks.form;obtain⟨rfl,am⟩:=zks.reads;have aW:=zks.hG;have cG:=zks.blk.cell;have aj:=am.2.len;clear am;have az:b.length<=L:=oH E.out;have HnL:=za az;go_wp2_with fail
  refine (zE (n:=b.length) zks.rd oM).mono ?_;rintro e Y ⟨k,rfl,ah,ay,ak,ag⟩;replace zks:=zks.drawn ag ak;clear ag ak cG;have Hk:=za ah;clear ah ay;go_wp2_with fail
  refine (zE (n:=30) zks.rd oM).mono ?_;rintro e w4 ⟨y,rfl,-,-,hr4,hd4⟩;replace zks:=zks.drawn hd4 hr4;clear hd4 hr4;go_upto_block 0 with fail
  go_cut [] (fun wx=>∃ (al st:Int) (v:j6) (S:List Edg),Acc w a wx R G (M+10) al st v S/\S.length<=L+1)
  case first =>
   have aP:=za aj;clear aj;have J:y=0\/y=1\/y=2\/y=3\/y=4\/y=5\/y=6\/7<=y:=oM;rcases J with B|B|B|B|B|B|B|B
   ·subst B;have aA:True:=trivial;go_wp2_with fail
    refine (zaW [64,(-1),1,63] 4 #[(64:Int),.int iX (-1),(1:Int),(63:Int)] rfl rfl oM oM zks.rd oM).mono ?_;rintro e F ⟨x,-,rfl,o,i⟩;replace zks:=(zks.ext ((cY _).alloc _)).drawn i o;have cG:=zks.blk.cell;have fG:=zks.blk.frozen;go_wp2_with fail
    go_meet;exact⟨_,_,_,b,(zks.setAl x).more oM,oH HnL.out⟩
   ·subst B;have aA:True:=trivial;go_wp2_with fail
    refine (zaW [0,17,(-1),16,1] 5 #[(0:Int),(17:Int),.int iX (-1),(16:Int),(1:Int)] rfl rfl oM oM zks.rd oM).mono ?_;rintro e F ⟨x,-,rfl,o,i⟩;replace zks:=(zks.ext ((cY _).alloc _)).drawn i o;have cG:=zks.blk.cell;have fG:=zks.blk.frozen;go_wp2_with fail
    go_meet;exact⟨_,_,_,b,(zks.setSt x).more oM,oH HnL.out⟩
   ·subst B
    by_cases hn0:0<b.length
    ·have D:=Hk.out oM;have t:k<b.length:=oM;obtain⟨g,rfl⟩:=zhj zks hn0;have m:b.length≠0:=oM;have T:R<a.heap.size:=by have:=zks.hR;have:=zks.hB;omega
     have cG:∀ W,Dr R w4 W->∀ q,W.cell? ⟨G,q,fW⟩=#[Value.int iX al,.int iX st,fF (fV g) b.length c1][q]?:=fun W hW=>(zks.blk.dr hW (oH zks.hG)).cell;clear D m;go_wp2_with fail
     refine tR (fun X=>Dr R w4 X) [8] (Ord.of [0,1,2,3,4,5,6,7,8]) ?_;refine tQ ?_;refine zD fun K hK=>?_;go_simp;refine hK.out _ _ ((Dr.refl R w4).drew.alloc _) ?_;refine pT ?_;refine tQ ?_;refine zD fun K hK=>?_;go_simp;refine (zaW (w:=w4.drew) [(-1),16,0,2] 4 #[.int iX (-1),(16:Int),(0:Int),(2:Int)] rfl rfl oM oM (zks.rd.ext (cY _).drew) oM).mono ?_;rintro e F ⟨x,-,rfl,o,i⟩;have l:Dr R w4 F:=((Dr.refl R w4).drew.alloc _).trans i;have d:=zks.drawn l o;refine hK.out _ _ l ?_;refine pT ?_;refine tQ ?_;have zkr:=d.own;obtain⟨o0,c0⟩:=zaF zkr (k*3) oM;have f0:=zkr.frozenAt (k*3);have hst:=d.turn rfl (zeh (dC t) x).1 sM;exact yX16a5
    ·have hn1:b.length=0:=oM;clear hn0;go_wp2_with fail
     go_meet;exact⟨_,_,_,b,zks.more oM,oH HnL.out⟩
   ·subst B
    by_cases hn0:0<b.length
    ·have D:=Hk.out oM;have t:k<b.length:=oM;obtain⟨g,rfl⟩:=zhj zks hn0;have m:b.length≠0:=oM;have T:R<a.heap.size:=by have:=zks.hR;have:=zks.hB;omega
     have cG:∀ W,Dr R w4 W->∀ q,W.cell? ⟨G,q,fW⟩=#[Value.int iX al,.int iX st,fF (fV g) b.length c1][q]?:=fun W hW=>(zks.blk.dr hW (oH zks.hG)).cell;clear D m;go_wp2_with fail
     refine tR (fun X=>Dr R w4 X) [8] (Ord.of [0,1,2,3,4,5,6,7,8]) ?_;refine tQ ?_;refine zD fun K hK=>?_;go_simp;refine hK.out _ _ ((Dr.refl R w4).drew.alloc _) ?_;refine pT ?_;refine tQ ?_;refine zD fun K hK=>?_;go_simp;refine (zaW (w:=w4.drew) [(-1),16,0,3] 4 #[.int iX (-1),(16:Int),(0:Int),(3:Int)] rfl rfl oM oM (zks.rd.ext (cY _).drew) oM).mono ?_;rintro e F ⟨x,-,rfl,o,i⟩;have l:Dr R w4 F:=((Dr.refl R w4).drew.alloc _).trans i;have d:=zks.drawn l o;refine hK.out _ _ l ?_;refine pT ?_;refine tQ ?_;have zkr:=d.own;obtain⟨o0,c0⟩:=zaF zkr (k*3+2) oM;have f0:=zkr.frozenAt (k*3+2);have hst:=d.turn rfl (zeh (dC t) x).2.2 sM;exact yX16a5
    ·have hn1:b.length=0:=oM;clear hn0;go_wp2_with fail
     go_meet;exact⟨_,_,_,b,zks.more oM,oH HnL.out⟩
   ·subst B
    by_cases hn0:0<b.length
    ·have D:=Hk.out oM;have t:k<b.length:=oM;obtain⟨g,rfl⟩:=zhj zks hn0;have m:b.length≠0:=oM;have T:R<a.heap.size:=by have:=zks.hR;have:=zks.hB;omega
     have cG:∀ W,Dr R w4 W->∀ q,W.cell? ⟨G,q,fW⟩=#[Value.int iX al,.int iX st,fF (fV g) b.length c1][q]?:=fun W hW=>(zks.blk.dr hW (oH zks.hG)).cell;clear D m;go_wp2_with fail
     refine tR (fun X=>Dr R w4 X) [8] (Ord.of [0,1,2,3,4,5,6,7,8]) ?_;refine tQ ?_;refine zD fun K hK=>?_;go_simp;refine hK.out _ _ ((Dr.refl R w4).drew.alloc _) ?_;refine pT ?_;refine tQ ?_;refine zD fun K hK=>?_;go_simp;refine (zaW (w:=w4.drew) [(-1),6,70,5,0] 5 #[.int iX (-1),(6:Int),(70:Int),(5:Int),(0:Int)] rfl rfl oM oM (zks.rd.ext (cY _).drew) oM).mono ?_;rintro e F ⟨x,-,rfl,o,i⟩;have l:Dr R w4 F:=((Dr.refl R w4).drew.alloc _).trans i;have d:=zks.drawn l o;refine hK.out _ _ l ?_;refine pT ?_;refine tQ ?_;have zkr:=d.own;obtain⟨o0,c0⟩:=zaF zkr (k*3+1) oM;have f0:=zkr.frozenAt (k*3+1);have hst:=d.turn rfl (zeh (dC t) x).2.1 sM;exact yX16a5
    ·have hn1:b.length=0:=oM;clear hn0;go_wp2_with fail
     go_meet;exact⟨_,_,_,b,zks.more oM,oH HnL.out⟩
   ·subst B
    by_cases hn0:0<b.length
    ·have D:=Hk.out oM;have t:k<b.length:=oM;obtain⟨g,rfl⟩:=zhj zks hn0;have m:b.length≠0:=oM;have zkr:=zks.own;have hE:=za (dC t);obtain⟨ed,ax⟩:∃ ed,Hid (b[k]?=fV ed):=⟨_,hE.out⟩;obtain⟨d0,d1,d2⟩:=zcY ax.out;have cG:=fun W (hW:Ext w4 W)=>(zks.blk.ext hW).cell;have C0:∀ W,Ext w4 W->W.cell? ⟨g,k*3,fW⟩=fV (.int iX ed.fr):=fun W hW=>hW.aa (by rw [zkr.cellAt _ oM];exact d0);have C1:∀ W,Ext w4 W->W.cell? ⟨g,k*3+1,fW⟩=fV (.int iX ed.le):=fun W hW=>hW.aa (by rw [zkr.cellAt _ oM];exact d1);have C2:∀ W,Ext w4 W->W.cell? ⟨g,k*3+2,fW⟩=fV (.int iX ed.ta):=fun W hW=>hW.aa (by rw [zkr.cellAt _ oM];exact d2);clear D m d0 d1 d2;go_wp2_with fail
     refine tR (fun X=>Ext w4 X) [8,10] (Ord.of [0,1,2,3,4,5,6,7,8,9,10]) ?_;refine tQ ?_;refine zD fun K hK=>?_;go_simp;refine hK.out _ _ ((cY _).drew.alloc _) ?_;refine pT ?_;refine zQ fun K hK=>?_;refine zaE a w4.drew _ _ _ rfl 117 _ 3 24 Tryz.underlying36 zbm rfl dM (fF (fV g) b.length c1) b.length (zw b) _ _ rfl rfl zks.fr.size zkr rfl (by simp [Value.oneCell']) lM oM ?_;intro g5 cap5 F zkD hg5 hat5 hlt5;refine hK.out _ _ ?_;refine pT ?_;refine tQ ?_;obtain⟨h1,h2,h3⟩:=(zks.ext ((cY _).drew)).push (e:=ed) (W':=F) zkD hg5 hat5;exact yX16a4
    ·have hn1:b.length=0:=oM;clear hn0;go_wp2_with fail
     go_meet;exact⟨_,_,_,b,zks.more oM,oH HnL.out⟩
   ·subst B;have T:R<a.heap.size:=by have:=zks.hR;have:=zks.hB;omega
    have cG:∀ W,Dr R w4 W->∀ q,W.cell? ⟨G,q,fW⟩=#[Value.int iX al,.int iX st,fF A1 b.length c1][q]?:=fun W hW=>(zks.blk.dr hW (oH zks.hG)).cell;go_wp2_with fail
    refine tR (fun X=>Dr R w4 X) [10,12] (Ord.of [0,1,2,4,6,3,5,7,8,9,10,11,12]) ?_;refine tQ ?_;refine zD fun K hK=>?_;go_simp;refine (zE (n:=4) (zks.rd.ext (cY _).drew) oM).mono ?_;rintro e F ⟨x,rfl,-,-,o,i⟩;replace i:=((Dr.refl R w4).drew).trans i;refine hK.out _ _ i ?_;refine pT ?_;refine tQ ?_;refine zD fun K hK=>?_;go_simp;refine (zE (n:=3) o oM).mono ?_;rintro e w6 ⟨z,rfl,-,-,hr6,hd6⟩;replace hd6:=i.trans hd6;refine hK.out _ _ hd6 ?_;refine pT ?_;refine tQ ?_;refine zD fun K hK=>?_;go_simp;refine (zE (n:=4) hr6 oM).mono ?_;rintro e w7 ⟨u,rfl,-,-,hr7,hd7⟩;replace hd7:=hd6.trans hd7;refine hK.out _ _ hd7 ?_;have p:=zks.drawn hd7 hr7;refine pT ?_;refine tQ ?_;refine zD fun K hK=>?_;go_simp;refine hK.out _ _ (hd7.alloc _) ?_;refine pT ?_;refine zQ fun K hK=>?_;refine zaE a w7 _ _ _ rfl 117 _ 3 24 Tryz.underlying36 zbm rfl dM (fF A1 b.length c1) b.length (zw b) _ _ rfl rfl p.fr.size p.own rfl (by simp [Value.oneCell']) (by unfold maxLen;have:=HnL.out;omega) (oH HnL.out) ?_;intro g8 cap8 w8 hown8 hg8 hat8 hlt8;refine hK.out _ _ ?_;refine pT ?_;refine tQ ?_;obtain⟨h1,h2,h3⟩:=p.push (e:=⟨x,z,u⟩) (W':=w8) hown8 hg8 hat8;exact yX16a4
   ·have h0:((y:Int)==0)=j3:=by simp;omega
    have h1:((y:Int)==1)=j3:=by simp;omega
    have h2:((y:Int)==2)=j3:=by simp;omega
    have h3:((y:Int)==3)=j3:=by simp;omega
    have h4:((y:Int)==4)=j3:=by simp;omega
    have h5:((y:Int)==5)=j3:=by simp;omega
    have h6:((y:Int)==6)=j3:=by simp;omega
    clear B;go_wp2_with fail
    go_meet;exact⟨_,_,_,b,zks.more oM,oH HnL.out⟩
  case rest =>
   clear zks;obtain⟨H,Q,v',S,zks,ai⟩:=hcut;obtain⟨A',n',c',rfl⟩:=zks.form;obtain⟨rfl,_⟩:=zks.reads;have cG:=zks.blk.cell;have af:=ad.out.frm zks.fr oM;have cz:=af.cell;have aY:=ad.out.lt;have fz:=af.frozen;obtain⟨f1,f2,f3⟩:=zks.fin (Z:=w.heap.size+1) oM oM (.int iX H) (.int iX Q) (fF A' S.length c');have ae:=za (show RetA R (M+10) (L+1) w (j7 (j4 #[H,Q,fF A' S.length c'])) _ from ⟨⟨H,Q,S⟩,A',S.length,c',rfl,f1,⟨ai,zjU zks.own⟩,f2,f3⟩);clear f1 f2 f3;go_wp2_with fail
   exact bodyPost_ret (v:=j4 #[H,Q,fF A' S.length c']) (by simp [results,Tryz.results117,go_sem,cz]) rfl ae.out
def lenAt (W:j2) (G:Nat):Nat:=match W.cell? ⟨G,1,fW⟩ with|some (fF _ n _)=>n|_=>0
theorem zbO.lenAt {vA:j6} {rows:List j6}  (h:zbO w0 W R G M al (fF A n c) rows ls vA acc):Go.Proofs.YtckbjnndaaoddaaGreatDoor.lenAt W G=n:=by
 unfold Go.Proofs.YtckbjnndaaoddaaGreatDoor.lenAt;rw [h.blk.cell 1];rfl
theorem yX16a6 {P:Prop}(h:P:=by
 have hn1:m=0:=oM;clear hn0;have cG:=zks.blk.cell;go_wp2_with fail
 go_meet;exact⟨_,_,_,_,_,_,zks.more oM,za (Hb.out.more oM)⟩
 ):P:=h
theorem zeO (h:Rd w R M)(hM:M<=900000000)(ho:zT w (R+1) A n c A' n' c' b)(hb:BdA L b)(hL:L<=100) :
  j8 j5 77 #[kD (fV R),j4 #[b.al,fF A n c,fF A' n' c']] w (zgY R (M+10) (BdA (L+13)) w):=by
 have hRl:=h.lt;have aC:=hb.size oM
 go_enter Tryz.func77,Tryz.ntmps77
 have u:=(cY w).alloc (.cells #[b.al,fF A n c,fF A' n' c'] 27);have b0:=eB w 27 #[b.al,fF A n c,fF A' n' c'];have aW:(w.alloc (.cells #[b.al,fF A n c,fF A' n' c'] 27)).heap.size=w.heap.size+1:=sM;have V:=u.alloc (.cells #[(0:Int),(),()] 27);have bz:=eB (w.alloc (.cells #[b.al,fF A n c,fF A' n' c'] 27)) 27 #[(0:Int),(),()];replace b0:=b0.ext ((cY _).alloc (.cells #[(0:Int),(),()] 27));rw [aW] at bz;have c0:=b0.cell;go_upto_region 1 with fail
 generalize (w.alloc _).alloc _=I at *;have a0:=bz.lt;go_wp2_with fail
 refine (zaX (ho.ext V).reads aC).mono ?_;rintro e w2 ⟨B,m,d,B',m',d',rfl,zkr,am⟩;obtain⟨a,zks⟩:=zbO.of (R:=R) (M:=M) zkr (h.ext (V.trans am)) am.dr oM;have hG:=am.size;have hm:m=b.next.length:=zkr.2.1;have bx:m<=100:=oH hb.1;have Hm:=za hm;have Hb:=za hb;clear zkr ho hm hb aC;go_upto_region 2 with fail
 generalize w2.alloc _=w3 at *;generalize w2.heap.size=G at *;have cG:=zks.blk.cell;go_wp2_with fail
 refine (zE zks.rd oM).mono ?_;rintro e w4 ⟨k,rfl,av,-,hr4,hd4⟩;replace zks:=zks.drawn hd4 hr4;have Hk:=za av;clear hd4 hr4 cG av;go_wp2_with fail
 refine (zE zks.rd oM).mono ?_;rintro e D ⟨y,rfl,-,-,aB,aq⟩;replace zks:=zks.drawn aq aB;clear aq aB;go_upto_block 0 with fail
 go_cut [] (fun wx=>∃ (al:Int) (v:j6) (a:List j6) (C:List (List Int)) (vA:j6) (o:List Bool),zbO I wx R G (M+10) al v a C vA o/\Hid (BdL (L+13) C o))
 case first =>
  have ad:y=0\/y=1\/y=2\/y=3\/y=4\/y=5\/6<=y:=oM;rcases ad with J|J|J|J|J|J|J
  ·subst J;have Y:True:=trivial;go_wp2_with fail
   refine (zaW [64,(-1),1,63,0] 5 #[(64:Int),.int iX (-1),(1:Int),(63:Int),(0:Int)] rfl rfl oM oM zks.rd oM).mono ?_;rintro e E ⟨x,-,rfl,hr6,hd6⟩;replace zks:=(zks.ext ((cY _).alloc _)).drawn hd6 hr6;have cG:=zks.blk.cell;have fG:=zks.blk.frozen;go_wp2_with fail
   go_meet;exact⟨_,_,_,_,_,_,(zks.setAl x).more oM,za (Hb.out.more oM)⟩
  ·subst J;have Y:True:=trivial;have cG:=zks.blk.cell;have H:=zks.dr.size;have hal:b.acc.length<=100:=oH Hb.out.2.1;go_wp2_with (at_builtin;refine zI I D rfl _ _ _ rfl 4 _ 1 1 Tryz.underlying25 zaK rfl dM (fF B' m' d') b.acc.length (zaa b.acc) _ _ rfl rfl H zks.acc rfl (by simp [Value.oneCell']) lM oM ?_;intro g6 cap6 E hown6 hg6 hat6 hlt6;obtain⟨q1,q2,q3⟩:=zks.aq (x:=true) hown6 hg6 hat6;have a2:=q1.out)
   go_meet;exact⟨_,_,_,_,_,_,q3.more oM,za ⟨oH Hb.out.1,by have:=Hb.out.2.1;simp;omega,fun l z=>by have:=Hb.out.2.2 l z;omega⟩⟩
  ·subst J;have Y:True:=trivial
   by_cases hn0:0<m
   ·have hk:=Hk.out oM;have S:k<b.next.length:=oH Hm.out;obtain⟨l,z⟩:∃ l,b.next[k]?=fV l:=⟨_,dC S⟩;obtain⟨gN,rfl,ar,-⟩:=zN (show D.ownsRow I.heap.size 110 1 (fF B m d) m a from by have:=zks.nx;rw [<- Hm.out] at this;exact this) hn0;obtain⟨Z,O,hr,f,t⟩:=zks.row z Hm.out;have aj:l.length<=100:=by have:=Hb.out.2.2 l (dD z);omega
    have HL:=za z;have HR:=za hr;have H:=zks.dr.size;have cG:∀ W,Frm (fun b=>(fF Z l.length O).ownBlock=fV b) D W->∀ q,W.cell? ⟨G,q,fW⟩=#[Value.int iX b.al,fF (fV gN) m d,fF B' m' d'][q]?:=fun W hW=>(zks.blk.frm hW (fun e=>zr t zks.blk dM e rfl)).cell;have cN:∀ W,Frm (fun b=>(fF Z l.length O).ownBlock=fV b) D W->W.cell? ⟨gN,k,fW⟩=fV (fF Z l.length O):=fun W hW=>by
     have hx:W.ownsRow I.heap.size 110 1 (fF (fV gN) m d) b.next.length a:=zf zks.nx hW (fun b hb hS=>zat zks.nx t dM hb hS);rw [<- Hm.out] at hx;rw [hx.cellAt k oM,HR.out]
    have bj:Frm (fun b=>(fF Z l.length O).ownBlock=fV b) D D.drew:=(cY D).drew.ak;clear z hr f S;go_wp2_with fail
    refine tR (fun X=>Frm (fun b=>(fF Z l.length O).ownBlock=fV b) D X) [11] (Ord.of [0,1,2,3,4,5,6,7,8,9,10,11]) ?_;refine tQ ?_;refine zD fun K hK=>?_;go_simp;have ae:=(cY D).drew;refine hK.out _ _ (ae.alloc _).ak ?_;refine pT ?_;refine zD (fun K hK=>?_);refine zaE I D.drew _ _ _ rfl 3 _ 1 8 Tryz.underlying110 zR rfl dM (fF Z l.length O) l.length (ints l) _ _ rfl rfl H (zi t ae) rfl (by simp [Value.oneCell']) lM oM ?_;intro g6 cap6 E hown6 hg6 hat6 hlt6;obtain⟨q1,q2,q3,q4⟩:=(zks.ext ae).growRow (x:=0) Hm.out HR.out HL.out hown6 hg6 hat6;have bC:=q2.out;refine hK.out _ _ (ae.ak.trans (Frm.ab hg6)) ?_;refine pT ?_;refine tQ ?_;refine zQ fun K hK=>?_;go_simp;refine hK.out _ _ ?_;refine zap ?_;go_wp2_with fail
    go_meet;refine⟨_,_,_,_,_,_,q4.more oM,za ⟨by have:=Hb.out.1;rw [fB];omega,oH Hb.out.2.1,fun l' hl'=>?_⟩⟩;rcases e8 hl' with h1|h1
    ·have:=Hb.out.2.2 l' h1;omega
    ·have:=Hb.out.2.2 l (dD HL.out);rw [h1];simp;omega
   ·exact yX16a6
  ·subst J;have Y:True:=trivial
   by_cases hn0:0<m
   ·have hk:=Hk.out oM;have S:k<b.next.length:=oH Hm.out;obtain⟨l,z⟩:∃ l,b.next[k]?=fV l:=⟨_,dC S⟩;obtain⟨gN,rfl,ar,-⟩:=zN (show D.ownsRow I.heap.size 110 1 (fF B m d) m a from by have:=zks.nx;rw [<- Hm.out] at this;exact this) hn0;obtain⟨Z,O,hr,f,t⟩:=zks.row z Hm.out;have aj:l.length<=100:=by have:=Hb.out.2.2 l (dD z);omega
    have HL:=za z;have HR:=za hr;have aK:=za (Hb.out.2.2 l (dD z));clear z hr S;have cG:=zks.blk.cell
    by_cases hl0:0<l.length
    ·obtain⟨gr,rfl,-,-⟩:=zN t hl0;go_wp2_with fail
     refine (zE (n:=l.length) zks.rd oM).mono ?_;rintro e E ⟨j,rfl,au,-,hr6,hd6⟩;have bs:=au oM;replace zks:=zks.drawn hd6 hr6;have bq:=zks.hR;have cN:∀ W,Dr R E W->W.cell? ⟨gN,k,fW⟩=fV (fF (fV gr) l.length O):=fun W hW=>(hd6.trans hW).aa f (by simp;omega);have bA:IntKind.i64.wrap ((m:Int) - 1)=(m:Int) - 1:=by rw [IntKind.wrap_i64];omega
     clear cG au hr6 hd6 f t;have cG:∀ W,Dr R E W->∀ q,W.cell? ⟨G,q,fW⟩=#[Value.int iX b.al,fF (fV gN) m d,fF B' m' d'][q]?:=fun W hW=>(zks.blk.dr hW (oH zks.hG)).cell;go_wp2_with fail
     refine tR (fun X=>Dr R E X) [13] (Ord.of [0,1,2,3,4,5,6,7,8,9,10,11,12,13]) ?_;refine tQ ?_;refine zD fun K hK=>?_;go_simp;refine hK.out _ _ ((Dr.refl R E).drew.alloc _) ?_;refine pT ?_;refine zD fun K hK=>?_;go_simp;refine (zaW (w:=E.drew) [(-1),m,(m:Int) - 1,0] 4 #[.int iX (-1),m,.int iX ((m:Int) - 1),(0:Int)] rfl rfl oM oM (zks.rd.ext (cY _).drew) oM).mono ?_;rintro e w7 ⟨x,-,rfl,hr7,hd7⟩;have af:Dr R E w7:=((Dr.refl R E).drew.alloc _).trans hd7;have Q:=zks.drawn af hr7;refine hK.out _ _ af ?_;refine pT ?_;refine tQ ?_;have zkr:=Q.rows.2.1 k _ l HR.out HL.out;obtain⟨o0,c0⟩:=zaF zkr j oM;have f0:=zkr.frozenAt j;have hst:=Q.setRow (k:=j) (x:=x) HR.out HL.out rfl;refine zQ fun K hK=>?_;go_simp;refine hK.out _ _ ?_;refine zap ?_;go_wp2_with fail
     go_meet;refine⟨_,_,_,_,_,_,hst.more oM,za ⟨by have:=Hb.out.1;rw [fB];omega,oH Hb.out.2.1,fun l' hl'=>?_⟩⟩;rcases e8 hl' with h1|h1
     ·have:=Hb.out.2.2 l' h1;omega
     ·rw [h1];simp;have:=aK.out;omega
    ·have bt:l.length=0:=oM;have bu:¬ ((l.length:Int)>0):=oM;go_wp2_with fail
     go_meet;exact⟨_,_,_,_,_,_,zks.more oM,za (Hb.out.more oM)⟩
   ·exact yX16a6
  ·subst J;have Y:True:=trivial;have H:=zks.dr.size;have p:=zks.ext ((cY D).alloc (.cells #[] 110));have hn1:=World.ownsRow_lit (base:=I.heap.size) (e:=110) (size:=1) D #[] 0 H lM rfl;have cG:=p.blk.cell;have fG:=p.blk.frozen;go_upto_region 18 with fail
   replace p:=p.setNext hn1;clear zks cG fG hn1;generalize (D.alloc (.cells #[] 110)).setCell ⟨G,1,fW⟩ (fF (fV D.heap.size) 0 0)=E at *;have aX:=p.dr.size;have F:=p.ext ((cY E).alloc (.cells #[] 4));have aV:=World.ownsRow_lit (base:=I.heap.size) (e:=4) (size:=1) E #[] 0 aX lM rfl;have cG:=F.blk.cell;have fG:=F.blk.frozen;go_wp2_with fail
   go_meet;exact⟨_,_,_,_,_,_,(F.setMarks aV).more oM,za ⟨sM,sM,fun l z=>by simp at z⟩⟩
  ·subst J;have Y:True:=trivial
   by_cases hn0:0<m
   ·have a6:((m:Int)>0):=oM;have aA:m=b.next.length:=Hm.out;have bw:m<=L:=oH Hb.out.1;have hst:∃ (i:Nat) (v:j6) (a:List j6) (C:List (List Int)) (vA:j6) (o:List Bool),i<=13/\zbO I D R G (M+2) b.al v a C vA o/\Hid (C.length=m+i)/\Hid (i=0\/m+i<=13)/\Hid (o.length<=L+i)/\Hid (∀ l∈C,l.length<=L):=
     ⟨0,_,_,_,_,_,oM,zks,za aA.symm,za (.inl rfl),za Hb.out.2.1,za Hb.out.2.2⟩
    clear aA zks;go_wp2_with fail
    go_loopw [] (fun wr=>∃ (i:Nat) (v:j6) (a:List j6) (C:List (List Int)) (vA:j6) (o:List Bool),i<=13/\zbO I wr R G (M+2) b.al v a C vA o/\Hid (C.length=m+i)/\Hid (i=0\/m+i<=13)/\Hid (o.length<=L+i)/\Hid (∀ l∈C,l.length<=L)) (fun wr=>200 - lenAt wr G)
    case atStart=>exact hst
    case round =>
     clear hst;obtain⟨i,v,a,C,vA,o,hi,zks,s,aT,hal,ai⟩:=hrel;obtain⟨gN,cN,rfl,ar⟩:∃ g c,v=fF (fV ⟨g,0,fW⟩) (m+i) c/\I.heap.size<=g:=by
      obtain⟨A9,c9,rfl⟩:=zh zks.nx;obtain⟨g,rfl,hg,-⟩:=zN zks.nx (oH s.out);exact⟨g,c9,by rw [s.out],hg⟩
     have az:=za zks.lenAt
     by_cases hlt:m+i<=12
     ·have ax:((m+i:Nat):Int)<=12:=oM;have ap:0<C.length:=oH s.out;obtain⟨l,z⟩:∃ l,C[0]?=fV l:=⟨_,dC ap⟩;obtain⟨Z,O,hr,f,t⟩:=zks.row z s.out.symm;have aj:l.length<=L:=ai.out l (dD z);have aL:=za aj;have aw:=za zks.low;have H:=zks.dr.size;have ag:=eF t;have aN:=za (fun W (hW:Ext wr W)=>ag.ext hW);have cG:=fun W (hW:Ext wr W)=>(zks.blk.ext hW).cell;have aQ:∀ W,Ext wr W->W.cell? gN=fV (fF Z l.length O):=fun W hW=>hW.aa f;have aZ:=cY wr;have bk:(0:Int)<((m+i:Nat):Int):=oM;have bl:0<(m:Int)+(i:Int):=oM;clear z hr f t ag ap;go_upto_region 21 with fail
      refine uR (fun X=>Ext wr X) [9,11] (zx.of [0,1,3,4,5,6,2,7,8,9,10,11]) ?_;refine uQ ?_;have u:Ext wr wr.drew:=aZ.drew;generalize wr.drew=wd at *;refine ze fun K hK=>?_;go_simp;have hm:=World.ownsRow_made (base:=wr.heap.size) (e:=3) (size:=1) wd #[] 0 u.size (dH _) rfl;have V:=(cY wd).alloc (.cells #[] 3);replace u:=u.trans V;refine hK.out _ _ u ?_;generalize wd.alloc _=wm at *;generalize wd.heap.size=MM at *;refine pT ?_;refine uQ ?_;refine ze (fun K hK=>?_);refine zy wm _ _ 110 rfl wr.heap.size 3 _ 1 8 Tryz.underlying110 zR rfl dM (fF (fV MM) 0 0) 0 [] rfl hm _ _ Z l.length O (ints l) rfl (aN.out _ u) (zho _) lM oM u.size ?_;intro vR E hrow hgR hatR;rw [dX,eJ] at hrow;obtain⟨BR,dR,rfl⟩:=zh hrow;have U:Ext wr E:=u.grown hgR (fun k hk=>(hm.lt k hk).1);refine hK.out _ _ U ?_;refine pT ?_;refine uQ ?_;refine ze fun K hK=>?_;go_simp;refine hK.out _ _ (U.alloc _) ?_;refine pT ?_;refine zb fun K hK=>?_;have r:=zks.ext U;have T:=r.nx;rw [s.out] at T;refine zaE I E _ _ _ rfl 110 _ 1 24 Tryz.underlying24 zbs rfl dM (fF (fV gN) (m+i) cN) (m+i) a _ _ rfl rfl r.dr.size T rfl (zaG _ _ _) lM oM ?_;intro g7 cap7 w7 hown7 hg7 hat7 hlt7;refine hK.out _ _ ?_;refine pT ?_;refine uQ ?_;obtain⟨p1,p2,p3⟩:=r.ax (l:=l) (W':=w7) (g:=g7) (cap:=cap7) aw.out H hrow (by rw [s.out];exact hown7) hg7 hat7;have a1:=p1.out;rw [s.out] at p3;refine zb fun K hK=>?_;go_simp;refine hK.out _ _ ?_;refine zg ?_;generalize w7.setCell ⟨G,1,fW⟩ (fF (fV g7) (m+i+1) cap7)=w8 at *;have bf:=p3.blk.cell;have aY:=p3.dr.size;have a5:=hal.out;clear p1 a1 p2 cG aQ hown7 hg7 hat7 r zks T;go_wp2_with (at_builtin;refine zI I w8 rfl _ _ _ rfl 4 _ 1 1 Tryz.underlying25 zaK rfl dM vA o.length (zaa o) _ _ rfl rfl aY p3.acc rfl (by simp [Value.oneCell']) lM oM ?_;intro g9 cap9 w9 hown9 hg9 hat9 hlt9;obtain⟨q1,q2,q3⟩:=p3.aq (x:=j3) hown9 hg9 hat9;have a2:=q1.out)
      go_roundw
      case rel=>exact⟨i+1,oM,_,_,C++[l],_,o++[j3],q3,za (by have:=s.out;simp;omega),za oM,za (by simp;omega),za (fun l' hl'=>by
       rcases List.mem_append.1 hl' with h1|h1
       ·exact ai.out l' h1
       ·rw [List.mem_singleton.1 h1];exact aL.out)⟩
      case measure=>have h1:=q3.lenAt;have h2:=az.out;omega
     ·have ax:¬ (((m+i:Nat):Int)<=12):=oM;have cG:=zks.blk.cell;go_wp2_with fail
      go_meet;exact⟨_,_,_,_,_,_,zks.more oM,za ⟨by have:=s.out;have:=aT.out;omega,oH hal.out,fun l' hl'=>by have:=ai.out l' hl';omega⟩⟩
   ·have hn1:m=0:=oM;clear hn0;have cG:=zks.blk.cell;have hst:=zks;clear zks;go_wp2_with fail
    go_loopw [] (fun wr=>zbO I wr R G (M+1+1) b.al (fF B m d) a b.next (fF B' m' d') b.acc) (fun wr=>0)
    case atStart=>exact hst
    case round =>
     clear hst cG;have cG:=hrel.blk.cell;go_wp2_with fail
     go_meet;exact⟨_,_,_,_,_,_,hrel.more oM,za (Hb.out.more oM)⟩
  ·have bi:((y:Int)==0)=j3:=by simp;omega
   have h1':((y:Int)==1)=j3:=by simp;omega
   have bm:((y:Int)==2)=j3:=by simp;omega
   have bn:((y:Int)==3)=j3:=by simp;omega
   have bo:((y:Int)==4)=j3:=by simp;omega
   have bp:((y:Int)==5)=j3:=by simp;omega
   go_wp2_with fail
   go_meet;exact⟨_,_,_,_,_,_,zks.more oM,za (Hb.out.more oM)⟩
 case rest =>
  clear zks;obtain⟨al,v,a,C,vA,o,zks,aS⟩:=hcut;obtain⟨A5,c5,rfl⟩:=zh zks.nx;obtain⟨B5,d5,rfl⟩:=zh zks.acc;obtain⟨f1,f2⟩:=zks.fin (N:=M+10) (sh:=BdA (L+13)) V bz rfl hRl oM a0 oM aS.out;have bz5:=bz.dr zks.dr oM;have cG:=zks.blk.cell;have cZ:=bz5.cell;have fZ:=bz5.frozen;go_wp2_with fail
  have cf:=f2.cell;exact bodyPost_ret (v:=j4 #[al,fF A5 C.length c5,fF B5 o.length d5]) (by simp [results,Tryz.results77,go_sem,cf]) rfl f1.out
theorem zkd (h:Rd w R M)(hM:M<=900000000)(ho:zT w (R+1) A n c A' n' c' b)(hb:BdA L b)(hL:L<=100) :
  j8 j5 75 #[kD (fV R),j4 #[b.al,fF A n c,fF A' n' c']] w (zgY R (M+10) (BdA (L+1)) w):=by
 have hRl:=h.lt;have ar:=hb.size oM
 go_enter Tryz.func75,Tryz.ntmps75
 have o:=(cY w).alloc (.cells #[b.al,fF A n c,fF A' n' c'] 27);have b0:=eB w 27 #[b.al,fF A n c,fF A' n' c'];have aT:(w.alloc (.cells #[b.al,fF A n c,fF A' n' c'] 27)).heap.size=w.heap.size+1:=sM;have t:=o.alloc (.cells #[(0:Int),(),()] 27);have bz:=eB (w.alloc (.cells #[b.al,fF A n c,fF A' n' c'] 27)) 27 #[(0:Int),(),()];replace b0:=b0.ext ((cY _).alloc (.cells #[(0:Int),(),()] 27));rw [aT] at bz;have c0:=b0.cell;go_upto_region 1 with fail
 generalize (w.alloc _).alloc _=w1 at *;have aw:=bz.lt;go_wp2_with fail
 refine (zaX (ho.ext t).reads ar).mono ?_;rintro e w2 ⟨B,m,d,B',m',d',rfl,zkr,Z⟩;obtain⟨f,zks⟩:=zbO.of (R:=R) (M:=M) zkr (h.ext (t.trans Z)) Z.dr oM;have hG:=Z.size;have hm:m=b.next.length:=zkr.2.1;have aR:m'=b.acc.length:=zkr.2.2.2;have bt:m<=100:=oH hb.1;have H:=za hm;have Hb:=za hb;subst aR;clear zkr ho hm hb ar;go_upto_region 2 with fail
 generalize w2.alloc _=w3 at *;generalize w2.heap.size=G at *;have cG:=zks.blk.cell
 by_cases hm0:m=0
 ·subst hm0;have ad:=zks;rw [show (fF B' b.acc.length d')=Value.slice B' b.acc.length d' from rfl] at ad;obtain⟨f1,f2⟩:=ad.fin (N:=M+10) (sh:=BdA (L+1)) t bz rfl hRl oM aw oM (Hb.out.more oM);have bz5:=bz.dr zks.dr oM;have cZ:=bz5.cell;have fZ:=bz5.frozen;clear ad;go_wp2_with fail
  have cf:=f2.cell;exact bodyPost_ret (v:=j4 #[b.al,fF B 0 d,fF B' b.acc.length d']) (by simp [results,Tryz.results75,go_sem,cf]) rfl f1.out
 have aS:((m:Int)==0)=j3:=by simp;omega
 go_wp2_with fail
 refine (zE zks.rd oM).mono ?_;rintro e w4 ⟨k,rfl,aj,-,hr4,hd4⟩;replace zks:=zks.drawn hd4 hr4;have bp:k<m:=by have:=aj oM;omega
 clear hd4 hr4 cG aj aS;go_wp2_with fail
 refine (zE zks.rd oM).mono ?_;rintro e a ⟨y,rfl,-,-,aq,ai⟩;replace zks:=zks.drawn ai aq;clear ai aq;go_upto_block 0 with fail
 go_cut [] (fun wx=>∃ (v:j6) (f:List j6) (ls:List (List Int)) (vA:j6) (I:List Bool),zbO w1 wx R G (M+10) b.al v f ls vA I/\Hid (BdL (L+1) ls I))
 case first =>
  have am:k<b.next.length:=oH H.out;obtain⟨l,hl⟩:∃ l,b.next[k]?=fV l:=⟨_,dC am⟩;obtain⟨gN,rfl,bn,-⟩:=zN (show a.ownsRow w1.heap.size 110 1 (fF B m d) m f from by have:=zks.nx;rw [<- H.out] at this;exact this) oM;obtain⟨Ar,cr,hr,s,E⟩:=zks.row hl H.out;have bs:l.length<=100:=by have:=Hb.out.2.2 l (dD hl);omega
  have HL:=za hl;have HR:=za hr;have U:=za (Hb.out.2.2 l (dD hl));have aU:=zks.dr.size;clear hl hr am;have O:y=0\/y=1\/y=2\/3<=y:=oM;rcases O with hy|hy|hy|hy
  ·subst hy;have av:True:=trivial;have cG:=fun W (hW:Ext a W)=>(zks.blk.ext hW).cell
   by_cases hka:k<b.acc.length
   ·obtain⟨V,rfl,aO,-⟩:=zN zks.acc oM;obtain⟨x,hx⟩:∃ x,b.acc[k]?=fV x:=⟨_,dC hka⟩;have C:a.cell? ⟨V,k,fW⟩=fV (.bool x):=by rw [zks.acc.cellAt k oM];simp [zaa,hx]
    have cA:∀ W,Ext a W->W.cell? ⟨V,k,fW⟩=fV (.bool x):=fun W hW=>hW.aa C;have fA:∀ W,Ext a W->W.frozen? ⟨V,k,fW⟩=j3:=fun W hW=>(zi zks.acc hW).frozenAt k;have hst:=(zks.ext (cY a).drew).setAcc (i:=k) (x:=!x) rfl;have ak:(k:Int)<(b.acc.length:Int):=oM;have F:=cY a;clear C hx;go_wp2_with fail
    refine tR (fun X=>Ext a X) [10] (Ord.of [0,1,2,3,4,5,6,7,8,9,10]) ?_;refine tQ ?_;refine zQ fun K hK=>?_;go_simp;refine hK.out _ _ ?_;refine zap ?_;go_wp2_with fail
    go_meet;exact⟨_,_,_,_,_,hst.more oM,za ⟨oH Hb.out.1,by have:=Hb.out.2.1;rw [fB];omega,fun l' hl'=>by have:=Hb.out.2.2 l' hl';omega⟩⟩
   ·have ak:¬ ((b.acc.length:Int)>(k:Int)):=oM;have F:=cY a;go_wp2_with fail
    go_meet;exact⟨_,_,_,_,_,zks.more oM,za (Hb.out.more oM)⟩
  ·subst hy;have av:True:=trivial
   by_cases hl0:0<l.length
   ·obtain⟨gr,rfl,-,-⟩:=zN E hl0;have bl:=zks.hR;have cN:∀ W,Dr R a W->W.cell? ⟨gN,k,fW⟩=fV (fF (fV gr) l.length cr):=fun W hW=>hW.aa s (by simp;omega);have cG:∀ W,Dr R a W->∀ q,W.cell? ⟨G,q,fW⟩=#[Value.int iX b.al,fF (fV gN) m d,fF B' b.acc.length d'][q]?:=fun W hW=>(zks.blk.dr hW (oH zks.hG)).cell;have bm:=Dr.refl R a;clear s E;go_wp2_with fail
    refine tR (fun X=>Dr R a X) [17] (Ord.of [0,1,2,3,4,5,6,7,8,9,10,11,13,14,12,15,16,17]) ?_;refine tQ ?_;refine zD fun K hK=>?_;go_simp;refine (zE (n:=l.length) (zks.rd.ext (cY _).drew) oM).mono ?_;rintro e w6 ⟨j,rfl,aP,-,hr6,hd6⟩;have bo:=aP oM;have Q:Dr R a w6:=(Dr.refl R a).drew.trans hd6;refine hK.out _ _ Q ?_;refine pT ?_;refine tQ ?_;refine zD fun K hK=>?_;go_simp;refine (zE (n:=m) hr6 oM).mono ?_;rintro e w7 ⟨x,rfl,a5,-,hr7,hd7⟩;have S:Dr R a w7:=Q.trans hd7;have z:=zks.drawn S hr7;refine hK.out _ _ S ?_;refine pT ?_;refine tQ ?_;have zkr:=z.rows.2.1 k _ l HR.out HL.out;obtain⟨o0,c0⟩:=zaF zkr j oM;have f0:=zkr.frozenAt j;have hst:=z.setRow (k:=j) (x:=x) HR.out HL.out rfl;refine zQ fun K hK=>?_;go_simp;refine hK.out _ _ ?_;refine zap ?_;go_wp2_with fail
    go_meet;refine⟨_,_,_,_,_,hst.more oM,za ⟨by have:=Hb.out.1;rw [fB];omega,oH Hb.out.2.1,fun l' hl'=>?_⟩⟩;rcases e8 hl' with h1|h1
    ·have:=Hb.out.2.2 l' h1;omega
    ·rw [h1];simp;have:=U.out;omega
   ·have bq:l.length=0:=oM;have br:¬ ((l.length:Int)>0):=oM;have cG:=zks.blk.cell;go_wp2_with fail
    go_meet;exact⟨_,_,_,_,_,zks.more oM,za (Hb.out.more oM)⟩
  ·subst hy;have av:True:=trivial;have cG:=fun W (hW:Ext a W)=>(zks.blk.ext hW).cell;have aK:∀ W,Ext a W->W.cell? ⟨gN,k,fW⟩=fV (fF Ar l.length cr):=fun W hW=>hW.aa s;have F:=cY a
   by_cases h1:12<=m
   ·have h1':¬ ((m:Int)<12):=oM;go_wp2_with fail
    go_meet;exact⟨_,_,_,_,_,zks.more oM,za (Hb.out.more oM)⟩
   have h1':(m:Int)<12:=oM
   by_cases h2:b.acc.length<=k
   ·have ah:¬ ((b.acc.length:Int)>(k:Int)):=oM;go_wp2_with fail
    go_meet;exact⟨_,_,_,_,_,zks.more oM,za (Hb.out.more oM)⟩
   have ah:(b.acc.length:Int)>(k:Int):=oM
   by_cases h3:l.length<=0
   ·have bk:¬ ((l.length:Int)>0):=oM;have a1:l.length=0:=oM;go_wp2_with fail
    go_meet;exact⟨_,_,_,_,_,zks.more oM,za (Hb.out.more oM)⟩
   have a2:=za zks.lenAt;have T:=eF E;have aH:=za (fun W (hW:Ext a W)=>T.ext hW);have ao:=za zks.low;have a3:=za E;clear s E T;go_upto_region 15 with fail
   refine uR (fun X=>Ext a X) [10,12] (zx.of [0,1,3,4,5,6,7,2,8,9,10,11,12]) ?_;refine uQ ?_;have o:Ext a a.drew:=F.drew;generalize a.drew=wd at *;refine ze fun K hK=>?_;go_simp;have hm:=World.ownsRow_made (base:=a.heap.size) (e:=3) (size:=1) wd #[] 0 o.size (dH _) rfl;have t:=(cY wd).alloc (.cells #[] 3);replace o:=o.trans t;refine hK.out _ _ o ?_;generalize wd.alloc _=wm at *;generalize wd.heap.size=MM at *;refine pT ?_;refine uQ ?_;refine ze (fun K hK=>?_);refine zy wm _ _ 110 rfl a.heap.size 3 _ 1 8 Tryz.underlying110 zR rfl dM (fF (fV MM) 0 0) 0 [] rfl hm _ _ Ar l.length cr (ints l) rfl (aH.out _ o) (zho _) lM oM o.size ?_;intro vR w6 hrow hgR hatR;rw [dX,eJ] at hrow;obtain⟨BR,dR,rfl⟩:=zh hrow;have u:Ext a w6:=o.grown hgR (fun k hk=>(hm.lt k hk).1);refine hK.out _ _ u ?_;refine pT ?_;refine uQ ?_;refine ze fun K hK=>?_;go_simp;refine hK.out _ _ (u.alloc _) ?_;refine pT ?_;refine zb fun K hK=>?_;have p:=zks.ext u;have D:=p.nx;rw [<- H.out] at D;refine zaE w1 w6 _ _ _ rfl 110 _ 1 24 Tryz.underlying24 zbs rfl dM (fF (fV gN) m d) m f _ _ rfl rfl p.dr.size D rfl (zaG _ _ _) lM oM ?_;intro g7 cap7 w7 hown7 hg7 hat7 hlt7;refine hK.out _ _ ?_;refine pT ?_;refine uQ ?_;obtain⟨p1,p2,p3⟩:=p.ax (l:=l) (W':=w7) (g:=g7) (cap:=cap7) ao.out aU hrow (by rw [<- H.out];exact hown7) hg7 hat7;have aV:=p1.out;rw [<- H.out] at p3;refine zb fun K hK=>?_;go_simp;refine hK.out _ _ ?_;refine zg ?_;generalize w7.setCell ⟨G,1,fW⟩ (fF (fV g7) (m+1) cap7)=w8 at *;have bu:=p3.dr.size;clear p1 aV p2 cG aK hown7 hg7 hat7 p zks D u o t;obtain⟨V,rfl,aO,-⟩:=zN p3.acc oM;obtain⟨x,hx⟩:∃ x,b.acc[k]?=fV x:=⟨_,dC oM⟩;have C:w8.cell? ⟨V,k,fW⟩=fV (.bool x):=by rw [p3.acc.cellAt k oM];simp [zaa,hx]
   have cA:∀ W,Ext w8 W->W.cell? ⟨V,k,fW⟩=fV (.bool x):=fun W hW=>hW.aa C;have aJ:=fun W (hW:Ext w8 W)=>(p3.blk.ext hW).cell;have F:=cY w8;clear C hx;go_upto_region 16 with fail
   refine uR (fun X=>Ext w8 X) [8,10] (zx.of [0,1,2,3,4,5,6,7,8,9,10]) ?_;refine uQ ?_;have aa:Ext w8 w8.drew:=F.drew;generalize w8.drew=aY at *;refine ze fun K hK=>?_;go_simp;refine hK.out _ _ (aa.alloc _) ?_;refine pT ?_;refine zb fun K hK=>?_;have r:=p3.ext aa;refine zaE w1 aY _ _ _ rfl 4 _ 1 1 Tryz.underlying25 zaK rfl dM (fF (fV V) b.acc.length d') b.acc.length (zaa b.acc) _ _ rfl rfl r.dr.size r.acc rfl (by simp [Value.oneCell']) (by unfold maxLen;have:=Hb.out.2.1;omega) (oH Hb.out.2.1) ?_;intro g9 cap9 w9 hown9 hg9 hat9 hlt9;refine hK.out _ _ ?_;refine pT ?_;refine uQ ?_;obtain⟨q1,q2,q3⟩:=r.aq (x:=x) hown9 hg9 hat9;have aW:=q1.out;refine zb fun K hK=>?_;go_simp;refine hK.out _ _ ?_;refine zg ?_;generalize w9.setCell ⟨G,2,fW⟩ (fF (fV g9) (b.acc.length+1) cap9)=aX at *;clear q1 aW q2 aJ cA r p3 hown9 hg9 hat9 aa;have aQ:k<f.length:=by have:=q3.rows.1;simp at this;have:=H.out;omega
   have J:(f++[fF BR l.length dR])[k]?=fV (fF Ar l.length cr):=by rw [dJ aQ];exact HR.out
   have Y:(b.next++[l])[k]?=fV l:=by rw [dJ (oH H.out)];exact HL.out
   have zkr:=q3.rows.2.1 k _ l J Y;obtain⟨gr,rfl,-,-⟩:=zN zkr oM;obtain⟨o0,c0⟩:=zaF zkr 0 oM;have f0:=zkr.frozenAt 0;have hst:=q3.setRow (k:=0) (x:=m) J Y rfl;have cG:=q3.blk.cell;have cN:aX.cell? ⟨g7,k,fW⟩=fV (fF (fV gr) l.length cr):=by
    have:=q3.nx;rw [List.length_append,List.length_singleton,<- H.out] at this;rw [this.cellAt k oM];exact J
   clear zkr J Y;go_wp2_with fail
   go_meet;refine⟨_,_,_,_,_,hst.more oM,za ⟨by have:=Hb.out.1;rw [fB];simp;omega,by have:=Hb.out.2.1;simp;omega,fun l' hl'=>?_⟩⟩;rcases e8 hl' with h1|h1
   ·rcases List.mem_append.1 h1 with h1|h1
    ·have:=Hb.out.2.2 l' h1;omega
    ·rw [List.mem_singleton.1 h1];have:=U.out;omega
   ·rw [h1];simp;have:=U.out;omega
  ·have bj:((y:Int)==0)=j3:=by simp;omega
   have h1':((y:Int)==1)=j3:=by simp;omega
   have ah:((y:Int)==2)=j3:=by simp;omega
   go_wp2_with fail
   go_meet;exact⟨_,_,_,_,_,zks.more oM,za (Hb.out.more oM)⟩
 case rest =>
  clear zks;obtain⟨v,f,ls,vA,I,zks,aN⟩:=hcut;obtain⟨A5,c5,rfl⟩:=zh zks.nx;obtain⟨B5,d5,rfl⟩:=zh zks.acc;obtain⟨f1,f2⟩:=zks.fin (N:=M+10) (sh:=BdA (L+1)) t bz rfl hRl oM aw oM aN.out;have bz5:=bz.dr zks.dr oM;have cG:=zks.blk.cell;have cZ:=bz5.cell;have fZ:=bz5.frozen;go_wp2_with fail
  have cf:=f2.cell;exact bodyPost_ret (v:=j4 #[b.al,fF A5 ls.length c5,fF B5 I.length d5]) (by simp [results,Tryz.results75,go_sem,cf]) rfl f1.out
theorem Dr.far {a b c:j2}(h:Dr R a b)(hf:Frm (fun k=>k=Z) b c)(hZ:a.heap.size<=Z):Dr R a c:=
 ⟨hf.os.trans h.os,hf.tape.trans h.tape,hf.output.trans h.output,dL h.size hf.size,fun k hk hn=>(hf.block k (Nat.lt_of_lt_of_le hk h.size) (fun e=>oM)).trans (h.block k hk hn)⟩
theorem zV (W:j2) (Z:Nat) (u0 u1 u2:j6):Frm (fun k=>k=Z) W (((W.setCell Z u0).setCell ⟨Z,1,fW⟩ u1).setCell ⟨Z,2,fW⟩ u2):=
 ((dG W Z 0 u0).trans (dG _ Z 1 u1)).trans (dG _ Z 2 u2)
theorem zag (h:Blk w Z t cs)(hc:cs.size=3) (u0 u1 u2:j6):Blk (((w.setCell Z u0).setCell ⟨Z,1,fW⟩ u1).setCell ⟨Z,2,fW⟩ u2) Z t #[u0,u1,u2]:=by
 obtain⟨l⟩:=cs
 match l,hc with
 |[a,b,c],_=>simpa using ((h.ae 0 u0).ae 1 u1).ae 2 u2
def autZ:Aut:=⟨0,[],[]⟩
theorem own_autZ (w:j2) (base:Nat):zT w base fW 0 0 fW 0 0 autZ:=⟨⟨[],World.ownsRow_nil _ _ _ _,zB.nil _ _⟩,rfl,World.ownsRow_nil _ _ _ _,rfl⟩
theorem bd_autZ (K:Nat):BdA K autZ:=⟨dH _,dH _,fun l hl=>by simp [autZ] at hl⟩
structure zcd (w0 W:j2) (R M L K:Nat) (s:Sys) (A:Option Addr) (n c:Nat) (t:Sys) (C:Option Addr) (k c2:Nat) (p:Aut) (B:Option Addr) (m d:Nat) (B':Option Addr) (m' d':Nat):Prop where
 is:zbR W R A n s
 it:zbR W R C k t
 ip:zT W (R+1) B m d B' m' d' p
 ns:(n<=L/\n<=c)/\(k<=L/\k<=c2)
 bd:Hid (BdA K p)
 rd:Rd W R M
 dr:Dr R w0 W
 hR:R<w0.heap.size
section
variable {w0 W W':j2} {R M L K N J H Z n c k c2 m d m' d':Nat} {s t:Sys} {p:Aut} {A B B' C:Option Addr}
theorem zcd.drawn (h:zcd w0 W R M L K s A n c t C k c2 p B m d B' m' d')(hd:Dr R W W')(hr:Rd W' R N):zcd w0 W' R N L K s A n c t C k c2 p B m d B' m' d':=
 ⟨h.is.dr hd,h.it.dr hd,h.ip.keep hd (fun b h1 e=>oM),h.ns,h.bd,hr,h.dr.trans hd,h.hR⟩
theorem zcd.ext (h:zcd w0 W R M L K s A n c t C k c2 p B m d B' m' d')(hx:Ext W W'):zcd w0 W' R M L K s A n c t C k c2 p B m d B' m' d':=h.drawn hx.dr (h.rd.ext hx)
theorem zcd.more (h:zcd w0 W R M L K s A n c t C k c2 p B m d B' m' d')(hM:M<=N)(hL:L<=J)(hK:K<=H):zcd w0 W R N J H s A n c t C k c2 p B m d B' m' d':=
 ⟨h.is,h.it,h.ip,oH h.ns,za (BdL.more h.bd.out hK),h.rd.more hM,h.dr,h.hR⟩
theorem zcd.far {ty:TypeId} (h:zcd w0 W R M L K s A n c t C k c2 p B m d B' m' d')(hB:Blk W Z ty cs)(hf:Frm (fun k=>k=Z) W W')(hZ:w0.heap.size<=Z)(h1:ty≠117)(h2:ty≠3/\ty≠110/\ty≠4):zcd w0 W' R M L K s A n c t C k c2 p B m d B' m' d':=
 ⟨h.is.far hB h1 hf,h.it.far hB h1 hf,h.ip.aw hB hf h2,h.ns,h.bd,h.rd.frm hf (fun k hk e=>oH h.hR),h.dr.far hf hZ,h.hR⟩
theorem zcd.less (h:zcd w0 W R M L K s A n c t C k c2 p B m d B' m' d')(hd:Dr R w1 w0)(hR:R<w1.heap.size):zcd w1 W R M L K s A n c t C k c2 p B m d B' m' d':=
 ⟨h.is,h.it,h.ip,h.ns,h.bd,h.rd,hd.trans h.dr,hR⟩
end
def Ne6 (a b c d e f:Nat):Prop:=(a≠b/\a≠c/\a≠d/\a≠e/\a≠f)/\(b≠c/\b≠d/\b≠e/\b≠f)/\(c≠d/\c≠e/\c≠f)/\(d≠e/\d≠f)/\e≠f
structure Tri (w0 W:j2) (R M L K:Nat) (Zs Zt Zp Gs Gt Gp:Nat) (s:Sys) (A:Option Addr) (n c:Nat) (t:Sys) (C:Option Addr) (k c2:Nat) (p:Aut) (B:Option Addr) (m d:Nat) (B':Option Addr) (m' d':Nat):Prop where
 at_:zcd w0 W R M L K s A n c t C k c2 p B m d B' m' d'
 zs:Blk W Zs 38 #[(0:Int),(0:Int),()]
 zt:Blk W Zt 38 #[(0:Int),(0:Int),()]
 zp:Blk W Zp 27 #[(0:Int),(),()]
 bs:Blk W Gs 38 #[s.al,s.st,fF A n c]
 bt:Blk W Gt 38 #[t.al,t.st,fF C k c2]
 bp:Gp=0\/Blk W Gp 27 #[p.al,fF B m d,fF B' m' d']
 ge:w0.heap.size<=Zs/\w0.heap.size<=Zt/\w0.heap.size<=Zp/\w0.heap.size<=Gs/\w0.heap.size<=Gt/\(Gp=0\/w0.heap.size<=Gp)
 ne:Hid (Ne6 Zs Zt Zp Gs Gt Gp)
section
variable {w0 W W':j2} {R M L K N J H n c k c2 m d m' d' Zs Zt Zp Gs Gt Gp:Nat} {s t:Sys} {p:Aut} {A B B' C:Option Addr}
theorem Tri.drawn (h:Tri w0 W R M L K Zs Zt Zp Gs Gt Gp s A n c t C k c2 p B m d B' m' d')(hd:Dr R W W')(hr:Rd W' R N):Tri w0 W' R N L K Zs Zt Zp Gs Gt Gp s A n c t C k c2 p B m d B' m' d':=by
 have f:=h.at_.hR;have a:=h.ge;exact⟨h.at_.drawn hd hr,h.zs.dr hd oM,h.zt.dr hd oM,h.zp.dr hd oM,h.bs.dr hd oM,h.bt.dr hd oM,by
  rcases a.2.2.2.2.2 with e|e
  ·exact .inl e
  ·exact h.bp.imp id (fun b=>b.dr hd oM),a,h.ne⟩
theorem Tri.ext (h:Tri w0 W R M L K Zs Zt Zp Gs Gt Gp s A n c t C k c2 p B m d B' m' d')(hx:Ext W W'):Tri w0 W' R M L K Zs Zt Zp Gs Gt Gp s A n c t C k c2 p B m d B' m' d':=h.drawn hx.dr (h.at_.rd.ext hx)
theorem Tri.more (h:Tri w0 W R M L K Zs Zt Zp Gs Gt Gp s A n c t C k c2 p B m d B' m' d')(hM:M<=N)(hL:L<=J)(hK:K<=H):Tri w0 W R N J H Zs Zt Zp Gs Gt Gp s A n c t C k c2 p B m d B' m' d':={ h with at_:=h.at_.more hM hL hK }
theorem Tri.az (h:Tri w0 W R M L K Zs Zt Zp Gs Gt Gp s A n c t C k c2 p B m d B' m' d')(hG:Gp≠0):Blk W Gp 27 #[.int iX p.al,fF B m d,fF B' m' d']:=h.bp.resolve_left hG
theorem Tri.setS (h:Tri w0 W R M L K Zs Zt Zp Gs Gt Gp s A n c t C k c2 p B m d B' m' d')(hs:zbR W R A2 n2 s2)(hn:n2<=L/\n2<=d2) :
  Tri w0 (((W.setCell Gs s2.al).setCell ⟨Gs,1,fW⟩ s2.st).setCell ⟨Gs,2,fW⟩ (fF A2 n2 d2)) R M L K Zs Zt Zp Gs Gt Gp s2 A2 n2 d2 t C k c2 p B m d B' m' d':=by
 have a:=zV W Gs (.int iX s2.al) (.int iX s2.st) (fF A2 n2 d2);obtain⟨⟨g,i,j,l,o⟩,⟨q,r,u,v⟩,⟨x,c2,y⟩,⟨z,f⟩,D⟩:=h.ne.out;have h1:=h.at_.far h.bs a h.ge.2.2.2.1 dM dM;exact⟨{ h1 with is:=hs.far h.bs dM a,ns:=⟨hn,h1.ns.2⟩ },h.zs.frm a oM,h.zt.frm a oM,h.zp.frm a oM,zag h.bs rfl _ _ _,h.bt.frm a oM,h.bp.imp id (fun b=>b.frm a oM),h.ge,h.ne⟩
theorem Tri.setT (h:Tri w0 W R M L K Zs Zt Zp Gs Gt Gp s A n c t C k c2 p B m d B' m' d')(hs:zbR W R A2 n2 s2)(hn:n2<=L/\n2<=d2) :
  Tri w0 (((W.setCell Gt s2.al).setCell ⟨Gt,1,fW⟩ s2.st).setCell ⟨Gt,2,fW⟩ (fF A2 n2 d2)) R M L K Zs Zt Zp Gs Gt Gp s A n c s2 A2 n2 d2 p B m d B' m' d':=by
 have a:=zV W Gt (.int iX s2.al) (.int iX s2.st) (fF A2 n2 d2);obtain⟨⟨g,i,j,l,o⟩,⟨q,r,u,v⟩,⟨x,c2,y⟩,⟨z,f⟩,D⟩:=h.ne.out;have h1:=h.at_.far h.bt a h.ge.2.2.2.2.1 dM dM;exact⟨{ h1 with it:=hs.far h.bt dM a,ns:=⟨h1.ns.1,hn⟩ },h.zs.frm a oM,h.zt.frm a oM,h.zp.frm a oM,h.bs.frm a oM,zag h.bt rfl _ _ _,h.bp.imp id (fun b=>b.frm a oM),h.ge,h.ne⟩
theorem Tri.setP {p2:Aut}   {A3:Option Addr} {n3 d3:Nat}(h:Tri w0 W R M L K Zs Zt Zp Gs Gt Gp s A n c t C k c2 p B m d B' m' d')(hG:Gp≠0)(hp:zT W (R+1) A2 n2 d2 A3 n3 d3 p2)(hb:BdA K p2) :
  Tri w0 (((W.setCell Gp p2.al).setCell ⟨Gp,1,fW⟩ (fF A2 n2 d2)).setCell ⟨Gp,2,fW⟩ (fF A3 n3 d3)) R M L K Zs Zt Zp Gs Gt Gp s A n c t C k c2 p2 A2 n2 d2 A3 n3 d3:=by
 have a:=zV W Gp (.int iX p2.al) (fF A2 n2 d2) (fF A3 n3 d3);obtain⟨⟨g,i,j,l,o⟩,⟨q,r,u,v⟩,⟨x,c2,y⟩,⟨z,f⟩,D⟩:=h.ne.out;have b:=h.az hG;have h1:=h.at_.far b a (h.ge.2.2.2.2.2.resolve_left hG) dM dM;exact⟨{ h1 with ip:=hp.aw b a dM,bd:=za hb },h.zs.frm a oM,h.zt.frm a oM,h.zp.frm a oM,h.bs.frm a oM,h.bt.frm a oM,.inr (zag b rfl _ _ _),h.ge,h.ne⟩
end
def RetSTP (R M L K:Nat) (w:j2) (e:Ending) (w':j2):Prop:=
 ∃ (s:Sys) (A:Option Addr) (n c:Nat) (t:Sys) (C:Option Addr) (k c2:Nat) (p:Aut) (B:Option Addr) (m d:Nat) (B':Option Addr) (m' d':Nat),
  e=j7 (.tuple #[j4 #[s.al,s.st,fF A n c],j4 #[t.al,t.st,fF C k c2],j4 #[p.al,fF B m d,fF B' m' d']])/\zcd w w' R M L K s A n c t C k c2 p B m d B' m' d'
def RetSPT (R M L K:Nat) (w:j2) (e:Ending) (w':j2):Prop:=
 ∃ (s:Sys) (A:Option Addr) (n c:Nat) (t:Sys) (C:Option Addr) (k c2:Nat) (p:Aut) (B:Option Addr) (m d:Nat) (B':Option Addr) (m' d':Nat),
  e=j7 (.tuple #[j4 #[s.al,s.st,fF A n c],j4 #[p.al,fF B m d,fF B' m' d'],j4 #[t.al,t.st,fF C k c2]])/\zcd w w' R M L K s A n c t C k c2 p B m d B' m' d'
section
variable {w0 W:j2} {R M L K N J H n c k c2 m d m' d' Zs Zt Zp:Nat} {s t:Sys} {p:Aut} {A B B' C:Option Addr} {us ut up:Array j6}
theorem zcd.finSTP (h:zcd w0 W R M L K s A n c t C k c2 p B m d B' m' d') (zs:Blk W Zs 38 us) (zt:Blk W Zt 38 ut) (zp:Blk W Zp 27 up)(h1:us.size=3)(h2:ut.size=3)(h3:up.size=3)(hz1:w0.heap.size<=Zs)(hz2:w0.heap.size<=Zt)(hz3:w0.heap.size<=Zp) (e1:Zs≠Zt) (e2:Zs≠Zp) (e3:Zt≠Zp) :
  Hid (zcd w0 (((((((((W.setCell Zs s.al).setCell ⟨Zs,1,fW⟩ s.st).setCell ⟨Zs,2,fW⟩ (fF A n c)).setCell Zt t.al).setCell ⟨Zt,1,fW⟩ t.st).setCell ⟨Zt,2,fW⟩ (fF C k c2)).setCell Zp p.al).setCell ⟨Zp,1,fW⟩ (fF B m d)).setCell ⟨Zp,2,fW⟩ (fF B' m' d')) R M L K s A n c t C k c2 p B m d B' m' d') /\
  Hid (Blk (((((((((W.setCell Zs s.al).setCell ⟨Zs,1,fW⟩ s.st).setCell ⟨Zs,2,fW⟩ (fF A n c)).setCell Zt t.al).setCell ⟨Zt,1,fW⟩ t.st).setCell ⟨Zt,2,fW⟩ (fF C k c2)).setCell Zp p.al).setCell ⟨Zp,1,fW⟩ (fF B m d)).setCell ⟨Zp,2,fW⟩ (fF B' m' d')) Zs 38 #[s.al,s.st,fF A n c] /\
  Blk (((((((((W.setCell Zs s.al).setCell ⟨Zs,1,fW⟩ s.st).setCell ⟨Zs,2,fW⟩ (fF A n c)).setCell Zt t.al).setCell ⟨Zt,1,fW⟩ t.st).setCell ⟨Zt,2,fW⟩ (fF C k c2)).setCell Zp p.al).setCell ⟨Zp,1,fW⟩ (fF B m d)).setCell ⟨Zp,2,fW⟩ (fF B' m' d')) Zt 38 #[t.al,t.st,fF C k c2] /\
  Blk (((((((((W.setCell Zs s.al).setCell ⟨Zs,1,fW⟩ s.st).setCell ⟨Zs,2,fW⟩ (fF A n c)).setCell Zt t.al).setCell ⟨Zt,1,fW⟩ t.st).setCell ⟨Zt,2,fW⟩ (fF C k c2)).setCell Zp p.al).setCell ⟨Zp,1,fW⟩ (fF B m d)).setCell ⟨Zp,2,fW⟩ (fF B' m' d')) Zp 27 #[p.al,fF B m d,fF B' m' d']):=by
 have f1:=zV W Zs (.int iX s.al) (.int iX s.st) (fF A n c);have b:=zag zs h1 (.int iX s.al) (.int iX s.st) (fF A n c);replace h:=h.far zs f1 hz1 dM dM;replace zt:=zt.frm f1 oM;replace zp:=zp.frm f1 oM;clear f1 zs;generalize ((W.setCell Zs s.al).setCell ⟨Zs,1,fW⟩ s.st).setCell ⟨Zs,2,fW⟩ (fF A n c)=f at *;have f2:=zV f Zt (.int iX t.al) (.int iX t.st) (fF C k c2);have i:=zag zt h2 (.int iX t.al) (.int iX t.st) (fF C k c2);replace h:=h.far zt f2 hz2 dM dM;replace b:=b.frm f2 oM;replace zp:=zp.frm f2 oM;clear f2 zt;generalize ((f.setCell Zt t.al).setCell ⟨Zt,1,fW⟩ t.st).setCell ⟨Zt,2,fW⟩ (fF C k c2)=g at *;have a:=zV g Zp (.int iX p.al) (fF B m d) (fF B' m' d');exact⟨za (h.far zp a hz3 dM dM),za ⟨b.frm a oM,i.frm a oM,zag zp h3 _ _ _⟩⟩
theorem zcd.finSPT (h:zcd w0 W R M L K s A n c t C k c2 p B m d B' m' d') (zs:Blk W Zs 38 us) (zt:Blk W Zt 38 ut) (zp:Blk W Zp 27 up)(h1:us.size=3)(h2:ut.size=3)(h3:up.size=3)(hz1:w0.heap.size<=Zs)(hz2:w0.heap.size<=Zt)(hz3:w0.heap.size<=Zp) (e1:Zs≠Zt) (e2:Zs≠Zp) (e3:Zt≠Zp) :
  Hid (zcd w0 (((((((((W.setCell Zs s.al).setCell ⟨Zs,1,fW⟩ s.st).setCell ⟨Zs,2,fW⟩ (fF A n c)).setCell Zp p.al).setCell ⟨Zp,1,fW⟩ (fF B m d)).setCell ⟨Zp,2,fW⟩ (fF B' m' d')).setCell Zt t.al).setCell ⟨Zt,1,fW⟩ t.st).setCell ⟨Zt,2,fW⟩ (fF C k c2)) R M L K s A n c t C k c2 p B m d B' m' d') /\
  Hid (Blk (((((((((W.setCell Zs s.al).setCell ⟨Zs,1,fW⟩ s.st).setCell ⟨Zs,2,fW⟩ (fF A n c)).setCell Zp p.al).setCell ⟨Zp,1,fW⟩ (fF B m d)).setCell ⟨Zp,2,fW⟩ (fF B' m' d')).setCell Zt t.al).setCell ⟨Zt,1,fW⟩ t.st).setCell ⟨Zt,2,fW⟩ (fF C k c2)) Zs 38 #[s.al,s.st,fF A n c] /\
  Blk (((((((((W.setCell Zs s.al).setCell ⟨Zs,1,fW⟩ s.st).setCell ⟨Zs,2,fW⟩ (fF A n c)).setCell Zp p.al).setCell ⟨Zp,1,fW⟩ (fF B m d)).setCell ⟨Zp,2,fW⟩ (fF B' m' d')).setCell Zt t.al).setCell ⟨Zt,1,fW⟩ t.st).setCell ⟨Zt,2,fW⟩ (fF C k c2)) Zt 38 #[t.al,t.st,fF C k c2] /\
  Blk (((((((((W.setCell Zs s.al).setCell ⟨Zs,1,fW⟩ s.st).setCell ⟨Zs,2,fW⟩ (fF A n c)).setCell Zp p.al).setCell ⟨Zp,1,fW⟩ (fF B m d)).setCell ⟨Zp,2,fW⟩ (fF B' m' d')).setCell Zt t.al).setCell ⟨Zt,1,fW⟩ t.st).setCell ⟨Zt,2,fW⟩ (fF C k c2)) Zp 27 #[p.al,fF B m d,fF B' m' d']):=by
 have f1:=zV W Zs (.int iX s.al) (.int iX s.st) (fF A n c);have b:=zag zs h1 (.int iX s.al) (.int iX s.st) (fF A n c);replace h:=h.far zs f1 hz1 dM dM;replace zt:=zt.frm f1 oM;replace zp:=zp.frm f1 oM;clear f1 zs;generalize ((W.setCell Zs s.al).setCell ⟨Zs,1,fW⟩ s.st).setCell ⟨Zs,2,fW⟩ (fF A n c)=f at *;have f2:=zV f Zp (.int iX p.al) (fF B m d) (fF B' m' d');have i:=zag zp h3 (.int iX p.al) (fF B m d) (fF B' m' d');replace h:=h.far zp f2 hz3 dM dM;replace b:=b.frm f2 oM;replace zt:=zt.frm f2 oM;clear f2 zp;generalize ((f.setCell Zp p.al).setCell ⟨Zp,1,fW⟩ (fF B m d)).setCell ⟨Zp,2,fW⟩ (fF B' m' d')=g at *;have a:=zV g Zt (.int iX t.al) (.int iX t.st) (fF C k c2);exact⟨za (h.far zt a hz2 dM dM),za ⟨b.frm a oM,zag zt h2 _ _ _,i.frm a oM⟩⟩
end
theorem bits_all (y:Nat)(hy:y<64):bits .and iX (-1) (y:Int)=(y:Int):=
 (show ∀ y:Fin 64,bits .and iX (-1) ((y.val:Nat):Int)=((y.val:Nat):Int) by decide +kernel) ⟨y,hy⟩
theorem yX16a3 {P:Prop}(h:P:=by
 obtain⟨f1,f2⟩:=zju (N:=M+600) (sh:=zgX) hxz zkr hsh.out hr6 hd6 bz rfl hRl (Nat.le_refl _) (Nat.le_refl _);have bz5:=bz.dr hd6 oM;have cZ:=bz5.cell;have fZ:=bz5.frozen;go_wp2_with fail
 have cf:=f2.cell;exact bodyPost_ret (v:=.agg #[b.al,.slice A n c,.slice A' n' c']) (by simp [results,Tryz.results205,go_sem,cf]) rfl f1.out
 ):P:=h
theorem zhf {zz:Int} (h:Rd w R M)(hM:M<=700000000)(ha:(∃ a:Nat,zz=(a:Int)/\a<64)\/zz = -1) :
  j8 j5 205 #[kD (fV R),zz] w (zgY R (M+600) zgX w):=by
 have hRl:=h.lt
 go_enter Tryz.func205,Tryz.ntmps205
 have hxz:=(cY w).alloc (.cells #[(0:Int),(),()] 27);have bz:=eB w 27 #[(0:Int),(),()];have t:(w.alloc (.cells #[(0:Int),(),()] 27)).heap.size=w.heap.size+1:=sM;go_wp2_with fail
 rw [<- t];generalize w.alloc _=B at *;refine (zaW [63,63,5,3,6] 5 #[(63:Int),(63:Int),(5:Int),(3:Int),(6:Int)] rfl rfl oM oM (h.ext hxz) oM).mono ?_;rintro e E ⟨x,i,rfl,m,j⟩;obtain⟨y,u,rfl⟩:∃ y:Nat,y<64/\x=(y:Int):=⟨x.toNat,by simp at i;omega,by simp at i;omega⟩;clear i;replace j:=((Dr.refl R B).alloc _).trans j;obtain⟨d,k,o⟩:∃ d:Nat,bits .and iX zz (y:Int)=(d:Int)/\d<64:=by
  rcases ha with ⟨a,rfl,ha⟩|rfl
  ·exact⟨a&&&y,zdq tM tM,Nat.lt_of_le_of_lt Nat.and_le_left ha⟩
  ·exact⟨y,bits_all y u,u⟩
 go_upto_region 2 with fail
 clear k;go_wp2_with fail
 refine (zE m oM).mono ?_;rintro e F ⟨z,rfl,-,-,g,f⟩;replace f:=j.trans f;clear j m;go_upto_if 13 with fail
 go_cut [5] (fun s5 wx=>∃ d:Nat,d<64/\s5=.int iX (d:Nat)/\Rd wx R (M+10)/\Dr R B wx)
 case first =>
  by_cases hz:z=0
  ·subst hz;go_wp2_with fail
   refine (spec_l1Some g oM).mono ?_;rintro e w4 ⟨x,i,rfl,hr4,hd4⟩;go_wp2_with fail
   go_meet;exact⟨x,i,rfl,hr4.more oM,f.trans hd4⟩
  ·have D:((z:Int)==0)=j3:=by simp;omega
   go_wp2_with fail
   go_meet;exact⟨d,o,rfl,g.more oM,f⟩
 case rest =>
  clear g f o;obtain⟨d,q,rfl,g,f⟩:=hcut;go_wp2_with fail
  refine (zE g oM).mono ?_;rintro e w4 ⟨y,rfl,-,-,hr4,hd4⟩;replace hd4:=f.trans hd4
  by_cases u:0<y
  ·have v:((y:Int)>0):=oM;go_wp2_with fail
   refine (zaW [3,2,4,1] 4 #[(3:Int),(2:Int),(4:Int),(1:Int)] rfl rfl oM oM hr4 oM).mono ?_;rintro e G ⟨x,i,rfl,s,r⟩;obtain⟨p,hp1,C,rfl⟩:∃ y:Nat,1<=y/\y<=4/\x=(y:Int):=⟨x.toNat,by simp at i;omega,by simp at i;omega,by simp at i;omega⟩;clear i;have l:=(hd4.alloc _).trans r;go_wp2_with fail
   refine (zii s oM q hp1 oM).mono ?_;intro e w6 hret;obtain⟨b,A,n,c,A',n',c',rfl,zkr,hsh,hr6,hd6⟩:=hret.mono (N:=M+600) (sh':=zgX) l oM (fun b hb=>⟨d,p,q,hp1,oM,hb⟩);exact yX16a3
  ·have v:¬ ((y:Int)>0):=oM;go_wp2_with fail
   refine (spec_l3Over hr4 oM q).mono ?_;intro e w6 hret;obtain⟨b,A,n,c,A',n',c',rfl,zkr,hsh,hr6,hd6⟩:=hret.mono (N:=M+600) (sh':=zgX) hd4 oM (fun b hb=>hb);exact yX16a3
theorem zik (h:Rd w R M)(hM:M<=700000000)(ha:a<64) :
  j8 j5 205 #[kD (fV R),a] w (zgY R (M+600) zgX w):=zhf h hM (.inl ⟨a,rfl,ha⟩)
theorem Dr.new {w2:j2}(h:Ext w w1)(hR:w.heap.size<=R)(hd:Dr R w1 w2):Ext w w2:=
 h.frm hd (fun k hk he=>oM)
theorem zbR.new (h:zbR W R A n s)(hR:w.heap.size<=R):zY W w.heap.size W.heap.size A n s:=
 h.at_.more oM (dE _)
theorem zgU (h:Rd w R M)(hM:M<=800000000) :
  j8 j5 116 #[kD (fV R)] w (RetG R (M+30000) 20000 w):=by
 have hRl:=h.lt;have b:=(cY w).alloc (.cells #[(0:Int),(0:Int),()] 38);have bz5:=eB w 38 #[(0:Int),(0:Int),()];have d:=h.ext b;have f:=b.dr (R:=R);have i:=bz5.lt
 go_enter Tryz.func116,Tryz.ntmps116
 go_wp2_with fail
 have g:=(zaW [3,6,7,5,2] 5 #[(3:Int),(6:Int),(7:Int),(5:Int),(2:Int)] rfl rfl oM oM d oM);simp only [World.size_alloc] at g;refine g.mono ?_;rintro e j ⟨al,hal,rfl,hr6,hd6⟩;have hw6:=(f.ext ((cY _).alloc _)).trans hd6;have bz6:=(bz5.ext ((cY _).alloc _)).dr hd6 oM;go_wp2_with fail
 refine (zaW [2,3,1,3] 4 #[(2:Int),(3:Int),(1:Int),(3:Int)] rfl rfl oM oM hr6 oM).mono ?_;rintro e w7 ⟨st,hst,rfl,hr7,hd7⟩;have hw7:=(hw6.ext ((cY _).alloc _)).trans hd7;have bz7:=(bz6.ext ((cY _).alloc _)).dr hd7 oM;go_wp2_with fail
 refine (zaW [2,3,4] 3 #[(2:Int),(3:Int),(4:Int)] rfl rfl oM oM hr7 oM).mono ?_;rintro e w8 ⟨fw,_,rfl,hr8,hd8⟩;have hw8:=(hw7.ext ((cY _).alloc _)).trans hd8;have bz8:=(bz7.ext ((cY _).alloc _)).dr hd8 oM;obtain⟨a,rfl,ha⟩:∃ a:Nat,al=a/\a<64:=⟨al.toNat,by simp at hal;omega,by simp at hal;omega⟩;obtain⟨p,rfl,hp1,hp⟩:∃ p:Nat,st=p/\1<=p/\p<=16:=⟨st.toNat,by simp at hst;omega,by simp at hst;omega,by simp at hst;omega⟩;clear hal hst;go_wp2_with fail
 refine (zer hr8 oM ha hp1 hp).mono ?_;rintro e w9 ⟨s9,A9,n9,c9,rfl,hs9,hg9,hn9,hr9,hd9⟩;have bz9:=bz8.dr hd9 oM;have hfin9:=za (zhs (R:=R) (M:=M+30000) (L:=20000) (c:=c9) hs9 hg9 hn9 (hr9.more oM) (hw8.trans hd9) bz9 hRl (dE _));have cz9:=bz9.cell;have fz9:=bz9.frozen;go_wp2_with fail
 exact bodyPost_ret (v:=j4 #[s9.al,s9.st,fF A9 n9 c9]) (by simp [results,Tryz.results116,go_sem,cz9]) rfl hfin9.out
theorem or_al {b:Nat}(ha:a<64)(hb:b<64):bits .or iX (a:Int) (b:Int)=((a|||b:Nat):Int)/\a|||b<64:=by
 have h:=Nat.or_lt_two_pow (n:=6) (x:=a) (y:=b) oM oM;exact⟨zcf tM tM,oM⟩
theorem spec_l9Three (h:Rd w R M)(hM:M<=600000000) :
  j8 j5 179 #[kD (fV R)] w (RetSPT R (M+150000) 20000 16 w):=by
 have hRl:=h.lt
 go_enter Tryz.func179,Tryz.ntmps179
 go_upto_region 1 with fail
 generalize U0:((w.alloc _).alloc _).alloc _=w0 at *;obtain⟨ap,z1,z2,z3⟩:=Ext.x3_ U0;have aY:w0.heap.size=w.heap.size+3:=by rw [<- U0];simp
 clear U0;go_wp2_with fail
 refine (zgU (h.ext ap) oM).mono ?_;rintro e w1 ⟨s,A,n,c,rfl,G,D,hn1,F,j⟩;have aE:=j.size;have o:=(cY w1).alloc (.cells #[s.al,s.st,fF A n c] 38);have bs:=eB w1 38 #[s.al,s.st,fF A n c];have aD:(w1.alloc (.cells #[s.al,s.st,fF A n c] 38)).heap.size=w1.heap.size+1:=sM;have ai:Dr R w (w1.alloc (.cells #[s.al,s.st,fF A n c] 38)):=(ap.dr.trans j).alloc _;replace G:=G.ext o;replace F:=F.ext o;replace z1:=(z1.dr j oM).ext o;replace z2:=(z2.dr j oM).ext o;replace z3:=(z3.dr j oM).ext o;go_upto_region 2 with fail
 generalize hGs:w1.heap.size=Gs at *;generalize w1.alloc _=w2 at *;clear o;go_wp2_with fail
 refine (zgU F oM).mono ?_;rintro e w3 ⟨t,C,k,u,rfl,ao,E,ak,an,g⟩;have aF:=g.size;have f:=(cY w3).alloc (.cells #[t.al,t.st,fF C k u] 38);have bt:=eB w3 38 #[t.al,t.st,fF C k u];have Z:Tri w (w3.alloc (.cells #[t.al,t.st,fF C k u] 38)) R (M+60000) 20000 16 w.heap.size (w.heap.size+1+1) (w.heap.size+1) Gs w3.heap.size 0 s A n c t C k u autZ fW 0 0 fW 0 0:=
  ⟨⟨(G.dr g).ext f,ao.ext f,own_autZ _ _,⟨hn1,ak⟩,za (bd_autZ _),(an.ext f).more oM,(ai.trans g).ext f,hRl⟩,(z1.dr g oM).ext f,(z3.dr g oM).ext f,(z2.dr g oM).ext f,(bs.dr g oM).ext f,bt,.inl rfl,oM,za (by unfold Ne6;omega)⟩
 clear G F z1 z2 z3 bs bt ao f ai;go_upto_region 3 with fail
 generalize hGt:w3.heap.size=Gt at *;generalize w3.alloc _=w4 at *;have am:Hid (Gs<Gt/\w.heap.size+3<=Gs):=za oM;clear aE aF j g an hn1 ak aD hGs hGt;go_wp2_with fail
 refine (zE Z.at_.rd oM).mono ?_;rintro e w5 ⟨y,rfl,-,-,l,z⟩;have i:=(Z.drawn z l).more (N:=M+60001) (J:=20000) (H:=16) oM oM oM;clear Z;go_upto_if 13 with fail
 go_cut [] (fun wx=>∃ (s:Sys) (A:Option Addr) (n c:Nat),Good s/\Tri w wx R (M+60001+30000) 20000 16 w.heap.size (w.heap.size+1+1) (w.heap.size+1) Gs Gt 0 s A n c t C k u autZ fW 0 0 fW 0 0)
 case first =>
  by_cases hy:y=0
  ·subst hy;go_wp2_with fail
   refine (zig l oM).mono ?_;rintro e w6 ⟨s',A',n',c',rfl,Y,U,V,hr6,hd6⟩;have a:=(i.drawn hd6 hr6).more (N:=M+60001+30000) (J:=20000) (H:=16) oM oM oM;have cG:=a.bs.cell;have fG:=a.bs.frozen;have O:=a.setS Y V;go_wp2_with fail
   go_meet;exact⟨_,_,_,_,U,O⟩
  ·have aH:((y:Int)==0)=j3:=by simp;omega
   go_wp2_with fail
   go_meet;exact⟨_,_,_,_,D,i.more oM oM oM⟩
 case rest =>
  clear i l z D;obtain⟨s,A,n,c,D,i⟩:=hcut;go_wp2_with fail
  refine (zE i.at_.rd oM).mono ?_;rintro e w5 ⟨y,rfl,-,-,l,z⟩;have a:=(i.drawn z l).more (N:=M+100000) (J:=20000) (H:=16) oM oM oM;clear i;go_upto_if 18 with fail
  go_cut [] (fun wx=>∃ (t:Sys) (C:Option Addr) (k u:Nat),Good t/\Tri w wx R (M+100000+30000) 20000 16 w.heap.size (w.heap.size+1+1) (w.heap.size+1) Gs Gt 0 s A n c t C k u autZ fW 0 0 fW 0 0)
  case first =>
   by_cases hy:y=0
   ·subst hy;go_wp2_with fail
    refine (zig a.at_.rd oM).mono ?_;rintro e w6 ⟨s',A',n',c',rfl,Y,U,V,hr6,hd6⟩;have b:=(a.drawn hd6 hr6).more (N:=M+100000+30000) (J:=20000) (H:=16) oM oM oM;have cG:=b.bt.cell;have fG:=b.bt.frozen;have O:=b.setT Y V;go_wp2_with fail
    go_meet;exact⟨_,_,_,_,U,O⟩
   ·have aH:((y:Int)==0)=j3:=by simp;omega
    go_wp2_with fail
    go_meet;exact⟨_,_,_,_,E,a.more oM oM oM⟩
  case rest =>
   clear a l z E;obtain⟨t,C,k,u,E,a⟩:=hcut;obtain⟨a1,p1,Q,ag,-⟩:=D;obtain⟨a2,p2,S,ah,-⟩:=E;obtain⟨aX,aC⟩:=or_al ag ah;obtain⟨r,aG⟩:∃ r,r=wc:=⟨_,rfl⟩;subst aG;have aj:=za a.ge;have aV:=a.at_.hR;have cS:∀ W,Frm (fun k=>k=R\/k=w.heap.size\/k=w.heap.size+1) r W->∀ q,W.cell? ⟨Gs,q,fW⟩=#[Value.int iX a1,.int iX s.st,fF A n c][q]?:=fun W hW=>by rw [<- Q];exact (a.bs.frm hW (by have:=aj.out;have:=am.out;omega)).cell
   have cT:∀ W,Frm (fun k=>k=R\/k=w.heap.size\/k=w.heap.size+1) r W->∀ q,W.cell? ⟨Gt,q,fW⟩=#[Value.int iX a2,.int iX t.st,fF C k u][q]?:=fun W hW=>by rw [<- S];exact (a.bt.frm hW (by have:=aj.out;have:=am.out;omega)).cell
   have aW:Frm (fun k=>k=R\/k=w.heap.size\/k=w.heap.size+1) r r.drew:=(cY r).drew.ak;have I:=za Q;have L:=za S;clear Q S;go_wp2_with fail
   refine tR (fun X=>Frm (fun k=>k=R\/k=w.heap.size\/k=w.heap.size+1) r X) [11] (Ord.of [0,1,2,3,4,5,6,8,7,9,10,11]) ?_;refine tQ ?_;refine zD fun K hK=>?_;go_simp;refine (zik (a.at_.rd.ext (cY r).drew) oM aC).mono ?_;rintro e w7 ⟨p,B,m,d,B',m',d',rfl,hp,aB,hr7,hd7⟩;have x:Dr R r w7:=(Dr.refl R r).drew.trans hd7;have b:=(a.drawn x hr7).more (N:=M+150000) (J:=20000) (H:=16) oM oM oM;have ae:Frm (fun k=>k=R\/k=w.heap.size\/k=w.heap.size+1) r w7:=x.mono (fun k _ hk=>.inl hk);refine hK.out _ _ ae ?_;refine pT ?_;refine tQ ?_;have aN:=x.size;have aU:=a.at_.rd.lt;have cs:=b.zs.cell;have ct:=b.zt.cell;have cp:=b.zp.cell;have fs:=b.zs.frozen;have ft:=b.zt.frozen;have fp:=b.zp.frozen;obtain⟨f1,f2⟩:=zcd.finSPT ({ b.at_ with ip:=hp.less (by simp;omega),bd:=za (BdA.of aB.out) }) b.zs b.zt b.zp rfl rfl rfl oM oM oM oM oM oM
   rw [I.out,L.out] at f1 f2;refine zD fun K hK=>?_;go_simp;have af:=ae.trans ((zV w7 w.heap.size (.int iX a1) (.int iX s.st) (fF A n c)).mono (T:=fun k=>k=R\/k=w.heap.size\/k=w.heap.size+1) (fun k _ hk=>.inr (.inl hk)));refine hK.out _ _ af ?_;refine pT ?_;refine zD fun K hK=>?_;go_simp;have aA:=af.trans ((zV _ (w.heap.size+1) (.int iX p.al) (fF B m d) (fF B' m' d')).mono (T:=fun k=>k=R\/k=w.heap.size\/k=w.heap.size+1) (fun k _ hk=>.inr (.inr hk)));refine hK.out _ _ aA ?_;refine pT ?_;refine zQ fun K hK=>?_;go_simp;refine hK.out _ _ ?_;refine zap ?_;go_wp2_with fail
   obtain⟨g1,g2,g3⟩:=f2.out;have c1:=g1.cell;have ay:=g2.cell;have c3:=g3.cell;exact bodyPost_ret (v:=.tuple #[j4 #[a1,s.st,fF A n c],j4 #[p.al,fF B m d,fF B' m' d'],j4 #[a2,t.st,fF C k u]]) (by simp [results,Tryz.results179,go_sem,c1,ay,c3]) rfl ⟨s,A,n,c,t,C,k,u,p,B,m,d,B',m',d',by rw [I.out,L.out],f1.out⟩
end Go.Proofs.YtckbjnndaaoddaaGreatDoor
