/- impl.subSyst -/
import Derived.Test.YtckbjnndaaoddaaGreatDoorT17
import Derived.Lib.ItoaNum
import Derived.Shelf.Strconv.Itoa1
set_option maxHeartbeats 6400000
set_option maxRecDepth 100000
namespace Go.Proofs.YtckbjnndaaoddaaGreatDoor
open Go Go.RowKit
open Bool renaming and_eq_true->dI,true->kC
open Ext renaming refl->dB,x2_->gX
open Frm renaming setCell->dG
open Int renaming toNat_natCast->eT
open List renaming append_assoc->iQ,cons_append->iN,flatMap_cons->jI,getD_eq_getElem?_getD->dF,getElem?_append_left->dJ,getElem?_append_right->eD,getElem?_eq_getElem->dE,getElem?_eq_none->eJ,getElem?_map->eC,length_append->eA,length_map->eF,length_singleton->eH,map_append->eU,mem_of_getElem?->dC,nil_append->eY,replicate->eG,take_add_one->eB,take_of_length_le->dK,getElem?_eq_some_iff->kT,mem_map->kW
open Nat renaming le_of_lt_succ->eW,le_refl->dD,lt_or_eq_of_le->eP,zero_le->dH
open Go renaming Calls->kQ,Value->kL,World->kJ
open Go.Ending renaming returned->kP
open Go.IntKind renaming i64->kA
open Go.Value renaming agg->kO,slice->fQ,string->kU
open Option renaming none->gP,some->gO
open Option.some renaming inj->kS
open _root_.Go.Proofs.Tryz renaming prog->kN
variable {A B B':Option Addr}{N b c d d' hi j k lo m m' n p q v x y:Nat}{a:Aut}{ds:List Nat}{r:List Int}{s:Sys}{w:kJ}
structure Grw (w0 W:kJ) (G:Nat) (al st:Int) (v:kL) (es:List Edg):Prop where
 blk:Blk W G 38 #[al,st,v]
 own:W.ownsRow w0.heap.size 117 3 v es.length (zv es)
 ext:Ext w0 W
 hG:w0.heap.size<=G
section
variable {w0 W W':kJ}{G:Nat}{al st:Int}{v:kL}{es:List Edg}
theorem Grw.av (h:Grw w0 W G al st v es)(hb:Ext W W'):Grw w0 W' G al st v es:=⟨h.blk.ext hb,zh h.own hb,h.ext.trans hb,h.hG⟩
theorem Grw.far (h:Grw w0 W G al st v es) (hv:v.ownBlock=gO b):b≠G:=by
 rintro rfl;have a:=h.blk;rcases h.own.2 with ⟨rfl,_⟩|⟨g,c,d,rfl,_,i,_⟩
 ·simp [Value.ownBlock] at hv
 ·have f:g=b:=by simpa [Value.ownBlock] using hv
  subst f;unfold Blk at a;rw [i] at a;injection a with a
  injection a with _ ht
  exact absurd ht dM
theorem Grw.push {g cap:Nat}{e:Edg}(h:Grw w0 W G al st v es) (zkr:W'.ownsRow w0.heap.size 117 3 (fQ (gO g) (es.length+1) cap) (es.length+1) (zv es++[.int kA e.fr,.int kA e.le,.int kA e.ta]))
  (hg:W.grownBy W' v.ownBlock) (hat:v.ownBlock=gO g\/g=W.heap.size+1) :
  Hid (W'.cell? ⟨G,2,gP⟩=gO v)/\W'.frozen? ⟨G,2,gP⟩=false/\Grw w0 (W'.setCell ⟨G,2,gP⟩ (fQ (gO g) (es.length+1) cap)) G al st (fQ (gO g) (es.length+1) cap) (es++[e]):=by
 have a:Blk W' G 38 #[.int kA al,.int kA st,v]:=(hg.block G h.blk.lt (fun e=>h.far e.symm rfl)).trans h.blk;have d:g≠G:=by
  rcases hat with c|c
  ·exact h.far c
  ·have:=h.blk.lt;omega
 have f:Ext w0 W':=h.ext.grown hg (fun k hk=>(h.own.lt k hk).1);refine⟨a.cell 2,a.frozen 2,⟨by simpa using a.ab 2 _,?_,f.setCell (p:=⟨G,2,gP⟩) h.hG _,h.hG⟩⟩;have:=zf zkr (dG W' G 2 (fQ (gO g) (es.length+1) cap)) (fun b hv hS=>by
  have:g=b:=by simpa [Value.ownBlock] using hv
  omega)
 rw [zbM];simpa [zv] using this
end
def RetS (w:kJ) (s:Sys) (e:Ending) (w':kJ):Prop:=
 ∃ (A:Option Addr) (n c:Nat),e=kP (kO #[s.al,s.st,fQ A n c])/\zR w' w.heap.size w'.heap.size A n s/\Ext w w'
theorem yT18a1 {P:Prop}(h:P:=by
 refine pT ?_;refine uQ ?_;have cG:=hb.cell;have fG:=hb.frozen;refine zb fun K hK=>?_;go_simp;refine hK.out _ _ ?_;refine zg ?_;have zku:Grw w2 (((w3.setCell G s.al).setCell ⟨G,1,none⟩ r).setCell ⟨G,2,none⟩ ()) G s.al r (.slice none 0 0) []:=⟨zhm hb rfl _ _ _,World.ownsRow_nil _ _ _ _,hx0.frm (zhn w3 G _ _ _) (fun k hk e=>oM),hG⟩;go_wp2_with fail
 go_meet;exact⟨G,rfl,zku⟩
 ):P:=h
theorem yT18a2 {P:Prop}(h:P:=by
 go_roundw
 case rel=>exact⟨k+1,v,es,oM,gM,hgr2,(show Hid _ from by rw [hes.out,Htk.out,zii,hno.out];rfl),oM⟩
 case measure=>simp [intOf];omega
 ):P:=h
theorem ziD {R:Nat}(h:zR w lo hi A n s)(hf:Few p s.edges)(hp:p<=16)(hR:R<65536)(hn4:n<=1000000) :
  kQ kN 99 #[kO #[s.al,s.st,fQ A n c],.int kA (R:Nat)] w (RetS w (ziM s R)):=by
 have HS:=za (fun W (hW:Ext w W)=>h.ext hW);have hL:=za h.1;have hn:=h.2.len;have Hf:=za hf;clear h hf;have ho:=za (fun W=>ones hR W);have V:=za (show (ziM s R).st=(rk R 32:Nat) from rfl);have hu:IntKind.u64.wrap (R:Int)=(R:Int):=by rw [IntKind.wrap_u64];omega
 generalize hr32:rk R 32=r at *;have ad:=za hr32;clear hr32
 go_enter Tryz.func99,Tryz.ntmps99
 go_upto_region 1 with fail
 generalize U0:(w.alloc _).alloc _=w2 at *;obtain⟨J,b1,bz⟩:=gX U0;have ah:w.heap.size+2=w2.heap.size:=by rw [<- U0];simp
 clear U0
 go_cut [5] (fun v wx=>∃ G:Nat,v=.pointer (gO G)/\Grw w2 wx G s.al r (fQ gP 0 0) [])
 case first =>
  have c1:=fun W (hW:Ext w2 W)=>(b1.ext hW).cell;have Z:=dB w2;refine uR (fun X=>Ext w2 X) [7] (zx.app [0,1,2,3] (zx.two 4 (zx.of [5,6,7]) 6 (zx.of [4,5,7]))) ?_;refine uQ ?_;have hx0:Ext w2 w2.drew:=Z.drew;generalize w2.drew=F at *;refine zm (fun K hK=>?_) (fun K hK=>?_)
  ·go_simp;refine (ho.out _).mono ?_;rintro e u ⟨rfl,rfl⟩;refine hK.out _ _ hx0 ?_;refine pT ?_;refine uQ ?_;refine ze fun K hK=>?_;go_simp;have E:=(dB F).alloc (.cells #[(0:Int),(0:Int),()] 38);have hG:=hx0.size;replace hx0:=hx0.trans E;refine hK.out _ _ hx0 ?_;generalize U0:F.alloc _=w3 at *;have hb:=Ext.bl_ U0;clear U0;generalize F.heap.size=G at *;exact yT18a1
  ·go_simp;have E:=(dB F).alloc (.cells #[(0:Int),(0:Int),()] 38);have hG:=hx0.size;replace hx0:=hx0.trans E;refine hK.out _ _ hx0 ?_;generalize U0:F.alloc _=w3 at *;have hb:=Ext.bl_ U0;clear U0;generalize F.heap.size=G at *;refine pT ?_;refine ze fun K hK=>?_;go_simp;refine (ho.out _).mono ?_;rintro e u ⟨rfl,rfl⟩;refine hK.out _ _ hx0 ?_;exact yT18a1
 case rest =>
  obtain⟨G,rfl,a⟩:=hcut;have k1:=(b1.ext a.ext).cell;go_wp2_with fail
  go_loopw [7,17] (fun _ i wr=>∃ (k:Nat) (v:kL) (es:List Edg),k<=n/\i=.int kA k/\Grw w2 wr G s.al r v es/\Hid (es=subE R (s.edges.take k))/\es.length<=k) (fun _ i _=>n - (intOf i).toNat)
  case atStart=>exact⟨0,_,[],dH _,rfl,a,rfl,dH _⟩
  case round =>
   clear a k1;obtain⟨k,v,es,hk,rfl,a,hes,az⟩:=hrel
   by_cases hlt:k<n
   ·obtain⟨g,o,x,rfl,_,_,hx,c0,c1,c2⟩:=(HS.out wr (J.trans a.ext)).2.aw hlt;obtain⟨⟨f0,f1⟩,⟨g0,g1⟩,⟨t0,t1⟩⟩:=Hf.out x (dC hx.out);have Htk:=za (show s.edges.take (k+1)=s.edges.take k++[x] by rw [eB,hx.out];rfl);obtain⟨f,d⟩:∃ f:Nat,x.fr=f:=⟨x.fr.toNat,oM⟩;obtain⟨t,j⟩:∃ t:Nat,x.ta=t:=⟨x.ta.toNat,oM⟩;have O:=za (show subI R x=(hasB R f&&hasB R t) by unfold subI;rw [d,j]);have hJ:=za (show subJ R x=⟨(rk R f:Nat),x.le,(rk R t:Nat)⟩ by unfold subJ;rw [d,j];rfl);have T:=za (fun W=>impl_rank (n:=f) hR oM W);have U:=za (fun W=>impl_rank (n:=t) hR oM W);have D:=za (fun W=>zbN R (f:Int) tM W);have I:=za (fun W=>zbN R (t:Int) tM W);rw [d] at c0 f0 f1;rw [j] at c2 t0 t1;have q:Blk (wr.alloc (.cells #[f,x.le,t] 117)) wr.heap.size 117 #[.int kA f,.int kA x.le,.int kA t]:=Blk.new _ _ _;have hgr2:=a.av ((dB wr).alloc (.cells #[f,x.le,t] 117));have hx:=za d;have aA:=za j;clear d j a;generalize rk R f=rf at *;generalize rk R t=rt at *;cases hif:hasB R f
    ·have m:=za hif;have hno:=za (show subI R x=false by rw [O.out,hif];rfl);clear hif;go_upto_region 5 with fail
     generalize wr.alloc _=w3 at *;have M:=q.cell;go_wp2_with (go_at_call 127;refine (D.out _).mono ?_;rw [m.out];rintro e u ⟨rfl,rfl⟩)
     exact yT18a2
    ·have m:=za hif;cases hit:hasB R t
     ·have z:=za hit;have hno:=za (show subI R x=false by rw [O.out,hit,Bool.and_false]);clear hif hit;go_upto_region 5 with fail
      generalize wr.alloc _=w3 at *;have M:=q.cell;go_wp2_with fail
      refine (D.out _).mono ?_;rw [m.out];rintro e u ⟨rfl,rfl⟩;go_wp2_with fail
      refine (I.out _).mono ?_;rw [z.out];rintro e u ⟨rfl,rfl⟩;go_wp2_with fail
      exact yT18a2
     ·have z:=za hit;have L:=za (show subI R x=kC by rw [O.out,hif,hit];rfl);clear hif hit;go_upto_region 5 with fail
      generalize wr.alloc _=w3 at *;have M:=q.cell;go_wp2_with fail
      refine (D.out _).mono ?_;rw [m.out];rintro e u ⟨rfl,rfl⟩;go_wp2_with fail
      refine (I.out _).mono ?_;rw [z.out];rintro e u ⟨rfl,rfl⟩;go_upto_region 6 with fail
      clear M;have M:=q.cells;have cG:=fun W (hW:Ext w3 W)=>(hgr2.blk.ext hW).cell;have l:=dB w3;refine uR (fun X=>Ext w3 X) [14,16] (zx.of [0,1,2,3,4,6,7,8,9,10,5,11,12,13,14,15,16]) ?_;refine uQ ?_;refine ze fun K hK=>?_;go_simp;refine (T.out _).mono ?_;rintro e u ⟨rfl,rfl⟩;refine hK.out _ _ l.drew ?_;refine pT ?_;refine ze fun K hK=>?_;go_simp;refine (U.out _).mono ?_;rintro e u ⟨rfl,rfl⟩;refine hK.out _ _ l.drew ?_;refine pT ?_;refine uQ ?_;refine ze fun K hK=>?_;go_simp;refine hK.out _ _ (l.drew.alloc _) ?_;refine pT ?_;refine zb fun K hK=>?_;refine zaB w2 w3.drew _ _ _ rfl 117 _ 3 24 Tryz.underlying36 zbf rfl dM v es.length (zv es) _ _ rfl rfl hgr2.ext.size hgr2.own rfl (by simp [Value.oneCell']) lM oM ?_;intro g5 cap5 w5 zkD hg5 hat5 hlt5;refine hK.out _ _ ?_;refine pT ?_;refine uQ ?_;obtain⟨h1,h2,h3⟩:=(hgr2.av ((dB _).drew)).push (e:=⟨rf,x.le,rt⟩) (W':=w5) zkD hg5 hat5;have av:=h1.out;refine zb fun K hK=>?_;go_simp;refine hK.out _ _ ?_;refine zg ?_;go_wp2_with fail
      go_roundw
      case rel=>exact⟨k+1,_,_,oM,gM,h3,(show Hid _ from by rw [hes.out,Htk.out,zii,L.out,hJ.out];rfl),by simp;omega⟩
      case measure=>exact uM
   ·obtain rfl:k=n:=oM;obtain⟨y,B,rfl⟩:=zi a.own;have cG:=a.blk.cell;have C:=bz.ext a.ext;have cZ:=C.cell;have fZ:=C.frozen;have Y:s.edges.take k=s.edges:=dK (oH hL.out);have H:=zhn wr (w.heap.size+1) (.int kA s.al) (.int kA r) (fQ y es.length B);have Q:=zhm C rfl (.int kA s.al) (.int kA r) (fQ y es.length B);have ab:=(J.trans a.ext).frm H (fun k hk e=>oM);have S:=zf a.own H (fun b hv e=>by have:=(a.own.lt b hv).1;omega);have zku:=za (show RetS w (ziM s R) (kP (kO #[s.al,r,fQ y es.length B])) (((wr.setCell ⟨w.heap.size+1,0,gP⟩ s.al).setCell ⟨w.heap.size+1,1,gP⟩ r).setCell ⟨w.heap.size+1,2,gP⟩ (fQ y es.length B)) from by
     have he:es=(ziM s R).edges:=by rw [hes.out,Y];rfl
     refine⟨y,es.length,B,by rw [V.out];rfl,⟨by rw [he],?_⟩,ab⟩;rw [<- he];exact Reads.af (zn S oM))
    go_wp2_with fail
    generalize ((wr.setCell ⟨w.heap.size+1,0,gP⟩ s.al).setCell ⟨w.heap.size+1,1,gP⟩ r).setCell ⟨w.heap.size+1,2,gP⟩ (fQ y es.length B)=wf at *;have cf:=Q.cell;exact bodyPost_ret (v:=kO #[s.al,r,fQ y es.length B]) (by simp [results,Tryz.results99,go_sem,cf]) rfl zku.out
theorem impl_TrimSystem (h:zR w lo hi A n s)(hT:Tab w)(hv:zk s=kC)(hp:s.st=p)(hn4:n<=1000000) :
  kQ kN 36 #[kO #[s.al,s.st,fQ A n c]] w fun e w'=>∃ (R:Nat) (A':Option Addr) (n' c':Nat),e=kP (.tuple #[kO #[.int kA (ziM s R).al,.int kA (ziM s R).st,fQ A' n' c'],.bool kC])/\Hid (zhA s.edges p R)/\zR w' w.heap.size w'.heap.size A' n' (ziM s R)/\Ext w w':=by
 obtain⟨T,E,aa,y,S⟩:=zcq hv;obtain rfl:T=p:=oM;have C:=za (fun W (hW:Ext w W)=>h.ext hW);have t:=za (fun W (hW:Ext w W)=>hT.ext hW);have U:=za S;have J:=za hv;have V:=za hp;clear S hv h hT hp E
 go_enter Tryz.func36,Tryz.ntmps36
 go_upto_region 1 with fail
 generalize U0:(w.alloc _).alloc _=w2 at *;obtain⟨l,L,M⟩:=gX U0;have k1:=L.cell;clear U0;go_wp2_with fail
 refine (zaG (C.out _ l)).mono ?_;rw [J.out];rintro e w3 ⟨rfl,d⟩;have c1:∀ W,Ext w3 W->∀ q,W.cell? ⟨w.heap.size,q,gP⟩=#[Value.int kA s.al,.int kA s.st,fQ A n c][q]?:=fun W hW=>(L.ext (d.trans hW)).cell;have G:=dB w3;have m:=l.trans d;clear k1;go_upto_region 3 with fail
 refine uR (fun X=>Ext w3 X) [3,4] (zx.of [0,1,2,3,4,5]) ?_;refine uQ ?_;refine ze fun K hK=>?_;go_simp;refine (zfi (C.out _ m.drew) (t.out _ m.drew) J.out V.out).mono ?_;rintro e w4 ⟨R,rfl,Q,z⟩;have o:=m.drew.trans z;have a:=G.drew.trans z;refine hK.out _ _ a ?_;refine pT ?_;refine ze fun K hK=>?_;go_simp;refine (ziD (C.out _ o) U.out y (pow16 Q.out.1 y) hn4).mono ?_;rintro e B ⟨b,f,g,rfl,O,r⟩;refine hK.out _ _ (a.trans r) ?_;refine pT ?_;have i:=M.ext ((d.trans a).trans r);have cZ:=i.cell;have fZ:=i.frozen;generalize hsu:ziM s R=u at *;have x:=za hsu;clear hsu;have j:=zhn B (w.heap.size+1) (.int kA u.al) (.int kA u.st) (fQ b f g);have D:=zhm i rfl (.int kA u.al) (.int kA u.st) (fQ b f g);have H:=(o.trans r).frm j (fun k hk e=>oM);have ad:=o.size;have Z:=l.size;have ab:w.heap.size+1<w4.heap.size:=by have:=(M.ext (d.trans a)).lt;omega
 have F:zR (((B.setCell ⟨w.heap.size+1,0,gP⟩ u.al).setCell ⟨w.heap.size+1,1,gP⟩ u.st).setCell ⟨w.heap.size+1,2,gP⟩ (fQ b f g)) w.heap.size (((B.setCell ⟨w.heap.size+1,0,gP⟩ u.al).setCell ⟨w.heap.size+1,1,gP⟩ u.st).setCell ⟨w.heap.size+1,2,gP⟩ (fQ b f g)).heap.size b f u:=
  ⟨O.1,(O.2.frm j (fun k h1 h2 e=>oM)).more oM j.size⟩
 refine zb fun K hK=>?_;go_simp;refine hK.out _ _ ?_;generalize ((B.setCell ⟨w.heap.size+1,0,gP⟩ u.al).setCell ⟨w.heap.size+1,1,gP⟩ u.st).setCell ⟨w.heap.size+1,2,gP⟩ (fQ b f g)=I at *;refine pT ?_;refine uQ ?_;refine zg ?_;have Y:=D.cell;have zku:=za (show ∃ (R:Nat) (A':Option Addr) (n' c':Nat),kP (.tuple #[kO #[u.al,u.st,fQ b f g],.bool kC])=kP (.tuple #[kO #[.int kA (ziM s R).al,.int kA (ziM s R).st,fQ A' n' c'],.bool kC])/\Hid (zhA s.edges T R)/\zR I w.heap.size I.heap.size A' n' (ziM s R)/\Ext w I from ⟨R,b,f,g,by rw [x.out],Q,by rw [x.out];exact F,H⟩);go_wp2_with fail
 exact bodyPost_ret (v:=.tuple #[kO #[u.al,u.st,fQ b f g],.bool kC]) (by simp [results,Tryz.results36,go_sem,Y]) rfl zku.out
structure HomA (p q:Aut) (f:Nat->Nat):Prop where
 al:q.al=p.al
 zero:f 0=0
 go:∀ i l,i<p.next.length->l<6->f (aGo p i l)=aGo q (f i) l
 acc:∀ i,i<p.next.length->zaC q (f i)=zaC p i
section
variable {p q r:Aut}{f:Nat->Nat}
theorem HomA.run (h:HomA p q f)(hp:Fit N p):∀ (n:Nat) (v:List Nat),v.length=n->(∀ l∈v,l<6)->f (zaO p 0 v)=zaO q 0 v:=by
 intro n
 induction n with
 |zero =>
  intro v hv _;obtain rfl:v=[]:=List.length_eq_zero_iff.1 hv;exact h.zero
 |succ n ih =>
  intro v hv hl;obtain⟨u,l,rfl⟩:∃ u l,v=u++[l]:=⟨v.dropLast,v.getLast (by intro e;rw [e] at hv;simp at hv),(List.dropLast_concat_getLast _).symm⟩;have a:∀ x∈u,x<6:=fun x hx=>hl x (by simp [hx]);have b:0<p.next.length:=oH hp.row.2.1;rw [zaY,zaY,h.go _ _ (zeY hp a b) (hl l sM),ih u (by simpa using hv) a]
theorem HomA.accF (h:HomA p q f)(hp:Fit N p){v:List Nat}(hv:∀ l∈v,l<6):zaC p (zaO p 0 v)=zaC q (zaO q 0 v):=by
 have a:0<p.next.length:=oH hp.row.2.1;rw [<- h.run hp _ v rfl hv,h.acc _ (zeY hp hv a)]
end
def quoA (a:Aut) (c:Nat->Nat) (rs:List Nat):Aut:=⟨a.al,rs.map fun q=>(a.next.getD q []).map fun x=>(c x.toNat:Int),rs.map (zaC a)⟩
structure Stb (a:Aut) (c:Nat->Nat) (rs:List Nat):Prop where
 zero:c 0=0
 rep:∀ q,q<a.next.length->∃ r,rs[c q]?=gO r/\r<a.next.length/\c r=c q
 acc:∀ q r,q<a.next.length->r<a.next.length->c q=c r->zaC a q=zaC a r
 go:∀ q r k,q<a.next.length->r<a.next.length->c q=c r->c ((a.next.getD q []).getD k 0).toNat=c ((a.next.getD r []).getD k 0).toNat
theorem getD_map {α β:Type}(f:α->β) (l:List α) (k:Nat) (d:α):(l.map f).getD k (f d)=f (l.getD k d):=by
 rw [dF,dF,eC];cases l[k]?<;>rfl
section
variable {a:Aut}{c:Nat->Nat}{rs:List Nat}
theorem Stb.hom (h:Stb a c rs):HomA a (quoA a c rs) c:=by
 refine⟨rfl,h.zero,fun i l hi hl=>?_,fun i hi=>?_⟩
 ·obtain⟨r,b,d,f⟩:=h.rep i hi;unfold aGo;show (c (if a.al.toNat.testBit l=kC then _ else i))=if a.al.toNat.testBit l=kC then (((rs.map fun q=>(a.next.getD q []).map fun x=>(c x.toNat:Int)).getD (c i) []).getD (place a.al.toNat l) 0).toNat else c i
  by_cases hb:a.al.toNat.testBit l=kC
  ·rw [if_pos hb,if_pos hb];have g:(rs.map fun q=>(a.next.getD q []).map fun x=>(c x.toNat:Int)).getD (c i) []=(a.next.getD r []).map fun x=>(c x.toNat:Int):=by
    rw [dF,eC,b];rfl
   have j:((a.next.getD r []).map fun x=>(c x.toNat:Int)).getD (place a.al.toNat l) 0=(c ((a.next.getD r []).getD (place a.al.toNat l) 0).toNat:Int):=by
    have:=getD_map (fun x:Int=>(c x.toNat:Int)) (a.next.getD r []) (place a.al.toNat l) 0;simp only [Int.toNat_zero,h.zero] at this;exact this
   rw [g,j,eT];exact h.go i r _ hi d f.symm
  ·rw [if_neg hb,if_neg hb]
 ·obtain⟨r,b,d,f⟩:=h.rep i hi;show (rs.map (zaC a)).getD (c i) false=_;rw [dF,eC,b];exact h.acc r i d hi f
end
section
variable {a t:Aut}{c:Nat->Nat}{rs xs:List Nat}{N:Nat}
theorem Stb.fit (h:Stb a c rs)(ha:Fit N a)(hf:rs.length<=a.next.length)(hr:∀ r∈rs,r<a.next.length):Fit N (quoA a c rs):=by
 obtain⟨⟨g,i⟩,⟨t,p⟩,-,b⟩:=ha.row;have j:1<=rs.length:=by
  obtain⟨r,d,-⟩:=h.rep 0 oM;have:=(kT.1 d).1;omega
 unfold Fit quoA;simp only [eF];refine⟨⟨g,i⟩,⟨j,oM⟩,trivial,fun q row hrow'=>?_⟩;rw [eC] at hrow';obtain⟨r,n,rfl⟩:=Option.map_eq_some_iff.1 hrow';have f:=hr r (dC n);have m:a.next[r]?=gO (a.next.getD r []):=by
  rw [dF,dE f];rfl
 obtain⟨d,k⟩:=b r _ m;rw [eF];refine⟨d,fun y hy=>?_⟩;obtain⟨x,o,rfl⟩:=kW.1 hy;have s:=k x o;obtain⟨u,l,-⟩:=h.rep x.toNat oM;have:=(kT.1 l).1;omega
theorem Stb.minF (h:Stb a c rs)(ha:Fit N a)(ht:zex (quoA a c rs) t xs){v:List Nat}(hv:∀ l∈v,l<6):zaC t (zaO t 0 v)=zaC a (zaO a 0 v):=
 (ht.acc_run hv).trans (h.hom.accF ha hv).symm
end
def ctn (c:Nat->Nat):Nat->Nat
 |0=>0
 |k+1=>max (ctn c k) (c k+1)
def FO (c:Nat->Nat) (n:Nat):Prop:=∀ k,k<n->c k<=ctn c k
section
variable {c d:Nat->Nat}{n:Nat}
theorem ziV (c:Nat->Nat) :∀ {k:Nat},j<k->c j<ctn c k
 |0,h=>oM
 |k+1,h=>by
  unfold ctn
  rcases eP (eW h) with h1|rfl
  ·have:=ziV c h1
   omega
  ·omega
theorem fo_hit (h:FO c n) :∀ {k:Nat},k<=n->x<ctn c k->∃ j,j<k/\c j=x
 |0,_,hx=>by simp [ctn] at hx
 |k+1,hk,hx=>by
  unfold ctn at hx
  by_cases h1:x<ctn c k
  ·obtain⟨j,h2,h3⟩:=fo_hit h oM h1
   exact⟨j,oM,h3⟩
  ·have:=h k oM
   exact⟨k,oM,oM⟩
theorem fo_step (hc:FO c n)(hd:FO d n)(hr:∀ q r,q<n->r<n->d q=d r->c q=c r) (hk:k<n) :
  ctn c (k+1)+ctn d k<=ctn d (k+1)+ctn c k/\(d k<ctn d k->c k<ctn c k):=by
 have g:=hc k hk;have i:=hd k hk
 by_cases hlt:d k<ctn d k
 ·obtain⟨j,f,e⟩:=fo_hit hd oM hlt;have b:=hr j k oM hk e;have a:=ziV c f;rw [b] at a;refine⟨?_,fun _=>a⟩;simp only [ctn];omega
 ·refine⟨?_,fun h=>absurd h hlt⟩;simp only [ctn];omega
theorem yT18a3 {P:Prop}(h:P:=by
 intro k
 induction k with
 |zero=>intro _;exact Nat.le_refl _
 |succ k ih =>
  intro hk;have:=ih oM;have:=(fo_step hc hd hr (k:=k) oM).1;omega
 ):P:=h
theorem fo_eq (hc:FO c n)(hd:FO d n)(hr:∀ q r,q<n->r<n->d q=d r->c q=c r)(he:ctn d n=ctn c n):∀ k,k<n->d k=c k:=by
 have h:∀ k,k<=n->ctn c k<=ctn d k:=by
  exact yT18a3
 have a:∀ i k,k+i=n->ctn d k<=ctn c k:=by
  intro i
  induction i with
  |zero=>
   intro k hk;obtain rfl:k=n:=oM
   omega
  |succ i ih =>
   intro k hk;have:=ih (k+1) oM;have:=(fo_step hc hd hr (k:=k) oM).1;omega
 have b:∀ k,k<=n->ctn d k=ctn c k:=fun k hk=>Nat.le_antisymm (a (n - k) k oM) (h k hk);intro k
 induction k using Nat.strongRecOn with
 |ind k ih =>
  intro hk;have m:=hc k hk;have o:=hd k hk;have l:=b k oM;have f:=b (k+1) oM
  by_cases hlt:d k<ctn d k
  ·obtain⟨j,g,e⟩:=fo_hit hd oM hlt;have p:=hr j k oM hk e;have s:=ih j g oM;omega
  ·simp only [ctn] at f;omega
end
structure RepI (c:Nat->Nat) (k:Nat) (rs:List Nat):Prop where
 len:rs.length=ctn c k
 lt:∀ r∈rs,r<k
 rep:∀ j,j<k->∃ r,rs[c j]?=gO r/\r<k/\c r=c j
section
variable {c:Nat->Nat}{n k:Nat}{rs:List Nat}
theorem RepI.zero:RepI c 0 []:=⟨rfl,fun r h=>by simp at h,fun j h=>oM⟩
theorem RepI.skip (h:RepI c k rs)(hk:c k<rs.length)(hc:FO c n)(hkn:k<n):RepI c (k+1) rs:=by
 have g:ctn c (k+1)=ctn c k:=by
  have:=h.len;simp only [ctn];omega
 refine⟨by rw [g];exact h.len,fun r hr=>by have:=h.lt r hr;omega,fun j hj=>?_⟩;rcases eP (eW hj) with l|rfl
 ·obtain⟨r,b,d,a⟩:=h.rep j l;exact⟨r,b,oM,a⟩
 ·obtain⟨i,b,d⟩:=fo_hit hc (k:=j) oM (x:=c j) (oH h.len);obtain⟨r,a,m,f⟩:=h.rep i b;rw [d] at a f;exact⟨r,a,oM,f⟩
theorem RepI.push (h:RepI c k rs)(hk:¬ c k<rs.length)(hc:FO c n)(hkn:k<n):RepI c (k+1) (rs++[k]):=by
 have g:=hc k hkn;have i:=h.len;have b:c k=rs.length:=oM;refine⟨?_,fun r hr=>?_,fun j hj=>?_⟩
 ·rw [eA,eH];simp only [ctn];omega
 ·rcases List.mem_append.1 hr with hr|hr
  ·have:=h.lt r hr;omega
  ·obtain rfl:r=k:=by simpa using hr
   omega
 ·rcases eP (eW hj) with d|rfl
  ·obtain⟨r,a,l,f⟩:=h.rep j d;exact⟨r,by rw [dJ (kT.1 a).1];exact a,oM,f⟩
  ·exact⟨j,by rw [b,eD (dD _)];simp,oM,rfl⟩
theorem ziU (hc:FO c n):∀ {k:Nat},k<=n->ctn c k<=k
 |0,_=>dD _
 |k+1,h=>by
  have h1:=ziU hc (k:=k) oM
  have h2:=hc k oM
  simp only [ctn]
  omega
theorem RepI.few (h:RepI c n rs)(hc:FO c n):rs.length<=n:=by rw [h.len];exact ziU hc (dD _)
theorem stb_of (hn:n=a.next.length)(h0:0<n)(hc:FO c n)(hr:RepI c n rs) (zks:∀ q r,q<n->r<n->c q=c r->zaC a q=zaC a r)
  (hrow:∀ q r,q<n->r<n->c q=c r->(a.next.getD q []).map (fun x=>c x.toNat)=(a.next.getD r []).map (fun x=>c x.toNat)):Stb a c rs:=by
 subst hn;have f:c 0=0:=by
  have:=hc 0 h0;simpa [ctn] using this
 refine⟨f,hr.rep,zks,fun q r k hq hr' e=>?_⟩;have b:=getD_map (fun x:Int=>c x.toNat) (a.next.getD q []) k 0;have d:=getD_map (fun x:Int=>c x.toNat) (a.next.getD r []) k 0;rw [<- b,<- d,hrow q r hq hr' e]
end
def keyL (f:Nat->List UInt8) (x:Nat) (r:List Nat):List UInt8:=f x++r.flatMap fun y=>44 :: f y
section
variable {f:Nat->List UInt8}{B:Nat}
theorem keyL_snoc (x:Nat) (r:List Nat) (y:Nat):keyL f x (r++[y])=keyL f x r++(44 :: f y):=by
 unfold keyL;rw [List.flatMap_append,iQ];simp
theorem zif:∀ {u v s t:List UInt8},44∉u->44∉v->(s=[]\/∃ s',s=44 :: s')->(t=[]\/∃ t',t=44 :: t')->u++s=v++t->u=v/\s=t
 |[],[],_,_,_,_,_,_,h=>⟨rfl,h⟩
 |[],b :: v,s,t,_,hv,hs,_,h=>by
  exfalso
  rcases hs with rfl|⟨s',rfl⟩
  ·simp at h
  ·simp only [eY,iN,List.cons.injEq] at h
   exact hv (by simp [h.1])
 |a :: u,[],s,t,hu,_,_,ht,h=>by
  exfalso
  rcases ht with rfl|⟨t',rfl⟩
  ·simp at h
  ·simp only [eY,iN,List.cons.injEq] at h
   exact hu (by simp [h.1])
 |a :: u,b :: v,s,t,hu,hv,hs,ht,h=>by
  simp only [iN,List.cons.injEq] at h
  obtain⟨rfl,h⟩:=h
  obtain⟨h1,h2⟩:=zif (fun h=>hu (by simp [h])) (fun h=>hv (by simp [h])) hs ht h
  exact⟨by rw [h1],h2⟩
theorem tail_form (r:List Nat):(r.flatMap fun y=>44 :: f y)=[]\/∃ s',(r.flatMap fun y=>44 :: f y)=44 :: s':=by
 cases r with
 |nil=>exact .inl rfl
 |cons y r=>exact .inr ⟨f y++r.flatMap fun y=>44 :: f y,sM⟩
theorem keyL_inj (hf:∀ x,x<B->44∉f x)(hi:∀ x y,x<B->y<B->f x=f y->x=y):∀ {r t:List Nat}{x y:Nat},x<B->y<B->(∀ z∈r,z<B)->(∀ z∈t,z<B)->keyL f x r=keyL f y t->x=y/\r=t
 |r,t,x,y,hx,hy,hr,ht,h=>by
  unfold keyL at h
  obtain⟨h1,h2⟩:=zif (hf x hx) (hf y hy) (tail_form r) (tail_form t) h
  refine⟨hi x y hx hy h1,?_⟩
  cases r with
  |nil=>cases t with
   |nil=>rfl
   |cons b t=>simp at h2
  |cons a r=>cases t with
   |nil=>simp at h2
   |cons b t =>
    rw [jI,jI,iN,iN,List.cons.injEq] at h2
    obtain⟨h3,h4⟩:=keyL_inj hf hi (r:=r) (t:=t) (hr a sM) (ht b sM) (fun z hz=>hr z (by simp [hz])) (fun z hz=>ht z (by simp [hz])) h2.2
    rw [h3,h4]
termination_by r=>r.length
end
theorem dig_comma (h:x<100):(44:UInt8)∉Lib.decDigits x:=by
 intro hm
 by_cases h1:x<10
 ·rw [Lib.decDigits_one h1] at hm;have:=congrArg UInt8.toNat (List.mem_singleton.1 hm);simp at this;omega
 ·rw [Lib.decDigits_two h1 h] at hm;rcases List.mem_cons.1 hm with e|e
  ·have:=congrArg UInt8.toNat e;simp at this;omega
  ·have:=congrArg UInt8.toNat (List.mem_singleton.1 e);simp at this;omega
theorem dig_inj (hx:x<100)(hy:y<100)(h:Lib.decDigits x=Lib.decDigits y):x=y:=by
 by_cases h1:x<10<;>by_cases h2:y<10
 ·rw [Lib.decDigits_one h1,Lib.decDigits_one h2] at h;have:=congrArg UInt8.toNat (List.cons.inj h).1;simp at this;omega
 ·rw [Lib.decDigits_one h1,Lib.decDigits_two h2 hy] at h;have:=congrArg List.length h;simp at this
 ·rw [Lib.decDigits_two h1 hx,Lib.decDigits_one h2] at h;have:=congrArg List.length h;simp at this
 ·rw [Lib.decDigits_two h1 hx,Lib.decDigits_two h2 hy] at h;have a:=congrArg UInt8.toNat (List.cons.inj h).1;have b:=congrArg UInt8.toNat (List.cons.inj (List.cons.inj h).2).1;simp at a b;omega
theorem dig_len (h:x<100):(Lib.decDigits x).length<=2:=by
 by_cases h1:x<10
 ·rw [Lib.decDigits_one h1];simp
 ·rw [Lib.decDigits_two h1 h];simp
def rowC (c:Nat->Nat) (r:List Int):List Nat:=r.map fun x=>c x.toNat
def kyB (c:Nat->Nat) (x:Nat) (r:List Int):ByteArray:=⟨(keyL Lib.decDigits x (rowC c r)).toArray⟩
theorem kyB_inj {c:Nat->Nat}(hc:∀ q,c q<100) (hx:x<100)(hy:y<100){t:List Int}(h:kyB c x r=kyB c y t):x=y/\rowC c r=rowC c t:=by
 unfold kyB at h;have a:=congrArg (fun z:ByteArray=>z.data.toList) h;simp only at a;refine keyL_inj (B:=100) (fun x hx=>dig_comma hx) (fun x y hx hy=>dig_inj hx hy) hx hy (fun z hz=>?_) (fun z hz=>?_) a
 ·obtain⟨q,-,rfl⟩:=kW.1 hz;exact hc _
 ·obtain⟨q,-,rfl⟩:=kW.1 hz;exact hc _
theorem keyL_size {c:Nat->Nat}(hc:∀ q,c q<100) (hx:x<100) (r:List Int):(keyL Lib.decDigits x (rowC c r)).length<=2+3*r.length:=by
 unfold keyL rowC;rw [eA,List.length_flatMap];have b:=dig_len hx;have a:∀ l:List Int,((l.map fun x=>c x.toNat).map fun y=>((44:UInt8) :: Lib.decDigits y).length).sum<=3*l.length:=by
  intro l
  induction l with
  |nil=>simp
  |cons z l ih =>
   have d:=dig_len (hc z.toNat);simp only [List.map_cons,List.sum_cons,List.length_cons] at ih ⊢;omega
 have:=a r;omega
theorem kyB_size {c:Nat->Nat}(hc:∀ q,c q<100) (hx:x<100) (r:List Int):(kyB c x r).size<=2+3*r.length:=by
 have:=keyL_size hc hx r;show (kyB c x r).data.size<=_;unfold kyB;simpa using this
theorem zhI {c d:Nat->Nat}:∀ {k:Nat},(∀ j,j<k->c j=d j)->ctn c k=ctn d k
 |0,_=>rfl
 |k+1,h=>by
  simp only [ctn]
  rw [zhI (k:=k) (fun j hj=>h j oM),h k oM]
def fnL (ds:List Nat) (j:Nat):Nat:=ds.getD j 0
theorem zjI (h:j<ds.length):fnL (ds++[v]) j=fnL ds j:=by
 unfold fnL;rw [dF,dF,dJ h]
theorem fnL_end :fnL (ds++[v]) ds.length=v:=by
 unfold fnL;rw [dF,eD (dD _)];simp
theorem ziY (h:j<ds.length):ds[j]?=gO (fnL ds j):=by
 unfold fnL;rw [dF,dE h];rfl
structure ziw (ky:Nat->ByteArray) (ds:List Nat) (nm:Nat) (M:ByteArray->Option Nat):Prop where
 some_:∀ z v,M z=gO v->∃ j,j<ds.length/\ky j=z
 at_:∀ j v,ds[j]?=gO v->M (ky j)=gO v
 inj:∀ z z' v,M z=gO v->M z'=gO v->z=z'
 ct:ctn (fnL ds) ds.length=nm
 fo:FO (fnL ds) ds.length
section
variable {ky:Nat->ByteArray}{ds:List Nat}{nm:Nat}{M:ByteArray->Option Nat}
theorem ziw.zero:ziw ky [] 0 (fun _=>gP):=
 ⟨fun _ _ h=>(by cases h),fun _ _ h=>(by simp at h),fun _ _ _ h=>(by cases h),rfl,fun _ hk=>(by simp at hk)⟩
theorem ziw.lt (h:ziw ky ds nm M){z:ByteArray}(hz:M z=gO v):v<nm:=by
 obtain⟨j,b,rfl⟩:=h.some_ z v hz;have a:=h.at_ j _ (ziY b);rw [hz] at a;rw [kS a,<- h.ct];exact ziV _ b
theorem ziw.ctn_step (h:ziw ky ds nm M) (v:Nat):ctn (fnL (ds++[v])) (ds++[v]).length=max nm (v+1):=by
 rw [eA,eH];simp only [ctn];rw [fnL_end,zhI (d:=fnL ds) (fun j hj=>zjI hj),h.ct]
theorem ziw.fo_step (h:ziw ky ds nm M) (hv:v<=nm):FO (fnL (ds++[v])) (ds++[v]).length:=by
 intro k hk;rw [eA,eH] at hk;rw [zhI (d:=fnL ds) (fun j hj=>zjI oM)];rcases eP (eW hk) with a|rfl
 ·rw [zjI a];exact h.fo k a
 ·rw [fnL_end,h.ct];exact hv
theorem ziw.hit (h:ziw ky ds nm M) (hv:M (ky ds.length)=gO v):ziw ky (ds++[v]) nm M:=by
 have d:=h.lt hv;refine⟨fun z u hz=>?_,fun j u a=>?_,h.inj,by rw [h.ctn_step];omega,h.fo_step oM⟩
 ·obtain⟨j,a,e⟩:=h.some_ z u hz;exact⟨j,by simp;omega,e⟩
 ·have b:=(kT.1 a).1;rw [eA,eH] at b;rcases eP (eW b) with c|rfl
  ·rw [dJ c] at a;exact h.at_ j u a
  ·rw [eD (dD _)] at a;simp at a;rw [hv,a]
theorem ziw.miss (h:ziw ky ds nm M)(hv:M (ky ds.length)=gP):ziw ky (ds++[nm]) (nm+1) (ziv M (ky ds.length) nm):=by
 refine⟨fun z u hz=>?_,fun j u c=>?_,fun z z' u b a=>?_,by rw [h.ctn_step];omega,h.fo_step (dD _)⟩
 ·by_cases e:z=ky ds.length
  ·exact⟨ds.length,sM,e.symm⟩
  ·rw [zdh M _ e] at hz;obtain⟨j,c,f⟩:=h.some_ z u hz;exact⟨j,by simp;omega,f⟩
 ·have d:=(kT.1 c).1;rw [eA,eH] at d;rcases eP (eW d) with b|rfl
  ·rw [dJ b] at c;have a:=h.at_ j u c;have e:ky j≠ky ds.length:=fun e=>by rw [e,hv] at a;cases a
   rw [zdh M _ e,a]
  ·rw [eD (dD _)] at c;simp at c;rw [zcH,c]
 ·by_cases e:z=ky ds.length<;>by_cases e':z'=ky ds.length
  ·rw [e,e']
  ·rw [e,zcH] at b;rw [zdh M _ e'] at a;have:=h.lt a;have:=kS b;omega
  ·rw [e',zcH] at a;rw [zdh M _ e] at b;have:=h.lt b;have:=kS a;omega
  ·rw [zdh M _ e] at b;rw [zdh M _ e'] at a;exact h.inj z z' u b a
theorem ziw.same (h:ziw ky ds nm M){r:Nat}(hq:q<ds.length)(hr:r<ds.length) (e:fnL ds q=fnL ds r):ky q=ky r:=by
 have a:=h.at_ q _ (ziY hq);have b:=h.at_ r _ (ziY hr);rw [e] at a;exact h.inj _ _ _ a b
end
structure ClsI (a:Aut) (cs:List Nat) (K:Nat):Prop where
 len:cs.length=a.next.length
 lt:∀ q,fnL cs q<100
 acc:∀ q r,q<a.next.length->r<a.next.length->fnL cs q=fnL cs r->zaC a q=zaC a r
 fo:K≠0->FO (fnL cs) cs.length/\ctn (fnL cs) cs.length=K
structure ClsR (a:Aut) (cs:List Nat):Prop where
 len:cs.length=a.next.length
 fo:FO (fnL cs) a.next.length
 acc:∀ q r,q<a.next.length->r<a.next.length->fnL cs q=fnL cs r->zaC a q=zaC a r
 row:∀ q r,q<a.next.length->r<a.next.length->fnL cs q=fnL cs r->(a.next.getD q []).map (fun x=>fnL cs x.toNat)=(a.next.getD r []).map (fun x=>fnL cs x.toNat)
section
variable {a:Aut}{cs ds:List Nat}{K nm N:Nat}{M:ByteArray->Option Nat}
theorem fo_le {c d:Nat->Nat}(hc:FO c n)(hd:FO d n)(hr:∀ q r,q<n->r<n->d q=d r->c q=c r):∀ k,k<=n->ctn c k<=ctn d k:=by
 exact yT18a3
theorem fo_small {c:Nat->Nat}(h:FO c n) (hq:q<n):c q<n:=by
 have a:=ziV c hq;have b:=ziU h (dD n);omega
abbrev kyR (a:Aut) (cs:List Nat) (q:Nat):ByteArray:=kyB (fnL cs) (fnL cs q) (a.next.getD q [])
theorem ClsI.keys (h:ClsI a cs K)(hn:ziw (kyR a cs) ds nm M)(hl:ds.length=a.next.length){r:Nat}(hq:q<a.next.length)(hr:r<a.next.length) (e:fnL ds q=fnL ds r) :
  fnL cs q=fnL cs r/\rowC (fnL cs) (a.next.getD q [])=rowC (fnL cs) (a.next.getD r []):=
 kyB_inj h.lt (h.lt q) (h.lt r) (hn.same oM oM e)
theorem ClsI.step (h:ClsI a cs K)(hn:ziw (kyR a cs) ds nm M)(hl:ds.length=a.next.length)(h0:1<=a.next.length)(hN:a.next.length<=99):ClsI a ds nm/\(nm≠K->K<nm)/\nm<=a.next.length:=by
 have b:FO (fnL ds) a.next.length:=by rw [<- hl];exact hn.fo
 have c:ctn (fnL ds) a.next.length=nm:=by rw [<- hl];exact hn.ct
 refine⟨⟨hl,fun q=>?_,fun q r hq hr e=>h.acc q r hq hr (h.keys hn hl hq hr e).1,fun _=>⟨hn.fo,hn.ct⟩⟩,fun hne=>?_,?_⟩
 ·by_cases hq:q<a.next.length
  ·have:=fo_small b hq;omega
  ·unfold fnL;rw [dF,eJ oM];decide
 ·by_cases hK:K=0
  ·have:=ziV (fnL ds) (j:=0) (k:=a.next.length) oM;omega
  ·obtain⟨d,f⟩:=h.fo hK;rw [h.len] at d f;have:=fo_le d b (fun q r hq hr e=>(h.keys hn hl hq hr e).1) a.next.length (dD _);omega
 ·rw [<- c];exact ziU b (dD _)
theorem ClsI.stop (h:ClsI a cs K)(hn:ziw (kyR a cs) ds K M)(hl:ds.length=a.next.length)(ha:Fit N a):ClsR a ds:=by
 have c:FO (fnL ds) a.next.length:=by rw [<- hl];exact hn.fo
 have d:ctn (fnL ds) a.next.length=K:=by rw [<- hl];exact hn.ct
 have l:=ha.row.2.1.1;have hK:K≠0:=by
  have:=ziV (fnL ds) (j:=0) (k:=a.next.length) oM;omega
 obtain⟨g,i⟩:=h.fo hK;rw [h.len] at g i;have f:=fo_eq g c (fun q r hq hr e=>(h.keys hn hl hq hr e).1) (by rw [d,i]);have b:∀ q,q<a.next.length->(a.next.getD q []).map (fun x=>fnL ds x.toNat)=rowC (fnL cs) (a.next.getD q []):=fun q hq=>by
  unfold rowC;refine List.map_congr_left fun x hx=>?_;have m:=(ha.row.2.2.2 q _ (by rw [dF,dE hq];rfl)).2 x hx;exact f _ oM
 exact⟨hl,c,fun q r hq hr e=>h.acc q r hq hr (h.keys hn hl hq hr e).1,fun q r hq hr e=>by rw [b q hq,b r hr];exact (h.keys hn hl hq hr e).2⟩
theorem ClsI.zero (h:cs.length=a.next.length)(hc:∀ q,q<a.next.length->fnL cs q=if zaC a q=kC then 1 else 0):ClsI a cs 0:=by
 refine⟨h,fun q=>?_,fun q r hq hr e=>?_,fun h=>absurd rfl h⟩
 ·by_cases hq:q<a.next.length
  ·rw [hc q hq]
   split<;>decide
  ·unfold fnL;rw [dF,eJ oM];decide
 ·rw [hc q hq,hc r hr] at e;cases h1:zaC a q<;>cases h2:zaC a r<;>simp_all
theorem ClsR.stb {rs:List Nat}(h:ClsR a cs)(ha:Fit N a)(hr:RepI (fnL cs) a.next.length rs):Stb a (fnL cs) rs:=
 stb_of rfl (oH ha.row.2.1.1) h.fo hr h.acc h.row
end
section
open Go.Maps
section
variable {α:Type}{mt kt:TypeId}{val:α->kL}{lit:α->Lit}{dom:α->Prop}
def MapN (kt:TypeId) (lit:α->Lit) (dom:α->Prop) (w:kJ) (b n:Nat) (M:α->Option Nat):Prop:=
 ∃ D:DataW Unit,w.ownsMap kN kt (plainElem kN 3) b n D/\Maps.size D=n/\∀ x,dom x->Maps.has D (lit x)=(M x).isSome/\∀ v,M x=gO v->D.atKey (lit x) (.lit (.int kA 0))=.lit (.int kA (v:Int))
section
variable {w w':kJ}{b n:Nat}{M:α->Option Nat}
theorem MapN.g (h:MapN kt lit dom w b n M):zdI kt lit dom w b n M:=by
 obtain⟨D,a,-,c⟩:=h;exact⟨D,a,c⟩
theorem MapN.made (w:kJ):MapN kt lit dom (w.alloc (.map #[] 0)) w.heap.size 0 (fun _=>gP):=
 ⟨.map [],World.ownsMap_made _ _ _ _,rfl,fun x hx=>⟨rfl,fun v hv=>by cases hv⟩⟩
theorem MapN.frm {S:Nat->Prop}(h:MapN kt lit dom w b n M)(hf:Frm S w w')(hS:¬ S b):MapN kt lit dom w' b n M:=by
 obtain⟨D,⟨es,a,hb,r⟩,c,d⟩:=h;exact⟨D,⟨es,a,(hf.block b (Array.getElem?_eq_some_iff.1 hb).1 hS).trans hb,r⟩,c,d⟩
theorem MapN.ext (h:MapN kt lit dom w b n M)(hx:Ext w w'):MapN kt lit dom w' b n M:=h.frm hx id
end
variable (w:kJ){ops:Array Oper}{rest:List Oper}{o:Oper}{a:Act}{Q:Exit->Act->kJ->Prop}
theorem ziN (K:KeyG mt kt val lit dom)(hg:o.guard=gP) (m x v:Operand)(hop:o.op=Op.mapUpdate mt m x v){M:α->Option Nat}
  (hm:a.eval m=.map (gO b)) (h:MapN kt lit dom w b n M) (hn:n<1152921504606846976) (key:α) (v9:Nat) (hx:a.eval x=val key) (hv:a.eval v=.int kA (v9:Int)) (hk:dom key) (hv9:v9<1152921504606846976) (hnew:M key=gP)
  (hK:∀ w',MapN kt lit dom w' b (n+1) (ziv M key v9)->w.grownBy w' (gO b)->wpList kN ops Q rest (a.put o.dst undef) w'):wpList kN ops Q (o :: rest) a w:=by
 refine wpList_plain hg fun K' hK'=>?_;obtain⟨D,d,l,k⟩:=h;have c:=K.key hk;obtain⟨w',i,p,q⟩:=d.update K.keyed K.und lM c (plainElem_int (H:=Unit) Tryz.underlying3 (wfG hv9));have j:Maps.size (D.put (lit key) (.lit (.int kA (v9:Int))))=n+1:=by
  rw [size_put (d.tidy K.keyed),(k key hk).1,hnew];simp [l]
 have f:MapN kt lit dom w' b (n+1) (ziv M key v9):=⟨_,p,j,fun y hy=>by
  unfold ziv
  by_cases e:y=key
  ·subst e;rw [if_pos rfl];exact⟨has_put_same d.isMap (K.keyed.key c) _,fun u hu=>by rw [atKey_put_same d.isMap (K.keyed.key c)];cases hu;rfl⟩
  ·have g:lit y≠lit key:=fun h=>e (K.inj hy hk h);rw [if_neg e,has_put_other g,atKey_put_other g];exact k y hy⟩
 unfold Oper.wp;simp [execOp,hop,hm,hx,hv,i,Result.andThen];exact hK' _ _ (hK w' f q)
theorem zdG (K:KeyG mt kt val lit dom)(hg:o.guard=gP) (m:Operand)(hop:o.op=Op.call { callee:=Callee.builtin Builtin.len,args:=#[m],argTypes:=#[mt] }){M:α->Option Nat}
  (hm:a.eval m=.map (gO b)) (h:MapN kt lit dom w b n M) (hK:wpList kN ops Q rest (a.put o.dst (.int kA (n:Int))) w):wpList kN ops Q (o :: rest) a w:=by
 obtain⟨D,c,d,-⟩:=h;refine wpList_len_own w hg m mt hop kt 3 K.und _ b n D hm c ?_;rw [d];exact hK
end
end
section
open Go.Lib
theorem itoa_small (i:Nat)(h:i<100) (w:kJ) :
  kQ kN 303 #[i] w fun e w'=>e=kP (.string ⟨(Lib.decDigits i).toArray⟩)/\w=w':=by
 go_enter Tryz.func303,Tryz.ntmps303
 go_name_bytes_deep 45 SM hSM
 have b:SM=Lib.smalls:=by rw [<- hSM];decide +kernel
 subst b;clear hSM
 go_name_bytes_deep 30 DG hDG
 have a:DG=Lib.digits36:=by rw [<- hDG];decide +kernel
 subst a;clear hDG
 by_cases h10:i<10
 ·have c:∀ w,(Instr.slice 9 (.string Lib.digits36) (gO (.int kA (i:Int))) (gO (.int kA ((i:Int)+1))) gP).run kN w=.ok (.string (Lib.digits36.extract i (i+1))) w:=fun w=>by
   rw [run_slice_string w 9 Lib.digits36 kA kA _ _ Tryz.underlying9 oM oM (by rw [Lib.digits36_size];omega),show ((i:Int)).toNat=i by omega,show ((i:Int)+1).toNat=i+1 by omega]
  go_wp2;go_ret;refine⟨?_,rfl⟩;show kP (kU (Lib.digits36.extract i (i+1)))=_;rw [AnyPlain.small_ba (Lib.digits36.extract i (i+1)) (Lib.decDigits i) (by rw [Lib.extract_data];exact Lib.digits36_piece h10)]
 ·have c:∀ w,(Instr.slice 9 (.string Lib.smalls) (gO (.int kA ((i:Int)*2))) (gO (.int kA ((i:Int)*2+2))) gP).run kN w=.ok (.string (Lib.smalls.extract (i*2) (i*2+2))) w:=fun w=>by
   rw [run_slice_string w 9 Lib.smalls kA kA _ _ Tryz.underlying9 oM oM (by rw [Lib.smalls_size];omega),show ((i:Int)*2).toNat=i*2 by omega,show ((i:Int)*2+2).toNat=i*2+2 by omega]
  go_wp2;go_ret;refine⟨?_,rfl⟩;show kP (kU (Lib.smalls.extract (i*2) (i*2+2)))=_;rw [AnyPlain.small_ba (Lib.smalls.extract (i*2) (i*2+2)) (Lib.decDigits i) (by rw [Lib.extract_data];exact Lib.smalls_piece h10 h)]
theorem itoa_format (i:Nat)(h:i<100) (w:kJ) :
  kQ kN 302 #[i,(10:Int)] w fun e w'=>e=kP (.string ⟨(Lib.decDigits i).toArray⟩)/\w=w':=by
 have a:=za (itoa_small i h);have b:(0:Int)<=(i:Int)/\(i:Int)<100:=oM
 go_enter Tryz.func302,Tryz.ntmps302
 go_wp2_with (go_at_call 303;refine (a.out _).mono ?_;rintro e c ⟨rfl,rfl⟩)
 go_ret;exact⟨rfl,rfl⟩
theorem itoa_in (i:Nat)(h:i<100) (w:kJ) :
  kQ kN 296 #[i] w fun e w'=>e=kP (.string ⟨(Lib.decDigits i).toArray⟩)/\w=w':=by
 go_enter Tryz.func296,Tryz.ntmps296
 go_wp2_with (go_at_call 302;refine (itoa_format i h _).mono ?_;rintro e a ⟨rfl,rfl⟩)
 go_ret;exact⟨rfl,rfl⟩
theorem lib_Itoa (i:Nat)(h:i<100) (w:kJ) :
  kQ kN 267 #[i] w fun e w'=>e=kP (.string ⟨(Lib.decDigits i).toArray⟩)/\w=w':=by
 go_enter Tryz.func267,Tryz.ntmps267
 go_wp2_with (go_at_call 296;refine (itoa_in i h _).mono ?_;rintro e a ⟨rfl,rfl⟩)
 go_ret;exact⟨rfl,rfl⟩
end
abbrev domC (x:ByteArray):Prop:=x.size<=9223372036854775807
abbrev MapC (w:kJ) (b n:Nat) (M:ByteArray->Option Nat):Prop:=MapN 9 (fun x:ByteArray=>Lit.string x.data.toList) domC w b n M
theorem made_z (n:Nat):(madeCells (Value.int kA 0).cells (n*1)).toList=zag (eG n 0):=by
 simp [Value.cells,toList_madeCells_one,zag]
theorem kyB_snoc {c:Nat->Nat}(hr:r[j]?=gO (y:Int))(hv:c y=v):kyB c x (r.take (j+1))=kyB c x (r.take j)++((⟨#[44]⟩:ByteArray)++(⟨(Lib.decDigits v).toArray⟩:ByteArray)):=by
 have h:rowC c (r.take (j+1))=rowC c (r.take j)++[v]:=by
  unfold rowC;rw [eB,hr,Option.toList_some,eU,List.map_singleton,eT,hv]
 unfold kyB;rw [h,keyL_snoc];refine ByteArray.ext ?_;simp
theorem kyB_zero (c:Nat->Nat) (x:Nat) (r:List Int):kyB c x (r.take 0)=(⟨(Lib.decDigits x).toArray⟩:ByteArray):=by
 simp [kyB,keyL,rowC]
theorem fill_z (hk:ds.length=k)(hm:k<m):(zag (ds++eG (m - k) 0)).set k (.int kA (v:Nat))=zag ((ds++[v])++eG (m - (k+1)) 0):=by
 rw [<- zeX,List.set_append_right _ _ oM,hk,Nat.sub_self,show m - k=(m - (k+1))+1 by omega,List.replicate_succ,List.set_cons_zero,iQ];rfl
theorem fnL_set {cs:List Nat}(v:Nat)(hq:q<cs.length):fnL (cs.set q v) j=if j=q then v else fnL cs j:=by
 unfold fnL;rw [dF,dF,List.getElem?_set]
 by_cases e:q=j
 ·subst e;rw [if_pos rfl,if_pos hq,if_pos rfl];rfl
 ·rw [if_neg e,if_neg (fun h=>e h.symm)]
def RetClz (w:kJ) (a:Aut) (e:Ending) (w':kJ):Prop:=
 ∃ (ds:List Nat) (g:Nat),e=kP (fQ (gO g) a.next.length a.next.length)/\w'.ownsRow w.heap.size 3 1 (fQ (gO g) a.next.length a.next.length) a.next.length (zag ds)/\ClsR a ds/\Ext w w'
theorem ziB (h:zF w lo hi B m B' m' a)(hv:Fit N a)(hN:N<=99) :
  kQ kN 192 #[kO #[a.al,fQ B m d,fQ B' m' d']] w (RetClz w a):=by
 obtain⟨-,⟨n1,bl⟩,au,aj⟩:=hv.row;have S:=za h.n1;have aQ:=za (show m'=m by rw [h.n1,h.n2,au]);have HN:=za (fun W (hW:Ext w W)=>h.1.ext hW);have HB:=za (fun W (hW:Ext w W)=>h.2.2.ext hW);have aR:=za aj;have Hv:=za hv;have bu:m<=99:=by rw [h.n1];omega
 have bL:1<=m:=by rw [h.n1];omega
 have h6:=zB a.al.toNat 6;have bM:=@run_makeMap kN;clear aj h n1 bl hv hN au
 go_enter Tryz.func192,Tryz.ntmps192
 go_upto_region 1 with fail
 generalize U0:w.alloc _=R at *;obtain⟨ar,V⟩:=Ext.x1_ U0;clear U0;have c1:=V.cell;go_upto_region 2 with (at_make;refine zbo R R rfl _ _ 110 rfl 3 _ 1 8 Tryz.underlying110 zT _ _ m rfl rfl (dB _) oM lM ?_;intro w2 hx12 zkB hx2 hsz2)
 rw [made_z] at zkB;clear c1 hx2 hsz2;have c1:=(V.ext hx12).cell;obtain⟨G,hG⟩:∃ G,Hid (G=R.heap.size):=⟨_,rfl⟩;have aU:R.heap.size<=G:=oH hG.out;have ai:w2.ownsRow G 3 1 (fQ (gO ⟨G,0,gP⟩) m m) m (zag (eG m 0)):=by rw [hG.out];exact zkB
 rw [<- hG.out];clear zkB;go_wp2_with fail
 go_loopw [4,21] (fun _ i wr=>∃ (q:Nat) (cs:List Nat),i=.int kA q/\q<=m/\Hid (cs.length=m/\∀ j,j<m->fnL cs j=if j<q/\zaC a j=kC then 1 else 0)/\wr.ownsRow G 3 1 (fQ (gO G) m m) m (zag cs)/\Ext R wr) (fun _ i _=>m - (intOf i).toNat)
 case atStart=>exact⟨0,_,rfl,dH _,za ⟨sM,fun j Y=>by rw [if_neg oM];unfold fnL;rw [dF,List.getElem?_replicate,if_pos Y];rfl⟩,ai,hx12⟩
 case round =>
  clear ai hx12 c1;obtain⟨q,cs,rfl,hq,f,c,hx⟩:=hrel;have c1:=(V.ext hx).cell
  by_cases hlt:q<m
  ·have a2:(q:Int)<(m:Int):=oM;have bt:(q:Int)<(m':Int):=oH aQ.out;obtain⟨ad,bb,rfl,-,-,hb,cb⟩:=(HB.out wr (ar.trans hx)).bool (k:=q) (oH aQ.out);have aW:=za (show zaC a q=bb by unfold zaC;rw [dF,hb.out];rfl);obtain⟨o0,g0⟩:=zaM c q oM;have f0:=c.frozenAt q;cases bb with
   |true =>
    have a7:=(c.stored q (.int kA (1:Nat))).1;rw [<- zeX] at a7;have ag:=za (show (cs.set q 1).length=m/\∀ j,j<m->fnL (cs.set q 1) j=if j<q+1/\zaC a j=kC then 1 else 0 from ⟨by rw [List.length_set];exact f.out.1,fun j Y=>by
     rw [fnL_set 1 (oH f.out.1),f.out.2 j Y]
     by_cases e:j=q
     ·subst e;rw [if_pos rfl,if_pos ⟨oM,aW.out⟩]
     ·rw [if_neg e]
      by_cases e2:j<q/\zaC a j=kC
      ·rw [if_pos e2,if_pos ⟨oM,e2.2⟩]
      ·rw [if_neg e2,if_neg (fun h=>e2 ⟨oM,h.2⟩)]⟩)
    have bi:Ext R (wr.setCell ⟨G,q,gP⟩ (.int kA (1:Nat))):=hx.setCell (p:=⟨G,q,gP⟩) aU _;clear c hx hb;go_wp2_with fail
    go_roundw
    case rel=>exact⟨q+1,_,gM,oM,ag,a7,bi⟩
    case measure=>exact uM
   |false =>
    have ag:=za (show cs.length=m/\∀ j,j<m->fnL cs j=if j<q+1/\zaC a j=kC then 1 else 0 from ⟨f.out.1,fun j Y=>by
     rw [f.out.2 j Y]
     by_cases e:j=q
     ·subst e;rw [if_neg (fun h=>oM),if_neg (fun h=>by have:=aW.out;rw [h.2] at this;cases this)]
     ·by_cases e2:j<q/\zaC a j=kC
      ·rw [if_pos e2,if_pos ⟨oM,e2.2⟩]
      ·rw [if_neg e2,if_neg (fun h=>e2 ⟨oM,h.2⟩)]⟩)
    clear hb;go_wp2_with fail
    go_roundw
    case rel=>exact⟨q+1,_,gM,oM,ag,c,hx⟩
    case measure=>exact uM
  ·obtain rfl:m=q:=oM;have aV:=za (ClsI.zero (a:=a) (cs:=cs) (by rw [f.out.1,S.out]) (fun j Y=>by
    rw [f.out.2 j (by rw [S.out];exact Y)]
    by_cases e:zaC a j=kC
    ·rw [if_pos ⟨by rw [S.out];exact Y,e⟩,if_pos e]
    ·rw [if_neg (fun h=>e h.2),if_neg e]))
   have ah:=za (zn c aU);have hx0:=za hx;clear c hx c1 f;go_wp2_with fail
   go_loopw [3,5,6,7,8,9,10,12,13,14] (fun v3 v5 _ _ _ _ _ _ _ _ wr=>∃ (g:Nat) (cs:List Nat) (K:Nat),v3=fQ (gO g) m m/\v5=.int kA K/\K<=m/\Hid (ClsI a cs K)/\Hid (wr.ownsRow R.heap.size 3 1 (fQ (gO g) m m) m (zag cs))/\Hid (Ext R wr)) (fun _ v5 _ _ _ _ _ _ _ _ _=>m+1 - (intOf v5).toNat)
   case atStart=>exact⟨G,cs,0,rfl,rfl,dH _,aV,ah,hx0⟩
   case round =>
    clear aV ah hx0;obtain⟨g,cs,K,rfl,rfl,hK,hI,c,hx⟩:=hrel;obtain⟨Q,aL⟩:∃ Q,Q=wr:=⟨_,rfl⟩;subst aL;have ao:Ext Q (Q.alloc (.map #[] 0)):=(dB _).alloc _;have af:MapC (Q.alloc (.map #[] 0)) Q.heap.size 0 (fun _=>gP):=MapN.made Q;go_upto_region 10 with fail
    obtain⟨mb,a3⟩:∃ mb,Hid (mb=Q.heap.size):=⟨_,rfl⟩;rw [<- a3.out] at af ⊢;have bw:R.heap.size<=mb:=by have:=a3.out;have:=hx.out.size;omega
    generalize Q.alloc (.map #[] 0)=w4 at *;go_upto_region 11 with (at_make;refine zbo w4 w4 rfl _ _ 110 rfl 3 _ 1 8 Tryz.underlying110 zT _ _ m rfl rfl (dB _) oM lM ?_;intro w5 hx45 zkD hx5 hsz5)
    rw [made_z] at zkD;clear hx5;obtain⟨n,aF⟩:∃ n,Hid (n=w4.heap.size):=⟨_,rfl⟩;rw [<- aF.out] at zkD ⊢;have aZ:R.heap.size<=n:=by have:=aF.out;have:=hx.out.size;have:=ao.size;omega
    have az:=za (hx.out.trans (ao.trans hx45));have E:=za (zn zkD aZ);have u:=za (af.ext hx45);have av:=za (zh c.out (ao.trans hx45));have bf:=za (fun (e:g=mb)=>u.out.g.aj av.out (by rw [e];rfl));have a0:=za (show g≠n from fun e=>by
     have h1:=(c.out.lt g rfl).2;have h2:=ao.size;have h3:=aF.out;omega)
    have aw:=za (show n≠mb from fun e=>u.out.g.aj zkD (by rw [e];rfl));have k1:=(V.ext az.out).cell;clear ao af hx45 zkD hsz5 c;go_wp2_with fail
    go_loopw [8,9,10,12,13,14,40] (fun _ _ _ _ _ _ i wr=>∃ (k t:Nat) (I:List Nat) (M:ByteArray->Option Nat),i=.int kA k/\k<=m/\Hid (I.length=k)/\Hid (ziw (kyR a cs) I t M)/\Hid (MapC wr mb t M)/\Hid (wr.ownsRow R.heap.size 3 1 (fQ (gO n) m m) m (zag (I++eG (m - k) 0)))/\Hid (Frm (fun b=>b=mb\/b=n) w5 wr)) (fun _ _ _ _ _ _ i _=>m - (intOf i).toNat)
    case atStart=>exact⟨0,0,[],_,rfl,dH _,za rfl,za ziw.zero,u,E,za (Frm.refl _ _)⟩
    case round =>
     clear u E k1;obtain⟨k,t,I,M,rfl,hk,o,L,l,O,aq⟩:=hrel;have F:=za (az.out.frm aq.out (fun b hb e=>by rcases e with e|e<;>omega))
     have aX:=za (zf av.out aq.out (fun b hb e=>by
      have h1:g=b:=by simpa [Value.ownBlock] using hb
      rcases e with e|e
      ·exact bf.out (h1.trans e)
      ·exact a0.out (h1.trans e)))
     have k1:=(V.ext F.out).cell
     by_cases hlt:k<m
     ·obtain⟨ad,Ak,ck,row,rfl,_,_,ay,be,a5⟩:=(HN.out wr (ar.trans F.out)).row hlt;obtain⟨bg,a4⟩:=aR.out k row ay.out;have a9:=za a4;have ba:=za a5;have a2:(k:Int)<(m:Int):=oM;have bx:row.length<=6:=oM;have aC:∀ j,j<m->wr.cell? ⟨g,j,gP⟩=gO (.int kA (fnL cs j:Nat)):=fun j Y=>by
       rw [aX.out.cellAt j oM];unfold zag;rw [eC,ziY (by rw [hI.out.len,<- S.out];exact Y)];rfl
      have bc:=za aC;have aT:=aC k hlt;have bh:=za (show a.next.getD k []=row by rw [dF,ay.out];rfl);obtain⟨x,aN⟩:∃ x,Hid (fnL cs k=x):=⟨_,rfl⟩;have an:x<100:=by rw [<- aN.out];exact hI.out.lt k
      rw [aN.out] at aT;obtain⟨z0,aO⟩:∃ z0,Hid (kyB (fnL cs) x (row.take 0)=z0):=⟨_,rfl⟩;have J:=za (fun W=>lib_Itoa x an W);rw [<- kyB_zero (fnL cs) x row,aO.out] at J;clear a5 a4 bg aC;go_upto_region 15 with (go_at_call 267;refine (J.out _).mono ?_;rintro e w6 ⟨rfl,rfl⟩)
      clear aT k1 be;obtain⟨Q,aL⟩:∃ Q,Q=wr:=⟨_,rfl⟩;subst aL;go_wp2_with fail
      go_loopw [10,12,52] (fun v10 _ jv wr=>∃ j:Nat,v10=.string (kyB (fnL cs) x (row.take j))/\jv=.int kA j/\j<=row.length/\wr=Q) (fun _ _ jv _=>row.length - (intOf jv).toNat)
      case atStart=>exact⟨0,by rw [aO.out],rfl,dH _,rfl⟩
      case round =>
       clear aO J;obtain⟨j,rfl,rfl,Y,rfl⟩:=hrel;have Z:=kyB_size hI.out.lt an (row.take j);rw [List.length_take] at Z;obtain⟨H,aG⟩:∃ H,Hid (kyB (fnL cs) x (row.take j)=H):=⟨_,rfl⟩;rw [aG.out] at Z ⊢;have bs:H.size<=20:=oM;clear Z
       by_cases hjl:j<row.length
       ·have br:(j:Int)<(row.length:Int):=oM;obtain⟨bG,y0,rfl,_,_,a8,bK⟩:=ba.out.int hjl;obtain⟨y1,y2⟩:=a9.out y0 (dC a8.out);obtain⟨y,rfl⟩:∃ y:Nat,y0=y:=⟨y0.toNat,oM⟩;have bj:y<m:=oH S.out;have bz:(y:Int)<(m:Int):=oM;have cy:=bc.out y bj;obtain⟨v,aK⟩:∃ v,Hid (fnL cs y=v):=⟨_,rfl⟩;have ak:v<100:=by rw [<- aK.out];exact hI.out.lt y
        rw [aK.out] at cy;have aI:=za (kyB_snoc (x:=x) a8.out aK.out);rw [aG.out] at aI;obtain⟨z,hz⟩:∃ z:ByteArray,Hid ((⟨(Lib.decDigits v).toArray⟩:ByteArray)=z):=⟨_,rfl⟩;have bO:z.size<=2:=by rw [<- hz.out];exact (show (Lib.decDigits v).toArray.size<=2 by simpa using dig_len ak)
        have J:=za (fun W=>lib_Itoa v ak W);rw [hz.out] at J aI;have q1:¬ 9223372036854775807<1+z.size:=oM;have q2:¬ 9223372036854775807<H.size+(1+z.size):=oM;clear y1 y2;go_wp2_with (go_at_call 267;refine (J.out _).mono ?_;rintro e w6 ⟨rfl,rfl⟩)
        go_roundw
        case rel=>exact⟨j+1,by rw [aI.out],gM,oM,trivial⟩
        case measure=>exact uM
       ·obtain rfl:j=row.length:=oM;have aa:=za (show kyR a cs I.length=H by
         show kyB (fnL cs) (fnL cs I.length) (a.next.getD I.length [])=H;rw [o.out,bh.out,aN.out,<- aG.out,List.take_length])
        have aD:=za (show domC H by show H.size<=_;omega);obtain⟨o0,g0⟩:=zaM O.out k oM;have f0:=O.out.frozenAt k;cases hM:M H with
        |some v =>
         have r:=(O.out.stored k (.int kA (v:Nat))).1;rw [fill_z o.out hlt] at r;have U:=za r;have C:=za (L.out.hit (v:=v) (by rw [aa.out,hM]));have X:=za (aq.out.cell (p:=⟨n,k,gP⟩) (.inr rfl) (.int kA (v:Nat)));have ae:=za (l.out.frm (dG wr n k (.int kA (v:Nat))) (fun e=>aw.out e.symm));have aJ:(M H).isSome=kC:=by rw [hM];rfl
         have aB:=za hM;clear hM r;go_upto_region 21 with (refine zaH (key:=H) _ keyS rfl _ _ rfl rfl l.out.g rfl aD.out ?_;rw [aJ];intro cc hcc;obtain rfl:=hcc v aB.out;clear hcc)
         go_wp2_with fail
         go_roundw
         case rel=>exact⟨k+1,t,I++[v],M,gM,oM,za (by have:=o.out;simp;omega),C,ae,U,X⟩
         case measure=>exact uM
        |none =>
         have C:=za (L.out.miss (by rw [aa.out,hM]));rw [aa.out] at C;have bN:t<=k:=by have:=ziU L.out.fo (dD _);have:=L.out.ct;have:=o.out;omega
         have aJ:(M H).isSome=false:=by rw [hM];rfl
         have aB:=za hM;clear hM;go_upto_region 21 with (refine zaH (key:=H) _ keyS rfl _ _ rfl rfl l.out.g rfl aD.out ?_;rw [aJ];intro cc hcc;clear hcc)
         go_upto_region 24 with (first
          |(at_len;refine zdG _ keyS rfl _ rfl rfl l.out ?_)
          |(refine ziN (key:=H) (v9:=t) (b:=mb) _ keyS rfl _ _ _ rfl rfl l.out oM rfl rfl aD.out oM aB.out ?_;intro w7 hm7 hg7))
         have aE:Frm (fun b=>gO mb=gO b) wr w7:=Frm.ae hg7;have D:=zf O.out aE (fun b hb e=>by
          obtain rfl:=kS e;exact l.out.g.aj O.out hb)
         obtain⟨o7,g7⟩:=zaM D k oM;have f7:=D.frozenAt k;have r:=(D.stored k (.int kA (t:Nat))).1;rw [fill_z o.out hlt] at r;have U:=za r;have X:=za ((aq.out.trans (aE.mono (T:=fun b=>b=mb\/b=n) (fun b _ e=>.inl (kS e).symm))).cell (p:=⟨n,k,gP⟩) (.inr rfl) (.int kA (t:Nat)));have ae:=za (hm7.frm (dG w7 n k (.int kA (t:Nat))) (fun e=>aw.out e.symm));clear r hm7 hg7 aE D g0 f0;go_wp2_with fail
         go_roundw
         case rel=>exact⟨k+1,t+1,I++[t],_,gM,oM,za (by have:=o.out;simp;omega),C,ae,U,X⟩
         case measure=>exact uM
     ·obtain rfl:m=k:=oM;have aY:=za (show I.length=a.next.length by rw [o.out,S.out]);have ax:=za (show wr.ownsRow R.heap.size 3 1 (fQ (gO n) m m) m (zag I) by
       have:=O.out;rwa [Nat.sub_self,List.replicate_zero,List.append_nil] at this)
      obtain⟨s,ab,aH⟩:=hI.out.step L.out aY.out (oH S.out) (oH S.out);have aA:=za s
      by_cases hE:t=K
      ·subst hE;have a6:=za (show RetClz w a (kP (fQ (gO n) m m)) wr from ⟨I,n,by rw [S.out],by
        have:=zn ax.out ar.size;rwa [S.out] at this,hI.out.stop L.out aY.out Hv.out,ar.trans F.out⟩)
       clear s ab aH;go_wp2_with (at_len;refine zdG _ keyS rfl _ rfl rfl l.out ?_)
       go_ret;exact a6.out
      ·have bI:¬ (t:Int)=(K:Int):=oM;have bJ:=ab hE;have a1:t<=m:=by rw [S.out];exact aH
       clear s ab aH;go_wp2_with (at_len;refine zdG _ keyS rfl _ rfl rfl l.out ?_)
       go_roundw
       case rel=>exact⟨n,I,t,rfl,rfl,a1,aA,ax,F⟩
       case measure=>exact uM
structure MinR (N:Nat) (a t:Aut):Prop where
 fit:Fit N t
 al:t.al=a.al
 acc:∀ v:List Nat,(∀ l∈v,l<6)->zaC t (zaO t 0 v)=zaC a (zaO a 0 v)
theorem MinR.same {t:Aut}(h:MinR 12 a t)(ha:zj a=kC):zcN a t:=⟨h.al,ha,h.fit.valid h.fit.row.2.1.2,fun v hv=>(h.acc v hv).symm⟩
def RetMin (w:kJ) (N:Nat) (a:Aut) (e:Ending) (w':kJ):Prop:=
 ∃ (t:Aut) (A:Option Addr) (n c:Nat) (A':Option Addr) (n' c':Nat),e=kP (kO #[t.al,fQ A n c,fQ A' n' c'])/\zM w' w.heap.size A n c A' n' c' t/\MinR N a t/\Ext w w'
def zfx (a:Aut) (cs:List Nat) (q:Nat):List Int:=(a.next.getD q []).map fun x=>(fnL cs x.toNat:Int)
theorem quoA_eq (a:Aut) (cs rs:List Nat):quoA a (fnL cs) rs=⟨a.al,rs.map (zfx a cs),rs.map (zaC a)⟩:=rfl
theorem zjL (h:zF w lo hi B m B' m' a)(hv:Fit N a)(hN:N<=99) :
  kQ kN 101 #[kO #[a.al,fQ B m d,fQ B' m' d']] w (RetMin w N a):=by
 obtain⟨-,⟨n1,bJ⟩,ah,R⟩:=hv.row;have Hn:=za h.n1;have bo:=za (show m'=m by rw [h.n1,h.n2,ah]);have HA:=za (fun W (hW:Ext w W)=>h.ext hW);have aQ:=za R;have Hv:=za hv;have bT:m<=99:=by rw [h.n1];omega
 have h6:=zB a.al.toNat 6;have HN:=za hN;clear R h n1 bJ hv hN ah
 go_enter Tryz.func101,Tryz.ntmps101
 go_upto_region 1 with fail
 generalize U0:(w.alloc _).alloc _=w0 at *;obtain⟨hx0,b1,b2⟩:=gX U0;clear U0;have k1:=b1.cell;go_upto_region 2 with (go_at_call 192;refine (ziB (HA.out _ hx0) Hv.out HN.out).mono ?_;rintro e C ⟨s,g,rfl,aG,hC,af⟩)
 rw [<- Hn.out] at aG ⊢;have HC:=za hC;have B1:=za (b1.ext af);have B2:=za (b2.ext af);have U:=za (hx0.trans af);have ba:=za aG;clear k1 b1 b2 af hC aG;have k1:=B1.out.cell;go_upto_region 3 with fail
 have bG:=Blk.new C 27 #[a.al,(),()];have aB:=(dB C).alloc (.cells #[a.al,(),()] 27);obtain⟨G,hG⟩:∃ G,Hid (G=C.heap.size):=⟨_,rfl⟩;rw [<- hG.out] at bG ⊢;have ai:=za (gra_first (S:=fun _=>False) aB bG (oH hG.out) id);have ao:=za aB;clear k1 aB bG;generalize C.alloc _=w2 at *;have aa:=za (show FO (fnL s) m by rw [Hn.out];exact HC.out.fo);have bV:w.heap.size+1<C.heap.size:=B2.out.lt;go_wp2_with fail
 go_loopw [5,6,7,9,17] (fun _ _ _ _ iv wr=>∃ (i:Nat) (v vA:kL) (l:List Nat),iv=.int kA i/\i<=m/\Hid (RepI (fnL s) i l)/\Hid (zfv wr (fun _=>False) C.heap.size wr.heap.size G a.al v (l.map (zfx a s)) vA (l.map (zaC a)))/\Hid (Ext C wr)) (fun _ _ _ _ iv _=>m - (intOf iv).toNat)
 case atStart=>exact⟨0,_,_,[],rfl,dH _,za RepI.zero,za (ai.out.reN),ao⟩
 case round =>
  clear ai ao;obtain⟨i,v,vA,l,rfl,hi,hR,z,T⟩:=hrel;have cc:l.length<=i:=by rw [hR.out.len];exact ziU aa.out hi
  by_cases hlt:i<m
  ·have bS:(i:Int)<(m:Int):=oM;have aU:wr.cell? ⟨g,i,gP⟩=gO (.int kA (fnL s i:Nat)):=by
    rw [(zh ba.out T.out).cellAt i oM];unfold zag;rw [eC,ziY (by rw [HC.out.len,<- Hn.out];exact hlt)];rfl
   obtain⟨f,r1,r2,r3⟩:∃ f,wr.ownsRow C.heap.size 110 1 v (l.map (zfx a s)).length f/\zC wr C.heap.size f (l.map (zfx a s))/\∀ (j:Nat) (r:kL) (b:Nat),f[j]?=gO r->r.ownBlock=gO b->¬ False/\b<wr.heap.size:=by
    obtain⟨wb,H,-,f,h⟩:=z.out.gra;exact⟨f,h⟩
   obtain⟨Av,cv,rfl⟩:=zi r1;rw [eF] at r1;have kG:=z.out.blk.cell;rw [eF] at kG;have ar:=za z.out;rw [eF] at ar;clear r1 r2 r3 z;obtain⟨x,aD⟩:∃ x,Hid (fnL s i=x):=⟨_,rfl⟩;rw [aD.out] at aU
   by_cases hsk:x<l.length
   ·have a2:(x:Int)<(l.length:Int):=oM;have ax:=za (hR.out.skip (by rw [aD.out];exact hsk) aa.out hlt);go_wp2_with fail
    go_roundw
    case rel=>exact⟨i+1,_,_,l,gM,oM,ax,ar,T⟩
    case measure=>exact uM
   ·have a2:¬ (x:Int)<(l.length:Int):=oM;have ax:=za (hR.out.push (by rw [aD.out];exact hsk) aa.out hlt);have Z:=za (HA.out wr (U.out.trans T.out));obtain⟨ad,Ak,ck,o,rfl,_,_,an,bx,aZ⟩:=Z.out.1.row hlt;obtain⟨bD,aY⟩:=aQ.out i o an.out;have bm:=za aY;have bU:o.length<=6:=oM;have bn:=za (fun W (hW:Ext wr W)=>aZ.ext hW);have bE:=za (show zfx a s i=o.map fun x=>(fnL s x.toNat:Int) by unfold zfx;rw [dF,an.out];rfl);have k1:=(B1.out.ext T.out).cell;clear aZ bD aY;obtain⟨wo,bF⟩:∃ wo,wo=wr:=⟨_,rfl⟩;subst bF;go_upto_region 9 with fail
    go_wp2_with fail
    go_loopw [7,9,33] (fun v7 _ jv wr=>∃ j:Nat,jv=.int kA j/\j<=o.length/\Hid (wr.ownsRow wo.heap.size 3 1 v7 j (ints ((o.map fun x=>(fnL s x.toNat:Int)).take j)))/\Hid (Ext wo wr)) (fun _ _ jv _=>o.length - (intOf jv).toNat)
    case atStart=>exact⟨0,rfl,dH _,za (World.ownsRow_nil _ _ _ _),za (dB _)⟩
    case round =>
     clear aU kG k1 bx;obtain⟨j,rfl,hj,Q,I⟩:=hrel;obtain⟨A7,c7,rfl⟩:=zi Q.out
     by_cases hjl:j<o.length
     ·have bR:(j:Int)<(o.length:Int):=oM;obtain⟨b4,y0,rfl,_,_,a7,b9⟩:=(bn.out wr I.out).int hjl;obtain⟨y1,y2⟩:=bm.out y0 (dC a7.out);obtain⟨y,rfl⟩:∃ y:Nat,y0=y:=⟨y0.toNat,oM⟩;have bI:y<m:=oH Hn.out;have bW:(y:Int)<(m:Int):=oM;have cy:wr.cell? ⟨g,y,gP⟩=gO (.int kA (fnL s y:Nat)):=by
       rw [(zh ba.out (T.out.trans I.out)).cellAt y oM];unfold zag;rw [eC,ziY (by rw [HC.out.len,<- Hn.out];exact bI)];rfl
      have ae:=za (show ints ((o.map fun x=>(fnL s x.toNat:Int)).take (j+1))=ints ((o.map fun x=>(fnL s x.toNat:Int)).take j)++[.int kA (fnL s y:Nat)] by
       rw [eB,eC,a7.out,ints,ints,eU];rfl)
      clear y1 y2;go_wp2_with (at_builtin;refine zL wo wr rfl _ _ _ rfl 3 _ 1 8 Tryz.underlying110 zT rfl dM (fQ A7 j c7) j _ _ _ rfl rfl I.out.size Q.out rfl (zaJ _) lM oM ?_;intro g9 cap9 w9 hown9 hg9 hat9 hlt9)
      have a1:=za (show w9.ownsRow wo.heap.size 3 1 (fQ (gO g9) (j+1) cap9) (j+1) (ints ((o.map fun x=>(fnL s x.toNat:Int)).take (j+1))) by rw [ae.out];exact hown9);have aA:=za (I.out.grown hg9 (fun k hk=>(Q.out.lt k hk).1));go_roundw
      case rel=>exact⟨j+1,gM,oM,a1,aA⟩
      case measure=>exact uM
     ·obtain rfl:j=o.length:=oM;have am:=za (show wr.ownsRow wo.heap.size 3 1 (fQ A7 o.length c7) (zfx a s i).length (ints (zfx a s i)) by
       have:=Q.out;rw [dK sM] at this;rw [bE.out,eF];exact this)
      have F:=za (ar.out.ext I.out);obtain⟨f,r1,r2,r3⟩:∃ f,wr.ownsRow C.heap.size 110 1 (fQ Av l.length cv) (l.map (zfx a s)).length f/\zC wr C.heap.size f (l.map (zfx a s))/\∀ (j:Nat) (r:kL) (b:Nat),f[j]?=gO r->r.ownBlock=gO b->¬ False/\b<wo.heap.size:=by
       obtain⟨wb,H,-,f,h⟩:=F.out.gra;exact⟨f,h⟩
      have au:=za r1;have aO:=za r2;have aP:=za r3;have kG:=F.out.blk.cell;have aC:=za (T.out.trans I.out);have a4:=T.out.size;have a3:C.heap.size<=wr.heap.size:=aC.out.size;have ca:(l.map (zfx a s)).length<=99:=by rw [eF];omega
      have J:=za r1;rw [eF] at J;have hno:=za (fun (b:Nat) (_:(fQ A7 o.length c7).ownBlock=gO b) (h:False)=>h);have bC:=za (show (l.map (zfx a s)).length=l.length from eF _);have bB:=za (show (l.map (zaC a)).length=l.length from eF _);clear r1 r2 r3;go_upto_region 14 with (at_builtin;refine zL C wr rfl _ _ _ rfl 110 _ 1 24 Tryz.underlying24 zbH rfl dM (fQ Av l.length cv) l.length f _ _ rfl rfl a3 J.out rfl (zaK _ _ _) lM oM ?_;intro g7 cap7 w7 hown7 hg7 hat7 hlt7;rw [<- bC.out] at hown7;obtain⟨av,L⟩:=F.out.push au.out aO.out aP.out a4 am.out hno.out (fun _ _ h=>h) hown7 hg7 hat7;have k7:=av.cell;have f7:=av.frozen;rw [eF] at L)
      have az:=za ((aC.out.grown hg7 (fun k hk=>(au.out.lt k hk).1)).setCell (p:=⟨G,1,gP⟩) (by have:=hG.out;show C.heap.size<=G;omega) (fQ (gO g7) (l.length+1) cap7));have E:=za L;clear hown7 hg7 hat7 av L k7 f7 kG au aO aP am Q F aC J;generalize w7.setCell ⟨G,1,gP⟩ (fQ (gO g7) (l.length+1) cap7)=w8 at *;have aX:i<m':=oH bo.out;have bA:(i:Int)<(m':Int):=oM;obtain⟨aR,bb,rfl,-,-,hb,cb⟩:=(HA.out w8 (U.out.trans az.out)).2.2.bool aX;have bu:=za (show zaC a i=bb by unfold zaC;rw [dF,hb.out];rfl);have KB:∀ W,Ext w8 W->W.cell? (aR.add i)=gO (.bool bb):=fun W hW=>hW.aa cb;have KA:∀ W,Ext w8 W->∀ q,W.cell? ⟨w.heap.size,q,gP⟩=#[Value.int kA a.al,fQ (gO ad) m d,fQ (gO aR) m' d'][q]?:=fun W hW=>((B1.out.ext az.out).ext hW).cell;obtain⟨wb,H,ab,-⟩:=E.out.gra;have u:=ab.acc;rw [H,eF] at u;obtain⟨AA,cA,rfl⟩:=zi u;have KG:=fun W (hW:Ext w8 W)=>(E.out.blk.ext hW).cell;have a5:=dB w8;clear cb hb ab H;refine uR (fun X=>Ext w8 X) [8,10] (zx.of [0,1,2,3,4,5,6,7,8,9,10]) ?_;refine uQ ?_;have V:=a5.drew;have aj:=za (E.out.ext V);have D:=zh u V;have ap:=za (az.out.trans V);clear KB KA KG a5 E u;generalize w8.drew=wd at *;refine ze fun K hK=>?_;go_simp;refine hK.out _ _ (V.alloc _) ?_;refine pT ?_;refine zb fun K hK=>?_;refine zaB C wd _ _ _ rfl 4 _ 1 1 Tryz.underlying25 zaW rfl dM (fQ AA l.length cA) l.length (zae (l.map (zaC a))) _ _ rfl rfl ap.out.size D rfl (by simp [Value.oneCell']) lM oM ?_;intro g8 cap8 w9 hown8 hg8 hat8 hlt8;refine hK.out _ _ ?_;refine pT ?_;rw [<- bB.out] at hown8;obtain⟨aw,M⟩:=aj.out.pushA (x:=bb) (fun _ _ h=>h) hown8 hg8 hat8;rw [eF] at M;have k8:=aw.cell;have f8:=aw.frozen;have aA:=za ((ap.out.grown hg8 (fun k hk=>(D.lt k hk).1)).setCell (p:=⟨G,2,gP⟩) (by have:=hG.out;show C.heap.size<=G;omega) (fQ (gO g8) (l.length+1) cap8));have ak:=za M.reN;have O:=za (show l.map (zfx a s)++[zfx a s i]=(l++[i]).map (zfx a s)/\l.map (zaC a)++[bb]=(l++[i]).map (zaC a) from ⟨sM,by simp [bu.out]⟩);rw [O.out.1,O.out.2] at ak;clear hown8 hg8 hat8 D V aj M aw;refine uQ ?_;refine zb fun K hK=>?_;go_simp;refine hK.out _ _ ?_;refine zg ?_;clear k8 f8;go_wp2_with fail
      go_roundw
      case rel=>exact⟨i+1,_,_,l++[i],gM,oM,ax,ak,aA⟩
      case measure=>exact uM
  ·obtain rfl:m=i:=oM;have ae:=za (HC.out.stb Hv.out (by rw [<- Hn.out];exact hR.out));have aV:=za (hR.out.few aa.out);have aW:=za (ae.out.fit Hv.out (by rw [<- Hn.out];exact aV.out) (fun r hr=>by rw [<- Hn.out];exact hR.out.lt r hr));obtain⟨Av,cv,rfl⟩:∃ Av cv,v=fQ Av l.length cv:=by
    obtain⟨wb,H,-,f,h,-⟩:=z.out.gra;rw [eF] at h;exact zi h
   obtain⟨AA,cA,rfl⟩:∃ AA cA,vA=fQ AA l.length cA:=by
    obtain⟨wb,H,ab,-⟩:=z.out.gra;have h:=ab.acc;rw [eF] at h;exact zi h
   have kG:=z.out.blk.cell;have Z:=za (z.out.own.reads);rw [<- quoA_eq] at Z;have bs:=za (impl_trimF (d:=cv) (d':=cA) Z.out aW.out (oH HN.out));have bw:=za (B2.out.ext T.out);go_wp2_with (go_at_call 193;refine bs.out.mono ?_;rintro e w5 ⟨t,xs,A,n,c,A',n',c',rfl,bt,ay,a6⟩;have Y:=bw.out.ext a6;have kz:=Y.cell;have fz:=Y.frozen)
   have hZ:=Y.lt;have bH:=za ((U.out.trans (T.out.trans a6)).frm (zP w5 (w.heap.size+1) (.int kA t.al) (fQ A n c) (fQ A' n' c')) (fun k hk e=>by have e':k=w.heap.size+1:=e;omega));have aT:=za ((bt.keep (zP w5 (w.heap.size+1) (.int kA t.al) (fQ A n c) (fQ A' n' c')) (fun b hb e=>by
    have e':b=w.heap.size+1:=e;have:=T.out.size;omega)).less (show w.heap.size<=wr.heap.size by have:=T.out.size;omega))
   have bz:=za (zab Y rfl (.int kA t.al) (fQ A n c) (fQ A' n' c'));have a0:=za (show RetMin w N a (kP (kO #[t.al,fQ A n c,fQ A' n' c'])) _ from ⟨t,A,n,c,A',n',c',rfl,aT.out,⟨ay.fit aW.out,by rw [ay.al];rfl,fun v hv=>ae.out.minF Hv.out ay hv⟩,bH.out⟩);have cf:=bz.out.cell;exact bodyPost_ret (v:=kO #[t.al,fQ A n c,fQ A' n' c']) (by simp [results,Tryz.results101,go_sem,cf]) rfl a0.out
def RetMz (w:kJ) (a:Aut) (e:Ending) (w':kJ):Prop:=
 ∃ (t:Aut) (A:Option Addr) (n c:Nat) (A':Option Addr) (n' c':Nat),e=kP (.tuple #[kO #[t.al,fQ A n c,fQ A' n' c'],.bool kC])/\zM w' w.heap.size A n c A' n' c' t/\zcN a t/\Ext w w'
theorem impl_MinimizeAutomaton (h:zF w lo hi B m B' m' a)(hv:zj a=kC) :
  kQ kN 37 #[kO #[a.al,fQ B m d,fQ B' m' d']] w (RetMz w a):=by
 have F:=za (fun W (hW:Ext w W)=>h.ext hW);have C:=za (fun W (hW:Ext w W)=>zS _ _ _ _ d _ _ d' _ _ (h.ext hW));rw [hv] at C;have D:=za hv;clear h hv
 go_enter Tryz.func37,Tryz.ntmps37
 go_upto_region 1 with fail
 generalize U0:(w.alloc _).alloc _=S at *;obtain⟨hx0,E,G⟩:=gX U0;clear U0;have L:=E.cell;go_upto_region 3 with (go_at_call 25;refine (C.out _ hx0).mono (mQ fun M i=>?_))
 have f:=hx0.trans i;have s:=E.ext i;have l:=G.ext i;have L:=s.cell;go_upto_region 99 with fail
 refine (zjL (F.out _ f) (fit_of D.out) oM).mono ?_;rintro e w2 ⟨t,A,n,c,j,r,o,rfl,u,y,q⟩;have g:=l.ext q;have R:=g.cell;have O:=g.frozen;have Q:=l.lt;have z:=za ((f.trans q).frm (zP w2 (w.heap.size+1) (.int kA t.al) (fQ A n c) (fQ j r o)) (fun k hk e=>by have I:k=w.heap.size+1:=e;omega));have p:=za ((u.keep (zP w2 (w.heap.size+1) (.int kA t.al) (fQ A n c) (fQ j r o)) (fun b hb e=>by
  have I:b=w.heap.size+1:=e;omega)).less (show w.heap.size<=M.heap.size by have:=f.size;omega))
 have x:=za (zab g rfl (.int kA t.al) (fQ A n c) (fQ j r o));have J:=za (y.same D.out);go_wp2_with fail
 have H:=x.out.cell;exact bodyPost_ret (v:=.tuple #[kO #[t.al,fQ A n c,fQ j r o],.bool kC]) (by simp [results,Tryz.results37,go_sem,H]) rfl ⟨t,A,n,c,j,r,o,rfl,p.out,J.out,z.out⟩
section
variable {s s' t t':Sys}{p p' a a':Aut}{L:Nat}
theorem zgO (hs:zaS s s')(hp:zcN p p'){v:List Nat}(hv:∀ l∈v,l<6):zca [s] a p v↔zca [s'] a p' v:=by
 unfold zca;rw [hp.acc v hv];simp [hs.runs]
theorem breaks_same2 (hs:zaS s s')(ht:zaS t t')(hp:zcN p p'){v:List Nat}(hv:∀ l∈v,l<6):zca [s,t] a p v↔zca [s',t'] a p' v:=by
 unfold zca;rw [hp.acc v hv];simp [hs.runs,ht.runs]
theorem zfd (hs:zaS s s')(hp:zcN p p')(ha:zj a=kC):zby s' a p'=zby s a p/\zaI s' a p'=zaI s a p:=by
 have e:zce s' a p'=zce s a p:=by unfold zce;rw [hs.v1,hs.v2,hp.v1,hp.v2]
 obtain⟨c,d⟩:=zff (ss:=[s']) (ts:=[s]) (a:=a) (b:=a) (p:=p') (r:=p) (by simpa using hs.v2) (by simpa using hs.v1) ha ha hp.v2 hp.v1 (by simp [zE,hs.al])
  (fun v hv=>(zgO hs hp (zjT hv)).symm)
 unfold zby zaI;rw [e,c,d];exact⟨rfl,rfl⟩
theorem ziS (ht:zaS t t')(hp:zcN p p'):zbi [t'] p'=zbi [t] p/\zY [t'] p'=zY [t] p:=by
 have e:zbb [t'] p'=zbb [t] p:=by unfold zbb;rw [parts_one ht.v1 ht.v2,hp.v1,hp.v2]
 obtain⟨c,d⟩:=zff (ss:=[t']) (ts:=[t]) (a:=free) (b:=free) (p:=p') (r:=p) (by simpa using ht.v2) (by simpa using ht.v1) dM dM hp.v2 hp.v1 (by simp [zE,ht.al])
  (fun v hv=>(zgO ht hp (zjT hv)).symm)
 unfold zbi zY;rw [e,c,d];exact⟨rfl,rfl⟩
theorem brok_same2 (hs:zaS s s')(ht:zaS t t')(hp:zcN p p'):zbi [s',t'] p'=zbi [s,t] p/\zY [s',t'] p'=zY [s,t] p:=by
 have e:zbb [s',t'] p'=zbb [s,t] p:=by unfold zbb;rw [parts_two hs.v1 hs.v2 ht.v1 ht.v2,hp.v1,hp.v2]
 obtain⟨c,d⟩:=zff (ss:=[s',t']) (ts:=[s,t]) (a:=free) (b:=free) (p:=p') (r:=p) (by simp [hs.v2,ht.v2]) (by simp [hs.v1,ht.v1]) dM dM hp.v2 hp.v1 (by simp [zE,hs.al,ht.al])
  (fun v hv=>(breaks_same2 hs ht hp (zjT hv)).symm)
 unfold zbi zY;rw [e,c,d];exact⟨rfl,rfl⟩
theorem in_over {x:ByteArray}(h:inB x L=kC):∀ l∈wl x,l<6/\L.testBit l=kC:=fun l hl=>by
 have hw:=zaV h
 refine⟨zkp hw l hl,?_⟩
 have h4:=(zeA.1 h).2
 have h5:=(zdB (wl x) l).2 hl
 rw [<- h4,Nat.testBit_and,dI] at h5
 exact h5.2
theorem bad_same (hs:zaS s s')(hp:zcN p p'){w:List Nat}(hw:∀ l∈w,l<6/\L.testBit l=kC):Bad s' p' L w↔Bad s p L w:=by
 rw [bad_iff hw,bad_iff hw,hs.al];refine exists_congr fun v=>?_;constructor
 ·rintro ⟨a,b,c,d⟩;exact⟨a,b,(hs.runs v).2 c,by rw [hp.acc v (fun l hl=>(a l hl).1)];exact d⟩
 ·rintro ⟨a,b,c,d⟩;exact⟨a,b,(hs.runs v).1 c,by rw [<- hp.acc v (fun l hl=>(a l hl).1)];exact d⟩
theorem zdV (hs:zaS s s')(hp:zcN p p'):zo s' p' L=zo s p L:=funext fun x=>by
 rw [Bool.eq_iff_iff,zdd,zdd]
 refine and_congr_right fun hin=>?_
 have hw:=in_over hin
 unfold SafeW
 refine forall_congr' fun k=>forall_congr' fun _=>not_congr ?_
 exact bad_same hs hp (fun l hl=>hw l (List.mem_of_mem_take hl))
theorem judge_same (hs:zaS s s')(ht:zaS t t')(hp:zcN p p')(ha:zj a=kC):zbj s' p' t' L a=zbj s p t L a:=by
 unfold zbj;rw [(zfd hs hp ha).1,(zfd hs hp ha).2,(ziS ht (zcN.refl ha)).1,(ziS ht (zcN.refl ha)).2,zdV hs hp]
theorem run_same (hs:zaS s s')(ht:zaS t t')(hp:zcN p p')(h64:L<64):∀ (g k:Nat) (o:Option (List ByteArray × List ByteArray)),zjq L (zo s p L) k o->runT s' t' p' L g k o=runT s t p L g k o:=by
 intro g
 induction g with
 |zero=>intro k o _;rw [runT,runT]
 |succ g ih =>
  intro k o ho;cases o with
  |none=>rw [runT,runT]
  |some tab =>
   obtain⟨f,b⟩:=tab;obtain⟨c,a⟩:=ho.tab f b rfl;have d:=zbe c a h64;rw [runT,runT,zdV hs hp,judge_same hs ht hp d,(brok_same2 hs ht hp).2,ih _ _ (ho.ao _)]
theorem vp_same (hs:zaS s s')(ht:zaS t t')(hp:zcN p p')(h64:(iface s p t).toNat<64):vpT s' t' p'=vpT s t p:=by
 unfold vpT;rw [iface_same hs ht hp];split
 ·rfl
 ·rw [zdV hs hp];exact run_same hs ht hp h64 _ _ _ (zjq.start _ _)
end
section
variable {x x' y y' z z':Sys}{p p' a:Aut}{L:Nat}
theorem breaks_same3 (hx:zaS x x')(hy:zaS y y')(hz:zaS z z')(hp:zcN p p'){v:List Nat}(hv:∀ l∈v,l<6):zca [x,y,z] a p v↔zca [x',y',z'] a p' v:=by
 unfold zca;rw [hp.acc v hv];simp [hx.runs,hy.runs,hz.runs]
theorem parts_three (hx:zaS x x')(hy:zaS y y')(hz:zaS z z'):zA [x',y',z']=zA [x,y,z]:=by
 simp [zA,hx.v1,hx.v2,hy.v1,hy.v2,hz.v1,hz.v2]
theorem brok_same3 (hx:zaS x x')(hy:zaS y y')(hz:zaS z z')(hp:zcN p p'):zbi [x',y',z'] p'=zbi [x,y,z] p/\zY [x',y',z'] p'=zY [x,y,z] p:=by
 have e:zbb [x',y',z'] p'=zbb [x,y,z] p:=by unfold zbb;rw [parts_three hx hy hz,hp.v1,hp.v2]
 obtain⟨c,d⟩:=zff (ss:=[x',y',z']) (ts:=[x,y,z]) (a:=free) (b:=free) (p:=p') (r:=p) (by simp [hx.v2,hy.v2,hz.v2]) (by simp [hx.v1,hy.v1,hz.v1]) dM dM hp.v2 hp.v1 (by simp [zE,hx.al,hy.al,hz.al])
  (fun v hv=>(breaks_same3 hx hy hz hp (zjT hv)).symm)
 unfold zbi zY;rw [e,c,d];exact⟨rfl,rfl⟩
theorem judgeC_same (hx:zaS x x')(hy:zaS y y')(hz:zaS z z')(hp:zcN p p')(ha:zj a=kC)(h64:(iface y a z).toNat<64):zaQ x' y' z' p' L a=zaQ x y z p L a:=by
 unfold zaQ;rw [(zfd hx hp ha).1,(zfd hx hp ha).2,vp_same hy hz (zcN.refl ha) h64,zdV hx hp]
theorem iface_64 (hz:zk z=kC):(iface y a z).toNat<64:=by
 have b:=(zbx hz).2.2.2;unfold iface;split
 ·rw [eT];have:=Nat.and_le_right (n:=y.al.toNat|||a.al.toNat) (m:=z.al.toNat);omega
 ·decide
theorem ch_same (hx:zaS x x')(hy:zaS y y')(hz:zaS z z')(hp:zcN p p')(h64:L<64):∀ (g k:Nat) (o:Option (List ByteArray × List ByteArray)),zjq L (zo x p L) k o->chT x' y' z' p' L g k o=chT x y z p L g k o:=by
 intro g
 induction g with
 |zero=>intro k o _;rw [chT,chT]
 |succ g ih =>
  intro k o ho;cases o with
  |none=>rw [chT,chT]
  |some tab =>
   obtain⟨f,b⟩:=tab;obtain⟨c,a⟩:=ho.tab f b rfl;have d:=zbe c a h64;rw [chT,chT,zdV hx hp,judgeC_same hx hy hz hp d (iface_64 hz.v1),(brok_same3 hx hy hz hp).2,ih _ _ (ho.ao _)]
theorem chain1_same (hx:zaS x x')(hy:zaS y y')(hz:zaS z z')(hp:zcN p p'):zaw [x',y',z'] p'=zaw [x,y,z] p:=by
 unfold zaw;have e:three [x',y',z'] p'=three [x,y,z] p:=by unfold three;simp [zA,hx.v1,hx.v2,hy.v1,hy.v2,hz.v1,hz.v2,hp.v1,hp.v2]
 rw [e];simp only [hx.al,hy.al,hz.al,hp.al]
theorem vc_same (hx:zaS x x')(hy:zaS y y')(hz:zaS z z')(hp:zcN p p')(h64:(zaw [x,y,z] p).toNat<64):vcT [x',y',z'] p'=vcT [x,y,z] p:=by
 unfold vcT;simp only [chain1_same hx hy hz hp,zdV hx hp];rw [ch_same hx hy hz hp h64 _ _ _ (zjq.start _ _)]
end
section
open Go.ChangeShapes Go.WideShapes Go.ChangeAt Go.Deep
def BytesAt (w:kJ) (A:Option Addr) (n c:Nat):Prop:=Bytes w A n/\n<=9223372036854775807/\n<=c/\c<=9223372036854775807
theorem arg_bytes {H:Type}{enc:TypeId × kL->H}{spare:Nat->Bool}{held:Bool}{r:Reach}{b0:Nat}{v:kL}{d:DataW H}{p:List MemPlace}(hv:Value.okWide kN w r b0 22 v)(h:DataW.Trod enc kN w 0 spare held 22 v d p) :
  ∃ (A:Option Addr) (n c:Nat),v=fQ A n c/\BytesAt w A n c:=by
 obtain⟨a,l,k,rfl⟩:=okWide_slice Tryz.underlying22 hv;obtain⟨t,F⟩:=h;rcases open_slice1 Tryz.underlying22 kM F with ⟨f,_⟩|⟨s,L,B,m,n,V,D,M,f,hb,G,J,q,_,z⟩
 ·simp [Value.cells] at f;obtain⟨rfl,rfl,rfl⟩:=f;exact⟨_,_,_,rfl,fun h=>absurd h oM,oM,dD _,oM⟩
 ·simp [Value.cells] at f;obtain⟨rfl,rfl,rfl⟩:=f;unfold maxLen at J;have I:l<=m:=by rw [q];split<;>omega
  refine⟨_,_,_,rfl,fun hn=>?_,oM,G,oM⟩;have u:=(z 0 oM).1;have y:=zdK u;have g:=World.block_lt_of_cell? w _ u;rw [ziQ] at g;refine⟨s.block,s.off,by rw [<- y],g,fun j hj=>?_⟩;obtain⟨x,C⟩:=z j oM;obtain⟨b,i,_,o⟩:=DataW.trod_int Tryz.underlying5 C;have E:V j=.int .u8 b:=by simpa using i
  rw [E,y,zZ] at x;have R:0<=b/\b<256:=by
   simp only [Lit.wf,dI,decide_eq_true_eq] at o;have O:IntKind.u8.min=0:=rfl;have Q:IntKind.u8.max=255:=rfl;omega
  refine⟨b.toNat,oM,?_⟩;rw [x];have:((b.toNat:Nat):Int)=b:=oM;rw [this]
end
end Go.Proofs.YtckbjnndaaoddaaGreatDoor
