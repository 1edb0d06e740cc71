/- slices.Conta -/
import Derived.Test.YtckbjnndaaoddaaGreatDoorX17
import Derived.Lib.ItoaNum
import Derived.Shelf.Strconv.Itoa1
set_option maxHeartbeats 6400000
set_option maxRecDepth 100000
namespace Go.Proofs.YtckbjnndaaoddaaGreatDoor
open Go Go.RowKit
open Ext renaming refl->cY
open Frm renaming setCell->dG
open Int renaming toNat_natCast->eN
open List renaming append_assoc->iD,cons_append->iB,flatMap_cons->iU,getD_eq_getElem?_getD->dF,getElem?_append_left->dJ,getElem?_append_right->dU,getElem?_eq_getElem->dC,getElem?_eq_none->dW,getElem?_map->dP,getElem?_of_mem->eA,length_append->dN,length_map->dS,length_singleton->dV,map_append->eI,mem_of_getElem?->dD,nil_append->eJ,replicate->dT,take_add_one->dO,take_of_length_le->dK,getElem?_eq_some_iff->kB,mem_map->kE
open Nat renaming le_of_lt_succ->eG,le_refl->dE,lt_or_eq_of_le->dY,zero_le->dH
open Option renaming isSome->jG,map_eq_some_iff->kN,none->fW,some->fV
open Bool renaming true->jV
open Go renaming Calls->j8,Value->j6,World->j2
open Go.Ending renaming returned->j7
open Go.IntKind renaming i64->iX
open Go.Value renaming pointer->kD,slice->fF,string->kC
open Option.some renaming inj->kA
open _root_.Go.Proofs.Tryz renaming prog->j5
variable {B N b d d' hi j k lo m m' n q v x y:Nat} {B':Option Addr} {S:Nat->Prop} {W w:j2} {a:Aut} {ds:List Nat} {r:List Int}
def RetIx (xs:List Int) (v:Int) (w:j2) (e:Ending) (w':j2):Prop:=∃ r:Int,e=j7 (.int iX r)/\decide (0<=r)=decide (v∈xs)/\w=w'
section
variable {w:j2} {base n c:Nat} {A:Option Addr} {xs:List Int} {v:Int}
theorem index_int (h:w.ownsRow base 3 1 (fF A n c) n (ints xs)) :
  j8 j5 199 #[fF A n c,v] w (RetIx xs v w):=by
 have m:=za (show n=xs.length by have:=zcO h;simp [ints] at this;omega);have H:=za h;have p:=(Reads.af h).2.1;clear h
 go_enter Tryz.func199,Tryz.ntmps199
 go_wp2_with fail
 go_loopw [5,8] (fun _ i wr=>∃ k:Nat,i=.int iX k/\k<=n/\Hid (∀ j,j<k->xs[j]?≠fV v)/\w=wr) (fun _ i _=>n - (intOf i).toNat)
 case atStart=>exact⟨0,rfl,dH _,(show Hid _ from fun j a=>oM),rfl⟩
 case round =>
  obtain⟨k,rfl,hk,d,rfl⟩:=hrel
  by_cases hlt:k<n
  ·have o:(k:Int)<(n:Int):=oM;obtain⟨g,rfl,-,-⟩:=zN H.out oM;obtain⟨y,l⟩:∃ y,xs[k]?=fV y:=⟨_,dC (oH m.out)⟩;have r:=zgC H.out l
   by_cases e:v=y
   ·subst e;have b:=za (show RetIx xs v w (j7 (.int iX (k:Int))) w from ⟨k,rfl,by rw [decide_eq_true (show (0:Int)<=(k:Int) by omega),decide_eq_true (dD l)],rfl⟩);clear l;go_wp2_with fail
    go_ret;exact b.out
   ·have f:=za (show ∀ j,j<k+1->xs[j]?≠fV v from fun j a=>by
     rcases dY (eG a) with q|rfl
     ·exact d.out j q
     ·rw [l];exact fun h=>e (kA h).symm)
    clear l;go_wp2_with fail
    go_roundw
    case rel=>exact⟨k+1,gM,oM,f,trivial⟩
    case measure=>exact uM
  ·have b:=za (show RetIx xs v w (j7 (.int iX (-1))) w from ⟨-1,rfl,by
    rw [decide_eq_false oM,decide_eq_false];intro b;obtain⟨j,a⟩:=eA b;exact d.out j (by have:=(kB.1 a).1;have:=m.out;omega) a,rfl⟩)
   go_wp2_with fail
   go_ret;exact b.out
theorem zgM (h:w.ownsRow base 3 1 (fF A n c) n (ints xs)) :
  j8 j5 110 #[fF A n c,v] w fun e w'=>e=j7 (.bool (decide (v∈xs)))/\w=w':=by
 go_enter Tryz.func110,Tryz.ntmps110
 go_wp2_with (go_at_call 199;refine (index_int h).mono ?_;rintro e a ⟨r,rfl,hr,rfl⟩)
 go_ret;exact⟨by rw [<- hr];rfl,rfl⟩
end
noncomputable def wkF (Ts:List (List Nat)) (n:Int):Option (Option (List Nat)):=if n = -1 then fV fW else if 0<=n then (Ts[n.toNat]?).map fV else fW
section
variable {Ts Us:List (List Nat)} {n:Int} {x:Option (List Nat)}
theorem zkp:wkF Ts (-1)=fV fW:=by unfold wkF;rw [if_pos rfl]
theorem wkF_nat {T:List Nat}(h:Ts[j]?=fV T):wkF Ts (j:Int)=fV (fV T):=by
 unfold wkF;rw [if_neg oM,if_pos oM,eN,h];rfl
theorem zec (h:wkF Ts n=fV x):(n = -1/\x=fW)\/∃ (j:Nat) (T:List Nat),n=(j:Int)/\Ts[j]?=fV T/\x=fV T:=by
 unfold wkF at h
 by_cases e:n = -1
 ·rw [if_pos e] at h;exact .inl ⟨e,(kA h).symm⟩
 ·rw [if_neg e] at h
  by_cases e2:0<=n
  ·rw [if_pos e2] at h;obtain⟨T,a,rfl⟩:=kN.1 h;exact .inr ⟨n.toNat,T,oM,a,rfl⟩
  ·rw [if_neg e2] at h;cases h
theorem wkF_sub (h:∀ (i:Nat) (U:List Nat),Ts[i]?=fV U->Us[i]?=fV U):SubF (wkF Ts) (wkF Us):=by
 intro n x hx;rcases zec hx with ⟨rfl,rfl⟩|⟨j,T,rfl,a,rfl⟩
 ·exact zkp
 ·exact wkF_nat (h j T a)
end
def WkK (F:Sfx) (g:Nat) (f:Int->Option (Option (List Nat))):zbo:=fun B W S=>∃ (Ts:List (List Nat)) (nx:Nat->Nat->Int) (k:Nat) (M:List Nat->Option Nat) (vs vn vu:j6),
 SfI F.s F.p F.L Ts nx/\zeP F Ts nx k M vs vn vu W/\(Ts.length<=B+1/\Ts.length<=1000000)/\Blk W g 144 #[kD (fV ⟨F.G,0,fW⟩)]/\F.w9.heap.size<=g/\f=wkF Ts/\S=fun q=>sfS F vs vn vu q\/q=g
section
variable {F:Sfx} {g:Nat} {f:Int->Option (Option (List Nat))}
theorem WkK.ok (hF:zix F) (g:Nat) (f:Int->Option (Option (List Nat))):zbo.Ok F.lo (WkK F g f) where
 lt:=fun ⟨_,_,_,_,_,_,_,_,h,_,hb,_,_,e⟩ j hj=>by
  subst e
  rcases hj with hj|rfl
  ·exact h.lt hj
  ·exact hb.lt
 low:=fun ⟨_,_,_,_,_,_,_,_,h,_,hb,hg,_,e⟩ j hj=>by
  subst e
  rcases hj with hj|rfl
  ·exact h.low hF hj
  ·have:=hF.lob;have:=hF.b0G;have:=hF.Gw;omega
 keep:=fun ⟨Ts,nx,k,M,vs,vn,vu,hI,h,hl,hb,hg,hf',e⟩ hf hT=>by
  subst e
  exact⟨Ts,nx,k,M,vs,vn,vu,hI,h.frmT hF hf (fun j hj ht=>⟨(hT j hj ht).1,fun hs=>(hT j hj ht).2 (.inl hs)⟩),hl,hb.frm hf (fun ht=>(hT g hb.lt ht).2 (.inr rfl)),hg,hf',rfl⟩
 more:=fun ⟨Ts,nx,k,M,vs,vn,vu,hI,h,hl,hb,hg,hf',e⟩ hBC=>⟨Ts,nx,k,M,vs,vn,vu,hI,h,⟨oM,hl.2⟩,hb,hg,hf',e⟩
theorem WkK.inj (h:WkK F g f B W S) (n m:Int) (x:Option (List Nat))(hn:f n=fV x)(hm:f m=fV x):n=m:=by
 obtain⟨o,u,k,M,y,v,z,p,i,s,q,r,rfl,e⟩:=h;rcases zec hn with ⟨rfl,rfl⟩|⟨j,T,rfl,b,rfl⟩<;>rcases zec hm with ⟨rfl,c⟩|⟨t,l,rfl,d,a⟩
 ·rfl
 ·cases a
 ·cases c
 ·obtain rfl:=kA a;rw [i.num.uniq b d]
theorem WkK.dom (h:WkK F g f B W S) (n:Int) (x:Option (List Nat))(hn:f n=fV x):domZ n:=by
 obtain⟨b,o,k,M,q,p,r,c,d,m,i,l,rfl,e⟩:=h;unfold domZ;rcases zec hn with ⟨rfl,-⟩|⟨j,T,rfl,a,-⟩
 ·omega
 ·have:=(kB.1 a).1;omega
theorem wk_step (hF:zix F)    {n:Int} {x:Option (List Nat)} {l:Nat}(hK:WkK F g f B W S)(hB:B<100000)(hn:f n=fV x)(hl:l<6) :
  j8 j5 107 (#[.int iX n,.int iX (l:Nat)]++#[kD (fV g)]) W (zfv (WkK F g) (wkD F.s F.p F.L) f B S W x l):=by
 have HF:=za hF;have HK:=za hK;obtain⟨I,nx,k,M,E,C,H,J,t,d,r,hg,rfl,rfl⟩:=hK;show j8 j5 107 #[n,.int iX (l:Nat),kD (fV g)] W _;rcases zec hn with ⟨rfl,rfl⟩|⟨j,T,rfl,hT,rfl⟩
 ·have hres:=za (show zfv (WkK F g) (wkD F.s F.p F.L) (wkF I) B (fun q=>sfS F E C H q\/q=g) W fW l (j7 (.int iX (-1))) W from
   ⟨wkF I,-1,_,rfl,SubF.refl _,by rw [wkD_none];exact zkp,(Kp.refl HK.out).more (WkK.ok HF.out g _) oM⟩)
  clear J t d r hg hF HK
  go_enter Tryz.func107,Tryz.ntmps107
  go_wp2_with fail
  go_ret;exact hres.out
 ·have HI:=za J;have HM:=za t;have HT:=za hT;have Hb:=za r;have O:=za (show ¬ sfS F E C H g from fun o=>by
   rcases o with o|o|o|o
   ·omega
   ·exact zM t.sets r dM o rfl
   ·exact zM t.next r dM o rfl
   ·exact zM t.uns r dM o rfl)
  have cb:=r.cell;have aw:¬ ((j:Int) = -1):=oM;have ai:=d.1;have aj:=d.2;clear J t hT r hn hF d
  go_enter Tryz.func107,Tryz.ntmps107
  go_upto_region 3 with (go_at_call 108;refine (sf_after HF.out HM.out HI.out HT.out hl oM).mono ?_;rintro e Z ⟨i,b,Y,k2,M2,G,D,aA,V,rfl,R,i2,U,y,X,u,z⟩)
  have v:=Hb.out.frm z.frm O.out;have aq:=v.cell;obtain⟨Au,nu,rfl⟩:=zh u.uns;obtain⟨gu,rfl,-,cu⟩:=u.bad y;have kG:=u.blk.cell;simp only [sfC] at kG;have av:i<b.length:=(kB.1 y).1;have ah:(i:Int)<(b.length:Int):=oM;have au:¬ ((i:Int) = -1):=oM;have c:Kp (WkK F g (wkF b)) (B+1) (fun q=>sfS F E C H q\/q=g) W Z (fun q=>sfS F G D (fF (fV gu) b.length nu) q\/q=g):=
   ⟨⟨b,Y,k2,M2,G,D,_,R,u,⟨oM,oM⟩,v,hg,rfl,rfl⟩,z.frm.mono (fun q _ h=>.inl h),fun q Q=>by
    rcases Q with Q|rfl
    ·rcases z.new q Q with h|h
     ·exact .inl (.inl h)
     ·exact .inr h
    ·exact .inl (.inr rfl)⟩
  have a:=wkF_sub U;have m:=wkD_lead X;cases hbad:zhk F.p V with
  |true =>
   rw [hbad] at m cu;rw [if_pos rfl] at m;have hres:=za (show zfv (WkK F g) (wkD F.s F.p F.L) (wkF I) B (fun q=>sfS F E C H q\/q=g) W (fV T) l (j7 (.int iX (-1))) Z from ⟨_,-1,_,rfl,a,by rw [m];exact zkp,c⟩);clear c a m R i2 U y X u z hbad cb;go_wp2_with fail
   go_ret;exact hres.out
  |false =>
   rw [hbad] at m cu;rw [if_neg dM] at m;have hres:=za (show zfv (WkK F g) (wkD F.s F.p F.L) (wkF I) B (fun q=>sfS F E C H q\/q=g) W (fV T) l (j7 (.int iX (i:Int))) Z from ⟨_,(i:Int),_,rfl,a,by rw [m];exact wkF_nat y,c⟩);clear c a m R i2 U y X u z hbad cb;go_wp2_with fail
   go_ret;exact hres.out
end
theorem nb_fit {α:Type} {D:α->Nat->α} {L:Nat} {x0:α} {xs:List α} {rows:List (List Int)} {acc:List Bool} (h:NbI D (letters L 6) x0 xs rows [])(hr:rows.length=xs.length)(hL:L<64)(hx:xs.length<=N)(ha:acc.length=xs.length):Fit N ⟨(L:Int),rows,acc⟩:=by
 have p:1<=xs.length:=by have:=(kB.1 h.x0).1;omega
 refine⟨by show 0<=(L:Int)/\(L:Int)<=63;omega,by show 1<=rows.length/\rows.length<=N;omega,by show acc.length=rows.length;omega,fun j row hj=>?_⟩;have a:=(kB.1 hj).1;obtain⟨x,hx⟩:∃ x,xs[j]?=fV x:=⟨_,dC (by rw [<- hr];exact a)⟩;obtain⟨r,d,f,i⟩:=h.done j x a hx;have b:rows[j]?=fV row:=hj;rw [b] at d;obtain rfl:=kA d;refine⟨f,fun q hq=>?_⟩;obtain⟨k,hk⟩:=eA hq;have c:=(kB.1 hk).1;obtain⟨l,o⟩:∃ l,(letters L 6)[k]?=fV l:=⟨_,dC (by rw [<- f];exact c)⟩;obtain⟨m,g,n⟩:=i k l o;rw [hk] at g;obtain rfl:=kA g;have:=(kB.1 n).1;show 0<=(m:Int)/\(m:Int)<rows.length;omega
structure HomA (p q:Aut) (f:Nat->Nat):Prop where
 al:q.al=p.al
 zero:f 0=0
 go:∀ i l,i<p.next.length->l<6->f (aGo p i l)=aGo q (f i) l
 acc:∀ i,i<p.next.length->zaw q (f i)=zaw p i
section
variable {p q r:Aut} {f:Nat->Nat}
theorem HomA.run (h:HomA p q f)(hp:Fit N p):∀ (n:Nat) (v:List Nat),v.length=n->(∀ l∈v,l<6)->f (zar p 0 v)=zar q 0 v:=by
 intro n
 induction n with
 |zero =>
  intro v hv _;obtain rfl:v=[]:=List.length_eq_zero_iff.1 hv;exact h.zero
 |succ n ih =>
  intro v hv hl;obtain⟨u,l,rfl⟩:∃ u l,v=u++[l]:=⟨v.dropLast,v.getLast (by intro e;rw [e] at hv;simp at hv),(List.dropLast_concat_getLast _).symm⟩;have a:∀ x∈u,x<6:=fun x hx=>hl x (by simp [hx]);have b:0<p.next.length:=oH hp.row.2.1;rw [zaO,zaO,h.go _ _ (zeW hp a b) (hl l sM),ih u (by simpa using hv) a]
theorem HomA.accF (h:HomA p q f)(hp:Fit N p) {v:List Nat}(hv:∀ l∈v,l<6):zaw p (zar p 0 v)=zaw q (zar q 0 v):=by
 have a:0<p.next.length:=oH hp.row.2.1;rw [<- h.run hp _ v rfl hv,h.acc _ (zeW hp hv a)]
end
def quoA (a:Aut) (c:Nat->Nat) (rs:List Nat):Aut:=⟨a.al,rs.map fun q=>(a.next.getD q []).map fun x=>(c x.toNat:Int),rs.map (zaw a)⟩
structure Stb (a:Aut) (c:Nat->Nat) (rs:List Nat):Prop where
 zero:c 0=0
 rep:∀ q,q<a.next.length->∃ r,rs[c q]?=fV r/\r<a.next.length/\c r=c q
 acc:∀ q r,q<a.next.length->r<a.next.length->c q=c r->zaw a q=zaw a r
 go:∀ q r k,q<a.next.length->r<a.next.length->c q=c r->c ((a.next.getD q []).getD k 0).toNat=c ((a.next.getD r []).getD k 0).toNat
theorem getD_map {α β:Type} (f:α->β) (l:List α) (k:Nat) (d:α):(l.map f).getD k (f d)=f (l.getD k d):=by
 rw [dF,dF,dP];cases l[k]?<;>rfl
section
variable {a:Aut} {c:Nat->Nat} {rs:List Nat}
theorem Stb.hom (h:Stb a c rs):HomA a (quoA a c rs) c:=by
 refine⟨rfl,h.zero,fun i l hi hl=>?_,fun i hi=>?_⟩
 ·obtain⟨r,b,d,f⟩:=h.rep i hi;unfold aGo;show (c (if a.al.toNat.testBit l=jV then _ else i))=if a.al.toNat.testBit l=jV then (((rs.map fun q=>(a.next.getD q []).map fun x=>(c x.toNat:Int)).getD (c i) []).getD (place a.al.toNat l) 0).toNat else c i
  by_cases hb:a.al.toNat.testBit l=jV
  ·rw [if_pos hb,if_pos hb];have g:(rs.map fun q=>(a.next.getD q []).map fun x=>(c x.toNat:Int)).getD (c i) []=(a.next.getD r []).map fun x=>(c x.toNat:Int):=by
    rw [dF,dP,b];rfl
   have j:((a.next.getD r []).map fun x=>(c x.toNat:Int)).getD (place a.al.toNat l) 0=(c ((a.next.getD r []).getD (place a.al.toNat l) 0).toNat:Int):=by
    have:=getD_map (fun x:Int=>(c x.toNat:Int)) (a.next.getD r []) (place a.al.toNat l) 0;simp only [Int.toNat_zero,h.zero] at this;exact this
   rw [g,j,eN];exact h.go i r _ hi d f.symm
  ·rw [if_neg hb,if_neg hb]
 ·obtain⟨r,b,d,f⟩:=h.rep i hi;show (rs.map (zaw a)).getD (c i) false=_;rw [dF,dP,b];exact h.acc r i d hi f
end
section
variable {a t:Aut} {c:Nat->Nat} {rs xs:List Nat} {N:Nat}
theorem Stb.fit (h:Stb a c rs)(ha:Fit N a)(hf:rs.length<=a.next.length)(hr:∀ r∈rs,r<a.next.length):Fit N (quoA a c rs):=by
 obtain⟨⟨g,i⟩,⟨t,p⟩,-,b⟩:=ha.row;have j:1<=rs.length:=by
  obtain⟨r,d,-⟩:=h.rep 0 oM;have:=(kB.1 d).1;omega
 unfold Fit quoA;simp only [dS];refine⟨⟨g,i⟩,⟨j,oM⟩,trivial,fun q row hrow'=>?_⟩;rw [dP] at hrow';obtain⟨r,n,rfl⟩:=kN.1 hrow';have f:=hr r (dD n);have m:a.next[r]?=fV (a.next.getD r []):=by
  rw [dF,dC f];rfl
 obtain⟨d,k⟩:=b r _ m;rw [dS];refine⟨d,fun y hy=>?_⟩;obtain⟨x,o,rfl⟩:=kE.1 hy;have s:=k x o;obtain⟨u,l,-⟩:=h.rep x.toNat oM;have:=(kB.1 l).1;omega
theorem Stb.minF (h:Stb a c rs)(ha:Fit N a)(ht:zeA (quoA a c rs) t xs) {v:List Nat}(hv:∀ l∈v,l<6):zaw t (zar t 0 v)=zaw a (zar a 0 v):=
 (ht.acc_run hv).trans (h.hom.accF ha hv).symm
end
def ctn (c:Nat->Nat):Nat->Nat
 |0=>0
 |k+1=>max (ctn c k) (c k+1)
def FO (c:Nat->Nat) (n:Nat):Prop:=∀ k,k<n->c k<=ctn c k
section
variable {c d:Nat->Nat} {n:Nat}
theorem ziU (c:Nat->Nat) :∀ {k:Nat},j<k->c j<ctn c k
 |0,h=>oM
 |k+1,h=>by
  unfold ctn
  rcases dY (eG h) with h1|rfl
  ·have:=ziU c h1
   omega
  ·omega
theorem fo_hit (h:FO c n) :∀ {k:Nat},k<=n->x<ctn c k->∃ j,j<k/\c j=x
 |0,_,hx=>by simp [ctn] at hx
 |k+1,hk,hx=>by
  unfold ctn at hx
  by_cases h1:x<ctn c k
  ·obtain⟨j,h2,h3⟩:=fo_hit h oM h1
   exact⟨j,oM,h3⟩
  ·have:=h k oM
   exact⟨k,oM,oM⟩
theorem fo_step (hc:FO c n)(hd:FO d n)(hr:∀ q r,q<n->r<n->d q=d r->c q=c r) (hk:k<n) :
  ctn c (k+1)+ctn d k<=ctn d (k+1)+ctn c k/\(d k<ctn d k->c k<ctn c k):=by
 have g:=hc k hk;have i:=hd k hk
 by_cases hlt:d k<ctn d k
 ·obtain⟨j,f,e⟩:=fo_hit hd oM hlt;have b:=hr j k oM hk e;have a:=ziU c f;rw [b] at a;refine⟨?_,fun _=>a⟩;simp only [ctn];omega
 ·refine⟨?_,fun h=>absurd h hlt⟩;simp only [ctn];omega
theorem yX18a2 {P:Prop}(h:P:=by
 intro k
 induction k with
 |zero=>intro _;exact Nat.le_refl _
 |succ k ih =>
  intro hk;have:=ih oM;have:=(fo_step hc hd hr (k:=k) oM).1;omega
 ):P:=h
theorem fo_eq (hc:FO c n)(hd:FO d n)(hr:∀ q r,q<n->r<n->d q=d r->c q=c r)(he:ctn d n=ctn c n):∀ k,k<n->d k=c k:=by
 have h:∀ k,k<=n->ctn c k<=ctn d k:=by
  exact yX18a2
 have a:∀ i k,k+i=n->ctn d k<=ctn c k:=by
  intro i
  induction i with
  |zero=>
   intro k hk;obtain rfl:k=n:=oM
   omega
  |succ i ih =>
   intro k hk;have:=ih (k+1) oM;have:=(fo_step hc hd hr (k:=k) oM).1;omega
 have b:∀ k,k<=n->ctn d k=ctn c k:=fun k hk=>Nat.le_antisymm (a (n - k) k oM) (h k hk);intro k
 induction k using Nat.strongRecOn with
 |ind k ih =>
  intro hk;have m:=hc k hk;have o:=hd k hk;have l:=b k oM;have f:=b (k+1) oM
  by_cases hlt:d k<ctn d k
  ·obtain⟨j,g,e⟩:=fo_hit hd oM hlt;have p:=hr j k oM hk e;have s:=ih j g oM;omega
  ·simp only [ctn] at f;omega
end
structure RepI (c:Nat->Nat) (k:Nat) (rs:List Nat):Prop where
 len:rs.length=ctn c k
 lt:∀ r∈rs,r<k
 rep:∀ j,j<k->∃ r,rs[c j]?=fV r/\r<k/\c r=c j
section
variable {c:Nat->Nat} {n k:Nat} {rs:List Nat}
theorem RepI.zero:RepI c 0 []:=⟨rfl,fun r h=>by simp at h,fun j h=>oM⟩
theorem RepI.skip (h:RepI c k rs)(hk:c k<rs.length)(hc:FO c n)(hkn:k<n):RepI c (k+1) rs:=by
 have g:ctn c (k+1)=ctn c k:=by
  have:=h.len;simp only [ctn];omega
 refine⟨by rw [g];exact h.len,fun r hr=>by have:=h.lt r hr;omega,fun j hj=>?_⟩;rcases dY (eG hj) with l|rfl
 ·obtain⟨r,b,d,a⟩:=h.rep j l;exact⟨r,b,oM,a⟩
 ·obtain⟨i,b,d⟩:=fo_hit hc (k:=j) oM (x:=c j) (oH h.len);obtain⟨r,a,m,f⟩:=h.rep i b;rw [d] at a f;exact⟨r,a,oM,f⟩
theorem RepI.push (h:RepI c k rs)(hk:¬ c k<rs.length)(hc:FO c n)(hkn:k<n):RepI c (k+1) (rs++[k]):=by
 have g:=hc k hkn;have i:=h.len;have b:c k=rs.length:=oM;refine⟨?_,fun r hr=>?_,fun j hj=>?_⟩
 ·rw [dN,dV];simp only [ctn];omega
 ·rcases List.mem_append.1 hr with hr|hr
  ·have:=h.lt r hr;omega
  ·obtain rfl:r=k:=by simpa using hr
   omega
 ·rcases dY (eG hj) with d|rfl
  ·obtain⟨r,a,l,f⟩:=h.rep j d;exact⟨r,by rw [dJ (kB.1 a).1];exact a,oM,f⟩
  ·exact⟨j,by rw [b,dU (dE _)];simp,oM,rfl⟩
theorem ziT (hc:FO c n):∀ {k:Nat},k<=n->ctn c k<=k
 |0,_=>dE _
 |k+1,h=>by
  have h1:=ziT hc (k:=k) oM
  have h2:=hc k oM
  simp only [ctn]
  omega
theorem RepI.few (h:RepI c n rs)(hc:FO c n):rs.length<=n:=by rw [h.len];exact ziT hc (dE _)
theorem stb_of (hn:n=a.next.length)(h0:0<n)(hc:FO c n)(hr:RepI c n rs) (zks:∀ q r,q<n->r<n->c q=c r->zaw a q=zaw a r)
  (hrow:∀ q r,q<n->r<n->c q=c r->(a.next.getD q []).map (fun x=>c x.toNat)=(a.next.getD r []).map (fun x=>c x.toNat)):Stb a c rs:=by
 subst hn;have f:c 0=0:=by
  have:=hc 0 h0;simpa [ctn] using this
 refine⟨f,hr.rep,zks,fun q r k hq hr' e=>?_⟩;have b:=getD_map (fun x:Int=>c x.toNat) (a.next.getD q []) k 0;have d:=getD_map (fun x:Int=>c x.toNat) (a.next.getD r []) k 0;rw [<- b,<- d,hrow q r hq hr' e]
end
def keyL (f:Nat->List UInt8) (x:Nat) (r:List Nat):List UInt8:=f x++r.flatMap fun y=>44 :: f y
section
variable {f:Nat->List UInt8} {B:Nat}
theorem keyL_snoc (x:Nat) (r:List Nat) (y:Nat):keyL f x (r++[y])=keyL f x r++(44 :: f y):=by
 unfold keyL;rw [List.flatMap_append,iD];simp
theorem zim:∀ {u v s t:List UInt8},44∉u->44∉v->(s=[]\/∃ s',s=44 :: s')->(t=[]\/∃ t',t=44 :: t')->u++s=v++t->u=v/\s=t
 |[],[],_,_,_,_,_,_,h=>⟨rfl,h⟩
 |[],b :: v,s,t,_,hv,hs,_,h=>by
  exfalso
  rcases hs with rfl|⟨s',rfl⟩
  ·simp at h
  ·simp only [eJ,iB,List.cons.injEq] at h
   exact hv (by simp [h.1])
 |a :: u,[],s,t,hu,_,_,ht,h=>by
  exfalso
  rcases ht with rfl|⟨t',rfl⟩
  ·simp at h
  ·simp only [eJ,iB,List.cons.injEq] at h
   exact hu (by simp [h.1])
 |a :: u,b :: v,s,t,hu,hv,hs,ht,h=>by
  simp only [iB,List.cons.injEq] at h
  obtain⟨rfl,h⟩:=h
  obtain⟨h1,h2⟩:=zim (fun h=>hu (by simp [h])) (fun h=>hv (by simp [h])) hs ht h
  exact⟨by rw [h1],h2⟩
theorem tail_form (r:List Nat):(r.flatMap fun y=>44 :: f y)=[]\/∃ s',(r.flatMap fun y=>44 :: f y)=44 :: s':=by
 cases r with
 |nil=>exact .inl rfl
 |cons y r=>exact .inr ⟨f y++r.flatMap fun y=>44 :: f y,sM⟩
theorem keyL_inj (hf:∀ x,x<B->44∉f x)(hi:∀ x y,x<B->y<B->f x=f y->x=y):∀ {r t:List Nat} {x y:Nat},x<B->y<B->(∀ z∈r,z<B)->(∀ z∈t,z<B)->keyL f x r=keyL f y t->x=y/\r=t
 |r,t,x,y,hx,hy,hr,ht,h=>by
  unfold keyL at h
  obtain⟨h1,h2⟩:=zim (hf x hx) (hf y hy) (tail_form r) (tail_form t) h
  refine⟨hi x y hx hy h1,?_⟩
  cases r with
  |nil=>cases t with
   |nil=>rfl
   |cons b t=>simp at h2
  |cons a r=>cases t with
   |nil=>simp at h2
   |cons b t =>
    rw [iU,iU,iB,iB,List.cons.injEq] at h2
    obtain⟨h3,h4⟩:=keyL_inj hf hi (r:=r) (t:=t) (hr a sM) (ht b sM) (fun z hz=>hr z (by simp [hz])) (fun z hz=>ht z (by simp [hz])) h2.2
    rw [h3,h4]
termination_by r=>r.length
end
theorem dig_comma (h:x<100):(44:UInt8)∉Lib.decDigits x:=by
 intro hm
 by_cases h1:x<10
 ·rw [Lib.decDigits_one h1] at hm;have:=congrArg UInt8.toNat (List.mem_singleton.1 hm);simp at this;omega
 ·rw [Lib.decDigits_two h1 h] at hm;rcases List.mem_cons.1 hm with e|e
  ·have:=congrArg UInt8.toNat e;simp at this;omega
  ·have:=congrArg UInt8.toNat (List.mem_singleton.1 e);simp at this;omega
theorem dig_inj (hx:x<100)(hy:y<100)(h:Lib.decDigits x=Lib.decDigits y):x=y:=by
 by_cases h1:x<10<;>by_cases h2:y<10
 ·rw [Lib.decDigits_one h1,Lib.decDigits_one h2] at h;have:=congrArg UInt8.toNat (List.cons.inj h).1;simp at this;omega
 ·rw [Lib.decDigits_one h1,Lib.decDigits_two h2 hy] at h;have:=congrArg List.length h;simp at this
 ·rw [Lib.decDigits_two h1 hx,Lib.decDigits_one h2] at h;have:=congrArg List.length h;simp at this
 ·rw [Lib.decDigits_two h1 hx,Lib.decDigits_two h2 hy] at h;have a:=congrArg UInt8.toNat (List.cons.inj h).1;have b:=congrArg UInt8.toNat (List.cons.inj (List.cons.inj h).2).1;simp at a b;omega
theorem dig_len (h:x<100):(Lib.decDigits x).length<=2:=by
 by_cases h1:x<10
 ·rw [Lib.decDigits_one h1];simp
 ·rw [Lib.decDigits_two h1 h];simp
def rowC (c:Nat->Nat) (r:List Int):List Nat:=r.map fun x=>c x.toNat
def kyB (c:Nat->Nat) (x:Nat) (r:List Int):ByteArray:=⟨(keyL Lib.decDigits x (rowC c r)).toArray⟩
theorem kyB_inj {c:Nat->Nat}(hc:∀ q,c q<100) (hx:x<100)(hy:y<100) {t:List Int}(h:kyB c x r=kyB c y t):x=y/\rowC c r=rowC c t:=by
 unfold kyB at h;have a:=congrArg (fun z:ByteArray=>z.data.toList) h;simp only at a;refine keyL_inj (B:=100) (fun x hx=>dig_comma hx) (fun x y hx hy=>dig_inj hx hy) hx hy (fun z hz=>?_) (fun z hz=>?_) a
 ·obtain⟨q,-,rfl⟩:=kE.1 hz;exact hc _
 ·obtain⟨q,-,rfl⟩:=kE.1 hz;exact hc _
theorem keyL_size {c:Nat->Nat}(hc:∀ q,c q<100) (hx:x<100) (r:List Int):(keyL Lib.decDigits x (rowC c r)).length<=2+3*r.length:=by
 unfold keyL rowC;rw [dN,List.length_flatMap];have b:=dig_len hx;have a:∀ l:List Int,((l.map fun x=>c x.toNat).map fun y=>((44:UInt8) :: Lib.decDigits y).length).sum<=3*l.length:=by
  intro l
  induction l with
  |nil=>simp
  |cons z l ih =>
   have d:=dig_len (hc z.toNat);simp only [List.map_cons,List.sum_cons,List.length_cons] at ih ⊢;omega
 have:=a r;omega
theorem kyB_size {c:Nat->Nat}(hc:∀ q,c q<100) (hx:x<100) (r:List Int):(kyB c x r).size<=2+3*r.length:=by
 have:=keyL_size hc hx r;show (kyB c x r).data.size<=_;unfold kyB;simpa using this
theorem zhG {c d:Nat->Nat}:∀ {k:Nat},(∀ j,j<k->c j=d j)->ctn c k=ctn d k
 |0,_=>rfl
 |k+1,h=>by
  simp only [ctn]
  rw [zhG (k:=k) (fun j hj=>h j oM),h k oM]
def fnL (ds:List Nat) (j:Nat):Nat:=ds.getD j 0
theorem zjG (h:j<ds.length):fnL (ds++[v]) j=fnL ds j:=by
 unfold fnL;rw [dF,dF,dJ h]
theorem fnL_end :fnL (ds++[v]) ds.length=v:=by
 unfold fnL;rw [dF,dU (dE _)];simp
theorem ziX (h:j<ds.length):ds[j]?=fV (fnL ds j):=by
 unfold fnL;rw [dF,dC h];rfl
structure ziB (ky:Nat->ByteArray) (ds:List Nat) (nm:Nat) (M:ByteArray->Option Nat):Prop where
 some_:∀ z v,M z=fV v->∃ j,j<ds.length/\ky j=z
 at_:∀ j v,ds[j]?=fV v->M (ky j)=fV v
 inj:∀ z z' v,M z=fV v->M z'=fV v->z=z'
 ct:ctn (fnL ds) ds.length=nm
 fo:FO (fnL ds) ds.length
section
variable {ky:Nat->ByteArray} {ds:List Nat} {nm:Nat} {M:ByteArray->Option Nat}
theorem ziB.zero:ziB ky [] 0 (fun _=>fW):=
 ⟨fun _ _ h=>(by cases h),fun _ _ h=>(by simp at h),fun _ _ _ h=>(by cases h),rfl,fun _ hk=>(by simp at hk)⟩
theorem ziB.lt (h:ziB ky ds nm M) {z:ByteArray} (hz:M z=fV v):v<nm:=by
 obtain⟨j,b,rfl⟩:=h.some_ z v hz;have a:=h.at_ j _ (ziX b);rw [hz] at a;rw [kA a,<- h.ct];exact ziU _ b
theorem ziB.ctn_step (h:ziB ky ds nm M) (v:Nat):ctn (fnL (ds++[v])) (ds++[v]).length=max nm (v+1):=by
 rw [dN,dV];simp only [ctn];rw [fnL_end,zhG (d:=fnL ds) (fun j hj=>zjG hj),h.ct]
theorem ziB.fo_step (h:ziB ky ds nm M) (hv:v<=nm):FO (fnL (ds++[v])) (ds++[v]).length:=by
 intro k hk;rw [dN,dV] at hk;rw [zhG (d:=fnL ds) (fun j hj=>zjG oM)];rcases dY (eG hk) with a|rfl
 ·rw [zjG a];exact h.fo k a
 ·rw [fnL_end,h.ct];exact hv
theorem ziB.hit (h:ziB ky ds nm M) (hv:M (ky ds.length)=fV v):ziB ky (ds++[v]) nm M:=by
 have d:=h.lt hv;refine⟨fun z u hz=>?_,fun j u a=>?_,h.inj,by rw [h.ctn_step];omega,h.fo_step oM⟩
 ·obtain⟨j,a,e⟩:=h.some_ z u hz;exact⟨j,by simp;omega,e⟩
 ·have b:=(kB.1 a).1;rw [dN,dV] at b;rcases dY (eG b) with c|rfl
  ·rw [dJ c] at a;exact h.at_ j u a
  ·rw [dU (dE _)] at a;simp at a;rw [hv,a]
theorem ziB.miss (h:ziB ky ds nm M)(hv:M (ky ds.length)=fW):ziB ky (ds++[nm]) (nm+1) (ziA M (ky ds.length) nm):=by
 refine⟨fun z u hz=>?_,fun j u c=>?_,fun z z' u b a=>?_,by rw [h.ctn_step];omega,h.fo_step (dE _)⟩
 ·by_cases e:z=ky ds.length
  ·exact⟨ds.length,sM,e.symm⟩
  ·rw [zdn M _ e] at hz;obtain⟨j,c,f⟩:=h.some_ z u hz;exact⟨j,by simp;omega,f⟩
 ·have d:=(kB.1 c).1;rw [dN,dV] at d;rcases dY (eG d) with b|rfl
  ·rw [dJ b] at c;have a:=h.at_ j u c;have e:ky j≠ky ds.length:=fun e=>by rw [e,hv] at a;cases a
   rw [zdn M _ e,a]
  ·rw [dU (dE _)] at c;simp at c;rw [zcL,c]
 ·by_cases e:z=ky ds.length<;>by_cases e':z'=ky ds.length
  ·rw [e,e']
  ·rw [e,zcL] at b;rw [zdn M _ e'] at a;have:=h.lt a;have:=kA b;omega
  ·rw [e',zcL] at a;rw [zdn M _ e] at b;have:=h.lt b;have:=kA a;omega
  ·rw [zdn M _ e] at b;rw [zdn M _ e'] at a;exact h.inj z z' u b a
theorem ziB.same (h:ziB ky ds nm M) {r:Nat}(hq:q<ds.length)(hr:r<ds.length) (e:fnL ds q=fnL ds r):ky q=ky r:=by
 have a:=h.at_ q _ (ziX hq);have b:=h.at_ r _ (ziX hr);rw [e] at a;exact h.inj _ _ _ a b
end
structure ClsI (a:Aut) (cs:List Nat) (K:Nat):Prop where
 len:cs.length=a.next.length
 lt:∀ q,fnL cs q<100
 acc:∀ q r,q<a.next.length->r<a.next.length->fnL cs q=fnL cs r->zaw a q=zaw a r
 fo:K≠0->FO (fnL cs) cs.length/\ctn (fnL cs) cs.length=K
structure ClsR (a:Aut) (cs:List Nat):Prop where
 len:cs.length=a.next.length
 fo:FO (fnL cs) a.next.length
 acc:∀ q r,q<a.next.length->r<a.next.length->fnL cs q=fnL cs r->zaw a q=zaw a r
 row:∀ q r,q<a.next.length->r<a.next.length->fnL cs q=fnL cs r->(a.next.getD q []).map (fun x=>fnL cs x.toNat)=(a.next.getD r []).map (fun x=>fnL cs x.toNat)
section
variable {a:Aut} {cs ds:List Nat} {K nm N:Nat} {M:ByteArray->Option Nat}
theorem fo_le {c d:Nat->Nat} (hc:FO c n)(hd:FO d n)(hr:∀ q r,q<n->r<n->d q=d r->c q=c r):∀ k,k<=n->ctn c k<=ctn d k:=by
 exact yX18a2
theorem fo_small {c:Nat->Nat} (h:FO c n) (hq:q<n):c q<n:=by
 have a:=ziU c hq;have b:=ziT h (dE n);omega
abbrev kyR (a:Aut) (cs:List Nat) (q:Nat):ByteArray:=kyB (fnL cs) (fnL cs q) (a.next.getD q [])
theorem ClsI.keys (h:ClsI a cs K)(hn:ziB (kyR a cs) ds nm M)(hl:ds.length=a.next.length) {r:Nat}(hq:q<a.next.length)(hr:r<a.next.length) (e:fnL ds q=fnL ds r) :
  fnL cs q=fnL cs r/\rowC (fnL cs) (a.next.getD q [])=rowC (fnL cs) (a.next.getD r []):=
 kyB_inj h.lt (h.lt q) (h.lt r) (hn.same oM oM e)
theorem ClsI.step (h:ClsI a cs K)(hn:ziB (kyR a cs) ds nm M)(hl:ds.length=a.next.length)(h0:1<=a.next.length)(hN:a.next.length<=99):ClsI a ds nm/\(nm≠K->K<nm)/\nm<=a.next.length:=by
 have b:FO (fnL ds) a.next.length:=by rw [<- hl];exact hn.fo
 have c:ctn (fnL ds) a.next.length=nm:=by rw [<- hl];exact hn.ct
 refine⟨⟨hl,fun q=>?_,fun q r hq hr e=>h.acc q r hq hr (h.keys hn hl hq hr e).1,fun _=>⟨hn.fo,hn.ct⟩⟩,fun hne=>?_,?_⟩
 ·by_cases hq:q<a.next.length
  ·have:=fo_small b hq;omega
  ·unfold fnL;rw [dF,dW oM];decide
 ·by_cases hK:K=0
  ·have:=ziU (fnL ds) (j:=0) (k:=a.next.length) oM;omega
  ·obtain⟨d,f⟩:=h.fo hK;rw [h.len] at d f;have:=fo_le d b (fun q r hq hr e=>(h.keys hn hl hq hr e).1) a.next.length (dE _);omega
 ·rw [<- c];exact ziT b (dE _)
theorem ClsI.stop (h:ClsI a cs K)(hn:ziB (kyR a cs) ds K M)(hl:ds.length=a.next.length)(ha:Fit N a):ClsR a ds:=by
 have c:FO (fnL ds) a.next.length:=by rw [<- hl];exact hn.fo
 have d:ctn (fnL ds) a.next.length=K:=by rw [<- hl];exact hn.ct
 have l:=ha.row.2.1.1;have hK:K≠0:=by
  have:=ziU (fnL ds) (j:=0) (k:=a.next.length) oM;omega
 obtain⟨g,i⟩:=h.fo hK;rw [h.len] at g i;have f:=fo_eq g c (fun q r hq hr e=>(h.keys hn hl hq hr e).1) (by rw [d,i]);have b:∀ q,q<a.next.length->(a.next.getD q []).map (fun x=>fnL ds x.toNat)=rowC (fnL cs) (a.next.getD q []):=fun q hq=>by
  unfold rowC;refine List.map_congr_left fun x hx=>?_;have m:=(ha.row.2.2.2 q _ (by rw [dF,dC hq];rfl)).2 x hx;exact f _ oM
 exact⟨hl,c,fun q r hq hr e=>h.acc q r hq hr (h.keys hn hl hq hr e).1,fun q r hq hr e=>by rw [b q hq,b r hr];exact (h.keys hn hl hq hr e).2⟩
theorem ClsI.zero (h:cs.length=a.next.length)(hc:∀ q,q<a.next.length->fnL cs q=if zaw a q=jV then 1 else 0):ClsI a cs 0:=by
 refine⟨h,fun q=>?_,fun q r hq hr e=>?_,fun h=>absurd rfl h⟩
 ·by_cases hq:q<a.next.length
  ·rw [hc q hq]
   split<;>decide
  ·unfold fnL;rw [dF,dW oM];decide
 ·rw [hc q hq,hc r hr] at e;cases h1:zaw a q<;>cases h2:zaw a r<;>simp_all
theorem ClsR.stb {rs:List Nat}(h:ClsR a cs)(ha:Fit N a)(hr:RepI (fnL cs) a.next.length rs):Stb a (fnL cs) rs:=
 stb_of rfl (oH ha.row.2.1.1) h.fo hr h.acc h.row
end
section
open Go.Maps
section
variable {α:Type} {mt kt:TypeId} {val:α->j6} {lit:α->Lit} {dom:α->Prop}
def MapN (kt:TypeId) (lit:α->Lit) (dom:α->Prop) (w:j2) (b n:Nat) (M:α->Option Nat):Prop:=
 ∃ D:DataW Unit,w.ownsMap j5 kt (plainElem j5 3) b n D/\Maps.size D=n/\∀ x,dom x->Maps.has D (lit x)=(M x).isSome/\∀ v,M x=fV v->D.atKey (lit x) (.lit (.int iX 0))=.lit (.int iX (v:Int))
section
variable {w w':j2} {b n:Nat} {M:α->Option Nat}
theorem MapN.g (h:MapN kt lit dom w b n M):zdJ kt lit dom w b n M:=by
 obtain⟨D,a,-,c⟩:=h;exact⟨D,a,c⟩
theorem MapN.made (w:j2):MapN kt lit dom (w.alloc (.map #[] 0)) w.heap.size 0 (fun _=>fW):=
 ⟨.map [],World.ownsMap_made _ _ _ _,rfl,fun x hx=>⟨rfl,fun v hv=>by cases hv⟩⟩
theorem MapN.frm (h:MapN kt lit dom w b n M)(hf:Frm S w w')(hS:¬ S b):MapN kt lit dom w' b n M:=by
 obtain⟨D,⟨d,a,c,r⟩,f,g⟩:=h;exact⟨D,⟨d,a,(hf.block b (Array.getElem?_eq_some_iff.1 c).1 hS).trans c,r⟩,f,g⟩
theorem MapN.ext (h:MapN kt lit dom w b n M)(hx:Ext w w'):MapN kt lit dom w' b n M:=h.frm hx id
end
variable (w:j2) {ops:Array Oper} {rest:List Oper} {o:Oper} {a:Act} {Q:Exit->Act->j2->Prop}
theorem ziN (K:KeyG mt kt val lit dom)(hg:o.guard=fW) (m x v:Operand)(hop:o.op=Op.mapUpdate mt m x v)  {M:α->Option Nat}
  (hm:a.eval m=.map (fV b)) (h:MapN kt lit dom w b n M) (hn:n<1152921504606846976) (key:α) (v9:Nat) (hx:a.eval x=val key) (hv:a.eval v=.int iX (v9:Int)) (hk:dom key) (hv9:v9<1152921504606846976) (hnew:M key=fW)
  (hK:∀ w',MapN kt lit dom w' b (n+1) (ziA M key v9)->w.grownBy w' (fV b)->wpList j5 ops Q rest (a.put o.dst undef) w'):wpList j5 ops Q (o :: rest) a w:=by
 refine wpList_plain hg fun K' hK'=>?_;obtain⟨D,d,l,k⟩:=h;have c:=K.key hk;obtain⟨w',i,p,q⟩:=d.update K.keyed K.und lM c (plainElem_int (H:=Unit) Tryz.underlying3 (wfG hv9));have j:Maps.size (D.put (lit key) (.lit (.int iX (v9:Int))))=n+1:=by
  rw [size_put (d.tidy K.keyed),(k key hk).1,hnew];simp [l]
 have f:MapN kt lit dom w' b (n+1) (ziA M key v9):=⟨_,p,j,fun y hy=>by
  unfold ziA
  by_cases e:y=key
  ·subst e;rw [if_pos rfl];exact⟨has_put_same d.isMap (K.keyed.key c) _,fun u hu=>by rw [atKey_put_same d.isMap (K.keyed.key c)];cases hu;rfl⟩
  ·have g:lit y≠lit key:=fun h=>e (K.inj hy hk h);rw [if_neg e,has_put_other g,atKey_put_other g];exact k y hy⟩
 unfold Oper.wp;simp [execOp,hop,hm,hx,hv,i,Result.andThen];exact hK' _ _ (hK w' f q)
theorem zdH (K:KeyG mt kt val lit dom)(hg:o.guard=fW) (m:Operand)(hop:o.op=Op.call { callee:=Callee.builtin Builtin.len,args:=#[m],argTypes:=#[mt] })  {M:α->Option Nat}
  (hm:a.eval m=.map (fV b)) (h:MapN kt lit dom w b n M) (hK:wpList j5 ops Q rest (a.put o.dst (.int iX (n:Int))) w):wpList j5 ops Q (o :: rest) a w:=by
 obtain⟨D,c,d,-⟩:=h;refine wpList_len_own w hg m mt hop kt 3 K.und _ b n D hm c ?_;rw [d];exact hK
end
end
section
open Go.Lib
theorem itoa_small (i:Nat)(h:i<100) (w:j2) :
  j8 j5 303 #[i] w fun e w'=>e=j7 (.string ⟨(Lib.decDigits i).toArray⟩)/\w=w':=by
 go_enter Tryz.func303,Tryz.ntmps303
 go_name_bytes_deep 45 SM hSM
 have b:SM=Lib.smalls:=by rw [<- hSM];decide +kernel
 subst b;clear hSM
 go_name_bytes_deep 30 DG hDG
 have a:DG=Lib.digits36:=by rw [<- hDG];decide +kernel
 subst a;clear hDG
 by_cases h10:i<10
 ·have c:∀ w,(Instr.slice 9 (.string Lib.digits36) (fV (.int iX (i:Int))) (fV (.int iX ((i:Int)+1))) fW).run j5 w=.ok (.string (Lib.digits36.extract i (i+1))) w:=fun w=>by
   rw [run_slice_string w 9 Lib.digits36 iX iX _ _ Tryz.underlying9 oM oM (by rw [Lib.digits36_size];omega),show ((i:Int)).toNat=i by omega,show ((i:Int)+1).toNat=i+1 by omega]
  go_wp2;go_ret;refine⟨?_,rfl⟩;show j7 (kC (Lib.digits36.extract i (i+1)))=_;rw [AnyPlain.small_ba (Lib.digits36.extract i (i+1)) (Lib.decDigits i) (by rw [Lib.extract_data];exact Lib.digits36_piece h10)]
 ·have c:∀ w,(Instr.slice 9 (.string Lib.smalls) (fV (.int iX ((i:Int)*2))) (fV (.int iX ((i:Int)*2+2))) fW).run j5 w=.ok (.string (Lib.smalls.extract (i*2) (i*2+2))) w:=fun w=>by
   rw [run_slice_string w 9 Lib.smalls iX iX _ _ Tryz.underlying9 oM oM (by rw [Lib.smalls_size];omega),show ((i:Int)*2).toNat=i*2 by omega,show ((i:Int)*2+2).toNat=i*2+2 by omega]
  go_wp2;go_ret;refine⟨?_,rfl⟩;show j7 (kC (Lib.smalls.extract (i*2) (i*2+2)))=_;rw [AnyPlain.small_ba (Lib.smalls.extract (i*2) (i*2+2)) (Lib.decDigits i) (by rw [Lib.extract_data];exact Lib.smalls_piece h10 h)]
theorem itoa_format (i:Nat)(h:i<100) (w:j2) :
  j8 j5 302 #[i,(10:Int)] w fun e w'=>e=j7 (.string ⟨(Lib.decDigits i).toArray⟩)/\w=w':=by
 have a:=za (itoa_small i h);have b:(0:Int)<=(i:Int)/\(i:Int)<100:=oM
 go_enter Tryz.func302,Tryz.ntmps302
 go_wp2_with (go_at_call 303;refine (a.out _).mono ?_;rintro e c ⟨rfl,rfl⟩)
 go_ret;exact⟨rfl,rfl⟩
theorem itoa_in (i:Nat)(h:i<100) (w:j2) :
  j8 j5 296 #[i] w fun e w'=>e=j7 (.string ⟨(Lib.decDigits i).toArray⟩)/\w=w':=by
 go_enter Tryz.func296,Tryz.ntmps296
 go_wp2_with (go_at_call 302;refine (itoa_format i h _).mono ?_;rintro e a ⟨rfl,rfl⟩)
 go_ret;exact⟨rfl,rfl⟩
theorem lib_Itoa (i:Nat)(h:i<100) (w:j2) :
  j8 j5 267 #[i] w fun e w'=>e=j7 (.string ⟨(Lib.decDigits i).toArray⟩)/\w=w':=by
 go_enter Tryz.func267,Tryz.ntmps267
 go_wp2_with (go_at_call 296;refine (itoa_in i h _).mono ?_;rintro e a ⟨rfl,rfl⟩)
 go_ret;exact⟨rfl,rfl⟩
end
abbrev domC (x:ByteArray):Prop:=x.size<=9223372036854775807
abbrev MapC (w:j2) (b n:Nat) (M:ByteArray->Option Nat):Prop:=MapN 9 (fun x:ByteArray=>Lit.string x.data.toList) domC w b n M
theorem made_z (n:Nat):(madeCells (Value.int iX 0).cells (n*1)).toList=zah (dT n 0):=by
 simp [Value.cells,toList_madeCells_one,zah]
theorem kyB_snoc {c:Nat->Nat}  (hr:r[j]?=fV (y:Int))(hv:c y=v):kyB c x (r.take (j+1))=kyB c x (r.take j)++((⟨#[44]⟩:ByteArray)++(⟨(Lib.decDigits v).toArray⟩:ByteArray)):=by
 have h:rowC c (r.take (j+1))=rowC c (r.take j)++[v]:=by
  unfold rowC;rw [dO,hr,Option.toList_some,eI,List.map_singleton,eN,hv]
 unfold kyB;rw [h,keyL_snoc];refine ByteArray.ext ?_;simp
theorem kyB_zero (c:Nat->Nat) (x:Nat) (r:List Int):kyB c x (r.take 0)=(⟨(Lib.decDigits x).toArray⟩:ByteArray):=by
 simp [kyB,keyL,rowC]
theorem fill_z (hk:ds.length=k)(hm:k<m):(zah (ds++dT (m - k) 0)).set k (.int iX (v:Nat))=zah ((ds++[v])++dT (m - (k+1)) 0):=by
 rw [<- zeU,List.set_append_right _ _ oM,hk,Nat.sub_self,show m - k=(m - (k+1))+1 by omega,List.replicate_succ,List.set_cons_zero,iD];rfl
theorem fnL_set {cs:List Nat}  (v:Nat)(hq:q<cs.length):fnL (cs.set q v) j=if j=q then v else fnL cs j:=by
 unfold fnL;rw [dF,dF,List.getElem?_set]
 by_cases e:q=j
 ·subst e;rw [if_pos rfl,if_pos hq,if_pos rfl];rfl
 ·rw [if_neg e,if_neg (fun h=>e h.symm)]
def RetClz (w:j2) (a:Aut) (e:Ending) (w':j2):Prop:=
 ∃ (ds:List Nat) (g:Nat),e=j7 (fF (fV g) a.next.length a.next.length)/\w'.ownsRow w.heap.size 3 1 (fF (fV g) a.next.length a.next.length) a.next.length (zah ds)/\ClsR a ds/\Ext w w'
theorem ziE {B:Option Addr}     (h:zK w lo hi B m B' m' a)(hv:Fit N a)(hN:N<=99) :
  j8 j5 192 #[.agg #[a.al,fF B m d,fF B' m' d']] w (RetClz w a):=by
 obtain⟨-,⟨n1,bn⟩,au,aj⟩:=hv.row;have S:=za h.n1;have aR:=za (show m'=m by rw [h.n1,h.n2,au]);have HN:=za (fun W (hW:Ext w W)=>h.1.ext hW);have HB:=za (fun W (hW:Ext w W)=>h.2.2.ext hW);have aS:=za aj;have Hv:=za hv;have bx:m<=99:=by rw [h.n1];omega
 have bN:1<=m:=by rw [h.n1];omega
 have h6:=zA a.al.toNat 6;have bO:=@run_makeMap j5;clear aj h n1 bn hv hN au
 go_enter Tryz.func192,Tryz.ntmps192
 go_upto_region 1 with fail
 generalize U0:w.alloc _=R at *;obtain⟨ar,V⟩:=Ext.x1_ U0;clear U0;have c1:=V.cell;go_upto_region 2 with (at_make;refine zbi R R rfl _ _ 110 rfl 3 _ 1 8 Tryz.underlying110 zR _ _ m rfl rfl (cY _) oM lM ?_;intro w2 hx12 zkB hx2 hsz2)
 rw [made_z] at zkB;clear c1 hx2 hsz2;have c1:=(V.ext hx12).cell;obtain⟨G,hG⟩:∃ G,Hid (G=R.heap.size):=⟨_,rfl⟩;have aV:R.heap.size<=G:=oH hG.out;have ai:w2.ownsRow G 3 1 (fF (fV ⟨G,0,fW⟩) m m) m (zah (dT m 0)):=by rw [hG.out];exact zkB
 rw [<- hG.out];clear zkB;go_wp2_with fail
 go_loopw [4,21] (fun _ i wr=>∃ (q:Nat) (cs:List Nat),i=.int iX q/\q<=m/\Hid (cs.length=m/\∀ j,j<m->fnL cs j=if j<q/\zaw a j=jV then 1 else 0)/\wr.ownsRow G 3 1 (fF (fV G) m m) m (zah cs)/\Ext R wr) (fun _ i _=>m - (intOf i).toNat)
 case atStart=>exact⟨0,_,rfl,dH _,za ⟨sM,fun j Y=>by rw [if_neg oM];unfold fnL;rw [dF,List.getElem?_replicate,if_pos Y];rfl⟩,ai,hx12⟩
 case round =>
  clear ai hx12 c1;obtain⟨q,cs,rfl,hq,f,c,hx⟩:=hrel;have c1:=(V.ext hx).cell
  by_cases hlt:q<m
  ·have a3:(q:Int)<(m:Int):=oM;have bw:(q:Int)<(m':Int):=oH aR.out;obtain⟨ad,bb,rfl,-,-,hb,cb⟩:=(HB.out wr (ar.trans hx)).bool (k:=q) (oH aR.out);have aX:=za (show zaw a q=bb by unfold zaw;rw [dF,hb.out];rfl);obtain⟨o0,g0⟩:=zaF c q oM;have f0:=c.frozenAt q;cases bb with
   |true =>
    have a7:=(c.stored q (.int iX (1:Nat))).1;rw [<- zeU] at a7;have ag:=za (show (cs.set q 1).length=m/\∀ j,j<m->fnL (cs.set q 1) j=if j<q+1/\zaw a j=jV then 1 else 0 from ⟨by rw [List.length_set];exact f.out.1,fun j Y=>by
     rw [fnL_set 1 (oH f.out.1),f.out.2 j Y]
     by_cases e:j=q
     ·subst e;rw [if_pos rfl,if_pos ⟨oM,aX.out⟩]
     ·rw [if_neg e]
      by_cases e2:j<q/\zaw a j=jV
      ·rw [if_pos e2,if_pos ⟨oM,e2.2⟩]
      ·rw [if_neg e2,if_neg (fun h=>e2 ⟨oM,h.2⟩)]⟩)
    have bk:Ext R (wr.setCell ⟨G,q,fW⟩ (.int iX (1:Nat))):=hx.setCell (p:=⟨G,q,fW⟩) aV _;clear c hx hb;go_wp2_with fail
    go_roundw
    case rel=>exact⟨q+1,_,gM,oM,ag,a7,bk⟩
    case measure=>exact uM
   |false =>
    have ag:=za (show cs.length=m/\∀ j,j<m->fnL cs j=if j<q+1/\zaw a j=jV then 1 else 0 from ⟨f.out.1,fun j Y=>by
     rw [f.out.2 j Y]
     by_cases e:j=q
     ·subst e;rw [if_neg (fun h=>oM),if_neg (fun h=>by have:=aX.out;rw [h.2] at this;cases this)]
     ·by_cases e2:j<q/\zaw a j=jV
      ·rw [if_pos e2,if_pos ⟨oM,e2.2⟩]
      ·rw [if_neg e2,if_neg (fun h=>e2 ⟨oM,h.2⟩)]⟩)
    clear hb;go_wp2_with fail
    go_roundw
    case rel=>exact⟨q+1,_,gM,oM,ag,c,hx⟩
    case measure=>exact uM
  ·obtain rfl:m=q:=oM;have aW:=za (ClsI.zero (a:=a) (cs:=cs) (by rw [f.out.1,S.out]) (fun j Y=>by
    rw [f.out.2 j (by rw [S.out];exact Y)]
    by_cases e:zaw a j=jV
    ·rw [if_pos ⟨by rw [S.out];exact Y,e⟩,if_pos e]
    ·rw [if_neg (fun h=>e h.2),if_neg e]))
   have ah:=za (zn c aV);have a8:=za hx;clear c hx c1 f;go_wp2_with fail
   go_loopw [3,5,6,7,8,9,10,12,13,14] (fun v3 v5 _ _ _ _ _ _ _ _ wr=>∃ (g:Nat) (cs:List Nat) (K:Nat),v3=fF (fV g) m m/\v5=.int iX K/\K<=m/\Hid (ClsI a cs K)/\Hid (wr.ownsRow R.heap.size 3 1 (fF (fV g) m m) m (zah cs))/\Hid (Ext R wr)) (fun _ v5 _ _ _ _ _ _ _ _ _=>m+1 - (intOf v5).toNat)
   case atStart=>exact⟨G,cs,0,rfl,rfl,dH _,aW,ah,a8⟩
   case round =>
    clear aW ah a8;obtain⟨g,cs,K,rfl,rfl,hK,hI,c,hx⟩:=hrel;obtain⟨Q,aN⟩:∃ Q,Q=wr:=⟨_,rfl⟩;subst aN;have ao:Ext Q (Q.alloc (.map #[] 0)):=(cY _).alloc _;have af:MapC (Q.alloc (.map #[] 0)) Q.heap.size 0 (fun _=>fW):=MapN.made Q;go_upto_region 10 with fail
    obtain⟨mb,a4⟩:∃ mb,Hid (mb=Q.heap.size):=⟨_,rfl⟩;rw [<- a4.out] at af ⊢;have bz:R.heap.size<=mb:=by have:=a4.out;have:=hx.out.size;omega
    generalize Q.alloc (.map #[] 0)=w4 at *;go_upto_region 11 with (at_make;refine zbi w4 w4 rfl _ _ 110 rfl 3 _ 1 8 Tryz.underlying110 zR _ _ m rfl rfl (cY _) oM lM ?_;intro w5 hx45 zkD hx5 hsz5)
    rw [made_z] at zkD;clear hx5;obtain⟨n,aG⟩:∃ n,Hid (n=w4.heap.size):=⟨_,rfl⟩;rw [<- aG.out] at zkD ⊢;have a0:R.heap.size<=n:=by have:=aG.out;have:=hx.out.size;have:=ao.size;omega
    have aA:=za (hx.out.trans (ao.trans hx45));have E:=za (zn zkD a0);have u:=za (af.ext hx45);have aw:=za (zi c.out (ao.trans hx45));have bh:=za (fun (e:g=mb)=>u.out.g.aj aw.out (by rw [e];rfl));have a1:=za (show g≠n from fun e=>by
     have h1:=(c.out.lt g rfl).2;have h2:=ao.size;have h3:=aG.out;omega)
    have ax:=za (show n≠mb from fun e=>u.out.g.aj zkD (by rw [e];rfl));have k1:=(V.ext aA.out).cell;clear ao af hx45 zkD hsz5 c;go_wp2_with fail
    go_loopw [8,9,10,12,13,14,40] (fun _ _ _ _ _ _ i wr=>∃ (k t:Nat) (I:List Nat) (M:ByteArray->Option Nat),i=.int iX k/\k<=m/\Hid (I.length=k)/\Hid (ziB (kyR a cs) I t M)/\Hid (MapC wr mb t M)/\Hid (wr.ownsRow R.heap.size 3 1 (fF (fV n) m m) m (zah (I++dT (m - k) 0)))/\Hid (Frm (fun b=>b=mb\/b=n) w5 wr)) (fun _ _ _ _ _ _ i _=>m - (intOf i).toNat)
    case atStart=>exact⟨0,0,[],_,rfl,dH _,za rfl,za ziB.zero,u,E,za (Frm.refl _ _)⟩
    case round =>
     clear u E k1;obtain⟨k,t,I,M,rfl,hk,o,L,l,O,aq⟩:=hrel;have F:=za (aA.out.frm aq.out (fun b hb e=>by rcases e with e|e<;>omega))
     have aY:=za (zf aw.out aq.out (fun b hb e=>by
      have h1:g=b:=by simpa [Value.ownBlock] using hb
      rcases e with e|e
      ·exact bh.out (h1.trans e)
      ·exact a1.out (h1.trans e)))
     have k1:=(V.ext F.out).cell
     by_cases hlt:k<m
     ·obtain⟨ad,Ak,ck,row,rfl,_,_,az,bg,a6⟩:=(HN.out wr (ar.trans F.out)).row hlt;obtain⟨bi,a5⟩:=aS.out k row az.out;have ba:=za a5;have bc:=za a6;have a3:(k:Int)<(m:Int):=oM;have bA:row.length<=6:=oM;have aD:∀ j,j<m->wr.cell? ⟨g,j,fW⟩=fV (.int iX (fnL cs j:Nat)):=fun j Y=>by
       rw [aY.out.cellAt j oM];unfold zah;rw [dP,ziX (by rw [hI.out.len,<- S.out];exact Y)];rfl
      have bd:=za aD;have aU:=aD k hlt;have bj:=za (show a.next.getD k []=row by rw [dF,az.out];rfl);obtain⟨x,aO⟩:∃ x,Hid (fnL cs k=x):=⟨_,rfl⟩;have an:x<100:=by rw [<- aO.out];exact hI.out.lt k
      rw [aO.out] at aU;obtain⟨z0,aP⟩:∃ z0,Hid (kyB (fnL cs) x (row.take 0)=z0):=⟨_,rfl⟩;have J:=za (fun W=>lib_Itoa x an W);rw [<- kyB_zero (fnL cs) x row,aP.out] at J;clear a6 a5 bi aD;go_upto_region 15 with (go_at_call 267;refine (J.out _).mono ?_;rintro e w6 ⟨rfl,rfl⟩)
      clear aU k1 bg;obtain⟨Q,aN⟩:∃ Q,Q=wr:=⟨_,rfl⟩;subst aN;go_wp2_with fail
      go_loopw [10,12,52] (fun v10 _ jv wr=>∃ j:Nat,v10=.string (kyB (fnL cs) x (row.take j))/\jv=.int iX j/\j<=row.length/\wr=Q) (fun _ _ jv _=>row.length - (intOf jv).toNat)
      case atStart=>exact⟨0,by rw [aP.out],rfl,dH _,rfl⟩
      case round =>
       clear aP J;obtain⟨j,rfl,rfl,Y,rfl⟩:=hrel;have Z:=kyB_size hI.out.lt an (row.take j);rw [List.length_take] at Z;obtain⟨H,aH⟩:∃ H,Hid (kyB (fnL cs) x (row.take j)=H):=⟨_,rfl⟩;rw [aH.out] at Z ⊢;have bu:H.size<=20:=oM;clear Z
       by_cases hjl:j<row.length
       ·have bt:(j:Int)<(row.length:Int):=oM;obtain⟨bI,y0,rfl,_,_,a9,bM⟩:=bc.out.int hjl;obtain⟨y1,y2⟩:=ba.out y0 (dD a9.out);obtain⟨y,rfl⟩:∃ y:Nat,y0=y:=⟨y0.toNat,oM⟩;have bl:y<m:=oH S.out;have bB:(y:Int)<(m:Int):=oM;have cy:=bd.out y bl;obtain⟨v,aL⟩:∃ v,Hid (fnL cs y=v):=⟨_,rfl⟩;have ak:v<100:=by rw [<- aL.out];exact hI.out.lt y
        rw [aL.out] at cy;have aJ:=za (kyB_snoc (x:=x) a9.out aL.out);rw [aH.out] at aJ;obtain⟨z,hz⟩:∃ z:ByteArray,Hid ((⟨(Lib.decDigits v).toArray⟩:ByteArray)=z):=⟨_,rfl⟩;have hz2:z.size<=2:=by rw [<- hz.out];exact (show (Lib.decDigits v).toArray.size<=2 by simpa using dig_len ak)
        have J:=za (fun W=>lib_Itoa v ak W);rw [hz.out] at J aJ;have q1:¬ 9223372036854775807<1+z.size:=oM;have q2:¬ 9223372036854775807<H.size+(1+z.size):=oM;clear y1 y2;go_wp2_with (go_at_call 267;refine (J.out _).mono ?_;rintro e w6 ⟨rfl,rfl⟩)
        go_roundw
        case rel=>exact⟨j+1,by rw [aJ.out],gM,oM,trivial⟩
        case measure=>exact uM
       ·obtain rfl:j=row.length:=oM;have aa:=za (show kyR a cs I.length=H by
         show kyB (fnL cs) (fnL cs I.length) (a.next.getD I.length [])=H;rw [o.out,bj.out,aO.out,<- aH.out,List.take_length])
        have aE:=za (show domC H by show H.size<=_;omega);obtain⟨o0,g0⟩:=zaF O.out k oM;have f0:=O.out.frozenAt k;cases hM:M H with
        |some v =>
         have r:=(O.out.stored k (.int iX (v:Nat))).1;rw [fill_z o.out hlt] at r;have U:=za r;have C:=za (L.out.hit (v:=v) (by rw [aa.out,hM]));have X:=za (aq.out.cell (p:=⟨n,k,fW⟩) (.inr rfl) (.int iX (v:Nat)));have ae:=za (l.out.frm (dG wr n k (.int iX (v:Nat))) (fun e=>ax.out e.symm));have aK:(M H).isSome=jV:=by rw [hM];rfl
         have aC:=za hM;clear hM r;go_upto_region 21 with (refine zaL (key:=H) _ keyS rfl _ _ rfl rfl l.out.g rfl aE.out ?_;rw [aK];intro cc hcc;obtain rfl:=hcc v aC.out;clear hcc)
         go_wp2_with fail
         go_roundw
         case rel=>exact⟨k+1,t,I++[v],M,gM,oM,za (by have:=o.out;simp;omega),C,ae,U,X⟩
         case measure=>exact uM
        |none =>
         have C:=za (L.out.miss (by rw [aa.out,hM]));rw [aa.out] at C;have bP:t<=k:=by have:=ziT L.out.fo (dE _);have:=L.out.ct;have:=o.out;omega
         have aK:(M H).isSome=false:=by rw [hM];rfl
         have aC:=za hM;clear hM;go_upto_region 21 with (refine zaL (key:=H) _ keyS rfl _ _ rfl rfl l.out.g rfl aE.out ?_;rw [aK];intro cc hcc;clear hcc)
         go_upto_region 24 with (first
          |(at_len;refine zdH _ keyS rfl _ rfl rfl l.out ?_)
          |(refine ziN (key:=H) (v9:=t) (b:=mb) _ keyS rfl _ _ _ rfl rfl l.out oM rfl rfl aE.out oM aC.out ?_;intro w7 hm7 hg7))
         have aF:Frm (fun b=>fV mb=fV b) wr w7:=Frm.ab hg7;have D:=zf O.out aF (fun b hb e=>by
          obtain rfl:=kA e;exact l.out.g.aj O.out hb)
         obtain⟨o7,g7⟩:=zaF D k oM;have f7:=D.frozenAt k;have r:=(D.stored k (.int iX (t:Nat))).1;rw [fill_z o.out hlt] at r;have U:=za r;have X:=za ((aq.out.trans (aF.mono (T:=fun b=>b=mb\/b=n) (fun b _ e=>.inl (kA e).symm))).cell (p:=⟨n,k,fW⟩) (.inr rfl) (.int iX (t:Nat)));have ae:=za (hm7.frm (dG w7 n k (.int iX (t:Nat))) (fun e=>ax.out e.symm));clear r hm7 hg7 aF D g0 f0;go_wp2_with fail
         go_roundw
         case rel=>exact⟨k+1,t+1,I++[t],_,gM,oM,za (by have:=o.out;simp;omega),C,ae,U,X⟩
         case measure=>exact uM
     ·obtain rfl:m=k:=oM;have aZ:=za (show I.length=a.next.length by rw [o.out,S.out]);have ay:=za (show wr.ownsRow R.heap.size 3 1 (fF (fV n) m m) m (zah I) by
       have:=O.out;rwa [Nat.sub_self,List.replicate_zero,List.append_nil] at this)
      obtain⟨s,ab,aI⟩:=hI.out.step L.out aZ.out (oH S.out) (oH S.out);have aB:=za s
      by_cases hE:t=K
      ·subst hE;have hres:=za (show RetClz w a (j7 (fF (fV n) m m)) wr from ⟨I,n,by rw [S.out],by
        have:=zn ay.out ar.size;rwa [S.out] at this,hI.out.stop L.out aZ.out Hv.out,ar.trans F.out⟩)
       clear s ab aI;go_wp2_with (at_len;refine zdH _ keyS rfl _ rfl rfl l.out ?_)
       go_ret;exact hres.out
      ·have bK:¬ (t:Int)=(K:Int):=oM;have bL:=ab hE;have a2:t<=m:=by rw [S.out];exact aI
       clear s ab aI;go_wp2_with (at_len;refine zdH _ keyS rfl _ rfl rfl l.out ?_)
       go_roundw
       case rel=>exact⟨n,I,t,rfl,rfl,a2,aB,ay,F⟩
       case measure=>exact uM
structure MinR (N:Nat) (a t:Aut):Prop where
 fit:Fit N t
 al:t.al=a.al
 acc:∀ v:List Nat,(∀ l∈v,l<6)->zaw t (zar t 0 v)=zaw a (zar a 0 v)
def RetMin (w:j2) (N:Nat) (a:Aut) (e:Ending) (w':j2):Prop:=
 ∃ (t:Aut) (A:Option Addr) (n c:Nat) (A':Option Addr) (n' c':Nat),e=j7 (.agg #[t.al,fF A n c,fF A' n' c'])/\zT w' w.heap.size A n c A' n' c' t/\MinR N a t/\Ext w w'
def zfx (a:Aut) (cs:List Nat) (q:Nat):List Int:=(a.next.getD q []).map fun x=>(fnL cs x.toNat:Int)
theorem quoA_eq (a:Aut) (cs rs:List Nat):quoA a (fnL cs) rs=⟨a.al,rs.map (zfx a cs),rs.map (zaw a)⟩:=rfl
theorem zjK {B:Option Addr}     (h:zK w lo hi B m B' m' a)(hv:Fit N a)(hN:N<=99) :
  j8 j5 101 #[.agg #[a.al,fF B m d,fF B' m' d']] w (RetMin w N a):=by
 obtain⟨-,⟨n1,bM⟩,ah,R⟩:=hv.row;have Hn:=za h.n1;have bp:=za (show m'=m by rw [h.n1,h.n2,ah]);have HA:=za (fun W (hW:Ext w W)=>h.ext hW);have aQ:=za R;have Hv:=za hv;have bW:m<=99:=by rw [h.n1];omega
 have h6:=zA a.al.toNat 6;have HN:=za hN;clear R h n1 bM hv hN ah
 go_enter Tryz.func101,Tryz.ntmps101
 go_upto_region 1 with fail
 generalize U0:(w.alloc _).alloc _=w0 at *;obtain⟨a5,b1,b2⟩:=Ext.x2_ U0;clear U0;have k1:=b1.cell;go_upto_region 2 with (go_at_call 192;refine (ziE (HA.out _ a5) Hv.out HN.out).mono ?_;rintro e C ⟨s,g,rfl,aG,hC,af⟩)
 rw [<- Hn.out] at aG ⊢;have HC:=za hC;have B1:=za (b1.ext af);have B2:=za (b2.ext af);have U:=za (a5.trans af);have ba:=za aG;clear k1 b1 b2 af hC aG;have k1:=B1.out.cell;go_upto_region 3 with fail
 have bG:=Blk.new C 27 #[a.al,(),()];have aB:=(cY C).alloc (.cells #[a.al,(),()] 27);obtain⟨G,hG⟩:∃ G,Hid (G=C.heap.size):=⟨_,rfl⟩;rw [<- hG.out] at bG ⊢;have ai:=za (gra_first (S:=fun _=>False) aB bG (oH hG.out) id);have ao:=za aB;clear k1 aB bG;generalize C.alloc _=w2 at *;have aa:=za (show FO (fnL s) m by rw [Hn.out];exact HC.out.fo);have bY:w.heap.size+1<C.heap.size:=B2.out.lt;go_wp2_with fail
 go_loopw [5,6,7,9,17] (fun _ _ _ _ iv wr=>∃ (i:Nat) (v vA:j6) (l:List Nat),iv=.int iX i/\i<=m/\Hid (RepI (fnL s) i l)/\Hid (zfu wr (fun _=>False) C.heap.size wr.heap.size G a.al v (l.map (zfx a s)) vA (l.map (zaw a)))/\Hid (Ext C wr)) (fun _ _ _ _ iv _=>m - (intOf iv).toNat)
 case atStart=>exact⟨0,_,_,[],rfl,dH _,za RepI.zero,za (ai.out.reN),ao⟩
 case round =>
  clear ai ao;obtain⟨i,v,vA,l,rfl,hi,hR,z,T⟩:=hrel;have cg:l.length<=i:=by rw [hR.out.len];exact ziT aa.out hi
  by_cases hlt:i<m
  ·have bV:(i:Int)<(m:Int):=oM;have aU:wr.cell? ⟨g,i,fW⟩=fV (.int iX (fnL s i:Nat)):=by
    rw [(zi ba.out T.out).cellAt i oM];unfold zah;rw [dP,ziX (by rw [HC.out.len,<- Hn.out];exact hlt)];rfl
   obtain⟨f,r1,r2,r3⟩:∃ f,wr.ownsRow C.heap.size 110 1 v (l.map (zfx a s)).length f/\zB wr C.heap.size f (l.map (zfx a s))/\∀ (j:Nat) (r:j6) (b:Nat),f[j]?=fV r->r.ownBlock=fV b->¬ False/\b<wr.heap.size:=by
    obtain⟨wb,H,-,f,h⟩:=z.out.gra;exact⟨f,h⟩
   obtain⟨Av,cv,rfl⟩:=zh r1;rw [dS] at r1;have kG:=z.out.blk.cell;rw [dS] at kG;have ar:=za z.out;rw [dS] at ar;clear r1 r2 r3 z;obtain⟨x,aD⟩:∃ x,Hid (fnL s i=x):=⟨_,rfl⟩;rw [aD.out] at aU
   by_cases hsk:x<l.length
   ·have a1:(x:Int)<(l.length:Int):=oM;have ax:=za (hR.out.skip (by rw [aD.out];exact hsk) aa.out hlt);go_wp2_with fail
    go_roundw
    case rel=>exact⟨i+1,_,_,l,gM,oM,ax,ar,T⟩
    case measure=>exact uM
   ·have a1:¬ (x:Int)<(l.length:Int):=oM;have ax:=za (hR.out.push (by rw [aD.out];exact hsk) aa.out hlt);have Z:=za (HA.out wr (U.out.trans T.out));obtain⟨ad,Ak,ck,o,rfl,_,_,an,bA,aZ⟩:=Z.out.1.row hlt;obtain⟨bH,aY⟩:=aQ.out i o an.out;have bn:=za aY;have bX:o.length<=6:=oM;have bo:=za (fun W (hW:Ext wr W)=>aZ.ext hW);have bI:=za (show zfx a s i=o.map fun x=>(fnL s x.toNat:Int) by unfold zfx;rw [dF,an.out];rfl);have k1:=(B1.out.ext T.out).cell;clear aZ bH aY;obtain⟨wo,bJ⟩:∃ wo,wo=wr:=⟨_,rfl⟩;subst bJ;go_upto_region 9 with fail
    go_wp2_with fail
    go_loopw [7,9,33] (fun v7 _ jv wr=>∃ j:Nat,jv=.int iX j/\j<=o.length/\Hid (wr.ownsRow wo.heap.size 3 1 v7 j (ints ((o.map fun x=>(fnL s x.toNat:Int)).take j)))/\Hid (Ext wo wr)) (fun _ _ jv _=>o.length - (intOf jv).toNat)
    case atStart=>exact⟨0,rfl,dH _,za (World.ownsRow_nil _ _ _ _),za (cY _)⟩
    case round =>
     clear aU kG k1 bA;obtain⟨j,rfl,hj,Q,I⟩:=hrel;obtain⟨A7,c7,rfl⟩:=zh Q.out
     by_cases hjl:j<o.length
     ·have bU:(j:Int)<(o.length:Int):=oM;obtain⟨b7,y0,rfl,_,_,a7,cd⟩:=(bo.out wr I.out).int hjl;obtain⟨y1,y2⟩:=bn.out y0 (dD a7.out);obtain⟨y,rfl⟩:∃ y:Nat,y0=y:=⟨y0.toNat,oM⟩;have bL:y<m:=oH Hn.out;have bZ:(y:Int)<(m:Int):=oM;have cy:wr.cell? ⟨g,y,fW⟩=fV (.int iX (fnL s y:Nat)):=by
       rw [(zi ba.out (T.out.trans I.out)).cellAt y oM];unfold zah;rw [dP,ziX (by rw [HC.out.len,<- Hn.out];exact bL)];rfl
      have ae:=za (show ints ((o.map fun x=>(fnL s x.toNat:Int)).take (j+1))=ints ((o.map fun x=>(fnL s x.toNat:Int)).take j)++[.int iX (fnL s y:Nat)] by
       rw [dO,dP,a7.out,ints,ints,eI];rfl)
      clear y1 y2;go_wp2_with (at_builtin;refine zI wo wr rfl _ _ _ rfl 3 _ 1 8 Tryz.underlying110 zR rfl dM (fF A7 j c7) j _ _ _ rfl rfl I.out.size Q.out rfl (zaM _) lM oM ?_;intro g9 cap9 w9 hown9 hg9 hat9 hlt9)
      have a0:=za (show w9.ownsRow wo.heap.size 3 1 (fF (fV g9) (j+1) cap9) (j+1) (ints ((o.map fun x=>(fnL s x.toNat:Int)).take (j+1))) by rw [ae.out];exact hown9);have aA:=za (I.out.grown hg9 (fun k hk=>(Q.out.lt k hk).1));go_roundw
      case rel=>exact⟨j+1,gM,oM,a0,aA⟩
      case measure=>exact uM
     ·obtain rfl:j=o.length:=oM;have am:=za (show wr.ownsRow wo.heap.size 3 1 (fF A7 o.length c7) (zfx a s i).length (ints (zfx a s i)) by
       have:=Q.out;rw [dK sM] at this;rw [bI.out,dS];exact this)
      have F:=za (ar.out.ext I.out);obtain⟨f,r1,r2,r3⟩:∃ f,wr.ownsRow C.heap.size 110 1 (fF Av l.length cv) (l.map (zfx a s)).length f/\zB wr C.heap.size f (l.map (zfx a s))/\∀ (j:Nat) (r:j6) (b:Nat),f[j]?=fV r->r.ownBlock=fV b->¬ False/\b<wo.heap.size:=by
       obtain⟨wb,H,-,f,h⟩:=F.out.gra;exact⟨f,h⟩
      have au:=za r1;have aO:=za r2;have aP:=za r3;have kG:=F.out.blk.cell;have aC:=za (T.out.trans I.out);have a3:=T.out.size;have a2:C.heap.size<=wr.heap.size:=aC.out.size;have ce:(l.map (zfx a s)).length<=99:=by rw [dS];omega
      have J:=za r1;rw [dS] at J;have bF:=za (fun (b:Nat) (_:(fF A7 o.length c7).ownBlock=fV b) (h:False)=>h);have bE:=za (show (l.map (zfx a s)).length=l.length from dS _);have bD:=za (show (l.map (zaw a)).length=l.length from dS _);clear r1 r2 r3;go_upto_region 14 with (at_builtin;refine zI C wr rfl _ _ _ rfl 110 _ 1 24 Tryz.underlying24 zbs rfl dM (fF Av l.length cv) l.length f _ _ rfl rfl a2 J.out rfl (zaG _ _ _) lM oM ?_;intro g7 cap7 w7 hown7 hg7 hat7 hlt7;rw [<- bE.out] at hown7;obtain⟨av,L⟩:=F.out.push au.out aO.out aP.out a3 am.out bF.out (fun _ _ h=>h) hown7 hg7 hat7;have k7:=av.cell;have f7:=av.frozen;rw [dS] at L)
      have az:=za ((aC.out.grown hg7 (fun k hk=>(au.out.lt k hk).1)).setCell (p:=⟨G,1,fW⟩) (by have:=hG.out;show C.heap.size<=G;omega) (fF (fV g7) (l.length+1) cap7));have E:=za L;clear hown7 hg7 hat7 av L k7 f7 kG au aO aP am Q F aC J;generalize w7.setCell ⟨G,1,fW⟩ (fF (fV g7) (l.length+1) cap7)=w8 at *;have aX:i<m':=oH bp.out;have bC:(i:Int)<(m':Int):=oM;obtain⟨aR,bb,rfl,-,-,hb,cb⟩:=(HA.out w8 (U.out.trans az.out)).2.2.bool aX;have bx:=za (show zaw a i=bb by unfold zaw;rw [dF,hb.out];rfl);have KB:∀ W,Ext w8 W->W.cell? (aR.add i)=fV (.bool bb):=fun W hW=>hW.aa cb;have KA:∀ W,Ext w8 W->∀ q,W.cell? ⟨w.heap.size,q,fW⟩=#[Value.int iX a.al,fF (fV ad) m d,fF (fV aR) m' d'][q]?:=fun W hW=>((B1.out.ext az.out).ext hW).cell;obtain⟨wb,H,ab,-⟩:=E.out.gra;have u:=ab.acc;rw [H,dS] at u;obtain⟨AA,cA,rfl⟩:=zh u;have KG:=fun W (hW:Ext w8 W)=>(E.out.blk.ext hW).cell;have a4:=cY w8;clear cb hb ab H;refine uR (fun X=>Ext w8 X) [8,10] (zx.of [0,1,2,3,4,5,6,7,8,9,10]) ?_;refine uQ ?_;have V:=a4.drew;have aj:=za (E.out.ext V);have D:=zi u V;have ap:=za (az.out.trans V);clear KB KA KG a4 E u;generalize w8.drew=wd at *;refine ze fun K hK=>?_;go_simp;refine hK.out _ _ (V.alloc _) ?_;refine pT ?_;refine zb fun K hK=>?_;refine zaE C wd _ _ _ rfl 4 _ 1 1 Tryz.underlying25 zaK rfl dM (fF AA l.length cA) l.length (zaa (l.map (zaw a))) _ _ rfl rfl ap.out.size D rfl (by simp [Value.oneCell']) lM oM ?_;intro g8 cap8 w9 hown8 hg8 hat8 hlt8;refine hK.out _ _ ?_;refine pT ?_;rw [<- bD.out] at hown8;obtain⟨aw,M⟩:=aj.out.pushA (x:=bb) (fun _ _ h=>h) hown8 hg8 hat8;rw [dS] at M;have k8:=aw.cell;have f8:=aw.frozen;have aA:=za ((ap.out.grown hg8 (fun k hk=>(D.lt k hk).1)).setCell (p:=⟨G,2,fW⟩) (by have:=hG.out;show C.heap.size<=G;omega) (fF (fV g8) (l.length+1) cap8));have ak:=za M.reN;have O:=za (show l.map (zfx a s)++[zfx a s i]=(l++[i]).map (zfx a s)/\l.map (zaw a)++[bb]=(l++[i]).map (zaw a) from ⟨sM,by simp [bx.out]⟩);rw [O.out.1,O.out.2] at ak;clear hown8 hg8 hat8 D V aj M aw;refine uQ ?_;refine zb fun K hK=>?_;go_simp;refine hK.out _ _ ?_;refine zg ?_;clear k8 f8;go_wp2_with fail
      go_roundw
      case rel=>exact⟨i+1,_,_,l++[i],gM,oM,ax,ak,aA⟩
      case measure=>exact uM
  ·obtain rfl:m=i:=oM;have ae:=za (HC.out.stb Hv.out (by rw [<- Hn.out];exact hR.out));have aV:=za (hR.out.few aa.out);have aW:=za (ae.out.fit Hv.out (by rw [<- Hn.out];exact aV.out) (fun r hr=>by rw [<- Hn.out];exact hR.out.lt r hr));obtain⟨Av,cv,rfl⟩:∃ Av cv,v=fF Av l.length cv:=by
    obtain⟨wb,H,-,f,h,-⟩:=z.out.gra;rw [dS] at h;exact zh h
   obtain⟨AA,cA,rfl⟩:∃ AA cA,vA=fF AA l.length cA:=by
    obtain⟨wb,H,ab,-⟩:=z.out.gra;have h:=ab.acc;rw [dS] at h;exact zh h
   have kG:=z.out.blk.cell;have Z:=za (z.out.own.reads);rw [<- quoA_eq] at Z;have bt:=za (impl_trimF (d:=cv) (d':=cA) Z.out aW.out (oH HN.out));have bz:=za (B2.out.ext T.out);go_wp2_with (go_at_call 193;refine bt.out.mono ?_;rintro e w5 ⟨t,xs,A,n,c,A',n',c',rfl,bu,ay,a6⟩;have Y:=bz.out.ext a6;have kz:=Y.cell;have fz:=Y.frozen)
   have hZ:=Y.lt;have bK:=za ((U.out.trans (T.out.trans a6)).frm (zU w5 (w.heap.size+1) (.int iX t.al) (fF A n c) (fF A' n' c')) (fun k hk e=>by have e':k=w.heap.size+1:=e;omega));have aT:=za ((bu.keep (zU w5 (w.heap.size+1) (.int iX t.al) (fF A n c) (fF A' n' c')) (fun b hb e=>by
    have e':b=w.heap.size+1:=e;have:=T.out.size;omega)).less (show w.heap.size<=wr.heap.size by have:=T.out.size;omega))
   have bB:=za (zai Y rfl (.int iX t.al) (fF A n c) (fF A' n' c'));have hres:=za (show RetMin w N a (j7 (.agg #[t.al,fF A n c,fF A' n' c'])) _ from ⟨t,A,n,c,A',n',c',rfl,aT.out,⟨ay.fit aW.out,by rw [ay.al];rfl,fun v hv=>ae.out.minF Hv.out ay hv⟩,bK.out⟩);have cf:=bB.out.cell;exact bodyPost_ret (v:=.agg #[t.al,fF A n c,fF A' n' c']) (by simp [results,Tryz.results101,go_sem,cf]) rfl hres.out
def RetWk (w:j2) (s:Sys) (p:Aut) (L:Nat) (e:Ending) (w':j2):Prop:=
 (e=j7 (.tuple #[.agg #[(0:Int),(),()],.bool false])/\Ext w w') \/
  ∃ (t:Aut) (A:Option Addr) (n c:Nat) (A':Option Addr) (n' c':Nat),e=j7 (.tuple #[.agg #[t.al,fF A n c,fF A' n' c'],.bool jV])/\zT w' w.heap.size A n c A' n' c' t/\Dec s p L t/\Ext w w'
section
variable {w:j2} {lo hi n c m d m' d' L:Nat} {A B B':Option Addr} {s:Sys} {p:Aut}
theorem wk_none {Z:Nat} {cs:Array j6}(hx:Ext w W)(hb:Blk W Z 27 cs)(hc:cs.size=3)(hZ:w.heap.size<=Z) :
  Ext w (((W.setCell Z (0:Int)).setCell ⟨Z,1,fW⟩ ()).setCell ⟨Z,2,fW⟩ ())/\∀ i,(((W.setCell Z (0:Int)).setCell ⟨Z,1,fW⟩ ()).setCell ⟨Z,2,fW⟩ ()).cell? ⟨Z,i,fW⟩=(#[Value.int iX 0,fF fW 0 0,fF fW 0 0]:Array j6)[i]?:=
 ⟨hx.frm (zU W Z _ _ _) (fun k hk e=>by have e':k=Z:=e;omega),(zai hb hc _ _ _).cell⟩
theorem yX18a1 {P:Prop}(h:P:=by
 go_wp2_with fail
 exact bodyPost_ret (v:=.tuple #[.agg #[(0:Int),(),()],.bool false]) (by simp [results,Tryz.results40,go_sem,hz2]) rfl (.inl ⟨rfl,hres.out⟩)
 ):P:=h
theorem yX18a3 {P:Prop}(h:P:=by
 clear hin h40;subst hb2;go_wp2_with (go_at_call 110;refine (zgM (v := -1) hon).mono ?_;rw [hd.out];rintro e w6 ⟨rfl,rfl⟩)
 go_meet;exact⟨rfl,rfl⟩
 ):P:=h
theorem impl_WeakestAssumption (hS:zY w lo hi A n s)(hP:zK w lo hi B m B' m' p)(hv:zl s=jV)(hp:zj p=jV)(hL:L<64)(hhi:hi<=w.heap.size)(hT:Tab w) :
  j8 j5 40 #[.agg #[s.al,s.st,fF A n c,p.al,fF B m d,fF B' m' d',L]] w (RetWk w s p L):=by
 have HV:=za (fun W (hW:Ext w W)=>zfm (c:=c) (d:=d) (d':=d') (hS.ext hW) (hP.ext hW) hv hp hL);have HN:=za (fun W (hW:Ext w W)=>zfn (c:=c) (d:=d) (d':=d') hW (hS.ext hW) (hP.ext hW) hv hp hL hhi hT);have Hv:=za (And.intro (zcl hv) hp);have bF:Sm L:=tM;clear hS hP hv hp hhi hT
 go_enter Tryz.func40,Tryz.ntmps40
 go_upto_region 1 with fail
 generalize U0:(w.alloc _).alloc _=w0 at *;obtain⟨bJ,b1,b2⟩:=Ext.x2_ U0;clear U0;have k1:=b1.cell;have cV:=b2.lt;go_upto_region 3 with (go_at_call 105;refine (HV.out _ bJ).mono (mQ fun w1 r=>?_))
 have ae:=bJ.trans r;have aD:=b1.ext r;have ba:=b2.ext r;have k1:=aD.cell;go_upto_region 99 with fail
 refine (HN.out _ ae).mono ?_;rintro e w2 ⟨F,S,rfl,aN,bl,bk,bi,au,bj,hJ,z⟩;obtain⟨Ts,nx,k,M,vs,vn,vu,hI,hM,cW,rfl⟩:=hJ;have aE:=aD.ext z;have bb:=ba.ext z;have k1:=aE.cell;have J:=za aN;have a4:=za bl;have a3:=za bk;have a1:=za bi;have a2:=za au;have bY:=za (show w.heap.size+1<F.b0 by rw [bj];have:=r.size;omega);have HI:=za hI;have bK:=za (ae.trans z);go_upto_region 4 with fail
 obtain⟨w3,U0⟩:∃ x,Hid (w2.alloc (.cells #[kD (fV ⟨F.G,0,fW⟩)] 144)=x):=⟨_,za rfl⟩;have bg:=Ext.bl_ U0.out;have u:Ext w2 w3:=((cY _).alloc _).trans (Ext.eq_ U0.out);obtain⟨g,hg⟩:∃ g,Hid (g=w2.heap.size):=⟨_,rfl⟩;rw [<- hg.out] at bg ⊢;have aH:=hM.ext aN u;have aF:=aE.ext u;have bc:=bb.ext u;have bL:=za (bK.out.trans u);have ab:=za (show F.w9.heap.size<=g from by rw [hg.out];exact hM.frm.size);clear aN bl bk bi au bj hI hM b1 b2 aD ba aE bb k1 r z u ae;rw [U0.out] at *;have k1:=aF.cell;go_upto_region 5 with (go_at_call 67;refine (zaf L bF _).mono ?_;rintro e w4 ⟨AL,cL,rfl,ag,C⟩)
 have Y:=aH.ext J.out C;have aG:=bg.ext C;have aY:=za (aF.ext C);have aZ:=za (bc.ext C);have af:=za (bL.out.trans C);obtain⟨Au,nu,rfl⟩:=zh Y.uns;obtain⟨T0,ak,ax⟩:=HI.out.start;obtain⟨gu,rfl,-,cu⟩:=Y.bad ak;have kG:=Y.blk.cell;simp only [sfC] at kG;have cE:(0:Int)<(Ts.length:Int):=by have:=(kB.1 ak).1;omega
 have kg:=aG.cell;have aA:=za Y;have aq:=za aG;have bp:=za (fun b hb=>(ag.lt b hb).1);have X:=za ag;have cH:=C.size;have aw:=za (show ∀ b,w3.heap.size<=b->¬ (sfS F vs vn (fF (fV gu) Ts.length nu) b\/b=g) from fun b hb hs=>by
  rcases hs with hs|rfl
  ·have:=aH.lt hs;omega
  ·have:=bg.lt;omega)
 clear aH aF bc C Y bg aG k1 ag;have aa:Hid (∃ n0:Int,n0=(if zhk F.p T0=jV then -1 else 0)/\wkF Ts n0=fV (wk0 F.s F.p F.L)):=by
  refine⟨_,rfl,?_⟩;rw [wk0_start ax];cases hb0:zhk F.p T0
  ·rw [if_neg dM,if_neg dM];exact wkF_nat ak
  ·rw [if_pos rfl,if_pos rfl];exact zkp
 clear ak ax;go_upto_if 30 with fail
 go_cut [7] (fun v7 wx=>v7=.int iX (if zhk F.p T0=jV then -1 else 0)/\wx=w4)
 case first =>
  cases hb0:zhk F.p T0 with
  |true =>
   go_wp2_with fail
   go_meet;exact⟨by rw [hb0];rfl,rfl⟩
  |false =>
   go_wp2_with fail
   go_meet;exact⟨by rw [hb0];rfl,rfl⟩
 case rest =>
 obtain⟨rfl,rfl⟩:=hcut;obtain⟨n0,bA,bI⟩:=aa.out;rw [<- bA];have a6:=za bI;clear bA bI aa kg kG cu;have bo:=za (show WkK F g (wkF Ts) 1 wc (fun q=>sfS F vs vn (fF (fV gu) Ts.length nu) q\/q=g) from ⟨Ts,nx,k,M,vs,vn,_,HI.out,aA.out,⟨oM,oM⟩,aq.out,ab.out,rfl,rfl⟩);have br:=za (zgc (K:=WkK F g) (D:=wkD F.s F.p F.L) (LL:=letters L 6) (x0:=wk0 F.s F.p F.L) (n0:=n0) (lim:=41) (Bm:=1000) (B0:=1) (b0:=F.lo) (kn:=107) (cap:=#[kD (fV g)]) (f0:=wkF Ts) (w:=wc)
  (WkK.ok J.out g) (fun f B W S h=>h.inj) (fun f B W S h=>h.dom) (fun _ _=>rfl) (fun f B W S n x l hK hB hf hl=>wk_step J.out hK oM hf (zC.1 hl).1)
  bo.out a6.out (by have:=af.out.size;have:=a2.out;omega) X.out (fun b hb=>aw.out b (bp.out b hb)) (zA L 6) oM oM oM)
 have aj:=za (show ∀ q,(sfS F vs vn (fF (fV gu) Ts.length nu) q\/q=g)->w.heap.size+1<q from fun q hq=>by
  have hb:=bY.out;rcases hq with hq|rfl
  ·have:=aA.out.low0 J.out hq;omega
  ·have:=J.out.b0G;have:=J.out.Gw;have:=ab.out;omega)
 go_upto_region 99 with fail
 refine br.out.mono ?_;rintro e w5 ⟨f9,B9,S9,bH,Q,ai,aJ⟩;have aP:Ext w w5:=Q.toExt af.out (fun q hq=>by have:=aj.out q hq;omega);have o:=(Q.blk aZ.out (fun hq=>by have:=aj.out _ hq;omega)).1;have a9:=(Q.blk aY.out (fun hq=>by have:=aj.out _ hq;omega)).1;have aC:=za aP;have cI:=Q.size;have hW:=za Q.j;clear bH Q br bo aj X bp aw aq aA aY aZ HI a6;rcases aJ with ⟨rfl,-⟩|⟨A8,c8,A9,c9,ns,a,bP,rfl,bx,bn,bE,⟨bC,bB⟩,hon,bD⟩
 ·have kz:=o.cell;have fz:=o.frozen;obtain⟨R,hz2⟩:=wk_none aP o rfl oM;have hres:=za R;exact yX18a1
 have aO:=za (show ∀ (i:Nat) (n:Int),ns[i]?=fV n->∃ x,a[i]?=fV x/\jG x=decide (n ≠ -1) from fun i n hn=>by
  obtain⟨x,h1,h2⟩:=bB i n hn;obtain⟨cP,c1,k9,M9,c3,c2,c4,i1,i2,i3,i4,i5,rfl,i7⟩:=hW.out;refine⟨x,h1,?_⟩;rcases zec h2 with ⟨rfl,rfl⟩|⟨j,T,rfl,-,rfl⟩
  ·rfl
  ·rw [decide_eq_true oM];rfl)
 have az:=za bn;rw [a4.out,a3.out,a1.out] at az;have aB:=za bE;have b3:=za bC;have a5:=za hon;have b4:=za bD;have bX:=za a9;have a0:=za o;clear bB bn bE bC bD aP hW a4 a3 a1;have kz:=o.cell;have fz:=o.frozen;obtain⟨R,hz2⟩:=wk_none aC.out o rfl oM;have a8:=za R;clear a9 o R;obtain⟨y,H⟩:∃ y,Hid ((decide (40<a.length)&&!decide ((-1:Int)∈ns))=y):=⟨_,rfl⟩;go_upto_region 10 with fail
 go_cut [50] (fun v50 wx=>v50=.bool y/\wx=w5)
 case first =>
  by_cases h40:40<a.length
  ·have bf:(40:Int)<(a.length:Int):=oM
   by_cases hin:(-1:Int)∈ns
   ·have hd:=za (show decide ((-1:Int)∈ns)=jV from decide_eq_true hin);have hb2:y=false:=by rw [<- H.out,hd.out];simp
    exact yX18a3
   ·have hd:=za (show decide ((-1:Int)∈ns)=false from decide_eq_false hin);have hb2:y=jV:=by rw [<- H.out,hd.out,decide_eq_true h40];rfl
    exact yX18a3
  ·have bf:¬ (40:Int)<(a.length:Int):=oM;have hb2:y=false:=by rw [<- H.out,decide_eq_false h40];rfl
   clear h40;subst hb2;go_wp2_with fail
   go_meet;exact⟨rfl,rfl⟩
 case rest =>
 obtain⟨rfl,rfl⟩:=hcut;clear H;cases y with
 |true =>
  go_wp2_with fail
  exact bodyPost_ret (v:=.tuple #[.agg #[(0:Int),(),()],.bool false]) (by simp [results,Tryz.results40,go_sem,hz2]) rfl (.inl ⟨rfl,a8.out⟩)
 |false =>
 clear kz fz hz2 a8 hon;have k1:=bX.out.cell;go_upto_region 13 with fail
 obtain⟨w6,U0⟩:∃ x,Hid (wc.alloc (.cells #[L,fF A9 a.length c9,()] 27)=x):=⟨_,za rfl⟩;have bG:=Ext.bl_ U0.out;have u:Ext wc w6:=((cY _).alloc _).trans (Ext.eq_ U0.out);obtain⟨G,hG⟩:∃ G,Hid (G=wc.heap.size):=⟨_,rfl⟩;rw [<- hG.out] at bG ⊢;have bm:wc.heap.size<=G:=oH hG.out;have BG:=za bG;have a7:=za u;clear k1 bG u;rw [U0.out] at *;go_wp2_with fail
 go_loopw [13,58] (fun _ iv wr=>∃ (i:Nat) (vA:j6),iv=.int iX i/\i<=a.length/\Hid (Blk wr G 27 #[L,fF A9 a.length c9,vA])/\Hid (wr.ownsRow wc.heap.size 4 1 vA i (zaa ((a.map jG).take i)))/\Hid (Ext wc wr)) (fun _ iv _=>a.length - (intOf iv).toNat)
 case atStart=>exact⟨0,_,rfl,dH _,BG,za (World.ownsRow_nil _ _ _ _),a7⟩
 case round =>
  clear BG a7;obtain⟨i,vA,rfl,hi,hB,V,E⟩:=hrel;obtain⟨AA,cA,rfl⟩:=zh V.out;have kG:=hB.out.cell
  by_cases hlt:i<a.length
  ·have cG:(i:Int)<(a.length:Int):=oM;obtain⟨g8,rfl,-,-⟩:=zN a5.out oM;obtain⟨nn,aL⟩:∃ nn,ns[i]?=fV nn:=⟨_,dC (oH b3.out)⟩;have cn:=zgC (zi a5.out E.out) aL;obtain⟨x,r,z⟩:=aO.out i nn aL;have co:=za (show zaa ((a.map jG).take (i+1))=zaa ((a.map jG).take i)++[.bool (nn != -1)] by
    have ck:(nn != -1)=x.isSome:=by rw [z];by_cases e:nn = -1<;>simp [e]
    rw [dO,dP,r,ck];simp [zaa])
   clear aL r z;go_wp2_with (at_builtin;refine zI wc wr rfl _ _ _ rfl 4 _ 1 1 Tryz.underlying25 zaK rfl dM (fF AA i cA) i _ _ _ rfl rfl E.out.size V.out rfl (cells_bool _) lM oM ?_;intro g9 cap9 w9 hown9 ab hat9 hlt9;have ai:Blk w9 G 27 #[.int iX L,fF A9 a.length c9,fF AA i cA]:=hB.out.frm (Frm.ab ab) (fun e=>zr V.out hB.out dM e rfl);have k9:=ai.cell;have f9:=ai.frozen)
   have cj:g9≠G:=by
    rcases hat9 with h1|h1
    ·exact zr V.out hB.out dM h1
    ·have:=hB.out.lt;omega
   have ce:=za (show Blk (w9.setCell ⟨G,2,fW⟩ (fF (fV g9) (i+1) cap9)) G 27 #[L,fF A9 a.length c9,fF (fV g9) (i+1) cap9] by simpa using ai.ae 2 (fF (fV g9) (i+1) cap9));have cl:=za (show (w9.setCell ⟨G,2,fW⟩ (fF (fV g9) (i+1) cap9)).ownsRow wc.heap.size 4 1 (fF (fV g9) (i+1) cap9) (i+1) (zaa ((a.map jG).take (i+1))) by
    rw [co.out];exact zf hown9 (dG w9 G 2 _) (fun b hb e=>by obtain rfl:=zeH hb;exact cj e))
   have cq:=za ((E.out.grown ab (fun k hk=>(V.out.lt k hk).1)).setCell (p:=⟨G,2,fW⟩) bm (fF (fV g9) (i+1) cap9));go_roundw
   case rel=>exact⟨i+1,_,gM,oM,ce,cl,cq⟩
   case measure=>exact uM
  ·obtain rfl:i=a.length:=oM;have Z:=V.out;rw [dK sM] at Z;have cd:zT wr w.heap.size A9 a.length c9 AA a.length cA (wkA L a bP):=⟨(b4.out.ext E.out).less af.out.size,aB.out.symm,zn Z aC.out.size,by simp [wkA]⟩;have bh:=za cd.reads;have ci:=za (nb_fit (N:=41) (acc:=a.map jG) az.out aB.out hL bx sM);have bq:=za (zjK (d:=c9) (d':=cA) bh.out ci.out oM);have bO:=za (aC.out.trans E.out);have b9:=za (a0.out.ext E.out);go_upto_region 99 with fail
   refine bq.out.mono ?_;rintro e w7 ⟨t,A6,n6,c6,I,U,O,rfl,aI,bz,bN⟩;have aK:=za aI.2.1;have bs:=za aI;have ad:=za bz;have bM:=za (bO.out.trans bN);have b8:=za (b9.out.ext bN);clear kG aI bz bq bh Z;go_upto_region 19 with fail
   obtain⟨w8,U0⟩:∃ x,Hid (w7.alloc (.cells #[t.al,fF A6 n6 c6,fF I U O] 27)=x):=⟨_,za rfl⟩;have b6:=Ext.bl_ U0.out;have ao:Ext w7 w8:=((cY _).alloc _).trans (Ext.eq_ U0.out);have ah:=b8.out.ext ao;have ay:=za (bM.out.trans ao);have bt:=za (bs.out.ext ao);clear ao;rw [U0.out] at *;generalize w7.heap.size=cM at *;have cX:=b6.cell;have kz:=ah.cell;have fz:=ah.frozen
   by_cases h12:12<n6
   ·have be:(12:Int)<(n6:Int):=oM;obtain⟨R,hz2⟩:=wk_none ay.out ah rfl oM;have hres:=za R;clear aK;exact yX18a1
   ·have be:¬ (12:Int)<(n6:Int):=oM;have bw:=za (dec_of Hv.out.1 Hv.out.2 az.out aB.out (ad.out.fit.valid (oH aK.out)) ad.out.al (fun v hv=>ad.out.acc v (fun l hl=>(hv l hl).1)));have cp:=za (ay.out.frm (zU w8 (w.heap.size+1) (.int iX t.al) (fF A6 n6 c6) (fF I U O)) (fun k hk e=>by have e':k=w.heap.size+1:=e;omega));have bu:=za ((bt.out.keep (zU w8 (w.heap.size+1) (.int iX t.al) (fF A6 n6 c6) (fF I U O)) (fun b hb e=>by
     have e':b=w.heap.size+1:=e;have h1:=a0.out.lt;have h2:=E.out.size;omega)).less (show w.heap.size<=wr.heap.size by have:=bO.out.size;omega))
    have ch:=za (zai ah rfl (.int iX t.al) (fF A6 n6 c6) (fF I U O));clear aK;go_wp2_with fail
    have cf:=ch.out.cell;exact bodyPost_ret (v:=.tuple #[.agg #[t.al,fF A6 n6 c6,fF I U O],.bool jV]) (by simp [results,Tryz.results40,go_sem,cf]) rfl (.inr ⟨t,A6,n6,c6,I,U,O,rfl,bu.out,bw.out,cp.out⟩)
end
section
open Go.ChangeShapes Go.WideShapes Go.ChangeAt Go.Deep
def BytesAt (w:j2) (A:Option Addr) (n c:Nat):Prop:=Bytes w A n/\n<=9223372036854775807/\n<=c/\c<=9223372036854775807
theorem arg_bytes {H:Type} {enc:TypeId × j6->H}  {spare:Nat->Bool} {held:Bool} {r:Reach} {b0:Nat} {v:j6} {d:DataW H} {p:List MemPlace}(hv:Value.okWide j5 w r b0 22 v)(h:DataW.Trod enc j5 w 0 spare held 22 v d p) :
  ∃ (A:Option Addr) (n c:Nat),v=fF A n c/\BytesAt w A n c:=by
 obtain⟨a,l,k,rfl⟩:=okWide_slice Tryz.underlying22 hv;obtain⟨t,F⟩:=h;rcases open_slice1 Tryz.underlying22 kM F with ⟨f,_⟩|⟨s,L,B,m,n,V,D,M,f,R,G,J,q,_,z⟩
 ·simp [Value.cells] at f;obtain⟨rfl,rfl,rfl⟩:=f;exact⟨_,_,_,rfl,fun h=>absurd h oM,oM,dE _,oM⟩
 ·simp [Value.cells] at f;obtain⟨rfl,rfl,rfl⟩:=f;unfold maxLen at J;have I:l<=m:=by rw [q];split<;>omega
  refine⟨_,_,_,rfl,fun hn=>?_,oM,G,oM⟩;have u:=(z 0 oM).1;have y:=zdM u;have g:=World.block_lt_of_cell? w _ u;rw [ziP] at g;refine⟨s.block,s.off,by rw [<- y],g,fun j hj=>?_⟩;obtain⟨x,C⟩:=z j oM;obtain⟨b,i,_,o⟩:=DataW.trod_int Tryz.underlying5 C;have E:V j=.int .u8 b:=by simpa using i
  rw [E,y,zad] at x;have S:0<=b/\b<256:=by
   simp only [Lit.wf,Bool.and_eq_true,decide_eq_true_eq] at o;have O:IntKind.u8.min=0:=rfl;have Q:IntKind.u8.max=255:=rfl;omega
  refine⟨b.toNat,oM,?_⟩;rw [x];have:((b.toNat:Nat):Int)=b:=oM;rw [this]
end
end Go.Proofs.YtckbjnndaaoddaaGreatDoor
