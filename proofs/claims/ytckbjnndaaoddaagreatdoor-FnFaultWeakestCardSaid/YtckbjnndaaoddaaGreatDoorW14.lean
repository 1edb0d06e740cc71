/- The referenc -/
import Derived.Test.YtckbjnndaaoddaaGreatDoorW13
import Derived.Deep.MidRow
import Derived.Deep.WholeRow
set_option maxHeartbeats 2000000
set_option maxRecDepth 100000
namespace Go.Proofs.YtckbjnndaaoddaaGreatDoor
open Go Go.RowKit
open Bool renaming and_eq_true->dH,or_eq_true->fM,false->j1,true->jU
open Ext renaming eq_->e6,refl->cY
open Frm renaming setCell->dG
open List renaming all_eq_true->eK,getD_eq_getElem?_getD->dE,getElem?_eq_getElem->dB,getElem?_eq_none->dV,getElem?_map->dO,getElem?_toArray->eO,length_append->dK,length_map->dQ,length_singleton->dU,mem_of_getElem?->dC,mem_of_mem_drop->jK,range->eT,replicate->dS,take_add_one->dN,take_of_length_le->dJ,getElem?_eq_some_iff->j9,mem_map->kC,mem_range->kI
open Nat renaming le_of_lt_succ->eF,le_refl->dD,lt_or_eq_of_le->dX,mod_eq_of_lt->iH,mul_comm->fI,testBit_and->fO,zero_le->dF
open Option renaming getD_some->eL,toList_some->eG,isSome_iff_exists->kJ,none->fV,some->fU
open Reads renaming af->eE
open Go renaming Calls->j6,Value->j4,World->jX
open Go.Ending renaming returned->j5
open Go.IntKind renaming i64->iX
open Go.Value renaming agg->j2,bool->j7,pointer->kB,slice->fC,string->kA
open Option.some renaming inj->j8
open _root_.Go.Proofs.Tryz renaming prog->j3
variable {A L Z c g k l n q:Nat}{T T0 U V v:List Nat}{a p:Aut}{s t:Sys}{ss:List Sys}{w:jX}{x:ByteArray}
theorem zcV (s t:Sys) (p:Aut):iface s p t = -1\/∃ L:Nat,iface s p t=(L:Int):=by
 unfold iface;split
 ·exact .inr ⟨_,rfl⟩
 ·exact .inl rfl
section
variable {w:jX}{lo hi n c lo1 hi1 m d m' d' lo2 hi2 k c2:Nat}{A B B' C:Option Addr}{s t:Sys}{p:Aut}
theorem spec_TaskOf0 (hs:zU w lo hi A n s)(hp:zJ w lo1 hi1 B m B' m' p)(ht:zU w lo2 hi2 C k t)(hif:iface s p t = -1) :
  j6 j3 202 #[j2 #[s.al,s.st,fC A n c],j2 #[p.al,fC B m d,fC B' m' d'],j2 #[t.al,t.st,fC C k c2]] w
   fun e w'=>e=j5 (.tuple #[j2 #[(0:Int),(0:Int),(),(0:Int),(),(),(0:Int)],j7 j1])/\Ext w w':=by
 have b:=za (fun W (hW:Ext w W)=>zcG (c:=c) (d1:=d) (d1':=d') (c2:=c2) (hs.ext hW) (hp.ext hW) (ht.ext hW));rw [hif] at b;clear hs hp ht hif;obtain⟨j,U0⟩:∃ x,Hid ((((w.alloc (.cells #[s.al,s.st,fC A n c] 38)).alloc (.cells #[p.al,fC B m d,fC B' m' d'] 27)).alloc (.cells #[t.al,t.st,fC C k c2] 38)).alloc (.cells #[(0:Int),(0:Int),(),(0:Int),(),(),(0:Int)] 70)=x):=⟨_,za rfl⟩;have g:Ext w j:=(((((cY _).alloc _).alloc _).alloc _).alloc _).trans (e6 U0.out);obtain⟨l,o,q⟩:=zK (((cY _).alloc _).trans (e6 U0.out));have b4:=Ext.bl_ U0.out;simp only [World.size_alloc] at b4
 go_enter Tryz.func202,Tryz.ntmps202
 go_upto_region 1 with fail
 rw [U0.out] at *;have D:=l.cells;have z:=o.cells;have E:=q.cells;have y:=cY j;go_upto_region 3 with (first
  |(go_at_call 95;refine (b.out _ g).mono (mQ fun w1 a=>?_)))
 have h:=b4.ext a;have G:=h.cell;have F:=h.frozen;have i:=g.trans a;have u:Frm (fun k=>k=w.heap.size+1+1+1) w1 (((((((w1.setCell ⟨w.heap.size+1+1+1,0,fV⟩ (0:Int)).setCell ⟨w.heap.size+1+1+1,1,fV⟩ (0:Int)).setCell ⟨w.heap.size+1+1+1,2,fV⟩ ()).setCell ⟨w.heap.size+1+1+1,3,fV⟩ (0:Int)).setCell ⟨w.heap.size+1+1+1,4,fV⟩ ()).setCell ⟨w.heap.size+1+1+1,5,fV⟩ ()).setCell ⟨w.heap.size+1+1+1,6,fV⟩ (0:Int)):=
  ((((((dG w1 _ 0 _).trans (dG _ _ 1 _)).trans (dG _ _ 2 _)).trans (dG _ _ 3 _)).trans (dG _ _ 4 _)).trans (dG _ _ 5 _)).trans (dG _ _ 6 _)
 have r:Blk (((((((w1.setCell ⟨w.heap.size+1+1+1,0,fV⟩ (0:Int)).setCell ⟨w.heap.size+1+1+1,1,fV⟩ (0:Int)).setCell ⟨w.heap.size+1+1+1,2,fV⟩ ()).setCell ⟨w.heap.size+1+1+1,3,fV⟩ (0:Int)).setCell ⟨w.heap.size+1+1+1,4,fV⟩ ()).setCell ⟨w.heap.size+1+1+1,5,fV⟩ ()).setCell ⟨w.heap.size+1+1+1,6,fV⟩ (0:Int)) (w.heap.size+1+1+1) 70 #[.int iX 0,.int iX 0,fC fV 0 0,.int iX 0,fC fV 0 0,fC fV 0 0,.int iX 0]:=by
  simpa using ((((((h.ae 0 (.int iX 0)).ae 1 (.int iX 0)).ae 2 (fC fV 0 0)).ae 3 (.int iX 0)).ae 4 (fC fV 0 0)).ae 5 (fC fV 0 0)).ae 6 (.int iX 0)
 have f:=za (i.frm u (fun k hk e=>oM));go_wp2_with fail
 generalize (((((((w1.setCell ⟨w.heap.size+1+1+1,0,fV⟩ (0:Int)).setCell ⟨w.heap.size+1+1+1,1,fV⟩ (0:Int)).setCell ⟨w.heap.size+1+1+1,2,fV⟩ ()).setCell ⟨w.heap.size+1+1+1,3,fV⟩ (0:Int)).setCell ⟨w.heap.size+1+1+1,4,fV⟩ ()).setCell ⟨w.heap.size+1+1+1,5,fV⟩ ()).setCell ⟨w.heap.size+1+1+1,6,fV⟩ (0:Int))=W at *;have cf:=r.cell;exact bodyPost_ret (v:=.tuple #[j2 #[(0:Int),(0:Int),(),(0:Int),(),(),(0:Int)],j7 j1]) (by simp [results,Tryz.results202,go_sem,cf]) rfl ⟨rfl,f.out⟩
theorem spec_l12Run0 {K:Nat}(hs:zU w lo hi A n s)(hp:zJ w lo1 hi1 B m B' m' p)(ht:zU w lo2 hi2 C k t)(hif:iface s p t = -1) :
  j6 j3 112 #[j2 #[s.al,s.st,fC A n c],j2 #[t.al,t.st,fC C k c2],j2 #[p.al,fC B m d,fC B' m' d'],K] w (zdD w ⟨3,noA,⟨#[]⟩,0⟩):=by
 have H:=za (fun W (hW:Ext w W)=>spec_TaskOf0 (c:=c) (d:=d) (d':=d') (c2:=c2) (hs.ext hW) (hp.ext hW) (ht.ext hW) hif);clear hs hp ht hif;obtain⟨r,U0⟩:∃ x,Hid (((((w.alloc (.cells #[s.al,s.st,fC A n c] 38)).alloc (.cells #[t.al,t.st,fC C k c2] 38)).alloc (.cells #[p.al,fC B m d,fC B' m' d'] 27)).alloc (.cells #[(0:Int),(0:Int),(),(),kA ⟨#[]⟩,(0:Int)] 42)).alloc (.cells #[(0:Int),(),()] 27)=x):=⟨_,za rfl⟩;have b:Ext w r:=((((((cY _).alloc _).alloc _).alloc _).alloc _).alloc _).trans (e6 U0.out);obtain⟨u,y,z⟩:=zK ((((cY _).alloc _).alloc _).trans (e6 U0.out));have b4:=(Blk.new (((w.alloc (.cells #[s.al,s.st,fC A n c] 38)).alloc (.cells #[t.al,t.st,fC C k c2] 38)).alloc (.cells #[p.al,fC B m d,fC B' m' d'] 27)) 42 #[(0:Int),(0:Int),(),(),kA ⟨#[]⟩,(0:Int)]).ext ((cY _).alloc (.cells #[(0:Int),(),()] 27));have i:=Ext.bl_ U0.out;simp only [World.size_alloc] at b4 i
 go_enter Tryz.func112,Tryz.ntmps112
 go_upto_region 1 with fail
 rw [U0.out] at *;have L:=u.cells;have M:=y.cells;have J:=z.cells;have I:=cY r;go_upto_region 2 with (first
  |(go_at_call 202;refine (H.out _ b).mono (mQ fun w1 f=>?_)))
 generalize U0:w1.alloc _=E at *;have a:Ext r E:=(f.alloc _).trans (e6 U0);clear U0;have h:=b4.ext a;have S:=h.cell;have Q:=h.frozen;have g:=i.ext a;have R:=g.cell;have O:=g.frozen;obtain⟨D,o,q⟩:=zhh (v:=⟨3,noA,⟨#[]⟩,0⟩) (A:=fV) (n:=0) (c:=0) (A':=fV) (n':=0) (c':=0) (x:=0) (X:=fV) (k1:=0) (d1:=0) (X':=fV) (k1':=0) (d1':=0) (b.trans a) h g rfl rfl oM (own_aut0 _ _);dsimp only [noA] at D o q;have F:=za o;have G:=za q;clear o q h g u y z b4 i;go_wp2_with fail
 generalize (((((((((E.setCell ⟨w.heap.size+1+1+1,0,fV⟩ (3:Int)).setCell ⟨w.heap.size+1+1+1,1,fV⟩ (0:Int)).setCell ⟨w.heap.size+1+1+1,2,fV⟩ ()).setCell ⟨w.heap.size+1+1+1,3,fV⟩ ()).setCell ⟨w.heap.size+1+1+1,4,fV⟩ (.string ⟨#[]⟩)).setCell ⟨w.heap.size+1+1+1,5,fV⟩ (0:Int)).setCell ⟨w.heap.size+1+1+1+1,0,fV⟩ (0:Int)).setCell ⟨w.heap.size+1+1+1+1,1,fV⟩ ()).setCell ⟨w.heap.size+1+1+1+1,2,fV⟩ ())=W at *;have j:=F.out.cell;have l:=G.out.cell;exact bodyPost_ret (v:=.tuple #[j2 #[(3:Int),(0:Int),(),(),kA ⟨#[]⟩,(0:Int)],j2 #[(0:Int),(),()]]) (by simp [results,Tryz.results112,go_sem,j,l]) rfl D.out
end
noncomputable def vpT (s t:Sys) (p:Aut):Vd:=
 if iface s p t<0 then ⟨3,noA,⟨#[]⟩,0⟩ else runT s t p (iface s p t).toNat 12 0 ((zar (iface s p t).toNat (zu s p (iface s p t).toNat) [⟨#[]⟩] 11 [⟨#[]⟩]).map fun r=>(r,[⟨#[]⟩]))
theorem zie (h:iface s p t = -1):vpT s t p=⟨3,noA,⟨#[]⟩,0⟩:=by unfold vpT;rw [if_pos oM]
theorem zif (h:iface s p t=(L:Int)):vpT s t p=runT s t p L 12 0 ((zar L (zu s p L) [⟨#[]⟩] 11 [⟨#[]⟩]).map fun r=>(r,[⟨#[]⟩])):=by
 have e:(iface s p t).toNat=L:=oM;unfold vpT;rw [if_neg oM,e]
theorem iface_lt (h:iface s p t=(L:Int)):L<64:=by
 obtain⟨c,b,a⟩:=zbo (show 0<=iface s p t by omega);rw [zdJ c b a] at h;have h1:=zab a;have h2:((s.al.toNat|||p.al.toNat)&&&t.al.toNat)<=t.al.toNat:=Nat.and_le_right;omega
section
variable {w:jX}{lo hi n c lo1 hi1 m d m' d' lo2 hi2 k c2:Nat}{A B B' C:Option Addr}{s t:Sys}{p:Aut}
theorem spec_VerifyPairA (hs:zU w lo hi A n s)(hp:zJ w lo1 hi1 B m B' m' p)(ht:zU w lo2 hi2 C k t)(hn:n<=1000000)(hhi:hi<=w.heap.size) :
  j6 j3 42 #[j2 #[s.al,s.st,fC A n c],j2 #[t.al,t.st,fC C k c2],j2 #[p.al,fC B m d,fC B' m' d']] w
   (zjh w (vpT s t p)):=by
 rcases zcV s t p with h|⟨L,h⟩
 ·rw [zie h];exact zdu (za (fun W (hW:Ext w W)=>spec_l12Run0 (K:=12) (hs.ext hW) (hp.ext hW) (ht.ext hW) h))
 ·rw [zif h];exact zhQ hs hp ht h hn hhi
end
theorem valid_len (h:zk s=jU):s.edges.length<=1536:=by
 unfold zk at h;simp only [dH,decide_eq_true_eq,eK] at h;obtain⟨-,⟨h1,h2⟩,h3⟩:=h;have g:∀ (k:Nat) (e:Edg),s.edges[k]?=fU e->(k:Int)<=(e.fr*6+e.le)*16+e.ta/\(e.fr*6+e.le)*16+e.ta<1536:=by
  intro k
  induction k with
  |zero =>
   intro e he;have:=h3 0 (kI.2 (j9.1 he).1);unfold zbn at this;rw [he] at this;simp only [edgB,dH,decide_eq_true_eq] at this;obtain⟨⟨⟨h4,h5⟩,⟨j,l⟩,m,c⟩,-⟩:=this;unfold hasB at c;simp only [dH,decide_eq_true_eq] at c;omega
  |succ k ih =>
   intro e he;have n:=(j9.1 he).1;have:=h3 (k+1) (kI.2 n);unfold zbn at this;rw [he] at this;obtain⟨q,hq⟩:∃ q,s.edges[k]?=fU q:=⟨_,dB oM⟩;have o:=ih q hq;rw [show k+1 - 1=k by omega,hq] at this;simp only [edgB,dH,fM,decide_eq_true_eq] at this;obtain⟨⟨⟨h4,h5⟩,⟨j,l⟩,m,c⟩,d⟩:=this;unfold hasB at c;simp only [dH,decide_eq_true_eq] at c;have a:=d.resolve_left oM;have b:=h3 k (kI.2 oM);unfold zbn at b;rw [hq] at b;simp only [edgB,dH,fM,decide_eq_true_eq] at b;obtain⟨⟨⟨p,r⟩,⟨t,u⟩,g8,i⟩,-⟩:=b;unfold hasB at i;simp only [dH,decide_eq_true_eq] at i;unfold ltE at a
   split at a
   ·split at a
    ·rw [decide_eq_true_eq] at a;omega
    ·rw [decide_eq_true_eq] at a;omega
   ·rw [decide_eq_true_eq] at a;omega
 rcases Nat.lt_or_ge 1536 s.edges.length with a|f
 ·have:=g 1536 _ (dB a);omega
 ·exact f
theorem runT_tr (s t:Sys) (p:Aut) (L f:Nat):∀ (k:Nat) (o:Option (List ByteArray × List ByteArray)),(runT s t p L f k o).tr=⟨#[]⟩\/(runT s t p L f k o).tr=zaq [s,t] p:=by
 induction f with
 |zero=>intro k o;exact .inl rfl
 |succ f ih =>
  intro k o;cases o with
  |none=>exact .inl rfl
  |some tab =>
   rw [runT];split
   ·exact .inl rfl
   ·split
    ·exact .inr rfl
    ·exact ih _ _
theorem vpT_word (hs:zk s=jU)(ht:zk t=jU)(hp:zj p=jU):zbg (vpT s t p).tr=jU:=by
 have a:zbg (⟨#[]⟩:ByteArray)=jU:=by unfold zbg;rfl
 rcases zcV s t p with h|⟨L,h⟩
 ·rw [zie h];exact a
 ·rw [zif h];rcases runT_tr s t p L 12 0 ((zar L (zu s p L) [⟨#[]⟩] 11 [⟨#[]⟩]).map fun r=>(r,[⟨#[]⟩])) with e|e
  ·rw [e];exact a
  ·rw [e];exact (zcT (ss:=[s,t]) (p:=p) (zeS sM sM (by simp [hs,ht])) hp).1
theorem wl_wstr (h:∀ l∈v,l<6):wl (wstr v)=v:=by
 unfold wl wstr lbs;rw [strOfNums_data,List.map_map,List.map_map]
 conv=>rhs;rw [<- List.map_id v]
 refine List.map_congr_left fun l hl=>?_;have a:=h l hl;have b:∀ l,l<6->(UInt8.ofNat (97+l)).toNat - 97=l:=dM;have:=b l a;show (UInt8.ofNat (((97+l:Nat):Int)).toNat).toNat - 97=l;rw [Int.toNat_natCast];exact this
theorem vio_key (hss:∀ s∈ss,zk s=jU)(ha:zj a=jU)(hp:zj p=jU) (hv:∀ l∈v,l<6) :
  (∃ x,zbt (zce ss a p) [0] v x/\zbO a p x=jU)↔zfA ss a p v:=by
 have g:∀ s∈ss,zeu (zdY s):=fun s hs=>zeD (zcj (hss s hs));have k:∀ m∈[zbz a,zbz p],zeu m:=by simp;exact⟨zbA ha,zbA hp⟩
 have hP:zH [zbz a,zbz p]=a.next.length*p.next.length:=by simp [zH,zaz,zbz]
 have o:=(zl ha).2.1;have r:=(zl hp).2.1;have b:∀ x,zbO a p x=zbO a p (x % zH [zbz a,zbz p]):=by
  intro x;unfold zbO;rw [hP,Nat.mod_mul_left_mod,fI,Nat.mod_mul_right_div_self,Nat.mod_mod]
 rw [zdj];have h1:=ziK k hv (fun y=>zbO a p y=jU) g;have h2:(∃ x,zbt (pnx (zbh ss [a,p])) [0] v x/\zbO a p x=jU)↔(∃ x,zbt (pnx (ss.map zdY++[zbz a,zbz p])) [0] v x/\zbO a p (x % zH [zbz a,zbz p])=jU):=by
  constructor
  ·rintro ⟨x,h,c⟩;exact⟨x,h,by rw [<- b];exact c⟩
  ·rintro ⟨x,h,c⟩;exact⟨x,h,by rw [b];exact c⟩
 rw [h2,h1];unfold zfA;refine and_congr_right fun _=>?_;have f:=zeh ha hv (q:=0) oM;have d:=zeh hp hv (q:=0) oM;have i:(zal a 0 v*p.next.length+zal p 0 v) / p.next.length % a.next.length=zal a 0 v:=by
  rw [fI,Nat.mul_add_div oM,Nat.div_eq_of_lt d,Nat.add_zero,iH f]
 have j:(zal a 0 v*p.next.length+zal p 0 v) % p.next.length=zal p 0 v:=by
  rw [fI,Nat.mul_add_mod,iH d]
 constructor
 ·rintro ⟨y,n,c⟩;rw [(zhb ha hp hv y).1 n] at c;unfold zbO at c;rw [i,j] at c;simpa using c
 ·intro c;refine⟨_,(zhb ha hp hv _).2 rfl,?_⟩;unfold zbO;rw [i,j];simpa using c
def FstW (A:Nat) (B:List Nat->Prop) (v:List Nat):Prop:=zgV A v/\B v/\∀ u,zgV A u->zcK u<zcK v->¬ B u
theorem FstW.congr {B C:List Nat->Prop}(h:FstW A B v)(he:∀ u,zgV A u->(B u↔C u)):FstW A C v:=
 ⟨h.1,(he v h.1).1 h.2.1,fun u hu hlt hc=>h.2.2 u hu hlt ((he u hu).2 hc)⟩
theorem zje (hss:∀ s∈ss,zk s=jU)(ha:zj a=jU)(hp:zj p=jU) :
  (zkc ss a p=jU/\∃ v,vioW ss a p=wstr v/\FstW (zG ss|||a.al.toNat) (zfA ss a p) v)\/(zkc ss a p=j1/\vioW ss a p=wstr []/\∀ v,zgV (zG ss|||a.al.toNat) v->¬ zfA ss a p v):=by
 have m:∀ l∈letters (zG ss|||a.al.toNat) 6,l<6:=fun l hl=>(zC.1 hl).1
 by_cases hl:Lost (zce ss a p) [0] (zbO a p) (letters (zG ss|||a.al.toNat) 6)
 ·obtain⟨c,d⟩:=zgq hl;refine .inr ⟨by unfold zkc;rw [d];rfl,by unfold vioW;rw [c],fun v b hb=>?_⟩;obtain⟨x,g,f⟩:=(vio_key hss ha hp (fun l hl=>(b l hl).1)).2 hb;have:=hl v (zef.2 b) x g;rw [f] at this;cases this
 ·obtain⟨v,h⟩:=zfg hl;obtain⟨c,d⟩:=zfs m h;obtain⟨i,j,k⟩:=h;have b:=zef.1 i;refine .inl ⟨by unfold zkc;rw [d];rfl,v,by unfold vioW;rw [c],b,(vio_key hss ha hp (fun l hl=>(b l hl).1)).1 j,fun u hu hlt hb=>?_⟩;obtain⟨x,g,f⟩:=(vio_key hss ha hp (fun l hl=>(hu l hl).1)).2 hb;have:=k u (zef.2 hu) hlt x g;rw [f] at this;cases this
theorem breaks_free :zfA ss free p v↔(∀ s∈ss,zji s v)/\zat p (zal p 0 v)=j1:=by
 unfold zfA;rw [runA_free];exact⟨fun h=>⟨h.1,h.2.2⟩,fun h=>⟨h.1,rfl,h.2⟩⟩
theorem zgo (h:zbB ss p=jU):zE ss=jU/\zj p=jU:=by
 unfold zbB zcz at h;simp only [dH] at h;exact h.1
theorem ziC (h:zbB ss p=jU):∃ v,zaq ss p=wstr v/\FstW (zG ss) (fun v=>(∀ s∈ss,zji s v)/\zat p (zal p 0 v)=j1) v:=by
 obtain⟨h1,h2⟩:=zgo h;obtain⟨-,c⟩:=zbc h1;have hb:zkc ss free p=jU:=by unfold zbB at h;simp only [dH] at h;exact h.2
 have b:zG ss|||free.al.toNat=zG ss:=by rw [show free.al.toNat=0 from rfl,Nat.or_zero]
 rcases zje (a:=free) c zdI h2 with ⟨-,v,h3,h4⟩|⟨h3,-,-⟩
 ·rw [b] at h4;exact⟨v,by unfold zaq zcz;rw [h1,h2];exact h3,h4.congr fun u _=>breaks_free⟩
 ·rw [hb] at h3;cases h3
theorem brok_top (h:zbB ss p=jU):topB ss (zaq ss p)=jU/\breakB p (zaq ss p)=jU:=by
 obtain⟨h1,h2⟩:=zgo h;obtain⟨v,h3,h4,⟨h5,b⟩,-⟩:=ziC h;have hwd:=(zcT h1 h2).1;have a:wl (zaq ss p)=v:=by rw [h3];exact wl_wstr fun l hl=>(h4 l hl).1
 refine⟨top_iff.2 ⟨h1,hwd,by rw [a];exact h4,by rw [a];exact h5⟩,?_⟩;unfold breakB;rw [h2,hwd,a,b];rfl
theorem judge_zero (hs:zk s=jU)(hp:zj p=jU)(ht:zk t=jU)(ha:zj a=jU)(h:(zaM s p t L a).2=0):zbk s a p=jU/\zaE [t] a=jU:=by
 unfold zaM at h
 split at h
 ·cases h
 ·rename_i h1
  split at h
  ·split at h<;>cases h
  ·rename_i h2;refine⟨?_,?_⟩
   ·rw [zeK,show zcn s a p=jU by unfold zcn;rw [hs,ha,hp];rfl];simpa using h1
   ·rw [zfp,show zcz [t] a=jU by unfold zcz;rw [ha,zeS sM sM (by simpa using ht)];rfl];simpa using h2
theorem zhH {x:Sys}{ts:List Sys}{w:ByteArray}(hL:L=(x.al.toNat|||p.al.toNat)&&&zG ts)(hpa:zE (x :: ts)=jU)(hw:zbg w=jU)(hu:zgV (zG ts) (wl w))(hr:∀ t∈ts,zji t (wl w))(hs:zu x p L (zbx w L)=j1):zaE (x :: ts) p=j1:=by
 refine zgj hL hpa hu hr fun hsafe=>?_;have h1:zu x p L (zbx w L)=jU:=by
  rw [zcZ];refine⟨zcQ hw L,?_⟩;rw [zhj hw];exact hsafe
 rw [hs] at h1;cases h1
theorem judge_one (hL:L=(s.al.toNat|||p.al.toNat)&&&t.al.toNat)(hs:zk s=jU)(ht:zk t=jU)(h:(zaM s p t L a).2=1):zaE [s,t] p=j1:=by
 unfold zaM at h
 split at h
 ·cases h
 ·split at h
  ·rename_i h2
   split at h
   ·cases h
   ·rename_i h3;obtain⟨b,-⟩:=brok_top h2;obtain⟨-,c,d,f⟩:=top_iff.1 b;exact zhH (L:=L) (by rw [hL];simp [zG]) (zeS sM sM (by simp [hs,ht])) c d f (by simpa using h3)
  ·cases h
theorem bits_one:∀ (l:List (List Bool)),l.Nodup->(∀ x∈l,x.length=1)->l.length<=2:=by
 intro l hn hl;have h:l ⊆ [[jU],[j1]]:=by
  intro x hx;have:=hl x hx
  match x,this with
  |[jU],_=>simp
  |[j1],_=>simp
 simpa using List.Nodup.length_le_of_subset hn h
section
variable {L:Nat}{f:ByteArray->Bool}{rows cols:List ByteArray}
theorem rows_few (h:zbD L f rows cols)(hc:cols.length=1):rows.length<=2:=by
 have:=bits_one _ h.nd (fun x hx=>by
  obtain⟨y,-,rfl⟩:=kC.1 hx;unfold zby
  rw [dQ];exact hc)
 simpa using this
theorem zhp:∀ (k:Nat) (rows:List ByteArray),zbD L f rows cols->rows.length+k<=12->zar L f cols k rows=fV->∃ rows',zbD L f rows' cols/\rows'.length=rows.length+k/\zaI L f rows' cols≠fV:=by
 intro k
 induction k with
 |zero =>
  intro rows h _ hn;refine⟨rows,h,rfl,fun ho=>?_⟩;rw [zcp 0 ho] at hn;cases hn
 |succ k ih =>
  intro rows h hk hn;cases ho:zaI L f rows cols with
  |none=>rw [zcp _ ho] at hn;cases hn
  |some z =>
   rw [zcU k ho] at hn;have h2:=h.grow oM ho;obtain⟨r,h3,h4,h5⟩:=ih _ h2 (by simp;omega) hn;exact⟨r,h3,by rw [h4];simp;omega,h5⟩
theorem zhG (L:Nat) (f:ByteArray->Bool):∃ r,zar L f [⟨#[]⟩] 11 [⟨#[]⟩]=fU r:=by
 cases h:zar L f [⟨#[]⟩] 11 [⟨#[]⟩] with
 |some r=>exact⟨r,rfl⟩
 |none =>
  obtain⟨r,h1,h2,-⟩:=zhp 11 _ (zbD.first L f) dM h
  have:=rows_few h1 rfl;rw [h2] at this;simp at this
end
structure VdOk (s t:Sys) (p:Aut) (L:Nat) (v:Vd):Prop where
 code:v.code=0\/v.code=1\/v.code=2
 holds:v.code=0->zj v.asm=jU/\v.asm.al=(L:Int)/\zbk s v.asm p=jU/\zaE [t] v.asm=jU/\v.ro<=v.asm.next.length
 none_:v.code≠0->v.asm=noA
 fails:v.code=1->zaE [s,t] p=j1/\v.tr=zaq [s,t] p
 quiet:v.code≠1->v.tr=⟨#[]⟩
 ro:1<=v.ro/\v.ro<=12
structure LnOk (L:Nat) (f:ByteArray->Bool) (k:Nat) (o:Option (List ByteArray × List ByteArray)):Prop where
 tab:zhm L f o
 more:∀ rs cs,o=fU (rs,cs)->k<rs.length
 none_:o=fV->1<=k/\k<=12
theorem LnOk.start (L:Nat) (f:ByteArray->Bool):LnOk L f 0 ((zar L f [⟨#[]⟩] 11 [⟨#[]⟩]).map fun r=>(r,[⟨#[]⟩])):=by
 refine⟨zhm.new L f,fun rs cs e=>((zhm.new L f) rs cs e).1.r1,fun h=>?_⟩;obtain⟨r,a⟩:=zhG L f;rw [a] at h;cases h
theorem LnOk.ar {f:ByteArray->Bool}{rs cs:List ByteArray}(h:LnOk L f k (fU (rs,cs))) (x:ByteArray):LnOk L f (k+1) (zba L f rs cs x):=by
 obtain⟨h1,h2⟩:=h.tab rs cs rfl;have h3:=h.more rs cs rfl;refine⟨zhm.ar h1 x,fun r c e=>?_,fun _=>⟨oM,oH h1.r12⟩⟩;have:=(zhC h1 h2 e).1;omega
theorem runT_ok (hs:zk s=jU)(hp:zj p=jU)(ht:zk t=jU)(hL:L=(s.al.toNat|||p.al.toNat)&&&t.al.toNat)(h64:L<64) :
  ∀ (g k:Nat) (o:Option (List ByteArray × List ByteArray)),LnOk L (zu s p L) k o->12<=g+k->VdOk s t p L (runT s t p L g k o):=by
 have i:∀ k,1<=k/\k<=12->VdOk s t p L ⟨2,noA,⟨#[]⟩,k⟩:=fun k f=>⟨.inr (.inr rfl),(fun h=>by cases h),fun _=>rfl,(fun h=>by cases h),fun _=>rfl,f⟩;intro g
 induction g with
 |zero =>
  intro k o ho hg;rw [runT];cases o with
  |none=>exact i k (ho.none_ rfl)
  |some tab =>
   have h1:=(ho.tab tab.1 tab.2 rfl).1.r12;have h2:=ho.more tab.1 tab.2 rfl;omega
 |succ g ih =>
  intro k o ho hg;cases o with
  |none=>rw [runT];exact i k (ho.none_ rfl)
  |some tab =>
   obtain⟨b,cs⟩:=tab;obtain⟨c,a⟩:=ho.tab b cs rfl;have f:=ho.more b cs rfl;have h12:=c.r12;have d:=zcS c a h64;rw [runT];split
   ·rename_i hj;obtain⟨j,l⟩:=judge_zero hs hp ht d hj;refine⟨.inl rfl,fun _=>⟨d,rfl,j,l,?_⟩,fun h=>absurd rfl h,(fun h=>by cases h),fun _=>rfl,⟨by show 1<=k+1;omega,by show k+1<=12;omega⟩⟩;show k+1<=(b.map _).length;rw [dQ];omega
   ·split
    ·rename_i hj;exact⟨.inr (.inl rfl),(fun h=>by cases h),fun _=>rfl,fun _=>⟨judge_one hL hs ht hj,rfl⟩,fun h=>absurd rfl h,⟨by show 1<=k+1;omega,by show k+1<=12;omega⟩⟩
    ·exact ih _ _ (ho.ar _) oM
theorem vpT_ok (h:iface s p t=(L:Int)):VdOk s t p L (vpT s t p):=by
 obtain⟨d,f,b⟩:=zbo (s:=s) (p:=p) (t:=t) oM;have c:L=(s.al.toNat|||p.al.toNat)&&&t.al.toNat:=by
  have:=zdJ d f b;rw [h] at this;exact Int.ofNat.inj this
 have a:L<64:=by
  rw [c];have:=zab b;exact Nat.lt_of_le_of_lt Nat.and_le_right oM
 rw [zif h];exact runT_ok d f b c a 12 0 _ (LnOk.start _ _) oM
theorem vpT_fault (h:(vpT s t p).code=0):zer s t p (vpT s t p).asm=0:=by
 rcases zcV s t p with a|⟨L,a⟩
 ·rw [zie a] at h;cases h
 ·obtain⟨h1,h2,h3,h4,-⟩:=(vpT_ok a).holds h;exact zhu.2 ⟨oM,h1,by rw [h2,a],h3,h4⟩
theorem find_adj (a:Nat->Bool) (n:Nat):(eT n).find? (fun k=>a k != a (k+1))=(eT n).find? (fun k=>a (k+1) != a 0):=by
 by_cases h:∃ k,k<n/\a (k+1)≠a 0
 ·have d:∃ k,(k<n/\a (k+1)≠a 0)/\∀ j,j<k->a (j+1)=a 0:=by
   have c:∀ m k,k<=m->k<n->a (k+1)≠a 0->∃ k,(k<n/\a (k+1)≠a 0)/\∀ j,j<k->a (j+1)=a 0:=by
    intro m
    induction m with
    |zero =>
     intro k hk hn hne;obtain rfl:k=0:=oM;exact⟨0,⟨hn,hne⟩,fun j hj=>oM⟩
    |succ m ih =>
     intro k hk hn hne
     by_cases hj:∃ j,j<k/\a (j+1)≠a 0
     ·obtain⟨j,h1,h2⟩:=hj;exact ih j oM oM h2
     ·exact⟨k,⟨hn,hne⟩,fun j hjk=>Classical.not_not.1 fun h=>hj ⟨j,hjk,h⟩⟩
   obtain⟨k,h1,h2⟩:=h;exact c k k (dD _) h1 h2
  obtain⟨k,⟨h1,h2⟩,h3⟩:=d;have b:∀ j,j<=k->a j=a 0:=by
   intro j hj;cases j with
   |zero=>rfl
   |succ j=>exact h3 j oM
  rw [zeN h1 (fun j hj=>by rw [b j oM,b (j+1) oM];simp) (by rw [b k (dD _)];simpa using fun h=>h2 h.symm),
   zeN h1 (fun j hj=>by rw [b (j+1) oM];simp) (by simpa using h2)]
 ·have b:∀ j,j<=n->a j=a 0:=by
   intro j hj;cases j with
   |zero=>rfl
   |succ j=>exact Classical.not_not.1 fun hne=>h ⟨j,oM,hne⟩
  rw [List.find?_eq_none.2 (fun k hk=>by rw [b k (by have:=kI.1 hk;omega),b (k+1) (by have:=kI.1 hk;omega)];simp),
   List.find?_eq_none.2 (fun k hk=>by rw [b (k+1) (by have:=kI.1 hk;omega)];simp)]
section
variable {L:Nat}{f:ByteArray->Bool}{rows cols:List ByteArray}{x:ByteArray}
noncomputable def zcl (L:Nat) (f:ByteArray->Bool) (rows cols:List ByteArray) (x:ByteArray):Option ByteArray:=
 if zat (zcM L f rows cols) (zal (zcM L f rows cols) 0 (wl x))=f x then fV
 else ((eT x.size).find? fun k=>zgy L f rows cols x (k+1) != f x).map fun k=>x.extract (k+1) x.size
theorem zht (x:ByteArray):x.extract 0 x.size=x:=by
 apply ByteArray.ext;rw [ByteArray.data_extract];simp
theorem empty_append (x:ByteArray):(⟨#[]⟩:ByteArray)++x=x:=by
 apply ByteArray.ext;rw [ByteArray.data_append];simp
theorem zja (hI:zbD L f rows cols)(hx:inB x L=jU)(h4:x.size<=4000):zdv L f rows cols x=zcl L f rows cols x:=by
 have a:zgy L f rows cols x 0=f x:=by
  unfold zgy stT;rw [List.take_zero];show f (rows.getD 0 ⟨#[]⟩++_)=_;rw [dE,hI.r0,eL,zht,empty_append]
 unfold zdv zcl;rw [find_adj (zgy L f rows cols x),a]
 by_cases h:zat (zcM L f rows cols) (zal (zcM L f rows cols) 0 (wl x))=f x
 ·rw [if_pos h,if_neg (by rintro ⟨-,h2⟩;exact h2 h)]
 ·rw [if_neg h,if_pos ⟨by rw [hx];simpa using h4,h⟩]
theorem zhz (hx:inB x L=jU) (k:Nat):inB (x.extract k x.size) L=jU:=by
 obtain⟨h1,h2⟩:=zey.1 hx;have c:(x.extract k x.size).size<=x.size:=by rw [ByteArray.size_extract];omega
 have a:(x.extract k x.size).data.toList=x.data.toList.drop k:=by
  rw [ByteArray.data_extract,Array.toList_extract,List.extract_eq_take_drop,dJ];rw [List.length_drop];show x.data.toList.length - k<=x.size - k;rw [Array.length_toList];exact dD _
 have d:zbg (x.extract k x.size)=jU:=by
  unfold zbg at h1 ⊢;simp only [dH,decide_eq_true_eq,eK] at h1 ⊢;refine⟨oM,fun b hb=>h1.2 b ?_⟩;rw [a] at hb;exact jK hb
 refine zey.2 ⟨d,?_⟩;apply Nat.eq_of_testBit_eq;intro l;rw [fO,Bool.and_eq_left_iff_imp];intro hl;have h3:l∈wl x:=by
  have:=(zdw _ _).1 hl;unfold wl at this ⊢;rw [a,List.map_drop] at this;exact jK this
 have h4:=(zdw _ _).2 h3;rw [<- h2,fO,dH] at h4;exact h4.2
theorem zhX {col:ByteArray}(hx:inB x L=jU)(h4:x.size<=4000)(h:zcl L f rows cols x=fU col):inB col L=jU/\col.size<=4000:=by
 unfold zcl at h
 split at h
 ·cases h
 ·obtain⟨k,-,rfl⟩:=Option.map_eq_some_iff.1 h;exact⟨zhz hx _,by rw [ByteArray.size_extract];omega⟩
theorem learn_same (hI:zbD L f rows cols)(hx:inB x L=jU)(h4:x.size<=4000) :
  zba L f rows cols x=match zcl L f rows cols x with
   |none=>fV
   |some col=>if (!zcJ cols col&&decide (cols.length≠20))=jU then (zar L f (cols++[col]) (12 - rows.length) rows).map fun r=>(r,cols++[col]) else fV:=by
 unfold zba;rw [zja hI hx h4];cases h:zcl L f rows cols x with
 |none=>rfl
 |some col =>
  obtain⟨h1,h2⟩:=zhX hx h4 h;dsimp only;unfold zfE;rw [h1,decide_eq_true h2];rfl
end
section
variable {J:zbi}{B b0 L base nr cr nc cc kn:Nat}{S S':Nat->Prop}{W W':jX}{R C:Option Addr}{rows cols:List ByteArray}{f:ByteArray->Bool}{rc:j4}
theorem tb_cell {bT tc:Nat}{TA:Option Addr}{g:Nat->Nat->Nat}(h:w.ownsRow bT 166 6 (fC TA n tc) n (tbC n g))(hq:q<n)(hl:l<6):∃ gT,TA=fU ⟨gT,0,fV⟩/\w.cell? ⟨gT,q*6+l,fV⟩=fU (.int iX (g q l:Nat)):=by
 obtain⟨gT,rfl,-,-⟩:=zM h oM;exact⟨gT,rfl,by rw [h.cellAt _ oM,tbC_get hq hl]⟩
theorem st_step (hl:(wl x)[k]?=fU l):stT L f rows cols x (k+1)=aGo (zcM L f rows cols) (stT L f rows cols x k) l:=by
 unfold stT;rw [dN,hl,eG,zaN]
theorem or_splitWord (hO:zhk b0 L f J kn rc)(hj:J B W S)(hB:B+6000<10000000)(hT:zgW W S base R nr cr C nc cc rows cols)(hI:zbD L f rows cols)(hcl:zaI L f rows cols=fV)(hb0:b0<=W.heap.size)(hL:L<64)(hx:inB x L=jU)(hxs:x.size<=4000) :
  j6 j3 128 #[orcV L kn rc,j2 #[fC R nr cr,fC C nc cc],x] W (RetO J (.tuple #[kA ((zcl L f rows cols x).getD ⟨#[]⟩),j7 (zcl L f rows cols x).isSome]) (B+6000) S W):=by
 have HO:=za hO;have HI:=za hI;have hv:=za (zcS hI hcl hL);have hx1:Ext W ((W.alloc (.cells #[(L:Int),.func (.func kn) #[rc] #[]] 83)).alloc (.cells #[fC R nr cr,fC C nc cc] 90)):=((cY _).alloc _).alloc _;obtain⟨b3,b4⟩:=zN (cY ((W.alloc (.cells #[(L:Int),.func (.func kn) #[rc] #[]] 83)).alloc (.cells #[fC R nr cr,fC C nc cc] 90)));have ae:=za (fun (q:Nat) (hq:W.heap.size<=q)=>zbi.fresh hO.ok hj hq);have ce:=hO.ok.keep hj hx1 (fun _ _ h=>h.elim);have bs:=za (hT.ext hx1);have bw:=za hT.lens;have cj:W.heap.size<((W.alloc (.cells #[(L:Int),.func (.func kn) #[rc] #[]] 83)).alloc (.cells #[fC R nr cr,fC C nc cc] 90)).heap.size/\W.heap.size+1<((W.alloc (.cells #[(L:Int),.func (.func kn) #[rc] #[]] 83)).alloc (.cells #[fC R nr cr,fC C nc cc] 90)).heap.size:=by simp;omega
 have Hx:=za hx;have Hb:=za (fun k hk=>zaU (zbj hx) (k:=k) hk);have aA:=za (fun (X:jX) (hX:Ext W X)=>zgD hO (hO.ok.keep hj hX (fun _ _ h=>h.elim)) oM (hT.ext hX) hI hcl (Nat.le_trans hb0 hX.size) hL);have b6:=hO.in_;have a7:(zcM L f rows cols).next.length=rows.length:=by simp [zcM]
 have aw:stT L f rows cols x 0=0:=by simp [stT,zal]
 have E:=za a7;have bG:=za aw;have bA:=za hI.r12;have bx:=za hI.r1;clear hO hI hT hcl hx hj a7 aw;obtain⟨a,ha⟩:∃ a,Hid (zcM L f rows cols=a):=⟨_,za rfl⟩;have ao:=za (show a.al=(L:Int) by rw [<- ha.out];rfl);have aJ:=za (show zcl L f rows cols x=if zat a (zal a 0 (wl x))=f x then fV else ((eT x.size).find? fun k=>zgy L f rows cols x (k+1) != f x).map fun k=>x.extract (k+1) x.size by rw [<- ha.out];rfl);have bd:=za (fun (k l:Nat) (hl:(wl x)[k]?=fU l)=>st_step (L:=L) (f:=f) (rows:=rows) (cols:=cols) hl);rw [ha.out] at aA hv E bd
 go_enter Tryz.func128,Tryz.ntmps128
 go_upto_region 1 with fail
 generalize (W.alloc _).alloc _=w1 at *;have k3:=b3.cell;have k4:=b4.cell;go_upto_region 2 with (go_at_call 51;refine (aA.out _ hx1).mono ?_;rintro e w2 ⟨S2,A,A',n,c,n',c',rfl,aS,ah⟩;rw [ao.out])
 obtain⟨w3,U0⟩:∃ x,Hid (w2.alloc (.cells #[(L:Int),fC A n c,fC A' n' c'] 27)=x):=⟨_,za rfl⟩;have af:=Ext.bl_ U0.out;have hx8:Ext w2 w3:=((cY _).alloc _).trans (e6 U0.out);obtain⟨G,aW⟩:∃ G,Hid (G=w2.heap.size):=⟨_,za rfl⟩;rw [<- aW.out] at af ⊢;have bR:=ah.size;have ar:=za (fun (q:Nat) (hq:w2.heap.size<=q)=>zbi.fresh HO.out.ok ah.j hq);have bq:=ar.out G (oH aW.out);have B3:=za b3;have B4:=za b4;clear k3 k4 b3 b4;rw [U0.out] at *;have k8:=af.cell;have ax:=aS.ext hx8;have aV:=za (zac.reads ax.own_);go_upto_region 3 with (go_at_call 119;rw [<- ao.out];refine (zch aV.out hv.out).mono ?_;rintro e w4 ⟨TA,tc,rfl,⟨bT,cb,aH⟩,aj⟩)
 have be:=hx8.trans aj;have a4:=za (ah.ext HO.out.ok be);have aT:=za (ax.ext aj);have ap:=za (af.ext aj);have ay:=za (show zgl w4 S2 bT 166 6 (fC TA a.next.length tc) a.next.length (tbC a.next.length (aGo a)) from ⟨aH,fun b hb=>ar.out b (by have:=(aH.lt b hb).1;have:=hx8.size;omega)⟩);have cg:a.next.length<=12:=by rw [E.out];exact bA.out
 clear af hx8 aS ax aV aH aj k8 ah aA;go_wp2_with fail
 go_loopw [10,11,21] (fun qv _ iv wr=>∃ k:Nat,iv=.int iX k/\qv=.int iX (zal a 0 ((wl x).take k))/\k<=x.size/\Ext w4 wr) (fun _ _ iv _=>x.size - (intOf iv).toNat)
 case atStart=>exact⟨0,rfl,by simp [zal],dF _,cY _⟩
 case round =>
  obtain⟨k,rfl,rfl,hk,t⟩:=hrel;have p:∀ k,zal a 0 ((wl x).take k)<a.next.length:=fun k=>zeh hv.out (fun l hl=>zkg (zbj Hx.out) l (List.mem_of_mem_take hl)) (by rw [E.out];exact bx.out)
  by_cases hlt:k<x.size
  ·have a6:(k:Int)<(x.size:Int):=oM;have bt:=Hb.out k hlt;have Q:=za (zet hlt);have U:=za (show ltr (x[k].toNat)=((x[k].toNat - 97:Nat):Int) by unfold ltr;rw [if_neg oM];omega);obtain⟨l,T⟩:∃ l,Hid (l=x[k].toNat - 97):=⟨x[k].toNat - 97,za rfl⟩;rw [<- T.out] at Q U;have aF:l<6:=oH T.out;have Y:=za (show zal a 0 ((wl x).take (k+1))=aGo a (zal a 0 ((wl x).take k)) l by rw [dN,Q.out,eG,zaN]);have m:=p k;obtain⟨q,hqe⟩:∃ q,Hid (zal a 0 ((wl x).take k)=q):=⟨_,za rfl⟩;rw [hqe.out] at Y m ⊢;obtain⟨gT,rfl,i⟩:=tb_cell (ay.out.ext t).own m aF;rw [<- Y.out] at i;have CT:∀ X,Ext wr X->X.cell? ⟨gT,q*6+l,fV⟩=fU (.int iX (zal a 0 ((wl x).take (k+1)):Nat)):=fun X hX=>hX.aa i;have aI:(q:Int)<(a.next.length:Int):=oM;have a5:(l:Int)<6:=oM;have d:=cY wr;clear i p;obtain⟨q',V⟩:∃ q',Hid (zal a 0 ((wl x).take (k+1))=q'):=⟨_,za rfl⟩;rw [V.out] at CT;go_upto_region 7 with fail
   refine uR (fun X=>Ext wr X) [] (zy.of [0,1,2,3,5,4,6,7,8]) ?_;refine uQ ?_;refine ze fun K hK=>?_;go_simp;refine (zcg x k hlt _).mono ?_;rw [U.out];rintro e w6 ⟨rfl,rfl⟩;refine hK.out _ _ d.drew ?_;refine pT ?_;refine uQ ?_;refine zg ?_;go_wp2_with fail
   go_roundw
   case rel=>exact⟨k+1,gM,by rw [V.out],oM,t.trans d.drew⟩
   case measure=>exact uM
  ·obtain rfl:k=x.size:=oM;have bB:=za (show zal a 0 ((wl x).take x.size)=zal a 0 (wl x) by rw [dJ (by rw [zfl];exact dD _)]);have m:=p x.size;rw [bB.out] at m ⊢;have an:=za p;obtain⟨q,hqe⟩:∃ q,Hid (zal a 0 (wl x)=q):=⟨_,za rfl⟩;rw [hqe.out] at m ⊢;have ai:=za (a4.out.ext HO.out.ok t);have H:=za (HO.out.ask _ wr S2 x ai.out.j oM Hx.out oM);obtain⟨F,g⟩:∃ F,Hid (f x=F):=⟨_,za rfl⟩;rw [g.out] at H;have k3:=(ai.out.blk B3.out (ae.out _ (dD _))).1.cell;have aU:=za (aT.out.ext t);have aZ:=za (ay.out.ext t);have a1:=za (ap.out.ext t);clear p a4 aT ay ap t;go_upto_region 10 with fail
   refine H.out.mono ?_;rintro e w5 ⟨S5,rfl,I⟩;have v:=za (ai.out.trans I);have ad:=aU.out.kp I;have aX:=za (aZ.out.kp I);have a0:=(I.blk a1.out bq).1;have k8:=a0.cell;obtain rfl:=own_num ad.acc;have u:=za (zl hv.out).2.2.1;obtain⟨gA,rfl,-,-⟩:=zM ad.acc (oH u.out);have cA:w5.cell? ⟨gA,q,fV⟩=fU (.bool (zat a q)):=by
    rw [ad.acc.cellAt q (oH u.out)];unfold zat zY;rw [dO,dE,dB (oH u.out)];rfl
   have bP:(q:Int)<(a.acc.length:Int):=oH u.out;obtain⟨ba,ag⟩:∃ ba,Hid (zat a q=ba):=⟨_,za rfl⟩;rw [ag.out] at cA;clear ad a0 aU aZ a1 I H k3 ai;have a3:=(v.out.blk B3.out (ae.out _ (dD _)))
   by_cases hbe:ba=F
   ·have o:=za (show RetO J (.tuple #[kA ((zcl L f rows cols x).getD ⟨#[]⟩),j7 (zcl L f rows cols x).isSome]) (B+6000) S W (j5 (.tuple #[kA ⟨#[]⟩,j7 j1])) w5 from
     ⟨S5,by rw [aJ.out,hqe.out,ag.out,g.out,if_pos hbe];rfl,(v.out.more HO.out.ok oM).back hx1⟩)
    have y:(ba==F)=jU:=by rw [hbe];simp
    go_wp2_with fail
    go_ret2;exact o.out
   ·have y:(ba==F)=j1:=by simpa using hbe
    have aP:=za hbe;clear hbe;go_upto_region 12 with fail
    clear k8 cA y a3;go_wp2_with fail
    go_loopw [10,13,46] (fun qv _ iv wr=>∃ (k:Nat) (S6:Nat->Prop),iv=.int iX k/\qv=.int iX (zal a 0 ((wl x).take k))/\k<=x.size/\Hid (Kp J (B+1693+k) S w1 wr S6)/\Hid (zgl wr S6 bT 166 6 (fC TA a.next.length tc) a.next.length (tbC a.next.length (aGo a)))/\Hid (∀ j,j<k->zgy L f rows cols x (j+1)=F)) (fun _ _ iv _=>x.size - (intOf iv).toNat)
    case atStart=>exact⟨0,S5,rfl,by simp [zal],dF _,v,aX,za (fun j h=>oM)⟩
    case round =>
     clear v aX;obtain⟨k,S6,rfl,rfl,hk,aE,az,aG⟩:=hrel
     by_cases hlt:k<x.size
     ·have a6:(k:Int)<(x.size:Int):=oM;have bt:=Hb.out k hlt;have Q:=za (zet hlt);have U:=za (show ltr (x[k].toNat)=((x[k].toNat - 97:Nat):Int) by unfold ltr;rw [if_neg oM];omega);obtain⟨l,T⟩:∃ l,Hid (l=x[k].toNat - 97):=⟨x[k].toNat - 97,za rfl⟩;rw [<- T.out] at Q U;have aF:l<6:=oH T.out;have Y:=za (show zal a 0 ((wl x).take (k+1))=aGo a (zal a 0 ((wl x).take k)) l by rw [dN,Q.out,eG,zaN]);have Z:=an.out k;have aa:=an.out (k+1);have bc:=za (show zgy L f rows cols x (k+1)=f (rows.getD (zal a 0 ((wl x).take (k+1))) ⟨#[]⟩++x.extract (k+1) x.size) by rw [<- ha.out];rfl);obtain⟨q0,a9⟩:∃ q0,Hid (zal a 0 ((wl x).take k)=q0):=⟨_,za rfl⟩;rw [a9.out] at Y Z ⊢;obtain⟨gT,rfl,i⟩:=tb_cell az.out.own Z aF;rw [<- Y.out] at i;obtain⟨q',V⟩:∃ q',Hid (zal a 0 ((wl x).take (k+1))=q'):=⟨_,za rfl⟩;rw [V.out] at i aa bc;have CT:∀ X,Ext wr X->X.cell? ⟨gT,q0*6+l,fV⟩=fU (.int iX (q':Nat)):=fun X hX=>hX.aa i;have aI:(q0:Int)<(a.next.length:Int):=oM;have a5:(l:Int)<6:=oM;have d:=cY wr;clear i;go_upto_region 16 with fail
      refine uR (fun X=>Ext wr X) [] (zy.of [0,1,2,3,5,4,6,7,8]) ?_;refine uQ ?_;refine ze fun K hK=>?_;go_simp;refine (zcg x k hlt _).mono ?_;rw [U.out];rintro e w6 ⟨rfl,rfl⟩;refine hK.out _ _ d.drew ?_;refine pT ?_;refine uQ ?_;refine zg ?_;have M:=za (aE.out.ext HO.out.ok d.drew);have aY:=za (az.out.ext d.drew);clear CT aE az d;generalize wr.drew=wd at *;obtain⟨r,hr⟩:∃ r,rows[q']?=fU r:=⟨_,dB (by rw [<- E.out];exact aa)⟩;have bb:=za (dC hr);have ci:r.size<=12:=(HI.out.rin bb.out).2;obtain⟨gR,rfl,a2⟩:=zhJ (bs.out.kp M.out).r.own hr;obtain⟨y2,z⟩:∃ y2,Hid (x.extract (k+1) x.size=y2):=⟨_,za rfl⟩;have bV:y2.size<=4000:=by rw [<- z.out,ByteArray.size_extract];omega
      obtain⟨z2,ak⟩:∃ z2,Hid (r++y2=z2):=⟨_,za rfl⟩;have bf:=za (show inB z2 L=jU by
       rw [<- ak.out,<- z.out];exact ziM (HI.out.rin bb.out).1 (zhz Hx.out (k+1)) (by rw [z.out];omega))
      have bC:z2.size<=9000:=by rw [<- ak.out,ByteArray.size_append];omega
      have av:=za (show zgy L f rows cols x (k+1)=f z2 by rw [bc.out,dE,hr,eL,z.out,ak.out]);obtain⟨bz,aB⟩:∃ bz,Hid (f z2=bz):=⟨_,za rfl⟩;have bQ:¬ 9223372036854775807<r.size+y2.size:=oM;have ch:(q':Int)<(nr:Int):=by rw [<- bw.out.1,<- E.out];omega
      have bS:=IntWalk.i64_in ((k:Int)+1) oM;have cf:(k:Int)+1<=(x.size:Int):=oM;have bO:(0:Int)<=(k:Int)+1:=oM;have bU:=z.out;have bW:=ak.out;have K3:∀ X,Ext wd X->∀ j,X.cell? ⟨W.heap.size,j,fV⟩=#[Value.int iX (L:Int),.func (.func kn) #[rc] #[]][j]?:=fun X hX=>((M.out.blk B3.out (ae.out _ (dD _))).1.ext hX).cell;have K4:∀ X,Ext wd X->∀ j,X.cell? ⟨W.heap.size+1,j,fV⟩=#[fC (fU gR) nr cr,fC C nc cc][j]?:=fun X hX=>((M.out.blk B4.out (ae.out _ oM)).1.ext hX).cell;have CR:∀ X,Ext wd X->X.cell? ⟨gR,q',fV⟩=fU (.string r):=fun X hX=>hX.aa a2;have d:=cY wd;clear a2 hr;go_upto_region 17 with fail
      refine uR (fun X=>Ext wd X) [12] (zy.of [0,1,2,3,4,5,6,7,8,9,10,11,13,12,14]) ?_;refine uQ ?_;have O:=M.out.ext HO.out.ok d.drew;have s:=za (HO.out.ask _ wd.drew S6 z2 O.j oM bf.out bC);rw [aB.out] at s;refine zb fun K hK=>?_;go_simp;refine s.out.mono ?_;rintro e w7 ⟨S7,rfl,aD⟩;refine hK.out _ _ ?_;refine pT ?_;refine uQ ?_;refine zg ?_;have au:=za (O.trans aD);have br:=za ((aY.out.ext d.drew).kp aD);clear K3 K4 CR s O aD M aY
      by_cases hbe:bz=F
      ·have y:(bz==F)=jU:=by rw [hbe];simp
       have a8:=za (show ∀ j,j<k+1->zgy L f rows cols x (j+1)=F from fun j hj=>by
        rcases dX (eF hj) with h1|rfl
        ·exact aG.out j h1
        ·rw [av.out,aB.out,hbe])
       clear y;have D:=za hbe;clear hbe;go_wp2_with fail
       ·rename_i hh;exfalso;rw [D.out] at hh;simp at hh
       ·go_roundw
        case rel=>exact⟨k+1,S7,gM,by rw [V.out],oM,za (by have:=au.out;rwa [show B+1693+k+1=B+1693+(k+1) by omega] at this),br,a8⟩
        case measure=>exact uM
      ·have aq:(bz != F)=jU:=by simpa using hbe
       have y:(bz==F)=j1:=by simpa using hbe
       have o:=za (show RetO J (.tuple #[kA ((zcl L f rows cols x).getD ⟨#[]⟩),j7 (zcl L f rows cols x).isSome]) (B+6000) S W (j5 (.tuple #[y2,j7 jU])) w7 from by
        have aC:(eT x.size).find? (fun k=>zgy L f rows cols x (k+1) != f x)=fU k:=zeN hlt (fun j hj=>by rw [aG.out j hj,g.out];simp) (by rw [av.out,aB.out,g.out];exact aq);exact⟨S7,by rw [aJ.out,hqe.out,ag.out,g.out,if_neg aP.out,<- g.out,aC,<- z.out];rfl,(au.out.more HO.out.ok oM).back hx1⟩)
       have D:=za hbe;clear hbe aq y;go_wp2_with fail
       ·go_ret2;exact o.out
       ·rename_i hh;exfalso;exact D.out (by simpa using hh)
     ·have cd:¬ (k:Int)<(x.size:Int):=oM;have o:=za (show RetO J (.tuple #[kA ((zcl L f rows cols x).getD ⟨#[]⟩),j7 (zcl L f rows cols x).isSome]) (B+6000) S W (j5 (.tuple #[kA ⟨#[]⟩,j7 j1])) wr from by
       have aC:(eT x.size).find? (fun k=>zgy L f rows cols x (k+1) != f x)=fV:=by
        rw [List.find?_eq_none];intro j hj;rw [List.mem_range] at hj;rw [aG.out j oM,g.out];simp
       exact⟨S6,by rw [aJ.out,hqe.out,ag.out,g.out,if_neg aP.out,<- g.out,aC];rfl,(aE.out.more HO.out.ok oM).back hx1⟩)
      go_wp2_with fail
      go_ret2;exact o.out
end
section
variable {J:zbi}{B b0 L base nr cr nc cc kn:Nat}{S S':Nat->Prop}{W W':jX}{R C:Option Addr}{rows cols:List ByteArray}{f:ByteArray->Bool}{rc:j4}
noncomputable def addT (rows cols:List ByteArray) (x:ByteArray):Option (List ByteArray × List ByteArray):=if (!zcJ cols x&&decide (cols.length≠20))=jU then fU (rows,cols++[x]) else fV
theorem add_fin {w1 W5:jX}{b2 b8:Nat}{v2 v8:j4}(hfr:∀ q,W.heap.size<=q->¬ S q)(hx0:Ext W w1)(hx:Ext w1 W5)(hb:Blk W5 Z 90 #[(),()])(hZ:W.heap.size<=Z)(h2:W5.ownsRow b2 9 1 v2 rows.length (zO rows))(h8:W5.ownsRow b8 9 1 v8 (cols.length+1) (zO cols++[.string x]))(hb2:W.heap.size<=b2)(hb8:W.heap.size<=b8) :
  Ext W ((W5.setCell Z v2).setCell ⟨Z,1,fV⟩ v8)/\Blk ((W5.setCell Z v2).setCell ⟨Z,1,fV⟩ v8) Z 90 #[v2,v8] /\
  ∃ R' cr' C' cc',v2=fC R' rows.length cr'/\v8=.slice C' (cols++[x]).length cc'/\zgW ((W5.setCell Z v2).setCell ⟨Z,1,fV⟩ v8) S W.heap.size R' rows.length cr' C' (cols++[x]).length cc' rows (cols++[x]):=by
 have d:=(dG W5 Z 0 v2).trans (dG _ Z 1 v8);have a:=zdp h2 hb2;have c:=zdp h8 hb8;have f:(cols++[x]).length=cols.length+1:=sM;obtain⟨R',cr',rfl⟩:=zh h2;obtain⟨C',cc',rfl⟩:=zh h8;refine⟨(hx0.trans hx).frm d (fun q hq e=>by have g:q=Z:=e;omega),by simpa using (hb.ae 0 (fC R' rows.length cr')).ae 1 (fC C' (cols.length+1) cc'),R',cr',C',cc',rfl,by rw [f],⟨⟨zf a d (fun b hb' e=>zL a hb dM hb' e),fun b hb'=>hfr b (a.lt b hb').1⟩,⟨?_,fun b hb'=>?_⟩⟩⟩
 ·rw [f,zjb];exact zf c d (fun b hb' e=>zL c hb dM hb' e)
 ·rw [f] at hb';exact hfr b (c.lt b hb').1
theorem yW14b1 {P:Prop}(h:P:=by
 have ho28:=zf ho2 hf8 (fun b hb e=>hdis b hb e);have hb48:=hb4.frm hf8 (fun e=>zL ho5 hb4 dM e rfl);obtain⟨C8,c8,rfl⟩:=zh ho8;have k8:=hb48.cell;have f8:=hb48.frozen;refine uQ ?_;refine zb fun K hK=>?_;go_simp;refine hK.out _ _ ?_;refine pT ?_;refine uQ ?_;refine zg ?_;have zkk:=add_fin (x:=x) hwS.out hx1 hx8 hb48 oM ho28 ho8 oM oM;obtain⟨h1,h2,R9,cr9,C9,cc9,h3,h4,h5⟩:=zkk;have cf:=h2.cell;have HT9:=za h5;have Hk9:=za (hkW.out.ext HJ.out h1);have H3:=za h3;have H4:=za h4;clear h3 h4 h2 h5 k8 f8 hb48 ho28 ho8 hg8 hat8;generalize (w8.setCell ⟨W.heap.size+1,0,none⟩ (.slice R6 rows.length cr6)).setCell ⟨W.heap.size+1,1,none⟩ (.slice C8 (cols.length+1) c8)=w9 at *;go_wp2_with fail
 have hv9:Value.tuple #[.agg #[.slice R6 rows.length cr6,.slice C8 (cols.length+1) c8],.bool true]=.tuple #[.agg #[.slice R9 rows.length cr9,.slice C9 (cols++[x]).length cc9],.bool true]:=by rw [H3.out,H4.out]
 exact bodyPost_ret (v:=.tuple #[.agg #[.slice R6 rows.length cr6,.slice C8 (cols.length+1) c8],.bool true]) (by simp [results,Tryz.results129,go_sem,cf]) rfl ⟨S,Hk9.out,.inr ⟨rows,cols++[x],R9,C9,cr9,cc9,had.out,by rw [hv9],HT9.out⟩⟩
 ):P:=h
theorem yW14a1 {P:Prop}(h:P:=by
 refine hK.out _ _ hxw5 ?_;refine pT ?_;refine uQ ?_;have hb4:=b4.ext hxw5;refine zb fun K hK=>?_;refine zx w5 _ _ 88 rfl _ 9 _ 1 16 Tryz.underlying88 zo rfl dM _ cols.length (zO cols) rfl ho5 _ _ _ 1 1 #[Value.string x].toList rfl (Reads.af ho7) (by simp [Value.oneCell']) lM oM (by have:=hy5.size;have:=hy7.size;omega) ?_;intro v8 w8 ho8 hg8 hat8;refine hK.out _ _ ?_;refine pT ?_;have hx8:Ext w1 w8:=hxw5.grown hg8 (fun q hq=>by have:=(ho5.lt q hq).1;omega);have hf8:Frm (fun q=>(Value.slice C6 cols.length cc6).ownBlock=some q) w5 w8:=Frm.ab hg8;exact yW14b1
 ):P:=h
theorem zin (hJ:zbi.Ok b0 J)(hj:J B W S)(hT:zgW W S base R nr cr C nc cc rows cols)(hI:zbD L f rows cols) :
  j6 j3 129 #[j2 #[fC R nr cr,fC C nc cc],x] W (RetTO J (addT rows cols x) B S W):=by
 obtain⟨rfl,rfl⟩:=hT.lens;have G:=hI.r12;have F:=hI.c20;have HJ:=za hJ;have hwS:=za (fun (q:Nat) (hq:W.heap.size<=q)=>zbi.fresh hJ hj hq);obtain⟨w1,U0⟩:∃ x,Hid ((W.alloc (.cells #[fC R rows.length cr,fC C cols.length cc] 90)).alloc (.cells #[(),()] 90)=x):=⟨_,za rfl⟩;have hx1:Ext W w1:=(((cY _).alloc _).alloc _).trans (e6 U0.out);obtain⟨u,b4⟩:=zN (e6 U0.out);have k:=za (hT.ext hx1);have O:=za (hJ.keep hj hx1 (fun _ _ h=>h.elim));have hkW:=za (Kp.refl (J:=J) hj);clear hT hI hJ hj
 go_enter Tryz.func129,Tryz.ntmps129
 go_upto_region 1 with fail
 rw [U0.out] at *;have Y:=u.cell;have Q:=b4.cell;have I:=b4.frozen;have g:=za (contains_str (x:=x) (c:=cc) (eE k.out.c.own));have d:∀ (_:addT rows cols x=fV),Hid (Kp J B S W ((w1.setCell ⟨W.heap.size+1,0,fV⟩ ()).setCell ⟨W.heap.size+1,1,fV⟩ ()) S/\∀ i,((w1.setCell ⟨W.heap.size+1,0,fV⟩ ()).setCell ⟨W.heap.size+1,1,fV⟩ ()).cell? ⟨W.heap.size+1,i,fV⟩=#[fC fV 0 0,fC fV 0 0][i]?):=fun _=>by
  have M:=(dG w1 (W.heap.size+1) 0 (fC fV 0 0)).trans (dG _ (W.heap.size+1) 1 (fC fV 0 0));have E:Ext W ((w1.setCell ⟨W.heap.size+1,0,fV⟩ ()).setCell ⟨W.heap.size+1,1,fV⟩ ()):=hx1.frm M (fun q hq e=>by have V:q=W.heap.size+1:=e;omega);refine⟨hkW.out.ext HJ.out E,fun i=>?_⟩;have:=((b4.ae 0 (fC fV 0 0)).ae 1 (fC fV 0 0)).cell i;simpa using this
 by_cases h20:cols.length=20
 ·have had:=za (show addT rows cols x=fV by unfold addT;rw [if_neg];rw [h20];simp);have o:=d had.out;have n:((cols.length:Int)==20)=jU:=by rw [h20];rfl
  clear h20 d u b4;go_wp2_with fail
  have cf:=o.out.2;generalize (w1.setCell ⟨W.heap.size+1,0,fV⟩ ()).setCell ⟨W.heap.size+1,1,fV⟩ ()=w9 at *;exact bodyPost_ret (v:=.tuple #[j2 #[(),()],j7 j1]) (by simp [results,Tryz.results129,go_sem,cf]) rfl ⟨S,o.out.1,.inl ⟨had.out,rfl⟩⟩
 ·have n:((cols.length:Int)==20)=j1:=by simp;omega
  cases hm:zcJ cols x with
  |true =>
   have had:=za (show addT rows cols x=fV by unfold addT;rw [if_neg];rw [hm];simp);have o:=d had.out;rw [hm] at g;clear h20 d u b4 hm;go_wp2_with (go_at_call 210;refine g.out.mono ?_;rintro e m ⟨rfl,rfl⟩)
   have cf:=o.out.2;generalize (w1.setCell ⟨W.heap.size+1,0,fV⟩ ()).setCell ⟨W.heap.size+1,1,fV⟩ ()=w9 at *;exact bodyPost_ret (v:=.tuple #[j2 #[(),()],j7 j1]) (by simp [results,Tryz.results129,go_sem,cf]) rfl ⟨S,o.out.1,.inl ⟨had.out,rfl⟩⟩
  |false =>
   have had:=za (show addT rows cols x=fU (rows,cols++[x]) by unfold addT;rw [if_pos];rw [hm];simp;exact h20);rw [hm] at g;clear d hm Q I;go_upto_region 3 with (go_at_call 210;refine g.out.mono ?_;rintro e m ⟨rfl,rfl⟩)
   have U:∀ X,Ext w1 X->∀ q,X.cell? ⟨W.heap.size,q,fV⟩=#[fC R rows.length cr,fC C cols.length cc][q]?:=fun X hX=>(u.ext hX).cell;have D:=cY w1;have H:=hx1.size;refine uR (fun X=>Ext w1 X) [5,8,10] (zy.app [0,1,3,4,6] (zy.two 2 (zy.two 5 (zy.of [7,8,9,10,11]) 7 (zy.of [5,8,9,10,11])) 7 (zy.of [2,5,8,9,10,11]))) ?_;refine uQ ?_;have j:=D.drew;generalize w1.drew=t at *;refine zn (fun K hK=>?_) (fun K hK=>?_)
   ·go_simp;refine (zbE (eE (zi k.out.r.own j)) oM).mono ?_;rintro e m ⟨T,rfl,ho2,l⟩;have b:=j.trans l;obtain⟨R6,cr6,rfl⟩:=zh ho2;have z:=j.size;refine hK.out _ _ b ?_;refine pT ?_;refine uQ ?_;refine zn (fun K hK=>?_) (fun K hK=>?_)
    ·go_simp;refine (zbE (eE (zi k.out.c.own b)) oM).mono ?_;rintro e w5 ⟨s,rfl,ho5,hy5⟩;have hdis:∀ q,(fC R6 rows.length cr6).ownBlock=fU q->s.ownBlock≠fU q:=fun q h1 h2=>by have:=(ho2.lt q h1).2;have:=(ho5.lt q h2).1;omega
     have hxw5:=b.trans hy5;obtain⟨C6,cc6,rfl⟩:=zh ho5;have p:=b.size;replace ho2:=zi ho2 hy5;refine hK.out _ _ hxw5 ?_;refine pT ?_;refine uQ ?_;refine ze fun K hK=>?_;go_simp;have ho7:=World.ownsRow_lit (base:=w5.heap.size) (e:=9) (size:=1) w5 #[x] 1 (dD _) dM rfl;have hy7:Ext w5 (w5.alloc (.cells #[x] 9)):=(cY _).alloc _;have a:=hxw5.trans hy7;replace ho2:=zi ho2 hy7;replace ho5:=zi ho5 hy7;refine hK.out _ _ a ?_;generalize w5.alloc _=y at *;refine pT ?_;refine uQ ?_;have hb4:=b4.ext a;refine zb fun K hK=>?_;refine zx y _ _ 88 rfl _ 9 _ 1 16 Tryz.underlying88 zo rfl dM _ cols.length (zO cols) rfl ho5 _ _ _ 1 1 #[kA x].toList rfl (eE ho7) (by simp [Value.oneCell']) lM oM (by have:=hy5.size;have:=hy7.size;omega) ?_;intro v8 w8 ho8 hg8 hat8;refine hK.out _ _ ?_;refine pT ?_;have hx8:Ext w1 w8:=a.grown hg8 (fun q hq=>by have:=(ho5.lt q hq).1;omega);have hf8:Frm (fun q=>(fC C6 cols.length cc6).ownBlock=fU q) y w8:=Frm.ab hg8;exact yW14b1
    ·go_simp;have ho7:=World.ownsRow_lit (base:=m.heap.size) (e:=9) (size:=1) m #[x] 1 (dD _) dM rfl;have hy7:Ext m (m.alloc (.cells #[x] 9)):=(cY _).alloc _;have a:=b.trans hy7;replace ho2:=zi ho2 hy7;refine hK.out _ _ a ?_;generalize m.alloc _=y at *;refine pT ?_;refine uQ ?_;refine ze fun K hK=>?_;go_simp;refine (zbE (eE (zi k.out.c.own a)) oM).mono ?_;rintro e w5 ⟨s,rfl,ho5,hy5⟩;have hdis:∀ q,(fC R6 rows.length cr6).ownBlock=fU q->s.ownBlock≠fU q:=fun q h1 h2=>by have:=(ho2.lt q h1).2;have:=(ho5.lt q h2).1;omega
     have hxw5:=a.trans hy5;obtain⟨C6,cc6,rfl⟩:=zh ho5;have p:=a.size;replace ho2:=zi ho2 hy5;replace ho7:=zi ho7 hy5;exact yW14a1
   ·go_simp;have ho7:=World.ownsRow_lit (base:=t.heap.size) (e:=9) (size:=1) t #[x] 1 (dD _) dM rfl;have hy7:Ext t (t.alloc (.cells #[x] 9)):=(cY _).alloc _;have a:=j.trans hy7;refine hK.out _ _ a ?_;generalize t.alloc _=y at *;refine pT ?_;refine uQ ?_;refine ze fun K hK=>?_;go_simp;refine (zbE (eE (zi k.out.r.own a)) oM).mono ?_;rintro e m ⟨T,rfl,ho2,l⟩;have b:=a.trans l;obtain⟨R6,cr6,rfl⟩:=zh ho2;have z:=a.size;replace ho7:=zi ho7 l;refine hK.out _ _ b ?_;refine pT ?_;refine uQ ?_;refine ze fun K hK=>?_;go_simp;refine (zbE (eE (zi k.out.c.own b)) oM).mono ?_;rintro e w5 ⟨s,rfl,ho5,hy5⟩;have hdis:∀ q,(fC R6 rows.length cr6).ownBlock=fU q->s.ownBlock≠fU q:=fun q h1 h2=>by have:=(ho2.lt q h1).2;have:=(ho5.lt q h2).1;omega
    have hxw5:=b.trans hy5;obtain⟨C6,cc6,rfl⟩:=zh ho5;have p:=b.size;replace ho7:=zi ho7 hy5;replace ho2:=zi ho2 hy5;exact yW14a1
end
section
variable {J:zbi}{B b0 L base nr cr nc cc kn:Nat}{S S':Nat->Prop}{W W':jX}{R C:Option Addr}{rows cols:List ByteArray}{f:ByteArray->Bool}{rc:j4}
theorem zhd {w5:jX}{S5:Nat->Prop}{u0 u1:j4}(hJ:zbi.Ok b0 J)(hk:Kp J B S W w5 S5)(hb:Blk w5 Z 90 #[u0,u1])(hZ:¬ S5 Z)(hWZ:W.heap.size<=Z)(hbZ:b0<=Z) :
  Blk ((w5.setCell Z ()).setCell ⟨Z,1,fV⟩ ()) Z 90 #[(),()]/\Kp J B S W ((w5.setCell Z ()).setCell ⟨Z,1,fV⟩ ()) S5:=by
 have b:=(dG w5 Z 0 (fC fV 0 0)).trans (dG _ Z 1 (fC fV 0 0));exact⟨by simpa using (hb.ae 0 (fC fV 0 0)).ae 1 (fC fV 0 0),hk.own hJ b (fun q _ e=>by have a:q=Z:=e;rw [a];exact⟨hWZ,hbZ,hZ⟩)⟩
theorem Blk.far2 {t:TypeId}{cs:Array j4}(h:Blk w g t cs)(hne:g≠Z) (u v:j4):Blk ((w.setCell Z u).setCell ⟨Z,1,fV⟩ v) g t cs:=(h.far (p:=⟨Z,0,fV⟩) hne u).far (p:=⟨Z,1,fV⟩) hne v
theorem zgE (hO:zhk b0 L f J kn rc)(hj:J B W S)(hB:B+27840<10000000)(hT:zgW W S base R nr cr C nc cc rows cols)(hI:zbD L f rows cols)(hcl:zaI L f rows cols=fV)(hb0:b0<=W.heap.size)(hL:L<64)(hx:inB x L=jU)(hxs:x.size<=4000) :
  j6 j3 54 #[orcV L kn rc,j2 #[fC R nr cr,fC C nc cc],x] W (RetTO J (zba L f rows cols x) (B+27840) S W):=by
 have s:=za hO;have HI:=za hI;have aa:=za (learn_same hI hx hxs);have V:=za (fun (col:ByteArray) (h:zcl L f rows cols x=fU col)=>zhX hx hxs h);obtain⟨w1,U0⟩:∃ x,Hid (((W.alloc (.cells #[(L:Int),.func (.func kn) #[rc] #[]] 83)).alloc (.cells #[fC R nr cr,fC C nc cc] 90)).alloc (.cells #[(),()] 90)=x):=⟨_,za rfl⟩;have hx1:Ext W w1:=((((cY _).alloc _).alloc _).alloc _).trans (e6 U0.out);obtain⟨b2,b3,b4⟩:=zK (e6 U0.out);have G:=za (fun (q:Nat) (hq:W.heap.size<=q)=>zbi.fresh hO.ok hj hq);have az:=hO.ok.keep hj hx1 (fun _ _ h=>h.elim);have ay:=za (hT.ext hx1);have o:=za (or_splitWord (x:=x) hO az oM (hT.ext hx1) hI hcl (Nat.le_trans hb0 hx1.size) hL hx hxs);have aJ:W.heap.size+1+1<w1.heap.size:=by rw [<- U0.out];simp
 clear hO hI hT hj hx
 go_enter Tryz.func54,Tryz.ntmps54
 go_upto_region 1 with fail
 rw [U0.out] at *;have k2:=b2.cell;have k3:=b3.cell;cases hsp:zcl L f rows cols x with
 |none =>
  have l:=za (show zba L f rows cols x=fV by rw [aa.out,hsp]);rw [hsp] at o;clear hsp;go_upto_region 2 with (go_at_call 128;refine o.out.mono ?_;rintro e w2 ⟨S2,rfl,b⟩)
  have a:=b.blk b4 (G.out _ oM);have k4:=a.1.cell;have f4:=a.1.frozen;have zkk:=zhd s.out.ok ((b.more s.out.ok (show B+6000<=B+27840 by omega)).back hx1) a.1 a.2 oM oM;have cf:=zkk.1.cell;have Hk:=za zkk.2;clear zkk k2 k3 b2 b3 b4 b;go_wp2_with fail
  clear k4 f4 a;generalize (w2.setCell ⟨W.heap.size+1+1,0,fV⟩ ()).setCell ⟨W.heap.size+1+1,1,fV⟩ ()=w9 at *;exact bodyPost_ret (v:=.tuple #[j2 #[(),()],j7 j1]) (by simp [results,Tryz.results54,go_sem,cf]) rfl ⟨S2,Hk.out,.inl ⟨l.out,rfl⟩⟩
 |some col =>
  have E:=za hsp;rw [hsp] at o;clear hsp;go_upto_region 4 with (go_at_call 128;refine o.out.mono ?_;rintro e w2 ⟨S2,rfl,b⟩)
  have an:=za ((b).back hx1);have ax:=za (ay.out.kp b);have t:=b.blk b2 (G.out _ oM);have n:=b.blk b3 (G.out _ oM);have a:=b.blk b4 (G.out _ oM);have k3:=n.1.cell;have O:=za (zin (x:=col) s.out.ok b.j ax.out HI.out);have aF:=b.size;clear k2 b2 b3 b4;go_upto_region 99 with fail
  refine O.out.mono ?_;rintro e w3 ⟨S3,p,k⟩;have m:=p.blk t.1 t.2;have c:=p.blk n.1 n.2;have g:=p.blk a.1 a.2;have T:=za (an.out.trans p);have k3:=c.1.cell;have f3:=c.1.frozen;clear t n a O;rcases k with ⟨hn,rfl⟩|⟨rs,cs,R',C',Y,X,I,rfl,aj⟩
  ·have l:=za (show zba L f rows cols x=fV by
    rw [aa.out,E.out];unfold addT at hn
    by_cases z:(!zcJ cols col&&decide (cols.length≠20))=jU
    ·rw [if_pos z] at hn;cases hn
    ·show (if (!zcJ cols col&&decide (cols.length≠20))=jU then _ else fV)=fV;rw [if_neg z])
   have h3:=zhd s.out.ok T.out c.1 c.2 oM oM;have i:=g.1.far2 (Z:=W.heap.size+1) oM (fC fV 0 0) (fC fV 0 0);have k4:=i.cell;have f4:=i.frozen;have zkk:=zhd s.out.ok (h3.2.more s.out.ok (show B+6000<=B+27840 by omega)) i g.2 oM oM;have cf:=zkk.1.cell;have Hk:=za zkk.2;clear zkk h3 hn p b;go_wp2_with fail
   clear k3 f3 k4 f4 i m c g;generalize (((w3.setCell ⟨W.heap.size+1,0,fV⟩ ()).setCell ⟨W.heap.size+1,1,fV⟩ ()).setCell ⟨W.heap.size+1+1,0,fV⟩ ()).setCell ⟨W.heap.size+1+1,1,fV⟩ ()=w9 at *;exact bodyPost_ret (v:=.tuple #[j2 #[(),()],j7 j1]) (by simp [results,Tryz.results54,go_sem,cf]) rfl ⟨S3,Hk.out,.inl ⟨l.out,rfl⟩⟩
  ·obtain⟨z,rfl,u⟩:(!zcJ cols col&&decide (cols.length≠20))=jU/\rows=rs/\cols++[col]=cs:=by
    unfold addT at I
    by_cases z:(!zcJ cols col&&decide (cols.length≠20))=jU
    ·rw [if_pos z] at I;have h1:=j8 I;exact⟨z,(Prod.mk.inj h1).1,(Prod.mk.inj h1).2⟩
    ·rw [if_neg z] at I;cases I
   have l:=za (show zba L f rows cols x=(zar L f (cols++[col]) (12 - rows.length) rows).map fun r=>(r,cols++[col]) by
    rw [aa.out,E.out];show (if (!zcJ cols col&&decide (cols.length≠20))=jU then _ else fV)=_;rw [if_pos z])
   have aw:=za (show zbD L f rows cs by
    rw [<- u];exact HI.out.addC (x:=col) (by
     unfold zfE;rw [(V.out col E.out).1,z];simpa using (V.out col E.out).2))
   rw [u] at l;clear u;have h3:=zfI s.out.ok T.out aj c.1 c.2 oM oM (oH hx1.size);have al:=za (m.1.far2 (Z:=W.heap.size+1) oM (fC R' rows.length Y) (fC C' cs.length X));have i:=za (g.1.far2 (Z:=W.heap.size+1) oM (fC R' rows.length Y) (fC C' cs.length X));have am:=za h3.1;have D:=za h3.2.1;have au:=za h3.2.2;have aE:=za m.2;have ai:=za g.2;clear h3 I p b z aj;go_upto_region 7 with fail
   clear k3 f3 m c g;generalize (w3.setCell ⟨W.heap.size+1,0,fV⟩ (fC R' rows.length Y)).setCell ⟨W.heap.size+1,1,fV⟩ (fC C' cs.length X)=w4 at *;have k2:=al.out.cell;have k3:=am.out.cell;have Q:=za (zfY s.out D.out.j oM au.out aw.out (oH D.out.size) hL);go_upto_region 99 with fail
   refine Q.out.mono ?_;rintro e w5 ⟨S5,H,k⟩;have d:=H.blk i.out ai.out;have U:=za ((D.out.trans H).more s.out.ok (show B+6000+21840<=B+27840 by omega));have k4:=d.1.cell;have f4:=d.1.frozen;clear k2 k3 Q;rcases k with ⟨hn,rfl⟩|⟨rs,F,R9,C9,cr9,cc9,I,rfl,ak⟩
   ·have y:=za (show zba L f rows cols x=fV by rw [l.out,hn]);have zkk:=zhd s.out.ok U.out d.1 d.2 oM oM;have cf:=zkk.1.cell;have Hk:=za zkk.2;clear zkk hn H;go_wp2_with fail
    clear k4 f4 d;generalize (w5.setCell ⟨W.heap.size+1+1,0,fV⟩ ()).setCell ⟨W.heap.size+1+1,1,fV⟩ ()=w9 at *;exact bodyPost_ret (v:=.tuple #[j2 #[(),()],j7 j1]) (by simp [results,Tryz.results54,go_sem,cf]) rfl ⟨S5,Hk.out,.inl ⟨y.out,rfl⟩⟩
   ·have y:=za (show zba L f rows cols x=fU (rs,F) by rw [l.out,I]);have zkk:=zfI s.out.ok U.out ak d.1 d.2 oM oM (oH D.out.size);have cf:=zkk.1.cell;have M:=za zkk.2;clear zkk I H ak;go_wp2_with fail
    clear k4 f4 d;generalize (w5.setCell ⟨W.heap.size+1+1,0,fV⟩ (fC R9 rs.length cr9)).setCell ⟨W.heap.size+1+1,1,fV⟩ (fC C9 F.length cc9)=w9 at *;exact bodyPost_ret (v:=.tuple #[j2 #[fC R9 rs.length cr9,fC C9 F.length cc9],j7 jU]) (by simp [results,Tryz.results54,go_sem,cf]) rfl ⟨S5,M.out.1,.inr ⟨rs,F,R9,C9,cr9,cc9,y.out,rfl,M.out.2⟩⟩
end
theorem zero_pset (w:jX):(zeroValue 222).run j3 w=.ok (.agg (Array.replicate 12 (.int .u16 0))) w:=kM
theorem zaS:((j3).info? 222).map (·.size)=fU 12:=kM
theorem zic:(zbm (dS 12 0)).toArray=Array.replicate 12 (Value.int .u16 0):=by rfl
theorem zdy (hT:T.length=12) (hk:k<12) (w:jX):(Instr.index 222 (.agg (zbm T).toArray) (.int iX (k:Int))).run j3 w=.ok (.int .u16 (T.getD k 0:Nat)) w:=by
 have b:=Tryz.underlying222;have a:=Tryz.isAgg220;have c:=Tryz.sizeOf220;have h1:(zbm T)[k]?=fU (.int .u16 (T.getD k 0:Nat)):=zeX oM;simp [Instr.index,run_underlying b,asIntOf,go_sem,hk,a,c,part,h1]
theorem zcR {ops:Array Oper}{rest:List Oper}{o:Oper}{a:Act}{Q:Exit->Act->jX->Prop}(hgd:o.guard=fV) (x y:Operand)(ho:o.op=.store 222 x y) (g:Nat)(hx:a.eval x=.pointer (fU g))
  {T U:List Nat} (hy:a.eval y=.agg (zbm U).toArray) (hb:Blk w g 222 (zbm T).toArray) (hT:T.length=12) (hU:U.length=12)
  (h:∀ w',Blk w' g 222 (zbm U).toArray->Frm (fun k=>k=g) w w'->wpList j3 ops Q rest (a.put o.dst undef) w'):wpList j3 ops Q (o :: rest) a w:=by
 have h1:(zbm U).toArray.all (·.oneCell')=jU:=all_oneCell_toArray (fun v hv=>by
  obtain⟨z,_,rfl⟩:=kC.1 hv;rfl)
 have b:((j3).info? 222).map (·.size)=fU (zbm U).toArray.size:=by
  rw [zaS];simp [zbm,hU]
 refine wpList_plain hgd fun _ hK=>?_;unfold Oper.wp execOp;simp only [ho,hx,hy,Instr.storeAt,Instr.sureAddr,Sem.run_bind,Sem.run_pure,Result.andThen_ok,run_storeVar_row w g 222 222 _ _ hb b (by simp [zbm,hT,hU]) h1];refine hK _ _ (h _ ?_ ⟨rfl,rfl,rfl,sM,fun k hk hn=>?_⟩)
 ·exact setRow_heap w g _ _ _ _ hb
 ·exact setRow_other w g k _ hn
def RetSMv (F:Sfx) (l:Nat) (T:List Nat) (W:jX) (e:Ending) (W':jX):Prop:=∃ U,e=j5 (zgP U)/\MvP F.s F.p l T 12 U/\Ext W W'
theorem zka {j x:Nat}:(zbm U).toArray.setIfInBounds j (.int .u16 (x:Nat))=(zbm (U.set j x)).toArray:=by
 simp [zbm,List.map_set]
section
variable {F:Sfx}{Ts:List (List Nat)}{nx:Nat->Nat->Int}{k:Nat}{M:List Nat->Option Nat}{vs vn vu:j4}{W:jX}
theorem sf_move (hF:zij F)(h:zeL F Ts nx k M vs vn vu W) (hT:WS F.p T) (hl:l<6) :
  j6 j3 198 #[kB (fU ⟨F.G,0,fV⟩),zgP T,l] W (RetSMv F l T W):=by
 have S:=zcj hF.hs;have hp:=hF.hp;obtain⟨af,ag⟩:=zab hF.hs;obtain⟨C,E⟩:∃ C:Nat,Hid (F.s.al=C):=⟨F.s.al.toNat,by unfold Hid;omega⟩;have ah:C<64:=oH E.out;have HF:=za hF;have HM:=za h;have HT:=za hT;have g:=za S;have Hp:=za hp;have bG:=h.blk;have Q:=h.red hF;have HR:=za Q;have HV:=za (show ∀ x∈T,x<65536 from hT.lt);have zp:=zero_pset;have t:=za hT.len;obtain⟨lo,hi,b⟩:=Q.rule;have B:=za b;have L:=za Q.mov;have O:=za Q.tab;clear hF h hT S hp Q b af ag;unfold zgP
 go_enter Tryz.func198,Tryz.ntmps198
 go_upto_region 2 with fail
 obtain⟨b4,o,f⟩:=zK (cY (((W.alloc (.cells (zbm T).toArray 222)).alloc (.cells (Array.replicate 12 (.int .u16 0)) 222)).alloc (.cells (Array.replicate 12 (.int .u16 0)) 222)));have Y:Ext W (((W.alloc (.cells (zbm T).toArray 222)).alloc (.cells (Array.replicate 12 (.int .u16 0)) 222)).alloc (.cells (Array.replicate 12 (.int .u16 0)) 222)):=(((cY _).alloc _).alloc _).alloc _;generalize ((W.alloc (.cells (zbm T).toArray 222)).alloc (.cells (Array.replicate 12 (.int .u16 0)) 222)).alloc (.cells (Array.replicate 12 (.int .u16 0)) 222)=w3 at *;rw [<- zic] at f o;have V:(zbm T).toArray.size=12:=by simp [zbm,t.out]
 go_upto_region 3 with (refine wpList_load_row rfl _ _ rfl _ rfl _ _ _ _ b4 Tryz.underlying222 rfl (by rw [V];exact zaS) ?_)
 go_wp2_with fail
 go_loopw [8,9,10,12] (fun _ _ _ i wr=>∃ (k:Nat) (U:List Nat),i=.int iX k/\k<=12/\Hid (MvP F.s F.p l T k U)/\Blk wr (W.heap.size+1+1) 222 (zbm U).toArray/\Blk wr (W.heap.size+1) 222 (zbm (dS 12 0)).toArray/\Ext W wr) (fun _ _ _ i _=>12 - (intOf i).toNat)
 case atStart=>exact⟨0,_,rfl,dF _,za MvP.zero,f,o,Y⟩
 case round =>
  clear b4 o f Y;obtain⟨k,U,rfl,hk,m,f,o,n⟩:=hrel
  by_cases hlt:k<12
  ·have ai:=zdy t.out hlt;obtain⟨x,d⟩:∃ x,Hid (T.getD k 0=x):=⟨_,rfl⟩;rw [d.out] at ai;have u:x<65536:=by rw [<- d.out];exact zbC HV.out k
   by_cases h0:x=0
   ·have a:=za (m.out.skip (by rw [d.out];exact h0));subst h0;go_wp2_with fail
    go_roundw
    case rel=>exact⟨k+1,U,gM,oM,a,f,o,n⟩
    case measure=>exact uM
   ·have R:k<F.p.next.length:=HT.out.idx (by rw [d.out];exact h0);have av:(k:Int)<(F.p.next.length:Int):=oM;have aD:(l:Int)<6:=oM;have aE:((x:Int)==0)=j1:=by simp;omega
    obtain⟨gR,oR,D,H⟩:=(B.out.ext n).at_ R hl;have ay:=za D;have hj:aGo F.p k l<12:=by
     have h1:=zdE Hp.out R hl;have h2:=(zl Hp.out).2.1;omega
    have a:=za (m.out.step g.out HV.out hj);rw [d.out] at a;obtain⟨j,ak⟩:∃ j,Hid (aGo F.p k l=j):=⟨_,rfl⟩;rw [ak.out] at H hj a;have aC:(j:Int)<12:=oM;have ae:=za (show j<U.length by rw [m.out.1];exact hj);obtain⟨z,hz⟩:∃ z,Hid (U.getD j 0=z):=⟨_,rfl⟩;have C7:∀ X,Ext wr X->X.cell? ⟨W.heap.size+1+1,j,fV⟩=fU (.int .u16 (z:Nat)):=fun X hX=>by
     rw [(f.ext hX).cell,eO,zeX ae.out,hz.out]
    have F7:∀ X,Ext wr X->X.frozen? ⟨W.heap.size+1+1,j,fV⟩=j1:=fun X hX=>(f.ext hX).frozen j;have aa:z<65536:=by rw [<- hz.out];exact zbC m.out.2.1 j
    have BG:∀ X,Ext wr X->∀ i,X.cell? ⟨F.G,i,fV⟩=(sfC F vs vn vu)[i]?:=fun X hX=>(bG.ext (n.trans hX)).cell;simp only [sfC,E.out] at BG;have CR:∀ X,Ext wr X->X.cell? ⟨gR,oR+k*6+l,fV⟩=fU (.int iX (j:Nat)):=fun X hX=>hX.aa H;have aG:=cY wr;have J:=za (show C=F.s.al.toNat by have:=E.out;omega);obtain⟨y,hy⟩:∃ y,Hid (goS F.s l x=y):=⟨_,rfl⟩;have Z:y<65536:=by rw [<- hy.out];exact goS_lt g.out u
    have aF:=u16_or_nat z y aa Z;have aH:IntKind.u16.wrap (y:Int)=y:=by rw [IntKind.wrap_u16];omega
    rw [hz.out,hy.out] at a;have B7:=za f;have B6:=za o;rw [D] at BG;clear f o H D h0;cases hb:hasB C (l:Int) with
    |false =>
     have Hb:=za hb;have I:=za (show x=y by
      rw [<- hy.out];unfold goS;rw [if_neg];rw [<- J.out];simpa [hasB] using hb)
     clear hb;obtain rfl:=I.out;go_wp2_with (go_at_call 127;refine (zcv C (l:Int) tM _).mono ?_;rw [Hb.out];rintro e w' ⟨rfl,rfl⟩)
     go_roundw
     case rel=>exact⟨k+1,U.set j (z|||x),gM,oM,a,by rw [<- zka];exact B7.out.ae j _,B6.out.far sM _,n.setCell (p:=⟨W.heap.size+1+1,j,fV⟩) (by simp;omega) _⟩
     case measure=>exact uM
    |true =>
     have Hb:=za hb;have I:=za (show zco F.s.edges x (l:Int)=y by
      rw [<- hy.out];unfold goS;rw [if_pos];rw [<- J.out];simpa [hasB] using hb)
     clear hb;go_wp2_with (first
      |(go_at_call 127;refine (zcv C (l:Int) tM _).mono ?_;rw [Hb.out];rintro e w' ⟨rfl,rfl⟩)
      |(go_at_call 191;refine (impl_step (k0:=F.s.st.toNat) (L.out.ext n) (O.out.ext n) u hl g.out.2.2.1 (oH g.out.2.1)).mono ?_;rw [I.out];rintro e w5 ⟨rfl,c⟩))
     go_roundw
     case rel=>exact⟨k+1,U.set j (z|||y),gM,oM,a,by rw [<- zka];exact (B7.out.ext c).ae j _,(B6.out.ext c).far sM _,(n.trans c).setCell (p:=⟨W.heap.size+1+1,j,fV⟩) (by simp;omega) _⟩
     case measure=>exact uM
  ·obtain rfl:k=12:=oM;have am:(zbm U).toArray.size=12:=by simp [zbm,m.out.1]
   have ax:=za (show RetSMv F l T W (j5 (zgP U)) wr from ⟨U,rfl,m.out,n⟩);have r:(zbm U).toArray.size=12:=by simp [zbm,m.out.1]
   go_wp2_with (first
    |(refine wpList_load_row rfl _ _ rfl _ rfl _ _ _ _ f Tryz.underlying222 rfl (by rw [r];exact zaS) ?_)
    |(refine zcR rfl _ _ rfl _ rfl rfl o sM m.out.1 ?_;intro w5 b6' hf5))
   have c:Ext W w5:=n.frm hf5 (fun q hq e=>by subst e;omega);exact bodyPost_ret (v:=zgP U) (results_cell_row (p:=6) (ty:=222) Tryz.results198 _ _ (W.heap.size+1) _ _ _ _ rfl b6' Tryz.underlying222 rfl (by rw [r];exact zaS)) rfl ⟨U,rfl,m.out,c⟩
end
theorem ziN:((j3).info? 222).map (fun i=>(i.zero,i.size,i.bytes))=fU (fU (.agg (Array.replicate 12 (.int .u16 0))),12,24):=kM
theorem row12_len:(Value.agg (Array.replicate 12 (.int .u16 0))).cells.size=12:=dM
theorem fold_set:∀ (l:List j4) (k:Nat) (cs:Array j4),k+l.length=cs.size->(l.zipIdx k).foldl (fun cs x=>cs.setIfInBounds x.snd x.fst) cs=(cs.toList.take k++l).toArray
 |[],k,cs,h=>by
  have h1:cs.toList.take k=cs.toList:=dJ (by simp at h ⊢;omega);simp only [List.zipIdx_nil,List.foldl_nil,List.append_nil,h1,Array.toArray_toList]
 |a :: r,k,cs,h=>by
  simp only [List.length_cons] at h;have hk:k<cs.toList.length:=by simp;omega
  rw [List.zipIdx_cons,List.foldl_cons,fold_set r (k+1) _ (by simp;omega)]
  congr 1
  rw [Array.toList_setIfInBounds,dN,List.take_set_of_le (dD _),List.getElem?_set_self hk];simp
theorem fold_u16s (hU:U.length=12):List.foldl (fun cs x=>cs.setIfInBounds x.snd x.fst) #[Value.int .u16 0,.int .u16 0,.int .u16 0,.int .u16 0,.int .u16 0,.int .u16 0,.int .u16 0,.int .u16 0,.int .u16 0,.int .u16 0,.int .u16 0,.int .u16 0] (zbm U).zipIdx=(zbm U).toArray:=by
 rw [fold_set _ 0 _ (by rw [zbS,hU];rfl)];rfl
theorem zgw {l:List Oper}{Q:Exit->Act->jX->Prop}{S:jX->Prop}{i:Nat}{rest:zy}{o:Oper}{a:Act}(ho:l[i]?=fU o)(hq:zds o.op=jU)(hp:zgt o.op=j1)(hw:Region.wanted o (yielded l.toArray a.tmps)=jU)
  (x:Operand) (hop:o.op=.load 222 x) (g:Nat) (hx:a.eval x=.pointer (fU g)) {U:List Nat} (hU:U.length=12) (hb:∀ X,S X->Blk X g 222 (zbm U).toArray) (h:zay j3 l T Q S rest (a.put o.dst (.agg (zbm U).toArray)) w):zay j3 l T Q S (.one i rest) a w:=
 zbI ho hq hp hw (fun X hX=>by
  have h12:(zbm U).toArray.size=12:=by simp [zbm,hU]
  unfold execOp;simp only [hop,hx,Instr.loadAt,Instr.sureAddr,Sem.run_bind,Sem.run_pure,Result.andThen_ok,run_loadVar_row X g 222 222 _ _ _ (hb X hX) Tryz.underlying222 rfl (by rw [h12];exact zaS)]) h
def RetSAdd (F:Sfx) (Ts:List (List Nat)) (nx:Nat->Nat->Int) (U:List Nat) (S:Nat->Prop) (W:jX) (e:Ending) (W':jX):Prop:=
 ∃ (j:Nat) (Ts':List (List Nat)) (nx':Nat->Nat->Int) (k':Nat) (M':List Nat->Option Nat) (vs' vn' vu':j4),e=j5 (.int iX (j:Int))/\((Ts'=Ts/\nx'=nx)\/(Ts'=Ts++[U]/\nx'=fun k l=>if k=Ts.length then -1 else nx k l))/\Ts'[j]?=fU U /\
  zeL F Ts' nx' k' M' vs' vn' vu' W'/\Kq S W W' (sfS F vs' vn' vu')
section
variable {F:Sfx}{Ts:List (List Nat)}{nx:Nat->Nat->Int}{k:Nat}{M:List Nat->Option Nat}{vs vn vu:j4}{W:jX}
theorem yW14a2 {P:Prop}(h:P:=by
 refine ze fun K hK=>?_;go_simp;refine hK.out _ _ (hwd.alloc _) ?_;have hPe:=hP5.ext hwd;have hqe:=hq5'.out.ext hwd;have B3e:=za (B35.out.ext hwd);generalize wd6=we at *;refine pT ?_;refine uQ ?_;refine zb fun K hK=>?_;rw [fold_u16s HU.out.len];refine zaC F.w9 we _ _ _ rfl 222 _ 12 24 Tryz.underlying149 ziN row12_len dM (.slice As Ts.length cs) Ts.length (stC Ts) (zbm U).toArray _ rfl rfl hPe.frm.size hPe.sets h12 hone lM oM ?_;intro g8 cap8 w8 hown8 hg8 hat8 hlt8;refine hK.out _ _ ?_;refine pT ?_;obtain⟨hB8,hP8,hq8⟩:=hPe.pushS HF.out (U:=U) hown8 hg8 hat8;have k8:=hB8.cell;have f8:=hB8.frozen;simp only [sfC] at k8;refine zb fun K hK=>?_;go_simp;refine hK.out _ _ ?_;refine pT ?_;refine uQ ?_;refine zb fun K hK=>?_;go_simp;refine hK.out _ _ ?_;refine zg ?_;have hq:=za (hqe.trans hq8);have hP:=za hP8;have B38:=za ((B3e.out.frm (Frm.ab hg8) (fun e=>hWs e rfl)).far (p:=⟨F.G,10,none⟩) (by show W.heap.size≠F.G;omega) (.slice (some g8) (Ts.length+1) cap8));clear hown8 hg8 hat8 hB8 hP8 hq8 k8 f8 hPe hqe B3e hWs;generalize w8.setCell ⟨F.G,10,none⟩ (.slice (some g8) (Ts.length+1) cap8)=w9' at *;go_wp2_with fail
 go_meet;exact⟨g8,cap8,hq.out,hP.out,B38.out⟩
 ):P:=h
theorem sf_add (hF:zij F)(h:zeL F Ts nx k M vs vn vu W) (hU:WS F.p U)(hn:Ts.length<=1000000000000) :
  j6 j3 196 #[kB (fU ⟨F.G,0,fV⟩),zgP U] W (RetSAdd F Ts nx U (sfS F vs vn vu) W):=by
 have HF:=za hF;have HU:=za hU;have l:=za (show domP U from ⟨hU.len,hU.lt⟩);have h12:(zbm U).toArray.size=12:=by simp [zbm,hU.len]
 have aI:k<=Ts.length:=h.le;have aL:=h.frm.size;have hx1:Ext W (W.alloc (.cells (zbm U).toArray 222)):=(cY _).alloc _;have E:=za (h.ext hF hx1);have b3:=Blk.new W 222 (zbm U).toArray;obtain⟨As,cs,rfl⟩:=zh h.sets;obtain⟨n,o,rfl⟩:=zh h.next;obtain⟨r,s,rfl⟩:=zh h.uns;have d:=za (show ¬ sfS F (fC As Ts.length cs) (fC n Ts.length o) (fC r Ts.length s) W.heap.size from fun hs=>by have:=h.lt hs;omega);clear hF h hU;unfold zgP
 go_enter Tryz.func196,Tryz.ntmps196
 go_upto_region 1 with fail
 generalize W.alloc (.cells (zbm U).toArray 222)=w1 at *;have C:∀ X,Ext w1 X->∀ i,X.cell? ⟨F.G,i,fV⟩=(sfC F (fC As Ts.length cs) (fC n Ts.length o) (fC r Ts.length s))[i]?:=fun X hX=>(E.out.blk.ext hX).cell;simp only [sfC] at C;have b:=cY w1;have B3:=za b3;clear b3;refine uR (fun X=>Ext w1 X) [5] (zy.of [0,4,1,2,3,5,6,7,8,9,10]) ?_;refine uQ ?_;refine zgw rfl rfl rfl rfl _ rfl W.heap.size rfl HU.out.len (fun X hX=>B3.out.ext hX) ?_;refine pT ?_;refine ze fun K hK=>?_;go_simp;refine hK.out _ _ b.drew ?_;refine pT ?_;refine uQ ?_;have a:=E.out.ext HF.out b.drew;have ag:=hx1.trans b.drew;have J:=za (B3.out.ext b.drew);clear C B3 E hx1;generalize w1.drew=wd at *;cases hMU:M U with
 |some j =>
  have g:=za hMU;clear hMU;refine zb fun K hK=>?_;refine wp_mapOkG _ keyP _ _ rfl rfl a.map U rfl l.out ?_;rw [g.out];intro cc hcc;obtain rfl:=hcc j rfl;refine hK.out _ _ ?_;refine pT ?_;clear hcc;refine uQ ?_;refine zg ?_;have ae:=za (show RetSAdd F Ts nx U (sfS F (fC As Ts.length cs) (fC n Ts.length o) (fC r Ts.length s)) W (j5 (.int iX (j:Int))) wd from
   ⟨j,Ts,nx,k,M,_,_,_,rfl,.inl ⟨rfl,rfl⟩,(a.num U j).1 g.out,a,Kq.refl.ext ag⟩)
  go_wp2_with fail
  go_ret;exact ae.out
 |none =>
  have g:=za hMU;clear hMU;refine zb fun K hK=>?_;refine wp_mapOkG _ keyP _ _ rfl rfl a.map U rfl l.out ?_;rw [g.out];intro cc hcc;refine hK.out _ _ ?_;refine pT ?_;clear hcc;refine uQ ?_;refine zg ?_;have kd:=a.blk.cell;simp only [sfC] at kd;have aF:=a.frm.size;go_upto_region 5 with fail
  have af:=ag.drew;have C:∀ X,Ext wd X->∀ i,X.cell? ⟨F.G,i,fV⟩=(sfC F (fC As Ts.length cs) (fC n Ts.length o) (fC r Ts.length s))[i]?:=fun X hX=>(a.blk.ext hX).cell;simp only [sfC] at C;have b:=cY wd;refine uR (fun X=>Ext wd X) [6] (zy.of [0,4,5,1,2,3,6]) ?_;refine uQ ?_;refine zgw rfl rfl rfl rfl _ rfl W.heap.size rfl HU.out.len (fun X hX=>J.out.ext hX) ?_;refine pT ?_;refine uQ ?_;refine ze fun K hK=>?_;go_simp;refine hK.out _ _ b.drew ?_;refine pT ?_;refine uQ ?_;refine zb fun K hK=>?_;refine wp_mapSetG _ keyP _ _ _ (.inl rfl) rfl (a.ext HF.out b.drew).map oM U Ts.length rfl rfl l.out oM ?_;intro w5 hmap5 hg5;refine hK.out _ _ ?_;refine pT ?_;refine zg ?_;obtain⟨hP5,aa⟩:=(a.ext HF.out b.drew).p.mapSet HF.out hmap5 hg5;have B35:=za ((J.out.ext b.drew).frm (Frm.ab hg5) (fun e=>by
   have h1:=j8 e;exact d.out (.inl ⟨by rw [<- h1];exact HF.out.b0m,by rw [<- h1];exact HF.out.mw⟩)))
  have hq5':=za (Kq.back af aa);have Z:=za (a.num.add g.out);have au:=za a.ws;clear C b a hmap5 hg5 aa kd af;go_upto_region 6 with fail
  go_cut [] (fun wx=>∃ (g8 cap8:Nat),Kq (sfS F (fC As Ts.length cs) (fC n Ts.length o) (fC r Ts.length s)) W wx (sfS F (fC (fU g8) (Ts.length+1) cap8) (fC n Ts.length o) (fC r Ts.length s))/\zii F (Ts++[U]) Ts.length nx (unC F.p Ts) (k+1) (zik M U Ts.length) (fC (fU g8) (Ts.length+1) cap8) (fC n Ts.length o) (fC r Ts.length s) wx/\Blk wx W.heap.size 222 (zbm U).toArray)
  case first =>
   have C:∀ X,Ext w5 X->∀ i,X.cell? ⟨F.G,i,fV⟩=(sfC F (fC As Ts.length cs) (fC n Ts.length o) (fC r Ts.length s))[i]?:=fun X hX=>(hP5.blk.ext hX).cell;simp only [sfC] at C;have b:=cY w5;have hone:∀ u∈(zbm U).toArray.toList,u.oneCell'=jU:=fun u hu=>by
    have aq:u∈zbm U:=by simpa using hu
    obtain⟨z,_,rfl⟩:=kC.1 aq;rfl
   have al:F.G<W.heap.size:=oH HF.out.Gw;have hWs:∀ {q:Nat},(fC As Ts.length cs).ownBlock=fU q->W.heap.size≠q:=fun hq e=>d.out (.inr (.inl (by rw [e];exact hq)));refine uR (fun X=>Ext w5 X) [7,8,10] (zy.app [0,1,5] (zy.two 2 (zy.of [3,4,6,7,8,9,10]) 6 (zy.of [2,3,4,7,8,9,10]))) ?_;refine uQ ?_;refine zgw rfl rfl rfl rfl _ rfl W.heap.size rfl HU.out.len (fun X hX=>B35.out.ext hX) ?_;refine pT ?_;have hwd:=b.drew;generalize w5.drew=wd6 at *;refine zn (fun K hK=>?_) (fun K hK=>?_)
   ·go_simp;refine hK.out _ _ hwd ?_;refine pT ?_;refine uQ ?_;exact yW14a2
   ·go_simp;refine hK.out _ _ (hwd.alloc _) ?_;refine pT ?_;exact yW14a2
  case rest =>
   obtain⟨g8,cap8,hq8,hP8,O⟩:=hcut;clear hP5 hq5' B35;have k8:=hP8.blk.cell;simp only [sfC] at k8;have L:=za hq8;have V:∀ {q:Nat},(fC n Ts.length o).ownBlock=fU q->W.heap.size≠q:=fun hq e=>d.out (.inr (.inr (.inl (by rw [e];exact hq))));have al:F.G<W.heap.size:=oH HF.out.Gw;go_upto_region 8 with (at_builtin;refine zI F.w9 wc rfl _ _ _ rfl 166 _ 6 48 Tryz.underlying148 info_row6 row6_len dM (fC n Ts.length o) Ts.length (nxC Ts.length nx) _ _ rfl rfl hP8.frm.size hP8.next rfl (by simp [Value.oneCell']) lM oM ?_;intro g7 cap7 w7 hown7 hg7 hat7 hlt7;obtain⟨D,S,ad⟩:=hP8.pushN HF.out hown7 hg7 hat7;have k7:=D.cell;have f7:=D.frozen;simp only [sfC] at k7)
   have H:=za (L.out.trans ad);have t:=za S;have ak:=(O.frm (Frm.ab hg7) (fun e=>V e rfl)).far (p:=⟨F.G,12,fV⟩) (by show W.heap.size≠F.G;omega) (fC (fU g7) (Ts.length+1) cap7);clear hown7 hg7 hat7 D S ad k7 f7 hP8 hq8 L O k8 V;generalize w7.setCell ⟨F.G,12,fV⟩ (fC (fU g7) (Ts.length+1) cap7)=wn at *;go_upto_block 0 with (refine wpList_load_row rfl _ _ rfl _ rfl _ _ _ _ ak Tryz.underlying222 rfl (by rw [h12];exact zaS) ?_)
   have kn:=t.out.blk.cell;simp only [sfC] at kn;have am:=za (HF.out.red wn t.out.frm);go_wp2_with fail
   go_loopw [8,9,10,54] (fun v8 _ _ i wr=>∃ q:Nat,v8=.bool (zgm F.p U q)/\i=.int iX q/\q<=12/\wr=wn) (fun _ _ _ i _=>12 - (intOf i).toNat)
   case atStart=>exact⟨0,rfl,rfl,dF _,rfl⟩
   case round =>
    obtain⟨q,rfl,rfl,hq,rfl⟩:=hrel
    by_cases hlt:q<12
    ·have ap:=zdy HU.out.len hlt;have ay:(q:Int)<12:=oM;obtain⟨x,I⟩:∃ x,Hid (U.getD q 0=x):=⟨_,rfl⟩;rw [I.out] at ap;have f:=za (show zgm F.p U (q+1)=(zgm F.p U q || (x != 0&&!zat F.p q)) by rw [<- I.out];rfl);cases hb:zgm F.p U q with
     |true =>
      have c:=za (show zgm F.p U (q+1)=jU by rw [f.out,hb];rfl);clear f;go_wp2_with fail
      go_roundw
      case rel=>exact⟨q+1,by rw [c.out],gM,oM,trivial⟩
      case measure=>exact uM
     |false =>
      by_cases h0:x=0
      ·have c:=za (show zgm F.p U (q+1)=j1 by rw [f.out,hb,h0];rfl);subst h0;clear f;go_wp2_with fail
       go_roundw
       case rel=>exact⟨q+1,by rw [c.out],gM,oM,trivial⟩
       case measure=>exact uM
      ·have H:=HU.out.idx (i:=q) (by rw [I.out];exact h0);obtain⟨aP,aH,v⟩:=am.out.acc;have an:=(zl HF.out.hp).2;obtain⟨aA,y,hA,_,_,hy,aG⟩:=v.bool (k:=q) (by have:=v.length;rw [zbT] at this;omega);have c:=za (show zgm F.p U (q+1)=!y by
        rw [f.out,hb];have:zat F.p q=y:=by unfold zat;rw [dE,hy.out];rfl
        rw [this];simp [h0])
       have aJ:((x:Int) != 0)=jU:=by simp;omega
       rw [hA] at kn;have aK:(q:Int)<(F.m':Int):=by have:=v.length;rw [zbT] at this;omega
       clear f v hA an;go_wp2_with fail
       go_roundw
       case rel=>exact⟨q+1,by rw [c.out],gM,oM,trivial⟩
       case measure=>exact uM
    ·obtain rfl:q=12:=oM;have hPe:=t.out;have ul:(unC F.p Ts).length=Ts.length:=by simp [unC]
     have B:=hPe.uns;rw [ul] at B;have hqe:=H.out;have ao:=za (show zgm F.p U 12=zgY F.p U from rfl);obtain⟨bb,Y⟩:∃ bb,Hid (bb=zgm F.p U 12):=⟨_,rfl⟩;rw [<- Y.out];clear t H;go_wp2_with (at_builtin;refine zI F.w9 wr rfl _ _ _ rfl 4 _ 1 1 Tryz.underlying25 zaJ rfl dM (fC r Ts.length s) Ts.length (zY (unC F.p Ts)) _ _ rfl rfl hPe.frm.size B rfl (by simp [Value.oneCell']) lM oM ?_;intro g6 cap6 w6 hown6 hg6 hat6 hlt6;rw [<- ul] at hown6;obtain⟨Q,R,ab⟩:=hPe.pushU HF.out (x:=bb) hown6 hg6 hat6;have k6:=Q.cell;have f6:=Q.frozen;simp only [sfC] at k6)
     go_ret;rw [ul] at R ab;have ar:unC F.p (Ts++[U])=unC F.p Ts++[bb]:=by rw [unC_snoc,<- ao.out,<- Y.out]
     refine⟨Ts.length,Ts++[U],_,k+1,zik M U Ts.length,_,_,_,rfl,.inr ⟨rfl,rfl⟩,sM,zii.m (by rw [ar,dK,dU];exact R) Z.out (by rw [dK,dU];omega) (fun T hT=>?_),hqe.trans ab⟩;rcases List.mem_append.1 hT with h1|h1
     ·exact au.out T h1
     ·obtain rfl:=List.mem_singleton.1 h1;exact HU.out.len
end
section
open Go.WideMaps Go.Maps
def memP (W:jX) (g:Nat):List Nat:=(eT 12).map fun j=>match W.cell? ⟨g,j,fV⟩ with|some (.int _ z)=>z.toNat|_=>0
theorem memP_blk {W:jX}{t:TypeId}(h:Blk W g t (zbm T).toArray)(hT:T.length=12):memP W g=T:=by
 refine List.ext_getElem? fun j=>?_;unfold memP;rw [dO];rcases Nat.lt_or_ge j 12 with a|a
 ·rw [List.getElem?_range a,Option.map_some,h.cell,eO,zeX oM,dE,dB oM];simp
 ·rw [dV (by simpa using a),dV oM];rfl
theorem run_eq_pset (hT:domP T)(hU:domP U) (w:jX):(Op.equalIn 10000 222 (zgP T) (zgP U)).run j3 w=.ok (decide (T=U)) w:=by
 show (Op.equal 222 (zgP T) (zgP U)).run j3 w=.ok (decide (T=U)) w;obtain⟨l,b⟩:=kJ.1 (zez hT);obtain⟨k,a⟩:=kJ.1 (zez hU);obtain⟨r,d,c⟩:=run_equal_deep w (m:=2) oM (ziQ.at 0) ziQ.wide b a;rw [d]
 congr 1
 rw [Bool.eq_iff_iff,c,decide_eq_true_eq];constructor
 ·rintro rfl;exact pset_inj ((Keyed.of_law ziQ.law).inj b a)
 ·rintro rfl;exact j8 (b.symm.trans a)
def RetSCl (F:Sfx) (T:List Nat) (W:jX) (e:Ending) (W':jX):Prop:=∃ U,e=j5 (zgP U)/\zaP U 12 (Cl F.s F.p F.L (bq T))/\Ext W W'
section
variable {F:Sfx}{Ts:List (List Nat)}{nx:Nat->Nat->Int}{k:Nat}{M:List Nat->Option Nat}{vs vn vu:j4}{W:jX}
theorem ClI.ws (hp:zj p=jU)(h0:WS p T0)(h:ClI s p A (bq T0) 12 T):WS p T:=
 ⟨h.len,h.lt,fun i q hb=>ziD hp (fun q i hb=>h0.row i q hb) (h.sub i q hb)⟩
theorem hidS_iff :l∈hidS s L↔hidL s L l:=by
 unfold hidS hidL;rw [zC,zjt];simp
theorem sf_close (hF:zij F)(h:zeL F Ts nx k M vs vn vu W) (hT0:WS F.p T0) :
  j6 j3 197 #[kB (fU ⟨F.G,0,fV⟩),zgP T0] W (RetSCl F T0 W):=by
 have HF:=za hF;have HM:=za h;have az:=za hT0;have aK:=zcj hF.hs;have Hp:=za hF.hp;have bG:=h.blk;have zp:=zero_pset;obtain⟨a5,a2,hid⟩:=(h.red hF).hid;have af:=za hid;have ah:(zbm T0).toArray.size=12:=by simp [zbm,hT0.len]
 have aj:=za (show ClI F.s F.p F.L (bq T0) 12 T0 from hT0.stand.clI);clear hF h hT0 aK hid;unfold zgP
 go_enter Tryz.func197,Tryz.ntmps197
 go_upto_block 0 with fail
 obtain⟨E,b4⟩:=zN (cY ((W.alloc (.cells (zbm T0).toArray 222)).alloc (.cells (Array.replicate 12 (.int .u16 0)) 222)));have ar:Ext W ((W.alloc (.cells (zbm T0).toArray 222)).alloc (.cells (Array.replicate 12 (.int .u16 0)) 222)):=((cY _).alloc _).alloc _;generalize (W.alloc (.cells (zbm T0).toArray 222)).alloc (.cells (Array.replicate 12 (.int .u16 0)) 222)=w2 at *;rw [<- zic] at b4;have aI:=room (memP w2 W.heap.size);go_wp2_with fail
 go_loopw [5,7,8,9] (fun _ _ _ _ wr=>∃ T,Blk wr W.heap.size 222 (zbm T).toArray/\Blk wr (W.heap.size+1) 222 (zbm (dS 12 0)).toArray/\Hid (ClI F.s F.p F.L (bq T0) 12 T)/\Ext W wr) (fun _ _ _ _ wr=>room (memP wr W.heap.size))
 case atStart=>exact⟨T0,E,b4,aj,ar⟩
 case round =>
  clear E b4 ar aj ah aI;obtain⟨u,aN⟩:∃ u,u=wr:=⟨_,rfl⟩;subst aN;obtain⟨T,E,b4,t,Y⟩:=hrel;have h12:(zbm T).toArray.size=12:=by simp [zbm,t.out.len]
  have J:=Blk.new u 222 (Array.replicate 12 (.int .u16 0));rw [<- zic] at J;have au:Ext u (u.alloc (.cells (Array.replicate 12 (.int .u16 0)) 222)):=(cY _).alloc _;go_upto_region 2 with (first
    |(refine wpList_load_row rfl _ _ rfl _ rfl _ _ _ _ E Tryz.underlying222 rfl (by rw [h12];exact zaS) ?_)
    |(refine zcR rfl _ _ rfl _ rfl rfl J sM t.out.len ?_;intro w5 r hf5))
  have a:Ext u w5:=au.frm hf5 (fun q hq e=>by subst e;omega);have aC:=E.ext a;have BG:∀ X,Ext u X->∀ i,X.cell? ⟨F.G,i,fV⟩=(sfC F vs vn vu)[i]?:=fun X hX=>(bG.ext (Y.trans hX)).cell;simp only [sfC] at BG;have I:=za E;have aE:=za b4;obtain⟨H,an⟩:∃ H,Hid (H=u.heap.size):=⟨_,rfl⟩;rw [<- an.out] at r hf5 ⊢;have b:Hid (ClI F.s F.p F.L (bq T0) 12 T/\(∀ i q,zdx T i q->zdx T i q)/\∀ (c l:Nat),c<0->(hidS F.s F.L)[c]?=fU l->∃ V,MvP F.s F.p l T 12 V/\Has T V 12):=⟨t.out,fun _ _ h=>h,fun c l h=>oM⟩;clear E b4 aC hf5 J au;obtain⟨o,y⟩:∃ o,Hid (o=hidS F.s F.L):=⟨_,rfl⟩;rw [<- y.out] at BG b;have Hh:=za af.out;rw [<- y.out] at Hh;obtain⟨HA,ai⟩:∃ HA,Hid (HA=F.HA):=⟨_,rfl⟩;rw [<- ai.out] at BG Hh;have a1:o.length<=6:=by rw [y.out];exact zA _ 6
  go_wp2_with fail
  go_loopw [7,8,9,16] (fun _ _ _ i wr=>∃ (j:Nat) (f:List Nat),i=.int iX j/\j<=o.length/\Blk wr H 222 (zbm f).toArray/\Ext u wr/\Hid (ClI F.s F.p F.L (bq T0) 12 f/\(∀ i q,zdx T i q->zdx f i q)/\∀ (c l:Nat),c<j->o[c]?=fU l->∃ V,MvP F.s F.p l T 12 V/\Has f V 12)) (fun _ _ _ i _=>o.length - (intOf i).toNat)
  case atStart=>exact⟨0,T,rfl,dF _,r,a,b⟩
  case round =>
   clear r a b;obtain⟨j,f,rfl,hj,r,a,b⟩:=hrel
   by_cases hjl:j<o.length
   ·obtain⟨bl,ol,l,rfl,_,_,hl,O⟩:=(Hh.out.ext zbs.ok (Y.trans a)).num hjl;have ao:hidL F.s F.L l:=hidS_iff.1 (by rw [<- y.out];exact dC hl.out);have ag:=za ao;have aV:(j:Int)<(o.length:Int):=oM;have n:=I.out.ext a;have aD:=BG wr a;clear ao;go_upto_region 6 with (first
     |(refine wpList_load_row rfl _ _ rfl _ rfl _ _ _ _ n Tryz.underlying222 rfl (by rw [h12];exact zaS) ?_)
     |(go_at_call 198;refine (sf_move HF.out (HM.out.ext HF.out (Y.trans a)) (ClI.ws Hp.out az.out t.out) ag.out.1).mono ?_;rintro e w6 ⟨V,rfl,hV,Z⟩))
    have D:=a.trans Z;have al:=r.ext Z;have ak:=za hV.1;have HV:=za hV;have d:Hid ((ClI F.s F.p F.L (bq T0) 12 f/\(∀ i q,zdx T i q->zdx f i q)/\∀ (c l:Nat),c<j->o[c]?=fU l->∃ V,MvP F.s F.p l T 12 V/\Has f V 12)/\Has f V 0):=⟨b.out,Has.zero _ _⟩;clear b hV r O n aD Z;go_wp2_with fail
    go_loopw [8,9,24] (fun _ _ i wr=>∃ (k:Nat) (g:List Nat),i=.int iX k/\k<=12/\Blk wr H 222 (zbm g).toArray/\Ext u wr/\Hid ((ClI F.s F.p F.L (bq T0) 12 g/\(∀ i q,zdx T i q->zdx g i q)/\∀ (c l:Nat),c<j->o[c]?=fU l->∃ V,MvP F.s F.p l T 12 V/\Has g V 12)/\Has g V k)) (fun _ _ i _=>12 - (intOf i).toNat)
    case atStart=>exact⟨0,f,rfl,dF _,al,D,d⟩
    case round =>
     clear al D d;obtain⟨k,g,rfl,hk,r,a,d⟩:=hrel
     by_cases hlt:k<12
     ·have aH:∀ X:jX,(Instr.index 222 (zgP V) (.int iX (k:Int))).run j3 X=.ok (.int .u16 (V.getD k 0:Nat)) X:=fun X=>zdy ak.out hlt X;have m:=za d.out.1.1.len;have a3:(k:Int)<12:=oM;obtain⟨x,ab⟩:∃ x,Hid (V.getD k 0=x):=⟨_,rfl⟩;obtain⟨z,hz⟩:∃ z,Hid (g.getD k 0=z):=⟨_,rfl⟩;rw [ab.out] at aH;have aq:x<65536:=by rw [<- ab.out];exact zbC HV.out.2.1 k
      have av:z<65536:=by rw [<- hz.out];exact zbC d.out.1.1.lt k
      have a4:=u16_or_nat z x av aq;have c5:wr.cell? ⟨H,k,fV⟩=fU (.int .u16 (z:Nat)):=by
       rw [r.cell,eO,zeX (by rw [m.out];exact hlt),hz.out]
      have f5:=r.frozen k;have S:k<g.length:=by rw [m.out];exact hlt
      have B:Hid ((ClI F.s F.p F.L (bq T0) 12 (g.set k (z|||x))/\(∀ i q,zdx T i q->zdx (g.set k (z|||x)) i q)/\∀ (c l:Nat),c<j->o[c]?=fU l->∃ V,MvP F.s F.p l T 12 V/\Has (g.set k (z|||x)) V 12)/\Has (g.set k (z|||x)) V (k+1)):=by
       obtain⟨⟨i1,i2,i3⟩,i4⟩:=d.out;rw [<- hz.out,<- ab.out];exact⟨⟨i1.join t.out HV.out ag.out hlt,fun i q hb=>(zcN S _ _ _).2 (.inl (i2 i q hb)),fun c l h1 h2=>by
        obtain⟨V,v1,v2⟩:=i3 c l h1 h2;exact⟨V,v1,v2.set S⟩⟩,i4.step S⟩
      have aG:u.heap.size<=H:=by rw [an.out];exact dD _
      clear d;go_wp2_with fail
      go_roundw
      case rel=>exact⟨k+1,g.set k (z|||x),gM,oM,by rw [<- zka];exact r.ae k _,a.setCell (p:=⟨H,k,fV⟩) aG _,B⟩
      case measure=>exact uM
     ·have aX:12<=k:=oM;have B:Hid (ClI F.s F.p F.L (bq T0) 12 g/\(∀ i q,zdx T i q->zdx g i q)/\∀ (c l:Nat),c<j+1->o[c]?=fU l->∃ V,MvP F.s F.p l T 12 V/\Has g V 12):=by
       obtain⟨⟨i1,i2,i3⟩,i4⟩:=d.out;refine⟨i1,i2,fun c l' h1 h2=>?_⟩;rcases dX (eF h1) with h3|rfl
       ·exact i3 c l' h3 h2
       ·have h4:=hl.out;rw [h2] at h4;obtain rfl:=j8 h4;exact⟨V,HV.out,fun i q hi hb=>i4 i q oM hb⟩
      clear d;go_wp2_with fail
      go_roundw
      case rel=>exact⟨j+1,g,gM,oM,r,a,B⟩
      case measure=>exact uM
   ·have aW:¬ (j:Int)<(o.length:Int):=oM;have O:∀ l,hidL F.s F.L l->∃ V,MvP F.s F.p l T 12 V/\Has f V 12:=fun l hl=>by
     obtain⟨c,R⟩:=List.getElem?_of_mem (hidS_iff.2 hl);rw [<- y.out] at R;exact b.out.2.2 c l (by have:=(j9.1 R).1;omega) R
    have n:=I.out.ext a;have ae:=aE.out.ext a;have m:(zbm f).toArray.size=12:=by simp [zbm,b.out.1.len]
    have Q:=run_eq_pset (T:=f) (U:=T) ⟨b.out.1.len,b.out.1.lt⟩ ⟨t.out.len,t.out.lt⟩;unfold zgP at Q
    by_cases hMT:f=T
    ·have C:decide (f=T)=jU:=by simpa using hMT
     rw [C] at Q;have ay:=za hMT;clear hMT;go_wp2_with (first
      |(refine wpList_load_row rfl _ _ rfl _ rfl _ _ _ _ r Tryz.underlying222 rfl (by rw [m];exact zaS) ?_)
      |(refine wpList_load_row rfl _ _ rfl _ rfl _ _ _ _ n Tryz.underlying222 rfl (by rw [h12];exact zaS) ?_)
      |(refine zcR rfl _ _ rfl _ rfl rfl ae sM t.out.len ?_;intro w7 b7 hf7))
     have aL:=(Y.trans a).size;have aa:Ext W w7:=(Y.trans a).frm hf7 (fun q hq e=>by subst e;omega);have am:zaP T 12 (Cl F.s F.p F.L (bq T0)):=t.out.stop (fun l hl=>by
      obtain⟨V,v1,v2⟩:=O l hl;rw [ay.out] at v2;exact⟨V,v1,v2⟩)
     exact bodyPost_ret (v:=zgP T) (results_cell_row (p:=4) (ty:=222) Tryz.results197 _ _ (W.heap.size+1) _ _ _ _ rfl b7 Tryz.underlying222 rfl (by rw [h12];exact zaS)) rfl ⟨T,rfl,am,aa⟩
    ·have C:decide (f=T)=j1:=by simpa using hMT
     rw [C] at Q;have aJ:=za (room_grow (by rw [t.out.len,b.out.1.len]) b.out.1.lt b.out.2.1 (fun e=>hMT e.symm));have ap:=za (memP_blk I.out t.out.len);clear hMT;go_wp2_with (first
      |(refine wpList_load_row rfl _ _ rfl _ rfl _ _ _ _ r Tryz.underlying222 rfl (by rw [m];exact zaS) ?_)
      |(refine wpList_load_row rfl _ _ rfl _ rfl _ _ _ _ n Tryz.underlying222 rfl (by rw [h12];exact zaS) ?_)
      |(refine zcR rfl _ _ rfl _ rfl rfl n t.out.len b.out.1.len ?_;intro w7 b7 hf7))
     have aL:=(Y.trans a).size;have aa:Ext W w7:=(Y.trans a).frm hf7 (fun q hq e=>by subst e;omega);go_roundw
     case rel=>exact⟨f,b7,ae.frm hf7 oM,za b.out.1,aa⟩
     case measure =>
      show room (memP w7 W.heap.size)<room (memP u W.heap.size);rw [memP_blk b7 b.out.1.len,ap.out];exact aJ.out
end
end
theorem MvP.ws (h:MvP s p l T 12 V)(hp:zj p=jU)(hl:l<6)(hT:WS p T):WS p V:=
 ⟨h.1,h.2.1,fun j q' hb=>by
  obtain⟨i,q,-,h2,-,rfl⟩:=(h.2.2 j q').1 hb
  exact zdE hp (hT.row i q h2) hl⟩
theorem zjE (hT:WS p T)(hV:MvP s p l T 12 V)(hU:zaP U 12 (Cl s p A (bq V))):Lead s p A l T U:=by
 unfold Lead;rw [<- (hV.fin hT.stand).eq];exact hU
section
variable {F:Sfx}{Ts:List (List Nat)}{nx:Nat->Nat->Int}{k:Nat}{M:List Nat->Option Nat}{vs vn vu:j4}{W W':jX}
theorem zeL.setN {v:Int}(h:zeL F Ts nx k M vs (fC (fU g) n c) vu W)(hq:q<Ts.length)(hl:l<6) :
  zeL F Ts (fun k' l'=>if k'=q/\l'=l then v else nx k' l') k M vs (fC (fU g) n c) vu (W.setCell ⟨g,q*6+l,fV⟩ v)/\Kq (sfS F vs (fC (fU g) n c) vu) W (W.setCell ⟨g,q*6+l,fV⟩ v) (sfS F vs (fC (fU g) n c) vu):=by
 have d:=dG W g (q*6+l) (.int iX v);have a:=h.next;have m:(fC (fU g) n c).ownBlock=fU g:=rfl;have i:n=Ts.length:=by
  rcases a.2 with ⟨h1,h2⟩|⟨r,p,o,h1,_⟩
  ·injection h1 with h1;cases h1
  ·injection h1
 subst i;have f:=(a.stored (q*6+l) (.int iX v)).1;rw [nxC_set hq hl] at f;refine⟨⟨⟨h.frm.os,h.frm.tape,h.frm.output,by simpa using h.frm.size,fun j hj hn'=>?_⟩,h.blk.far (fun e=>zL a h.blk dM m e.symm) _,zf h.sets d (fun b hb e=>zas h.sets a dM hb (by rw [e];rfl)),f,zf h.uns d (fun b hb e=>zas h.uns a dM hb (by rw [e];rfl)),h.map.frm d (fun e=>h.map.aj a (by rw [e];rfl)),h.num,h.le,h.ws⟩,d.mono (fun b _ e=>.inr (.inr (.inl (by rw [e];rfl)))),fun b hb=>.inl hb⟩;refine (d.block j (oH h.frm.size) (fun e=>?_)).trans (h.frm.block j hj hn');have:=(a.lt g m).1;omega
def RetSAf (F:Sfx) (Ts:List (List Nat)) (T:List Nat) (_n l:Nat) (S:Nat->Prop) (W:jX) (e:Ending) (W':jX):Prop:=
 ∃ (j:Nat) (Ts':List (List Nat)) (nx':Nat->Nat->Int) (k':Nat) (M':List Nat->Option Nat) (vs' vn' vu':j4) (V:List Nat),e=j5 (.int iX (j:Int))/\SfI F.s F.p F.L Ts' nx'/\Ts'.length<=Ts.length+1/\(∀ (i:Nat) (U:List Nat),Ts[i]?=fU U->Ts'[i]?=fU U)/\Ts'[j]?=fU V/\Lead F.s F.p F.L l T V /\
  zeL F Ts' nx' k' M' vs' vn' vu' W'/\Kq S W W' (sfS F vs' vn' vu')
theorem sf_after (hF:zij F)(h:zeL F Ts nx k M vs vn vu W)(hI:SfI F.s F.p F.L Ts nx)  (hT:Ts[n]?=fU T)(hl:l<6)(hn:Ts.length<=200000000000) :
  j6 j3 108 #[kB (fU ⟨F.G,0,fV⟩),n,l] W (RetSAf F Ts T n l (sfS F vs vn vu) W):=by
 have HF:=za hF;have S:=za hI;have Y:=za hT;have D:=(j9.1 hT).1;have an:(n:Int)<(Ts.length:Int):=oM;have aB:(l:Int)<6:=oM;have a:=za (hI.ws T (dC hT));obtain⟨As,cs,rfl⟩:=zh h.sets;obtain⟨An,cn,rfl⟩:=zh h.next;obtain⟨gn,rfl,ay,-⟩:=zM h.next oM;obtain⟨gs,rfl,az,-⟩:=zM h.sets oM;have y:=za h;have kG:=h.blk.cell;simp only [sfC] at kG;have cN:W.cell? ⟨gn,n*6+l,fV⟩=fU (.int iX (nx n l)):=by rw [h.next.cellAt _ oM,zfv D hl]
 have ag:=za (hI.nx n l D hl);clear hF h hI hT;rcases ag.out with m|⟨j,T1,U,hj,C,g,B⟩
 ·rw [m] at cN;have f:W.rangeAt gs (n*12) (zbm T):=fun i u hu=>by
   have hi:i<12:=by have:=(j9.1 hu).1;rw [zbS,a.out.len] at this;exact this
   rw [y.out.sets.cellAt _ oM];exact stC_drop y.out.ws Y.out i u hu
  have h12:(zbm T).length=12:=by rw [zbS];exact a.out.len
  clear m
  go_enter Tryz.func108,Tryz.ntmps108
  go_upto_region 3 with (first
   |(refine wpList_load_mid rfl _ _ rfl gs (n*12) rfl (zbm T) _ f Tryz.underlying222 rfl (by rw [h12];exact zaS) ?_)
   |(go_at_call 198;refine (sf_move HF.out y.out a.out hl).mono ?_;rintro e w1 ⟨V,rfl,z,hx1⟩)
   |(go_at_call 197;refine (sf_close HF.out (y.out.ext HF.out hx1) (z.ws HF.out.hp hl a.out)).mono ?_;rintro e w2 ⟨U,rfl,g,R⟩)
   |(go_at_call 196;refine (sf_add HF.out (y.out.ext HF.out (hx1.trans R)) ((zjE a.out z g).ws HF.out.hp hl a.out) oM).mono ?_;rintro e w3 ⟨j,c,aj,k',M',aG,aF,aH,rfl,E,r,b,H⟩))
  have Q:c.length<=Ts.length+1/\(∀ (i:Nat) (U:List Nat),Ts[i]?=fU U->c[i]?=fU U)/\SfI F.s F.p F.L c aj:=by
   rcases E with ⟨rfl,rfl⟩|⟨rfl,rfl⟩
   ·exact⟨oM,fun _ _ h=>h,S.out⟩
   ·exact⟨sM,fun i U h=>by rw [List.getElem?_append_left (j9.1 h).1];exact h,S.out.add ((zjE a.out z g).ws HF.out.hp hl a.out)⟩
  obtain⟨ai,x,O⟩:=Q;have t:=x n T Y.out;have ab:=za x;have o:n<c.length:=(j9.1 t).1;have af:(n:Int)<(c.length:Int):=oM;obtain⟨aq,av,rfl⟩:=zh b.next;obtain⟨q,rfl,-,-⟩:=zM b.next oM;have k3:=b.blk.cell;simp only [sfC] at k3;obtain⟨o0,g0⟩:=zaF b.next (n*6+l) oM;have f0:=b.next.frozenAt (n*6+l);obtain⟨d,I⟩:=b.setN (v:=(j:Int)) o hl;have ae:=za (O.set (k:=n) (l:=l) (j:=j) t r (zjE a.out z g));have Z:=za r;have aa:=za (zjE a.out z g);have ah:=za ((Kq.back (hx1.trans R) H).trans I);clear t x O r z g H I E;go_upto_region 4 with fail
  have k4:=d.blk.cell;simp only [sfC] at k4;have c4:(w3.setCell ⟨q,n*6+l,fV⟩ (.int iX (j:Int))).cell? ⟨q,n*6+l,fV⟩=fU (.int iX (j:Int)):=by
   rw [d.next.cellAt _ oM,zfv o hl,if_pos ⟨rfl,rfl⟩]
  have X:=za d;clear k3 g0 f0 b d;generalize w3.setCell ⟨q,n*6+l,fV⟩ (.int iX (j:Int))=w4 at *;go_wp2_with fail
  go_ret;exact⟨j,c,_,k',M',_,_,_,U,rfl,ae.out,ai,ab.out,Z.out,aa.out,X.out,ah.out⟩
 ·rw [hj] at cN;have J:=za (show RetSAf F Ts T n l (sfS F (fC (fU gs) Ts.length cs) (fC (fU gn) Ts.length cn) vu) W (j5 (.int iX (j:Int))) W from by
   obtain rfl:=j8 (Y.out.symm.trans C);exact⟨j,Ts,nx,k,M,_,_,_,U,rfl,S.out,oM,fun _ _ h=>h,g,B,y.out,Kq.refl⟩)
  have aA:¬ ((j:Int)<0):=oM;clear hj C g B
  go_enter Tryz.func108,Tryz.ntmps108
  go_wp2_with fail
  go_ret;exact J.out
end
def SafJ (F:Sfx):zbi:=fun B W S=>∃ (Ts:List (List Nat)) (nx:Nat->Nat->Int) (k:Nat) (M:List Nat->Option Nat) (vs vn vu:j4),SfI F.s F.p F.L Ts nx/\zeL F Ts nx k M vs vn vu W/\Ts.length<=10000*B+1/\S=sfS F vs vn vu
theorem SafJ.ok {F:Sfx}(hF:zij F):zbi.Ok F.lo (SafJ F) where
 lt:=fun ⟨_,_,_,_,_,_,_,_,h,_,e⟩ j hj=>by subst e;exact h.lt hj
 low:=fun ⟨_,_,_,_,_,_,_,_,h,_,e⟩ j hj=>by subst e;exact h.low hF hj
 keep:=fun ⟨Ts,nx,k,M,vs,vn,vu,hI,h,hl,e⟩ hf hT=>by subst e;exact⟨Ts,nx,k,M,vs,vn,vu,hI,h.frmT hF hf hT,hl,rfl⟩
 more:=fun ⟨Ts,nx,k,M,vs,vn,vu,hI,h,hl,e⟩ hBC=>⟨Ts,nx,k,M,vs,vn,vu,hI,h,oM,e⟩
section
variable {F:Sfx}{Ts:List (List Nat)}{nx:Nat->Nat->Int}{k:Nat}{M:List Nat->Option Nat}{vs vn vu:j4}{W:jX}
theorem zeL.bad {A:Option Addr}(h:zeL F Ts nx k M vs vn (fC A n c) W)(hT:Ts[q]?=fU T):∃ g,A=fU ⟨g,0,fV⟩/\n=Ts.length/\W.cell? ⟨g,q,fV⟩=fU (.bool (zgY F.p T)):=by
 have b:=h.uns;have f:=(j9.1 hT).1;have a:n=Ts.length:=by
  rcases b.2 with ⟨h1,h2⟩|⟨j,i,d,h1,_⟩
  ·injection h1 with _ h3;omega
  ·injection h1
 subst a;obtain⟨g,rfl,-,-⟩:=zM b oM;refine⟨g,rfl,rfl,?_⟩;rw [b.cellAt q oM];simp [zY,unC,hT]
theorem sf_safe (hF:zij F){B:Nat}{S:Nat->Prop}(hJ:SafJ F B W S)(hB:B<10000000)(hx:inB x F.L=jU)(hxs:x.size<=9000) :
  j6 j3 122 #[kB (fU ⟨F.G,0,fV⟩),x] W (RetO (SafJ F) (.bool (zu F.s F.p F.L x)) (B+1) S W):=by
 have HF:=za hF;have Hx:=za hx;have Hb:=za (fun k hk=>zaU (zbj hx) (k:=k) hk);obtain⟨Ts,nx,k,M,y,u,C,hI,h,hl,rfl⟩:=hJ;obtain⟨Z,I,U⟩:=hI.start;have g:Hid (SfI F.s F.p F.L Ts nx/\Ts[0]?=fU Z/\SfW F.s F.p F.L x 0 Z/\zeL F Ts nx k M y u C W/\Kq (sfS F y u C) W W (sfS F y u C)/\Ts.length<=10000*B+1+0):=⟨hI,I,SfW.zero U,h,Kq.refl,oM⟩;clear hF hx hI I U h hl
 go_enter Tryz.func122,Tryz.ntmps122
 go_upto_block 0 with fail
 go_wp2_with fail
 go_loopw [5,6] (fun n i wr=>∃ (q a:Nat) (c:List (List Nat)) (m:Nat->Nat->Int) (k':Nat) (Y:List Nat->Option Nat) (r o D:j4) (T:List Nat),n=.int iX q/\i=.int iX a/\a<=x.size/\Hid (SfI F.s F.p F.L c m/\c[q]?=fU T/\SfW F.s F.p F.L x a T/\zeL F c m k' Y r o D wr/\Kq (sfS F y u C) W wr (sfS F r o D)/\c.length<=10000*B+1+a)) (fun _ i _=>x.size - (intOf i).toNat)
 case atStart=>exact⟨0,0,Ts,nx,k,M,y,u,C,Z,rfl,rfl,dF _,g⟩
 case round =>
  clear g;obtain⟨q,a,c,m,k',Y,r,o,D,T,rfl,rfl,ha,X⟩:=hrel;obtain⟨h1,h2,h3,h4,h5,h6⟩:=X.out;obtain⟨Au,nu,rfl⟩:=zh h4.uns;obtain⟨gu,rfl,-,cu⟩:=h4.bad h2;have kG:=h4.blk.cell;simp only [sfC] at kG;have av:(q:Int)<(c.length:Int):=by have:=(j9.1 h2).1;omega
  have b:(a=x.size\/zgY F.p T=jU)->Hid (RetO (SafJ F) (.bool (zu F.s F.p F.L x)) (B+1) (sfS F y u C) W (j5 (.bool (!zgY F.p T))) wr):=fun he=>by
   refine⟨_,by rw [h3.fin Hx.out (he.elim (fun e=>.inl (by rw [e,zfl])) (fun e=>.inr e))],⟨⟨c,m,k',Y,r,o,_,h1,h4,oM,rfl⟩,h5.frm,h5.new⟩⟩
  by_cases hlt:a<x.size
  ·have aj:(a:Int)<(x.size:Int):=oM;cases hb:zgY F.p T with
   |true =>
    have d:=b (.inr hb);rw [hb] at d cu;clear b h1 h2 h3 h4 h5 h6 X;go_wp2_with fail
    go_ret;exact d.out
   |false =>
    have H:=za hb;rw [hb] at cu;have aq:=Hb.out a hlt;have J:=za (zet hlt);have Q:=za (show ltr (x[a].toNat)=((x[a].toNat - 97:Nat):Int) by unfold ltr;rw [if_neg oM];omega);obtain⟨l,O⟩:∃ l,Hid (l=x[a].toNat - 97):=⟨x[a].toNat - 97,za rfl⟩;rw [<- O.out] at J Q;have ab:l<6:=oH O.out;have H1:=za h1;have H2:=za h2;have H3:=za h3;have H4:=za h4;have H5:=za h5;clear b h1 h2 h3 h4 h5 X hb;go_wp2_with (first
     |(go_at_call 121;refine (zcg x a hlt _).mono ?_;rw [Q.out];rintro e w6 ⟨rfl,rfl⟩)
     |(go_at_call 108;refine (sf_after HF.out H4.out H1.out H2.out ab oM).mono ?_;rintro e w6 ⟨j,f,t,k2,M2,z,v,E,V,rfl,i1,i2,i3,i4,i5,i6,i7⟩))
    have R:Hid (SfI F.s F.p F.L f t/\f[j]?=fU V/\SfW F.s F.p F.L x (a+1) V/\zeL F f t k2 M2 z v E w6/\Kq (sfS F y u C) W w6 (sfS F z v E)/\f.length<=10000*B+1+(a+1)):=
     ⟨i1,i4,H3.out.step H.out J.out i5,i6,H5.out.trans i7,oM⟩
    go_roundw
    case rel=>exact⟨j,a+1,f,t,k2,M2,z,v,E,V,rfl,gM,oM,R⟩
    case measure=>exact uM
  ·have ar:¬ (a:Int)<(x.size:Int):=oM;have d:=b (.inl oM);clear b h1 h2 h3 h4 h5 h6 X;go_wp2_with fail
   go_ret;exact d.out
end
end Go.Proofs.YtckbjnndaaoddaaGreatDoor
