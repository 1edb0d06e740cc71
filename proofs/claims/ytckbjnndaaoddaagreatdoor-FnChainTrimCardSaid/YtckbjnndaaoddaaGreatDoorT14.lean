/- The referenc -/
import Derived.Test.YtckbjnndaaoddaaGreatDoorT13
import Derived.Deep.MidRow
import Derived.Deep.WholeRow
set_option maxHeartbeats 2000000
set_option maxRecDepth 100000
namespace Go.Proofs.YtckbjnndaaoddaaGreatDoor
open Go Go.RowKit
open Bool renaming and_eq_true->dI,or_eq_true->gS,false->kK,true->kC
open Ext renaming bl_->eM,eq_->fV,refl->dB
open Frm renaming setCell->dG
open List renaming all_eq_true->eV,getD_eq_getElem?_getD->dF,getElem?_eq_getElem->dE,getElem?_eq_none->eJ,getElem?_map->eC,getElem?_toArray->e8,length_append->eA,length_map->eF,length_singleton->eH,mem_of_getElem?->dC,mem_of_mem_drop->j0,range->fM,replicate->eG,take_add_one->eB,take_of_length_le->dK,getElem?_eq_some_iff->kT,mem_map->kW,mem_range->lC
open Nat renaming add_assoc->fN,and_le_right->j4,le_of_lt_succ->eW,le_refl->dD,le_trans->dW,lt_or_eq_of_le->eP,mod_eq_of_lt->iE,mul_comm->gE,testBit_and->gH,zero_le->dH
open Option renaming getD_some->fO,toList_some->eS,isSome_iff_exists->lD,none->gP,some->gO
open Reads renaming af->eQ
open Go renaming Calls->kQ,Value->kL,World->kJ
open Go.Ending renaming returned->kP
open Go.IntKind renaming i64->kA
open Go.Value renaming agg->kO,bool->kR,slice->fQ,string->kU
open Option.some renaming inj->kS
open _root_.Go.Proofs.Tryz renaming prog->kN
variable {A L Z g k l n q:Nat}{T T0 U V v:List Nat}{a p:Aut}{s t:Sys}{ss ts:List Sys}{w:kJ}{x:ByteArray}
theorem zcZ (s t:Sys) (p:Aut):iface s p t = -1\/∃ L:Nat,iface s p t=(L:Int):=by
 unfold iface;split
 ·exact .inr ⟨_,rfl⟩
 ·exact .inl rfl
section
variable {w:kJ}{lo hi n c lo1 hi1 m d m' d' lo2 hi2 k c2:Nat}{A B B' C:Option Addr}{s t:Sys}{p:Aut}
theorem spec_TaskOf0 (hs:zR w lo hi A n s)(hp:zF w lo1 hi1 B m B' m' p)(ht:zR w lo2 hi2 C k t)(hif:iface s p t = -1) :
  kQ kN 202 #[kO #[s.al,s.st,fQ A n c],kO #[p.al,fQ B m d,fQ B' m' d'],kO #[t.al,t.st,fQ C k c2]] w
   fun e w'=>e=kP (.tuple #[kO #[(0:Int),(0:Int),(),(0:Int),(),(),(0:Int)],kR kK])/\Ext w w':=by
 have b:=za (fun W (hW:Ext w W)=>zes (c:=c) (d1:=d) (d1':=d') (c2:=c2) (hs.ext hW) (hp.ext hW) (ht.ext hW));rw [hif] at b;clear hs hp ht hif;obtain⟨j,U0⟩:∃ x,Hid ((((w.alloc (.cells #[s.al,s.st,fQ A n c] 38)).alloc (.cells #[p.al,fQ B m d,fQ B' m' d'] 27)).alloc (.cells #[t.al,t.st,fQ C k c2] 38)).alloc (.cells #[(0:Int),(0:Int),(),(0:Int),(),(),(0:Int)] 70)=x):=⟨_,za rfl⟩;have g:Ext w j:=(((((dB _).alloc _).alloc _).alloc _).alloc _).trans (fV U0.out);obtain⟨l,o,q⟩:=zaa (((dB _).alloc _).trans (fV U0.out));have b4:=eM U0.out;simp only [World.size_alloc] at b4
 go_enter Tryz.func202,Tryz.ntmps202
 go_upto_region 1 with fail
 rw [U0.out] at *;have D:=l.cells;have z:=o.cells;have E:=q.cells;have y:=dB j;go_upto_region 3 with (first
  |(go_at_call 95;refine (b.out _ g).mono (mQ fun w1 a=>?_)))
 have h:=b4.ext a;have G:=h.cell;have F:=h.frozen;have i:=g.trans a;have u:Frm (fun k=>k=w.heap.size+1+1+1) w1 (((((((w1.setCell ⟨w.heap.size+1+1+1,0,gP⟩ (0:Int)).setCell ⟨w.heap.size+1+1+1,1,gP⟩ (0:Int)).setCell ⟨w.heap.size+1+1+1,2,gP⟩ ()).setCell ⟨w.heap.size+1+1+1,3,gP⟩ (0:Int)).setCell ⟨w.heap.size+1+1+1,4,gP⟩ ()).setCell ⟨w.heap.size+1+1+1,5,gP⟩ ()).setCell ⟨w.heap.size+1+1+1,6,gP⟩ (0:Int)):=
  ((((((dG w1 _ 0 _).trans (dG _ _ 1 _)).trans (dG _ _ 2 _)).trans (dG _ _ 3 _)).trans (dG _ _ 4 _)).trans (dG _ _ 5 _)).trans (dG _ _ 6 _)
 have r:Blk (((((((w1.setCell ⟨w.heap.size+1+1+1,0,gP⟩ (0:Int)).setCell ⟨w.heap.size+1+1+1,1,gP⟩ (0:Int)).setCell ⟨w.heap.size+1+1+1,2,gP⟩ ()).setCell ⟨w.heap.size+1+1+1,3,gP⟩ (0:Int)).setCell ⟨w.heap.size+1+1+1,4,gP⟩ ()).setCell ⟨w.heap.size+1+1+1,5,gP⟩ ()).setCell ⟨w.heap.size+1+1+1,6,gP⟩ (0:Int)) (w.heap.size+1+1+1) 70 #[.int kA 0,.int kA 0,fQ gP 0 0,.int kA 0,fQ gP 0 0,fQ gP 0 0,.int kA 0]:=by
  simpa using ((((((h.ab 0 (.int kA 0)).ab 1 (.int kA 0)).ab 2 (fQ gP 0 0)).ab 3 (.int kA 0)).ab 4 (fQ gP 0 0)).ab 5 (fQ gP 0 0)).ab 6 (.int kA 0)
 have f:=za (i.frm u (fun k hk e=>oM));go_wp2_with fail
 generalize (((((((w1.setCell ⟨w.heap.size+1+1+1,0,gP⟩ (0:Int)).setCell ⟨w.heap.size+1+1+1,1,gP⟩ (0:Int)).setCell ⟨w.heap.size+1+1+1,2,gP⟩ ()).setCell ⟨w.heap.size+1+1+1,3,gP⟩ (0:Int)).setCell ⟨w.heap.size+1+1+1,4,gP⟩ ()).setCell ⟨w.heap.size+1+1+1,5,gP⟩ ()).setCell ⟨w.heap.size+1+1+1,6,gP⟩ (0:Int))=W at *;have cf:=r.cell;exact bodyPost_ret (v:=.tuple #[kO #[(0:Int),(0:Int),(),(0:Int),(),(),(0:Int)],kR kK]) (by simp [results,Tryz.results202,go_sem,cf]) rfl ⟨rfl,f.out⟩
theorem spec_l12Run0 {K:Nat}(hs:zR w lo hi A n s)(hp:zF w lo1 hi1 B m B' m' p)(ht:zR w lo2 hi2 C k t)(hif:iface s p t = -1) :
  kQ kN 112 #[kO #[s.al,s.st,fQ A n c],kO #[t.al,t.st,fQ C k c2],kO #[p.al,fQ B m d,fQ B' m' d'],K] w (zdJ w ⟨3,noA,⟨#[]⟩,0⟩):=by
 have H:=za (fun W (hW:Ext w W)=>spec_TaskOf0 (c:=c) (d:=d) (d':=d') (c2:=c2) (hs.ext hW) (hp.ext hW) (ht.ext hW) hif);clear hs hp ht hif;obtain⟨r,U0⟩:∃ x,Hid (((((w.alloc (.cells #[s.al,s.st,fQ A n c] 38)).alloc (.cells #[t.al,t.st,fQ C k c2] 38)).alloc (.cells #[p.al,fQ B m d,fQ B' m' d'] 27)).alloc (.cells #[(0:Int),(0:Int),(),(),kU ⟨#[]⟩,(0:Int)] 42)).alloc (.cells #[(0:Int),(),()] 27)=x):=⟨_,za rfl⟩;have b:Ext w r:=((((((dB _).alloc _).alloc _).alloc _).alloc _).alloc _).trans (fV U0.out);obtain⟨u,y,z⟩:=zaa ((((dB _).alloc _).alloc _).trans (fV U0.out));have b4:=(Blk.new (((w.alloc (.cells #[s.al,s.st,fQ A n c] 38)).alloc (.cells #[t.al,t.st,fQ C k c2] 38)).alloc (.cells #[p.al,fQ B m d,fQ B' m' d'] 27)) 42 #[(0:Int),(0:Int),(),(),kU ⟨#[]⟩,(0:Int)]).ext ((dB _).alloc (.cells #[(0:Int),(),()] 27));have i:=eM U0.out;simp only [World.size_alloc] at b4 i
 go_enter Tryz.func112,Tryz.ntmps112
 go_upto_region 1 with fail
 rw [U0.out] at *;have L:=u.cells;have M:=y.cells;have J:=z.cells;have I:=dB r;go_upto_region 2 with (first
  |(go_at_call 202;refine (H.out _ b).mono (mQ fun w1 f=>?_)))
 generalize U0:w1.alloc _=E at *;have a:Ext r E:=(f.alloc _).trans (fV U0);clear U0;have h:=b4.ext a;have S:=h.cell;have Q:=h.frozen;have g:=i.ext a;have R:=g.cell;have O:=g.frozen;obtain⟨D,o,q⟩:=zhu (v:=⟨3,noA,⟨#[]⟩,0⟩) (A:=gP) (n:=0) (c:=0) (A':=gP) (n':=0) (c':=0) (x:=0) (X:=gP) (k1:=0) (d1:=0) (X':=gP) (k1':=0) (d1':=0) (b.trans a) h g rfl rfl oM (own_aut0 _ _);dsimp only [noA] at D o q;have F:=za o;have G:=za q;clear o q h g u y z b4 i;go_wp2_with fail
 generalize (((((((((E.setCell ⟨w.heap.size+1+1+1,0,gP⟩ (3:Int)).setCell ⟨w.heap.size+1+1+1,1,gP⟩ (0:Int)).setCell ⟨w.heap.size+1+1+1,2,gP⟩ ()).setCell ⟨w.heap.size+1+1+1,3,gP⟩ ()).setCell ⟨w.heap.size+1+1+1,4,gP⟩ (.string ⟨#[]⟩)).setCell ⟨w.heap.size+1+1+1,5,gP⟩ (0:Int)).setCell ⟨w.heap.size+1+1+1+1,0,gP⟩ (0:Int)).setCell ⟨w.heap.size+1+1+1+1,1,gP⟩ ()).setCell ⟨w.heap.size+1+1+1+1,2,gP⟩ ())=W at *;have j:=F.out.cell;have l:=G.out.cell;exact bodyPost_ret (v:=.tuple #[kO #[(3:Int),(0:Int),(),(),kU ⟨#[]⟩,(0:Int)],kO #[(0:Int),(),()]]) (by simp [results,Tryz.results112,go_sem,j,l]) rfl D.out
end
noncomputable def vpT (s t:Sys) (p:Aut):Vd:=
 if iface s p t<0 then ⟨3,noA,⟨#[]⟩,0⟩ else runT s t p (iface s p t).toNat 12 0 ((zac (iface s p t).toNat (zo s p (iface s p t).toNat) [⟨#[]⟩] 11 [⟨#[]⟩]).map fun r=>(r,[⟨#[]⟩]))
theorem ziq (h:iface s p t = -1):vpT s t p=⟨3,noA,⟨#[]⟩,0⟩:=by unfold vpT;rw [if_pos oM]
theorem zir (h:iface s p t=(L:Int)):vpT s t p=runT s t p L 12 0 ((zac L (zo s p L) [⟨#[]⟩] 11 [⟨#[]⟩]).map fun r=>(r,[⟨#[]⟩])):=by
 have e:(iface s p t).toNat=L:=oM;unfold vpT;rw [if_neg oM,e]
theorem iface_lt (h:iface s p t=(L:Int)):L<64:=by
 obtain⟨c,b,a⟩:=zck (show 0<=iface s p t by omega);rw [zez c b a] at h;have h1:=zI a;have h2:((s.al.toNat|||p.al.toNat)&&&t.al.toNat)<=t.al.toNat:=j4;omega
theorem vpT_size (s t:Sys) (p:Aut):(vpT s t p).asm.size<=1048576/\(vpT s t p).tr.size<=4000:=by
 rcases zcZ s t p with h|⟨L,h⟩
 ·rw [ziq h];exact⟨by show noA.size<=_;decide,dH _⟩
 ·rw [zir h];obtain⟨b,a,c⟩:=zck (show 0<=iface s p t by omega);exact runT_size (iface_lt h) (by simp [zA,b,c]) a 12 0 _ (zew.new L _)
section
variable {w:kJ}{lo hi n c lo1 hi1 m d m' d' lo2 hi2 k c2:Nat}{A B B' C:Option Addr}{s t:Sys}{p:Aut}
theorem zhd (hs:zR w lo hi A n s)(hp:zF w lo1 hi1 B m B' m' p)(ht:zR w lo2 hi2 C k t)(hn:n<=1000000)(hhi:hi<=w.heap.size) :
  kQ kN 42 #[kO #[s.al,s.st,fQ A n c],kO #[t.al,t.st,fQ C k c2],kO #[p.al,fQ B m d,fQ B' m' d']] w
   (zjt w (vpT s t p)):=by
 rcases zcZ s t p with h|⟨L,h⟩
 ·rw [ziq h];exact zdx (za (fun W (hW:Ext w W)=>spec_l12Run0 (K:=12) (hs.ext hW) (hp.ext hW) (ht.ext hW) h))
 ·rw [zir h];exact zia hs hp ht h hn hhi
end
theorem valid_len (h:zk s=kC):s.edges.length<=1536:=by
 unfold zk at h;simp only [dI,decide_eq_true_eq,eV] at h;obtain⟨-,⟨h1,h2⟩,h3⟩:=h;have g:∀ (k:Nat) (e:Edg),s.edges[k]?=gO e->(k:Int)<=(e.fr*6+e.le)*16+e.ta/\(e.fr*6+e.le)*16+e.ta<1536:=by
  intro k
  induction k with
  |zero =>
   intro e he;have:=h3 0 (lC.2 (kT.1 he).1);unfold zbw at this;rw [he] at this;simp only [edgB,dI,decide_eq_true_eq] at this;obtain⟨⟨⟨h4,h5⟩,⟨j,l⟩,m,c⟩,-⟩:=this;unfold hasB at c;simp only [dI,decide_eq_true_eq] at c;omega
  |succ k ih =>
   intro e he;have n:=(kT.1 he).1;have:=h3 (k+1) (lC.2 n);unfold zbw at this;rw [he] at this;obtain⟨q,hq⟩:∃ q,s.edges[k]?=gO q:=⟨_,dE oM⟩;have o:=ih q hq;rw [show k+1 - 1=k by omega,hq] at this;simp only [edgB,dI,gS,decide_eq_true_eq] at this;obtain⟨⟨⟨h4,h5⟩,⟨j,l⟩,m,c⟩,d⟩:=this;unfold hasB at c;simp only [dI,decide_eq_true_eq] at c;have a:=d.resolve_left oM;have b:=h3 k (lC.2 oM);unfold zbw at b;rw [hq] at b;simp only [edgB,dI,gS,decide_eq_true_eq] at b;obtain⟨⟨⟨p,r⟩,⟨t,u⟩,g8,i⟩,-⟩:=b;unfold hasB at i;simp only [dI,decide_eq_true_eq] at i;unfold ltE at a
   split at a
   ·split at a
    ·rw [decide_eq_true_eq] at a;omega
    ·rw [decide_eq_true_eq] at a;omega
   ·rw [decide_eq_true_eq] at a;omega
 rcases Nat.lt_or_ge 1536 s.edges.length with a|f
 ·have:=g 1536 _ (dE a);omega
 ·exact f
structure Vc where
 code:Int
 fst:Aut
 snd:Aut
 tr:ByteArray
 ro:Nat
noncomputable def zaQ (x y z:Sys) (p:Aut) (L:Nat) (a:Aut):ByteArray × Int × Aut:=
 if zby x a p=kC then (zay (zaI x a p) L,-1,noA)
 else if (vpT y z a).code=0 then (⟨#[]⟩,0,(vpT y z a).asm)
 else if (vpT y z a).code=2 then (⟨#[]⟩,2,noA)
 else (zay (vpT y z a).tr L,if zo x p L (zay (vpT y z a).tr L)=kC then -1 else 1,noA)
noncomputable def chT (x y z:Sys) (p:Aut) (L:Nat):Nat->Nat->Option (List ByteArray × List ByteArray)->Vc
 |0,k,_=>⟨2,noA,noA,⟨#[]⟩,k⟩
 |_+1,k,gP=>⟨2,noA,noA,⟨#[]⟩,k⟩
 |f+1,k,gO tab =>
  if (zaQ x y z p L (zcX L (zo x p L) tab.1 tab.2)).2.1=0 then ⟨0,zcX L (zo x p L) tab.1 tab.2,(zaQ x y z p L (zcX L (zo x p L) tab.1 tab.2)).2.2,⟨#[]⟩,k+1⟩
  else if (zaQ x y z p L (zcX L (zo x p L) tab.1 tab.2)).2.1=2 then ⟨2,noA,noA,⟨#[]⟩,k+1⟩
  else if (zaQ x y z p L (zcX L (zo x p L) tab.1 tab.2)).2.1=1 then ⟨1,noA,noA,zY [x,y,z] p,k+1⟩
  else chT x y z p L f (k+1) (zaD L (zo x p L) tab.1 tab.2 (zaQ x y z p L (zcX L (zo x p L) tab.1 tab.2)).1)
noncomputable def vcT (ss:List Sys) (p:Aut):Vc:=
 match ss with
 |[x,y,z]=>if 0<=zaw [x,y,z] p then chT x y z p (zaw [x,y,z] p).toNat 12 0 ((zac (zaw [x,y,z] p).toNat (zo x p (zaw [x,y,z] p).toNat) [⟨#[]⟩] 11 [⟨#[]⟩]).map fun r=>(r,[⟨#[]⟩])) else ⟨3,noA,noA,⟨#[]⟩,0⟩
 |_=>⟨3,noA,noA,⟨#[]⟩,0⟩
theorem runT_tr (s t:Sys) (p:Aut) (L f:Nat):∀ (k:Nat) (o:Option (List ByteArray × List ByteArray)),(runT s t p L f k o).tr=⟨#[]⟩\/(runT s t p L f k o).tr=zY [s,t] p:=by
 induction f with
 |zero=>intro k o;exact .inl rfl
 |succ f ih =>
  intro k o;cases o with
  |none=>exact .inl rfl
  |some tab =>
   rw [runT];split
   ·exact .inl rfl
   ·split
    ·exact .inr rfl
    ·exact ih _ _
theorem zhy (hs:zk s=kC)(ht:zk t=kC)(hp:zj p=kC):zbq (vpT s t p).tr=kC:=by
 have a:zbq (⟨#[]⟩:ByteArray)=kC:=by unfold zbq;rfl
 rcases zcZ s t p with h|⟨L,h⟩
 ·rw [ziq h];exact a
 ·rw [zir h];rcases runT_tr s t p L 12 0 ((zac L (zo s p L) [⟨#[]⟩] 11 [⟨#[]⟩]).map fun r=>(r,[⟨#[]⟩])) with e|e
  ·rw [e];exact a
  ·rw [e];exact (zcW (ss:=[s,t]) (p:=p) (zgj sM sM (by simp [hs,ht])) hp).1
def RetVdS (w:kJ) (v:Vd) (L:Nat) (e:Ending) (w':kJ):Prop:=
 ∃ (A:Option Addr) (n c:Nat) (A':Option Addr) (n' c':Nat),
  e=kP (.tuple #[kO #[v.code,v.asm.al,fQ A n c,fQ A' n' c',v.tr,v.ro],kU (zay v.tr L)])/\zM w' w.heap.size A n c A' n' c' v.asm/\Ext w w'
section
variable {w:kJ}{lo hi c lo1 hi1 m d m' d' n1 c1 k1 d1 k1' d1' L b o:Nat}{A1 B B' X X':Option Addr}{x y z:Sys}{p a:Aut}
theorem yT14a3 {P:Prop}(h:P:=by
 simpa using (((((bG.ab 0 (.int .i64 v.code)).ab 1 (.int .i64 v.asm.al)).ab 2 (.slice Z1 z1 y1)).ab 3 (.slice Z2 z2 y2)).ab 4 (.string v.tr)).ab 5 (.int .i64 v.ro)
 ):P:=h
theorem zkd (h:zeo w lo hi (gO ⟨b,o,gP⟩) 3 [x,y,z])(ha:zF w lo1 hi1 X k1 X' k1' a) (vy:zk y=kC) (vz:zk z=kC) (va:zj a=kC)(hhi:hi<=w.heap.size)(hL:L<64) :
  kQ kN 61 #[fQ (gO ⟨b,o,gP⟩) 3 c,kO #[x.al,x.st,fQ A1 n1 c1,p.al,fQ B m d,fQ B' m' d',L],kO #[a.al,fQ X k1 d1,fQ X' k1' d1']] w (RetVdS w (vpT y z a) L):=by
 obtain⟨By,ny,cy,f0,f1,f2,T⟩:=h.sys2 (k:=1) (s:=y) rfl;obtain⟨Bz,nz,cz,g0,g1,g2,hz⟩:=h.sys2 (k:=2) (s:=z) rfl;have Z:∀ W,Ext w W->W.cell? ⟨b,o+3,gP⟩=gO (.int kA y.al)/\W.cell? ⟨b,o+4,gP⟩=gO (.int kA y.st)/\W.cell? ⟨b,o+5,gP⟩=gO (fQ By ny cy)/\W.cell? ⟨b,o+6,gP⟩=gO (.int kA z.al)/\W.cell? ⟨b,o+7,gP⟩=gO (.int kA z.st)/\W.cell? ⟨b,o+8,gP⟩=gO (fQ Bz nz cz):=fun W hW =>
  ⟨hW.aa (by simpa using f0),hW.aa (by simpa [fN] using f1),hW.aa (by simpa [fN] using f2),hW.aa (by simpa using g0),hW.aa (by simpa [fN] using g1),hW.aa (by simpa [fN] using g2)⟩
 have HV:=za (fun W (hW:Ext w W)=>zhd (c:=cy) (d:=d1) (d':=d1') (c2:=cz) (T.ext hW) (ha.ext hW) (hz.ext hW) (by have:=T.1;have:=valid_len vy;omega) (dW hhi hW.size));have hwd:=za (zhy vy vz va);clear h ha vy vz va f0 f1 f2 g0 g1 g2 T hz hhi;generalize vpT y z a=v at *
 go_enter Tryz.func61,Tryz.ntmps61
 go_upto_region 1 with fail
 generalize U0:((w.alloc _).alloc _).alloc _=t at *;obtain⟨q,b1,b2,b3⟩:=Ext.x3_ U0;clear U0;have Y:=b1.cells;have CA:=b2.cells;have J:=fun W (hW:Ext t W)=>Z W (q.trans hW);clear Z;have az:=b3.lt
 go_cut [8] (fun v8 wx=>∃ (G:Nat) (Z1:Option Addr) (z1 y1:Nat) (Z2:Option Addr) (z2 y2:Nat),v8=.pointer (gO G)/\t.heap.size<=G/\Blk wx G 42 #[v.code,v.asm.al,fQ Z1 z1 y1,fQ Z2 z2 y2,v.tr,v.ro]/\zM wx t.heap.size Z1 z1 y1 Z2 z2 y2 v.asm/\Ext t wx)
 case first =>
  have D:=dB t;refine uR (fun X=>Ext t X) [7,9] (zx.app [0,1,2,3,4,5,6] (zx.two 7 (zx.of [8,9]) 8 (zx.of [7,9]))) ?_;refine uQ ?_;have l:Ext t t.drew:=D.drew;have H:=l.size;generalize t.drew=V at *;refine zm (fun K hK=>?_) (fun K hK=>?_)
  ·go_simp;refine (HV.out _ (q.trans l)).mono ?_;rintro e w1 ⟨Z1,z1,y1,Z2,z2,y2,rfl,r,hx1⟩;refine hK.out _ _ (l.trans hx1) ?_;refine pT ?_;refine ze fun K hK=>?_;go_simp;have j:=(dB w1).alloc (.cells #[(0:Int),(0:Int),(),(),kU ⟨#[]⟩,(0:Int)] 42);have f:=(l.trans hx1).trans j;have hG:t.heap.size<=w1.heap.size:=(l.trans hx1).size;have ho2:=(r.ext j).less H;refine hK.out _ _ f ?_;generalize U0:w1.alloc _=I at *;have bG:=eM U0;clear U0;generalize w1.heap.size=G at *;refine pT ?_;have Q:=bG.cell;have R:=bG.frozen;refine zb fun K hK=>?_;go_simp;refine hK.out _ _ ?_;refine zg ?_;have n:=zdD I G (.int kA v.code) (.int kA v.asm.al) (fQ Z1 z1 y1) (fQ Z2 z2 y2) (.string v.tr) (.int kA v.ro);have C:Blk ((((((I.setCell G v.code).setCell ⟨G,1,gP⟩ v.asm.al).setCell ⟨G,2,gP⟩ (fQ Z1 z1 y1)).setCell ⟨G,3,gP⟩ (fQ Z2 z2 y2)).setCell ⟨G,4,gP⟩ v.tr).setCell ⟨G,5,gP⟩ v.ro) G 42 #[.int kA v.code,.int kA v.asm.al,fQ Z1 z1 y1,fQ Z2 z2 y2,kU v.tr,.int kA v.ro]:=by
    exact yT14a3
   have O:=za (And.intro hG (And.intro C (And.intro (ho2.aq bG n dM) (f.frm n (fun k hk e=>oM)))));clear n C ho2 r f j hx1 Q R bG;go_wp2_with fail
   go_meet;exact⟨G,Z1,z1,y1,Z2,z2,y2,rfl,O.out⟩
  ·go_simp;have j:=(dB V).alloc (.cells #[(0:Int),(0:Int),(),(),kU ⟨#[]⟩,(0:Int)] 42);have f:=l.trans j;refine hK.out _ _ f ?_;generalize U0:V.alloc _=w1 at *;have bG:=eM U0;clear U0;generalize V.heap.size=G at *;refine pT ?_;refine zb fun K hK=>?_;go_simp;refine (HV.out _ (q.trans f)).mono ?_;rintro e I ⟨Z1,z1,y1,Z2,z2,y2,rfl,r,hx1⟩;have u:=f.trans hx1;have ho2:=r.less f.size;replace bG:=bG.ext hx1;refine hK.out _ _ ?_;refine pT ?_;have Q:=bG.cell;have R:=bG.frozen;refine zb fun K hK=>?_;go_simp;refine hK.out _ _ ?_;refine zg ?_;have n:=zdD I G (.int kA v.code) (.int kA v.asm.al) (fQ Z1 z1 y1) (fQ Z2 z2 y2) (.string v.tr) (.int kA v.ro);have C:Blk ((((((I.setCell G v.code).setCell ⟨G,1,gP⟩ v.asm.al).setCell ⟨G,2,gP⟩ (fQ Z1 z1 y1)).setCell ⟨G,3,gP⟩ (fQ Z2 z2 y2)).setCell ⟨G,4,gP⟩ v.tr).setCell ⟨G,5,gP⟩ v.ro) G 42 #[.int kA v.code,.int kA v.asm.al,fQ Z1 z1 y1,fQ Z2 z2 y2,kU v.tr,.int kA v.ro]:=by
    exact yT14a3
   have O:=za (And.intro H (And.intro C (And.intro (ho2.aq bG n dM) (u.frm n (fun k hk e=>oM)))));clear n C ho2 r u f j hx1 Q R bG;go_wp2_with fail
   go_meet;exact⟨G,Z1,z1,y1,Z2,z2,y2,rfl,O.out⟩
 case rest =>
  obtain⟨G,Z1,z1,y1,Z2,z2,y2,rfl,hG,C,r,E⟩:=hcut;have S:=za (zbg (s:=v.tr) (a:=L) (w:=wc.drew) hwd.out oM);have g:=b3.ext E;have aA:=C.lt;have ar:=fun W (hW:Ext wc W)=>Y W (E.trans hW);have CV:=C.cells;have D:=dB wc;clear Y CA J;go_upto_region 2 with fail
  refine uR (fun X=>Ext wc X) [6] (zx.of [0,1,2,3,4,5,6,7]) ?_;refine uQ ?_;refine ze fun K hK=>?_;go_simp;refine S.out.mono (mQ fun U u=>?_);have i:Ext wc U:=D.drew.trans u;refine hK.out _ _ i ?_;refine pT ?_;replace g:=g.ext i;replace r:=(r.ext i).less q.size;have cR:=g.cell;have fR:=g.frozen;refine zb fun K hK=>?_;go_simp;refine hK.out _ _ ?_;refine uQ ?_;refine zg ?_;have n:=zdD U (w.heap.size+1+1) (.int kA v.code) (.int kA v.asm.al) (fQ Z1 z1 y1) (fQ Z2 z2 y2) (.string v.tr) (.int kA v.ro);have bR:Blk ((((((U.setCell ⟨w.heap.size+1+1,0,gP⟩ v.code).setCell ⟨w.heap.size+1+1,1,gP⟩ v.asm.al).setCell ⟨w.heap.size+1+1,2,gP⟩ (fQ Z1 z1 y1)).setCell ⟨w.heap.size+1+1,3,gP⟩ (fQ Z2 z2 y2)).setCell ⟨w.heap.size+1+1,4,gP⟩ v.tr).setCell ⟨w.heap.size+1+1,5,gP⟩ v.ro) (w.heap.size+1+1) 42 #[.int kA v.code,.int kA v.asm.al,fQ Z1 z1 y1,fQ Z2 z2 y2,kU v.tr,.int kA v.ro]:=by
   simpa using (((((g.ab 0 (.int kA v.code)).ab 1 (.int kA v.asm.al)).ab 2 (fQ Z1 z1 y1)).ab 3 (fQ Z2 z2 y2)).ab 4 (.string v.tr)).ab 5 (.int kA v.ro)
  have F:=za (show RetVdS w v L (kP (.tuple #[kO #[v.code,v.asm.al,fQ Z1 z1 y1,fQ Z2 z2 y2,v.tr,v.ro],kU (zay v.tr L)])) _ from ⟨Z1,z1,y1,Z2,z2,y2,rfl,r.aq g n dM,(q.trans (E.trans i)).frm n (fun k hk e=>oM)⟩);have M:=za bR;clear n bR g cR fR r;go_wp2_with fail
  have cf:=M.out.cell;exact bodyPost_ret (v:=.tuple #[kO #[v.code,v.asm.al,fQ Z1 z1 y1,fQ Z2 z2 y2,v.tr,v.ro],kU (zay v.tr L)]) (by simp [results,Tryz.results61,go_sem,cf]) rfl F.out
end
theorem wl_wstr (h:∀ l∈v,l<6):wl (wstr v)=v:=by
 unfold wl wstr lbs;rw [strOfNums_data,List.map_map,List.map_map]
 conv=>rhs;rw [<- List.map_id v]
 refine List.map_congr_left fun l hl=>?_;have a:=h l hl;have b:∀ l,l<6->(UInt8.ofNat (97+l)).toNat - 97=l:=dM;have:=b l a;show (UInt8.ofNat (((97+l:Nat):Int)).toNat).toNat - 97=l;rw [Int.toNat_natCast];exact this
theorem vio_key (hss:∀ s∈ss,zk s=kC)(ha:zj a=kC)(hp:zj p=kC) (hv:∀ l∈v,l<6) :
  (∃ x,zbv (zcj ss a p) [0] v x/\zbR a p x=kC)↔zca ss a p v:=by
 have g:∀ s∈ss,zev (zec s):=fun s hs=>zeI (zbx (hss s hs));have k:∀ m∈[zbE a,zbE p],zev m:=by simp;exact⟨zbF ha,zbF hp⟩
 have hP:zH [zbE a,zbE p]=a.next.length*p.next.length:=by simp [zH,zau,zbE]
 have o:=(zl ha).2.1;have r:=(zl hp).2.1;have b:∀ x,zbR a p x=zbR a p (x % zH [zbE a,zbE p]):=by
  intro x;unfold zbR;rw [hP,Nat.mod_mul_left_mod,gE,Nat.mod_mul_right_div_self,Nat.mod_mod]
 rw [zdj];have h1:=ziZ k hv (fun y=>zbR a p y=kC) g;have h2:(∃ x,zbv (pnx (zbt ss [a,p])) [0] v x/\zbR a p x=kC)↔(∃ x,zbv (pnx (ss.map zec++[zbE a,zbE p])) [0] v x/\zbR a p (x % zH [zbE a,zbE p])=kC):=by
  constructor
  ·rintro ⟨x,h,c⟩;exact⟨x,h,by rw [<- b];exact c⟩
  ·rintro ⟨x,h,c⟩;exact⟨x,h,by rw [b];exact c⟩
 rw [h2,h1];unfold zca;refine and_congr_right fun _=>?_;have f:=zeH ha hv (q:=0) oM;have d:=zeH hp hv (q:=0) oM;have i:(zaO a 0 v*p.next.length+zaO p 0 v) / p.next.length % a.next.length=zaO a 0 v:=by
  rw [gE,Nat.mul_add_div oM,Nat.div_eq_of_lt d,Nat.add_zero,iE f]
 have j:(zaO a 0 v*p.next.length+zaO p 0 v) % p.next.length=zaO p 0 v:=by
  rw [gE,Nat.mul_add_mod,iE d]
 constructor
 ·rintro ⟨y,n,c⟩;rw [(zhp ha hp hv y).1 n] at c;unfold zbR at c;rw [i,j] at c;simpa using c
 ·intro c;refine⟨_,(zhp ha hp hv _).2 rfl,?_⟩;unfold zbR;rw [i,j];simpa using c
def FstW (A:Nat) (B:List Nat->Prop) (v:List Nat):Prop:=Over A v/\B v/\∀ u,Over A u->zcI u<zcI v->¬ B u
theorem FstW.congr {B C:List Nat->Prop}(h:FstW A B v)(he:∀ u,Over A u->(B u↔C u)):FstW A C v:=
 ⟨h.1,(he v h.1).1 h.2.1,fun u hu hlt hc=>h.2.2 u hu hlt ((he u hu).2 hc)⟩
theorem FstW.uniq {B:List Nat->Prop}{u:List Nat}(hu:FstW A B u)(hv:FstW A B v):u=v:=by
 rcases Nat.lt_trichotomy (zcI u) (zcI v) with h|h|h
 ·exact absurd hu.2.1 (hv.2.2 u hu.1 h)
 ·exact zkq _ u v (dD _) (fun l hl=>(hu.1 l hl).1) (fun l hl=>(hv.1 l hl).1) h
 ·exact absurd hv.2.1 (hu.2.2 v hv.1 h)
theorem zfe (hss:∀ s∈ss,zk s=kC)(ha:zj a=kC)(hp:zj p=kC) :
  (zjp ss a p=kC/\∃ v,vioW ss a p=wstr v/\FstW (zE ss|||a.al.toNat) (zca ss a p) v)\/(zjp ss a p=kK/\vioW ss a p=wstr []/\∀ v,Over (zE ss|||a.al.toNat) v->¬ zca ss a p v):=by
 have m:∀ l∈letters (zE ss|||a.al.toNat) 6,l<6:=fun l hl=>(zD.1 hl).1
 by_cases hl:Lost (zcj ss a p) [0] (zbR a p) (letters (zE ss|||a.al.toNat) 6)
 ·obtain⟨c,d⟩:=zgE hl;refine .inr ⟨by unfold zjp;rw [d];rfl,by unfold vioW;rw [c],fun v b hb=>?_⟩;obtain⟨x,g,f⟩:=(vio_key hss ha hp (fun l hl=>(b l hl).1)).2 hb;have:=hl v (zgi.2 b) x g;rw [f] at this;cases this
 ·obtain⟨v,h⟩:=zfp hl;obtain⟨c,d⟩:=zfz m h;obtain⟨i,j,k⟩:=h;have b:=zgi.1 i;refine .inl ⟨by unfold zjp;rw [d];rfl,v,by unfold vioW;rw [c],b,(vio_key hss ha hp (fun l hl=>(b l hl).1)).1 j,fun u hu hlt hb=>?_⟩;obtain⟨x,g,f⟩:=(vio_key hss ha hp (fun l hl=>(hu l hl).1)).2 hb;have:=k u (zgi.2 hu) hlt x g;rw [f] at this;cases this
theorem zff {b r:Aut}(hss:∀ s∈ss,zk s=kC)(hts:∀ s∈ts,zk s=kC)(ha:zj a=kC)(hb:zj b=kC)(hp:zj p=kC)(hr:zj r=kC)
  (hal:zE ss|||a.al.toNat=zE ts|||b.al.toNat) (he:∀ v,Over (zE ss|||a.al.toNat) v->(zca ss a p v↔zca ts b r v)):zjp ss a p=zjp ts b r/\vioW ss a p=vioW ts b r:=by
 rcases zfe hss ha hp with ⟨h1,v,h2,h3⟩|⟨h1,h2,h3⟩
 ·rcases zfe hts hb hr with ⟨d,u,f,c⟩|⟨d,f,c⟩
  ·rw [<- hal] at c;obtain rfl:=(h3.congr he).uniq c;exact⟨by rw [h1,d],by rw [h2,f]⟩
  ·exact absurd ((he v h3.1).1 h3.2.1) (c v (by rw [<- hal];exact h3.1))
 ·rcases zfe hts hb hr with ⟨d,u,f,c⟩|⟨d,f,c⟩
  ·exact absurd ((he u (by rw [hal];exact c.1)).2 c.2.1) (h3 u (by rw [hal];exact c.1))
  ·exact⟨by rw [h1,d],by rw [h2,f]⟩
theorem breaks_free :zca ss free p v↔(∀ s∈ss,zju s v)/\zaC p (zaO p 0 v)=kK:=by
 unfold zca;rw [runA_free];exact⟨fun h=>⟨h.1,h.2.2⟩,fun h=>⟨h.1,rfl,h.2⟩⟩
theorem ziR (h:zbi ss p=kC):zA ss=kC/\zj p=kC:=by
 unfold zbi zbb at h;simp only [dI] at h;exact h.1
theorem brok_first (h:zbi ss p=kC):∃ v,zY ss p=wstr v/\FstW (zE ss) (fun v=>(∀ s∈ss,zju s v)/\zaC p (zaO p 0 v)=kK) v:=by
 obtain⟨h1,h2⟩:=ziR h;obtain⟨-,c⟩:=zap h1;have hb:zjp ss free p=kC:=by unfold zbi at h;simp only [dI] at h;exact h.2
 have b:zE ss|||free.al.toNat=zE ss:=by rw [show free.al.toNat=0 from rfl,Nat.or_zero]
 rcases zfe (a:=free) c zdO h2 with ⟨-,v,h3,h4⟩|⟨h3,-,-⟩
 ·rw [b] at h4;exact⟨v,by unfold zY zbb;rw [h1,h2];exact h3,h4.congr fun u _=>breaks_free⟩
 ·rw [hb] at h3;cases h3
theorem brok_top (h:zbi ss p=kC):topB ss (zY ss p)=kC/\breakB p (zY ss p)=kC:=by
 obtain⟨h1,h2⟩:=ziR h;obtain⟨v,h3,h4,⟨h5,b⟩,-⟩:=brok_first h;have hwd:=(zcW h1 h2).1;have a:wl (zY ss p)=v:=by rw [h3];exact wl_wstr fun l hl=>(h4 l hl).1
 refine⟨top_iff.2 ⟨h1,hwd,by rw [a];exact h4,by rw [a];exact h5⟩,?_⟩;unfold breakB;rw [h2,hwd,a,b];rfl
theorem judge_zero (hs:zk s=kC)(hp:zj p=kC)(ht:zk t=kC)(ha:zj a=kC)(h:(zbj s p t L a).2=0):zje s a p=kC/\zer [t] a=kC:=by
 unfold zbj at h
 split at h
 ·cases h
 ·rename_i h1
  split at h
  ·split at h<;>cases h
  ·rename_i h2;refine⟨?_,?_⟩
   ·rw [zgU,show zce s a p=kC by unfold zce;rw [hs,ha,hp];rfl];simpa using h1
   ·rw [zhF,show zbb [t] a=kC by unfold zbb;rw [ha,zgj sM sM (by simpa using ht)];rfl];simpa using h2
theorem zeE {x:Sys}{w:ByteArray}(hL:L=(x.al.toNat|||p.al.toNat)&&&zE ts)(hpa:zA (x :: ts)=kC)(hw:zbq w=kC)(hu:Over (zE ts) (wl w))(hr:∀ t∈ts,zju t (wl w))(hs:zo x p L (zay w L)=kK):zer (x :: ts) p=kK:=by
 refine zko hL hpa hu hr fun hsafe=>?_;have h1:zo x p L (zay w L)=kC:=by
  rw [zdd];refine⟨zcn hw L,?_⟩;rw [wl_restB hw];exact hsafe
 rw [hs] at h1;cases h1
theorem judge_one (hL:L=(s.al.toNat|||p.al.toNat)&&&t.al.toNat)(hs:zk s=kC)(ht:zk t=kC)(h:(zbj s p t L a).2=1):zer [s,t] p=kK:=by
 unfold zbj at h
 split at h
 ·cases h
 ·split at h
  ·rename_i h2
   split at h
   ·cases h
   ·rename_i h3;obtain⟨b,-⟩:=brok_top h2;obtain⟨-,c,d,f⟩:=top_iff.1 b;exact zeE (L:=L) (by rw [hL];simp [zE]) (zgj sM sM (by simp [hs,ht])) c d f (by simpa using h3)
  ·cases h
theorem bits_one:∀ (l:List (List Bool)),l.Nodup->(∀ x∈l,x.length=1)->l.length<=2:=by
 intro l hn hl;have h:l ⊆ [[kC],[kK]]:=by
  intro x hx;have:=hl x hx
  match x,this with
  |[kC],_=>simp
  |[kK],_=>simp
 simpa using List.Nodup.length_le_of_subset hn h
section
variable {L:Nat}{f:ByteArray->Bool}{rows cols:List ByteArray}
theorem rows_few (h:zcg L f rows cols)(hc:cols.length=1):rows.length<=2:=by
 have:=bits_one _ h.nd (fun x hx=>by
  obtain⟨y,-,rfl⟩:=kW.1 hx;unfold zbO;rw [eF];exact hc)
 simpa using this
theorem closeT_long:∀ (k:Nat) (rows:List ByteArray),zcg L f rows cols->rows.length+k<=12->zac L f cols k rows=gP->∃ rows',zcg L f rows' cols/\rows'.length=rows.length+k/\zaP L f rows' cols≠gP:=by
 intro k
 induction k with
 |zero =>
  intro rows h _ hn;refine⟨rows,h,rfl,fun ho=>?_⟩;rw [zcr 0 ho] at hn;cases hn
 |succ k ih =>
  intro rows h hk hn;cases ho:zaP L f rows cols with
  |none=>rw [zcr _ ho] at hn;cases hn
  |some z =>
   rw [zcY k ho] at hn;have h2:=h.grow oM ho;obtain⟨r,h3,h4,h5⟩:=ih _ h2 (by simp;omega) hn;exact⟨r,h3,by rw [h4];simp;omega,h5⟩
theorem zhT (L:Nat) (f:ByteArray->Bool):∃ r,zac L f [⟨#[]⟩] 11 [⟨#[]⟩]=gO r:=by
 cases h:zac L f [⟨#[]⟩] 11 [⟨#[]⟩] with
 |some r=>exact⟨r,rfl⟩
 |none =>
  obtain⟨r,h1,h2,-⟩:=closeT_long 11 _ (zcg.first L f) dM h
  have:=rows_few h1 rfl;rw [h2] at this;simp at this
end
structure VdOk (s t:Sys) (p:Aut) (L:Nat) (v:Vd):Prop where
 code:v.code=0\/v.code=1\/v.code=2
 holds:v.code=0->zj v.asm=kC/\v.asm.al=(L:Int)/\zje s v.asm p=kC/\zer [t] v.asm=kC/\v.ro<=v.asm.next.length
 none_:v.code≠0->v.asm=noA
 fails:v.code=1->zer [s,t] p=kK/\v.tr=zY [s,t] p
 quiet:v.code≠1->v.tr=⟨#[]⟩
 ro:1<=v.ro/\v.ro<=12
structure zjq (L:Nat) (f:ByteArray->Bool) (k:Nat) (o:Option (List ByteArray × List ByteArray)):Prop where
 tab:zew L f o
 more:∀ rs cs,o=gO (rs,cs)->k<rs.length
 none_:o=gP->1<=k/\k<=12
theorem zjq.start (L:Nat) (f:ByteArray->Bool):zjq L f 0 ((zac L f [⟨#[]⟩] 11 [⟨#[]⟩]).map fun r=>(r,[⟨#[]⟩])):=by
 refine⟨zew.new L f,fun rs cs e=>((zew.new L f) rs cs e).1.r1,fun h=>?_⟩;obtain⟨r,a⟩:=zhT L f;rw [a] at h;cases h
theorem zjq.ao {f:ByteArray->Bool}{rs cs:List ByteArray}(h:zjq L f k (gO (rs,cs))) (x:ByteArray):zjq L f (k+1) (zaD L f rs cs x):=by
 obtain⟨h1,h2⟩:=h.tab rs cs rfl;have h3:=h.more rs cs rfl;refine⟨zew.ao h1 x,fun r c e=>?_,fun _=>⟨oM,oH h1.r12⟩⟩;have:=(zfB h1 h2 e).1;omega
theorem runT_ok (hs:zk s=kC)(hp:zj p=kC)(ht:zk t=kC)(hL:L=(s.al.toNat|||p.al.toNat)&&&t.al.toNat)(h64:L<64) :
  ∀ (g k:Nat) (o:Option (List ByteArray × List ByteArray)),zjq L (zo s p L) k o->12<=g+k->VdOk s t p L (runT s t p L g k o):=by
 have i:∀ k,1<=k/\k<=12->VdOk s t p L ⟨2,noA,⟨#[]⟩,k⟩:=fun k f=>⟨.inr (.inr rfl),(fun h=>by cases h),fun _=>rfl,(fun h=>by cases h),fun _=>rfl,f⟩;intro g
 induction g with
 |zero =>
  intro k o ho hg;rw [runT];cases o with
  |none=>exact i k (ho.none_ rfl)
  |some tab =>
   have h1:=(ho.tab tab.1 tab.2 rfl).1.r12;have h2:=ho.more tab.1 tab.2 rfl;omega
 |succ g ih =>
  intro k o ho hg;cases o with
  |none=>rw [runT];exact i k (ho.none_ rfl)
  |some tab =>
   obtain⟨b,cs⟩:=tab;obtain⟨c,a⟩:=ho.tab b cs rfl;have f:=ho.more b cs rfl;have h12:=c.r12;have d:=zbe c a h64;rw [runT];split
   ·rename_i hj;obtain⟨j,l⟩:=judge_zero hs hp ht d hj;refine⟨.inl rfl,fun _=>⟨d,rfl,j,l,?_⟩,fun h=>absurd rfl h,(fun h=>by cases h),fun _=>rfl,⟨by show 1<=k+1;omega,by show k+1<=12;omega⟩⟩;show k+1<=(b.map _).length;rw [eF];omega
   ·split
    ·rename_i hj;exact⟨.inr (.inl rfl),(fun h=>by cases h),fun _=>rfl,fun _=>⟨judge_one hL hs ht hj,rfl⟩,fun h=>absurd rfl h,⟨by show 1<=k+1;omega,by show k+1<=12;omega⟩⟩
    ·exact ih _ _ (ho.ao _) oM
theorem vpT_ok (h:iface s p t=(L:Int)):VdOk s t p L (vpT s t p):=by
 obtain⟨d,f,b⟩:=zck (s:=s) (p:=p) (t:=t) oM;have c:L=(s.al.toNat|||p.al.toNat)&&&t.al.toNat:=by
  have:=zez d f b;rw [h] at this;exact Int.ofNat.inj this
 have a:L<64:=by
  rw [c];have:=zI b;exact Nat.lt_of_le_of_lt j4 oM
 rw [zir h];exact runT_ok d f b c a 12 0 _ (zjq.start _ _) oM
theorem find_adj (a:Nat->Bool) (n:Nat):(fM n).find? (fun k=>a k != a (k+1))=(fM n).find? (fun k=>a (k+1) != a 0):=by
 by_cases h:∃ k,k<n/\a (k+1)≠a 0
 ·have d:∃ k,(k<n/\a (k+1)≠a 0)/\∀ j,j<k->a (j+1)=a 0:=by
   have c:∀ m k,k<=m->k<n->a (k+1)≠a 0->∃ k,(k<n/\a (k+1)≠a 0)/\∀ j,j<k->a (j+1)=a 0:=by
    intro m
    induction m with
    |zero =>
     intro k hk hn hne;obtain rfl:k=0:=oM;exact⟨0,⟨hn,hne⟩,fun j hj=>oM⟩
    |succ m ih =>
     intro k hk hn hne
     by_cases hj:∃ j,j<k/\a (j+1)≠a 0
     ·obtain⟨j,h1,h2⟩:=hj;exact ih j oM oM h2
     ·exact⟨k,⟨hn,hne⟩,fun j hjk=>Classical.not_not.1 fun h=>hj ⟨j,hjk,h⟩⟩
   obtain⟨k,h1,h2⟩:=h;exact c k k (dD _) h1 h2
  obtain⟨k,⟨h1,h2⟩,h3⟩:=d;have b:∀ j,j<=k->a j=a 0:=by
   intro j hj;cases j with
   |zero=>rfl
   |succ j=>exact h3 j oM
  rw [zeV h1 (fun j hj=>by rw [b j oM,b (j+1) oM];simp) (by rw [b k (dD _)];simpa using fun h=>h2 h.symm),
   zeV h1 (fun j hj=>by rw [b (j+1) oM];simp) (by simpa using h2)]
 ·have b:∀ j,j<=n->a j=a 0:=by
   intro j hj;cases j with
   |zero=>rfl
   |succ j=>exact Classical.not_not.1 fun hne=>h ⟨j,oM,hne⟩
  rw [List.find?_eq_none.2 (fun k hk=>by rw [b k (by have:=lC.1 hk;omega),b (k+1) (by have:=lC.1 hk;omega)];simp),
   List.find?_eq_none.2 (fun k hk=>by rw [b (k+1) (by have:=lC.1 hk;omega)];simp)]
section
variable {L:Nat}{f:ByteArray->Bool}{rows cols:List ByteArray}{x:ByteArray}
noncomputable def zcF (L:Nat) (f:ByteArray->Bool) (rows cols:List ByteArray) (x:ByteArray):Option ByteArray:=
 if zaC (zcX L f rows cols) (zaO (zcX L f rows cols) 0 (wl x))=f x then gP
 else ((fM x.size).find? fun k=>ziy L f rows cols x (k+1) != f x).map fun k=>x.extract (k+1) x.size
theorem extract_all (x:ByteArray):x.extract 0 x.size=x:=by
 apply ByteArray.ext;rw [ByteArray.data_extract];simp
theorem empty_append (x:ByteArray):(⟨#[]⟩:ByteArray)++x=x:=by
 apply ByteArray.ext;rw [ByteArray.data_append];simp
theorem split_same (hI:zcg L f rows cols)(hx:inB x L=kC)(h4:x.size<=4000):zdz L f rows cols x=zcF L f rows cols x:=by
 have a:ziy L f rows cols x 0=f x:=by
  unfold ziy stT;rw [List.take_zero];show f (rows.getD 0 ⟨#[]⟩++_)=_;rw [dF,hI.r0,fO,extract_all,empty_append]
 unfold zdz zcF;rw [find_adj (ziy L f rows cols x),a]
 by_cases h:zaC (zcX L f rows cols) (zaO (zcX L f rows cols) 0 (wl x))=f x
 ·rw [if_pos h,if_neg (by rintro ⟨-,h2⟩;exact h2 h)]
 ·rw [if_neg h,if_pos ⟨by rw [hx];simpa using h4,h⟩]
theorem zhN (hx:inB x L=kC) (k:Nat):inB (x.extract k x.size) L=kC:=by
 obtain⟨h1,h2⟩:=zeA.1 hx;have c:(x.extract k x.size).size<=x.size:=by rw [ByteArray.size_extract];omega
 have a:(x.extract k x.size).data.toList=x.data.toList.drop k:=by
  rw [ByteArray.data_extract,Array.toList_extract,List.extract_eq_take_drop,dK];rw [List.length_drop];show x.data.toList.length - k<=x.size - k;rw [Array.length_toList];exact dD _
 have d:zbq (x.extract k x.size)=kC:=by
  unfold zbq at h1 ⊢;simp only [dI,decide_eq_true_eq,eV] at h1 ⊢;refine⟨oM,fun b hb=>h1.2 b ?_⟩;rw [a] at hb;exact j0 hb
 refine zeA.2 ⟨d,?_⟩;apply Nat.eq_of_testBit_eq;intro l;rw [gH,Bool.and_eq_left_iff_imp];intro hl;have h3:l∈wl x:=by
  have:=(zdB _ _).1 hl;unfold wl at this ⊢;rw [a,List.map_drop] at this;exact j0 this
 have h4:=(zdB _ _).2 h3;rw [<- h2,gH,dI] at h4;exact h4.2
theorem split_col {col:ByteArray}(hx:inB x L=kC)(h4:x.size<=4000)(h:zcF L f rows cols x=gO col):inB col L=kC/\col.size<=4000:=by
 unfold zcF at h
 split at h
 ·cases h
 ·obtain⟨k,-,rfl⟩:=Option.map_eq_some_iff.1 h;exact⟨zhN hx _,by rw [ByteArray.size_extract];omega⟩
theorem learn_same (hI:zcg L f rows cols)(hx:inB x L=kC)(h4:x.size<=4000) :
  zaD L f rows cols x=match zcF L f rows cols x with
   |none=>gP
   |some col=>if (!zcU cols col&&decide (cols.length≠20))=kC then (zac L f (cols++[col]) (12 - rows.length) rows).map fun r=>(r,cols++[col]) else gP:=by
 unfold zaD;rw [split_same hI hx h4];cases h:zcF L f rows cols x with
 |none=>rfl
 |some col =>
  obtain⟨h1,h2⟩:=split_col hx h4 h;dsimp only;unfold zgW;rw [h1,decide_eq_true h2];rfl
end
section
variable {J:zbs}{B b0 L base nr cr nc cc kn:Nat}{S S':Nat->Prop}{W W':kJ}{R C:Option Addr}{rows cols:List ByteArray}{f:ByteArray->Bool}{rc:kL}
theorem tb_cell {bT tc:Nat}{TA:Option Addr}{g:Nat->Nat->Nat}(h:w.ownsRow bT 166 6 (fQ TA n tc) n (tbC n g))(hq:q<n)(hl:l<6):∃ gT,TA=gO ⟨gT,0,gP⟩/\w.cell? ⟨gT,q*6+l,gP⟩=gO (.int kA (g q l:Nat)):=by
 obtain⟨gT,rfl,-,-⟩:=zW h oM;exact⟨gT,rfl,by rw [h.cellAt _ oM,tbC_get hq hl]⟩
theorem st_step (hl:(wl x)[k]?=gO l):stT L f rows cols x (k+1)=aGo (zcX L f rows cols) (stT L f rows cols x k) l:=by
 unfold stT;rw [eB,hl,eS,zaY]
theorem or_splitWord (hO:zfM b0 L f J kn rc)(hj:J B W S)(hB:B+6000<10000000)(hT:zhi W S base R nr cr C nc cc rows cols)(hI:zcg L f rows cols)(hcl:zaP L f rows cols=gP)(hb0:b0<=W.heap.size)(hL:L<64)(hx:inB x L=kC)(hxs:x.size<=4000) :
  kQ kN 128 #[orcV L kn rc,kO #[fQ R nr cr,fQ C nc cc],x] W (RetO J (.tuple #[kU ((zcF L f rows cols x).getD ⟨#[]⟩),kR (zcF L f rows cols x).isSome]) (B+6000) S W):=by
 have HO:=za hO;have HI:=za hI;have hv:=za (zbe hI hcl hL);have hx1:Ext W ((W.alloc (.cells #[(L:Int),.func (.func kn) #[rc] #[]] 83)).alloc (.cells #[fQ R nr cr,fQ C nc cc] 90)):=((dB _).alloc _).alloc _;obtain⟨b3,b4⟩:=zG (dB ((W.alloc (.cells #[(L:Int),.func (.func kn) #[rc] #[]] 83)).alloc (.cells #[fQ R nr cr,fQ C nc cc] 90)));have ae:=za (fun (q:Nat) (hq:W.heap.size<=q)=>zbs.fresh hO.ok hj hq);have cb:=hO.ok.keep hj hx1 (fun _ _ h=>h.elim);have bq:=za (hT.ext hx1);have bt:=za hT.lens;have ch:W.heap.size<((W.alloc (.cells #[(L:Int),.func (.func kn) #[rc] #[]] 83)).alloc (.cells #[fQ R nr cr,fQ C nc cc] 90)).heap.size/\W.heap.size+1<((W.alloc (.cells #[(L:Int),.func (.func kn) #[rc] #[]] 83)).alloc (.cells #[fQ R nr cr,fQ C nc cc] 90)).heap.size:=by simp;omega
 have Hx:=za hx;have Hb:=za (fun k hk=>zaZ (zaV hx) (k:=k) hk);have aA:=za (fun (X:kJ) (hX:Ext W X)=>zeG hO (hO.ok.keep hj hX (fun _ _ h=>h.elim)) oM (hT.ext hX) hI hcl (dW hb0 hX.size) hL);have b2:=hO.in_;have a5:(zcX L f rows cols).next.length=rows.length:=by simp [zcX]
 have aw:stT L f rows cols x 0=0:=by simp [stT,zaO]
 have E:=za a5;have bE:=za aw;have bw:=za hI.r12;have bu:=za hI.r1;clear hO hI hT hcl hx hj a5 aw;obtain⟨a,ha⟩:∃ a,Hid (zcX L f rows cols=a):=⟨_,za rfl⟩;have ao:=za (show a.al=(L:Int) by rw [<- ha.out];rfl);have aJ:=za (show zcF L f rows cols x=if zaC a (zaO a 0 (wl x))=f x then gP else ((fM x.size).find? fun k=>ziy L f rows cols x (k+1) != f x).map fun k=>x.extract (k+1) x.size by rw [<- ha.out];rfl);have bb:=za (fun (k l:Nat) (hl:(wl x)[k]?=gO l)=>st_step (L:=L) (f:=f) (rows:=rows) (cols:=cols) hl);rw [ha.out] at aA hv E bb
 go_enter Tryz.func128,Tryz.ntmps128
 go_upto_region 1 with fail
 generalize (W.alloc _).alloc _=w1 at *;have k3:=b3.cell;have k4:=b4.cell;go_upto_region 2 with (go_at_call 51;refine (aA.out _ hx1).mono ?_;rintro e w2 ⟨S2,A,A',n,c,n',c',rfl,aQ,ah⟩;rw [ao.out])
 obtain⟨w3,U0⟩:∃ x,Hid (w2.alloc (.cells #[(L:Int),fQ A n c,fQ A' n' c'] 27)=x):=⟨_,za rfl⟩;have af:=eM U0.out;have hx8:Ext w2 w3:=((dB _).alloc _).trans (fV U0.out);obtain⟨G,aU⟩:∃ G,Hid (G=w2.heap.size):=⟨_,za rfl⟩;rw [<- aU.out] at af ⊢;have bP:=ah.size;have ar:=za (fun (q:Nat) (hq:w2.heap.size<=q)=>zbs.fresh HO.out.ok ah.j hq);have bo:=ar.out G (oH aU.out);have B3:=za b3;have B4:=za b4;clear k3 k4 b3 b4;rw [U0.out] at *;have k8:=af.cell;have ax:=aQ.ext hx8;have aT:=za (zM.reads ax.own_);go_upto_region 3 with (go_at_call 119;rw [<- ao.out];refine (zcm aT.out hv.out).mono ?_;rintro e w4 ⟨TA,tc,rfl,⟨bT,b9,aH⟩,aj⟩)
 have bc:=hx8.trans aj;have a2:=za (ah.ext HO.out.ok bc);have aR:=za (ax.ext aj);have ap:=za (af.ext aj);have ay:=za (show zgy w4 S2 bT 166 6 (fQ TA a.next.length tc) a.next.length (tbC a.next.length (aGo a)) from ⟨aH,fun b hb=>ar.out b (by have:=(aH.lt b hb).1;have:=hx8.size;omega)⟩);have ce:a.next.length<=12:=by rw [E.out];exact bw.out
 clear af hx8 aQ ax aT aH aj k8 ah aA;go_wp2_with fail
 go_loopw [10,11,21] (fun qv _ iv wr=>∃ k:Nat,iv=.int kA k/\qv=.int kA (zaO a 0 ((wl x).take k))/\k<=x.size/\Ext w4 wr) (fun _ _ iv _=>x.size - (intOf iv).toNat)
 case atStart=>exact⟨0,rfl,by simp [zaO],dH _,dB _⟩
 case round =>
  obtain⟨k,rfl,rfl,hk,t⟩:=hrel;have p:∀ k,zaO a 0 ((wl x).take k)<a.next.length:=fun k=>zeH hv.out (fun l hl=>zkp (zaV Hx.out) l (List.mem_of_mem_take hl)) (by rw [E.out];exact bu.out)
  by_cases hlt:k<x.size
  ·have a4:(k:Int)<(x.size:Int):=oM;have br:=Hb.out k hlt;have Q:=za (zeu hlt);have U:=za (show ltr (x[k].toNat)=((x[k].toNat - 97:Nat):Int) by unfold ltr;rw [if_neg oM];omega);obtain⟨l,T⟩:∃ l,Hid (l=x[k].toNat - 97):=⟨x[k].toNat - 97,za rfl⟩;rw [<- T.out] at Q U;have aF:l<6:=oH T.out;have Y:=za (show zaO a 0 ((wl x).take (k+1))=aGo a (zaO a 0 ((wl x).take k)) l by rw [eB,Q.out,eS,zaY]);have m:=p k;obtain⟨q,hqe⟩:∃ q,Hid (zaO a 0 ((wl x).take k)=q):=⟨_,za rfl⟩;rw [hqe.out] at Y m ⊢;obtain⟨gT,rfl,i⟩:=tb_cell (ay.out.ext t).own m aF;rw [<- Y.out] at i;have CT:∀ X,Ext wr X->X.cell? ⟨gT,q*6+l,gP⟩=gO (.int kA (zaO a 0 ((wl x).take (k+1)):Nat)):=fun X hX=>hX.aa i;have aI:(q:Int)<(a.next.length:Int):=oM;have a3:(l:Int)<6:=oM;have d:=dB wr;clear i p;obtain⟨q',V⟩:∃ q',Hid (zaO a 0 ((wl x).take (k+1))=q'):=⟨_,za rfl⟩;rw [V.out] at CT;go_upto_region 7 with fail
   refine uR (fun X=>Ext wr X) [] (zx.of [0,1,2,3,5,4,6,7,8]) ?_;refine uQ ?_;refine ze fun K hK=>?_;go_simp;refine (zcl x k hlt _).mono ?_;rw [U.out];rintro e w6 ⟨rfl,rfl⟩;refine hK.out _ _ d.drew ?_;refine pT ?_;refine uQ ?_;refine zg ?_;go_wp2_with fail
   go_roundw
   case rel=>exact⟨k+1,gM,by rw [V.out],oM,t.trans d.drew⟩
   case measure=>exact uM
  ·obtain rfl:k=x.size:=oM;have bx:=za (show zaO a 0 ((wl x).take x.size)=zaO a 0 (wl x) by rw [dK (by rw [zgv];exact dD _)]);have m:=p x.size;rw [bx.out] at m ⊢;have an:=za p;obtain⟨q,hqe⟩:∃ q,Hid (zaO a 0 (wl x)=q):=⟨_,za rfl⟩;rw [hqe.out] at m ⊢;have ai:=za (a2.out.ext HO.out.ok t);have H:=za (HO.out.ask _ wr S2 x ai.out.j oM Hx.out oM);obtain⟨F,g⟩:∃ F,Hid (f x=F):=⟨_,za rfl⟩;rw [g.out] at H;have k3:=(ai.out.blk B3.out (ae.out _ (dD _))).1.cell;have aS:=za (aR.out.ext t);have aX:=za (ay.out.ext t);have aZ:=za (ap.out.ext t);clear p a2 aR ay ap t;go_upto_region 10 with fail
   refine H.out.mono ?_;rintro e w5 ⟨S5,rfl,I⟩;have v:=za (ai.out.trans I);have ad:=aS.out.kp I;have aV:=za (aX.out.kp I);have aY:=(I.blk aZ.out bo).1;have k8:=aY.cell;obtain rfl:=own_num ad.acc;have u:=za (zl hv.out).2.2.1;obtain⟨gA,rfl,-,-⟩:=zW ad.acc (oH u.out);have cA:w5.cell? ⟨gA,q,gP⟩=gO (.bool (zaC a q)):=by
    rw [ad.acc.cellAt q (oH u.out)];unfold zaC zae;rw [eC,dF,dE (oH u.out)];rfl
   have bN:(q:Int)<(a.acc.length:Int):=oH u.out;obtain⟨ba,ag⟩:∃ ba,Hid (zaC a q=ba):=⟨_,za rfl⟩;rw [ag.out] at cA;clear ad aY aS aX aZ I H k3 ai;have a1:=(v.out.blk B3.out (ae.out _ (dD _)))
   by_cases hbe:ba=F
   ·have o:=za (show RetO J (.tuple #[kU ((zcF L f rows cols x).getD ⟨#[]⟩),kR (zcF L f rows cols x).isSome]) (B+6000) S W (kP (.tuple #[kU ⟨#[]⟩,kR kK])) w5 from
     ⟨S5,by rw [aJ.out,hqe.out,ag.out,g.out,if_pos hbe];rfl,(v.out.more HO.out.ok oM).back hx1⟩)
    have y:(ba==F)=kC:=by rw [hbe];simp
    go_wp2_with fail
    go_ret2;exact o.out
   ·have y:(ba==F)=kK:=by simpa using hbe
    have aN:=za hbe;clear hbe;go_upto_region 12 with fail
    clear k8 cA y a1;go_wp2_with fail
    go_loopw [10,13,46] (fun qv _ iv wr=>∃ (k:Nat) (S6:Nat->Prop),iv=.int kA k/\qv=.int kA (zaO a 0 ((wl x).take k))/\k<=x.size/\Hid (Kp J (B+1693+k) S w1 wr S6)/\Hid (zgy wr S6 bT 166 6 (fQ TA a.next.length tc) a.next.length (tbC a.next.length (aGo a)))/\Hid (∀ j,j<k->ziy L f rows cols x (j+1)=F)) (fun _ _ iv _=>x.size - (intOf iv).toNat)
    case atStart=>exact⟨0,S5,rfl,by simp [zaO],dH _,v,aV,za (fun j h=>oM)⟩
    case round =>
     clear v aV;obtain⟨k,S6,rfl,rfl,hk,aE,az,aG⟩:=hrel
     by_cases hlt:k<x.size
     ·have a4:(k:Int)<(x.size:Int):=oM;have br:=Hb.out k hlt;have Q:=za (zeu hlt);have U:=za (show ltr (x[k].toNat)=((x[k].toNat - 97:Nat):Int) by unfold ltr;rw [if_neg oM];omega);obtain⟨l,T⟩:∃ l,Hid (l=x[k].toNat - 97):=⟨x[k].toNat - 97,za rfl⟩;rw [<- T.out] at Q U;have aF:l<6:=oH T.out;have Y:=za (show zaO a 0 ((wl x).take (k+1))=aGo a (zaO a 0 ((wl x).take k)) l by rw [eB,Q.out,eS,zaY]);have Z:=an.out k;have aa:=an.out (k+1);have a9:=za (show ziy L f rows cols x (k+1)=f (rows.getD (zaO a 0 ((wl x).take (k+1))) ⟨#[]⟩++x.extract (k+1) x.size) by rw [<- ha.out];rfl);obtain⟨q0,a7⟩:∃ q0,Hid (zaO a 0 ((wl x).take k)=q0):=⟨_,za rfl⟩;rw [a7.out] at Y Z ⊢;obtain⟨gT,rfl,i⟩:=tb_cell az.out.own Z aF;rw [<- Y.out] at i;obtain⟨q',V⟩:∃ q',Hid (zaO a 0 ((wl x).take (k+1))=q'):=⟨_,za rfl⟩;rw [V.out] at i aa a9;have CT:∀ X,Ext wr X->X.cell? ⟨gT,q0*6+l,gP⟩=gO (.int kA (q':Nat)):=fun X hX=>hX.aa i;have aI:(q0:Int)<(a.next.length:Int):=oM;have a3:(l:Int)<6:=oM;have d:=dB wr;clear i;go_upto_region 16 with fail
      refine uR (fun X=>Ext wr X) [] (zx.of [0,1,2,3,5,4,6,7,8]) ?_;refine uQ ?_;refine ze fun K hK=>?_;go_simp;refine (zcl x k hlt _).mono ?_;rw [U.out];rintro e w6 ⟨rfl,rfl⟩;refine hK.out _ _ d.drew ?_;refine pT ?_;refine uQ ?_;refine zg ?_;have M:=za (aE.out.ext HO.out.ok d.drew);have aW:=za (az.out.ext d.drew);clear CT aE az d;generalize wr.drew=wd at *;obtain⟨r,hr⟩:∃ r,rows[q']?=gO r:=⟨_,dE (by rw [<- E.out];exact aa)⟩;have a8:=za (dC hr);have cg:r.size<=12:=(HI.out.rin a8.out).2;obtain⟨gR,rfl,a0⟩:=zhW (bq.out.kp M.out).r.own hr;obtain⟨y2,z⟩:∃ y2,Hid (x.extract (k+1) x.size=y2):=⟨_,za rfl⟩;have bS:y2.size<=4000:=by rw [<- z.out,ByteArray.size_extract];omega
      obtain⟨z2,ak⟩:∃ z2,Hid (r++y2=z2):=⟨_,za rfl⟩;have bd:=za (show inB z2 L=kC by
       rw [<- ak.out,<- z.out];exact zjb (HI.out.rin a8.out).1 (zhN Hx.out (k+1)) (by rw [z.out];omega))
      have bA:z2.size<=9000:=by rw [<- ak.out,ByteArray.size_append];omega
      have av:=za (show ziy L f rows cols x (k+1)=f z2 by rw [a9.out,dF,hr,fO,z.out,ak.out]);obtain⟨bz,aB⟩:∃ bz,Hid (f z2=bz):=⟨_,za rfl⟩;have bO:¬ 9223372036854775807<r.size+y2.size:=oM;have cf:(q':Int)<(nr:Int):=by rw [<- bt.out.1,<- E.out];omega
      have bQ:=IntWalk.i64_in ((k:Int)+1) oM;have cd:(k:Int)+1<=(x.size:Int):=oM;have bM:(0:Int)<=(k:Int)+1:=oM;have bR:=z.out;have bU:=ak.out;have K3:∀ X,Ext wd X->∀ j,X.cell? ⟨W.heap.size,j,gP⟩=#[Value.int kA (L:Int),.func (.func kn) #[rc] #[]][j]?:=fun X hX=>((M.out.blk B3.out (ae.out _ (dD _))).1.ext hX).cell;have K4:∀ X,Ext wd X->∀ j,X.cell? ⟨W.heap.size+1,j,gP⟩=#[fQ (gO gR) nr cr,fQ C nc cc][j]?:=fun X hX=>((M.out.blk B4.out (ae.out _ oM)).1.ext hX).cell;have CR:∀ X,Ext wd X->X.cell? ⟨gR,q',gP⟩=gO (.string r):=fun X hX=>hX.aa a0;have d:=dB wd;clear a0 hr;go_upto_region 17 with fail
      refine uR (fun X=>Ext wd X) [12] (zx.of [0,1,2,3,4,5,6,7,8,9,10,11,13,12,14]) ?_;refine uQ ?_;have O:=M.out.ext HO.out.ok d.drew;have s:=za (HO.out.ask _ wd.drew S6 z2 O.j oM bd.out bA);rw [aB.out] at s;refine zb fun K hK=>?_;go_simp;refine s.out.mono ?_;rintro e w7 ⟨S7,rfl,aD⟩;refine hK.out _ _ ?_;refine pT ?_;refine uQ ?_;refine zg ?_;have au:=za (O.trans aD);have bp:=za ((aW.out.ext d.drew).kp aD);clear K3 K4 CR s O aD M aW
      by_cases hbe:bz=F
      ·have y:(bz==F)=kC:=by rw [hbe];simp
       have a6:=za (show ∀ j,j<k+1->ziy L f rows cols x (j+1)=F from fun j hj=>by
        rcases eP (eW hj) with h1|rfl
        ·exact aG.out j h1
        ·rw [av.out,aB.out,hbe])
       clear y;have D:=za hbe;clear hbe;go_wp2_with fail
       ·rename_i hh;exfalso;rw [D.out] at hh;simp at hh
       ·go_roundw
        case rel=>exact⟨k+1,S7,gM,by rw [V.out],oM,za (by have:=au.out;rwa [show B+1693+k+1=B+1693+(k+1) by omega] at this),bp,a6⟩
        case measure=>exact uM
      ·have aq:(bz != F)=kC:=by simpa using hbe
       have y:(bz==F)=kK:=by simpa using hbe
       have o:=za (show RetO J (.tuple #[kU ((zcF L f rows cols x).getD ⟨#[]⟩),kR (zcF L f rows cols x).isSome]) (B+6000) S W (kP (.tuple #[y2,kR kC])) w7 from by
        have aC:(fM x.size).find? (fun k=>ziy L f rows cols x (k+1) != f x)=gO k:=zeV hlt (fun j hj=>by rw [aG.out j hj,g.out];simp) (by rw [av.out,aB.out,g.out];exact aq);exact⟨S7,by rw [aJ.out,hqe.out,ag.out,g.out,if_neg aN.out,<- g.out,aC,<- z.out];rfl,(au.out.more HO.out.ok oM).back hx1⟩)
       have D:=za hbe;clear hbe aq y;go_wp2_with fail
       ·go_ret2;exact o.out
       ·rename_i hh;exfalso;exact D.out (by simpa using hh)
     ·have ca:¬ (k:Int)<(x.size:Int):=oM;have o:=za (show RetO J (.tuple #[kU ((zcF L f rows cols x).getD ⟨#[]⟩),kR (zcF L f rows cols x).isSome]) (B+6000) S W (kP (.tuple #[kU ⟨#[]⟩,kR kK])) wr from by
       have aC:(fM x.size).find? (fun k=>ziy L f rows cols x (k+1) != f x)=gP:=by
        rw [List.find?_eq_none];intro j hj;rw [List.mem_range] at hj;rw [aG.out j oM,g.out];simp
       exact⟨S6,by rw [aJ.out,hqe.out,ag.out,g.out,if_neg aN.out,<- g.out,aC];rfl,(aE.out.more HO.out.ok oM).back hx1⟩)
      go_wp2_with fail
      go_ret2;exact o.out
end
section
variable {J:zbs}{B b0 L base nr cr nc cc kn:Nat}{S S':Nat->Prop}{W W':kJ}{R C:Option Addr}{rows cols:List ByteArray}{f:ByteArray->Bool}{rc:kL}
noncomputable def addT (rows cols:List ByteArray) (x:ByteArray):Option (List ByteArray × List ByteArray):=if (!zcU cols x&&decide (cols.length≠20))=kC then gO (rows,cols++[x]) else gP
theorem add_fin {w1 W5:kJ}{b2 b8:Nat}{v2 v8:kL}(hfr:∀ q,W.heap.size<=q->¬ S q)(hx0:Ext W w1)(hx:Ext w1 W5)(hb:Blk W5 Z 90 #[(),()])(hZ:W.heap.size<=Z)(h2:W5.ownsRow b2 9 1 v2 rows.length (zO rows))(h8:W5.ownsRow b8 9 1 v8 (cols.length+1) (zO cols++[.string x]))(hb2:W.heap.size<=b2)(hb8:W.heap.size<=b8) :
  Ext W ((W5.setCell Z v2).setCell ⟨Z,1,gP⟩ v8)/\Blk ((W5.setCell Z v2).setCell ⟨Z,1,gP⟩ v8) Z 90 #[v2,v8] /\
  ∃ R' cr' C' cc',v2=fQ R' rows.length cr'/\v8=.slice C' (cols++[x]).length cc'/\zhi ((W5.setCell Z v2).setCell ⟨Z,1,gP⟩ v8) S W.heap.size R' rows.length cr' C' (cols++[x]).length cc' rows (cols++[x]):=by
 have d:=(dG W5 Z 0 v2).trans (dG _ Z 1 v8);have a:=zds h2 hb2;have c:=zds h8 hb8;have f:(cols++[x]).length=cols.length+1:=sM;obtain⟨R',cr',rfl⟩:=zi h2;obtain⟨C',cc',rfl⟩:=zi h8;refine⟨(hx0.trans hx).frm d (fun q hq e=>by have g:q=Z:=e;omega),by simpa using (hb.ab 0 (fQ R' rows.length cr')).ab 1 (fQ C' (cols.length+1) cc'),R',cr',C',cc',rfl,by rw [f],⟨⟨zf a d (fun b hb' e=>zN a hb dM hb' e),fun b hb'=>hfr b (a.lt b hb').1⟩,⟨?_,fun b hb'=>?_⟩⟩⟩
 ·rw [f,zjn];exact zf c d (fun b hb' e=>zN c hb dM hb' e)
 ·rw [f] at hb';exact hfr b (c.lt b hb').1
theorem yT14b1 {P:Prop}(h:P:=by
 have ho28:=zf ho2 hf8 (fun b hb e=>hdis b hb e);have hb48:=hb4.frm hf8 (fun e=>zN ho5 hb4 dM e rfl);obtain⟨C8,c8,rfl⟩:=zi ho8;have k8:=hb48.cell;have f8:=hb48.frozen;refine uQ ?_;refine zb fun K hK=>?_;go_simp;refine hK.out _ _ ?_;refine pT ?_;refine uQ ?_;refine zg ?_;have zku:=add_fin (x:=x) hwS.out hx1 hx8 hb48 oM ho28 ho8 oM oM;obtain⟨h1,h2,R9,cr9,C9,cc9,h3,h4,h5⟩:=zku;have cf:=h2.cell;have HT9:=za h5;have Hk9:=za (hkW.out.ext HJ.out h1);have H3:=za h3;have H4:=za h4;clear h3 h4 h2 h5 k8 f8 hb48 ho28 ho8 hg8 hat8;generalize (w8.setCell ⟨W.heap.size+1,0,none⟩ (.slice R6 rows.length cr6)).setCell ⟨W.heap.size+1,1,none⟩ (.slice C8 (cols.length+1) c8)=w9 at *;go_wp2_with fail
 have hv9:Value.tuple #[.agg #[.slice R6 rows.length cr6,.slice C8 (cols.length+1) c8],.bool true]=.tuple #[.agg #[.slice R9 rows.length cr9,.slice C9 (cols++[x]).length cc9],.bool true]:=by rw [H3.out,H4.out]
 exact bodyPost_ret (v:=.tuple #[.agg #[.slice R6 rows.length cr6,.slice C8 (cols.length+1) c8],.bool true]) (by simp [results,Tryz.results129,go_sem,cf]) rfl ⟨S,Hk9.out,.inr ⟨rows,cols++[x],R9,C9,cr9,cc9,had.out,by rw [hv9],HT9.out⟩⟩
 ):P:=h
theorem yT14a1 {P:Prop}(h:P:=by
 refine hK.out _ _ hxw5 ?_;refine pT ?_;refine uQ ?_;have hb4:=b4.ext hxw5;refine zb fun K hK=>?_;refine zy w5 _ _ 88 rfl _ 9 _ 1 16 Tryz.underlying88 zt rfl dM _ cols.length (zO cols) rfl ho5 _ _ _ 1 1 #[Value.string x].toList rfl (Reads.af ho7) (by simp [Value.oneCell']) lM oM (by have:=hy5.size;have:=hy7.size;omega) ?_;intro v8 w8 ho8 hg8 hat8;refine hK.out _ _ ?_;refine pT ?_;have hx8:Ext w1 w8:=hxw5.grown hg8 (fun q hq=>by have:=(ho5.lt q hq).1;omega);have hf8:Frm (fun q=>(Value.slice C6 cols.length cc6).ownBlock=some q) w5 w8:=Frm.ae hg8;exact yT14b1
 ):P:=h
theorem ziA (hJ:zbs.Ok b0 J)(hj:J B W S)(hT:zhi W S base R nr cr C nc cc rows cols)(hI:zcg L f rows cols) :
  kQ kN 129 #[kO #[fQ R nr cr,fQ C nc cc],x] W (RetTO J (addT rows cols x) B S W):=by
 obtain⟨rfl,rfl⟩:=hT.lens;have G:=hI.r12;have F:=hI.c20;have HJ:=za hJ;have hwS:=za (fun (q:Nat) (hq:W.heap.size<=q)=>zbs.fresh hJ hj hq);obtain⟨w1,U0⟩:∃ x,Hid ((W.alloc (.cells #[fQ R rows.length cr,fQ C cols.length cc] 90)).alloc (.cells #[(),()] 90)=x):=⟨_,za rfl⟩;have hx1:Ext W w1:=(((dB _).alloc _).alloc _).trans (fV U0.out);obtain⟨u,b4⟩:=zG (fV U0.out);have k:=za (hT.ext hx1);have O:=za (hJ.keep hj hx1 (fun _ _ h=>h.elim));have hkW:=za (Kp.refl (J:=J) hj);clear hT hI hJ hj
 go_enter Tryz.func129,Tryz.ntmps129
 go_upto_region 1 with fail
 rw [U0.out] at *;have Y:=u.cell;have Q:=b4.cell;have I:=b4.frozen;have g:=za (contains_str (x:=x) (c:=cc) (eQ k.out.c.own));have d:∀ (_:addT rows cols x=gP),Hid (Kp J B S W ((w1.setCell ⟨W.heap.size+1,0,gP⟩ ()).setCell ⟨W.heap.size+1,1,gP⟩ ()) S/\∀ i,((w1.setCell ⟨W.heap.size+1,0,gP⟩ ()).setCell ⟨W.heap.size+1,1,gP⟩ ()).cell? ⟨W.heap.size+1,i,gP⟩=#[fQ gP 0 0,fQ gP 0 0][i]?):=fun _=>by
  have M:=(dG w1 (W.heap.size+1) 0 (fQ gP 0 0)).trans (dG _ (W.heap.size+1) 1 (fQ gP 0 0));have E:Ext W ((w1.setCell ⟨W.heap.size+1,0,gP⟩ ()).setCell ⟨W.heap.size+1,1,gP⟩ ()):=hx1.frm M (fun q hq e=>by have V:q=W.heap.size+1:=e;omega);refine⟨hkW.out.ext HJ.out E,fun i=>?_⟩;have:=((b4.ab 0 (fQ gP 0 0)).ab 1 (fQ gP 0 0)).cell i;simpa using this
 by_cases h20:cols.length=20
 ·have had:=za (show addT rows cols x=gP by unfold addT;rw [if_neg];rw [h20];simp);have o:=d had.out;have n:((cols.length:Int)==20)=kC:=by rw [h20];rfl
  clear h20 d u b4;go_wp2_with fail
  have cf:=o.out.2;generalize (w1.setCell ⟨W.heap.size+1,0,gP⟩ ()).setCell ⟨W.heap.size+1,1,gP⟩ ()=w9 at *;exact bodyPost_ret (v:=.tuple #[kO #[(),()],kR kK]) (by simp [results,Tryz.results129,go_sem,cf]) rfl ⟨S,o.out.1,.inl ⟨had.out,rfl⟩⟩
 ·have n:((cols.length:Int)==20)=kK:=by simp;omega
  cases hm:zcU cols x with
  |true =>
   have had:=za (show addT rows cols x=gP by unfold addT;rw [if_neg];rw [hm];simp);have o:=d had.out;rw [hm] at g;clear h20 d u b4 hm;go_wp2_with (go_at_call 210;refine g.out.mono ?_;rintro e m ⟨rfl,rfl⟩)
   have cf:=o.out.2;generalize (w1.setCell ⟨W.heap.size+1,0,gP⟩ ()).setCell ⟨W.heap.size+1,1,gP⟩ ()=w9 at *;exact bodyPost_ret (v:=.tuple #[kO #[(),()],kR kK]) (by simp [results,Tryz.results129,go_sem,cf]) rfl ⟨S,o.out.1,.inl ⟨had.out,rfl⟩⟩
  |false =>
   have had:=za (show addT rows cols x=gO (rows,cols++[x]) by unfold addT;rw [if_pos];rw [hm];simp;exact h20);rw [hm] at g;clear d hm Q I;go_upto_region 3 with (go_at_call 210;refine g.out.mono ?_;rintro e m ⟨rfl,rfl⟩)
   have U:∀ X,Ext w1 X->∀ q,X.cell? ⟨W.heap.size,q,gP⟩=#[fQ R rows.length cr,fQ C cols.length cc][q]?:=fun X hX=>(u.ext hX).cell;have D:=dB w1;have H:=hx1.size;refine uR (fun X=>Ext w1 X) [5,8,10] (zx.app [0,1,3,4,6] (zx.two 2 (zx.two 5 (zx.of [7,8,9,10,11]) 7 (zx.of [5,8,9,10,11])) 7 (zx.of [2,5,8,9,10,11]))) ?_;refine uQ ?_;have j:=D.drew;generalize w1.drew=t at *;refine zm (fun K hK=>?_) (fun K hK=>?_)
   ·go_simp;refine (zbG (eQ (zh k.out.r.own j)) oM).mono ?_;rintro e m ⟨T,rfl,ho2,l⟩;have b:=j.trans l;obtain⟨R6,cr6,rfl⟩:=zi ho2;have z:=j.size;refine hK.out _ _ b ?_;refine pT ?_;refine uQ ?_;refine zm (fun K hK=>?_) (fun K hK=>?_)
    ·go_simp;refine (zbG (eQ (zh k.out.c.own b)) oM).mono ?_;rintro e w5 ⟨s,rfl,ho5,hy5⟩;have hdis:∀ q,(fQ R6 rows.length cr6).ownBlock=gO q->s.ownBlock≠gO q:=fun q h1 h2=>by have:=(ho2.lt q h1).2;have:=(ho5.lt q h2).1;omega
     have hxw5:=b.trans hy5;obtain⟨C6,cc6,rfl⟩:=zi ho5;have p:=b.size;replace ho2:=zh ho2 hy5;refine hK.out _ _ hxw5 ?_;refine pT ?_;refine uQ ?_;refine ze fun K hK=>?_;go_simp;have ho7:=World.ownsRow_lit (base:=w5.heap.size) (e:=9) (size:=1) w5 #[x] 1 (dD _) dM rfl;have hy7:Ext w5 (w5.alloc (.cells #[x] 9)):=(dB _).alloc _;have a:=hxw5.trans hy7;replace ho2:=zh ho2 hy7;replace ho5:=zh ho5 hy7;refine hK.out _ _ a ?_;generalize w5.alloc _=y at *;refine pT ?_;refine uQ ?_;have hb4:=b4.ext a;refine zb fun K hK=>?_;refine zy y _ _ 88 rfl _ 9 _ 1 16 Tryz.underlying88 zt rfl dM _ cols.length (zO cols) rfl ho5 _ _ _ 1 1 #[kU x].toList rfl (eQ ho7) (by simp [Value.oneCell']) lM oM (by have:=hy5.size;have:=hy7.size;omega) ?_;intro v8 w8 ho8 hg8 hat8;refine hK.out _ _ ?_;refine pT ?_;have hx8:Ext w1 w8:=a.grown hg8 (fun q hq=>by have:=(ho5.lt q hq).1;omega);have hf8:Frm (fun q=>(fQ C6 cols.length cc6).ownBlock=gO q) y w8:=Frm.ae hg8;exact yT14b1
    ·go_simp;have ho7:=World.ownsRow_lit (base:=m.heap.size) (e:=9) (size:=1) m #[x] 1 (dD _) dM rfl;have hy7:Ext m (m.alloc (.cells #[x] 9)):=(dB _).alloc _;have a:=b.trans hy7;replace ho2:=zh ho2 hy7;refine hK.out _ _ a ?_;generalize m.alloc _=y at *;refine pT ?_;refine uQ ?_;refine ze fun K hK=>?_;go_simp;refine (zbG (eQ (zh k.out.c.own a)) oM).mono ?_;rintro e w5 ⟨s,rfl,ho5,hy5⟩;have hdis:∀ q,(fQ R6 rows.length cr6).ownBlock=gO q->s.ownBlock≠gO q:=fun q h1 h2=>by have:=(ho2.lt q h1).2;have:=(ho5.lt q h2).1;omega
     have hxw5:=a.trans hy5;obtain⟨C6,cc6,rfl⟩:=zi ho5;have p:=a.size;replace ho2:=zh ho2 hy5;replace ho7:=zh ho7 hy5;exact yT14a1
   ·go_simp;have ho7:=World.ownsRow_lit (base:=t.heap.size) (e:=9) (size:=1) t #[x] 1 (dD _) dM rfl;have hy7:Ext t (t.alloc (.cells #[x] 9)):=(dB _).alloc _;have a:=j.trans hy7;refine hK.out _ _ a ?_;generalize t.alloc _=y at *;refine pT ?_;refine uQ ?_;refine ze fun K hK=>?_;go_simp;refine (zbG (eQ (zh k.out.r.own a)) oM).mono ?_;rintro e m ⟨T,rfl,ho2,l⟩;have b:=a.trans l;obtain⟨R6,cr6,rfl⟩:=zi ho2;have z:=a.size;replace ho7:=zh ho7 l;refine hK.out _ _ b ?_;refine pT ?_;refine uQ ?_;refine ze fun K hK=>?_;go_simp;refine (zbG (eQ (zh k.out.c.own b)) oM).mono ?_;rintro e w5 ⟨s,rfl,ho5,hy5⟩;have hdis:∀ q,(fQ R6 rows.length cr6).ownBlock=gO q->s.ownBlock≠gO q:=fun q h1 h2=>by have:=(ho2.lt q h1).2;have:=(ho5.lt q h2).1;omega
    have hxw5:=b.trans hy5;obtain⟨C6,cc6,rfl⟩:=zi ho5;have p:=b.size;replace ho7:=zh ho7 hy5;replace ho2:=zh ho2 hy5;exact yT14a1
end
section
variable {J:zbs}{B b0 L base nr cr nc cc kn:Nat}{S S':Nat->Prop}{W W':kJ}{R C:Option Addr}{rows cols:List ByteArray}{f:ByteArray->Bool}{rc:kL}
theorem zhr {w5:kJ}{S5:Nat->Prop}{u0 u1:kL}(hJ:zbs.Ok b0 J)(hk:Kp J B S W w5 S5)(hb:Blk w5 Z 90 #[u0,u1])(hZ:¬ S5 Z)(hWZ:W.heap.size<=Z)(hbZ:b0<=Z) :
  Blk ((w5.setCell Z ()).setCell ⟨Z,1,gP⟩ ()) Z 90 #[(),()]/\Kp J B S W ((w5.setCell Z ()).setCell ⟨Z,1,gP⟩ ()) S5:=by
 have b:=(dG w5 Z 0 (fQ gP 0 0)).trans (dG _ Z 1 (fQ gP 0 0));exact⟨by simpa using (hb.ab 0 (fQ gP 0 0)).ab 1 (fQ gP 0 0),hk.own hJ b (fun q _ e=>by have a:q=Z:=e;rw [a];exact⟨hWZ,hbZ,hZ⟩)⟩
theorem Blk.far2 {t:TypeId}{cs:Array kL}(h:Blk w g t cs)(hne:g≠Z) (u v:kL):Blk ((w.setCell Z u).setCell ⟨Z,1,gP⟩ v) g t cs:=(h.far (p:=⟨Z,0,gP⟩) hne u).far (p:=⟨Z,1,gP⟩) hne v
theorem zdr (hO:zfM b0 L f J kn rc)(hj:J B W S)(hB:B+27840<10000000)(hT:zhi W S base R nr cr C nc cc rows cols)(hI:zcg L f rows cols)(hcl:zaP L f rows cols=gP)(hb0:b0<=W.heap.size)(hL:L<64)(hx:inB x L=kC)(hxs:x.size<=4000) :
  kQ kN 54 #[orcV L kn rc,kO #[fQ R nr cr,fQ C nc cc],x] W (RetTO J (zaD L f rows cols x) (B+27840) S W):=by
 have s:=za hO;have HI:=za hI;have aa:=za (learn_same hI hx hxs);have V:=za (fun (col:ByteArray) (h:zcF L f rows cols x=gO col)=>split_col hx hxs h);obtain⟨w1,U0⟩:∃ x,Hid (((W.alloc (.cells #[(L:Int),.func (.func kn) #[rc] #[]] 83)).alloc (.cells #[fQ R nr cr,fQ C nc cc] 90)).alloc (.cells #[(),()] 90)=x):=⟨_,za rfl⟩;have hx1:Ext W w1:=((((dB _).alloc _).alloc _).alloc _).trans (fV U0.out);obtain⟨b2,b3,b4⟩:=zaa (fV U0.out);have G:=za (fun (q:Nat) (hq:W.heap.size<=q)=>zbs.fresh hO.ok hj hq);have az:=hO.ok.keep hj hx1 (fun _ _ h=>h.elim);have ay:=za (hT.ext hx1);have o:=za (or_splitWord (x:=x) hO az oM (hT.ext hx1) hI hcl (dW hb0 hx1.size) hL hx hxs);have aJ:W.heap.size+1+1<w1.heap.size:=by rw [<- U0.out];simp
 clear hO hI hT hj hx
 go_enter Tryz.func54,Tryz.ntmps54
 go_upto_region 1 with fail
 rw [U0.out] at *;have k2:=b2.cell;have k3:=b3.cell;cases hsp:zcF L f rows cols x with
 |none =>
  have l:=za (show zaD L f rows cols x=gP by rw [aa.out,hsp]);rw [hsp] at o;clear hsp;go_upto_region 2 with (go_at_call 128;refine o.out.mono ?_;rintro e w2 ⟨S2,rfl,b⟩)
  have a:=b.blk b4 (G.out _ oM);have k4:=a.1.cell;have f4:=a.1.frozen;have zku:=zhr s.out.ok ((b.more s.out.ok (show B+6000<=B+27840 by omega)).back hx1) a.1 a.2 oM oM;have cf:=zku.1.cell;have Hk:=za zku.2;clear zku k2 k3 b2 b3 b4 b;go_wp2_with fail
  clear k4 f4 a;generalize (w2.setCell ⟨W.heap.size+1+1,0,gP⟩ ()).setCell ⟨W.heap.size+1+1,1,gP⟩ ()=w9 at *;exact bodyPost_ret (v:=.tuple #[kO #[(),()],kR kK]) (by simp [results,Tryz.results54,go_sem,cf]) rfl ⟨S2,Hk.out,.inl ⟨l.out,rfl⟩⟩
 |some col =>
  have E:=za hsp;rw [hsp] at o;clear hsp;go_upto_region 4 with (go_at_call 128;refine o.out.mono ?_;rintro e w2 ⟨S2,rfl,b⟩)
  have an:=za ((b).back hx1);have ax:=za (ay.out.kp b);have t:=b.blk b2 (G.out _ oM);have n:=b.blk b3 (G.out _ oM);have a:=b.blk b4 (G.out _ oM);have k3:=n.1.cell;have O:=za (ziA (x:=col) s.out.ok b.j ax.out HI.out);have aF:=b.size;clear k2 b2 b3 b4;go_upto_region 99 with fail
  refine O.out.mono ?_;rintro e w3 ⟨S3,p,k⟩;have m:=p.blk t.1 t.2;have c:=p.blk n.1 n.2;have g:=p.blk a.1 a.2;have T:=za (an.out.trans p);have k3:=c.1.cell;have f3:=c.1.frozen;clear t n a O;rcases k with ⟨hn,rfl⟩|⟨rs,cs,R',C',Y,X,I,rfl,aj⟩
  ·have l:=za (show zaD L f rows cols x=gP by
    rw [aa.out,E.out];unfold addT at hn
    by_cases z:(!zcU cols col&&decide (cols.length≠20))=kC
    ·rw [if_pos z] at hn;cases hn
    ·show (if (!zcU cols col&&decide (cols.length≠20))=kC then _ else gP)=gP;rw [if_neg z])
   have h3:=zhr s.out.ok T.out c.1 c.2 oM oM;have i:=g.1.far2 (Z:=W.heap.size+1) oM (fQ gP 0 0) (fQ gP 0 0);have k4:=i.cell;have f4:=i.frozen;have zku:=zhr s.out.ok (h3.2.more s.out.ok (show B+6000<=B+27840 by omega)) i g.2 oM oM;have cf:=zku.1.cell;have Hk:=za zku.2;clear zku h3 hn p b;go_wp2_with fail
   clear k3 f3 k4 f4 i m c g;generalize (((w3.setCell ⟨W.heap.size+1,0,gP⟩ ()).setCell ⟨W.heap.size+1,1,gP⟩ ()).setCell ⟨W.heap.size+1+1,0,gP⟩ ()).setCell ⟨W.heap.size+1+1,1,gP⟩ ()=w9 at *;exact bodyPost_ret (v:=.tuple #[kO #[(),()],kR kK]) (by simp [results,Tryz.results54,go_sem,cf]) rfl ⟨S3,Hk.out,.inl ⟨l.out,rfl⟩⟩
  ·obtain⟨z,rfl,u⟩:(!zcU cols col&&decide (cols.length≠20))=kC/\rows=rs/\cols++[col]=cs:=by
    unfold addT at I
    by_cases z:(!zcU cols col&&decide (cols.length≠20))=kC
    ·rw [if_pos z] at I;have h1:=kS I;exact⟨z,(Prod.mk.inj h1).1,(Prod.mk.inj h1).2⟩
    ·rw [if_neg z] at I;cases I
   have l:=za (show zaD L f rows cols x=(zac L f (cols++[col]) (12 - rows.length) rows).map fun r=>(r,cols++[col]) by
    rw [aa.out,E.out];show (if (!zcU cols col&&decide (cols.length≠20))=kC then _ else gP)=_;rw [if_pos z])
   have aw:=za (show zcg L f rows cs by
    rw [<- u];exact HI.out.addC (x:=col) (by
     unfold zgW;rw [(V.out col E.out).1,z];simpa using (V.out col E.out).2))
   rw [u] at l;clear u;have h3:=zfT s.out.ok T.out aj c.1 c.2 oM oM (oH hx1.size);have al:=za (m.1.far2 (Z:=W.heap.size+1) oM (fQ R' rows.length Y) (fQ C' cs.length X));have i:=za (g.1.far2 (Z:=W.heap.size+1) oM (fQ R' rows.length Y) (fQ C' cs.length X));have am:=za h3.1;have D:=za h3.2.1;have au:=za h3.2.2;have aE:=za m.2;have ai:=za g.2;clear h3 I p b z aj;go_upto_region 7 with fail
   clear k3 f3 m c g;generalize (w3.setCell ⟨W.heap.size+1,0,gP⟩ (fQ R' rows.length Y)).setCell ⟨W.heap.size+1,1,gP⟩ (fQ C' cs.length X)=w4 at *;have k2:=al.out.cell;have k3:=am.out.cell;have Q:=za (zgg s.out D.out.j oM au.out aw.out (oH D.out.size) hL);go_upto_region 99 with fail
   refine Q.out.mono ?_;rintro e w5 ⟨S5,H,k⟩;have d:=H.blk i.out ai.out;have U:=za ((D.out.trans H).more s.out.ok (show B+6000+21840<=B+27840 by omega));have k4:=d.1.cell;have f4:=d.1.frozen;clear k2 k3 Q;rcases k with ⟨hn,rfl⟩|⟨rs,F,R9,C9,cr9,cc9,I,rfl,ak⟩
   ·have y:=za (show zaD L f rows cols x=gP by rw [l.out,hn]);have zku:=zhr s.out.ok U.out d.1 d.2 oM oM;have cf:=zku.1.cell;have Hk:=za zku.2;clear zku hn H;go_wp2_with fail
    clear k4 f4 d;generalize (w5.setCell ⟨W.heap.size+1+1,0,gP⟩ ()).setCell ⟨W.heap.size+1+1,1,gP⟩ ()=w9 at *;exact bodyPost_ret (v:=.tuple #[kO #[(),()],kR kK]) (by simp [results,Tryz.results54,go_sem,cf]) rfl ⟨S5,Hk.out,.inl ⟨y.out,rfl⟩⟩
   ·have y:=za (show zaD L f rows cols x=gO (rs,F) by rw [l.out,I]);have zku:=zfT s.out.ok U.out ak d.1 d.2 oM oM (oH D.out.size);have cf:=zku.1.cell;have M:=za zku.2;clear zku I H ak;go_wp2_with fail
    clear k4 f4 d;generalize (w5.setCell ⟨W.heap.size+1+1,0,gP⟩ (fQ R9 rs.length cr9)).setCell ⟨W.heap.size+1+1,1,gP⟩ (fQ C9 F.length cc9)=w9 at *;exact bodyPost_ret (v:=.tuple #[kO #[fQ R9 rs.length cr9,fQ C9 F.length cc9],kR kC]) (by simp [results,Tryz.results54,go_sem,cf]) rfl ⟨S5,M.out.1,.inr ⟨rs,F,R9,C9,cr9,cc9,y.out,rfl,M.out.2⟩⟩
end
theorem zero_pset (w:kJ):(zeroValue 222).run kN w=.ok (.agg (Array.replicate 12 (.int .u16 0))) w:=kM
theorem zaX:((kN).info? 222).map (·.size)=gO 12:=kM
theorem zik:(zbu (eG 12 0)).toArray=Array.replicate 12 (Value.int .u16 0):=by rfl
theorem zdE (hT:T.length=12) (hk:k<12) (w:kJ):(Instr.index 222 (.agg (zbu T).toArray) (.int kA (k:Int))).run kN w=.ok (.int .u16 (T.getD k 0:Nat)) w:=by
 have b:=Tryz.underlying222;have a:=Tryz.isAgg220;have c:=Tryz.sizeOf220;have h1:(zbu T)[k]?=gO (.int .u16 (T.getD k 0:Nat)):=zfc oM;simp [Instr.index,run_underlying b,asIntOf,go_sem,hk,a,c,part,h1]
theorem zcV {ops:Array Oper}{rest:List Oper}{o:Oper}{a:Act}{Q:Exit->Act->kJ->Prop}(hgd:o.guard=gP) (x y:Operand)(ho:o.op=.store 222 x y) (g:Nat)(hx:a.eval x=.pointer (gO g))
  {T U:List Nat} (hy:a.eval y=.agg (zbu U).toArray) (hb:Blk w g 222 (zbu T).toArray) (hT:T.length=12) (hU:U.length=12)
  (h:∀ w',Blk w' g 222 (zbu U).toArray->Frm (fun k=>k=g) w w'->wpList kN ops Q rest (a.put o.dst undef) w'):wpList kN ops Q (o :: rest) a w:=by
 have h1:(zbu U).toArray.all (·.oneCell')=kC:=all_oneCell_toArray (fun v hv=>by
  obtain⟨z,_,rfl⟩:=kW.1 hv;rfl)
 have b:((kN).info? 222).map (·.size)=gO (zbu U).toArray.size:=by
  rw [zaX];simp [zbu,hU]
 refine wpList_plain hgd fun _ hK=>?_;unfold Oper.wp execOp;simp only [ho,hx,hy,Instr.storeAt,Instr.sureAddr,Sem.run_bind,Sem.run_pure,Result.andThen_ok,run_storeVar_row w g 222 222 _ _ hb b (by simp [zbu,hT,hU]) h1];refine hK _ _ (h _ ?_ ⟨rfl,rfl,rfl,sM,fun k hk hn=>?_⟩)
 ·exact setRow_heap w g _ _ _ _ hb
 ·exact setRow_other w g k _ hn
def RetSMv (F:Sfx) (l:Nat) (T:List Nat) (W:kJ) (e:Ending) (W':kJ):Prop:=∃ U,e=kP (zgZ U)/\MvP F.s F.p l T 12 U/\Ext W W'
theorem zkm {j x:Nat}:(zbu U).toArray.setIfInBounds j (.int .u16 (x:Nat))=(zbu (U.set j x)).toArray:=by
 simp [zbu,List.map_set]
section
variable {F:Sfx}{Ts:List (List Nat)}{nx:Nat->Nat->Int}{k:Nat}{M:List Nat->Option Nat}{vs vn vu:kL}{W:kJ}
theorem sf_move (hF:ziP F)(h:zfh F Ts nx k M vs vn vu W) (hT:WS F.p T) (hl:l<6) :
  kQ kN 198 #[.pointer (gO ⟨F.G,0,gP⟩),zgZ T,l] W (RetSMv F l T W):=by
 have R:=zbx hF.hs;have hp:=hF.hp;obtain⟨ae,af⟩:=zI hF.hs;obtain⟨al,D⟩:∃ al:Nat,Hid (F.s.al=al):=⟨F.s.al.toNat,by unfold Hid;omega⟩;have ag:al<64:=oH D.out;have HF:=za hF;have HM:=za h;have HT:=za hT;have g:=za R;have Hp:=za hp;have bG:=h.blk;have O:=h.red hF;have HR:=za O;have HV:=za (show ∀ x∈T,x<65536 from hT.lt);have zp:=zero_pset;have t:=za hT.len;obtain⟨lo,hi,b⟩:=O.rule;have B:=za b;have J:=za O.mov;have L:=za O.tab;clear hF h hT R hp O b ae af;unfold zgZ
 go_enter Tryz.func198,Tryz.ntmps198
 go_upto_region 2 with fail
 obtain⟨b4,o,f⟩:=zaa (dB (((W.alloc (.cells (zbu T).toArray 222)).alloc (.cells (Array.replicate 12 (.int .u16 0)) 222)).alloc (.cells (Array.replicate 12 (.int .u16 0)) 222)));have V:Ext W (((W.alloc (.cells (zbu T).toArray 222)).alloc (.cells (Array.replicate 12 (.int .u16 0)) 222)).alloc (.cells (Array.replicate 12 (.int .u16 0)) 222)):=(((dB _).alloc _).alloc _).alloc _;generalize ((W.alloc (.cells (zbu T).toArray 222)).alloc (.cells (Array.replicate 12 (.int .u16 0)) 222)).alloc (.cells (Array.replicate 12 (.int .u16 0)) 222)=w3 at *;rw [<- zik] at f o;have S:(zbu T).toArray.size=12:=by simp [zbu,t.out]
 go_upto_region 3 with (refine wpList_load_row rfl _ _ rfl _ rfl _ _ _ _ b4 Tryz.underlying222 rfl (by rw [S];exact zaX) ?_)
 go_wp2_with fail
 go_loopw [8,9,10,12] (fun _ _ _ i wr=>∃ (k:Nat) (U:List Nat),i=.int kA k/\k<=12/\Hid (MvP F.s F.p l T k U)/\Blk wr (W.heap.size+1+1) 222 (zbu U).toArray/\Blk wr (W.heap.size+1) 222 (zbu (eG 12 0)).toArray/\Ext W wr) (fun _ _ _ i _=>12 - (intOf i).toNat)
 case atStart=>exact⟨0,_,rfl,dH _,za MvP.zero,f,o,V⟩
 case round =>
  clear b4 o f V;obtain⟨k,U,rfl,hk,m,f,o,n⟩:=hrel
  by_cases hlt:k<12
  ·have ah:=zdE t.out hlt;obtain⟨x,d⟩:∃ x,Hid (T.getD k 0=x):=⟨_,rfl⟩;rw [d.out] at ah;have u:x<65536:=by rw [<- d.out];exact zbS HV.out k
   by_cases h0:x=0
   ·have a:=za (m.out.skip (by rw [d.out];exact h0));subst h0;go_wp2_with fail
    go_roundw
    case rel=>exact⟨k+1,U,gM,oM,a,f,o,n⟩
    case measure=>exact uM
   ·have Q:k<F.p.next.length:=HT.out.idx (by rw [d.out];exact h0);have au:(k:Int)<(F.p.next.length:Int):=oM;have aB:(l:Int)<6:=oM;have aC:((x:Int)==0)=kK:=by simp;omega
    obtain⟨gR,oR,C,E⟩:=(B.out.ext n).at_ Q hl;have ax:=za C;have hj:aGo F.p k l<12:=by
     have h1:=zep Hp.out Q hl;have h2:=(zl Hp.out).2.1;omega
    have a:=za (m.out.step g.out HV.out hj);rw [d.out] at a;obtain⟨j,aj⟩:∃ j,Hid (aGo F.p k l=j):=⟨_,rfl⟩;rw [aj.out] at E hj a;have aA:(j:Int)<12:=oM;have ad:=za (show j<U.length by rw [m.out.1];exact hj);obtain⟨z,hz⟩:∃ z,Hid (U.getD j 0=z):=⟨_,rfl⟩;have C7:∀ X,Ext wr X->X.cell? ⟨W.heap.size+1+1,j,gP⟩=gO (.int .u16 (z:Nat)):=fun X hX=>by
     rw [(f.ext hX).cell,e8,zfc ad.out,hz.out]
    have F7:∀ X,Ext wr X->X.frozen? ⟨W.heap.size+1+1,j,gP⟩=kK:=fun X hX=>(f.ext hX).frozen j;have Z:z<65536:=by rw [<- hz.out];exact zbS m.out.2.1 j
    have BG:∀ X,Ext wr X->∀ i,X.cell? ⟨F.G,i,gP⟩=(sfC F vs vn vu)[i]?:=fun X hX=>(bG.ext (n.trans hX)).cell;simp only [sfC,D.out] at BG;have CR:∀ X,Ext wr X->X.cell? ⟨gR,oR+k*6+l,gP⟩=gO (.int kA (j:Nat)):=fun X hX=>hX.aa E;have aE:=dB wr;have I:=za (show al=F.s.al.toNat by have:=D.out;omega);obtain⟨y,hy⟩:∃ y,Hid (goS F.s l x=y):=⟨_,rfl⟩;have Y:y<65536:=by rw [<- hy.out];exact goS_lt g.out u
    have aD:=u16_or_nat z y Z Y;have aF:IntKind.u16.wrap (y:Int)=y:=by rw [IntKind.wrap_u16];omega
    rw [hz.out,hy.out] at a;have B7:=za f;have B6:=za o;rw [C] at BG;clear f o E C h0;cases hb:hasB al (l:Int) with
    |false =>
     have Hb:=za hb;have H:=za (show x=y by
      rw [<- hy.out];unfold goS;rw [if_neg];rw [<- I.out];simpa [hasB] using hb)
     clear hb;obtain rfl:=H.out;go_wp2_with (go_at_call 127;refine (zbN al (l:Int) tM _).mono ?_;rw [Hb.out];rintro e w' ⟨rfl,rfl⟩)
     go_roundw
     case rel=>exact⟨k+1,U.set j (z|||x),gM,oM,a,by rw [<- zkm];exact B7.out.ab j _,B6.out.far sM _,n.setCell (p:=⟨W.heap.size+1+1,j,gP⟩) (by simp;omega) _⟩
     case measure=>exact uM
    |true =>
     have Hb:=za hb;have H:=za (show zbK F.s.edges x (l:Int)=y by
      rw [<- hy.out];unfold goS;rw [if_pos];rw [<- I.out];simpa [hasB] using hb)
     clear hb;go_wp2_with (first
      |(go_at_call 127;refine (zbN al (l:Int) tM _).mono ?_;rw [Hb.out];rintro e w' ⟨rfl,rfl⟩)
      |(go_at_call 191;refine (impl_step (k0:=F.s.st.toNat) (J.out.ext n) (L.out.ext n) u hl g.out.2.2.1 (oH g.out.2.1)).mono ?_;rw [H.out];rintro e w5 ⟨rfl,c⟩))
     go_roundw
     case rel=>exact⟨k+1,U.set j (z|||y),gM,oM,a,by rw [<- zkm];exact (B7.out.ext c).ab j _,(B6.out.ext c).far sM _,(n.trans c).setCell (p:=⟨W.heap.size+1+1,j,gP⟩) (by simp;omega) _⟩
     case measure=>exact uM
  ·obtain rfl:k=12:=oM;have ak:(zbu U).toArray.size=12:=by simp [zbu,m.out.1]
   have aw:=za (show RetSMv F l T W (kP (zgZ U)) wr from ⟨U,rfl,m.out,n⟩);have r:(zbu U).toArray.size=12:=by simp [zbu,m.out.1]
   go_wp2_with (first
    |(refine wpList_load_row rfl _ _ rfl _ rfl _ _ _ _ f Tryz.underlying222 rfl (by rw [r];exact zaX) ?_)
    |(refine zcV rfl _ _ rfl _ rfl rfl o sM m.out.1 ?_;intro w5 b6' hf5))
   have c:Ext W w5:=n.frm hf5 (fun q hq e=>by subst e;omega);exact bodyPost_ret (v:=zgZ U) (results_cell_row (p:=6) (ty:=222) Tryz.results198 _ _ (W.heap.size+1) _ _ _ _ rfl b6' Tryz.underlying222 rfl (by rw [r];exact zaX)) rfl ⟨U,rfl,m.out,c⟩
end
theorem zjc:((kN).info? 222).map (fun i=>(i.zero,i.size,i.bytes))=gO (gO (.agg (Array.replicate 12 (.int .u16 0))),12,24):=kM
theorem row12_len:(Value.agg (Array.replicate 12 (.int .u16 0))).cells.size=12:=dM
theorem fold_set:∀ (l:List kL) (k:Nat) (cs:Array kL),k+l.length=cs.size->(l.zipIdx k).foldl (fun cs x=>cs.setIfInBounds x.snd x.fst) cs=(cs.toList.take k++l).toArray
 |[],k,cs,h=>by
  have h1:cs.toList.take k=cs.toList:=dK (by simp at h ⊢;omega);simp only [List.zipIdx_nil,List.foldl_nil,List.append_nil,h1,Array.toArray_toList]
 |a :: r,k,cs,h=>by
  simp only [List.length_cons] at h;have hk:k<cs.toList.length:=by simp;omega
  rw [List.zipIdx_cons,List.foldl_cons,fold_set r (k+1) _ (by simp;omega)]
  congr 1
  rw [Array.toList_setIfInBounds,eB,List.take_set_of_le (dD _),List.getElem?_set_self hk];simp
theorem fold_u16s (hU:U.length=12):List.foldl (fun cs x=>cs.setIfInBounds x.snd x.fst) #[Value.int .u16 0,.int .u16 0,.int .u16 0,.int .u16 0,.int .u16 0,.int .u16 0,.int .u16 0,.int .u16 0,.int .u16 0,.int .u16 0,.int .u16 0,.int .u16 0] (zbu U).zipIdx=(zbu U).toArray:=by
 rw [fold_set _ 0 _ (by rw [zbZ,hU];rfl)];rfl
theorem zgM {l:List Oper}{Q:Exit->Act->kJ->Prop}{S:kJ->Prop}{i:Nat}{rest:zx}{o:Oper}{a:Act}(ho:l[i]?=gO o)(hq:zdv o.op=kC)(hp:zgG o.op=kK)(hw:Region.wanted o (yielded l.toArray a.tmps)=kC)
  (x:Operand) (hop:o.op=.load 222 x) (g:Nat) (hx:a.eval x=.pointer (gO g)) {U:List Nat} (hU:U.length=12) (hb:∀ X,S X->Blk X g 222 (zbu U).toArray) (h:zat kN l T Q S rest (a.put o.dst (.agg (zbu U).toArray)) w):zat kN l T Q S (.one i rest) a w:=
 zbL ho hq hp hw (fun X hX=>by
  have h12:(zbu U).toArray.size=12:=by simp [zbu,hU]
  unfold execOp;simp only [hop,hx,Instr.loadAt,Instr.sureAddr,Sem.run_bind,Sem.run_pure,Result.andThen_ok,run_loadVar_row X g 222 222 _ _ _ (hb X hX) Tryz.underlying222 rfl (by rw [h12];exact zaX)]) h
def RetSAdd (F:Sfx) (Ts:List (List Nat)) (nx:Nat->Nat->Int) (U:List Nat) (S:Nat->Prop) (W:kJ) (e:Ending) (W':kJ):Prop:=
 ∃ (j:Nat) (Ts':List (List Nat)) (nx':Nat->Nat->Int) (k':Nat) (M':List Nat->Option Nat) (vs' vn' vu':kL),e=kP (.int kA (j:Int))/\((Ts'=Ts/\nx'=nx)\/(Ts'=Ts++[U]/\nx'=fun k l=>if k=Ts.length then -1 else nx k l))/\Ts'[j]?=gO U /\
  zfh F Ts' nx' k' M' vs' vn' vu' W'/\Kq S W W' (sfS F vs' vn' vu')
section
variable {F:Sfx}{Ts:List (List Nat)}{nx:Nat->Nat->Int}{k:Nat}{M:List Nat->Option Nat}{vs vn vu:kL}{W:kJ}
theorem yT14a2 {P:Prop}(h:P:=by
 refine ze fun K hK=>?_;go_simp;refine hK.out _ _ (hwd.alloc _) ?_;have hPe:=hP5.ext hwd;have hqe:=hq5'.out.ext hwd;have B3e:=za (B35.out.ext hwd);generalize wd6=we at *;refine pT ?_;refine uQ ?_;refine zb fun K hK=>?_;rw [fold_u16s HU.out.len];refine zaB F.w9 we _ _ _ rfl 222 _ 12 24 Tryz.underlying149 zjc row12_len dM (.slice As Ts.length cs) Ts.length (stC Ts) (zbu U).toArray _ rfl rfl hPe.frm.size hPe.sets h12 hone lM oM ?_;intro g8 cap8 w8 hown8 hg8 hat8 hlt8;refine hK.out _ _ ?_;refine pT ?_;obtain⟨hB8,hP8,hq8⟩:=hPe.pushS HF.out (U:=U) hown8 hg8 hat8;have k8:=hB8.cell;have f8:=hB8.frozen;simp only [sfC] at k8;refine zb fun K hK=>?_;go_simp;refine hK.out _ _ ?_;refine pT ?_;refine uQ ?_;refine zb fun K hK=>?_;go_simp;refine hK.out _ _ ?_;refine zg ?_;have hq:=za (hqe.trans hq8);have hP:=za hP8;have B38:=za ((B3e.out.frm (Frm.ae hg8) (fun e=>hWs e rfl)).far (p:=⟨F.G,10,none⟩) (by show W.heap.size≠F.G;omega) (.slice (some g8) (Ts.length+1) cap8));clear hown8 hg8 hat8 hB8 hP8 hq8 k8 f8 hPe hqe B3e hWs;generalize w8.setCell ⟨F.G,10,none⟩ (.slice (some g8) (Ts.length+1) cap8)=w9' at *;go_wp2_with fail
 go_meet;exact⟨g8,cap8,hq.out,hP.out,B38.out⟩
 ):P:=h
theorem sf_add (hF:ziP F)(h:zfh F Ts nx k M vs vn vu W) (hU:WS F.p U)(hn:Ts.length<=1000000000000) :
  kQ kN 196 #[.pointer (gO ⟨F.G,0,gP⟩),zgZ U] W (RetSAdd F Ts nx U (sfS F vs vn vu) W):=by
 have HF:=za hF;have HU:=za hU;have l:=za (show domP U from ⟨hU.len,hU.lt⟩);have h12:(zbu U).toArray.size=12:=by simp [zbu,hU.len]
 have aI:k<=Ts.length:=h.le;have aL:=h.frm.size;have hx1:Ext W (W.alloc (.cells (zbu U).toArray 222)):=(dB _).alloc _;have E:=za (h.ext hF hx1);have b3:=Blk.new W 222 (zbu U).toArray;obtain⟨As,cs,rfl⟩:=zi h.sets;obtain⟨n,o,rfl⟩:=zi h.next;obtain⟨r,s,rfl⟩:=zi h.uns;have d:=za (show ¬ sfS F (fQ As Ts.length cs) (fQ n Ts.length o) (fQ r Ts.length s) W.heap.size from fun hs=>by have:=h.lt hs;omega);clear hF h hU;unfold zgZ
 go_enter Tryz.func196,Tryz.ntmps196
 go_upto_region 1 with fail
 generalize W.alloc (.cells (zbu U).toArray 222)=w1 at *;have C:∀ X,Ext w1 X->∀ i,X.cell? ⟨F.G,i,gP⟩=(sfC F (fQ As Ts.length cs) (fQ n Ts.length o) (fQ r Ts.length s))[i]?:=fun X hX=>(E.out.blk.ext hX).cell;simp only [sfC] at C;have b:=dB w1;have B3:=za b3;clear b3;refine uR (fun X=>Ext w1 X) [5] (zx.of [0,4,1,2,3,5,6,7,8,9,10]) ?_;refine uQ ?_;refine zgM rfl rfl rfl rfl _ rfl W.heap.size rfl HU.out.len (fun X hX=>B3.out.ext hX) ?_;refine pT ?_;refine ze fun K hK=>?_;go_simp;refine hK.out _ _ b.drew ?_;refine pT ?_;refine uQ ?_;have a:=E.out.ext HF.out b.drew;have ag:=hx1.trans b.drew;have J:=za (B3.out.ext b.drew);clear C B3 E hx1;generalize w1.drew=wd at *;cases hMU:M U with
 |some j =>
  have g:=za hMU;clear hMU;refine zb fun K hK=>?_;refine wp_mapOkG _ keyP _ _ rfl rfl a.map U rfl l.out ?_;rw [g.out];intro cc hcc;obtain rfl:=hcc j rfl;refine hK.out _ _ ?_;refine pT ?_;clear hcc;refine uQ ?_;refine zg ?_;have ae:=za (show RetSAdd F Ts nx U (sfS F (fQ As Ts.length cs) (fQ n Ts.length o) (fQ r Ts.length s)) W (kP (.int kA (j:Int))) wd from
   ⟨j,Ts,nx,k,M,_,_,_,rfl,.inl ⟨rfl,rfl⟩,(a.num U j).1 g.out,a,Kq.refl.ext ag⟩)
  go_wp2_with fail
  go_ret;exact ae.out
 |none =>
  have g:=za hMU;clear hMU;refine zb fun K hK=>?_;refine wp_mapOkG _ keyP _ _ rfl rfl a.map U rfl l.out ?_;rw [g.out];intro cc hcc;refine hK.out _ _ ?_;refine pT ?_;clear hcc;refine uQ ?_;refine zg ?_;have kd:=a.blk.cell;simp only [sfC] at kd;have aF:=a.frm.size;go_upto_region 5 with fail
  have af:=ag.drew;have C:∀ X,Ext wd X->∀ i,X.cell? ⟨F.G,i,gP⟩=(sfC F (fQ As Ts.length cs) (fQ n Ts.length o) (fQ r Ts.length s))[i]?:=fun X hX=>(a.blk.ext hX).cell;simp only [sfC] at C;have b:=dB wd;refine uR (fun X=>Ext wd X) [6] (zx.of [0,4,5,1,2,3,6]) ?_;refine uQ ?_;refine zgM rfl rfl rfl rfl _ rfl W.heap.size rfl HU.out.len (fun X hX=>J.out.ext hX) ?_;refine pT ?_;refine uQ ?_;refine ze fun K hK=>?_;go_simp;refine hK.out _ _ b.drew ?_;refine pT ?_;refine uQ ?_;refine zb fun K hK=>?_;refine wp_mapSetG _ keyP _ _ _ (.inl rfl) rfl (a.ext HF.out b.drew).map oM U Ts.length rfl rfl l.out oM ?_;intro w5 hmap5 hg5;refine hK.out _ _ ?_;refine pT ?_;refine zg ?_;obtain⟨hP5,aa⟩:=(a.ext HF.out b.drew).p.mapSet HF.out hmap5 hg5;have B35:=za ((J.out.ext b.drew).frm (Frm.ae hg5) (fun e=>by
   have h1:=kS e;exact d.out (.inl ⟨by rw [<- h1];exact HF.out.b0m,by rw [<- h1];exact HF.out.mw⟩)))
  have hq5':=za (Kq.back af aa);have Z:=za (a.num.add g.out);have au:=za a.ws;clear C b a hmap5 hg5 aa kd af;go_upto_region 6 with fail
  go_cut [] (fun wx=>∃ (g8 cap8:Nat),Kq (sfS F (fQ As Ts.length cs) (fQ n Ts.length o) (fQ r Ts.length s)) W wx (sfS F (fQ (gO g8) (Ts.length+1) cap8) (fQ n Ts.length o) (fQ r Ts.length s))/\ziu F (Ts++[U]) Ts.length nx (unC F.p Ts) (k+1) (ziv M U Ts.length) (fQ (gO g8) (Ts.length+1) cap8) (fQ n Ts.length o) (fQ r Ts.length s) wx/\Blk wx W.heap.size 222 (zbu U).toArray)
  case first =>
   have C:∀ X,Ext w5 X->∀ i,X.cell? ⟨F.G,i,gP⟩=(sfC F (fQ As Ts.length cs) (fQ n Ts.length o) (fQ r Ts.length s))[i]?:=fun X hX=>(hP5.blk.ext hX).cell;simp only [sfC] at C;have b:=dB w5;have hone:∀ u∈(zbu U).toArray.toList,u.oneCell'=kC:=fun u hu=>by
    have aq:u∈zbu U:=by simpa using hu
    obtain⟨z,_,rfl⟩:=kW.1 aq;rfl
   have al:F.G<W.heap.size:=oH HF.out.Gw;have hWs:∀ {q:Nat},(fQ As Ts.length cs).ownBlock=gO q->W.heap.size≠q:=fun hq e=>d.out (.inr (.inl (by rw [e];exact hq)));refine uR (fun X=>Ext w5 X) [7,8,10] (zx.app [0,1,5] (zx.two 2 (zx.of [3,4,6,7,8,9,10]) 6 (zx.of [2,3,4,7,8,9,10]))) ?_;refine uQ ?_;refine zgM rfl rfl rfl rfl _ rfl W.heap.size rfl HU.out.len (fun X hX=>B35.out.ext hX) ?_;refine pT ?_;have hwd:=b.drew;generalize w5.drew=wd6 at *;refine zm (fun K hK=>?_) (fun K hK=>?_)
   ·go_simp;refine hK.out _ _ hwd ?_;refine pT ?_;refine uQ ?_;exact yT14a2
   ·go_simp;refine hK.out _ _ (hwd.alloc _) ?_;refine pT ?_;exact yT14a2
  case rest =>
   obtain⟨g8,cap8,hq8,hP8,O⟩:=hcut;clear hP5 hq5' B35;have k8:=hP8.blk.cell;simp only [sfC] at k8;have L:=za hq8;have V:∀ {q:Nat},(fQ n Ts.length o).ownBlock=gO q->W.heap.size≠q:=fun hq e=>d.out (.inr (.inr (.inl (by rw [e];exact hq))));have al:F.G<W.heap.size:=oH HF.out.Gw;go_upto_region 8 with (at_builtin;refine zL F.w9 wc rfl _ _ _ rfl 166 _ 6 48 Tryz.underlying148 info_row6 row6_len dM (fQ n Ts.length o) Ts.length (nxC Ts.length nx) _ _ rfl rfl hP8.frm.size hP8.next rfl (by simp [Value.oneCell']) lM oM ?_;intro g7 cap7 w7 hown7 hg7 hat7 hlt7;obtain⟨D,S,ad⟩:=hP8.pushN HF.out hown7 hg7 hat7;have k7:=D.cell;have f7:=D.frozen;simp only [sfC] at k7)
   have H:=za (L.out.trans ad);have t:=za S;have ak:=(O.frm (Frm.ae hg7) (fun e=>V e rfl)).far (p:=⟨F.G,12,gP⟩) (by show W.heap.size≠F.G;omega) (fQ (gO g7) (Ts.length+1) cap7);clear hown7 hg7 hat7 D S ad k7 f7 hP8 hq8 L O k8 V;generalize w7.setCell ⟨F.G,12,gP⟩ (fQ (gO g7) (Ts.length+1) cap7)=wn at *;go_upto_block 0 with (refine wpList_load_row rfl _ _ rfl _ rfl _ _ _ _ ak Tryz.underlying222 rfl (by rw [h12];exact zaX) ?_)
   have kn:=t.out.blk.cell;simp only [sfC] at kn;have am:=za (HF.out.red wn t.out.frm);go_wp2_with fail
   go_loopw [8,9,10,54] (fun v8 _ _ i wr=>∃ q:Nat,v8=.bool (zgz F.p U q)/\i=.int kA q/\q<=12/\wr=wn) (fun _ _ _ i _=>12 - (intOf i).toNat)
   case atStart=>exact⟨0,rfl,rfl,dH _,rfl⟩
   case round =>
    obtain⟨q,rfl,rfl,hq,rfl⟩:=hrel
    by_cases hlt:q<12
    ·have ap:=zdE HU.out.len hlt;have ay:(q:Int)<12:=oM;obtain⟨x,I⟩:∃ x,Hid (U.getD q 0=x):=⟨_,rfl⟩;rw [I.out] at ap;have f:=za (show zgz F.p U (q+1)=(zgz F.p U q || (x != 0&&!zaC F.p q)) by rw [<- I.out];rfl);cases hb:zgz F.p U q with
     |true =>
      have c:=za (show zgz F.p U (q+1)=kC by rw [f.out,hb];rfl);clear f;go_wp2_with fail
      go_roundw
      case rel=>exact⟨q+1,by rw [c.out],gM,oM,trivial⟩
      case measure=>exact uM
     |false =>
      by_cases h0:x=0
      ·have c:=za (show zgz F.p U (q+1)=kK by rw [f.out,hb,h0];rfl);subst h0;clear f;go_wp2_with fail
       go_roundw
       case rel=>exact⟨q+1,by rw [c.out],gM,oM,trivial⟩
       case measure=>exact uM
      ·have H:=HU.out.idx (i:=q) (by rw [I.out];exact h0);obtain⟨aP,aH,v⟩:=am.out.acc;have an:=(zl HF.out.hp).2;obtain⟨aA,y,hA,_,_,hy,aG⟩:=v.bool (k:=q) (by have:=v.length;rw [zcb] at this;omega);have c:=za (show zgz F.p U (q+1)=!y by
        rw [f.out,hb];have:zaC F.p q=y:=by unfold zaC;rw [dF,hy.out];rfl
        rw [this];simp [h0])
       have aJ:((x:Int) != 0)=kC:=by simp;omega
       rw [hA] at kn;have aK:(q:Int)<(F.m':Int):=by have:=v.length;rw [zcb] at this;omega
       clear f v hA an;go_wp2_with fail
       go_roundw
       case rel=>exact⟨q+1,by rw [c.out],gM,oM,trivial⟩
       case measure=>exact uM
    ·obtain rfl:q=12:=oM;have hPe:=t.out;have ul:(unC F.p Ts).length=Ts.length:=by simp [unC]
     have B:=hPe.uns;rw [ul] at B;have hqe:=H.out;have ao:=za (show zgz F.p U 12=badS F.p U from rfl);obtain⟨bb,Y⟩:∃ bb,Hid (bb=zgz F.p U 12):=⟨_,rfl⟩;rw [<- Y.out];clear t H;go_wp2_with (at_builtin;refine zL F.w9 wr rfl _ _ _ rfl 4 _ 1 1 Tryz.underlying25 zaW rfl dM (fQ r Ts.length s) Ts.length (zae (unC F.p Ts)) _ _ rfl rfl hPe.frm.size B rfl (by simp [Value.oneCell']) lM oM ?_;intro g6 cap6 w6 hown6 hg6 hat6 hlt6;rw [<- ul] at hown6;obtain⟨Q,R,ab⟩:=hPe.pushU HF.out (x:=bb) hown6 hg6 hat6;have k6:=Q.cell;have f6:=Q.frozen;simp only [sfC] at k6)
     go_ret;rw [ul] at R ab;have ar:unC F.p (Ts++[U])=unC F.p Ts++[bb]:=by rw [unC_snoc,<- ao.out,<- Y.out]
     refine⟨Ts.length,Ts++[U],_,k+1,ziv M U Ts.length,_,_,_,rfl,.inr ⟨rfl,rfl⟩,sM,ziu.m (by rw [ar,eA,eH];exact R) Z.out (by rw [eA,eH];omega) (fun T hT=>?_),hqe.trans ab⟩;rcases List.mem_append.1 hT with h1|h1
     ·exact au.out T h1
     ·obtain rfl:=List.mem_singleton.1 h1;exact HU.out.len
end
section
open Go.WideMaps Go.Maps
def memP (W:kJ) (g:Nat):List Nat:=(fM 12).map fun j=>match W.cell? ⟨g,j,gP⟩ with|some (.int _ z)=>z.toNat|_=>0
theorem memP_blk {W:kJ}{t:TypeId}(h:Blk W g t (zbu T).toArray)(hT:T.length=12):memP W g=T:=by
 refine List.ext_getElem? fun j=>?_;unfold memP;rw [eC];rcases Nat.lt_or_ge j 12 with a|a
 ·rw [List.getElem?_range a,Option.map_some,h.cell,e8,zfc oM,dF,dE oM];simp
 ·rw [eJ (by simpa using a),eJ oM];rfl
theorem run_eq_pset (hT:domP T)(hU:domP U) (w:kJ):(Op.equalIn 10000 222 (zgZ T) (zgZ U)).run kN w=.ok (decide (T=U)) w:=by
 show (Op.equal 222 (zgZ T) (zgZ U)).run kN w=.ok (decide (T=U)) w;obtain⟨l,b⟩:=lD.1 (zeB hT);obtain⟨k,a⟩:=lD.1 (zeB hU);obtain⟨r,d,c⟩:=run_equal_deep w (m:=2) oM (zjf.at 0) zjf.wide b a;rw [d]
 congr 1
 rw [Bool.eq_iff_iff,c,decide_eq_true_eq];constructor
 ·rintro rfl;exact pset_inj ((Keyed.of_law zjf.law).inj b a)
 ·rintro rfl;exact kS (b.symm.trans a)
def RetSCl (F:Sfx) (T:List Nat) (W:kJ) (e:Ending) (W':kJ):Prop:=∃ U,e=kP (zgZ U)/\zbB U 12 (Cl F.s F.p F.L (bq T))/\Ext W W'
section
variable {F:Sfx}{Ts:List (List Nat)}{nx:Nat->Nat->Int}{k:Nat}{M:List Nat->Option Nat}{vs vn vu:kL}{W:kJ}
theorem ClI.ws (hp:zj p=kC)(h0:WS p T0)(h:ClI s p A (bq T0) 12 T):WS p T:=
 ⟨h.len,h.lt,fun i q hb=>cl_row hp (fun q i hb=>h0.row i q hb) (h.sub i q hb)⟩
theorem hidS_iff :l∈hidS s L↔hidL s L l:=by
 unfold hidS hidL;rw [zD,zjG];simp
theorem sf_close (hF:ziP F)(h:zfh F Ts nx k M vs vn vu W) (hT0:WS F.p T0) :
  kQ kN 197 #[.pointer (gO ⟨F.G,0,gP⟩),zgZ T0] W (RetSCl F T0 W):=by
 have HF:=za hF;have HM:=za h;have az:=za hT0;have aK:=zbx hF.hs;have Hp:=za hF.hp;have bG:=h.blk;have zp:=zero_pset;obtain⟨a4,a1,hid⟩:=(h.red hF).hid;have af:=za hid;have ah:(zbu T0).toArray.size=12:=by simp [zbu,hT0.len]
 have aj:=za (show ClI F.s F.p F.L (bq T0) 12 T0 from hT0.stand.clI);clear hF h hT0 aK hid;unfold zgZ
 go_enter Tryz.func197,Tryz.ntmps197
 go_upto_block 0 with fail
 obtain⟨E,b4⟩:=zG (dB ((W.alloc (.cells (zbu T0).toArray 222)).alloc (.cells (Array.replicate 12 (.int .u16 0)) 222)));have ar:Ext W ((W.alloc (.cells (zbu T0).toArray 222)).alloc (.cells (Array.replicate 12 (.int .u16 0)) 222)):=((dB _).alloc _).alloc _;generalize (W.alloc (.cells (zbu T0).toArray 222)).alloc (.cells (Array.replicate 12 (.int .u16 0)) 222)=w2 at *;rw [<- zik] at b4;have aI:=room (memP w2 W.heap.size);go_wp2_with fail
 go_loopw [5,7,8,9] (fun _ _ _ _ wr=>∃ T,Blk wr W.heap.size 222 (zbu T).toArray/\Blk wr (W.heap.size+1) 222 (zbu (eG 12 0)).toArray/\Hid (ClI F.s F.p F.L (bq T0) 12 T)/\Ext W wr) (fun _ _ _ _ wr=>room (memP wr W.heap.size))
 case atStart=>exact⟨T0,E,b4,aj,ar⟩
 case round =>
  clear E b4 ar aj ah aI;obtain⟨u,aN⟩:∃ u,u=wr:=⟨_,rfl⟩;subst aN;obtain⟨T,E,b4,t,Y⟩:=hrel;have h12:(zbu T).toArray.size=12:=by simp [zbu,t.out.len]
  have J:=Blk.new u 222 (Array.replicate 12 (.int .u16 0));rw [<- zik] at J;have au:Ext u (u.alloc (.cells (Array.replicate 12 (.int .u16 0)) 222)):=(dB _).alloc _;go_upto_region 2 with (first
    |(refine wpList_load_row rfl _ _ rfl _ rfl _ _ _ _ E Tryz.underlying222 rfl (by rw [h12];exact zaX) ?_)
    |(refine zcV rfl _ _ rfl _ rfl rfl J sM t.out.len ?_;intro w5 r hf5))
  have a:Ext u w5:=au.frm hf5 (fun q hq e=>by subst e;omega);have aC:=E.ext a;have BG:∀ X,Ext u X->∀ i,X.cell? ⟨F.G,i,gP⟩=(sfC F vs vn vu)[i]?:=fun X hX=>(bG.ext (Y.trans hX)).cell;simp only [sfC] at BG;have I:=za E;have aE:=za b4;obtain⟨H,an⟩:∃ H,Hid (H=u.heap.size):=⟨_,rfl⟩;rw [<- an.out] at r hf5 ⊢;have b:Hid (ClI F.s F.p F.L (bq T0) 12 T/\(∀ i q,zdM T i q->zdM T i q)/\∀ (c l:Nat),c<0->(hidS F.s F.L)[c]?=gO l->∃ V,MvP F.s F.p l T 12 V/\Has T V 12):=⟨t.out,fun _ _ h=>h,fun c l h=>oM⟩;clear E b4 aC hf5 J au;obtain⟨o,y⟩:∃ o,Hid (o=hidS F.s F.L):=⟨_,rfl⟩;rw [<- y.out] at BG b;have Hh:=za af.out;rw [<- y.out] at Hh;obtain⟨HA,ai⟩:∃ HA,Hid (HA=F.HA):=⟨_,rfl⟩;rw [<- ai.out] at BG Hh;have a0:o.length<=6:=by rw [y.out];exact zB _ 6
  go_wp2_with fail
  go_loopw [7,8,9,16] (fun _ _ _ i wr=>∃ (j:Nat) (f:List Nat),i=.int kA j/\j<=o.length/\Blk wr H 222 (zbu f).toArray/\Ext u wr/\Hid (ClI F.s F.p F.L (bq T0) 12 f/\(∀ i q,zdM T i q->zdM f i q)/\∀ (c l:Nat),c<j->o[c]?=gO l->∃ V,MvP F.s F.p l T 12 V/\Has f V 12)) (fun _ _ _ i _=>o.length - (intOf i).toNat)
  case atStart=>exact⟨0,T,rfl,dH _,r,a,b⟩
  case round =>
   clear r a b;obtain⟨j,f,rfl,hj,r,a,b⟩:=hrel
   by_cases hjl:j<o.length
   ·obtain⟨bl,ol,l,rfl,_,_,hl,O⟩:=(Hh.out.ext zbA.ok (Y.trans a)).num hjl;have ao:hidL F.s F.L l:=hidS_iff.1 (by rw [<- y.out];exact dC hl.out);have ag:=za ao;have aV:(j:Int)<(o.length:Int):=oM;have n:=I.out.ext a;have aD:=BG wr a;clear ao;go_upto_region 6 with (first
     |(refine wpList_load_row rfl _ _ rfl _ rfl _ _ _ _ n Tryz.underlying222 rfl (by rw [h12];exact zaX) ?_)
     |(go_at_call 198;refine (sf_move HF.out (HM.out.ext HF.out (Y.trans a)) (ClI.ws Hp.out az.out t.out) ag.out.1).mono ?_;rintro e w6 ⟨V,rfl,hV,Z⟩))
    have D:=a.trans Z;have al:=r.ext Z;have ak:=za hV.1;have HV:=za hV;have d:Hid ((ClI F.s F.p F.L (bq T0) 12 f/\(∀ i q,zdM T i q->zdM f i q)/\∀ (c l:Nat),c<j->o[c]?=gO l->∃ V,MvP F.s F.p l T 12 V/\Has f V 12)/\Has f V 0):=⟨b.out,Has.zero _ _⟩;clear b hV r O n aD Z;go_wp2_with fail
    go_loopw [8,9,24] (fun _ _ i wr=>∃ (k:Nat) (g:List Nat),i=.int kA k/\k<=12/\Blk wr H 222 (zbu g).toArray/\Ext u wr/\Hid ((ClI F.s F.p F.L (bq T0) 12 g/\(∀ i q,zdM T i q->zdM g i q)/\∀ (c l:Nat),c<j->o[c]?=gO l->∃ V,MvP F.s F.p l T 12 V/\Has g V 12)/\Has g V k)) (fun _ _ i _=>12 - (intOf i).toNat)
    case atStart=>exact⟨0,f,rfl,dH _,al,D,d⟩
    case round =>
     clear al D d;obtain⟨k,g,rfl,hk,r,a,d⟩:=hrel
     by_cases hlt:k<12
     ·have aH:∀ X:kJ,(Instr.index 222 (zgZ V) (.int kA (k:Int))).run kN X=.ok (.int .u16 (V.getD k 0:Nat)) X:=fun X=>zdE ak.out hlt X;have m:=za d.out.1.1.len;have a2:(k:Int)<12:=oM;obtain⟨x,ab⟩:∃ x,Hid (V.getD k 0=x):=⟨_,rfl⟩;obtain⟨z,hz⟩:∃ z,Hid (g.getD k 0=z):=⟨_,rfl⟩;rw [ab.out] at aH;have aq:x<65536:=by rw [<- ab.out];exact zbS HV.out.2.1 k
      have av:z<65536:=by rw [<- hz.out];exact zbS d.out.1.1.lt k
      have a3:=u16_or_nat z x av aq;have c5:wr.cell? ⟨H,k,gP⟩=gO (.int .u16 (z:Nat)):=by
       rw [r.cell,e8,zfc (by rw [m.out];exact hlt),hz.out]
      have f5:=r.frozen k;have S:k<g.length:=by rw [m.out];exact hlt
      have B:Hid ((ClI F.s F.p F.L (bq T0) 12 (g.set k (z|||x))/\(∀ i q,zdM T i q->zdM (g.set k (z|||x)) i q)/\∀ (c l:Nat),c<j->o[c]?=gO l->∃ V,MvP F.s F.p l T 12 V/\Has (g.set k (z|||x)) V 12)/\Has (g.set k (z|||x)) V (k+1)):=by
       obtain⟨⟨i1,i2,i3⟩,i4⟩:=d.out;rw [<- hz.out,<- ab.out];exact⟨⟨i1.join t.out HV.out ag.out hlt,fun i q hb=>(zcQ S _ _ _).2 (.inl (i2 i q hb)),fun c l h1 h2=>by
        obtain⟨V,v1,v2⟩:=i3 c l h1 h2;exact⟨V,v1,v2.set S⟩⟩,i4.step S⟩
      have aG:u.heap.size<=H:=by rw [an.out];exact dD _
      clear d;go_wp2_with fail
      go_roundw
      case rel=>exact⟨k+1,g.set k (z|||x),gM,oM,by rw [<- zkm];exact r.ab k _,a.setCell (p:=⟨H,k,gP⟩) aG _,B⟩
      case measure=>exact uM
     ·have aX:12<=k:=oM;have B:Hid (ClI F.s F.p F.L (bq T0) 12 g/\(∀ i q,zdM T i q->zdM g i q)/\∀ (c l:Nat),c<j+1->o[c]?=gO l->∃ V,MvP F.s F.p l T 12 V/\Has g V 12):=by
       obtain⟨⟨i1,i2,i3⟩,i4⟩:=d.out;refine⟨i1,i2,fun c l' h1 h2=>?_⟩;rcases eP (eW h1) with h3|rfl
       ·exact i3 c l' h3 h2
       ·have h4:=hl.out;rw [h2] at h4;obtain rfl:=kS h4;exact⟨V,HV.out,fun i q hi hb=>i4 i q oM hb⟩
      clear d;go_wp2_with fail
      go_roundw
      case rel=>exact⟨j+1,g,gM,oM,r,a,B⟩
      case measure=>exact uM
   ·have aW:¬ (j:Int)<(o.length:Int):=oM;have O:∀ l,hidL F.s F.L l->∃ V,MvP F.s F.p l T 12 V/\Has f V 12:=fun l hl=>by
     obtain⟨c,R⟩:=List.getElem?_of_mem (hidS_iff.2 hl);rw [<- y.out] at R;exact b.out.2.2 c l (by have:=(kT.1 R).1;omega) R
    have n:=I.out.ext a;have ae:=aE.out.ext a;have m:(zbu f).toArray.size=12:=by simp [zbu,b.out.1.len]
    have Q:=run_eq_pset (T:=f) (U:=T) ⟨b.out.1.len,b.out.1.lt⟩ ⟨t.out.len,t.out.lt⟩;unfold zgZ at Q
    by_cases hMT:f=T
    ·have C:decide (f=T)=kC:=by simpa using hMT
     rw [C] at Q;have ay:=za hMT;clear hMT;go_wp2_with (first
      |(refine wpList_load_row rfl _ _ rfl _ rfl _ _ _ _ r Tryz.underlying222 rfl (by rw [m];exact zaX) ?_)
      |(refine wpList_load_row rfl _ _ rfl _ rfl _ _ _ _ n Tryz.underlying222 rfl (by rw [h12];exact zaX) ?_)
      |(refine zcV rfl _ _ rfl _ rfl rfl ae sM t.out.len ?_;intro w7 b7 hf7))
     have aL:=(Y.trans a).size;have aa:Ext W w7:=(Y.trans a).frm hf7 (fun q hq e=>by subst e;omega);have am:zbB T 12 (Cl F.s F.p F.L (bq T0)):=t.out.stop (fun l hl=>by
      obtain⟨V,v1,v2⟩:=O l hl;rw [ay.out] at v2;exact⟨V,v1,v2⟩)
     exact bodyPost_ret (v:=zgZ T) (results_cell_row (p:=4) (ty:=222) Tryz.results197 _ _ (W.heap.size+1) _ _ _ _ rfl b7 Tryz.underlying222 rfl (by rw [h12];exact zaX)) rfl ⟨T,rfl,am,aa⟩
    ·have C:decide (f=T)=kK:=by simpa using hMT
     rw [C] at Q;have aJ:=za (room_grow (by rw [t.out.len,b.out.1.len]) b.out.1.lt b.out.2.1 (fun e=>hMT e.symm));have ap:=za (memP_blk I.out t.out.len);clear hMT;go_wp2_with (first
      |(refine wpList_load_row rfl _ _ rfl _ rfl _ _ _ _ r Tryz.underlying222 rfl (by rw [m];exact zaX) ?_)
      |(refine wpList_load_row rfl _ _ rfl _ rfl _ _ _ _ n Tryz.underlying222 rfl (by rw [h12];exact zaX) ?_)
      |(refine zcV rfl _ _ rfl _ rfl rfl n t.out.len b.out.1.len ?_;intro w7 b7 hf7))
     have aL:=(Y.trans a).size;have aa:Ext W w7:=(Y.trans a).frm hf7 (fun q hq e=>by subst e;omega);go_roundw
     case rel=>exact⟨f,b7,ae.frm hf7 oM,za b.out.1,aa⟩
     case measure =>
      show room (memP w7 W.heap.size)<room (memP u W.heap.size);rw [memP_blk b7 b.out.1.len,ap.out];exact aJ.out
end
end
theorem MvP.ws (h:MvP s p l T 12 V)(hp:zj p=kC)(hl:l<6)(hT:WS p T):WS p V:=
 ⟨h.1,h.2.1,fun j q' hb=>by
  obtain⟨i,q,-,h2,-,rfl⟩:=(h.2.2 j q').1 hb
  exact zep hp (hT.row i q h2) hl⟩
theorem zjP (hT:WS p T)(hV:MvP s p l T 12 V)(hU:zbB U 12 (Cl s p A (bq V))):Lead s p A l T U:=by
 unfold Lead;rw [<- (hV.fin hT.stand).eq];exact hU
section
variable {F:Sfx}{Ts:List (List Nat)}{nx:Nat->Nat->Int}{k:Nat}{M:List Nat->Option Nat}{vs vn vu:kL}{W W':kJ}
theorem zfh.setN {c:Nat}{v:Int}(h:zfh F Ts nx k M vs (fQ (gO g) n c) vu W)(hq:q<Ts.length)(hl:l<6) :
  zfh F Ts (fun k' l'=>if k'=q/\l'=l then v else nx k' l') k M vs (fQ (gO g) n c) vu (W.setCell ⟨g,q*6+l,gP⟩ v)/\Kq (sfS F vs (fQ (gO g) n c) vu) W (W.setCell ⟨g,q*6+l,gP⟩ v) (sfS F vs (fQ (gO g) n c) vu):=by
 have d:=dG W g (q*6+l) (.int kA v);have a:=h.next;have m:(fQ (gO g) n c).ownBlock=gO g:=rfl;have i:n=Ts.length:=by
  rcases a.2 with ⟨h1,h2⟩|⟨r,p,o,h1,_⟩
  ·injection h1 with h1;cases h1
  ·injection h1
 subst i;have f:=(a.stored (q*6+l) (.int kA v)).1;rw [nxC_set hq hl] at f;refine⟨⟨⟨h.frm.os,h.frm.tape,h.frm.output,by simpa using h.frm.size,fun j hj hn'=>?_⟩,h.blk.far (fun e=>zN a h.blk dM m e.symm) _,zf h.sets d (fun b hb e=>zan h.sets a dM hb (by rw [e];rfl)),f,zf h.uns d (fun b hb e=>zan h.uns a dM hb (by rw [e];rfl)),h.map.frm d (fun e=>h.map.aj a (by rw [e];rfl)),h.num,h.le,h.ws⟩,d.mono (fun b _ e=>.inr (.inr (.inl (by rw [e];rfl)))),fun b hb=>.inl hb⟩;refine (d.block j (oH h.frm.size) (fun e=>?_)).trans (h.frm.block j hj hn');have:=(a.lt g m).1;omega
def RetSAf (F:Sfx) (Ts:List (List Nat)) (T:List Nat) (_n l:Nat) (S:Nat->Prop) (W:kJ) (e:Ending) (W':kJ):Prop:=
 ∃ (j:Nat) (Ts':List (List Nat)) (nx':Nat->Nat->Int) (k':Nat) (M':List Nat->Option Nat) (vs' vn' vu':kL) (V:List Nat),e=kP (.int kA (j:Int))/\SfI F.s F.p F.L Ts' nx'/\Ts'.length<=Ts.length+1/\(∀ (i:Nat) (U:List Nat),Ts[i]?=gO U->Ts'[i]?=gO U)/\Ts'[j]?=gO V/\Lead F.s F.p F.L l T V /\
  zfh F Ts' nx' k' M' vs' vn' vu' W'/\Kq S W W' (sfS F vs' vn' vu')
theorem sf_after (hF:ziP F)(h:zfh F Ts nx k M vs vn vu W)(hI:SfI F.s F.p F.L Ts nx)  (hT:Ts[n]?=gO T)(hl:l<6)(hn:Ts.length<=200000000000) :
  kQ kN 108 #[.pointer (gO ⟨F.G,0,gP⟩),n,l] W (RetSAf F Ts T n l (sfS F vs vn vu) W):=by
 have HF:=za hF;have S:=za hI;have Y:=za hT;have D:=(kT.1 hT).1;have an:(n:Int)<(Ts.length:Int):=oM;have aB:(l:Int)<6:=oM;have a:=za (hI.ws T (dC hT));obtain⟨As,cs,rfl⟩:=zi h.sets;obtain⟨An,cn,rfl⟩:=zi h.next;obtain⟨gn,rfl,ay,-⟩:=zW h.next oM;obtain⟨gs,rfl,az,-⟩:=zW h.sets oM;have y:=za h;have kG:=h.blk.cell;simp only [sfC] at kG;have cN:W.cell? ⟨gn,n*6+l,gP⟩=gO (.int kA (nx n l)):=by rw [h.next.cellAt _ oM,zfE D hl]
 have ag:=za (hI.nx n l D hl);clear hF h hI hT;rcases ag.out with m|⟨j,T1,U,hj,C,g,B⟩
 ·rw [m] at cN;have f:W.rangeAt gs (n*12) (zbu T):=fun i u hu=>by
   have hi:i<12:=by have:=(kT.1 hu).1;rw [zbZ,a.out.len] at this;exact this
   rw [y.out.sets.cellAt _ oM];exact stC_drop y.out.ws Y.out i u hu
  have h12:(zbu T).length=12:=by rw [zbZ];exact a.out.len
  clear m
  go_enter Tryz.func108,Tryz.ntmps108
  go_upto_region 3 with (first
   |(refine wpList_load_mid rfl _ _ rfl gs (n*12) rfl (zbu T) _ f Tryz.underlying222 rfl (by rw [h12];exact zaX) ?_)
   |(go_at_call 198;refine (sf_move HF.out y.out a.out hl).mono ?_;rintro e w1 ⟨V,rfl,z,hx1⟩)
   |(go_at_call 197;refine (sf_close HF.out (y.out.ext HF.out hx1) (z.ws HF.out.hp hl a.out)).mono ?_;rintro e w2 ⟨U,rfl,g,R⟩)
   |(go_at_call 196;refine (sf_add HF.out (y.out.ext HF.out (hx1.trans R)) ((zjP a.out z g).ws HF.out.hp hl a.out) oM).mono ?_;rintro e w3 ⟨j,c,aj,k',M',aG,aF,aH,rfl,E,r,b,H⟩))
  have Q:c.length<=Ts.length+1/\(∀ (i:Nat) (U:List Nat),Ts[i]?=gO U->c[i]?=gO U)/\SfI F.s F.p F.L c aj:=by
   rcases E with ⟨rfl,rfl⟩|⟨rfl,rfl⟩
   ·exact⟨oM,fun _ _ h=>h,S.out⟩
   ·exact⟨sM,fun i U h=>by rw [List.getElem?_append_left (kT.1 h).1];exact h,S.out.add ((zjP a.out z g).ws HF.out.hp hl a.out)⟩
  obtain⟨ai,x,O⟩:=Q;have t:=x n T Y.out;have ab:=za x;have o:n<c.length:=(kT.1 t).1;have af:(n:Int)<(c.length:Int):=oM;obtain⟨aq,av,rfl⟩:=zi b.next;obtain⟨q,rfl,-,-⟩:=zW b.next oM;have k3:=b.blk.cell;simp only [sfC] at k3;obtain⟨o0,g0⟩:=zaM b.next (n*6+l) oM;have f0:=b.next.frozenAt (n*6+l);obtain⟨d,I⟩:=b.setN (v:=(j:Int)) o hl;have ae:=za (O.set (k:=n) (l:=l) (j:=j) t r (zjP a.out z g));have Z:=za r;have aa:=za (zjP a.out z g);have ah:=za ((Kq.back (hx1.trans R) H).trans I);clear t x O r z g H I E;go_upto_region 4 with fail
  have k4:=d.blk.cell;simp only [sfC] at k4;have c4:(w3.setCell ⟨q,n*6+l,gP⟩ (.int kA (j:Int))).cell? ⟨q,n*6+l,gP⟩=gO (.int kA (j:Int)):=by
   rw [d.next.cellAt _ oM,zfE o hl,if_pos ⟨rfl,rfl⟩]
  have X:=za d;clear k3 g0 f0 b d;generalize w3.setCell ⟨q,n*6+l,gP⟩ (.int kA (j:Int))=w4 at *;go_wp2_with fail
  go_ret;exact⟨j,c,_,k',M',_,_,_,U,rfl,ae.out,ai,ab.out,Z.out,aa.out,X.out,ah.out⟩
 ·rw [hj] at cN;have J:=za (show RetSAf F Ts T n l (sfS F (fQ (gO gs) Ts.length cs) (fQ (gO gn) Ts.length cn) vu) W (kP (.int kA (j:Int))) W from by
   obtain rfl:=kS (Y.out.symm.trans C);exact⟨j,Ts,nx,k,M,_,_,_,U,rfl,S.out,oM,fun _ _ h=>h,g,B,y.out,Kq.refl⟩)
  have aA:¬ ((j:Int)<0):=oM;clear hj C g B
  go_enter Tryz.func108,Tryz.ntmps108
  go_wp2_with fail
  go_ret;exact J.out
end
end Go.Proofs.YtckbjnndaaoddaaGreatDoor
