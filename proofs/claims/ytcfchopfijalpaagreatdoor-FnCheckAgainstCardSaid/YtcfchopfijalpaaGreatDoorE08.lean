/- The sets of -/
import Derived.Test.YtcfchopfijalpaaGreatDoorE07
import Derived.Lib.SliceRun
import Derived.Laws.Strings
import Derived.WideKeyArr
set_option maxHeartbeats 4000000
set_option maxRecDepth 100000
namespace Go.Proofs.YtcfchopfijalpaaGreatDoor
open Go Go.RowKit
open Blk renaming new->dX
open Bool renaming and_eq_true->dG,eq_false_iff->eO,not_eq_true'->gH
open Ext renaming bl_->dU,drew->e9,refl->cY,trans->eI,x1_->gG
open Frm renaming refl->iN,setCell->dE
open List renaming append_assoc->iQ,eq_nil_of_length_eq_zero->dN,getD_eq_getElem?_getD->dH,getElem?_append_left->dL,getElem?_eq_getElem->dC,getElem?_eq_none->dV,getElem?_map->dP,getElem?_of_mem->dY,length_map->dW,length_set->fH,length_take->eV,map_append->eN,mem_of_getElem?->dB,mem_or_eq_of_mem_set->eX,mem_range->iV,mem_replicate->iO,nil_append->eG,replicate->dQ,take_add_one->dK,take_of_length_le->dI
open Nat renaming eq_zero_or_pos->gK,le_add_right->jM,le_of_lt_succ->eZ,le_refl->dD,le_trans->dJ,lt_or_eq_of_le->eF,or_lt_two_pow->eL,zero_le->dF
open Option renaming toList_some->eD
open Reads renaming af->eA
variable {A C:Option Addr} {G L N R Z a b b0 base c c0 cap cc g g0 hi i j k l lo n nc size:Nat} {M O T U V v:List Nat} {W w w' w0 wB:World} {al st:Int} {cols:List ByteArray} {cs:Array Value} {e:Edg} {es:List Edg} {p:Aut} {s:Sys} {t:TypeId} {x y:ByteArray} {xs:List Value}
def MvP (s:Sys) (p:Aut) (l:Nat) (T:List Nat) (k:Nat) (U:List Nat):Prop:=
 U.length=12∧(∀ x∈U,x<65536)∧∀ j q',zdZ U j q'↔∃ i q,i<k∧zdZ T i q∧q'∈cho s q l∧j=aGo p i l
def goS (s:Sys) (l x:Nat):Nat:=if s.al.toNat.testBit l=true then zbT s.edges x (l:Int) else x
section
variable {s:Sys} {p:Aut} {l k n:Nat} {T U:List Nat} {B:Nat->Nat->Prop}
theorem goS_bit (hs:Sml s) (x q':Nat):(goS s l x).testBit q'=true↔∃ q,x.testBit q=true∧q'∈cho s q l:=by
 unfold goS
 by_cases hb:s.al.toNat.testBit l=true
 ·rw [if_pos hb];exact zhP hs hb x q'
 ·rw [if_neg hb];constructor
  ·intro h;refine⟨q',h,?_⟩;unfold cho;rw [if_neg hb];simp
  ·rintro ⟨q,h1,h2⟩;unfold cho at h2;rw [if_neg hb] at h2;obtain rfl:q'=q:=by simpa using h2
   exact h1
theorem goS_lt (hs:Sml s) {x:Nat}(hx:x<65536):goS s l x<65536:=by
 unfold goS;split
 ·exact zgX hs _ _
 ·exact hx
theorem zero_bit (n i q:Nat):¬ zdZ (dQ n 0) i q:=by
 unfold zdZ;rw [dH];cases h:(dQ n 0)[i]? with
 |none=>simp
 |some x =>
  have:=dB h;rw [iO] at this;simp [this.2]
theorem MvP.zero:MvP s p l T 0 (dQ 12 0):=by
 refine⟨sM,fun x hx=>by rw [iO] at hx;omega,fun j q'=>⟨fun h=>absurd h (zero_bit _ _ _),?_⟩⟩;rintro ⟨i,q,h,-⟩;omega
theorem MvP.skip (h:MvP s p l T k U)(h0:T.getD k 0=0):MvP s p l T (k+1) U:=by
 refine⟨h.1,h.2.1,fun j q'=>⟨fun hb=>?_,?_⟩⟩
 ·obtain⟨i,q,h1,h2⟩:=(h.2.2 j q').1 hb;exact⟨i,q,oM,h2⟩
 ·rintro ⟨i,q,h1,h2,h3⟩;rcases eF (eZ h1) with h4|rfl
  ·exact (h.2.2 j q').2 ⟨i,q,h4,h2,h3⟩
  ·unfold zdZ at h2;rw [h0] at h2;simp at h2
theorem yE08a3 {P:Prop}(h:P:=by
 rintro ⟨i,q,h1,h2,h3,h4⟩;rcases Nat.lt_or_eq_of_le (Nat.le_of_lt_succ h1) with h5|rfl
 ·exact .inl ⟨i,q,h5,h2,h3,h4⟩
 ·exact .inr ⟨h4,q,h2,h3⟩
 ):P:=h
theorem MvP.step (h:MvP s p l T k U)(hs:Sml s)(hT:∀ x∈T,x<65536)(hj:aGo p k l<12):MvP s p l T (k+1) (U.set (aGo p k l) (U.getD (aGo p k l) 0|||goS s l (T.getD k 0))):=by
 have a:aGo p k l<U.length:=by rw [h.1];exact hj
 refine⟨by rw [fH];exact h.1,fun x b=>?_,fun j q'=>?_⟩
 ·rcases eX b with b|rfl
  ·exact h.2.1 x b
  ·exact eL (n:=16) (zcc h.2.1 _) (goS_lt hs (zcc hT _))
 ·rw [zdh a,h.2.2 j q',goS_bit hs];constructor
  ·rintro (⟨i,q,h1,h2⟩|⟨rfl,q,h1,h2⟩)
   ·exact⟨i,q,oM,h2⟩
   ·exact⟨k,q,oM,h1,h2,rfl⟩
  ·exact yE08a3
theorem MvP.fin (h:MvP s p l T 12 U)(hT:zbK T 12 B):zbK U 12 (mvB s p l B):=by
 refine⟨h.1,h.2.1,fun j q'=>?_⟩;rw [h.2.2 j q'];constructor
 ·rintro ⟨i,q,-,h2,h3,h4⟩;exact⟨q,i,(hT.2.2 i q).1 h2,h3,h4⟩
 ·rintro ⟨q,i,h2,h3,h4⟩;have a:=(hT.2.2 i q).2 h2;exact⟨i,q,by rw [← hT.1];exact zhT a,a,h3,h4⟩
def Has (M V:List Nat) (k:Nat):Prop:=∀ i q,i<k->zdZ V i q->zdZ M i q
theorem Has.zero (M V:List Nat):Has M V 0:=fun i q h=>oM
theorem Has.all (h:Has M V 12)(hV:V.length=12) (i q:Nat)(hb:zdZ V i q):zdZ M i q:=h i q (by rw [← hV];exact zhT hb) hb
theorem Has.set (h:Has M V n) {x:Nat}(hj:j<M.length):Has (M.set j (M.getD j 0|||x)) V n:=fun i q hi hb=>(zdh hj _ _ _).2 (.inl (h i q hi hb))
theorem Has.step (h:Has M V k)(hk:k<M.length):Has (M.set k (M.getD k 0|||V.getD k 0)) V (k+1):=fun i q hi hb=>by
 rw [zdh hk]
 rcases eF (eZ hi) with h4|rfl
 ·exact .inl (h i q h4 hb)
 ·exact .inr ⟨rfl,hb⟩
variable {A:Nat}
theorem ClI.join (h:ClI s p A B 12 M)(hT:ClI s p A B 12 T)(hV:MvP s p l T 12 V)(hl:hidL s A l)(hk:k<12):ClI s p A B 12 (M.set k (M.getD k 0|||V.getD k 0)):=by
 have b:k<M.length:=by rw [h.len];exact hk
 refine⟨by rw [fH];exact h.len,fun x c=>?_,fun q i a=>(zdh b _ _ _).2 (.inl (h.base q i a)),fun i q a=>?_⟩
 ·rcases eX c with c|rfl
  ·exact h.lt x c
  ·exact eL (n:=16) (zcc h.lt _) (zcc hV.2.1 _)
 ·rcases (zdh b _ _ _).1 a with a|⟨rfl,a⟩
  ·exact h.sub i q a
  ·obtain⟨d,f,-,h2,h3,rfl⟩:=(hV.2.2 i q).1 a;exact .hid (hT.sub d f h2) hl h3
theorem ClI.stop (hT:ClI s p A B 12 T)(h:∀ l,hidL s A l->∃ V,MvP s p l T 12 V∧Has T V 12):zbK T 12 (Cl s p A B):=
 hT.fin fun i l hi hl q hq q' hq'=>by
  obtain⟨V,hV,hh⟩:=h l hl
  exact hh.all hV.1 _ _ ((hV.2.2 _ _).2 ⟨i,q,hi,hq,hq',rfl⟩)
end
theorem bits_le (h:∀ q,a.testBit q=true->b.testBit q=true):a<=b:=by
 have:a|||b=b:=Nat.eq_of_testBit_eq fun q=>by
  rw [Nat.testBit_or];cases ha:a.testBit q
  ·simp
  ·rw [h q ha];simp
 rw [← this];exact Nat.left_le_or
theorem room_le:∀ {T M:List Nat},T.length=M.length->(∀ x∈M,x<65536)->(∀ i,T.getD i 0<=M.getD i 0)->room M<=room T∧(T≠M->room M<room T)
 |[],[],_,_,_=>⟨dD _,fun h=>absurd rfl h⟩
 |[],_ :: _,h,_,_=>by simp at h
 |_ :: _,[],h,_,_=>by simp at h
 |a :: r,b :: t,h,hM,hle=>by
  have h0:a<=b:=by simpa using hle 0
  have c:=hM b sM;obtain⟨h1,h2⟩:=room_le (T:=r) (M:=t) (by simpa using h) (fun x hx=>hM x (by simp [hx])) (fun i=>by simpa using hle (i+1));refine⟨by simp only [room];omega,fun hne=>?_⟩;simp only [room]
  by_cases e:a=b
  ·subst e;have:=h2 (fun e2=>hne (by rw [e2]));omega
  ·omega
theorem room_grow (h1:T.length=M.length)(hM:∀ x∈M,x<65536)(h:∀ i q,zdZ T i q->zdZ M i q)(hne:T≠M):room M<room T:=
 (room_le h1 hM (fun i=>bits_le (fun q hq=>h i q hq))).2 hne
def bq (T:List Nat):Nat->Nat->Prop:=fun q i=>zdZ T i q
theorem zbK.eq {B:Nat->Nat->Prop}(h:zbK T n B):bq T=B:=funext fun q=>funext fun i=>propext (h.2.2 i q)
structure WS (p:Aut) (T:List Nat):Prop where
 len:T.length=12
 lt:∀ x∈T,x<65536
 row:∀ i q,zdZ T i q->i<p.next.length
theorem WS.stand (h:WS p T):zbK T 12 (bq T):=⟨h.len,h.lt,fun _ _=>Iff.rfl⟩
theorem WS.idx (h:WS p T) (h0:T.getD i 0≠0):i<p.next.length:=by
 obtain⟨q,a⟩:=Nat.exists_testBit_of_ne_zero h0;exact h.row i q a
def zgO (p:Aut) (T:List Nat):Nat->Bool
 |0=>false
 |k+1=>zgO p T k || (T.getD k 0 != 0&&!zco p k)
def badS (p:Aut) (T:List Nat):Bool:=zgO p T 12
theorem badSN_iff (p:Aut) (T:List Nat):∀ k,zgO p T k=true↔∃ i,i<k∧T.getD i 0≠0∧zco p i=false
 |0=>⟨fun h=>(by cases h),fun ⟨i,h,_⟩=>oM⟩
 |k+1=>by
  unfold zgO
  rw [Bool.or_eq_true,badSN_iff p T k]
  constructor
  ·rintro (⟨i,h1,h2⟩|h)
   ·exact⟨i,oM,h2⟩
   ·refine⟨k,oM,?_⟩
    simpa using h
  ·rintro ⟨i,h1,h2,h3⟩
   rcases eF (eZ h1) with h4|rfl
   ·exact .inl ⟨i,h4,h2,h3⟩
   ·exact .inr (by simp only [h3,Bool.not_false,Bool.and_true];simpa using h2)
theorem zjB {A:Nat}  (h:zbK T 12 (PR s p A v)):badS p T=true↔Bad s p A v:=by
 rw [stand_bad h];exact badSN_iff p T 12
theorem cl_row {A:Nat} {B:Nat->Nat->Prop}(hp:zj p=true)(hB:∀ q i,B q i->i<p.next.length) {q:Nat}(h:Cl s p A B q i):i<p.next.length:=by
 induction h with
 |base h=>exact hB _ _ h
 |hid _ hl _ ih=>exact zdV hp ih hl.1
def Lead (s:Sys) (p:Aut) (A l:Nat) (T U:List Nat):Prop:=zbK U 12 (Cl s p A (mvB s p l (bq T)))
theorem Lead.ws {A:Nat} (h:Lead s p A l T U)(hp:zj p=true)(hl:l<6)(hT:WS p T):WS p U:=
 ⟨h.1,h.2.1,fun i q hb=>cl_row hp (fun q i ⟨_,i0,h1,_,h3⟩=>by rw [h3];exact zdV hp (hT.row _ _ h1) hl) ((h.2.2 i q).1 hb)⟩
theorem Lead.pr {A:Nat}  (h:Lead s p A l T U)(hT:zbK T 12 (PR s p A v)):zbK U 12 (PR s p A (v++[l])):=by
 unfold Lead at h;rw [hT.eq,← PR_snoc] at h;exact h
theorem start_ws {A:Nat} (h:zbK U 12 (PR s p A []))(hp:zj p=true)(h0:0<p.next.length):WS p U:=
 ⟨h.1,h.2.1,fun i q hb=>cl_row hp (fun q i ⟨_,h3⟩=>by rw [h3];exact h0) ((h.2.2 i q).1 hb)⟩
structure SfI (s:Sys) (p:Aut) (A:Nat) (Ts:List (List Nat)) (nx:Nat->Nat->Int):Prop where
 ws:∀ T∈Ts,WS p T
 start:∃ T,Ts[0]?=some T∧zbK T 12 (PR s p A [])
 nx:∀ k l,k<Ts.length->l<6->nx k l = -1∨∃ (j:Nat) (T U:List Nat),nx k l=(j:Int)∧Ts[k]?=some T∧Ts[j]?=some U∧Lead s p A l T U
section
variable {s:Sys} {p:Aut} {A:Nat} {Ts:List (List Nat)} {nx:Nat->Nat->Int}
theorem SfI.add (h:SfI s p A Ts nx) (hU:WS p U):SfI s p A (Ts++[U]) (fun k l=>if k=Ts.length then -1 else nx k l):=by
 obtain⟨T,h1,h2⟩:=h.start;refine⟨fun V a=>?_,⟨T,by rw [dL (List.getElem?_eq_some_iff.1 h1).1];exact h1,h2⟩,fun k l hk hl=>?_⟩
 ·rcases List.mem_append.1 a with a|a
  ·exact h.ws V a
  ·obtain rfl:V=U:=by simpa using a
   exact hU
 ·by_cases e:k=Ts.length
  ·exact .inl (if_pos e)
  ·have b:k<Ts.length:=by simp at hk;omega
   simp only [if_neg e];rcases h.nx k l b hl with h3|⟨j,T,U,h3,h4,h5,c⟩
   ·exact .inl h3
   ·exact .inr ⟨j,T,U,h3,by rw [dL b];exact h4,by rw [dL (List.getElem?_eq_some_iff.1 h5).1];exact h5,c⟩
theorem SfI.set (h:SfI s p A Ts nx)  (hT:Ts[k]?=some T)(hU:Ts[j]?=some U)(hl:Lead s p A l T U):SfI s p A Ts (fun k' l'=>if k'=k∧l'=l then (j:Int) else nx k' l'):=by
 refine⟨h.ws,h.start,fun k' l' hk' hl'=>?_⟩
 by_cases e:k'=k∧l'=l
 ·obtain⟨rfl,rfl⟩:=e;exact .inr ⟨j,T,U,if_pos ⟨rfl,rfl⟩,hT,hU,hl⟩
 ·simp only [if_neg e];exact h.nx k' l' hk' hl'
end
theorem zhI (l:List Int):∀ u∈ints l,u.oneCell'=true:=by
 intro u hu;obtain⟨x,_,rfl⟩:=List.mem_map.1 hu;rfl
theorem zge (l:List Bool):∀ u∈zaq l,u.oneCell'=true:=by
 intro u hu;obtain⟨x,_,rfl⟩:=List.mem_map.1 hu;rfl
theorem zgl {w1:World}   (hg:(w.alloc (.cells cs t)).grownBy w1 (Value.slice (some w.heap.size) n c).ownBlock):Ext w w1:=
 ((cY w).alloc _).grown hg (fun k hk=>by
  have hk':w.heap.size=k:=by simpa [Value.ownBlock] using hk
  omega)
theorem clone_int {l:List Int} (h:Reads w lo hi 1 A n (ints l))(hn:n<=1048576) :
  Calls Tryz.prog 177 #[.slice A n c] w fun e w'=>∃ v',e=.returned v'∧w'.ownsRow w.heap.size 3 1 v' n (ints l)∧Ext w w':=by
 cases A with
 |none =>
  obtain rfl:n=0:=by
   rcases gK n with b|b
   ·exact b
   ·obtain⟨_,h1,_⟩:=h.2.2 b;cases h1
  have d:=h.length;obtain rfl:l=[]:=dN (by rw [zev] at d;omega);clear h;have f:=fun (w:World) (a:Option Addr) (n c n' c':Nat)=>Lib.run_eql_slice_nil (P:=Tryz.prog) w 128 _ a n c n' c' Tryz.underlying128
  go_enter Tryz.func177,Tryz.ntmps177
  go_wp2;go_ret;exact⟨_,rfl,World.ownsRow_nil _ _ _ _,cY _⟩
 |some ad =>
  have H:=za (h.ext ((cY w).alloc (.cells #[] 3)));clear h;have f:=fun (w:World) (a:Option Addr) (n c n' c':Nat)=>Lib.run_eql_slice_nil (P:=Tryz.prog) w 128 _ a n c n' c' Tryz.underlying128
  go_enter Tryz.func177,Tryz.ntmps177
  go_wp2_with (at_builtin;refine zdD _ rfl _ _ 128 rfl w.heap.size 3 _ 1 8 Tryz.underlying128 zag rfl dM _ 0 [] rfl (World.ownsRow_made w #[] 0 (dD _) (dF _) rfl) _ _ (some ad) n c (ints l) rfl H.out (zhI l) lM oM sM ?_;intro v' w1 zku hg hat)
  have g:=zgl hg;rw [Nat.zero_add,eG] at zku;go_ret;exact⟨_,rfl,zku,g⟩
theorem zjc {l:List Bool} (h:Reads w lo hi 1 A n (zaq l))(hn:n<=1048576) :
  Calls Tryz.prog 176 #[.slice A n c] w fun e w'=>∃ v',e=.returned v'∧w'.ownsRow w.heap.size 4 1 v' n (zaq l)∧Ext w w':=by
 cases A with
 |none =>
  obtain rfl:n=0:=by
   rcases gK n with b|b
   ·exact b
   ·obtain⟨_,h1,_⟩:=h.2.2 b;cases h1
  have d:=h.length;obtain rfl:l=[]:=dN (by rw [zcP] at d;omega);clear h;have f:=fun (w:World) (a:Option Addr) (n c n' c':Nat)=>Lib.run_eql_slice_nil (P:=Tryz.prog) w 26 _ a n c n' c' Tryz.underlying26
  go_enter Tryz.func176,Tryz.ntmps176
  go_wp2;go_ret;exact⟨_,rfl,World.ownsRow_nil _ _ _ _,cY _⟩
 |some ad =>
  have H:=za (h.ext ((cY w).alloc (.cells #[] 4)));clear h;have f:=fun (w:World) (a:Option Addr) (n c n' c':Nat)=>Lib.run_eql_slice_nil (P:=Tryz.prog) w 26 _ a n c n' c' Tryz.underlying26
  go_enter Tryz.func176,Tryz.ntmps176
  go_wp2_with (at_builtin;refine zdD _ rfl _ _ 26 rfl w.heap.size 4 _ 1 1 Tryz.underlying26 zbj rfl dM _ 0 [] rfl (World.ownsRow_made w #[] 0 (dD _) (dF _) rfl) _ _ (some ad) n c (zaq l) rfl H.out (zge l) lM oM sM ?_;intro v' w1 zku hg hat)
  have g:=zgl hg;rw [Nat.zero_add,eG] at zku;go_ret;exact⟨_,rfl,zku,g⟩
theorem zaw (W:World) (Z:Nat) (u0 u1 u2:Value):Frm (fun k=>k=Z) W (((W.setCell Z u0).setCell ⟨Z,1,none⟩ u1).setCell ⟨Z,2,none⟩ u2):=
 ((dE W Z 0 u0).trans (dE _ Z 1 u1)).trans (dE _ Z 2 u2)
theorem zaI (h:Blk w Z t cs)(hc:cs.size=3) (u0 u1 u2:Value):Blk (((w.setCell Z u0).setCell ⟨Z,1,none⟩ u1).setCell ⟨Z,2,none⟩ u2) Z t #[u0,u1,u2]:=by
 obtain⟨l⟩:=cs
 match l,hc with
 |[a,b,c],_=>simpa using ((h.ab 0 u0).ab 1 u1).ab 2 u2
theorem zr {e:TypeId}  {v:Value}  (h:w.ownsRow base e size v n xs)(hB:Blk w G t cs)(hne:e≠t) (hv:v.ownBlock=some b):b≠G:=by
 rintro rfl;rcases h.2 with ⟨rfl,_⟩|⟨g,a,c,rfl,_,f,_⟩
 ·simp [Value.ownBlock] at hv
 ·have d:g=b:=by simpa [Value.ownBlock] using hv
  subst d;unfold Blk at hB;rw [f] at hB;injection hB with hB
  injection hB with _ ht
  exact absurd ht hne
structure Gra (w0 W:World) (G:Nat) (al:Int) (v:Value) (ls:List (List Int)) (vA:Value) (acc:List Bool):Prop where
 blk:Blk W G 31 #[al,v,vA]
 own:zgc W w0.heap.size v ls
 acc:W.ownsRow w0.heap.size 4 1 vA acc.length (zaq acc)
 ext:Ext w0 W
 hG:w0.heap.size<=G
section
variable {w0 W W':World} {G:Nat} {al:Int} {v vA:Value} {ls:List (List Int)} {acc:List Bool}
theorem Gra.ay (h:Gra w0 W G al v ls vA acc)(hb:Ext W W'):Gra w0 W' G al v ls vA acc:=⟨h.blk.ext hb,h.own.ext hb,zh h.acc hb,h.ext.trans hb,h.hG⟩
theorem Gra.push {W1:World} {rows:List Value} {row:Value} {l:List Int} (h:Gra w0 W G al v ls vA acc)(hrows:zH W w0.heap.size rows ls)(hv:W.ownsRow w0.heap.size 128 1 v ls.length rows)
  (hx:Ext W W1) (hrow:W1.ownsRow W.heap.size 3 1 row l.length (ints l))
  (zku:W'.ownsRow w0.heap.size 128 1 (.slice (some g) (ls.length+1) cap) (ls.length+1) (rows++[row]))
  (hg:W1.grownBy W' v.ownBlock) (hat:v.ownBlock=some g∨g=W1.heap.size+1) :
  Hid (W'.cell? ⟨G,1,none⟩=some v)∧W'.frozen? ⟨G,1,none⟩=false∧Gra w0 (W'.setCell ⟨G,1,none⟩ (.slice (some g) (ls.length+1) cap)) G al (.slice (some g) (ls.length+1) cap) (ls++[l]) vA acc:=by
 have a:=h.blk.ext hx;have d:=zh hv hx;have f:Blk W' G 31 #[.int .i64 al,v,vA]:=(hg.block G a.lt (fun e=>zr d a dM e.symm rfl)).trans a;have t:g≠G:=by
  rcases hat with h1|h1
  ·exact zr d a dM h1
  ·have:=a.lt;omega
 have s:Ext w0 W':=(h.ext.trans hx).grown hg (fun k hk=>(d.lt k hk).1);have m:=hrows.snoc hx (h.ext.size) hrow;have j:Frm (fun k=>v.ownBlock=some k) W1 W':=Frm.ae hg;have n:zH W' w0.heap.size (rows++[row]) (ls++[l]):=m.frm j (fun i r b hr hb hS=>by
  obtain⟨u,_,q⟩:=m.row hr;exact zaG q d dM hb hS)
 have o:W'.ownsRow w0.heap.size 4 1 vA acc.length (zaq acc):=zg (zh h.acc hx) j (fun b hb hS=>zaG (zh h.acc hx) d dM hb hS);have c:=dE W' G 1 (.slice (some g) (ls.length+1) cap);refine⟨f.cell 1,f.frozen 1,⟨by simpa using f.ab 1 _,⟨rows++[row],?_,?_⟩,?_,s.setCell (p:=⟨G,1,none⟩) h.hG _,h.hG⟩⟩
 ·rw [List.length_append,List.length_singleton];exact zg zku c (fun b hv hS=>by
   have:g=b:=by simpa [Value.ownBlock] using hv
   omega)
 ·refine n.frm c (fun i r b hr hb hS=>?_);obtain⟨u,_,q⟩:=n.row hr;exact zr q f dM hb hS
 ·exact zg o c (fun b hb hS=>zr o f dM hb hS)
end
theorem zba {A':Option Addr} {n' c':Nat} {a:Aut} (h:zJ w lo hi A n A' n' a)(hs:a.size<=1048576) :
  Calls Tryz.prog 98 #[.agg #[a.al,.slice A n c,.slice A' n' c']] w (RetAut w a):=by
 have h1:n<=1048576:=by have:=h.n1;unfold Aut.size at hs;omega
 have h2:n'<=1048576:=by have:=h.n2;unfold Aut.size at hs;omega
 have o:∀ (k:Nat) (l:List Int),a.next[k]?=some l->l.length<=1048576:=fun k l Y=>by
  have h1:=zgH Y;have h2:=ziA a.next (k+1);unfold Aut.size at hs;omega
 have Q:=za o;have S:=za h.n1;have T:=za h.n2;have HS:=za (fun W (hW:Ext w W)=>h.1.ext hW);have HA:=za (fun W (hW:Ext w W)=>h.2.2.ext hW);have ar:=h.1.len;clear o h hs
 go_enter Tryz.func98,Tryz.ntmps98
 go_upto_region 1 with fail
 generalize U0:(w.alloc _).alloc _=q at *;obtain⟨y,b1,bz⟩:=Ext.x2_ U0;have av:w.heap.size+2=q.heap.size:=by rw [← U0];simp
 clear U0
 go_cut [3] (fun v wx=>∃ (G:Nat) (vA:Value),v=.pointer (some G)∧Gra q wx G a.al (.slice none 0 0) [] vA a.acc)
 case first =>
  have c1:=fun W (hW:Ext q W)=>(b1.ext hW).cell;have z:=cY q;refine uR (fun X=>Ext q X) [7] (zv.app [0,1,2,3] (zv.two 4 (zv.of [5,6,7]) 6 (zv.of [4,5,7]))) ?_;refine uQ ?_;have g:Ext q q.drew:=z.drew;generalize q.drew=wd at *;refine zn (fun K hK=>?_) (fun K hK=>?_)
  ·go_simp;refine (zjc (HA.out _ (y.trans g)) h2).mono ?_;rintro e L ⟨an,rfl,j,C⟩;obtain⟨O,R,rfl⟩:=zi j;have m:=g.trans C;refine hK.out _ _ m ?_;refine pT ?_;refine uQ ?_;refine ze fun K hK=>?_;go_simp;have B:=(cY L).alloc (.cells #[(0:Int),(),()] 31);have hG:=m.size;have f:=zq (zh j B) g.size;replace m:=m.trans B;refine hK.out _ _ m ?_;generalize U0:L.alloc _=M at *;have r:=dU U0;clear U0;generalize L.heap.size=G at *;refine pT ?_;refine uQ ?_;have cG:=r.cell;have fG:=r.frozen;refine zb fun K hK=>?_;go_simp;refine hK.out _ _ ?_;refine zf ?_;have s:Gra q (((M.setCell G a.al).setCell ⟨G,1,none⟩ ()).setCell ⟨G,2,none⟩ (.slice O n' R)) G a.al (.slice none 0 0) [] (.slice O n' R) a.acc:=⟨zaI r rfl _ _ _,⟨[],World.ownsRow_nil _ _ _ _,zH.nil _ _⟩,by
    rw [← T.out];exact zg f (zaw M G _ _ _) (fun b x hS=>zr f r dM x hS),m.frm (zaw M G _ _ _) (fun k hk e=>oM),hG⟩
   go_wp2_with fail
   go_meet;exact⟨G,_,rfl,s⟩
  ·go_simp;have B:=(cY wd).alloc (.cells #[(0:Int),(),()] 31);have hG:=g.size;replace g:=g.trans B;refine hK.out _ _ g ?_;generalize U0:wd.alloc _=M at *;have r:=dU U0;clear U0;generalize wd.heap.size=G at *;refine pT ?_;refine ze fun K hK=>?_;go_simp;refine (zjc (HA.out _ (y.trans g)) h2).mono ?_;rintro e L ⟨an,rfl,j,C⟩;obtain⟨O,R,rfl⟩:=zi j;have f:=zq j g.size;replace r:=r.ext C;replace g:=g.trans C;refine hK.out _ _ g ?_;refine pT ?_;refine uQ ?_;have cG:=r.cell;have fG:=r.frozen;refine zb fun K hK=>?_;go_simp;refine hK.out _ _ ?_;refine zf ?_;have s:Gra q (((L.setCell G a.al).setCell ⟨G,1,none⟩ ()).setCell ⟨G,2,none⟩ (.slice O n' R)) G a.al (.slice none 0 0) [] (.slice O n' R) a.acc:=⟨zaI r rfl _ _ _,⟨[],World.ownsRow_nil _ _ _ _,zH.nil _ _⟩,by
    rw [← T.out];exact zg f (zaw L G _ _ _) (fun b x hS=>zr f r dM x hS),g.frm (zaw L G _ _ _) (fun k hk e=>oM),hG⟩
   go_wp2_with fail
   go_meet;exact⟨G,_,rfl,s⟩
 case rest =>
  obtain⟨G,vA,rfl,d⟩:=hcut;have k1:=(b1.ext d.ext).cell;go_wp2_with fail
  go_loopw [5,15] (fun _ i wr=>∃ (k:Nat) (v:Value),k<=n∧i=.int .i64 k∧Gra q wr G a.al v (a.next.take k) vA a.acc) (fun _ i _=>n - (intOf i).toNat)
  case atStart=>exact⟨0,_,dF _,rfl,by simpa using d⟩
  case round =>
   clear d k1;obtain⟨k,v,hk,rfl,d⟩:=hrel
   by_cases hlt:k<n
   ·obtain⟨ad,Ak,ck,l,rfl,_,_,Y,ag,U⟩:=(HS.out wr (y.trans d.ext)).row hlt;have ai:=Q.out k l Y.out;have aa:=za (show a.next.take (k+1)=a.next.take k++[l] by rw [dK,Y.out];rfl);have V:=za (show (a.next.take k).length=k by rw [eV];have:=S.out;omega);obtain⟨D,x,J⟩:=d.own;go_upto_region 5 with fail
    have cG:=fun W (hW:Ext wr W)=>(d.blk.ext hW).cell;have z:=cY wr;have Z:=za (fun W (hW:Ext wr W)=>U.ext hW);clear ag U;refine uR (fun X=>Ext wr X) [5,7] (zv.of [0,1,2,3,4,5,6,7]) ?_;refine uQ ?_;refine ze fun K hK=>?_;go_simp;refine (clone_int (Z.out _ z.drew) ai).mono ?_;rintro e M ⟨row,rfl,o,aj⟩;obtain⟨BR,dR,rfl⟩:=zi o;have p:=z.drew.trans aj;refine hK.out _ _ p ?_;refine pT ?_;refine uQ ?_;refine ze fun K hK=>?_;go_simp;refine hK.out _ _ (p.alloc _) ?_;refine pT ?_;refine zb fun K hK=>?_;refine zaN q M _ _ _ rfl 128 _ 1 24 Tryz.underlying25 zcw rfl dM v (a.next.take k).length D _ _ rfl rfl (d.ext.trans p).size (zh x p) rfl (zbd _ _ _) (by unfold maxLen;have:=V.out;omega) (oH V.out) ?_;intro g5 cap5 w5 zkG hg5 hat5 hlt5;refine hK.out _ _ ?_;refine pT ?_;refine uQ ?_;obtain⟨p1,p2,p3⟩:=d.push J x p o (W':=w5) zkG hg5 hat5;have aD:=p1.out;refine zb fun K hK=>?_;go_simp;refine hK.out _ _ ?_;refine zf ?_;go_wp2_with fail
    go_roundw
    case rel=>exact⟨k+1,_,oM,gM,by rw [aa.out];first|exact p3|simpa using p3⟩
    case measure=>simp [intOf];omega
   ·obtain rfl:n=k:=oM;obtain⟨t,u,rfl⟩:∃ t u,v=.slice t n u:=by
     obtain⟨D,x,_⟩:=d.own;rw [dI (oH S.out),← S.out] at x;exact zi x
    obtain⟨E,F,rfl⟩:=zi d.acc;have cG:=d.blk.cell;have H:=bz.ext d.ext;have cZ:=H.cell;have fZ:=H.frozen;have I:=zaw wr (w.heap.size+1) (.int .i64 a.al) (.slice t n u) (.slice E a.acc.length F);have af:=zaI H rfl (.int .i64 a.al) (.slice t n u) (.slice E a.acc.length F);have ak:=(y.trans d.ext).frm I (fun k hk e=>oM);have s:=za (show RetAut w a (.returned (.agg #[a.al,.slice t n u,.slice E a.acc.length F])) (((wr.setCell ⟨w.heap.size+1,0,none⟩ a.al).setCell ⟨w.heap.size+1,1,none⟩ (.slice t n u)).setCell ⟨w.heap.size+1,2,none⟩ (.slice E a.acc.length F)) from by
     refine⟨t,n,u,E,a.acc.length,F,rfl,⟨?_,S.out,?_,rfl⟩,ak⟩
     ·have ho:=d.own;rw [dI (oH S.out)] at ho;exact (ho.keep I (fun b h1 e=>oM)).less oM
     ·exact zq (zbN d.acc I (fun b h1 e=>oM)) oM)
    go_wp2_with fail
    generalize ((wr.setCell ⟨w.heap.size+1,0,none⟩ a.al).setCell ⟨w.heap.size+1,1,none⟩ (.slice t n u)).setCell ⟨w.heap.size+1,2,none⟩ (.slice E a.acc.length F)=wf at *;have cf:=af.cell;exact bodyPost_ret (v:=.agg #[a.al,.slice t n u,.slice E a.acc.length F]) (by simp [results,Tryz.results98,go_sem,cf]) rfl s.out
def memT (W:World) (g n:Nat):List Nat:=(List.range n).map fun j=>match W.cell? ⟨g,j,none⟩ with|some (.int _ z)=>z.toNat|_=>0
theorem memT_own (h:W.ownsRow base 3 1 (.slice (some g) n c) n (zax T))(hT:T.length=n):memT W g n=T:=by
 refine List.ext_getElem? fun j=>?_;unfold memT;rw [dP];rcases Nat.lt_or_ge j n with a|a
 ·rw [List.getElem?_range a,Option.map_some,h.cellAt j oM,show (zax T)[j]?=T[j]?.map (fun x=>Value.int .i64 (x:Nat)) by simp [zax]];rw [dC oM];simp
 ·rw [dV (by simpa using a),dV oM];rfl
theorem zdu (h:W.ownsRow base 3 1 (.slice (some g) n c) n (zax T))(hj:j<n):W.cell? ⟨g,j,none⟩=some (.int .i64 (T.getD j 0:Nat)):=by
 have a:=zdS h;have b:T.length=n:=by simpa [zax] using a
 rw [h.cellAt j oM,show (zax T)[j]?=T[j]?.map (fun x=>Value.int .i64 (x:Nat)) by simp [zax],dH,dC oM];simp
def RetSets (g N cc base:Nat) (Q:Nat->Nat->Prop) (w:World) (e:Ending) (w':World):Prop:=
 ∃ T':List Nat,e=.returned (.slice (some g) N cc)∧w'.ownsRow base 3 1 (.slice (some g) N cc) N (zax T')∧zbK T' N Q∧Frm (fun k=>k=g) w w'
section
variable {w:World} {lo hi n c m d m' d' L:Nat} {A B B':Option Addr} {s:Sys} {p:Aut}
theorem zhj {Bs:Nat->Nat->Prop}(hS:zP w lo hi A n s)(hP:zJ w lo hi B m B' m' p)(hv:zl s=true)(hp:zj p=true)(hL:L<64)(hN:N=p.next.length)
  (hg:hi<=base) (zku:w.ownsRow base 3 1 (.slice (some g) N cc) N (zax T)) (hT:zbK T N Bs) :
  Calls Tryz.prog 220 #[.agg #[s.al,s.st,.slice A n c,p.al,.slice B m d,.slice B' m' d',L],.slice (some g) N cc] w (RetSets g N cc base (Cl s p L Bs) w):=by
 have O:=zcD hv;obtain⟨a2,a3⟩:=zQ hv;obtain⟨al,ad⟩:∃ al:Nat,Hid (s.al=al):=⟨s.al.toNat,by unfold Hid;omega⟩;have I:al<64:=oH ad.out;have aQ:N<=12:=by have:=(zk hp).2.1;omega
 have a6:=(zku.lt g rfl).1;have a8:=(zku.lt g rfl).2;have HN:=za hN;have aE:=za (zdi (a:=al) (b:=L) tM tM);have ba:al&&&L<=al:=Nat.and_le_left;have aa:(al:Int) - ((al&&&L:Nat):Int)=((al - (al&&&L):Nat):Int):=oM;have an:=za aa;clear aa;have H:=za (fun l=>sub_bit I hL l);have a4:=aE.out;clear hN
 go_enter Tryz.func220,Tryz.ntmps220
 go_upto_region 1 with fail
 generalize U0:w.alloc _=w1 at *;obtain⟨R,b1⟩:=gG U0;have k1:=b1.cell;clear U0;rw [ad.out] at k1;go_wp2_with fail
 rw [an.out];refine (zZ (al - (al&&&L)) tM _).mono ?_;rintro e w2 ⟨HA,hc,rfl,E,U⟩;have H:=za (fun l=>(sub_bit I hL l).trans (show l<6∧al.testBit l=true∧L.testBit l=false↔hidL s L l by unfold hidL;rw [ad.out];rfl));generalize letters (al - (al&&&L)) 6=hs at *;have a9:hs.length<=9223372036854775807:=(eA E).len;have ao:Frm (fun k=>k=g) w w2:=(R.trans U).aj;have ax:=zh zku (R.trans U);have aI:=b1.ext U;have o:=hT.clI (s:=s) (p:=p) (A:=L);clear zku hT k1 b1;go_wp2_with fail
 go_loopw [6] (fun mv wr=>∃ (C:Bool) (T:List Nat),mv=.bool C∧Hid (ClI s p L Bs N T)∧Hid (C=false->∀ i l,i<N->hidL s L l->zfc s p T i l)∧wr.ownsRow base 3 1 (.slice (some g) N cc) N (zax T)∧Frm (fun k=>k=g) w2 wr) (fun mv wr=>room (memT wr g N)+(match mv with | .bool true=>1|_=>0))
 case atStart=>exact⟨true,T,rfl,za o,za (fun h=>by cases h),ax,iN _ _⟩
 case round =>
  clear o ax;obtain⟨C,T,rfl,o,f,zku,t⟩:=hrel;have aq:=za (memT_own zku o.out.len);cases C
  ·have aO:=za (o.out.fin (f.out rfl));go_wp2_with fail
   go_ret;exact⟨T,rfl,zku,aO.out,ao.trans t⟩
  ·go_wp2_with fail
   go_loopw [6,7] (fun mv iv wq=>∃ (C:Bool) (i:Nat) (v:List Nat),mv=.bool C∧iv=.int .i64 i∧i<=N∧Hid (ClI s p L Bs N v)∧Hid (room v<=room T∧(C=true->room v<room T))∧Hid (C=false->∀ i' l,i'<i->hidL s L l->zfc s p v i' l)∧wq.ownsRow base 3 1 (.slice (some g) N cc) N (zax v)∧Frm (fun k=>k=g) w2 wq) (fun _ iv _=>N - (intOf iv).toNat)
   case atStart=>exact⟨false,0,T,rfl,rfl,dF _,o,za ⟨dD _,fun h=>by cases h⟩,za (fun _ i' l h=>oM),zku,t⟩
   case round =>
    clear o zku t f;obtain⟨C,i,v,rfl,rfl,hi,o,r,f,zku,t⟩:=hrel
    by_cases hlt:i<N
    ·have aT:(i:Int)<(N:Int):=oM;go_wp2_with fail
     go_loopw [6,8] (fun mv kv wq=>∃ (C:Bool) (k:Nat) (v:List Nat),mv=.bool C∧kv=.int .i64 k∧k<=hs.length∧Hid (ClI s p L Bs N v)∧Hid (room v<=room T∧(C=true->room v<room T))∧Hid (C=false->(∀ i' l,i'<i->hidL s L l->zfc s p v i' l)∧∀ (k' l:Nat),k'<k->hs[k']?=some l->zfc s p v i l)∧wq.ownsRow base 3 1 (.slice (some g) N cc) N (zax v)∧Frm (fun k=>k=g) w2 wq) (fun _ kv _=>hs.length - (intOf kv).toNat)
     case atStart=>exact⟨C,0,v,rfl,rfl,dF _,o,r,za (fun h=>⟨f.out h,fun k' l h=>oM⟩),zku,t⟩
     case round =>
      clear o r f zku t;obtain⟨C,k,v,rfl,rfl,hk,o,r,f,zku,t⟩:=hrel
      by_cases hkl:k<hs.length
      ·have aS:(k:Int)<(hs.length:Int):=oM;obtain⟨l,X⟩:∃ l,hs[k]?=some l:=⟨_,dC hkl⟩;have M:=(H.out l).1 (dB X);have ap:=M.1;have ae:aGo p i l<N:=by rw [HN.out];exact zdV hp (by rw [← HN.out];exact hlt) ap
       obtain⟨gh,rfl,a7,-⟩:=zU E oM;have G:=zbN E t (fun b h1 e=>oH R.size);have cH:=zdu G hkl;rw [dH,X,Option.getD_some] at cH;have CH:∀ W,Ext wr W->W.cell? ⟨gh,k,none⟩=some (.int .i64 (l:Nat)):=fun W hW=>hW.aa cH;have CB:∀ W,Ext wr W->∀ q,W.cell? ⟨w.heap.size,q,none⟩=#[Value.int .i64 s.al,.int .i64 s.st,.slice A n c,.int .i64 p.al,.slice B m d,.slice B' m' d',.int .i64 L][q]?:=fun W hW=>((aI.frm t oM).ext hW).cell;have CI:∀ W,Ext wr W->W.cell? ⟨g,i,none⟩=some (.int .i64 (v.getD i 0:Nat)):=fun W hW=>hW.aa (zdu zku hlt);have aC:=za (fun W (hW:Ext wr W)=>((hP.ext (R.trans U)).frm t (fun k h1 h2 e=>oM)).ext hW);have aD:=za (fun W (hW:Ext wr W)=>((hS.ext (R.trans U)).frm t (fun k h1 h2 e=>oM)).ext hW);have Hl:=za X;have bb:=cY wr;clear X cH G;go_wp2_with fail
       go_region_held3 (fun W=>Ext wr W) (first|assumption|(refine e9 ?_;assumption)|(refine eI ?_ aM;assumption)|(refine eI ?_ aM;refine e9 ?_;assumption)) (first|(go_at_call 222;refine (zej (aC.out _ ?_) hp (by rw [← HN.out];exact hlt) ap).mono ?_;(first|assumption|(refine e9 ?_;assumption));rintro e w3 ⟨rfl,bc⟩))
       have aU:Ext wr w3:=aM;obtain⟨j,hj⟩:∃ j,Hid (aGo p i l=j):=⟨_,rfl⟩;rw [hj.out] at ae ⊢;have CJ:∀ W,Ext wr W->W.cell? ⟨g,j,none⟩=some (.int .i64 (v.getD j 0:Nat)):=fun W hW=>hW.aa (zdu zku ae);obtain⟨x,hx⟩:∃ x,Hid (v.getD i 0=x):=⟨_,rfl⟩;obtain⟨y,hy⟩:∃ y,Hid (v.getD j 0=y):=⟨_,rfl⟩;have aV:x<65536:=by rw [← hx.out];exact zcc o.out.lt i
       have aw:y<65536:=by rw [← hy.out];exact zcc o.out.lt j
       rw [hx.out] at CI;rw [hy.out] at CJ;have Q:zbT s.edges x (l:Int)<65536:=zgX O _ _;obtain⟨z,hz⟩:∃ z,Hid (zbT s.edges x (l:Int)=z):=⟨_,rfl⟩;rw [hz.out] at Q;have aK:=zcr (a:=y) (b:=z) tM tM;have aR:(j:Int)<(N:Int):=oM;obtain⟨u,hu⟩:∃ u,Hid (y|||z=u):=⟨_,rfl⟩;have av:u<65536:=by rw [← hu.out];exact eL (n:=16) aw Q
       rw [hu.out] at aK;go_wp2_with fail
       go_region_held3 (fun W=>Ext wr W) (first|assumption|(refine e9 ?_;assumption)|(refine eI ?_ aM;assumption)|(refine eI ?_ aM;refine e9 ?_;assumption)) (first|(go_at_call 221;refine (zfX (c:=c) (k0:=s.st.toNat) (aD.out _ ?_) O.2.2.1 (oH O.2.1) tM).mono ?_;(first|assumption|(refine e9 ?_;assumption));rw [hz.out];rintro e w4 ⟨rfl,bd⟩))
       have S:Ext wr w4:=aM;have cJ:=CJ w4 S;have Y:=t.ext S;have D:=zh zku S;have J:v.getD (aGo p i l) 0|||zbT s.edges (v.getD i 0) (l:Int)=u:=by rw [hj.out,hx.out,hy.out,hz.out,hu.out]
       have ak:=za J;have F:=o.out.step O hp HN.out hlt M;rw [J,hj.out] at F;have ab:=za F;clear J F CH CB CI CJ
       by_cases he:u=y
       ·have aF:=za (closedAt_of (T:=v) (p:=p) (i:=i) O M (by rw [ak.out,hj.out,hy.out,he]));have aJ:((u:Int) != (y:Int))=false:=by rw [he];simp
        clear he;go_wp2_with fail
        go_roundw
        case rel=>exact⟨C,k+1,v,rfl,gM,oM,o,r,za (fun h=>⟨(f.out h).1,fun k' l' V hl'=>by
         rcases eF (eZ V) with h1|rfl
         ·exact (f.out h).2 k' l' h1 hl'
         ·rw [Hl.out] at hl';obtain rfl:=Option.some.inj hl';exact aF.out⟩),D,Y⟩
        case measure=>simp [intOf];omega
       ·have aJ:((u:Int) != (y:Int))=true:=by simp;omega
        have ag:=room_set v j z (by rw [hy.out,hu.out];exact av);rw [hy.out,hu.out] at ag;have Z:=ag.2 (by rw [o.out.len];exact ae) he;have am:=za Z;have ar:=(D.stored j (.int .i64 (u:Nat))).1;rw [← zhJ] at ar;have a5:=D.frozenAt j;clear ag Z he;go_wp2_with fail
        go_roundw
        case rel=>exact⟨true,k+1,v.set j u,rfl,gM,oM,za ab.out,za ⟨by have:=am.out;have:=r.out.1;omega,fun _=>by have:=am.out;have:=r.out.1;omega⟩,za (fun h=>by cases h),ar,Y.trans (dE _ g j _)⟩
        case measure=>simp [intOf];omega
      ·go_wp2_with fail
       go_roundw
       case rel=>exact⟨C,i+1,v,rfl,gM,oM,o,r,za (fun h i' l hi' X=>by
        rcases eF (eZ hi') with h1|rfl
        ·exact (f.out h).1 i' l h1 X
        ·obtain⟨k',V⟩:=dY ((H.out l).2 X);exact (f.out h).2 k' l (by have:=(List.getElem?_eq_some_iff.1 V).1;omega) V),zku,t⟩
       case measure=>simp [intOf];omega
    ·go_wp2_with fail
     have af:=za (memT_own zku o.out.len);go_roundw
     case rel=>exact⟨C,v,rfl,o,za (fun h i l hi X=>f.out h i l oM X),zku,t⟩
     case measure =>
      rw [aq.out,af.out];have h1:=r.out;cases C
      ·simp;omega
      ·have:=h1.2 rfl
       simp;omega
end
def RetSt (N:Nat) (Q:Nat->Nat->Prop) (w:World) (e:Ending) (w':World):Prop:=
 ∃ (T:List Nat) (g c:Nat),e=.returned (.slice (some g) N c)∧w'.ownsRow w.heap.size 3 1 (.slice (some g) N c) N (zax T)∧zbK T N Q∧Ext w w'
def mset (s:Sys) (x l:Nat):Nat:=if s.al.toNat.testBit l then zbT s.edges x (l:Int) else x
theorem mset_bit (hs:Sml s) (x l q':Nat):(mset s x l).testBit q'=true↔∃ q,x.testBit q=true∧q'∈cho s q l:=by
 unfold mset;split
 ·rename_i h;exact zhP hs h x q'
 ·rename_i h;constructor
  ·intro h1;exact⟨q',h1,by unfold cho;rw [if_neg h];simp⟩
  ·rintro ⟨q,h1,h2⟩;unfold cho at h2;rw [if_neg h] at h2;simp at h2;rw [h2];exact h1
theorem mset_lt (hs:Sml s) {x:Nat}(hx:x<65536) (l:Nat):mset s x l<65536:=by
 unfold mset;split
 ·exact zgX hs _ _
 ·exact hx
structure MvI (s:Sys) (p:Aut) (l N:Nat) (T:List Nat) (k:Nat) (O:List Nat):Prop where
 len:O.length=N
 lt:∀ x∈O,x<65536
 bit:∀ j q',zdZ O j q'↔∃ i q,i<k∧zdZ T i q∧q'∈cho s q l∧j=aGo p i l
theorem MvI.step (h:MvI s p l N T k O)(hs:Sml s)(hp:zj p=true)(hN:N=p.next.length)(hT:∀ x∈T,x<65536)(hk:k<N)(hl:l<6) :
  MvI s p l N T (k+1) (O.set (aGo p k l) (O.getD (aGo p k l) 0|||mset s (T.getD k 0) l)):=by
 have b:aGo p k l<O.length:=by rw [h.len,hN];exact zdV hp oM hl
 refine⟨by rw [fH];exact h.len,fun x a=>?_,fun j q'=>?_⟩
 ·rcases eX a with a|rfl
  ·exact h.lt x a
  ·exact eL (n:=16) (zcc h.lt _) (mset_lt hs (zcc hT _) _)
 ·rw [zdh b,h.bit,mset_bit hs];constructor
  ·rintro (⟨i,q,h1,h2,h3,h4⟩|⟨h1,q,h2,h3⟩)
   ·exact⟨i,q,oM,h2,h3,h4⟩
   ·exact⟨k,q,oM,h2,h3,h1⟩
  ·exact yE08a3
theorem MvI.zero (s:Sys) (p:Aut) (l N:Nat) (T:List Nat):MvI s p l N T 0 (dQ N 0):=by
 refine⟨sM,fun x hx=>by rw [iO] at hx;omega,fun j q'=>?_⟩;constructor
 ·intro h;unfold zdZ at h;rw [dH] at h;cases h1:(dQ N 0)[j]? with
  |none=>rw [h1] at h;simp at h
  |some x =>
   have:=dB h1;rw [iO] at this;rw [h1,this.2] at h;simp at h
 ·rintro ⟨_,_,h,_⟩;omega
theorem MvI.fin {B:Nat->Nat->Prop}(h:MvI s p l N T N O)(hT:zbK T N B):zbK O N (mvB s p l B):=by
 refine⟨h.len,h.lt,fun j q'=>?_⟩;rw [h.bit];constructor
 ·rintro ⟨i,q,h1,h2,h3,h4⟩;exact⟨q,i,(hT.2.2 i q).1 h2,h3,h4⟩
 ·rintro ⟨q,i,h2,h3,h4⟩;have a:=(hT.2.2 i q).2 h2;exact⟨i,q,by rw [← hT.1];exact zhT a,a,h3,h4⟩
def badT (p:Aut) (T:List Nat) (N:Nat):Bool:=(List.range N).any fun i=>T.getD i 0 != 0&&!zco p i
theorem zjC :badT p T N=true↔∃ i,i<N∧T.getD i 0≠0∧zco p i=false:=by
 unfold badT;rw [List.any_eq_true];constructor
 ·rintro ⟨i,h1,h2⟩;rw [iV] at h1;simp only [dG,bne_iff_ne,gH] at h2;exact⟨i,h1,h2.1,h2.2⟩
 ·rintro ⟨i,h1,h2,h3⟩;exact⟨i,List.mem_range.2 h1,by simp [h3];simpa using h2⟩
section
variable {w:World} {lo hi n c m d m' d' L:Nat} {A B B':Option Addr} {s:Sys} {p:Aut}
theorem spec_l9Start (hS:zP w lo hi A n s)(hP:zJ w lo hi B m B' m' p)(hv:zl s=true)(hp:zj p=true)(hL:L<64)(hhi:hi<=w.heap.size)(hN:N=p.next.length) :
  Calls Tryz.prog 144 #[.agg #[s.al,s.st,.slice A n c,p.al,.slice B m d,.slice B' m' d',L]] w (RetSt N (PR s p L []) w):=by
 have M:m=N:=hP.n1.trans hN.symm;subst M;have g:1<=m∧m<=12:=by have:=(zk hp).2.1;omega
 have F:=za (fun W (hW:Ext w W)=>hS.ext hW);have E:=za (fun W (hW:Ext w W)=>hP.ext hW);have D:=za hN;clear hS hP hN
 go_enter Tryz.func144,Tryz.ntmps144
 go_upto_region 1 with fail
 generalize U0:w.alloc _=l at *;obtain⟨a,r⟩:=gG U0;have H:=r.lt;clear U0;have C:=r.cell;go_upto_region 2 with (at_make;refine zch l l rfl _ _ 128 rfl 3 _ 1 8 Tryz.underlying128 zag _ _ m rfl rfl (cY _) oM lM ?_;intro w2 hx2 zkE hx23 hsz2)
 rw [madeZ] at zkE;have j:=(zkE.stored 0 (.int .i64 1)).1;rw [show (zax (dQ m 0)).set 0 (.int .i64 1)=zax ((dQ m 0).set 0 1) from (zhJ (i:=0) (v:=1) (R:=dQ m 0)).symm] at j;have J:=zkE.frozenAt 0;have I:=zdu zkE (show 0<m by omega);have f:=(a.trans hx2).setCell (p:=⟨l.heap.size,0,none⟩) a.size (.int .i64 1);have z:=(r.ext hx2).far (p:=⟨l.heap.size,0,none⟩) (by dsimp only;omega) (.int .i64 1);have G:(0:Int)<(m:Int):=oM;clear C;have C:=z.cell;have Q:=za (fun o (hT':zbK o m (fun q i=>q=0∧i=0))=>hT');have u:=F.out _ f;have t:=E.out _ f;have x:=ziz g.1;have O:=a.size;clear hx23;go_wp2_with fail
 refine (zhj (c:=c) (d:=d) (d':=d') u t hv hp hL D.out oM j x).mono ?_;rintro e S ⟨o,rfl,b,y,h⟩;go_wp2_with fail
 go_ret;exact⟨o,l.heap.size,m,rfl,zq b a.size,y,f.frm h (fun k hk e=>oM)⟩
theorem spec_l9Move {Q:Nat->Nat->Prop}(hS:zP w lo hi A n s)(hP:zJ w lo hi B m B' m' p)(hv:zl s=true)(hp:zj p=true)(hL:L<64)(hhi:hi<=w.heap.size)(hN:N=p.next.length)(hl:l<6)
  (zku:w.ownsRow b0 3 1 (.slice (some g0) N c0) N (zax T)) (hT:zbK T N Q) :
  Calls Tryz.prog 146 #[.agg #[s.al,s.st,.slice A n c,p.al,.slice B m d,.slice B' m' d',L],.slice (some g0) N c0,l] w (RetSt N (Cl s p L (mvB s p l Q)) w):=by
 have D:=zcD hv;obtain⟨aF,aG⟩:=zQ hv;obtain⟨al,C⟩:∃ al:Nat,Hid (s.al=al):=⟨s.al.toNat,by unfold Hid;omega⟩;have am:al<64:=oH C.out;have U:=za (show s.al.toNat=al by have:=C.out;omega);have aw:1<=N∧N<=12:=by have:=(zk hp).2.1;omega
 have HS:=za (fun W (hW:Ext w W)=>hS.ext hW);have HP:=za (fun W (hW:Ext w W)=>hP.ext hW);have J:=za hN;have HT:=za hT;have aI:=(zku.lt g0 rfl).2;clear hS hP hN hT
 go_enter Tryz.func146,Tryz.ntmps146
 go_upto_region 1 with fail
 generalize U0:w.alloc _=w1 at *;obtain⟨V,b1⟩:=gG U0;have aH:=b1.lt;clear U0;go_wp2_with (at_make;refine zch w1 w1 rfl _ _ 128 rfl 3 _ 1 8 Tryz.underlying128 zag _ _ N rfl rfl (cY _) oM lM ?_;intro w2 hx2 zkE hx23 hsz2)
 rw [madeZ] at zkE;have az:=V.size;have ap:=V.trans hx2;clear hx23;obtain⟨r,S⟩:∃ r,r=w1.heap.size:=⟨_,rfl⟩;rw [← S] at zkE ⊢;have aE:w.heap.size<r:=oM;clear S
 go_loopw [8] (fun iv wr=>∃ (i:Nat) (O:List Nat),iv=.int .i64 i∧i<=N∧Hid (MvI s p l N T i O)∧wr.ownsRow r 3 1 (.slice (some r) N N) N (zax O)∧Frm (fun k=>k=r) w2 wr) (fun iv _=>N - (intOf iv).toNat)
 case atStart=>exact⟨0,_,rfl,dF _,za (MvI.zero s p l N T),zkE,iN _ _⟩
 case round =>
  clear zkE;obtain⟨i,O,rfl,hi,hO,f,t⟩:=hrel;have h:Ext w wr:=ap.frm t (fun k hk e=>oM);have k1:=((b1.ext hx2).frm t oM).cell
  by_cases hlt:i<N
  ·have ay:(i:Int)<(N:Int):=oM;have cI:=zdu (zh zku h) hlt;obtain⟨x,hx⟩:∃ x,Hid (T.getD i 0=x):=⟨_,rfl⟩;have X:x<65536:=by rw [← hx.out];exact zcc HT.out.2.1 i
   rw [hx.out] at cI;have CB:∀ W,Ext wr W->∀ q,W.cell? ⟨w.heap.size,q,none⟩=#[Value.int .i64 al,.int .i64 s.st,.slice A n c,.int .i64 p.al,.slice B m d,.slice B' m' d',.int .i64 L][q]?:=fun W hW q=>by rw [(((b1.ext hx2).frm t oM).ext hW).cell,C.out]
   have CI:∀ W,Ext wr W->W.cell? ⟨g0,i,none⟩=some (.int .i64 (x:Nat)):=fun W hW=>hW.aa cI;obtain⟨j,hj⟩:∃ j,Hid (aGo p i l=j):=⟨_,rfl⟩;have an:j<N:=by rw [← hj.out,J.out];exact zdV hp (by rw [← J.out];exact hlt) hl
   have ax:(j:Int)<(N:Int):=oM;obtain⟨v,H⟩:∃ v,Hid (O.getD j 0=v):=⟨_,rfl⟩;obtain⟨y,hy⟩:∃ y,Hid (mset s x l=y):=⟨_,rfl⟩;obtain⟨u,hu⟩:∃ u,Hid (v|||y=u):=⟨_,rfl⟩;have aB:v<65536:=by rw [← H.out];exact zcc hO.out.lt j
   have aC:y<65536:=by rw [← hy.out];exact mset_lt D X l
   have ao:=zcr (a:=v) (b:=y) tM tM;rw [hu.out] at ao;have CJ:∀ W,Ext wr W->W.cell? ⟨r,j,none⟩=some (.int .i64 (v:Nat)):=fun W hW=>hW.aa (H.out ▸ zdu f an);have FJ:∀ W,Ext wr W->W.frozen? ⟨r,j,none⟩=false:=fun W hW=>(zh f hW).frozenAt j;have g:=hO.out.step D hp J.out HT.out.2.1 hlt hl;rw [hj.out,H.out,hx.out,hy.out,hu.out] at g;have o:=za g;have M:=za (fun W (hW:Ext wr W)=>((zh f hW).stored j (.int .i64 (u:Nat))).1);have aJ:=cY wr;clear g k1 cI;cases hb:al.testBit l
   ·have Hb:=za hb;have I:x=y:=by rw [← hy.out];unfold mset;rw [U.out,hb];rfl
    subst I;clear hb;go_wp2_with (first
     |(go_at_call 140;refine (zaz al l tM _ oM).mono ?_;rw [Hb.out];rintro e w' ⟨rfl,rfl⟩)
     |(go_at_call 222;refine (zej (HP.out _ h) hp (by rw [← J.out];exact hlt) hl).mono ?_;rw [hj.out];rintro e w4 ⟨rfl,E⟩))
    have z:=M.out w4 E;rw [← zhJ] at z;go_roundw
    case rel=>exact⟨i+1,O.set j u,gM,oM,o,z,(t.ext E).trans (dE _ r j _)⟩
    case measure=>simp [intOf];omega
   ·have Hb:=za hb;have I:Hid (zbT s.edges x (l:Int)=y):=by unfold Hid;rw [← hy.out];unfold mset;rw [U.out,hb];rfl
    clear hb;go_wp2_with (first
     |(go_at_call 140;refine (zaz al l tM _ oM).mono ?_;rw [Hb.out];rintro e w' ⟨rfl,rfl⟩)
     |(go_at_call 221;rw [← C.out];refine (zfX (c:=c) (k0:=s.st.toNat) (HS.out _ h) D.2.2.1 (oH D.2.1) tM).mono ?_;rw [I.out];rintro e w3 ⟨rfl,Y⟩;have Z:=h.trans Y)
     |(go_at_call 222;refine (zej (HP.out _ Z) hp (by rw [← J.out];exact hlt) hl).mono ?_;rw [hj.out];rintro e w4 ⟨rfl,E⟩;have F:=Y.trans E))
    have z:=M.out w4 F;rw [← zhJ] at z;go_roundw
    case rel=>exact⟨i+1,O.set j u,gM,oM,o,z,(t.ext F).trans (dE _ r j _)⟩
    case measure=>simp [intOf];omega
  ·obtain rfl:i=N:=oM;have au:=hO.out.fin HT.out;go_wp2_with fail
   refine (zhj (c:=c) (d:=d) (d':=d') (HS.out _ h) (HP.out _ h) hv hp hL J.out oM f au).mono ?_;rintro e w4 ⟨T',rfl,G,ak,R⟩;go_wp2_with fail
   go_ret;exact⟨T',r,i,rfl,zq G oM,ak,h.frm R (fun k hk e=>oM)⟩
end
noncomputable def zx (s:Sys) (p:Aut) (L:Nat) (t:ByteArray):Bool:=by
 classical exact inB t L&&decide (SafeW s p L (wl t))
theorem zeU {t:ByteArray}:zx s p L t=true↔inB t L=true∧SafeW s p L (wl t):=by
 unfold zx;simp
section
variable {w:World} {lo hi n c m d m' d' L:Nat} {A B B':Option Addr} {s:Sys} {p:Aut}
theorem spec_l9Bad (hP:zJ w lo hi B m B' m' p)(hp:zj p=true)(hN:N=p.next.length)
  (zku:w.ownsRow b0 3 1 (.slice (some g0) N c0) N (zax T)) :
  Calls Tryz.prog 145 #[.agg #[s.al,s.st,.slice A n c,p.al,.slice B m d,.slice B' m' d',L],.slice (some g0) N c0] w fun e w'=>e=.returned (.bool (badT p T N))∧Ext w w':=by
 have r:1<=N∧N<=12:=by have:=(zk hp).2.1;omega
 have k:m'=N:=by rw [hP.n2,(zk hp).2.2.1,hN]
 have v:=za (fun W (hW:Ext w W) q hq=>zdW (q:=q) (hP.ext hW) hq);obtain⟨u,U0⟩:∃ x,Hid (w.alloc (.cells #[s.al,s.st,.slice A n c,p.al,.slice B m d,.slice B' m' d',L] 96)=x):=⟨_,za rfl⟩;have b:Ext w u:=((cY _).alloc _).trans (Ext.eq_ U0.out);have y:=dU U0.out;subst k;clear hP hN
 go_enter Tryz.func145,Tryz.ntmps145
 go_upto_region 1 with fail
 rw [U0.out] at *;have E:=y.cell;go_wp2_with fail
 go_loop [5] (fun iv=>∃ i:Nat,iv=.int .i64 i∧i<=m'∧Hid (∀ j,j<i->T.getD j 0=0∨zco p j=true)) (fun iv=>m' - (intOf iv).toNat)
 case atStart=>exact⟨0,rfl,dF _,za (fun j h=>oM)⟩
 case round =>
  obtain⟨i,rfl,hi,a⟩:=hrel
  by_cases hlt:i<m'
  ·have t:(i:Int)<(m':Int):=oM;obtain⟨D,rfl,o⟩:=v.out u b i hlt;have z:=zdu (zh zku b) hlt;obtain⟨x,l⟩:∃ x,Hid (T.getD i 0=x):=⟨_,rfl⟩;rw [l.out] at z
   by_cases h0:x=0
   ·subst h0;go_wp2_with fail
    go_round
    case rel=>exact⟨i+1,gM,oM,za (fun j hj=>by
     rcases eF (eZ hj) with h1|rfl
     ·exact a.out j h1
     ·exact .inl l.out)⟩
    case measure=>simp [intOf];omega
   ·have C:((x:Int) != 0)=true:=by simp;omega
    cases zkv:zco p i
    ·have g:=za (show badT p T m'=true from zjC.2 ⟨i,hlt,by rw [l.out];exact h0,zkv⟩);rw [zkv] at o;clear zkv h0;go_wp2_with fail
     go_ret;exact⟨zm (by rw [g.out]),b⟩
    ·have f:=za zkv;rw [zkv] at o;clear zkv h0;go_wp2_with fail
     go_round
     case rel=>exact⟨i+1,gM,oM,za (fun j hj=>by
      rcases eF (eZ hj) with h1|rfl
      ·exact a.out j h1
      ·exact .inr f.out)⟩
     case measure=>simp [intOf];omega
  ·obtain rfl:i=m':=oM;have g:=za (show badT p T i=false by
    rw [eO];intro h;obtain⟨j,h1,h2,h3⟩:=zjC.1 h;rcases a.out j h1 with h4|h4
    ·exact h2 h4
    ·rw [h3] at h4;cases h4)
   go_wp2_with fail
   go_ret;exact⟨zm (by rw [g.out]),b⟩
theorem zfB (hS:zP w lo hi A n s)(hP:zJ w lo hi B m B' m' p)(hv:zl s=true)(hp:zj p=true)(hL:L<64) :
  Calls Tryz.prog 142 #[.agg #[s.al,s.st,.slice A n c,p.al,.slice B m d,.slice B' m' d',L]] w fun e w'=>e=.returned (.bool true)∧Ext w w':=by
 have j:=za (fun W (hW:Ext w W)=>zan (c:=c) (hS.ext hW));have i:=za (fun W (hW:Ext w W)=>zN _ _ _ _ d _ _ d' _ _ (hP.ext hW));rw [hv] at j;rw [hp] at i;have g:=za (show (decide ((0:Int)<=L∧(L:Int)<=63))=true by simp;omega);clear hS hP hv hp
 go_enter Tryz.func142,Tryz.ntmps142
 go_upto_region 1 with fail
 generalize U0:w.alloc _=o at *;obtain⟨a,k⟩:=gG U0;clear U0;have q:=k.cells;have l:=cY o;go_wp2_with (first
  |(go_at_call 199;refine (j.out _ a).mono (mQ fun r b=>?_))
  |(go_at_call 200;refine (i.out _ (a.trans b)).mono (mQ fun t h=>?_);have f:=b.trans h)
  |(go_at_call 139;refine (zX _ _).mono ?_;rw [g.out];rintro e u ⟨rfl,rfl⟩))
 go_ret;exact⟨rfl,a.trans f⟩
theorem zjD (h:zbK T N (PR s p L (v.take k))):badT p T N=true↔Bad s p L (v.take k):=zjC.trans (stand_bad h).symm
theorem zgC {t:ByteArray}(hS:zP w lo hi A n s)(hP:zJ w lo hi B m B' m' p)(hv:zl s=true)(hp:zj p=true)(hL:L<64)(hhi:hi<=w.heap.size)(ht:t.size<=9223372036854775807) :
  Calls Tryz.prog 75 #[.agg #[s.al,s.st,.slice A n c,p.al,.slice B m d,.slice B' m' d',L],t] w fun e w'=>e=.returned (.bool (zx s p L t))∧Ext w w':=by
 obtain⟨N,hN⟩:∃ N,Hid (N=p.next.length):=⟨_,rfl⟩;have HV:=za (fun W (hW:Ext w W)=>zfB (c:=c) (d:=d) (d':=d') (L:=L) (hS.ext hW) (hP.ext hW) hv hp hL);have X:=za (fun W (hW:Ext w W)=>spec_l9Start (c:=c) (d:=d) (d':=d') (L:=L) (N:=N) (hS.ext hW) (hP.ext hW) hv hp hL (dJ hhi hW.size) hN.out);have U:=za (fun (g0 D c0:Nat) (T:List Nat) W (hW:Ext w W) (ho:W.ownsRow D 3 1 (.slice (some g0) N c0) N (zax T))=>spec_l9Bad (A:=A) (n:=n) (c:=c) (d:=d) (d':=d') (L:=L) (s:=s) (hP.ext hW) hp hN.out ho);have HM:=za (fun (l g0 D c0:Nat) (T:List Nat) (Q:Nat->Nat->Prop) W (hW:Ext w W) (M:l<6) (ho:W.ownsRow D 3 1 (.slice (some g0) N c0) N (zax T)) (y:zbK T N Q)=>spec_l9Move (c:=c) (d:=d) (d':=d') (L:=L) (hS.ext hW) (hP.ext hW) hv hp hL (dJ hhi hW.size) hN.out M ho y);have a:Ext w (w.alloc (.cells #[s.al,s.st,.slice A n c,p.al,.slice B m d,.slice B' m' d',L] 96)):=(cY _).alloc _;have b1:=dX w 96 #[s.al,s.st,.slice A n c,p.al,.slice B m d,.slice B' m' d',L];clear hS hP;cases hin:inB t L
 ·have x:=za hin;have u:=za (show zx s p L t=false by rw [eO];intro h;have:=(zeU.1 h).1;rw [hin] at this;cases this);clear hin
  go_enter Tryz.func75,Tryz.ntmps75
  go_upto_region 1 with fail
  generalize w.alloc _=S at *;have CB:=b1.cells;have ag:=cY S;go_wp2_with (first
   |(go_at_call 142;refine (HV.out _ a).mono (mQ fun w2 q=>?_))
   |(go_at_call 143;refine (zaj ht oM).mono ?_;rw [x.out];rintro e w3 ⟨rfl,rfl⟩))
  go_ret;exact⟨zm (by rw [u.out]),a.trans q⟩
 ·have x:=za hin;have Z:=za (fun k hk=>zaL (zaM hin) (k:=k) hk);clear hin
  go_enter Tryz.func75,Tryz.ntmps75
  go_upto_region 1 with fail
  generalize w.alloc _=S at *;have CB:=b1.cells;have ag:=cY S;go_wp2_with (first
   |(go_at_call 142;refine (HV.out _ a).mono (mQ fun w2 q=>?_))
   |(go_at_call 143;refine (zaj ht oM).mono ?_;rw [x.out];rintro e w3 ⟨rfl,rfl⟩)
   |(go_at_call 144;refine (X.out _ (a.trans q)).mono ?_;rintro e w4 ⟨T,g,H,rfl,f,y,R⟩;have C:=q.trans R))
  go_loopw [5,6] (fun v iv wr=>∃ (k g D H:Nat) (T:List Nat),iv=.int .i64 k∧k<=t.size∧v=.slice (some g) N H∧wr.ownsRow D 3 1 (.slice (some g) N H) N (zax T)∧Hid (zbK T N (PR s p L ((wl t).take k)))∧Hid (∀ j,j<k->¬ Bad s p L ((wl t).take j))∧Ext S wr) (fun _ iv _=>t.size - (intOf iv).toNat)
  case atStart=>exact⟨0,g,_,H,T,rfl,dF _,rfl,f,za (by simpa using y),za (fun j h=>oM),C⟩
  case round =>
   clear f y q R C;obtain⟨k,g,D,H,T,rfl,hk,rfl,f,y,o,b⟩:=hrel
   by_cases hlt:k<t.size
   ·have ak:(k:Int)<(t.size:Int):=oM;obtain⟨l,M⟩:∃ l:Nat,Hid ((t[k].toNat:Int) - 97=l):=⟨t[k].toNat - 97,by unfold Hid;have:=Z.out k hlt;omega⟩;have ad:l<6:=by have:=M.out;have:=Z.out k hlt;omega
    have af:=za (show (wl t).take (k+1)=(wl t).take k++[l] by rw [dK,zdC hlt,eD,show t[k].toNat - 97=l by have:=M.out;have:=Z.out k hlt;omega]);cases hbad:badT p T N
    ·have i:=za hbad;have ae:=za (show ¬ Bad s p L ((wl t).take k) by rw [← zjD y.out,hbad];decide);clear hbad;go_wp2_with (first|(go_at_call 145;refine (U.out _ _ _ _ _ (a.trans b) f).mono ?_;rw [i.out];rintro e w5 ⟨rfl,z⟩;have r:=b.trans z))
     have I:=za (fun W (hW:Ext wr W)=>HM.out l g D H T _ W ((a.trans b).trans hW) ad (zh f hW) y.out);have V:=fun W (hW:Ext wr W)=>CB W (b.trans hW)
     go_region_held3 (fun W=>Ext wr W) (first|assumption|(refine e9 ?_;assumption)|(refine eI ?_ aM;assumption)|(refine eI ?_ aM;refine e9 ?_;assumption)) (first
      |(go_at_call 141;refine (zbE t k hlt _).mono ?_;rw [M.out];rintro e w6 ⟨rfl,rfl⟩)
      |(go_at_call 146;refine (I.out _ ?_).mono ?_;(first|assumption|(refine e9 ?_;assumption));rintro e w7 ⟨T7,g7,c7,rfl,F,E,au⟩))
     have O:Ext S w7:=b.trans aM;rw [← PR_snoc,← af.out] at E;have Y:=za E;clear E I V;go_wp2_with fail
     go_roundw
     case rel=>exact⟨k+1,g7,_,c7,T7,gM,oM,rfl,F,Y,za (fun j hj=>by
      rcases eF (eZ hj) with h1|rfl
      ·exact o.out j h1
      ·exact ae.out),O⟩
     case measure=>simp [intOf];omega
    ·have i:=za hbad;have u:=za (show zx s p L t=false by
      rw [eO];intro h;exact (zeU.1 h).2 k (by rw [zeK];omega) ((zjD y.out).1 hbad))
     clear hbad;go_wp2_with (first
      |(go_at_call 145;with_reducible refine (U.out _ _ _ _ _ (a.trans b) f).mono ?_;rw [i.out];rintro e w5 ⟨rfl,z⟩;have r:=b.trans z)
      |(go_at_call 145;refine (U.out _ _ _ _ _ (a.trans r) (zh f z)).mono ?_;rw [i.out];rintro e w6 ⟨rfl,G⟩))
     go_ret;exact⟨zm (by rw [u.out]),a.trans (r.trans G)⟩
   ·have J:k=t.size:=oM;have ar:(t.size:Int)<=(k:Int):=oM;have u:=za (show zx s p L t=!badT p T N by
     rw [Bool.eq_iff_iff,zeU,gH,← Bool.not_eq_true,zjD y.out];constructor
     ·intro h;exact h.2 k (by rw [zeK];omega)
     ·intro h;refine⟨x.out,fun j hj=>?_⟩;rw [zeK] at hj;rcases eF hj with h1|rfl
      ·exact o.out j oM
      ·rw [J] at h;exact h)
    clear J hlt hk;go_wp2_with (first
     |(go_at_call 145;refine (U.out _ _ _ _ _ (a.trans b) f).mono (mQ fun w6 G=>?_)))
    go_ret;exact⟨zm (by rw [u.out]),a.trans (b.trans G)⟩
end
def RetNumS (w:World) (e:Ending) (w':World):Prop:=∃ (n:Int) (ok:Bool),e=.returned (.tuple #[n,.bool ok])∧w=w'
theorem zez {s:ByteArray} (hs:s.size<=1000000) :
  Calls Tryz.prog 252 #[s] w (RetNumS w):=by
 by_cases h0:s.size=0
 ·have c:¬ 0<s.size:=oM
  go_enter Tryz.func252,Tryz.ntmps252
  go_wp2;go_ret2;exact⟨0,false,rfl,rfl⟩
 have c:0<s.size:=oM;cases hm:((s[0].toNat:Int)==45)
 ·have m:0<s.size:=c
  by_cases z0:s.size=0
  ·go_enter Tryz.func252,Tryz.ntmps252
   go_wp2;go_ret2;exact⟨0,false,rfl,rfl⟩
  have q:0<s.size:=oM;have f:((s.size:Int)==0)=false:=by rw [beq_eq_false_iff_ne];omega
  by_cases z2:17<s.size
  ·have a:(17:Int)<(s.size:Int):=oM
   go_enter Tryz.func252,Tryz.ntmps252
   go_wp2;go_ret2;exact⟨0,false,rfl,rfl⟩
  have a:(s.size:Int)<=17:=oM;cases z3:((s[0].toNat:Int)==48)
  ·go_enter Tryz.func252,Tryz.ntmps252
   go_wp2_with fail
   go_loop [5,6] (fun v i=>∃ (k:Nat) (n:Int),k<=s.size∧i=.int .i64 k∧v=.int .i64 n) (fun _ i=>s.size - (intOf i).toNat)
   case atStart=>exact⟨0,0,dF _,rfl,rfl⟩
   case round =>
    obtain⟨k,n,h,rfl,rfl⟩:=hrel
    by_cases hlt:k<s.size
    ·have g:=zcX s k hlt
     by_cases c0:(s[k].toNat:Int)<48
     ·go_wp2_with fail
      go_ret2;exact⟨0,false,rfl,rfl⟩
     ·by_cases c1:57<(s[k].toNat:Int)
      ·go_wp2_with fail
       go_ret2;exact⟨0,false,rfl,rfl⟩
      ·go_wp2_with fail
       go_round
       case rel=>exact⟨k+1,_,oM,gM,rfl⟩
       case measure=>simp [intOf];omega
    ·obtain rfl:k=s.size:=oM;go_wp2_with fail
     go_ret2;exact⟨_,true,rfl,rfl⟩
  ·by_cases z4:1<s.size
   ·have b:(1:Int)<(s.size:Int):=oM
    go_enter Tryz.func252,Tryz.ntmps252
    go_wp2;go_ret2;exact⟨0,false,rfl,rfl⟩
   ·have b:(s.size:Int)<=1:=oM
    go_enter Tryz.func252,Tryz.ntmps252
    go_wp2_with fail
    go_loop [5,6] (fun v i=>∃ (k:Nat) (n:Int),k<=s.size∧i=.int .i64 k∧v=.int .i64 n) (fun _ i=>s.size - (intOf i).toNat)
    case atStart=>exact⟨0,0,dF _,rfl,rfl⟩
    case round =>
     obtain⟨k,n,h,rfl,rfl⟩:=hrel
     by_cases hlt:k<s.size
     ·have g:=zcX s k hlt
      by_cases c0:(s[k].toNat:Int)<48
      ·go_wp2_with fail
       go_ret2;exact⟨0,false,rfl,rfl⟩
      ·by_cases c1:57<(s[k].toNat:Int)
       ·go_wp2_with fail
        go_ret2;exact⟨0,false,rfl,rfl⟩
       ·go_wp2_with fail
        go_round
        case rel=>exact⟨k+1,_,oM,gM,rfl⟩
        case measure=>simp [intOf];omega
     ·obtain rfl:k=s.size:=oM;go_wp2_with fail
      go_ret2;exact⟨_,true,rfl,rfl⟩
 ·obtain⟨y,o⟩:∃ y,s.extract 1 s.size=y:=⟨_,rfl⟩;have d:y.size=s.size - 1:=by rw [← o,ByteArray.size_extract];omega
  have p:y.size<=1000000:=oM;have j:=za d;clear d;have l:(1:Int)<=(s.size:Int):=oM
  by_cases z0:y.size=0
  ·go_enter Tryz.func252,Tryz.ntmps252
   go_wp2;go_ret2;exact⟨0,false,rfl,rfl⟩
  have q:0<y.size:=oM;have f:((y.size:Int)==0)=false:=by rw [beq_eq_false_iff_ne];omega
  by_cases z2:17<y.size
  ·have a:(17:Int)<(y.size:Int):=oM
   go_enter Tryz.func252,Tryz.ntmps252
   go_wp2;go_ret2;exact⟨0,false,rfl,rfl⟩
  have a:(y.size:Int)<=17:=oM;cases z3:((y[0].toNat:Int)==48)
  ·go_enter Tryz.func252,Tryz.ntmps252
   go_wp2_with fail
   go_loop [5,6] (fun v i=>∃ (k:Nat) (n:Int),k<=y.size∧i=.int .i64 k∧v=.int .i64 n) (fun _ i=>y.size - (intOf i).toNat)
   case atStart=>exact⟨0,0,dF _,rfl,rfl⟩
   case round =>
    obtain⟨k,n,h,rfl,rfl⟩:=hrel
    by_cases hlt:k<y.size
    ·have g:=zcX y k hlt
     by_cases c0:(y[k].toNat:Int)<48
     ·go_wp2_with fail
      go_ret2;exact⟨0,false,rfl,rfl⟩
     ·by_cases c1:57<(y[k].toNat:Int)
      ·go_wp2_with fail
       go_ret2;exact⟨0,false,rfl,rfl⟩
      ·go_wp2_with fail
       go_round
       case rel=>exact⟨k+1,_,oM,gM,rfl⟩
       case measure=>simp [intOf];omega
    ·obtain rfl:k=y.size:=oM;go_wp2_with fail
     go_ret2;exact⟨_,true,rfl,rfl⟩
  ·by_cases z4:1<y.size
   ·have b:(1:Int)<(y.size:Int):=oM
    go_enter Tryz.func252,Tryz.ntmps252
    go_wp2;go_ret2;exact⟨0,false,rfl,rfl⟩
   ·have b:(y.size:Int)<=1:=oM
    go_enter Tryz.func252,Tryz.ntmps252
    go_wp2;go_ret2;exact⟨0,false,rfl,rfl⟩
theorem zo:(Tryz.prog.info? 9).map (fun i=>(i.zero,i.size,i.bytes))=some (some (.string ⟨#[]⟩),1,16):=kM
def RetStrs (L N:Nat) (w:World) (e:Ending) (w':World):Prop:=∃ (A:Option Addr) (n c:Nat) (l:List ByteArray),e=.returned (.slice A n c)∧n=l.length∧w'.ownsRow w.heap.size 9 1 (.slice A n c) n (zS l)∧(∀ x∈l,x.size<=L)∧n<=N∧Ext w w'
theorem zcQ (x:ByteArray):∀ u∈(#[Value.string x]:Array Value).toList,u.oneCell'=true:=by simp [Value.oneCell']
theorem spec_l19Cut {s:ByteArray} (hs:s.size<=1000000) :
  Calls Tryz.prog 250 #[s,.int .u8 32] w (RetStrs s.size (s.size+1) w):=by
 go_enter Tryz.func250,Tryz.ntmps250
 go_wp2_with fail
 go_loopw [5,6,7] (fun v f i wr=>∃ (k m:Nat) (l:List ByteArray),k<=s.size+1∧i=.int .i64 k∧m<=k∧f=.int .i64 m∧l.length<=k∧wr.ownsRow w.heap.size 9 1 v l.length (zS l)∧Hid (∀ x∈l,x.size<=s.size)∧Ext w wr) (fun _ _ i _=>s.size+1 - (intOf i).toNat)
 case atStart=>exact⟨0,0,[],dF _,rfl,dD _,rfl,dD _,World.ownsRow_lit w #[] 0 (dD _) lM rfl,(fun x hx=>by cases hx),(cY _).alloc _⟩
 case round =>
  obtain⟨k,m,l,t,rfl,y,rfl,u,a,g,b⟩:=hrel
  by_cases hle:k<=s.size
  ·have o:(k:Int)<=(s.size:Int):=oM;have p:(m:Int)<=(k:Int):=oM;have j:=za (show (s.extract m k).size<=s.size by rw [ByteArray.size_extract];omega);have d:=za (show ∀ x∈l++[s.extract m k],x.size<=s.size from fun x hx=>by
    rcases List.mem_append.1 hx with h1|h1
    ·exact g.out x h1
    ·rw [List.mem_singleton.1 h1];exact j.out)
   by_cases he:k=s.size
   ·have h:((k:Int)==(s.size:Int))=true:=by simp [he]
    have q:=za he;clear he;go_wp2_with (at_builtin;refine zW w wr rfl _ _ _ rfl 9 _ 1 16 Tryz.underlying99 zo rfl dM u5 _ _ _ _ rfl rfl b a rfl (zcQ _) lM oM ?_;intro v' w1 hext1 zkD hg1 hat1)
    go_roundw
    case rel=>exact⟨k+1,k+1,l++[s.extract m k],oM,gM,oM,gM,by simp;omega,by simpa [zS] using zkD,d.out,aM⟩
    case measure=>simp [intOf];omega
   ·have h:((k:Int)==(s.size:Int))=false:=by rw [beq_eq_false_iff_ne];omega
    have n:k<s.size:=oM;have r:=zcX s k n;cases hc:((s[k].toNat:Int)==32)
    ·go_wp2_with fail
     go_roundw
     case rel=>exact⟨k+1,m,l,oM,gM,oM,rfl,oM,a,g,b⟩
     case measure=>simp [intOf];omega
    ·go_wp2_with (at_builtin;refine zW w wr rfl _ _ _ rfl 9 _ 1 16 Tryz.underlying99 zo rfl dM u5 _ _ _ _ rfl rfl b a rfl (zcQ _) lM oM ?_;intro v' w1 hext1 zkD hg1 hat1)
     go_roundw
     case rel=>exact⟨k+1,k+1,l++[s.extract m k],oM,gM,oM,gM,by simp;omega,by simpa [zS] using zkD,d.out,aM⟩
     case measure=>simp [intOf];omega
  ·obtain rfl:k=s.size+1:=oM;obtain⟨A,c,rfl⟩:=zi a;go_wp2_with fail
   go_ret;exact⟨A,_,c,l,rfl,rfl,a,g.out,oM,b⟩
def RetEdgeS (w:World) (e:Ending) (w':World):Prop:=∃ (x:Edg) (ok:Bool),e=.returned (.tuple #[.agg #[x.fr,x.le,x.ta],.bool ok])∧Ext w w'
theorem spec_l2Parse {s:ByteArray} (hs:s.size<=1000000) :
  Calls Tryz.prog 253 #[s] w (RetEdgeS w):=by
 go_enter Tryz.func253,Tryz.ntmps253
 go_wp2_with fail
 generalize U0:w.alloc _=r at *;have c:=Ext.al_ U0;have b:=dU U0;clear U0
 go_loop [4] (fun i=>∃ k:Nat,k<=s.size∧i=.int .i64 k) (fun i=>s.size - (intOf i).toNat)
 case atStart=>exact⟨0,dF _,rfl⟩
 case round =>
  obtain⟨k,x,rfl⟩:=hrel;have j:=b.cell;have t:=b.frozen
  by_cases hlt:k<s.size
  ·have u:=zcX s k hlt
   by_cases c0:(97:Int)<=(s[k].toNat:Int)
   ·by_cases c1:(s[k].toNat:Int)<=102
    ·have l:=za (show (s.extract 0 k).size<=1000000 by rw [ByteArray.size_extract];omega);have m:=za (show (s.extract (k+1) s.size).size<=1000000 by rw [ByteArray.size_extract];omega);have q:(k:Int)+1<=(s.size:Int):=oM;go_wp2_with fail
     refine (zez l.out).mono ?_;rintro e o ⟨g,n,rfl,rfl⟩;go_wp2_with fail
     refine (zez m.out).mono ?_;rintro e o ⟨h,d,rfl,rfl⟩;go_wp2_with fail
     refine (zbE s k hlt _).mono ?_;rintro e o ⟨rfl,rfl⟩;have f:∀ u0 u1 u2,Ext w (((r.setCell w.heap.size u0).setCell ⟨w.heap.size,1,none⟩ u1).setCell ⟨w.heap.size,2,none⟩ u2):=fun u0 u1 u2=>((c.setCell (dD _) u0).setCell (dD _) u1).setCell (dD _) u2;have a:=za f;clear f;cases n
     ·go_wp2_with fail
      exact bodyPost_ret (v:=.tuple #[.agg #[g,.int .i64 ((s[k].toNat:Int) - 97),h],.bool false]) (by simp [results,Tryz.results253,go_sem,j]) rfl ⟨⟨g,(s[k].toNat:Int) - 97,h⟩,false,rfl,a.out _ _ _⟩
     ·go_wp2_with fail
      exact bodyPost_ret (v:=.tuple #[.agg #[g,.int .i64 ((s[k].toNat:Int) - 97),h],.bool d]) (by simp [results,Tryz.results253,go_sem,j]) rfl ⟨⟨g,(s[k].toNat:Int) - 97,h⟩,d,rfl,a.out _ _ _⟩
    ·go_wp2_with fail
     go_round
     case rel=>exact⟨k+1,oM,gM⟩
     case measure=>simp [intOf];omega
   ·go_wp2_with fail
    go_round
    case rel=>exact⟨k+1,oM,gM⟩
    case measure=>simp [intOf];omega
  ·obtain rfl:k=s.size:=oM;go_wp2_with fail
   refine bodyPost_ret (v:=.tuple #[.agg #[(0:Int),(0:Int),(0:Int)],.bool false]) (by simp [results,Tryz.results253,go_sem,j]) rfl ⟨⟨0,0,0⟩,false,rfl,?_⟩;exact ((c.setCell (p:=⟨w.heap.size,0,none⟩) (dD _) _).setCell (p:=⟨w.heap.size,1,none⟩) (dD _) _).setCell (p:=⟨w.heap.size,2,none⟩) (dD _) _
def RetFmt (s:Sys) (w:World) (e:Ending) (w':World):Prop:=∃ t:ByteArray,e=.returned (.string t)∧(zl s=false->t.size=0)∧Ext w w'
theorem valid_al (h:zl s=true):∃ a:Nat,s.al=a∧a<64:=by
 simp only [zl,dG,decide_eq_true_eq] at h;exact⟨s.al.toNat,oM,oM⟩
theorem zgV (h:zP w lo hi A n s)(hn:n<=1000000) :
  Calls Tryz.prog 254 #[.agg #[s.al,s.st,.slice A n c]] w (RetFmt s w):=by
 have R:=za (fun W (hW:Ext w W)=>h.ext hW);clear h;cases h1:zl s
 ·have L:=za h1;clear h1
  go_enter Tryz.func254,Tryz.ntmps254
  go_wp2_with (go_at_call 199;refine (zan (R.out _ ((cY _).alloc _))).mono ?_;rw [L.out];rintro e Q ⟨rfl,M⟩)
  go_ret;exact⟨_,rfl,fun _=>rfl,((cY _).alloc _).trans M⟩
 ·obtain⟨p,hp,aw,ax,hf⟩:=zcB h1;obtain⟨a,ha,S⟩:=valid_al h1;have L:=za h1;have Hf:=za hf;have Hp:=za hp;have Ha:=za ha;clear h1 hf hp ha
  go_enter Tryz.func254,Tryz.ntmps254
  go_wp2_with fail
  refine (zan (R.out _ ((cY _).alloc _))).mono ?_;rw [L.out];rintro e Q ⟨rfl,M⟩;have b1:=zcu M;rw [Ha.out,Hp.out] at b1;have G:=((cY w).alloc _).trans M;have cb:=b1.cells;go_wp2_with fail
  refine tR (fun X=>Ext Q X) [] (Ord.of [0,1,4,5,2,3,6,7,8]) ?_;refine tQ ?_;refine zC fun K hK=>?_;go_simp;refine (zce S).mono ?_;rintro e w2 ⟨j,rfl,C,m⟩;have f:=((cY Q).drew).trans m;have q1:¬ 9223372036854775807<j.size+1:=oM;refine hK.out _ _ f ?_;refine pT ?_;refine tQ ?_;refine zC fun K hK=>?_;go_simp;refine (zey (n:=p) oM).mono ?_;rintro e w3 ⟨y,rfl,D,q⟩;have g:=f.trans q;have q2:¬ 9223372036854775807<j.size+1+y.size:=oM;refine hK.out _ _ g ?_;refine pT ?_;refine tQ ?_;refine zao ?_;obtain⟨O,z⟩:∃ O:ByteArray,O=j++{ data:=#[32] }++y:=⟨_,rfl⟩;have B:O.size<=20:=by rw [z,ByteArray.size_append,ByteArray.size_append];show j.size+1+y.size<=20;omega
  rw [← z];clear z q1 q2 C D m q f;have d:=g;go_wp2_with fail
  go_loopw [3,4] (fun v i wr=>∃ (k:Nat) (t:ByteArray),k<=n∧i=.int .i64 k∧v=.string t∧t.size<=20+20*k∧Ext Q wr) (fun _ i _=>n - (intOf i).toNat)
  case atStart=>exact⟨0,O,dF _,rfl,rfl,B,d⟩
  case round =>
   clear d g B;obtain⟨k,t,hk,rfl,rfl,ht,r⟩:=hrel;have aq:=cb wr r
   by_cases hlt:k<n
   ·obtain⟨b,o,x,rfl,_,_,V,c0,c1,c2⟩:=(R.out wr (G.trans r)).2.edge hlt;obtain⟨⟨f0,f1⟩,⟨g0,g1⟩,⟨t0,t1⟩⟩:=Hf.out x (dB V.out);obtain⟨u,E⟩:∃ u:Nat,x.fr=u:=⟨x.fr.toNat,oM⟩;obtain⟨v,F⟩:∃ v:Nat,x.ta=v:=⟨x.ta.toNat,oM⟩;rw [E] at c0 f0 f1;rw [F] at c2 t0 t1;clear E F;go_wp2_with fail
    generalize U0:wr.alloc _=wq at *;have Z:=Ext.al_ U0;have T:=dU U0;clear U0;have cq:=T.cells;have q0:¬ 9223372036854775807<t.size+1:=oM;refine tR (fun X=>Ext wq X) [] (Ord.of [0,1,2,3,6,7,10,11,4,5,8,9,12,13,14]) ?_;refine tQ ?_;refine zC fun K hK=>?_;go_simp;refine (zey (n:=u) oM).mono ?_;rintro e w2 ⟨j,rfl,C,m⟩;have H:=((cY wq).drew).trans m;have q1:¬ 9223372036854775807<t.size+1+j.size:=oM;refine hK.out _ _ H ?_;refine pT ?_;refine tQ ?_;refine zC fun K hK=>?_;go_simp;refine (zeA (l:=x.le) g0 g1).mono ?_;rintro e w3 ⟨y,rfl,D,q⟩;have I:=H.trans q;have q2:¬ 9223372036854775807<t.size+1+j.size+y.size:=oM;refine hK.out _ _ I ?_;refine pT ?_;refine tQ ?_;refine zC fun K hK=>?_;go_simp;refine (zey (n:=v) oM).mono ?_;rintro e w5 ⟨t5,rfl,ay,Y⟩;have J:=I.trans Y;have q3:¬ 9223372036854775807<t.size+1+j.size+y.size+t5.size:=oM;refine hK.out _ _ J ?_;refine pT ?_;refine tQ ?_;refine zao ?_;have U:(t++{ data:=#[32] }++j++y++t5).size<=20+20*(k+1):=by
     simp only [ByteArray.size_append];show t.size+1+j.size+y.size+t5.size<=_;omega
    clear q0 q1 q2 q3;go_wp2_with fail
    go_roundw
    case rel=>exact⟨k+1,_,oM,gM,rfl,U,(r.trans Z).trans J⟩
    case measure=>simp [intOf];omega
   ·obtain rfl:n=k:=oM;go_wp2_with fail
    go_ret;have hv:=L.out;exact⟨t,rfl,fun h=>absurd (hv.symm.trans h) dM,G.trans r⟩
def Good (s:Sys):Prop:=∃ a p:Nat,s.al=a∧a<64∧s.st=p∧1<=p∧p<=16∧Few p s.edges
def zbP (w:World) (R:Nat) (A:Option Addr) (n:Nat) (s:Sys):Prop:=
 n=s.edges.length∧n<=9223372036854775807∧(0<n->∃ (g o:Nat) (cs:Array Value),A=some ⟨g,o,none⟩∧R<g∧w.heap[g]?=some (.cells cs 152 (0,0))∧∀ j u,(zw s.edges)[j]?=some u->w.cell? ⟨g,o+j,none⟩=some u)
theorem zbP.at_ (h:zbP w R A n s):zP w (R+1) w.heap.size A n s:=by
 refine⟨h.1,by rw [zbn,← h.1],h.2.1,fun h0=>?_⟩;obtain⟨g,o,d,e,a,c,b⟩:=h.2.2 h0;exact⟨⟨g,o,none⟩,e,a,(Array.getElem?_eq_some_iff.1 c).1,fun j u hu=>by rw [zY];exact b j u hu⟩
theorem zbP.frm {S:Nat->Prop}    (h:zbP w R A n s)(hb:Frm S w w')(hS:∀ k,S k->R<k->∀ cs,w.heap[k]?≠some (.cells cs 152 (0,0))):zbP w' R A n s:=by
 refine⟨h.1,h.2.1,fun h0=>?_⟩;obtain⟨g,o,cs,e,c,b,f⟩:=h.2.2 h0;have a:=(Array.getElem?_eq_some_iff.1 b).1;have d:¬ S g:=fun hs=>hS g hs c cs b;exact⟨g,o,cs,e,c,(hb.block g a d).trans b,fun j u hu=>(World.cell?_of_block (w:=w) (hb.block g a d)).trans (f j u hu)⟩
theorem zbP.ext (h:zbP w R A n s)(hb:Ext w w'):zbP w' R A n s:=h.frm (S:=fun _=>False) hb (fun _ hk=>hk.elim)
theorem zbP.dr (h:zbP w R A n s)(hb:Dr R w w'):zbP w' R A n s:=h.frm hb (fun k hk hR=>oM)
theorem zbP.far (h:zbP w R A n s)(hB:Blk w Z t cs)(ht:t≠152)(hb:Frm (fun k=>k=Z) w w'):zbP w' R A n s:=h.frm hb (fun k hk _ cs' hh=>by
 subst hk
 unfold Blk at hB
 rw [hB] at hh
 injection hh with hh
 injection hh with _ h2
 exact ht h2)
theorem zbP.own (h:w.ownsRow base 152 3 (.slice A n c) n (zw s.edges))(hR:R<base):zbP w R A n s:=by
 have i:n=s.edges.length:=by have:=h.1;rw [zbn] at this;omega
 refine⟨i,(eA h).len,fun h0=>?_⟩;rcases h.2 with ⟨_,h1⟩|⟨g,b,a,k,l,f,_⟩
 ·omega
 ·have d:A=some ⟨g,0,none⟩:=by injection k
  subst d;exact⟨g,0,a,rfl,oM,f,fun j u hu=>by
   have:=h.cells (g:=g) rfl j u hu;rwa [zY] at this⟩
theorem zjX {e:TypeId}   (h:w.ownsRow base e size (.slice A n c) n xs):n<=c:=by
 rcases h.2 with ⟨a,i⟩|⟨g,b,d,a,_,_,f,_⟩
 ·omega
 ·injection a with _ _ h3
  omega
def RetG (R M L:Nat) (w:World) (e:Ending) (w':World):Prop:=
 ∃ (s:Sys) (A:Option Addr) (n c:Nat),e=.returned (.agg #[s.al,s.st,.slice A n c])∧zbP w' R A n s∧Good s∧(n<=L∧n<=c)∧Rd w' R M∧Dr R w w'
def RetA (R M L:Nat) (w:World) (e:Ending) (w':World):Prop:=
 ∃ (s:Sys) (A:Option Addr) (n c:Nat),e=.returned (.agg #[s.al,s.st,.slice A n c])∧zbP w' R A n s∧(n<=L∧n<=c)∧Rd w' R M∧Dr R w w'
structure Acc (w0 wB W:World) (R G M:Nat) (al st:Int) (v:Value) (es:List Edg):Prop where
 blk:Blk W G 38 #[al,st,v]
 own:W.ownsRow wB.heap.size 152 3 v es.length (zw es)
 rd:Rd W R M
 dr:Dr R w0 W
 fr:Frm (fun k=>k=R∨k=G) wB W
 hR:R<w0.heap.size
 hB:w0.heap.size<=wB.heap.size
 hG:w0.heap.size<=G
section
variable {w0 wB W W':World} {R G M N:Nat} {al st:Int} {v:Value} {es:List Edg}
theorem Acc.more (h:Acc w0 wB W R G M al st v es)(hM:M<=N):Acc w0 wB W R G N al st v es:={ h with rd:=h.rd.more hM }
theorem Acc.ext (h:Acc w0 wB W R G M al st v es)(hb:Ext W W'):Acc w0 wB W' R G M al st v es:=⟨h.blk.ext hb,zh h.own hb,h.rd.ext hb,h.dr.ext hb,h.fr.ext hb,h.hR,h.hB,h.hG⟩
theorem Acc.drawn (h:Acc w0 wB W R G M al st v es)(hb:Dr R W W')(hr:Rd W' R N):Acc w0 wB W' R G N al st v es:=
 ⟨h.blk.dr hb (by have:=h.hR;have:=h.hG;omega),zg h.own hb (fun b hv hS=>by have:=(h.own.lt b hv).1;have:=h.hR;have:=h.hB;omega),hr,h.dr.trans hb,h.fr.trans (hb.mono fun k _ hk=>Or.inl hk),h.hR,h.hB,h.hG⟩
theorem Acc.far (h:Acc w0 wB W R G M al st v es) (hv:v.ownBlock=some b):b≠G:=by
 rintro rfl;have a:=h.blk;rcases h.own.2 with ⟨rfl,_⟩|⟨g,c,d,rfl,_,i,_⟩
 ·simp [Value.ownBlock] at hv
 ·have f:g=b:=by simpa [Value.ownBlock] using hv
  subst f;unfold Blk at a;rw [i] at a;injection a with a
  injection a with _ ht
  exact absurd ht dM
theorem Acc.setAl (h:Acc w0 wB W R G M al st v es) (x:Int):Acc w0 wB (W.setCell G x) R G M x st v es:=
 ⟨by simpa using h.blk.ab 0 _,zg h.own (dE W G 0 _) (fun b hv hS=>h.far hv hS),h.rd.frm (dE W G 0 _) (fun k hk hS=>by have:=h.hR;have:=h.hG;omega),h.dr.ag h.hG _,h.fr.cell (Or.inr rfl) _,h.hR,h.hB,h.hG⟩
theorem Acc.setSt (h:Acc w0 wB W R G M al st v es) (x:Int):Acc w0 wB (W.setCell ⟨G,1,none⟩ x) R G M al x v es:=
 ⟨by simpa using h.blk.ab 1 _,zg h.own (dE W G 1 _) (fun b hv hS=>h.far hv hS),h.rd.frm (dE W G 1 _) (fun k hk hS=>by have:=h.hR;have:=h.hG;omega),h.dr.ag h.hG _,h.fr.cell (Or.inr rfl) _,h.hR,h.hB,h.hG⟩
theorem Acc.push (h:Acc w0 wB W R G M al st v es) (zku:W'.ownsRow wB.heap.size 152 3 (.slice (some g) (es.length+1) cap) (es.length+1) (zw es++[.int .i64 e.fr,.int .i64 e.le,.int .i64 e.ta]))
  (hg:W.grownBy W' v.ownBlock) (hat:v.ownBlock=some g∨g=W.heap.size+1) :
  Hid (W'.cell? ⟨G,2,none⟩=some v)∧W'.frozen? ⟨G,2,none⟩=false∧Acc w0 wB (W'.setCell ⟨G,2,none⟩ (.slice (some g) (es.length+1) cap)) R G M al st (.slice (some g) (es.length+1) cap) (es++[e]):=by
 have a:Blk W' G 38 #[.int .i64 al,.int .i64 st,v]:=(hg.block G h.blk.lt (fun e=>h.far e.symm rfl)).trans h.blk;have f:g≠G:=by
  rcases hat with h1|h1
  ·exact h.far h1
  ·have:=h.blk.lt;omega
 have c:Dr R w0 W':=h.dr.grown hg (fun k hk=>dJ h.hB (h.own.lt k hk).1);have i:Rd W' R M:=h.rd.frm (Frm.ae hg) (fun k hk hS=>by have:=(h.own.lt k hS).1;have:=h.hR;have:=h.hB;omega);have d:Frm (fun k=>k=R∨k=G) wB W':=
  ⟨hg.os.trans h.fr.os,hg.tape.trans h.fr.tape,hg.output.trans h.fr.output,dJ h.fr.size hg.size,
   fun k hk hn=>(hg.block k (Nat.lt_of_lt_of_le hk h.fr.size) (fun e=>by have:=(h.own.lt k e.symm).1;omega)).trans (h.fr.block k hk hn)⟩
 refine⟨a.cell 2,a.frozen 2,⟨by simpa using a.ab 2 _,?_,i.frm (dE W' G 2 _) (fun k hk hS=>by have:=h.hR;have:=h.hG;omega),c.ag h.hG _,d.cell (Or.inr rfl) _,h.hR,h.hB,h.hG⟩⟩;have:=zg zku (dE W' G 2 (.slice (some g) (es.length+1) cap)) (fun b hv hS=>by
  have:g=b:=by simpa [Value.ownBlock] using hv
  omega)
 rw [zcY];simpa [zw] using this
theorem Acc.reads (h:Acc w0 wB W R G M al st (.slice A n c) es):n=es.length∧zP W wB.heap.size W.heap.size A n ⟨al,st,es⟩:=by
 have a:n=es.length:=by
  rcases h.own.2 with ⟨b,j⟩|⟨g,f,i,b,_⟩
  ·injection b with _ h2 _;omega
  ·injection b
 have d:=h.own;rw [← a] at d;exact⟨a,a,eA d⟩
theorem Acc.form (h:Acc w0 wB W R G M al st v es):∃ A n c,v=.slice A n c:=by
 obtain⟨A,c,e⟩:=zi h.own;exact⟨A,_,c,e⟩
theorem Acc.old (h:Acc w0 wB W R G M al st v es)   (hx:Reads wB lo hi size A n xs)(h1:∀ k,lo<=k->k<hi->k≠R∧k≠G):Reads W lo hi size A n xs:=
 hx.frm h.fr (fun k a b hS=>by have:=h1 k a b;omega)
end
theorem zfe (W:World) (Z:Nat) (u0 u1 u2:Value):Frm (fun k=>k=Z) W (((W.setCell Z u0).setCell ⟨Z,1,none⟩ u1).setCell ⟨Z,2,none⟩ u2):=
 ((dE W Z 0 u0).trans (dE _ Z 1 u1)).trans (dE _ Z 2 u2)
theorem Acc.fin {M:Nat}    (h:Acc w0 wB W R G M al st (.slice A n c) es)(hZ:w0.heap.size<=Z)(hZ2:Z<wB.heap.size) (u0 u1 u2:Value) :
  zbP (((W.setCell Z u0).setCell ⟨Z,1,none⟩ u1).setCell ⟨Z,2,none⟩ u2) R A n ⟨al,st,es⟩ ∧
  Rd (((W.setCell Z u0).setCell ⟨Z,1,none⟩ u1).setCell ⟨Z,2,none⟩ u2) R M∧Dr R w0 (((W.setCell Z u0).setCell ⟨Z,1,none⟩ u1).setCell ⟨Z,2,none⟩ u2):=by
 have a:=zfe W Z u0 u1 u2;obtain⟨f,_⟩:=h.reads;have i:=h.hR;have g:=h.hB;have d:=h.own;rw [← f] at d;refine⟨zbP.own (s:=⟨al,st,es⟩) (zg d a (fun b hv hS=>by have:=(h.own.lt b hv).1;omega)) oM,h.rd.frm a (fun k h1 h2=>oM),?_⟩;exact ((h.dr.ag (p:=⟨Z,0,none⟩) hZ u0).ag (p:=⟨Z,1,none⟩) hZ u1).ag (p:=⟨Z,2,none⟩) hZ u2
theorem zhF {p:Nat}  (h:Few p es)(he:(0<=e.fr∧e.fr<p)∧(0<=e.le∧e.le<6)∧(0<=e.ta∧e.ta<p)):Few p (es++[e]):=fun x hx=>by
 rcases List.mem_append.1 hx with h1|h1
 ·exact h x h1
 ·rw [List.mem_singleton.1 h1];exact he
theorem few_nil (p:Nat):Few p []:=fun x hx=>by cases hx
theorem zeD {M p:Nat} {few:Int} (h:Rd w R M)(hM:M<=900000000)(ha:a<64)(hp1:1<=p)(hp:p<=16) :
  Calls Tryz.prog 236 #[.pointer (some R),a,p,few] w (RetG R (M+20000) 20000 w):=by
 have U:Sm a:=tM;have L:=h.lt
 go_enter Tryz.func236,Tryz.ntmps236
 go_wp2_with fail
 refine (zZ a U _).mono ?_;rintro e t ⟨B,d,rfl,G,z⟩;obtain⟨Y,V⟩:=zO z;have r:=(((cY w).alloc _).alloc _).trans z;have ap:=zD a 6;have F:=za (fun k (hk:k∈letters a 6)=>(zcI.1 hk).1);have s:=(eA G).more (lo':=w.heap.size+2) (hi':=t.heap.size) sM (dD _);have b:Acc w t t R (w.heap.size+1) M a p (.slice none 0 0) []:=⟨V,World.ownsRow_nil _ _ _ _,h.ext r,r.dr,iN _ _,L,r.size,oM⟩;have u:Blk t w.heap.size 38 #[.int .i64 0,.int .i64 0,.slice none 0 0]:=Y;clear G V z Y;generalize letters a 6=C at *;have ar:=r.size;go_wp2_with fail
 go_loopw [11] (fun i wr=>∃ k:Nat,k<=p∧i=.int .i64 k∧∃ (v:Value) (m:List Edg),Acc w t wr R (w.heap.size+1) (M+k*1000) a p v m∧m.length<=k*1000∧Hid (Few p m)) (fun i _=>p - (intOf i).toNat)
 case atStart=>exact⟨0,dF _,rfl,_,[],b.more (jM _ _),dF _,few_nil p⟩
 case round =>
  clear b;obtain⟨k,hk,rfl,v,m,b,q,f⟩:=hrel
  by_cases hlt:k<p
  ·go_wp2_with fail
   go_loopw [12] (fun i wr=>∃ j:Nat,j<=C.length∧i=.int .i64 j∧∃ (v:Value) (m:List Edg),Acc w t wr R (w.heap.size+1) (M+k*1000+j*100) a p v m∧m.length<=k*1000+j*100∧Hid (Few p m)) (fun i _=>C.length - (intOf i).toNat)
   case atStart=>exact⟨0,dF _,rfl,v,m,b.more (jM _ _),dJ q (jM _ _),f⟩
   case round =>
    clear b q f;obtain⟨j,hj,rfl,v,m,b,q,f⟩:=hrel
    by_cases hlj:j<C.length
    ·go_wp2_with fail
     go_loopw [13] (fun i wr=>∃ x:Nat,x<=p∧i=.int .i64 x∧∃ (v:Value) (m:List Edg),Acc w t wr R (w.heap.size+1) (M+k*1000+j*100+x) a p v m∧m.length<=k*1000+j*100+x∧Hid (Few p m)) (fun i _=>p - (intOf i).toNat)
     case atStart=>exact⟨0,dF _,rfl,v,m,b.more (jM _ _),dJ q (jM _ _),f⟩
     case round =>
      clear b q f;obtain⟨x,hx,rfl,v,m,b,q,f⟩:=hrel
      by_cases hlx:x<p
      ·go_wp2_with fail
       refine (zA b.rd oM).mono ?_;rintro e H ⟨y,rfl,_,_,T,Q⟩;have o:=b.drawn Q T;obtain⟨ad,l,rfl,_,O,hl,S⟩:=(o.old s oM).nat hlj;have ah:=F.out l (dB hl.out)
       by_cases hy:y=0
       ·subst hy;have cG:=fun W (hW:Ext H W)=>(o.blk.ext hW).cell;have cL:∀ W,Ext H W->W.cell? (ad.add j)=some (.int .i64 (l:Nat)):=fun W hW=>hW.aa S;have am:(0:Int)<=(j:Int):=oM;have an:(j:Int)<(C.length:Int):=oM;go_wp2_with fail
        refine tR (fun X=>Ext H X) [10,12] (Ord.of [0,1,2,3,4,5,6,7,8,9,10,11,12]) ?_;refine tQ ?_;refine zC fun K hK=>?_;go_simp;refine hK.out _ _ ((cY _).drew.alloc _) ?_;refine pT ?_;refine zT fun K hK=>?_;refine zaN t H.drew _ _ _ rfl 152 _ 3 24 Tryz.underlying36 zbo rfl dM v m.length (zw m) _ _ rfl rfl o.fr.size o.own rfl (by simp [Value.oneCell']) lM oM ?_;intro g cap w3 zkF hg3 hat3 hlt3;refine hK.out _ _ ?_;refine pT ?_;refine tQ ?_;obtain⟨h1,h2,h3⟩:=(o.ext ((cY _).drew)).push (e:=⟨k,l,x⟩) (W':=w3) zkF hg3 hat3;have al:=h1.out;refine zT fun K hK=>?_;go_simp;refine hK.out _ _ ?_;refine zao ?_;go_wp2_with fail
        go_roundw
        case rel=>exact⟨x+1,oM,gM,_,_,h3.more oM,by simp;omega,zhF f.out (by simp;omega)⟩
        case measure=>simp [intOf];omega
       ·have aq:((y:Int)==0)=false:=by simp;omega
        go_wp2_with fail
        go_roundw
        case rel=>exact⟨x+1,oM,gM,v,m,o.more oM,oM,f⟩
        case measure=>simp [intOf];omega
      ·obtain rfl:p=x:=oM;have I:m.length<=k*1000+(j+1)*100:=oM;have J:M+k*1000+j*100+p<=M+k*1000+(j+1)*100:=oM;go_wp2_with fail
       go_roundw
       case rel=>exact⟨j+1,oM,gM,v,m,b.more J,I,f⟩
       case measure=>simp [intOf];omega
    ·obtain rfl:j=C.length:=oM;have I:m.length<=(k+1)*1000:=oM;have J:M+k*1000+C.length*100<=M+(k+1)*1000:=oM;go_wp2_with fail
     go_roundw
     case rel=>exact⟨k+1,oM,gM,v,m,b.more J,I,f⟩
     case measure=>simp [intOf];omega
  ·obtain rfl:p=k:=oM;obtain⟨A,n,c,rfl⟩:=b.form;obtain⟨rfl,_⟩:=b.reads;have af:=zjX b.own;have cG:=b.blk.cell;have E:=u.frm b.fr oM;have cz:=E.cell;have au:=u.lt;have fz:=E.frozen;obtain⟨f1,f2,f3⟩:=b.fin (Z:=w.heap.size) (dD _) oM (.int .i64 a) (.int .i64 p) (.slice A m.length c);have D:=za (show RetG R (M+20000) 20000 w (.returned (.agg #[a,p,.slice A m.length c])) _ from ⟨⟨a,p,m⟩,A,m.length,c,rfl,f1,⟨a,p,rfl,ha,rfl,hp1,hp,f.out⟩,oM,f2.more oM,f3⟩);clear u s F f1 f2 f3;go_wp2_with fail
   exact bodyPost_ret (v:=.agg #[a,p,.slice A m.length c]) (by simp [results,Tryz.results236,go_sem,cz]) rfl D.out
theorem wpList_push2 {P:Program} (wb w:World) {ops:Array Oper} {rest:List Oper} {o:Oper} {a:Act} {Q:Exit->Act->World->Prop}(hgd:o.guard=none) (s x:Operand) (t:TypeId)
  (ho:o.op=.call { callee:=.builtin .append,args:=#[s,x],argTypes:=#[t,t] })
  (e:TypeId) (z:Value) (size bytes:Nat) (ht:P.underlying t=some (.slice e)) (hi:(P.info? e).map (fun i=>(i.zero,i.size,i.bytes))=some (some z,size,bytes)) (hzs:z.cells.size=size) (hsz:0<size)
  (v:Value) (n:Nat) (xs:List Value) (us:Array Value) (e':TypeId) (hs:a.eval s=v) (hx:a.eval x=.slice (some w.heap.size) 1 1)
  (zkw:wb.heap.size<=w.heap.size) (zku:w.ownsRow wb.heap.size e size v n xs) (hus:us.size=size) (h1:∀ u∈us.toList,u.oneCell'=true)
  (h63:n+1<=maxLen) (hbytes:(n+1)*bytes<=140737488355328)
  (h:∀ g cap w',w'.ownsRow wb.heap.size e size (.slice (some ⟨g,0,none⟩) (n+1) cap) (n+1) (xs++us.toList)->w.grownBy w' v.ownBlock->(v.ownBlock=some g∨g=w.heap.size+1)->g<w'.heap.size->wpList P ops Q rest (a.put o.dst (.slice (some ⟨g,0,none⟩) (n+1) cap)) w') :
  wpList P ops Q (o :: rest) a (w.alloc (.cells us e')):=
 wpList_plain hgd fun _ hK=>zaN wb w s x t ho e z size bytes ht hi hzs hsz v n xs us e' hs hx zkw zku hus h1 h63 hbytes fun g cap w' h2 h3 h4 h5=>hK _ _ (h g cap w' h2 h3 h4 h5)
theorem Reads.str {l:List ByteArray}(h:Reads w lo hi 1 A n (zS l))(hk:k<n):∃ ad x,A=some ad∧lo<=ad.block∧ad.block<hi∧Hid (l[k]?=some x)∧w.cell? (ad.add k)=some (.string x):=by
 obtain⟨ad,u,e,h1,h2,b,a⟩:=h.one hk;have:=b.out;simp only [zS,dP,Option.map_eq_some_iff] at this;obtain⟨x,c,rfl⟩:=this;exact⟨ad,x,e,h1,h2,c,a⟩
theorem valid_good (h:zl s=true):Good s:=by
 obtain⟨p,i,c,d,g⟩:=zcB h;obtain⟨a,f,b⟩:=valid_al h;exact⟨a,p,f,b,i,c,d,g⟩
theorem Acc.fillRD {M:Nat}  {v:Value} (h:Acc w0 wB W R G M al st v es)(hZ:w0.heap.size<=Z) (u0 u1 u2:Value) :
  Rd (((W.setCell Z u0).setCell ⟨Z,1,none⟩ u1).setCell ⟨Z,2,none⟩ u2) R M∧Dr R w0 (((W.setCell Z u0).setCell ⟨Z,1,none⟩ u1).setCell ⟨Z,2,none⟩ u2):=
 ⟨h.rd.frm (zfe W Z u0 u1 u2) (fun k h1 h2=>oH h.hR),((h.dr.ag (p:=⟨Z,0,none⟩) hZ u0).ag (p:=⟨Z,1,none⟩) hZ u1).ag (p:=⟨Z,2,none⟩) hZ u2⟩
theorem str_empty {t:ByteArray}(h:t.toList=x.toList)(h0:t.size=0):x.size=0:=by
 have h1:=congrArg List.length h;rw [ByteArray.toList_eq,ByteArray.toList_eq] at h1;have a:t.data.toList.length=t.size:=rfl;have b:x.data.toList.length=x.size:=rfl;omega
def Fair (s:Sys):Prop:=∃ a p:Nat,s.al=a∧a<64∧s.st=p∧p<=16∧Few (p+1) s.edges
theorem Good.fair (h:Good s):Fair s:=by
 obtain⟨a,p,h1,h2,h3,_,h5,b⟩:=h;exact⟨a,p,h1,h2,h3,h5,fun e he=>by have:=b e he;omega⟩
theorem fair_zero:Fair ⟨0,0,[]⟩:=⟨0,0,rfl,oM,rfl,oM,fun e he=>by cases he⟩
def zjx (R M L:Nat) (w:World) (e:Ending) (w':World):Prop:=
 ∃ (s:Sys) (A:Option Addr) (n c:Nat) (ok:Bool),e=.returned (.tuple #[.agg #[s.al,s.st,.slice A n c],.bool ok])∧zbP w' R A n s∧((ok=true->Good s)∧Fair s)∧(n<=L∧n<=c)∧Rd w' R M∧Dr R w w'
theorem zhN {M:Nat} (h:Rd w' R M)(hd:Dr R w w'):zjx R M L w (.returned (.tuple #[.agg #[(0:Int),(0:Int),()],.bool false])) w':=
 ⟨⟨0,0,[]⟩,none,0,0,false,rfl,⟨rfl,oM,fun h0=>oM⟩,⟨(fun h=>by cases h),fair_zero⟩,⟨dF _,dD _⟩,h,hd⟩
theorem yE08a1 {P:Prop}(h:P:=by
 obtain⟨g1,g2⟩:=hacc4.fillRD (Z:=w.heap.size) (Nat.le_refl _) (.int .i64 0) (.int .i64 0) (.slice none 0 0);exact bodyPost_ret (v:=.tuple #[.agg #[(0:Int),(0:Int),()],.bool false]) (by simp [results,Tryz.results191,go_sem,hz4]) rfl (zhN g1 g2)
 ):P:=h
theorem yE08a2 {P:Prop}(h:P:=by
 go_wp2_with fail
 exact bodyPost_ret (v:=.tuple #[.agg #[(0:Int),(0:Int),()],.bool false]) (by simp [results,Tryz.results191,go_sem,cz2]) rfl Hnone.out
 ):P:=h
theorem zdb {M:Nat}  (h:Rd w R M)(hx:x.size<=1000) :
  Calls Tryz.prog 191 #[x] w (zjx R M 1001 w):=by
 have aq:=h.lt
 go_enter Tryz.func191,Tryz.ntmps191
 go_wp2_with fail
 refine (spec_l19Cut (s:=x) oM).mono ?_;rintro e w1 ⟨B,m,d,l,rfl,ag,ak,af,hm,C⟩;have E:=zcu C;have a4:=E.lt;have G:=((cY w).alloc _).trans C;have V:=(eA ak).more (lo':=w.heap.size+1) (hi':=w1.heap.size) sM (dD _);have ab:=za af;have aO:=za ag;clear ak af ag C;have cz:=E.cell;have fz:=E.frozen;have z:=za (fun (W:World) (hW:Ext w1 W) (u0 u1 u2:Value)=>(⟨(h.ext (G.trans hW)).frm (zfe W w.heap.size u0 u1 u2) (fun k hk hS=>oM),(((G.trans hW).dr.ag (R:=R) (p:=⟨w.heap.size,0,none⟩) (dD _) u0).ag (p:=⟨w.heap.size,1,none⟩) (dD _) u1).ag (p:=⟨w.heap.size,2,none⟩) (dD _) u2⟩:Rd (((W.setCell w.heap.size u0).setCell ⟨w.heap.size,1,none⟩ u1).setCell ⟨w.heap.size,2,none⟩ u2) R M∧Dr R w (((W.setCell w.heap.size u0).setCell ⟨w.heap.size,1,none⟩ u1).setCell ⟨w.heap.size,2,none⟩ u2)))
 by_cases hm2:m<2
 ·go_wp2_with fail
  obtain⟨g1,g2⟩:=z.out w1 (cY _) (.int .i64 0) (.int .i64 0) (.slice none 0 0);exact bodyPost_ret (v:=.tuple #[.agg #[(0:Int),(0:Int),()],.bool false]) (by simp [results,Tryz.results191,go_sem,cz]) rfl (zhN g1 g2)
 ·obtain⟨ad,x0,rfl,a0,aX,a1,T⟩:=V.str (k:=0) oM;obtain⟨b,o,rfl⟩:∃ b o,ad=⟨b,o,none⟩:=⟨_,_,zdX T⟩;rw [zY,Nat.add_zero] at T;obtain⟨aP,x1,S,_,_,C,U⟩:=V.str (k:=1) oM;obtain rfl:=Option.some.inj S;rw [zY] at U;have aI:(2:Int)<=(m:Int):=oM;have ar:=za (ab.out x1 (dB C.out));go_wp2_with fail
  refine (zdO (x:=x0)).mono ?_;rintro e O ⟨a,aA,rfl,ha,u⟩;have ae:=u.aa U;have Q:=E.ext u;have cz2:=Q.cell;have ao:=Q.frozen;go_wp2_with fail
  refine (zez (s:=x1) (oH ar.out)).mono ?_;rintro e a6 ⟨y,aB,rfl,rfl⟩;obtain⟨g1,g2⟩:=z.out O u (.int .i64 0) (.int .i64 0) (.slice none 0 0);have Hnone:=za (zhN (L:=1001) g1 g2);clear g1 g2;cases aA
  ·exact yE08a2
  ·cases aB
   ·exact yE08a2
   ·have bG:=dX O 38 #[a,y,()];have Y:=(cY O).alloc (.cells #[a,y,()] 38);have a3:O.heap.size<(O.alloc (.cells #[a,y,()] 38)).heap.size:=sM;have aK:=u.size;have aJ:=G.size;have ax:=G.trans u;clear T U ae cz fz cz2 ao;go_wp2_with fail
    generalize O.alloc _=w3 at *;have X:=ax.trans Y;have ah:=(V.ext u).ext Y;have an:=Q.ext Y;have f:Acc w w3 w3 R O.heap.size M a y (.slice none 0 0) []:=⟨bG,World.ownsRow_nil _ _ _ _,h.ext X,X.dr,iN _ _,aq,X.size,oM⟩
    go_loopw [10] (fun i wr=>∃ (k:Nat) (v:Value) (t:List Edg),2<=k∧k<=m∧i=.int .i64 k∧Acc w w3 wr R O.heap.size M a y v t∧t.length<=k) (fun i _=>m - (intOf i).toNat)
    case atStart=>exact⟨2,_,[],dD _,oM,rfl,f,dF _⟩
    case round =>
     clear f;obtain⟨k,v,t,aZ,hk,rfl,f,aW⟩:=hrel;have hG:=f.blk.cell;have F:=an.frm f.fr oM;have H:=F.cell;have I:=F.frozen;have ai:=f.old ah oM
     by_cases hlt:k<m
     ·obtain⟨ad,xk,S,_,_,ay,av⟩:=ai.str hlt;obtain rfl:=Option.some.inj S;rw [zY] at av;have au:=za (ab.out xk (dB ay.out));clear H I;go_wp2_with fail
      refine (spec_l2Parse (s:=xk) (oH au.out)).mono ?_;rintro e w4 ⟨r,aC,rfl,D⟩;have hacc4:=f.ext (D.alloc (.cells #[r.fr,r.le,r.ta] 152));have aR:=dX w4 152 #[r.fr,r.le,r.ta];have j:=F.ext (D.alloc (.cells #[r.fr,r.le,r.ta] 152));clear hG;cases aC
      ·have hz4:=j.cell;have az:=j.frozen;go_wp2_with fail
       generalize w4.alloc _=wq at *;exact yE08a1
      ·have ap:=hacc4.blk.cell;go_wp2_with (at_builtin;refine wpList_push2 w3 (w4.alloc (.cells #[r.fr,r.le,r.ta] 152)) rfl _ _ _ rfl 152 _ 3 24 Tryz.underlying36 zbo rfl dM v t.length (zw t) _ _ rfl (by first|rfl|simp [go_sem]) hacc4.fr.size hacc4.own rfl (by simp [Value.oneCell']) lM oM ?_;intro g cap w5 zkG hg5 hat5 hlt5;obtain⟨h1,h2,h3⟩:=hacc4.push (e:=r) (W':=w5) zkG hg5 hat5;have aU:=h1.out)
       go_roundw
       case rel=>exact⟨k+1,_,_,oM,oM,gM,h3,by simp;omega⟩
       case measure=>simp [intOf];omega
     ·obtain rfl:m=k:=oM;obtain⟨A,n,c,rfl⟩:=f.form;obtain⟨rfl,aj⟩:=f.reads;clear H I;go_wp2_with fail
      refine (zgV (s:=⟨a,y,t⟩) aj oM).mono ?_;rintro e w4 ⟨tx,rfl,aw,D⟩;have hacc4:=f.ext D;have j:=F.ext D;have hz4:=j.cell;have az:=j.frozen;have ap:=hacc4.blk.cell;cases hne:tx.toList==x.toList
      ·go_wp2_with fail
       exact yE08a1
      ·have J:zl (⟨a,y,t⟩:Sys)=true:=by
        cases hv:zl (⟨a,y,t⟩:Sys)
        ·exfalso;have h0:=aw hv;have a2:x.size=0:=str_empty (by simpa using hne) h0;omega
        ·rfl
       have q:=valid_good J;have aH:=zjX hacc4.own;obtain⟨g1,g2,g3⟩:=hacc4.fin (Z:=w.heap.size) (dD _) oM (.int .i64 a) (.int .i64 y) (.slice A t.length c);have aa:=za (show zjx R M 1001 w (.returned (.tuple #[.agg #[a,y,.slice A t.length c],.bool true])) _ from ⟨⟨a,y,t⟩,A,t.length,c,true,rfl,g1,⟨fun _=>q,q.fair⟩,oM,g2,g3⟩);clear g1 g2 g3 q J;go_wp2_with fail
       exact bodyPost_ret (v:=.tuple #[.agg #[a,y,.slice A t.length c],.bool true]) (by simp [results,Tryz.results191,go_sem,hz4]) rfl aa.out
structure Tch (w:World) (A:Option Addr) (n:Nat) (B:Option Addr) (m:Nat) (B':Option Addr) (m':Nat) (s:Sys) (p:Aut) (L:Nat):Prop where
 at_:∃ lo hi,zP w lo hi A n s∧zJ w lo hi B m B' m' p∧hi<=w.heap.size
 sv:zl s=true
 pv:zj p=true
 lt:L<64
section
variable {w W:World} {n c m d m' d' L:Nat} {A B B':Option Addr} {s:Sys} {p:Aut}
theorem Tch.ext (h:Tch w A n B m B' m' s p L)(hx:Ext w W):Tch W A n B m B' m' s p L:=by
 obtain⟨b,a,h1,h2,h3⟩:=h.at_;exact⟨⟨b,a,h1.ext hx,h2.ext hx,dJ h3 hx.size⟩,h.sv,h.pv,h.lt⟩
theorem zbh (h:Tch w A n B m B' m' s p L) :
  Calls Tryz.prog 130 #[.agg #[.bool false,(0:Int),(),(),s.al,s.st,.slice A n c,p.al,.slice B m d,.slice B' m' d',L]] w fun e w'=>e=.returned (.int .i64 (L:Nat))∧Ext w w':=by
 obtain⟨o,l,h1,h2,h3⟩:=h.at_;have f:=za (fun W (hW:Ext w W)=>zfB (c:=c) (d:=d) (d':=d') (L:=L) (h1.ext hW) (h2.ext hW) h.sv h.pv h.lt);clear h h1 h2
 go_enter Tryz.func130,Tryz.ntmps130
 go_upto_region 1 with fail
 generalize U0:w.alloc _=j at *;obtain⟨a,g⟩:=gG U0;clear U0;have k:=g.cells;have i:=cY j;go_wp2_with (first
  |(go_at_call 142;refine (f.out _ a).mono (mQ fun q b=>?_)))
 go_ret;exact⟨rfl,a.trans b⟩
theorem zeW {t:ByteArray}(h:Tch w A n B m B' m' s p L)(ht:t.size<=9223372036854775807) :
  Calls Tryz.prog 211 #[.agg #[.bool false,(0:Int),(),(),s.al,s.st,.slice A n c,p.al,.slice B m d,.slice B' m' d',L],t] w fun e w'=>e=.returned (.bool (zx s p L t))∧Ext w w':=by
 obtain⟨o,l,h1,h2,h3⟩:=h.at_;have f:=za (fun W (hW:Ext w W)=>zgC (c:=c) (d:=d) (d':=d') (L:=L) (t:=t) (h1.ext hW) (h2.ext hW) h.sv h.pv h.lt (dJ h3 hW.size) ht);clear h h1 h2
 go_enter Tryz.func211,Tryz.ntmps211
 go_upto_region 1 with fail
 generalize U0:w.alloc _=j at *;obtain⟨a,g⟩:=gG U0;clear U0;have k:=g.cells;have i:=cY j;go_wp2_with (first
  |(go_at_call 75;refine (f.out _ a).mono (mQ fun q b=>?_)))
 go_ret;exact⟨rfl,a.trans b⟩
end
theorem str_loop (b:ByteArray):∀ (k:Nat) (i:Nat) (r:List UInt8),b.size - i=k->ByteArray.toList.loop b i r=r.reverse++b.data.toList.drop i:=by
 intro k
 induction k with
 |zero =>
  intro i r h;unfold ByteArray.toList.loop;rw [if_neg oM,List.drop_of_length_le (by rw [Array.length_toList];show b.size<=i;omega),List.append_nil]
 |succ k ih =>
  intro i r h;have a:i<b.size:=oM;unfold ByteArray.toList.loop;rw [if_pos a,ih (i+1) _ oM,List.drop_eq_getElem_cons (i:=i) (by rw [Array.length_toList];exact a),List.reverse_cons,iQ];have e:b.get! i=b.data.toList[i]'(by rw [Array.length_toList];exact a):=by
   rw [Array.getElem_toList];show b.data[i]! = _;exact getElem!_pos b.data i a
  rw [e];rfl
theorem str_data (b:ByteArray):b.toList=b.data.toList:=by
 unfold ByteArray.toList;rw [str_loop b _ 0 [] rfl];rfl
theorem str_ext (h:x.toList=y.toList):x=y:=by
 rw [str_data,str_data] at h;cases x;cases y
 congr 1
 exact Array.toList_inj.1 h
theorem str_ne (h:¬ x=y):(x.toList==y.toList)=false:=by
 rw [beq_eq_false_iff_ne];exact fun e=>h (str_ext e)
noncomputable def zdm (l:List ByteArray) (x:ByteArray):Bool:=by classical exact decide (x∈l)
theorem zaD {l:List ByteArray} :zdm l x=true↔x∈l:=by unfold zdm;simp
theorem zcH {l:List ByteArray} :zdm l x=false↔x∉l:=by rw [← Bool.not_eq_true,zaD]
theorem zei {l:List ByteArray} (h:Reads w lo hi 1 A n (zS l)) :
  Calls Tryz.prog 225 #[.slice A n c,x] w fun e w'=>e=.returned (.bool (zdm l x))∧w=w':=by
 have s:=h.len;have g:l.length=n:=by have:=h.length;rw [zbf] at this;omega
 have p:=za g;clear g
 go_enter Tryz.func225,Tryz.ntmps225
 go_wp2_with fail
 go_loop [5] (fun iv=>∃ i:Nat,iv=.int .i64 i∧i<=n∧Hid (∀ j,j<i->l[j]?≠some x)) (fun iv=>n - (intOf iv).toNat)
 case atStart=>exact⟨0,rfl,dF _,za (fun j h=>oM)⟩
 case round =>
  obtain⟨i,rfl,hi,a⟩:=hrel
  by_cases hlt:i<n
  ·have k:(i:Int)<(n:Int):=oM;obtain⟨q,y,rfl,_,_,m,r⟩:=h.str hlt
   by_cases he:y=x
   ·subst he;have d:=za (zaD.2 (dB m.out));go_wp2_with fail
    go_ret;exact⟨zm (by rw [d.out]),rfl⟩
   ·have o:=za he;have f:=str_ne he;clear he;go_wp2_with fail
    go_round
    case rel=>exact⟨i+1,gM,oM,za (fun j b=>by
     rcases eF (eZ b) with h1|rfl
     ·exact a.out j h1
     ·rw [m.out];intro h;exact o.out (Option.some.inj h))⟩
    case measure=>simp [intOf];omega
  ·obtain rfl:i=n:=oM;have d:=za (show zdm l x=false by
    rw [zcH];intro hx;obtain⟨j,b⟩:=dY hx;exact a.out j (by have:=(List.getElem?_eq_some_iff.1 b).1;have:=p.out;omega) b)
   go_wp2_with fail
   go_ret;exact⟨zm (by rw [d.out]),rfl⟩
def zbW (f:ByteArray->Bool) (cols:List ByteArray) (x:ByteArray):List Bool:=cols.map fun c=>f (x++c)
def mkB (b:Bool):ByteArray:=if b then ⟨#[43]⟩ else ⟨#[45]⟩
def mkS (bs:List Bool):ByteArray:=bs.foldl (fun o b=>o++mkB b) ByteArray.empty
theorem mkS_snoc (bs:List Bool) (b:Bool):mkS (bs++[b])=mkS bs++mkB b:=by simp [mkS]
theorem zgs:∀ (bs:List Bool),(mkS bs).data.toList=bs.map fun b=>if b then 43 else 45:=by
 have a:∀ (bs:List Bool) (o:ByteArray),(bs.foldl (fun o b=>o++mkB b) o).data.toList=o.data.toList++bs.map fun b=>if b then 43 else 45:=by
  intro bs
  induction bs with
  |nil=>intro o;simp
  |cons b r ih =>
   intro o;rw [List.foldl_cons,ih,ByteArray.data_append,Array.toList_append,iQ,List.map_cons];cases b<;>rfl
 intro bs;unfold mkS;rw [a];rfl
theorem zjU {α β:Type} {f:α->β}(hf:∀ x y,f x=f y->x=y):∀ {a b:List α},a.map f=b.map f->a=b
 |[],[],_=>rfl
 |[],_ :: _,h=>by simp at h
 |_ :: _,[],h=>by simp at h
 |x :: a,y :: b,h=>by
  simp only [List.map_cons,List.cons.injEq] at h
  rw [hf x y h.1,zjU hf h.2]
theorem mkS_inj {a b:List Bool}(h:mkS a=mkS b):a=b:=by
 have h1:(mkS a).data.toList=(mkS b).data.toList:=by rw [h]
 rw [zgs,zgs] at h1;exact zjU (fun x y=>by cases x<;>cases y<;>simp) h1
theorem mkS_size (bs:List Bool):(mkS bs).size=bs.length:=by
 have h:=congrArg List.length (zgs bs);rw [dW,Array.length_toList] at h;exact h
section
variable {w W:World} {n c m d m' d' L:Nat} {A B B':Option Addr} {s:Sys} {p:Aut}
theorem zfW (h:Tch w A n B m B' m' s p L)(hC:Reads w lo hi 1 C nc (zS cols))(hc:nc<=1000)(hx:x.size<=1000000)(hcs:∀ y∈cols,y.size<=1000000) :
  Calls Tryz.prog 134 #[.agg #[.bool false,(0:Int),(),(),s.al,s.st,.slice A n c,p.al,.slice B m d,.slice B' m' d',L],.slice C nc cc,x] w fun e w'=>e=.returned (.string (mkS (zbW (zx s p L) cols x)))∧Ext w w':=by
 have D:cols.length=nc:=by have:=hC.length;rw [zbf] at this;omega
 have O:=za (fun W (hW:Ext w W) (y:ByteArray) l=>zeW (c:=c) (d:=d) (d':=d') (t:=y) (h.ext hW) l);have M:=za (fun W (hW:Ext w W)=>hC.ext hW);have Q:=za D;have q:=za hcs;clear h hC D hcs
 go_enter Tryz.func134,Tryz.ntmps134
 go_upto_region 1 with fail
 generalize U0:w.alloc _=H at *;obtain⟨f,S⟩:=gG U0;clear U0;have I:=S.cells;go_wp2_with fail
 go_loopw [7,8] (fun v iv wr=>∃ (k:Nat) (o:ByteArray),iv=.int .i64 k∧k<=nc∧v=.string o∧o.size<=k∧Hid (o=mkS (zbW (zx s p L) (cols.take k) x))∧Ext H wr) (fun _ iv _=>nc - (intOf iv).toNat)
 case atStart=>exact⟨0,_,rfl,dF _,rfl,dM,za rfl,cY _⟩
 case round =>
  obtain⟨k,o,rfl,hk,rfl,T,F,a⟩:=hrel
  by_cases hlt:k<nc
  ·have E:(k:Int)<(nc:Int):=oM;obtain⟨R,y,rfl,_,_,l,z⟩:=(M.out wr (f.trans a)).str hlt;have Y:=q.out y (dB l.out);have CY:∀ W,Ext wr W->W.cell? (R.add k)=some (.string y):=fun W hW=>hW.aa z;have J:=fun W (hW:Ext wr W)=>I W (a.trans hW);have U:¬ 9223372036854775807<x.size+y.size:=oM;have G:¬ 9223372036854775807<o.size+1:=oM;have b:(x++y).size<=9223372036854775807:=by rw [ByteArray.size_append];omega
   have g:=za (fun W (hW:Ext wr W)=>O.out W ((f.trans a).trans hW) (x++y) b);have V:=cY wr;have i:=za (show mkS (zbW (zx s p L) (cols.take (k+1)) x)=o++mkB (zx s p L (x++y)) by
    rw [dK,l.out,zbW,eN,← zbW,F.out,eD,List.map_singleton,mkS_snoc])
   obtain⟨bv,r⟩:∃ bv,Hid (zx s p L (x++y)=bv):=⟨_,rfl⟩;rw [r.out] at g i;clear z b;go_wp2_with fail
   go_region_held3 (fun W=>Ext wr W) (first|assumption|(refine e9 ?_;assumption)|(refine eI ?_ aM;assumption)|(refine eI ?_ aM;refine e9 ?_;assumption)) (first
    |(go_at_call 211;refine (g.out _ ?_).mono ?_;(first|assumption|(refine e9 ?_;assumption));rintro e Z ⟨rfl,X⟩))
   have j:Ext H Z:=a.trans aM;cases bv
   all_goals
    go_wp2_with fail
    go_roundw
    case rel=>exact⟨k+1,_,gM,oM,rfl,by rw [ByteArray.size_append];show o.size+1<=k+1;omega,i.symm,j⟩
    case measure=>simp [intOf];omega
  ·obtain rfl:k=nc:=oM;have u:=za (show mkS (zbW (zx s p L) cols x)=o by rw [F.out,dI (oH Q.out)]);go_wp2_with fail
   go_ret;exact⟨by rw [u.out];rfl,f.trans a⟩
end
section
open Go.WideMaps Go.Maps
def zbu (T:List Nat):List Value:=T.map fun x=>.int .u16 (x:Nat)
theorem zcg (T:List Nat):(zbu T).length=T.length:=by simp [zbu]
def zhu (T:List Nat):Value:=.agg (zbu T).toArray
theorem pset_inj (h:zhu T=zhu U):T=U:=by
 unfold zhu zbu at h;injection h with h
 have h2:T.map (fun x=>Value.int .u16 (x:Nat))=U.map fun x=>Value.int .u16 (x:Nat):=by simpa using h
 exact zjU (fun a b e=>by injection e with _ e;exact Int.ofNat.inj e) h2
abbrev domP (T:List Nat):Prop:=T.length=12∧∀ x∈T,x<65536
theorem zjk:ArrKey Tryz.prog 249 247 12:=⟨Tryz.underlying249,kM,kM,kM⟩
theorem types_pos:(0:Nat)<(Tryz.prog).types.size:=of_decide_eq_true kM
theorem zjw:∃ m,(Tryz.prog).types.size=m+1:=⟨(Tryz.prog).types.size - 1,oH types_pos⟩
theorem zig {α β:Type} {f:α->Option β}:∀ (l:List α),(∀ i∈l,(f i).isSome=true)->(l.mapM f).isSome=true
 |[],_=>rfl
 |a :: r,h=>by
  obtain⟨y,hy⟩:=Option.isSome_iff_exists.1 (h a sM)
  obtain⟨ys,hys⟩:=Option.isSome_iff_exists.1 (zig r (fun i hi=>h i (by simp [hi])))
  rw [List.mapM_cons,hy,hys]
  rfl
noncomputable def litP (T:List Nat):Lit:=(keyOf Tryz.prog 249 (zhu T)).getD (.bool false)
theorem zeQ (h:domP T):(keyOf Tryz.prog 249 (zhu T)).isSome=true:=by
 obtain⟨h1,h2⟩:=h;have A:=zjk;obtain⟨m,f⟩:=zjw;have a:=A.keyType zjw;have b:(zbu T).toArray.size=12:=by simp [zbu,h1]
 unfold keyOf;simp only [A.hu];rw [if_pos (by simp [a,zhu,Value.formed,A.hu,A.size,zbu,h1]),f];unfold Program.keyLits;simp only [A.hu,zhu,Value.cells];rw [if_pos (by rw [A.size];simpa using b)];rw [Option.isSome_map,Option.isSome_map];refine zig _ fun i hi=>?_;rw [iV] at hi;obtain⟨x,c⟩:∃ x,T[i]?=some x:=⟨_,dC oM⟩;have j:=h2 x (dB c);have d:((zbu T).toArray.toList.drop (i*(Tryz.prog).cellsOf 247)).take ((Tryz.prog).cellsOf 247)=[.int .u16 (x:Nat)]:=by
  rw [A.one,Nat.mul_one];simp only [zbu];rw [List.take_one,List.head?_drop];simp [c]
 rw [d];cases m with
 |zero =>
  have h3:(1:Nat)<(Tryz.prog).types.size:=of_decide_eq_true kM;omega
 |succ m =>
 unfold Program.keyLits;have g:(Lit.int .u16 (x:Int)).wf=true:=by
  simp [Lit.wf,IntKind.min,IntKind.max,IntKind.bits,IntKind.signed];omega
 simp [Tryz.underlying247,g]
theorem keyP:KeyG 242 249 zhu litP domP:=
 ⟨Keyed.of_law zjk.law,Tryz.underlying242,fun h=>by
  obtain⟨l,hl⟩:=Option.isSome_iff_exists.1 (zeQ h);unfold litP;rw [hl];rfl,fun {x y} hx hy e=>by
  obtain⟨l,hl⟩:=Option.isSome_iff_exists.1 (zeQ hx);obtain⟨k,hk⟩:=Option.isSome_iff_exists.1 (zeQ hy);unfold litP at e;rw [hl,hk] at e;obtain rfl:l=k:=by simpa using e
  exact pset_inj ((Keyed.of_law zjk.law).inj hl hk)⟩
theorem keyS:KeyG 183 9 (fun x:ByteArray=>.string x) (fun x=>.string x.data.toList) (fun x=>x.size<=9223372036854775807):=
 ⟨string_keyed Tryz.underlying9,Tryz.underlying183,fun {x} h=>by simp [keyOf,Tryz.underlying9,mapKey,maxLen,h],fun _ _ e=>by
  injection e with e
  exact ByteArray.ext (Array.ext' e)⟩
end
theorem zdk (es:List Edg):∀ u∈zw es,u.oneCell'=true:=by
 induction es with
 |nil=>intro u h;cases h
 |cons e r ih =>
  intro u h;simp only [zw,List.mem_cons] at h;rcases h with rfl|rfl|rfl|h
  ·rfl
  ·rfl
  ·rfl
  ·exact ih u h
theorem zeu (h:es[k]?=some e) (x:Int) :
  (zw es).set (k*3) (.int .i64 x)=zw (es.set k ⟨x,e.le,e.ta⟩)∧(zw es).set (k*3+1) (.int .i64 x)=zw (es.set k ⟨e.fr,x,e.ta⟩)∧(zw es).set (k*3+2) (.int .i64 x)=zw (es.set k ⟨e.fr,e.le,x⟩):=by
 induction es generalizing k with
 |nil=>simp at h
 |cons a r ih =>
  cases k with
  |zero=>simp at h;subst h;exact⟨rfl,rfl,rfl⟩
  |succ k =>
   have:=ih (k:=k) (by simpa using h);have b:(k+1)*3=k*3+1+1+1:=oM;refine⟨?_,?_,?_⟩<;>rw [b]<;>simp only [zw,List.set_cons_succ]
   ·rw [this.1]
   ·rw [this.2.1]
   ·rw [this.2.2]
section
variable {w0 wB W:World} {R G M:Nat} {al st:Int} {es:List Edg}
theorem Acc.turn {m:Nat} {x:Int} {fs:List Edg}(h:Acc w0 wB W R G M al st (.slice (some g) m c) es)(hm:m=es.length)(hs:(zw es).set j (.int .i64 x)=zw fs)(hl:fs.length=es.length) :
  Acc w0 wB (W.setCell ⟨g,j,none⟩ x) R G M al st (.slice (some g) m c) fs:=by
 have d:g≠G:=h.far rfl;have l:=(h.own.lt g rfl).1;have i:=h.hR;have f:=h.hB;have a:=dE W g j (.int .i64 x);refine⟨h.blk.frm a oM,?_,h.rd.frm a (fun k h1 h2=>oM),h.dr.ag (by dsimp only;omega) _,?_,h.hR,h.hB,h.hG⟩
 ·have b:=h.own;rw [← hm] at b;have:=(b.stored j (.int .i64 x)).1;rw [hs] at this;rw [hl,← hm];exact this
 ·exact⟨h.fr.os,h.fr.tape,h.fr.output,by simpa [World.setCell] using h.fr.size,fun k hk hn=>(Below.heap_setCell _ _ _ _ (by dsimp only;omega)).trans (h.fr.block k hk hn)⟩
end
def RetStrL (w:World) (l:List ByteArray) (e:Ending) (w':World):Prop:=
 ∃ A c,e=.returned (.slice A l.length c)∧w'.ownsRow w.heap.size 9 1 (.slice A l.length c) l.length (zS l)∧Ext w w'
def zaJ (f:ByteArray->Bool) (cols words:List ByteArray):List ByteArray:=words.map fun x=>mkS (zbW f cols x)
theorem strs_snoc (l:List ByteArray) (x:ByteArray):zS (l++[x])=zS l++[.string x]:=by simp [zS]
section
variable {w W:World} {n c m d m' d' L:Nat} {A B B':Option Addr} {s:Sys} {p:Aut}
theorem zeY {R:Option Addr} {nr cr lo2 hi2:Nat} {rows:List ByteArray}(h:Tch w A n B m B' m' s p L)(hC:Reads w lo hi 1 C nc (zS cols))(hR:Reads w lo2 hi2 1 R nr (zS rows))(hc:nc<=1000)(hr:nr<=1000)(hcs:∀ y∈cols,y.size<=1000000)(hrs:∀ y∈rows,y.size<=1000000) :
  Calls Tryz.prog 132 #[.agg #[.bool false,(0:Int),(),(),s.al,s.st,.slice A n c,p.al,.slice B m d,.slice B' m' d',L],.slice C nc cc,.slice R nr cr] w (RetStrL w (zaJ (zx s p L) cols rows)):=by
 have I:rows.length=nr:=by have:=hR.length;rw [zbf] at this;omega
 have U:=za (fun W (hW:Ext w W) (y:ByteArray) l=>zfW (c:=c) (d:=d) (d':=d') (cc:=cc) (x:=y) (h.ext hW) (hC.ext hW) hc l hcs);have T:=za (fun W (hW:Ext w W)=>hR.ext hW);have F:=za I;have r:=za hrs;clear h hC hR I hrs hcs
 go_enter Tryz.func132,Tryz.ntmps132
 go_upto_region 1 with fail
 generalize U0:w.alloc _=o at *;obtain⟨g,Y⟩:=gG U0;clear U0;have Q:=Y.cells;go_wp2_with fail
 go_loopw [7,8] (fun v iv wr=>∃ k:Nat,iv=.int .i64 k∧k<=nr∧wr.ownsRow o.heap.size 9 1 v k (zS (zaJ (zx s p L) cols (rows.take k)))∧Ext o wr) (fun _ iv _=>nr - (intOf iv).toNat)
 case atStart=>exact⟨0,rfl,dF _,World.ownsRow_lit o #[] 0 (dD _) lM rfl,(cY _).alloc _⟩
 case round =>
  obtain⟨k,rfl,H,f,b⟩:=hrel
  by_cases hlt:k<nr
  ·have J:(k:Int)<(nr:Int):=oM;obtain⟨V,y,rfl,_,_,l,G⟩:=(T.out wr (g.trans b)).str hlt;have D:=r.out y (dB l.out);have CY:∀ W,Ext wr W->W.cell? (V.add k)=some (.string y):=fun W hW=>hW.aa G;have S:=fun W (hW:Ext wr W)=>Q W (b.trans hW);have q:=za (fun W (hW:Ext wr W)=>U.out W ((g.trans b).trans hW) y D);have j:=cY wr;have t:=za (show zS (zaJ (zx s p L) cols (rows.take (k+1)))=zS (zaJ (zx s p L) cols (rows.take k))++[.string (mkS (zbW (zx s p L) cols y))] by
    rw [dK,l.out,zaJ,eN,← zaJ,eD,List.map_singleton,strs_snoc])
   generalize mkS (zbW (zx s p L) cols y)=z at *;clear G;go_wp2_with fail
   refine uR (fun X=>Ext wr X) [9] (zv.of [0,1,2,3,4,5,6,7,8,9,10]) ?_;refine uQ ?_;refine ze fun K hK=>?_;go_simp;refine (q.out _ j.drew).mono (mQ fun M u=>?_);have a:Ext wr M:=j.drew.trans u;refine hK.out _ _ a ?_;refine pT ?_;refine uQ ?_;refine ze fun K hK=>?_;go_simp;refine hK.out _ _ (a.alloc _) ?_;refine pT ?_;refine zb fun K hK=>?_;refine zaN o M _ _ _ rfl 9 _ 1 16 Tryz.underlying99 zo rfl dM _ k (zS (zaJ (zx s p L) cols (rows.take k))) _ _ rfl rfl (b.trans a).size (zh f a) rfl (zcQ _) lM oM ?_;intro g8 cap8 w8 hown8 hg8 hat8 hlt8;refine hK.out _ _ ?_;refine pT ?_;refine uQ ?_;refine zf ?_;go_wp2_with fail
   go_roundw
   case rel=>exact⟨k+1,gM,oM,by rw [t.out];exact hown8,(b.trans a).grown hg8 (fun k H=>(f.lt k H).1)⟩
   case measure=>simp [intOf];omega
  ·obtain rfl:k=nr:=oM;obtain⟨O,Z,rfl⟩:=zi f;have E:=za (show (rows.take k)=rows from dI (oH F.out));rw [E.out] at f;have i:=za (show (zaJ (zx s p L) cols rows).length=k by rw [zaJ,dW];exact F.out);go_wp2_with fail
   go_ret;exact⟨O,Z,by rw [i.out];rfl,by rw [i.out];exact zq f g.size,g.trans b⟩
theorem zhg (h:Tch w A n B m B' m' s p L)(hx:x.size<=9223372036854775807) :
  Calls Tryz.prog 223 #[.agg #[.bool false,(0:Int),(),(),s.al,s.st,.slice A n c,p.al,.slice B m d,.slice B' m' d',L],x] w fun e w'=>e=.returned (.bool (inB x L&&decide (x.size<=4000)))∧Ext w w':=by
 have g:=za (fun W (hW:Ext w W)=>zbh (c:=c) (d:=d) (d':=d') (h.ext hW));have o:=h.lt;have a:Ext w (w.alloc (.cells #[.bool false,(0:Int),(),(),s.al,s.st,.slice A n c,p.al,.slice B m d,.slice B' m' d',L] 98)):=(cY _).alloc _;have i:=dX w 98 #[.bool false,(0:Int),(),(),s.al,s.st,.slice A n c,p.al,.slice B m d,.slice B' m' d',L];clear h;cases hin:inB x L
 all_goals
  have b:=za hin;clear hin
  go_enter Tryz.func223,Tryz.ntmps223
  go_upto_region 1 with fail
  generalize w.alloc _=k at *;have l:=i.cells;have j:=cY k;go_wp2_with (first
   |(go_at_call 130;refine (g.out _ a).mono (mQ fun q f=>?_))
   |(go_at_call 143;refine (zaj hx oM).mono ?_;rw [b.out];rintro e r ⟨rfl,rfl⟩))
  go_ret;exact⟨zm (by first|rfl|(rw [Bool.true_and,decide_eq_decide];omega)),a.trans f⟩
end
def zcp (l:Nat):ByteArray:=strOfNums [((97+l:Nat):Int)]
theorem zcU (l:Nat):(zcp l).size=1:=strOfNums_size _
structure zcn (L:Nat) (f:ByteArray->Bool) (rows cols:List ByteArray):Prop where
 r1:1<=rows.length
 r12:rows.length<=12
 c1:1<=cols.length
 c20:cols.length<=20
 r0:rows[0]?=some ⟨#[]⟩
 c0:cols[0]?=some ⟨#[]⟩
 rw_:∀ (i:Nat) (x:ByteArray),1<=i->rows[i]?=some x->inB x L=true∧∃ y l,l<6∧x=y++zcp l∧y∈rows.take i
 cw:∀ (i:Nat) (x:ByteArray),1<=i->cols[i]?=some x->inB x L=true∧x.size<=4000∧x∉cols.take i
 nd:(rows.map (zbW f cols)).Nodup
section
variable {L:Nat} {f:ByteArray->Bool} {rows cols:List ByteArray}
theorem inB_empty (L:Nat):inB ⟨#[]⟩ L=true:=by unfold inB zeM;rfl
theorem zcn.rsz (h:zcn L f rows cols):∀ (i:Nat) (x:ByteArray),rows[i]?=some x->x.size<=i:=by
 intro i
 induction i using Nat.strongRecOn with
 |ind i ih =>
  intro x hx;rcases gK i with rfl|c
  ·rw [h.r0] at hx;obtain rfl:=Option.some.inj hx;exact dD _
  ·obtain⟨-,y,l,g,rfl,d⟩:=h.rw_ i x c hx;obtain⟨j,b⟩:=dY d;have a:j<i:=by have:=(List.getElem?_eq_some_iff.1 b).1;rw [eV] at this;omega
   rw [List.getElem?_take_of_lt a] at b;have:=ih j a y b;rw [ByteArray.size_append,zcU l];omega
theorem zcn.rin (h:zcn L f rows cols) (hx:x∈rows):inB x L=true∧x.size<=12:=by
 obtain⟨i,a⟩:=dY hx;have c:=(List.getElem?_eq_some_iff.1 a).1;refine⟨?_,by have:=h.rsz i x a;have:=h.r12;omega⟩;rcases gK i with rfl|b
 ·rw [h.r0] at a;obtain rfl:=Option.some.inj a;exact inB_empty L
 ·exact (h.rw_ i x b a).1
theorem zcn.cin (h:zcn L f rows cols) (hx:x∈cols):inB x L=true∧x.size<=4000:=by
 obtain⟨i,a⟩:=dY hx;rcases gK i with rfl|b
 ·rw [h.c0] at a;obtain rfl:=Option.some.inj a;exact⟨inB_empty L,dM⟩
 ·exact⟨(h.cw i x b a).1,(h.cw i x b a).2.1⟩
theorem rowsM_nodup (h:zcn L f rows cols):(zaJ f cols rows).Nodup:=by
 have h1:=h.nd;unfold zaJ;have h2:rows.map (fun x=>mkS (zbW f cols x))=(rows.map (zbW f cols)).map mkS:=by rw [List.map_map];rfl
 rw [h2];exact List.pairwise_map.2 (h1.imp fun hne e=>hne (mkS_inj e))
end
end Go.Proofs.YtcfchopfijalpaaGreatDoor
