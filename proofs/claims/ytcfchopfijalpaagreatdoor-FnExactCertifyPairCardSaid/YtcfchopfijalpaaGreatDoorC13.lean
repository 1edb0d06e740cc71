/- Plain: the f -/
import Derived.Test.YtcfchopfijalpaaGreatDoorC11
import Derived.Test.YtcfchopfijalpaaGreatDoorC12
import Derived.Deep.MidRow
import Derived.Deep.WholeRow
import Derived.Deep.DeepCutAuto
import Derived.Deep.CutBlock
import Derived.Test.YtcfchopfijalpaaGreatDoorC10
import Derived.Test.YtcfchopfijalpaaGreatDoorC09
set_option maxHeartbeats 2000000
set_option maxRecDepth 100000
namespace Go.Proofs.YtcfchopfijalpaaGreatDoor
open Go Go.RowKit
theorem wl_wstr {v:List Nat}(h:∀ l∈v,l<6):wl (wstr v)=v:=by
 unfold wl wstr lbs
 rw [strOfNums_data,List.map_map,List.map_map]
 conv=>rhs;rw [← List.map_id v]
 refine List.map_congr_left fun l hl=>?_
 have hl6:=h l hl
 have key:∀ l,l<6→(UInt8.ofNat (97+l)).toNat - 97=l:=by decide
 have:=key l hl6
 show (UInt8.ofNat (((97+l:Nat):Int)).toNat).toNat - 97=l
 rw [Int.toNat_natCast]
 exact this
theorem vio_key {ss:List Sys} {a p:Aut}(hss:∀ s∈ss,zn s=true)(ha:zk a=true)(hp:zk p=true) {v:List Nat}(hv:∀ l∈v,l<6) :
  (∃ x,zbc (zbC ss a p) [0] v x∧zbs a p x=true)↔zeF ss a p v:=by
 have hsm:∀ s∈ss,zdB (zdk s):=fun s hs=>zdJ (zbQ (hss s hs))
 have hT:∀ m∈[zbf a,zbf p],zdB m:=by simp;exact⟨zbg ha,zbg hp⟩
 have hP:zB [zbf a,zbf p]=a.next.length*p.next.length:=by simp [zB,zag,zbf]
 have a1:=(zl ha).2.1
 have p1:=(zl hp).2.1
 have hgoal:∀ x,zbs a p x=zbs a p (x % zB [zbf a,zbf p]):=by
  intro x
  unfold zbs
  rw [hP,Nat.mod_mul_left_mod,Nat.mul_comm,Nat.mod_mul_right_div_self,Nat.mod_mod]
 rw [zcF]
 have h1:=zhv hT hv (fun y=>zbs a p y=true) hsm
 have h2:(∃ x,zbc (pnx (zaO ss [a,p])) [0] v x∧zbs a p x=true)↔(∃ x,zbc (pnx (ss.map zdk++[zbf a,zbf p])) [0] v x∧zbs a p (x % zB [zbf a,zbf p])=true):=by
  constructor
  ·rintro ⟨x,h,hg⟩;exact⟨x,h,by rw [← hgoal];exact hg⟩
  ·rintro ⟨x,h,hg⟩;exact⟨x,h,by rw [hgoal];exact hg⟩
 rw [h2,h1]
 unfold zeF
 refine and_congr_right fun _=>?_
 have hra:=zdI ha hv (q:=0) (by omega)
 have hrp:=zdI hp hv (q:=0) (by omega)
 have e1:(zaL a 0 v*p.next.length+zaL p 0 v) / p.next.length % a.next.length=zaL a 0 v:=by
  rw [Nat.mul_comm,Nat.mul_add_div (by omega),Nat.div_eq_of_lt hrp,Nat.add_zero,Nat.mod_eq_of_lt hra]
 have e2:(zaL a 0 v*p.next.length+zaL p 0 v) % p.next.length=zaL p 0 v:=by
  rw [Nat.mul_comm,Nat.mul_add_mod,Nat.mod_eq_of_lt hrp]
 constructor
 ·rintro ⟨y,hy,hg⟩
  rw [(zfY ha hp hv y).1 hy] at hg
  unfold zbs at hg
  rw [e1,e2] at hg
  simpa using hg
 ·intro hg
  refine⟨_,(zfY ha hp hv _).2 rfl,?_⟩
  unfold zbs
  rw [e1,e2]
  simpa using hg
def FstW (A:Nat) (B:List Nat→Prop) (v:List Nat):Prop:=Over A v∧B v∧∀ u,Over A u→zcj u<zcj v→¬ B u
theorem FstW.congr {A:Nat} {B C:List Nat→Prop} {v:List Nat}(h:FstW A B v)(he:∀ u,Over A u→(B u↔C u)):FstW A C v:=
 ⟨h.1,(he v h.1).1 h.2.1,fun u hu hlt hc=>h.2.2 u hu hlt ((he u hu).2 hc)⟩
theorem vioW_cases {ss:List Sys} {a p:Aut}(hss:∀ s∈ss,zn s=true)(ha:zk a=true)(hp:zk p=true) :
  (vioB ss a p=true∧∃ v,vioW ss a p=wstr v∧FstW (zD ss|||a.al.toNat) (zeF ss a p) v)∨(vioB ss a p=false∧vioW ss a p=wstr []∧∀ v,Over (zD ss|||a.al.toNat) v→¬ zeF ss a p v):=by
 have h6:∀ l∈letters (zD ss|||a.al.toNat) 6,l<6:=fun l hl=>(zz.1 hl).1
 by_cases hl:Lost (zbC ss a p) [0] (zbs a p) (letters (zD ss|||a.al.toNat) 6)
 ·obtain⟨e1,e2⟩:=zft hl
  refine .inr ⟨by unfold vioB;rw [e2];rfl,by unfold vioW;rw [e1],fun v hv hb=>?_⟩
  obtain⟨x,hx,hg⟩:=(vio_key hss ha hp (fun l hl=>(hv l hl).1)).2 hb
  have:=hl v (zfc.2 hv) x hx
  rw [hg] at this;cases this
 ·obtain⟨v,hf⟩:=zeh hl
  obtain⟨e1,e2⟩:=zen h6 hf
  obtain⟨f1,f2,f3⟩:=hf
  have hv:=zfc.1 f1
  refine .inl ⟨by unfold vioB;rw [e2];rfl,v,by unfold vioW;rw [e1],hv,(vio_key hss ha hp (fun l hl=>(hv l hl).1)).1 f2,fun u hu hlt hb=>?_⟩
  obtain⟨x,hx,hg⟩:=(vio_key hss ha hp (fun l hl=>(hu l hl).1)).2 hb
  have:=f3 u (zfc.2 hu) hlt x hx
  rw [hg] at this;cases this
theorem breaks_free {ss:List Sys} {p:Aut} {v:List Nat}:zeF ss free p v↔(∀ s∈ss,Runs s v)∧zcg p (zaL p 0 v)=false:=by
 unfold zeF
 rw [runA_free]
 exact⟨fun h=>⟨h.1,h.2.2⟩,fun h=>⟨h.1,rfl,h.2⟩⟩
theorem zhr {ss:List Sys} {p:Aut}(h:zbD ss p=true):zA ss=true∧zk p=true:=by
 unfold zbD zcd at h
 simp only [Bool.and_eq_true] at h
 exact h.1
theorem brok_first {ss:List Sys} {p:Aut}(h:zbD ss p=true):∃ v,zaf ss p=wstr v∧FstW (zD ss) (fun v=>(∀ s∈ss,Runs s v)∧zcg p (zaL p 0 v)=false) v:=by
 obtain⟨h1,h2⟩:=zhr h
 obtain⟨-,hv⟩:=zaK h1
 have hb:vioB ss free p=true:=by unfold zbD at h;simp only [Bool.and_eq_true] at h;exact h.2
 have hal:zD ss|||free.al.toNat=zD ss:=by rw [show free.al.toNat=0 from rfl,Nat.or_zero]
 rcases vioW_cases (a:=free) hv zcZ h2 with ⟨-,v,h3,h4⟩|⟨h3,-,-⟩
 ·rw [hal] at h4
  exact⟨v,by unfold zaf zcd;rw [h1,h2];exact h3,h4.congr fun u _=>breaks_free⟩
 ·rw [hb] at h3;cases h3
theorem brok_top {ss:List Sys} {p:Aut}(h:zbD ss p=true):topB ss (zaf ss p)=true∧breakB p (zaf ss p)=true:=by
 obtain⟨h1,h2⟩:=zhr h
 obtain⟨v,h3,h4,⟨h5,h6⟩,-⟩:=brok_first h
 have hwd:=(zcr h1 h2).1
 have hwl:wl (zaf ss p)=v:=by rw [h3];exact wl_wstr fun l hl=>(h4 l hl).1
 refine⟨top_iff.2 ⟨h1,hwd,by rw [hwl];exact h4,by rw [hwl];exact h5⟩,?_⟩
 unfold breakB
 rw [h2,hwd,hwl,h6]
 rfl
theorem judge_zero {s t:Sys} {p a:Aut} {L:Nat}(hs:zn s=true)(hp:zk p=true)(ht:zn t=true)(ha:zk a=true)(h:(zaU s p t L a).2=0):keepsU s a p=true∧zeg [t] a=true:=by
 unfold zaU at h
 split at h
 ·cases h
 ·rename_i h1
  split at h
  ·split at h<;>cases h
  ·rename_i h2
   refine⟨?_,?_⟩
   ·rw [underB_keeps,show zcC s a p=true by unfold zcC;rw [hs,ha,hp];rfl]
    simpa using h1
   ·rw [brokB_keeps,show zcd [t] a=true by unfold zcd;rw [ha,ziu (by simp) (by simp) (by simpa using ht)];rfl]
    simpa using h2
theorem zgC {x:Sys} {ts:List Sys} {p:Aut} {L:Nat} {w:ByteArray}(hL:L=(x.al.toNat|||p.al.toNat)&&&zD ts)(hpa:zA (x :: ts)=true)(hw:zaM w=true)(hu:Over (zD ts) (wl w))(hr:∀ t∈ts,Runs t (wl w))(hs:zt x p L (zby w L)=false):zeg (x :: ts) p=false:=by
 refine ziI hL hpa hu hr fun hsafe=>?_
 have h1:zt x p L (zby w L)=true:=by
  rw [zdK]
  refine⟨zds hw L,?_⟩
  rw [wl_restB hw]
  exact hsafe
 rw [hs] at h1
 cases h1
theorem judge_one {s t:Sys} {p a:Aut} {L:Nat}(hL:L=(s.al.toNat|||p.al.toNat)&&&t.al.toNat)(hs:zn s=true)(ht:zn t=true)(h:(zaU s p t L a).2=1):zeg [s,t] p=false:=by
 unfold zaU at h
 split at h
 ·cases h
 ·split at h
  ·rename_i h2
   split at h
   ·cases h
   ·rename_i h3
    obtain⟨k1,-⟩:=brok_top h2
    obtain⟨-,k2,k3,k4⟩:=top_iff.1 k1
    exact zgC (L:=L) (by rw [hL];simp [zD]) (ziu (by simp) (by simp) (by simp [hs,ht])) k2 k3 k4 (by simpa using h3)
  ·cases h
theorem bits_one:∀ (l:List (List Bool)),l.Nodup→(∀ x∈l,x.length=1)→l.length≤2:=by
 intro l hn hl
 have h:l ⊆ [[true],[false]]:=by
  intro x hx
  have:=hl x hx
  match x,this with
  |[true],_=>simp
  |[false],_=>simp
 simpa using List.Nodup.length_le_of_subset hn h
section
variable {L:Nat} {f:ByteArray→Bool} {rows cols:List ByteArray}
theorem rows_few (h:zbz L f rows cols)(hc:cols.length=1):rows.length≤2:=by
 have:=bits_one _ h.nd (fun x hx=>by
  obtain⟨y,-,rfl⟩:=List.mem_map.1 hx
  unfold zbq
  rw [List.length_map];exact hc)
 simpa using this
theorem closeT_long:∀ (k:Nat) (rows:List ByteArray),zbz L f rows cols→rows.length+k≤12→zZ L f cols k rows=none→∃ rows',zbz L f rows' cols∧rows'.length=rows.length+k∧zav L f rows' cols≠none:=by
 intro k
 induction k with
 |zero =>
  intro rows h _ hn
  refine⟨rows,h,rfl,fun ho=>?_⟩
  rw [zbT 0 ho] at hn;cases hn
 |succ k ih =>
  intro rows h hk hn
  cases ho:zav L f rows cols with
  |none=>rw [zbT _ ho] at hn;cases hn
  |some z =>
   rw [zcs k ho] at hn
   have h2:=h.grow (by omega) ho
   obtain⟨r,h3,h4,h5⟩:=ih _ h2 (by simp;omega) hn
   exact⟨r,h3,by rw [h4];simp;omega,h5⟩
theorem newT_some (L:Nat) (f:ByteArray→Bool):∃ r,zZ L f [⟨#[]⟩] 11 [⟨#[]⟩]=some r:=by
 cases h:zZ L f [⟨#[]⟩] 11 [⟨#[]⟩] with
 |some r=>exact⟨r,rfl⟩
 |none =>
  obtain⟨r,h1,h2,-⟩:=closeT_long 11 _ (zbz.first L f) (by decide) h
  have:=rows_few h1 rfl
  rw [h2] at this
  simp at this
end
structure VdOk (s t:Sys) (p:Aut) (L:Nat) (v:Vd):Prop where
 code:v.code=0∨v.code=1∨v.code=2
 holds:v.code=0→zk v.asm=true∧v.asm.al=(L:Int)∧keepsU s v.asm p=true∧zeg [t] v.asm=true∧v.ro≤v.asm.next.length
 none_:v.code≠0→v.asm=noA
 fails:v.code=1→zeg [s,t] p=false∧v.tr=zaf [s,t] p
 quiet:v.code≠1→v.tr=⟨#[]⟩
 ro:1≤v.ro∧v.ro≤12
structure LnOk (L:Nat) (f:ByteArray→Bool) (k:Nat) (o:Option (List ByteArray × List ByteArray)):Prop where
 tab:zeJ L f o
 more:∀ rs cs,o=some (rs,cs)→k<rs.length
 none_:o=none→1≤k∧k≤12
theorem LnOk.start (L:Nat) (f:ByteArray→Bool):LnOk L f 0 ((zZ L f [⟨#[]⟩] 11 [⟨#[]⟩]).map fun r=>(r,[⟨#[]⟩])):=by
 refine⟨zeJ.new L f,fun rs cs e=>((zeJ.new L f) rs cs e).1.r1,fun h=>?_⟩
 obtain⟨r,hr⟩:=newT_some L f
 rw [hr] at h
 cases h
theorem LnOk.learn {L k:Nat} {f:ByteArray→Bool} {rs cs:List ByteArray}(h:LnOk L f k (some (rs,cs))) (x:ByteArray):LnOk L f (k+1) (zaV L f rs cs x):=by
 obtain⟨h1,h2⟩:=h.tab rs cs rfl
 have h3:=h.more rs cs rfl
 refine⟨zeJ.learn h1 x,fun r c e=>?_,fun _=>⟨by omega,by have:=h1.r12;omega⟩⟩
 have:=(learnT_more h1 h2 e).1
 omega
theorem runT_ok {s t:Sys} {p:Aut} {L:Nat}(hs:zn s=true)(hp:zk p=true)(ht:zn t=true)(hL:L=(s.al.toNat|||p.al.toNat)&&&t.al.toNat)(h64:L<64) :
  ∀ (g k:Nat) (o:Option (List ByteArray × List ByteArray)),LnOk L (zt s p L) k o→12≤g+k→VdOk s t p L (runT s t p L g k o):=by
 have hz:∀ k,1≤k∧k≤12→VdOk s t p L ⟨2,noA,⟨#[]⟩,k⟩:=fun k hk=>⟨.inr (.inr rfl),(fun h=>by cases h),fun _=>rfl,(fun h=>by cases h),fun _=>rfl,hk⟩
 intro g
 induction g with
 |zero =>
  intro k o ho hg
  rw [runT]
  cases o with
  |none=>exact hz k (ho.none_ rfl)
  |some tab =>
   have h1:=(ho.tab tab.1 tab.2 rfl).1.r12
   have h2:=ho.more tab.1 tab.2 rfl
   omega
 |succ g ih =>
  intro k o ho hg
  cases o with
  |none=>rw [runT];exact hz k (ho.none_ rfl)
  |some tab =>
   obtain⟨rs,cs⟩:=tab
   obtain⟨hI,hop⟩:=ho.tab rs cs rfl
   have hk:=ho.more rs cs rfl
   have h12:=hI.r12
   have ha:=zcq hI hop h64
   rw [runT]
   split
   ·rename_i hj
    obtain⟨j1,j2⟩:=judge_zero hs hp ht ha hj
    refine⟨.inl rfl,fun _=>⟨ha,rfl,j1,j2,?_⟩,fun h=>absurd rfl h,(fun h=>by cases h),fun _=>rfl,⟨by show 1≤k+1;omega,by show k+1≤12;omega⟩⟩
    show k+1≤(rs.map _).length
    rw [List.length_map];omega
   ·split
    ·rename_i hj
     exact⟨.inr (.inl rfl),(fun h=>by cases h),fun _=>rfl,fun _=>⟨judge_one hL hs ht hj,rfl⟩,fun h=>absurd rfl h,⟨by show 1≤k+1;omega,by show k+1≤12;omega⟩⟩
    ·exact ih _ _ (ho.learn _) (by omega)
theorem vpT_ok {s t:Sys} {p:Aut} {L:Nat}(h:iface s p t=(L:Int)):VdOk s t p L (vpT s t p):=by
 obtain⟨v1,v2,v3⟩:=zbi (s:=s) (p:=p) (t:=t) (by omega)
 have hL:L=(s.al.toNat|||p.al.toNat)&&&t.al.toNat:=by
  have:=zeT v1 v2 v3
  rw [h] at this
  exact Int.ofNat.inj this
 have h64:L<64:=by
  rw [hL]
  have:=zN v3
  exact Nat.lt_of_le_of_lt Nat.and_le_right (by omega)
 rw [zgU h]
 exact runT_ok v1 v2 v3 hL h64 12 0 _ (LnOk.start _ _) (by omega)
theorem find_adj (a:Nat→Bool) (n:Nat):(List.range n).find? (fun k=>a k != a (k+1))=(List.range n).find? (fun k=>a (k+1) != a 0):=by
 by_cases h:∃ k,k<n∧a (k+1)≠a 0
 ·have hm:∃ k,(k<n∧a (k+1)≠a 0)∧∀ j,j<k→a (j+1)=a 0:=by
   have key:∀ m k,k≤m→k<n→a (k+1)≠a 0→∃ k,(k<n∧a (k+1)≠a 0)∧∀ j,j<k→a (j+1)=a 0:=by
    intro m
    induction m with
    |zero =>
     intro k hk hn hne
     obtain rfl:k=0:=by omega
     exact⟨0,⟨hn,hne⟩,fun j hj=>by omega⟩
    |succ m ih =>
     intro k hk hn hne
     by_cases hj:∃ j,j<k∧a (j+1)≠a 0
     ·obtain⟨j,h1,h2⟩:=hj
      exact ih j (by omega) (by omega) h2
     ·exact⟨k,⟨hn,hne⟩,fun j hjk=>Classical.not_not.1 fun h=>hj ⟨j,hjk,h⟩⟩
   obtain⟨k,h1,h2⟩:=h
   exact key k k (Nat.le_refl _) h1 h2
  obtain⟨k,⟨h1,h2⟩,h3⟩:=hm
  have h0:∀ j,j≤k→a j=a 0:=by
   intro j hj
   cases j with
   |zero=>rfl
   |succ j=>exact h3 j (by omega)
  rw [zdT h1 (fun j hj=>by rw [h0 j (by omega),h0 (j+1) (by omega)];simp) (by rw [h0 k (Nat.le_refl _)];simpa using fun h=>h2 h.symm),
   zdT h1 (fun j hj=>by rw [h0 (j+1) (by omega)];simp) (by simpa using h2)]
 ·have h0:∀ j,j≤n→a j=a 0:=by
   intro j hj
   cases j with
   |zero=>rfl
   |succ j=>exact Classical.not_not.1 fun hne=>h ⟨j,by omega,hne⟩
  rw [List.find?_eq_none.2 (fun k hk=>by rw [h0 k (by have:=List.mem_range.1 hk;omega),h0 (k+1) (by have:=List.mem_range.1 hk;omega)];simp),
   List.find?_eq_none.2 (fun k hk=>by rw [h0 (k+1) (by have:=List.mem_range.1 hk;omega)];simp)]
section
variable {L:Nat} {f:ByteArray→Bool} {rows cols:List ByteArray} {x:ByteArray}
noncomputable def zcf (L:Nat) (f:ByteArray→Bool) (rows cols:List ByteArray) (x:ByteArray):Option ByteArray:=
 if zcg (zdn L f rows cols) (zaL (zdn L f rows cols) 0 (wl x))=f x then none
 else ((List.range x.size).find? fun k=>zhb L f rows cols x (k+1) != f x).map fun k=>x.extract (k+1) x.size
theorem extract_all (x:ByteArray):x.extract 0 x.size=x:=by
 apply ByteArray.ext
 rw [ByteArray.data_extract]
 simp
theorem empty_append (x:ByteArray):(⟨#[]⟩:ByteArray)++x=x:=by
 apply ByteArray.ext
 rw [ByteArray.data_append]
 simp
theorem split_same (hI:zbz L f rows cols)(hx:inB x L=true)(h4:x.size≤4000):zcR L f rows cols x=zcf L f rows cols x:=by
 have h0:zhb L f rows cols x 0=f x:=by
  unfold zhb stT
  rw [List.take_zero]
  show f (rows.getD 0 ⟨#[]⟩++_)=_
  rw [List.getD_eq_getElem?_getD,hI.r0,Option.getD_some,extract_all,empty_append]
 unfold zcR zcf
 rw [find_adj (zhb L f rows cols x),h0]
 by_cases h:zcg (zdn L f rows cols) (zaL (zdn L f rows cols) 0 (wl x))=f x
 ·rw [if_pos h,if_neg (by rintro ⟨-,h2⟩;exact h2 h)]
 ·rw [if_neg h,if_pos ⟨by rw [hx];simpa using h4,h⟩]
theorem zgr (hx:inB x L=true) (k:Nat):inB (x.extract k x.size) L=true:=by
 obtain⟨h1,h2⟩:=zes.1 hx
 have hsz:(x.extract k x.size).size≤x.size:=by rw [ByteArray.size_extract];omega
 have hd:(x.extract k x.size).data.toList=x.data.toList.drop k:=by
  rw [ByteArray.data_extract,Array.toList_extract,List.extract_eq_take_drop,List.take_of_length_le]
  rw [List.length_drop]
  show x.data.toList.length - k≤x.size - k
  rw [Array.length_toList]
  exact Nat.le_refl _
 have hw:zaM (x.extract k x.size)=true:=by
  unfold zaM at h1 ⊢
  simp only [Bool.and_eq_true,decide_eq_true_eq,List.all_eq_true] at h1 ⊢
  refine⟨by omega,fun b hb=>h1.2 b ?_⟩
  rw [hd] at hb
  exact List.mem_of_mem_drop hb
 refine zes.2 ⟨hw,?_⟩
 apply Nat.eq_of_testBit_eq
 intro l
 rw [Nat.testBit_and,Bool.and_eq_left_iff_imp]
 intro hl
 have h3:l∈wl x:=by
  have:=(zdm _ _).1 hl
  unfold wl at this ⊢
  rw [hd,List.map_drop] at this
  exact List.mem_of_mem_drop this
 have h4:=(zdm _ _).2 h3
 rw [← h2,Nat.testBit_and,Bool.and_eq_true] at h4
 exact h4.2
theorem split_col {col:ByteArray}(hx:inB x L=true)(h4:x.size≤4000)(h:zcf L f rows cols x=some col):inB col L=true∧col.size≤4000:=by
 unfold zcf at h
 split at h
 ·cases h
 ·obtain⟨k,-,rfl⟩:=Option.map_eq_some_iff.1 h
  exact⟨zgr hx _,by rw [ByteArray.size_extract];omega⟩
theorem learn_same (hI:zbz L f rows cols)(hx:inB x L=true)(h4:x.size≤4000) :
  zaV L f rows cols x=match zcf L f rows cols x with
   |none=>none
   |some col=>if (!zcm cols col&&decide (cols.length≠20))=true then (zZ L f (cols++[col]) (12 - rows.length) rows).map fun r=>(r,cols++[col]) else none:=by
 unfold zaV
 rw [split_same hI hx h4]
 cases h:zcf L f rows cols x with
 |none=>rfl
 |some col =>
  obtain⟨h1,h2⟩:=split_col hx h4 h
  dsimp only
  unfold zfN
  rw [h1,decide_eq_true h2]
  rfl
end
section
variable {J:zbv} {B b0 L base nr cr nc cc kn:Nat} {S S':Nat→Prop} {W W':World} {R C:Option Addr} {rows cols:List ByteArray} {f:ByteArray→Bool} {rc:Value}
theorem tb_cell {w:World} {bT n q l tc:Nat} {TA:Option Addr} {g:Nat→Nat→Nat}(h:w.ownsRow bT 179 6 (.slice TA n tc) n (tbC n g))(hq:q<n)(hl:l<6):∃ gT,TA=some ⟨gT,0,none⟩∧w.cell? ⟨gT,q*6+l,none⟩=some (.int .i64 (g q l:Nat)):=by
 obtain⟨gT,rfl,-,-⟩:=zaq h (by omega)
 exact⟨gT,rfl,by rw [h.cellAt _ (by omega),tbC_get hq hl]⟩
theorem st_step {x:ByteArray} {k l:Nat}(hl:(wl x)[k]?=some l):stT L f rows cols x (k+1)=aGo (zdn L f rows cols) (stT L f rows cols x k) l:=by
 unfold stT
 rw [List.take_add_one,hl,Option.toList_some,zbk]
theorem or_splitWord {x:ByteArray}(hO:zgg b0 L f J kn rc)(hj:J B W S)(hB:B+6000<10000000)(hT:zfW W S base R nr cr C nc cc rows cols)(hI:zbz L f rows cols)(hcl:zav L f rows cols=none)(hb0:b0≤W.heap.size)(hL:L<64)(hx:inB x L=true)(hxs:x.size≤4000) :
  Calls Tryz.prog 162 #[orcV L kn rc,.agg #[.slice R nr cr,.slice C nc cc],.string x] W (RetO J (.tuple #[.string ((zcf L f rows cols x).getD ⟨#[]⟩),.bool (zcf L f rows cols x).isSome]) (B+6000) S W):=by
 have HO:=za hO
 have HI:=za hI
 have hv:=za (zcq hI hcl hL)
 have hx1:Ext W ((W.alloc (.cells #[.int .i64 (L:Int),.func (.func kn) #[rc] #[]] 115)).alloc (.cells #[.slice R nr cr,.slice C nc cc] 101)):=((Ext.refl _).alloc _).alloc _
 obtain⟨b3,b4⟩:=zE (Ext.refl ((W.alloc (.cells #[.int .i64 (L:Int),.func (.func kn) #[rc] #[]] 115)).alloc (.cells #[.slice R nr cr,.slice C nc cc] 101)))
 have hS1:=za (fun (q:Nat) (hq:W.heap.size≤q)=>zbv.fresh hO.ok hj hq)
 have hj1:=hO.ok.keep hj hx1 (fun _ _ h=>h.elim)
 have hTw:=za (hT.ext hx1)
 have hlr:=za hT.lens
 have hs2:W.heap.size<((W.alloc (.cells #[.int .i64 (L:Int),.func (.func kn) #[rc] #[]] 115)).alloc (.cells #[.slice R nr cr,.slice C nc cc] 101)).heap.size∧W.heap.size+1<((W.alloc (.cells #[.int .i64 (L:Int),.func (.func kn) #[rc] #[]] 115)).alloc (.cells #[.slice R nr cr,.slice C nc cc] 101)).heap.size:=by simp;omega
 have Hx:=za hx
 have Hb:=za (fun k hk=>zaB (zaP hx) (k:=k) hk)
 have hau:=za (fun (X:World) (hX:Ext W X)=>zfI hO (hO.ok.keep hj hX (fun _ _ h=>h.elim)) (by omega) (hT.ext hX) hI hcl (Nat.le_trans hb0 hX.size) hL)
 have Hin:=hO.in_
 have hnL:(zdn L f rows cols).next.length=rows.length:=by simp [zdn]
 have hst0:stT L f rows cols x 0=0:=by simp [stT,zaL]
 have Hnl:=za hnL
 have Hst0:=za hst0
 have hnr:=za hI.r12
 have hn1:=za hI.r1
 clear hO hI hT hcl hx hj hnL hst0
 obtain⟨a,ha⟩:∃ a,Hid (zdn L f rows cols=a):=⟨_,za rfl⟩
 have haal:=za (show a.al=(L:Int) by rw [← ha.out];rfl)
 have hsp:=za (show zcf L f rows cols x=if zcg a (zaL a 0 (wl x))=f x then none else ((List.range x.size).find? fun k=>zhb L f rows cols x (k+1) != f x).map fun k=>x.extract (k+1) x.size by rw [← ha.out];rfl)
 have hstp:=za (fun (k l:Nat) (hl:(wl x)[k]?=some l)=>st_step (L:=L) (f:=f) (rows:=rows) (cols:=cols) hl)
 rw [ha.out] at hau hv Hnl hstp
 go_enter Tryz.func162,Tryz.ntmps162
 go_upto_region 1 with fail
 generalize (W.alloc (.cells #[.int .i64 (L:Int),.func (.func kn) #[rc] #[]] 115)).alloc (.cells #[.slice R nr cr,.slice C nc cc] 101)=w1 at *
 have k3:=b3.cell
 have k4:=b4.cell
 go_upto_region 2 with (go_at_call 81;refine (hau.out _ hx1).mono ?_;rintro e w2 ⟨S2,A,A',n,c,n',c',rfl,hA2,hk2⟩;rw [haal.out])
 have hb8:=Blk.new w2 31 #[.int .i64 (L:Int),.slice A n c,.slice A' n' c']
 have hx8:Ext w2 (w2.alloc (.cells #[.int .i64 (L:Int),.slice A n c,.slice A' n' c'] 31)):=(Ext.refl _).alloc _
 obtain⟨G,hGe⟩:∃ G,Hid (G=w2.heap.size):=⟨_,za rfl⟩
 rw [← hGe.out] at hb8 ⊢
 have hw12:=hk2.size
 have hfr2:=za (fun (q:Nat) (hq:w2.heap.size≤q)=>zbv.fresh HO.out.ok hk2.j hq)
 have hG2:=hfr2.out G (by have:=hGe.out;omega)
 have B3:=za b3
 have B4:=za b4
 clear k3 k4 b3 b4
 generalize w2.alloc (.cells #[.int .i64 (L:Int),.slice A n c,.slice A' n' c'] 31)=w3 at *
 have k8:=hb8.cell
 have hA3:=hA2.ext hx8
 have hAt:=za (zac.reads hA3.own_)
 go_upto_region 3 with (go_at_call 151;rw [← haal.out];refine (zbG hAt.out hv.out).mono ?_;rintro e w4 ⟨TA,tc,rfl,⟨bT,hbT,hoT⟩,hx4⟩)
 have hx24:=hx8.trans hx4
 have hk4:=za (hk2.ext HO.out.ok hx24)
 have hA4:=za (hA3.ext hx4)
 have hb84:=za (hb8.ext hx4)
 have hT4:=za (show zfn w4 S2 bT 179 6 (.slice TA a.next.length tc) a.next.length (tbC a.next.length (aGo a)) from ⟨hoT,fun b hb=>hfr2.out b (by have:=(hoT.lt b hb).1;have:=hx8.size;omega)⟩)
 have hnn:a.next.length≤12:=by rw [Hnl.out];exact hnr.out
 clear hb8 hx8 hA2 hA3 hAt hoT hx4 k8 hk2 hau
 go_wp2_with fail
 go_loopw [10,11,21] (fun qv _ iv wr=>∃ k:Nat,iv=.int .i64 k∧qv=.int .i64 (zaL a 0 ((wl x).take k))∧k≤x.size∧Ext w4 wr) (fun _ _ iv _=>x.size - (intOf iv).toNat)
 case atStart=>exact⟨0,rfl,by simp [zaL],Nat.zero_le _,Ext.refl _⟩
 case round =>
  obtain⟨k,rfl,rfl,hk,hxr⟩:=hrel
  have hrun:∀ k,zaL a 0 ((wl x).take k)<a.next.length:=fun k=>zdI hv.out (fun l hl=>wl_lt (zaP Hx.out) l (List.mem_of_mem_take hl)) (by rw [Hnl.out];exact hn1.out)
  by_cases hlt:k<x.size
  ·have hlt':(k:Int)<(x.size:Int):=by omega
   have hbb:=Hb.out k hlt
   have hlg:=za (zdA hlt)
   have hlv:=za (show ltr (x[k].toNat)=((x[k].toNat - 97:Nat):Int) by unfold ltr;rw [if_neg (by omega)];omega)
   obtain⟨l,hll⟩:∃ l,Hid (l=x[k].toNat - 97):=⟨x[k].toNat - 97,za rfl⟩
   rw [← hll.out] at hlg hlv
   have hl6:l<6:=by have:=hll.out;omega
   have hq2:=za (show zaL a 0 ((wl x).take (k+1))=aGo a (zaL a 0 ((wl x).take k)) l by rw [List.take_add_one,hlg.out,Option.toList_some,zbk])
   have hqlt:=hrun k
   obtain⟨q,hqe⟩:∃ q,Hid (zaL a 0 ((wl x).take k)=q):=⟨_,za rfl⟩
   rw [hqe.out] at hq2 hqlt ⊢
   obtain⟨gT,rfl,hcT⟩:=tb_cell (hT4.out.ext hxr).own hqlt hl6
   rw [← hq2.out] at hcT
   have CT:∀ X,Ext wr X→X.cell? ⟨gT,q*6+l,none⟩=some (.int .i64 (zaL a 0 ((wl x).take (k+1)):Nat)):=fun X hX=>hX.cell_some hcT
   have hqlt':(q:Int)<(a.next.length:Int):=by omega
   have hl6':(l:Int)<6:=by omega
   have hww:=Ext.refl wr
   clear hcT hrun
   obtain⟨q',hq'⟩:∃ q',Hid (zaL a 0 ((wl x).take (k+1))=q'):=⟨_,za rfl⟩
   rw [hq'.out] at CT
   go_upto_region 7 with fail
   refine uR (fun X=>Ext wr X) [] (zu.of [0,1,2,3,5,4,6,7,8]) ?_
   refine uQ ?_
   refine ze fun K hK=>?_;go_simp
   refine (zaJ x k hlt _).mono ?_
   rw [hlv.out]
   rintro e w6 ⟨rfl,rfl⟩
   refine hK.out _ _ hww.drew ?_
   refine pT ?_
   refine uQ ?_
   refine zf ?_
   go_wp2_with fail
   go_roundw
   case rel=>exact⟨k+1,by go_num,by rw [hq'.out],by omega,hxr.trans hww.drew⟩
   case measure=>simp [intOf];omega
  ·obtain rfl:k=x.size:=by omega
   have hqf:=za (show zaL a 0 ((wl x).take x.size)=zaL a 0 (wl x) by rw [List.take_of_length_le (by rw [zfk];exact Nat.le_refl _)])
   have hqlt:=hrun x.size
   rw [hqf.out] at hqlt ⊢
   have Hrun:=za hrun
   obtain⟨q,hqe⟩:∃ q,Hid (zaL a 0 (wl x)=q):=⟨_,za rfl⟩
   rw [hqe.out] at hqlt ⊢
   have hkr:=za (hk4.out.ext HO.out.ok hxr)
   have hask:=za (HO.out.ask _ wr S2 x hkr.out.j (by omega) Hx.out (by omega))
   obtain⟨b1,hb1⟩:∃ b1,Hid (f x=b1):=⟨_,za rfl⟩
   rw [hb1.out] at hask
   have k3:=(hkr.out.blk B3.out (hS1.out _ (Nat.le_refl _))).1.cell
   have hAr:=za (hA4.out.ext hxr)
   have hTr:=za (hT4.out.ext hxr)
   have hbr:=za (hb84.out.ext hxr)
   clear hrun hk4 hA4 hT4 hb84 hxr
   go_upto_region 10 with fail
   refine hask.out.mono ?_
   rintro e w5 ⟨S5,rfl,hk5⟩
   have hk15:=za (hkr.out.trans hk5)
   have hA5:=hAr.out.kp hk5
   have hT5:=za (hTr.out.kp hk5)
   have hb5:=(hk5.blk hbr.out hG2).1
   have k8:=hb5.cell
   obtain rfl:=own_num hA5.acc
   have hal2:=za (zl hv.out).2.2.1
   obtain⟨gA,rfl,-,-⟩:=zaq hA5.acc (by have:=hal2.out;omega)
   have cA:w5.cell? ⟨gA,q,none⟩=some (.bool (zcg a q)):=by
    rw [hA5.acc.cellAt q (by have:=hal2.out;omega)]
    unfold zcg zP
    rw [List.getElem?_map,List.getD_eq_getElem?_getD,List.getElem?_eq_getElem (by have:=hal2.out;omega)]
    rfl
   have hqn':(q:Int)<(a.acc.length:Int):=by have:=hal2.out;omega
   obtain⟨ba,hba⟩:∃ ba,Hid (zcg a q=ba):=⟨_,za rfl⟩
   rw [hba.out] at cA
   clear hA5 hb5 hAr hTr hbr hk5 hask k3 hkr
   have hfr1:=(hk15.out.blk B3.out (hS1.out _ (Nat.le_refl _)))
   by_cases hbe:ba=b1
   ·have hres:=za (show RetO J (.tuple #[.string ((zcf L f rows cols x).getD ⟨#[]⟩),.bool (zcf L f rows cols x).isSome]) (B+6000) S W (.returned (.tuple #[.string ⟨#[]⟩,.bool false])) w5 from
     ⟨S5,by rw [hsp.out,hqe.out,hba.out,hb1.out,if_pos hbe];rfl,(hk15.out.more HO.out.ok (by omega)).back hx1⟩)
    have hbq:(ba==b1)=true:=by rw [hbe];simp
    go_wp2_with fail
    go_ret2
    exact hres.out
   ·have hbq:(ba==b1)=false:=by simpa using hbe
    have Hbe:=za hbe
    clear hbe
    go_upto_region 12 with fail
    clear k8 cA hbq hfr1
    go_wp2_with fail
    go_loopw [10,13,46] (fun qv _ iv wr=>∃ (k:Nat) (S6:Nat→Prop),iv=.int .i64 k∧qv=.int .i64 (zaL a 0 ((wl x).take k))∧k≤x.size∧Hid (Kp J (B+1693+k) S w1 wr S6)∧Hid (zfn wr S6 bT 179 6 (.slice TA a.next.length tc) a.next.length (tbC a.next.length (aGo a)))∧Hid (∀ j,j<k→zhb L f rows cols x (j+1)=b1)) (fun _ _ iv _=>x.size - (intOf iv).toNat)
    case atStart=>exact⟨0,S5,rfl,by simp [zaL],Nat.zero_le _,hk15,hT5,za (fun j h=>by omega)⟩
    case round =>
     clear hk15 hT5
     obtain⟨k,S6,rfl,rfl,hk,hkp,hTb,hno⟩:=hrel
     by_cases hlt:k<x.size
     ·have hlt':(k:Int)<(x.size:Int):=by omega
      have hbb:=Hb.out k hlt
      have hlg:=za (zdA hlt)
      have hlv:=za (show ltr (x[k].toNat)=((x[k].toNat - 97:Nat):Int) by unfold ltr;rw [if_neg (by omega)];omega)
      obtain⟨l,hll⟩:∃ l,Hid (l=x[k].toNat - 97):=⟨x[k].toNat - 97,za rfl⟩
      rw [← hll.out] at hlg hlv
      have hl6:l<6:=by have:=hll.out;omega
      have hq2:=za (show zaL a 0 ((wl x).take (k+1))=aGo a (zaL a 0 ((wl x).take k)) l by rw [List.take_add_one,hlg.out,Option.toList_some,zbk])
      have hqlt0:=Hrun.out k
      have hqlt1:=Hrun.out (k+1)
      have hsk:=za (show zhb L f rows cols x (k+1)=f (rows.getD (zaL a 0 ((wl x).take (k+1))) ⟨#[]⟩++x.extract (k+1) x.size) by rw [← ha.out];rfl)
      obtain⟨q0,hq0e⟩:∃ q0,Hid (zaL a 0 ((wl x).take k)=q0):=⟨_,za rfl⟩
      rw [hq0e.out] at hq2 hqlt0 ⊢
      obtain⟨gT,rfl,hcT⟩:=tb_cell hTb.out.own hqlt0 hl6
      rw [← hq2.out] at hcT
      obtain⟨q',hq'⟩:∃ q',Hid (zaL a 0 ((wl x).take (k+1))=q'):=⟨_,za rfl⟩
      rw [hq'.out] at hcT hqlt1 hsk
      have CT:∀ X,Ext wr X→X.cell? ⟨gT,q0*6+l,none⟩=some (.int .i64 (q':Nat)):=fun X hX=>hX.cell_some hcT
      have hqlt':(q0:Int)<(a.next.length:Int):=by omega
      have hl6':(l:Int)<6:=by omega
      have hww:=Ext.refl wr
      clear hcT
      go_upto_region 16 with fail
      refine uR (fun X=>Ext wr X) [] (zu.of [0,1,2,3,5,4,6,7,8]) ?_
      refine uQ ?_
      refine ze fun K hK=>?_;go_simp
      refine (zaJ x k hlt _).mono ?_
      rw [hlv.out]
      rintro e w6 ⟨rfl,rfl⟩
      refine hK.out _ _ hww.drew ?_
      refine pT ?_
      refine uQ ?_
      refine zf ?_
      have hkd:=za (hkp.out.ext HO.out.ok hww.drew)
      have hTd:=za (hTb.out.ext hww.drew)
      clear CT hkp hTb hww
      generalize wr.drew=wd at *
      obtain⟨r,hr⟩:∃ r,rows[q']?=some r:=⟨_,List.getElem?_eq_getElem (by rw [← Hnl.out];exact hqlt1)⟩
      have hrr:=za (List.mem_of_getElem? hr)
      have hrs:r.size≤12:=(HI.out.rin hrr.out).2
      obtain⟨gR,rfl,hcR⟩:=zgE (hTw.out.kp hkd.out).r.own hr
      obtain⟨y2,hy2⟩:∃ y2,Hid (x.extract (k+1) x.size=y2):=⟨_,za rfl⟩
      have hys2:y2.size≤4000:=by rw [← hy2.out,ByteArray.size_extract];omega
      obtain⟨z2,hz2⟩:∃ z2,Hid (r++y2=z2):=⟨_,za rfl⟩
      have hzin:=za (show inB z2 L=true by
       rw [← hz2.out,← hy2.out]
       exact zhx (HI.out.rin hrr.out).1 (zgr Hx.out (k+1)) (by rw [hy2.out];omega))
      have hzs:z2.size≤9000:=by rw [← hz2.out,ByteArray.size_append];omega
      have hsk2:=za (show zhb L f rows cols x (k+1)=f z2 by rw [hsk.out,List.getD_eq_getElem?_getD,hr,Option.getD_some,hy2.out,hz2.out])
      obtain⟨bz,hbz⟩:∃ bz,Hid (f z2=bz):=⟨_,za rfl⟩
      have hsz2:¬ 9223372036854775807<r.size+y2.size:=by omega
      have hqn:(q':Int)<(nr:Int):=by rw [← hlr.out.1,← Hnl.out];omega
      have hwrk:=IntWalk.i64_in ((k:Int)+1) (by omega)
      have hk1:(k:Int)+1≤(x.size:Int):=by omega
      have hk01:(0:Int)≤(k:Int)+1:=by omega
      have hy2r:=hy2.out
      have hz2r:=hz2.out
      have K3:∀ X,Ext wd X→∀ j,X.cell? ⟨W.heap.size,j,none⟩=#[Value.int .i64 (L:Int),.func (.func kn) #[rc] #[]][j]?:=fun X hX=>((hkd.out.blk B3.out (hS1.out _ (Nat.le_refl _))).1.ext hX).cell
      have K4:∀ X,Ext wd X→∀ j,X.cell? ⟨W.heap.size+1,j,none⟩=#[Value.slice (some ⟨gR,0,none⟩) nr cr,.slice C nc cc][j]?:=fun X hX=>((hkd.out.blk B4.out (hS1.out _ (by omega))).1.ext hX).cell
      have CR:∀ X,Ext wd X→X.cell? ⟨gR,q',none⟩=some (.string r):=fun X hX=>hX.cell_some hcR
      have hww:=Ext.refl wd
      clear hcR hr
      go_upto_region 17 with fail
      refine uR (fun X=>Ext wd X) [12] (zu.of [0,1,2,3,4,5,6,7,8,9,10,11,13,12,14]) ?_
      refine uQ ?_
      have hkd2:=hkd.out.ext HO.out.ok hww.drew
      have hask2:=za (HO.out.ask _ wd.drew S6 z2 hkd2.j (by omega) hzin.out hzs)
      rw [hbz.out] at hask2
      refine zb fun K hK=>?_
      go_simp
      refine hask2.out.mono ?_
      rintro e w7 ⟨S7,rfl,hk7⟩
      refine hK.out _ _ ?_
      refine pT ?_
      refine uQ ?_
      refine zf ?_
      have hk17:=za (hkd2.trans hk7)
      have hT7:=za ((hTd.out.ext hww.drew).kp hk7)
      clear K3 K4 CR hask2 hkd2 hk7 hkd hTd
      by_cases hbe:bz=b1
      ·have hbq:(bz==b1)=true:=by rw [hbe];simp
       have hno2:=za (show ∀ j,j<k+1→zhb L f rows cols x (j+1)=b1 from fun j hj=>by
        rcases Nat.lt_or_eq_of_le (Nat.le_of_lt_succ hj) with h1|rfl
        ·exact hno.out j h1
        ·rw [hsk2.out,hbz.out,hbe])
       clear hbq
       have Hbe2:=za hbe
       clear hbe
       go_wp2_with fail
       ·rename_i hh
        exfalso
        rw [Hbe2.out] at hh
        simp at hh
       ·go_roundw
        case rel=>exact⟨k+1,S7,by go_num,by rw [hq'.out],by omega,za (by have:=hk17.out;rwa [show B+1693+k+1=B+1693+(k+1) by omega] at this),hT7,hno2⟩
        case measure=>simp [intOf];omega
      ·have hbq0:(bz != b1)=true:=by simpa using hbe
       have hbq:(bz==b1)=false:=by simpa using hbe
       have hres:=za (show RetO J (.tuple #[.string ((zcf L f rows cols x).getD ⟨#[]⟩),.bool (zcf L f rows cols x).isSome]) (B+6000) S W (.returned (.tuple #[.string y2,.bool true])) w7 from by
        have hfd:(List.range x.size).find? (fun k=>zhb L f rows cols x (k+1) != f x)=some k:=zdT hlt (fun j hj=>by rw [hno.out j hj,hb1.out];simp) (by rw [hsk2.out,hbz.out,hb1.out];exact hbq0)
        exact⟨S7,by rw [hsp.out,hqe.out,hba.out,hb1.out,if_neg Hbe.out,← hb1.out,hfd,← hy2.out];rfl,(hk17.out.more HO.out.ok (by omega)).back hx1⟩)
       have Hbe2:=za hbe
       clear hbe hbq0 hbq
       go_wp2_with fail
       ·go_ret2
        exact hres.out
       ·rename_i hh
        exfalso
        exact Hbe2.out (by simpa using hh)
     ·have hge:¬ (k:Int)<(x.size:Int):=by omega
      have hres:=za (show RetO J (.tuple #[.string ((zcf L f rows cols x).getD ⟨#[]⟩),.bool (zcf L f rows cols x).isSome]) (B+6000) S W (.returned (.tuple #[.string ⟨#[]⟩,.bool false])) wr from by
       have hfd:(List.range x.size).find? (fun k=>zhb L f rows cols x (k+1) != f x)=none:=by
        rw [List.find?_eq_none]
        intro j hj
        rw [List.mem_range] at hj
        rw [hno.out j (by omega),hb1.out]
        simp
       exact⟨S6,by rw [hsp.out,hqe.out,hba.out,hb1.out,if_neg Hbe.out,← hb1.out,hfd];rfl,(hkp.out.more HO.out.ok (by omega)).back hx1⟩)
      go_wp2_with fail
      go_ret2
      exact hres.out
end
section
variable {J:zbv} {B b0 L base nr cr nc cc kn:Nat} {S S':Nat→Prop} {W W':World} {R C:Option Addr} {rows cols:List ByteArray} {f:ByteArray→Bool} {rc:Value}
noncomputable def addT (rows cols:List ByteArray) (x:ByteArray):Option (List ByteArray × List ByteArray):=if (!zcm cols x&&decide (cols.length≠20))=true then some (rows,cols++[x]) else none
theorem add_fin {w1 W5:World} {b2 b8 Z:Nat} {v2 v8:Value} {x:ByteArray}(hfr:∀ q,W.heap.size≤q→¬ S q)(hx0:Ext W w1)(hx:Ext w1 W5)(hb:Blk W5 Z 101 #[.slice none 0 0,.slice none 0 0])(hZ:W.heap.size≤Z)(h2:W5.ownsRow b2 9 1 v2 rows.length (zL rows))(h8:W5.ownsRow b8 9 1 v8 (cols.length+1) (zL cols++[.string x]))(hb2:W.heap.size≤b2)(hb8:W.heap.size≤b8) :
  Ext W ((W5.setCell ⟨Z,0,none⟩ v2).setCell ⟨Z,1,none⟩ v8)∧Blk ((W5.setCell ⟨Z,0,none⟩ v2).setCell ⟨Z,1,none⟩ v8) Z 101 #[v2,v8] ∧
  ∃ R' cr' C' cc',v2=.slice R' rows.length cr'∧v8=.slice C' (cols++[x]).length cc'∧zfW ((W5.setCell ⟨Z,0,none⟩ v2).setCell ⟨Z,1,none⟩ v8) S W.heap.size R' rows.length cr' C' (cols++[x]).length cc' rows (cols++[x]):=by
 have hf:=(Frm.setCell W5 Z 0 v2).trans (Frm.setCell _ Z 1 v8)
 have a2:=zcM h2 hb2
 have a8:=zcM h8 hb8
 have hl:(cols++[x]).length=cols.length+1:=by simp
 obtain⟨R',cr',rfl⟩:=zi h2
 obtain⟨C',cc',rfl⟩:=zi h8
 refine⟨(hx0.trans hx).frm hf (fun q hq e=>by have e':q=Z:=e;omega),by simpa using (hb.set_ 0 (.slice R' rows.length cr')).set_ 1 (.slice C' (cols.length+1) cc'),R',cr',C',cc',rfl,by rw [hl],⟨⟨zg a2 hf (fun b hb' e=>zF a2 hb (by decide) hb' e),fun b hb'=>hfr b (a2.lt b hb').1⟩,⟨?_,fun b hb'=>?_⟩⟩⟩
 ·rw [hl,zhJ]
  exact zg a8 hf (fun b hb' e=>zF a8 hb (by decide) hb' e)
 ·rw [hl] at hb'
  exact hfr b (a8.lt b hb').1
theorem yC13b1 {P:Prop}(h:P:=by
 have ho28:=zg ho2 hf8 (fun b hb e=>hdis b hb e)
 have hb48:=hb4.frm hf8 (fun e=>zF ho5 hb4 (by decide) e rfl)
 obtain⟨C8,c8,rfl⟩:=zi ho8
 have k8:=hb48.cell
 have f8:=hb48.frozen
 refine uQ ?_
 refine zb fun K hK=>?_
 go_simp
 refine hK.out _ _ ?_
 refine pT ?_
 refine uQ ?_
 refine zf ?_
 have ziM:=add_fin (x:=x) hwS.out hx1 hx8 hb48 (by omega) ho28 ho8 (by omega) (by omega)
 obtain⟨h1,h2,R9,cr9,C9,cc9,h3,h4,h5⟩:=ziM
 have cf:=h2.cell
 have HT9:=za h5
 have Hk9:=za (hkW.out.ext HJ.out h1)
 have H3:=za h3
 have H4:=za h4
 clear h3 h4 h2 h5 k8 f8 hb48 ho28 ho8 hg8 hat8
 generalize (w8.setCell ⟨W.heap.size+1,0,none⟩ (.slice R6 rows.length cr6)).setCell ⟨W.heap.size+1,1,none⟩ (.slice C8 (cols.length+1) c8)=w9 at *
 go_wp2_with fail
 have hv9:Value.tuple #[.agg #[.slice R6 rows.length cr6,.slice C8 (cols.length+1) c8],.bool true]=.tuple #[.agg #[.slice R9 rows.length cr9,.slice C9 (cols++[x]).length cc9],.bool true]:=by rw [H3.out,H4.out]
 exact bodyPost_ret (v:=.tuple #[.agg #[.slice R6 rows.length cr6,.slice C8 (cols.length+1) c8],.bool true]) (by simp [results,Tryz.results163,go_sem,cf]) rfl ⟨S,Hk9.out,.inr ⟨rows,cols++[x],R9,C9,cr9,cc9,had.out,by rw [hv9],HT9.out⟩⟩
 ):P:=h
theorem yC13a1 {P:Prop}(h:P:=by
 refine hK.out _ _ hxw5 ?_
 refine pT ?_
 refine uQ ?_
 have hb4:=b4.ext hxw5
 refine zb fun K hK=>?_
 refine zv w5 _ _ 99 rfl _ 9 _ 1 16 Tryz.underlying99 zo rfl (by decide) _ cols.length (zL cols) rfl ho5 _ _ _ 1 1 #[Value.string x].toList rfl (Reads.of_own ho7) (by simp [Value.oneCell']) (by unfold maxLen;omega) (by omega) (by have:=hy5.size;have:=hy7.size;omega) ?_
 intro v8 w8 ho8 hg8 hat8
 refine hK.out _ _ ?_
 refine pT ?_
 have hx8:Ext w1 w8:=hxw5.grown hg8 (fun q hq=>by have:=(ho5.lt q hq).1;omega)
 have hf8:Frm (fun q=>(Value.slice C6 cols.length cc6).ownBlock=some q) w5 w8:=Frm.of_grown hg8
 exact yC13b1
 ):P:=h
theorem zhe {x:ByteArray}(hJ:zbv.Ok b0 J)(hj:J B W S)(hT:zfW W S base R nr cr C nc cc rows cols)(hI:zbz L f rows cols) :
  Calls Tryz.prog 163 #[.agg #[.slice R nr cr,.slice C nc cc],.string x] W (RetTO J (addT rows cols x) B S W):=by
 obtain⟨rfl,rfl⟩:=hT.lens
 have hr12:=hI.r12
 have hc20:=hI.c20
 have HJ:=za hJ
 have hwS:=za (fun (q:Nat) (hq:W.heap.size≤q)=>zbv.fresh hJ hj hq)
 have hx1:Ext W ((W.alloc (.cells #[.slice R rows.length cr,.slice C cols.length cc] 101)).alloc (.cells #[.slice none 0 0,.slice none 0 0] 101)):=((Ext.refl _).alloc _).alloc _
 obtain⟨b2,b4⟩:=zE (Ext.refl ((W.alloc (.cells #[.slice R rows.length cr,.slice C cols.length cc] 101)).alloc (.cells #[.slice none 0 0,.slice none 0 0] 101)))
 have hTw:=za (hT.ext hx1)
 have hj1:=za (hJ.keep hj hx1 (fun _ _ h=>h.elim))
 have hkW:=za (Kp.refl (J:=J) hj)
 clear hT hI hJ hj
 go_enter Tryz.func163,Tryz.ntmps163
 go_upto_region 1 with fail
 generalize (W.alloc (.cells #[.slice R rows.length cr,.slice C cols.length cc] 101)).alloc (.cells #[.slice none 0 0,.slice none 0 0] 101)=w1 at *
 have k2:=b2.cell
 have k4:=b4.cell
 have f4:=b4.frozen
 have hcon:=za (contains_str (x:=x) (c:=cc) (Reads.of_own hTw.out.c.own))
 have hnone:∀ (_:addT rows cols x=none),Hid (Kp J B S W ((w1.setCell ⟨W.heap.size+1,0,none⟩ (.slice none 0 0)).setCell ⟨W.heap.size+1,1,none⟩ (.slice none 0 0)) S∧∀ i,((w1.setCell ⟨W.heap.size+1,0,none⟩ (.slice none 0 0)).setCell ⟨W.heap.size+1,1,none⟩ (.slice none 0 0)).cell? ⟨W.heap.size+1,i,none⟩=#[Value.slice none 0 0,.slice none 0 0][i]?):=fun _=>by
  have hf:=(Frm.setCell w1 (W.heap.size+1) 0 (.slice none 0 0)).trans (Frm.setCell _ (W.heap.size+1) 1 (.slice none 0 0))
  have hx2:Ext W ((w1.setCell ⟨W.heap.size+1,0,none⟩ (.slice none 0 0)).setCell ⟨W.heap.size+1,1,none⟩ (.slice none 0 0)):=hx1.frm hf (fun q hq e=>by have e':q=W.heap.size+1:=e;omega)
  refine⟨hkW.out.ext HJ.out hx2,fun i=>?_⟩
  have:=((b4.set_ 0 (.slice none 0 0)).set_ 1 (.slice none 0 0)).cell i
  simpa using this
 by_cases h20:cols.length=20
 ·have had:=za (show addT rows cols x=none by unfold addT;rw [if_neg];rw [h20];simp)
  have hn:=hnone had.out
  have h20b:((cols.length:Int)==20)=true:=by rw [h20];rfl
  clear h20 hnone b2 b4
  go_wp2_with fail
  have cf:=hn.out.2
  generalize (w1.setCell ⟨W.heap.size+1,0,none⟩ (.slice none 0 0)).setCell ⟨W.heap.size+1,1,none⟩ (.slice none 0 0)=w9 at *
  exact bodyPost_ret (v:=.tuple #[.agg #[.slice none 0 0,.slice none 0 0],.bool false]) (by simp [results,Tryz.results163,go_sem,cf]) rfl ⟨S,hn.out.1,.inl ⟨had.out,rfl⟩⟩
 ·have h20b:((cols.length:Int)==20)=false:=by simp;omega
  cases hm:zcm cols x with
  |true =>
   have had:=za (show addT rows cols x=none by unfold addT;rw [if_neg];rw [hm];simp)
   have hn:=hnone had.out
   rw [hm] at hcon
   clear h20 hnone b2 b4 hm
   go_wp2_with (go_at_call 233;refine hcon.out.mono ?_;rintro e w2 ⟨rfl,rfl⟩)
   have cf:=hn.out.2
   generalize (w1.setCell ⟨W.heap.size+1,0,none⟩ (.slice none 0 0)).setCell ⟨W.heap.size+1,1,none⟩ (.slice none 0 0)=w9 at *
   exact bodyPost_ret (v:=.tuple #[.agg #[.slice none 0 0,.slice none 0 0],.bool false]) (by simp [results,Tryz.results163,go_sem,cf]) rfl ⟨S,hn.out.1,.inl ⟨had.out,rfl⟩⟩
  |false =>
   have had:=za (show addT rows cols x=some (rows,cols++[x]) by unfold addT;rw [if_pos];rw [hm];simp;exact h20)
   rw [hm] at hcon
   clear hnone hm k4 f4
   go_upto_region 3 with (go_at_call 233;refine hcon.out.mono ?_;rintro e w2 ⟨rfl,rfl⟩)
   have CT:∀ X,Ext w1 X→∀ q,X.cell? ⟨W.heap.size,q,none⟩=#[Value.slice R rows.length cr,.slice C cols.length cc][q]?:=fun X hX=>(b2.ext hX).cell
   have hww:=Ext.refl w1
   have hszW:=hx1.size
   refine uR (fun X=>Ext w1 X) [5,8,10] (zu.app [0,1,3,4,6] (zu.two 2 (zu.two 5 (zu.of [7,8,9,10,11]) 7 (zu.of [5,8,9,10,11])) 7 (zu.of [2,5,8,9,10,11]))) ?_
   refine uQ ?_
   have hxwd:=hww.drew
   generalize w1.drew=wd at *
   refine zm (fun K hK=>?_) (fun K hK=>?_)
   ·go_simp
    refine (zbh (Reads.of_own (zh hTw.out.r.own hxwd)) (by omega)).mono ?_
    rintro e w2 ⟨v2,rfl,ho2,hy2⟩
    have hxw2:=hxwd.trans hy2
    obtain⟨R6,cr6,rfl⟩:=zi ho2
    have hs2:=hxwd.size
    refine hK.out _ _ hxw2 ?_
    refine pT ?_
    refine uQ ?_
    refine zm (fun K hK=>?_) (fun K hK=>?_)
    ·go_simp
     refine (zbh (Reads.of_own (zh hTw.out.c.own hxw2)) (by omega)).mono ?_
     rintro e w5 ⟨v5,rfl,ho5,hy5⟩
     have hdis:∀ q,(Value.slice R6 rows.length cr6).ownBlock=some q→v5.ownBlock≠some q:=fun q h1 h2=>by have:=(ho2.lt q h1).2;have:=(ho5.lt q h2).1;omega
     have hxw5:=hxw2.trans hy5
     obtain⟨C6,cc6,rfl⟩:=zi ho5
     have hs5:=hxw2.size
     replace ho2:=zh ho2 hy5
     refine hK.out _ _ hxw5 ?_
     refine pT ?_
     refine uQ ?_
     refine ze fun K hK=>?_;go_simp
     have ho7:=World.ownsRow_lit (base:=w5.heap.size) (e:=9) (size:=1) w5 #[.string x] 1 (Nat.le_refl _) (by decide) rfl
     have hy7:Ext w5 (w5.alloc (.cells #[.string x] 9)):=(Ext.refl _).alloc _
     have hxw7:=hxw5.trans hy7
     replace ho2:=zh ho2 hy7
     replace ho5:=zh ho5 hy7
     refine hK.out _ _ hxw7 ?_
     generalize w5.alloc (.cells #[.string x] 9)=w7 at *
     refine pT ?_
     refine uQ ?_
     have hb4:=b4.ext hxw7
     refine zb fun K hK=>?_
     refine zv w7 _ _ 99 rfl _ 9 _ 1 16 Tryz.underlying99 zo rfl (by decide) _ cols.length (zL cols) rfl ho5 _ _ _ 1 1 #[Value.string x].toList rfl (Reads.of_own ho7) (by simp [Value.oneCell']) (by unfold maxLen;omega) (by omega) (by have:=hy5.size;have:=hy7.size;omega) ?_
     intro v8 w8 ho8 hg8 hat8
     refine hK.out _ _ ?_
     refine pT ?_
     have hx8:Ext w1 w8:=hxw7.grown hg8 (fun q hq=>by have:=(ho5.lt q hq).1;omega)
     have hf8:Frm (fun q=>(Value.slice C6 cols.length cc6).ownBlock=some q) w7 w8:=Frm.of_grown hg8
     exact yC13b1
    ·go_simp
     have ho7:=World.ownsRow_lit (base:=w2.heap.size) (e:=9) (size:=1) w2 #[.string x] 1 (Nat.le_refl _) (by decide) rfl
     have hy7:Ext w2 (w2.alloc (.cells #[.string x] 9)):=(Ext.refl _).alloc _
     have hxw7:=hxw2.trans hy7
     replace ho2:=zh ho2 hy7
     refine hK.out _ _ hxw7 ?_
     generalize w2.alloc (.cells #[.string x] 9)=w7 at *
     refine pT ?_
     refine uQ ?_
     refine ze fun K hK=>?_;go_simp
     refine (zbh (Reads.of_own (zh hTw.out.c.own hxw7)) (by omega)).mono ?_
     rintro e w5 ⟨v5,rfl,ho5,hy5⟩
     have hdis:∀ q,(Value.slice R6 rows.length cr6).ownBlock=some q→v5.ownBlock≠some q:=fun q h1 h2=>by have:=(ho2.lt q h1).2;have:=(ho5.lt q h2).1;omega
     have hxw5:=hxw7.trans hy5
     obtain⟨C6,cc6,rfl⟩:=zi ho5
     have hs5:=hxw7.size
     replace ho2:=zh ho2 hy5
     replace ho7:=zh ho7 hy5
     exact yC13a1
   ·go_simp
    have ho7:=World.ownsRow_lit (base:=wd.heap.size) (e:=9) (size:=1) wd #[.string x] 1 (Nat.le_refl _) (by decide) rfl
    have hy7:Ext wd (wd.alloc (.cells #[.string x] 9)):=(Ext.refl _).alloc _
    have hxw7:=hxwd.trans hy7
    refine hK.out _ _ hxw7 ?_
    generalize wd.alloc (.cells #[.string x] 9)=w7 at *
    refine pT ?_
    refine uQ ?_
    refine ze fun K hK=>?_;go_simp
    refine (zbh (Reads.of_own (zh hTw.out.r.own hxw7)) (by omega)).mono ?_
    rintro e w2 ⟨v2,rfl,ho2,hy2⟩
    have hxw2:=hxw7.trans hy2
    obtain⟨R6,cr6,rfl⟩:=zi ho2
    have hs2:=hxw7.size
    replace ho7:=zh ho7 hy2
    refine hK.out _ _ hxw2 ?_
    refine pT ?_
    refine uQ ?_
    refine ze fun K hK=>?_;go_simp
    refine (zbh (Reads.of_own (zh hTw.out.c.own hxw2)) (by omega)).mono ?_
    rintro e w5 ⟨v5,rfl,ho5,hy5⟩
    have hdis:∀ q,(Value.slice R6 rows.length cr6).ownBlock=some q→v5.ownBlock≠some q:=fun q h1 h2=>by have:=(ho2.lt q h1).2;have:=(ho5.lt q h2).1;omega
    have hxw5:=hxw2.trans hy5
    obtain⟨C6,cc6,rfl⟩:=zi ho5
    have hs5:=hxw2.size
    replace ho7:=zh ho7 hy5
    replace ho2:=zh ho2 hy5
    exact yC13a1
end
section
variable {J:zbv} {B b0 L base nr cr nc cc kn:Nat} {S S':Nat→Prop} {W W':World} {R C:Option Addr} {rows cols:List ByteArray} {f:ByteArray→Bool} {rc:Value}
theorem zga {w5:World} {S5:Nat→Prop} {Z:Nat} {u0 u1:Value}(hJ:zbv.Ok b0 J)(hk:Kp J B S W w5 S5)(hb:Blk w5 Z 101 #[u0,u1])(hZ:¬ S5 Z)(hWZ:W.heap.size≤Z)(hbZ:b0≤Z) :
  Blk ((w5.setCell ⟨Z,0,none⟩ (.slice none 0 0)).setCell ⟨Z,1,none⟩ (.slice none 0 0)) Z 101 #[.slice none 0 0,.slice none 0 0]∧Kp J B S W ((w5.setCell ⟨Z,0,none⟩ (.slice none 0 0)).setCell ⟨Z,1,none⟩ (.slice none 0 0)) S5:=by
 have hf:=(Frm.setCell w5 Z 0 (.slice none 0 0)).trans (Frm.setCell _ Z 1 (.slice none 0 0))
 exact⟨by simpa using (hb.set_ 0 (.slice none 0 0)).set_ 1 (.slice none 0 0),hk.own hJ hf (fun q _ e=>by have e':q=Z:=e;rw [e'];exact⟨hWZ,hbZ,hZ⟩)⟩
theorem Blk.far2 {w:World} {g Z:Nat} {t:TypeId} {cs:Array Value}(h:Blk w g t cs)(hne:g≠Z) (u v:Value):Blk ((w.setCell ⟨Z,0,none⟩ u).setCell ⟨Z,1,none⟩ v) g t cs:=(h.far (p:=⟨Z,0,none⟩) hne u).far (p:=⟨Z,1,none⟩) hne v
theorem zfJ {x:ByteArray}(hO:zgg b0 L f J kn rc)(hj:J B W S)(hB:B+27840<10000000)(hT:zfW W S base R nr cr C nc cc rows cols)(hI:zbz L f rows cols)(hcl:zav L f rows cols=none)(hb0:b0≤W.heap.size)(hL:L<64)(hx:inB x L=true)(hxs:x.size≤4000) :
  Calls Tryz.prog 84 #[orcV L kn rc,.agg #[.slice R nr cr,.slice C nc cc],.string x] W (RetTO J (zaV L f rows cols x) (B+27840) S W):=by
 have HO:=za hO
 have HI:=za hI
 have hls:=za (learn_same hI hx hxs)
 have hspc:=za (fun (col:ByteArray) (h:zcf L f rows cols x=some col)=>split_col hx hxs h)
 have hx1:Ext W (((W.alloc (.cells #[.int .i64 (L:Int),.func (.func kn) #[rc] #[]] 115)).alloc (.cells #[.slice R nr cr,.slice C nc cc] 101)).alloc (.cells #[.slice none 0 0,.slice none 0 0] 101)):=(((Ext.refl _).alloc _).alloc _).alloc _
 obtain⟨b2,b3,b4⟩:=zK (Ext.refl (((W.alloc (.cells #[.int .i64 (L:Int),.func (.func kn) #[rc] #[]] 115)).alloc (.cells #[.slice R nr cr,.slice C nc cc] 101)).alloc (.cells #[.slice none 0 0,.slice none 0 0] 101)))
 have hS1:=za (fun (q:Nat) (hq:W.heap.size≤q)=>zbv.fresh hO.ok hj hq)
 have hj1:=hO.ok.keep hj hx1 (fun _ _ h=>h.elim)
 have hTw:=za (hT.ext hx1)
 have hspl:=za (or_splitWord (x:=x) hO hj1 (by omega) (hT.ext hx1) hI hcl (Nat.le_trans hb0 hx1.size) hL hx hxs)
 have hs2:W.heap.size+1+1<(((W.alloc (.cells #[.int .i64 (L:Int),.func (.func kn) #[rc] #[]] 115)).alloc (.cells #[.slice R nr cr,.slice C nc cc] 101)).alloc (.cells #[.slice none 0 0,.slice none 0 0] 101)).heap.size:=by simp
 clear hO hI hT hj hx
 go_enter Tryz.func84,Tryz.ntmps84
 go_upto_region 1 with fail
 generalize ((W.alloc (.cells #[.int .i64 (L:Int),.func (.func kn) #[rc] #[]] 115)).alloc (.cells #[.slice R nr cr,.slice C nc cc] 101)).alloc (.cells #[.slice none 0 0,.slice none 0 0] 101)=w1 at *
 have k2:=b2.cell
 have k3:=b3.cell
 cases hsp:zcf L f rows cols x with
 |none =>
  have hln:=za (show zaV L f rows cols x=none by rw [hls.out,hsp])
  rw [hsp] at hspl
  clear hsp
  go_upto_region 2 with (go_at_call 162;refine hspl.out.mono ?_;rintro e w2 ⟨S2,rfl,hk2⟩)
  have hb42:=hk2.blk b4 (hS1.out _ (by omega))
  have k4:=hb42.1.cell
  have f4:=hb42.1.frozen
  have ziM:=zga HO.out.ok ((hk2.more HO.out.ok (show B+6000≤B+27840 by omega)).back hx1) hb42.1 hb42.2 (by omega) (by omega)
  have cf:=ziM.1.cell
  have Hk:=za ziM.2
  clear ziM k2 k3 b2 b3 b4 hk2
  go_wp2_with fail
  clear k4 f4 hb42
  generalize (w2.setCell ⟨W.heap.size+1+1,0,none⟩ (.slice none 0 0)).setCell ⟨W.heap.size+1+1,1,none⟩ (.slice none 0 0)=w9 at *
  exact bodyPost_ret (v:=.tuple #[.agg #[.slice none 0 0,.slice none 0 0],.bool false]) (by simp [results,Tryz.results84,go_sem,cf]) rfl ⟨S2,Hk.out,.inl ⟨hln.out,rfl⟩⟩
 |some col =>
  have Hsp:=za hsp
  rw [hsp] at hspl
  clear hsp
  go_upto_region 4 with (go_at_call 162;refine hspl.out.mono ?_;rintro e w2 ⟨S2,rfl,hk2⟩)
  have hk2W:=za ((hk2).back hx1)
  have hT2:=za (hTw.out.kp hk2)
  have hb22:=hk2.blk b2 (hS1.out _ (by omega))
  have hb32:=hk2.blk b3 (hS1.out _ (by omega))
  have hb42:=hk2.blk b4 (hS1.out _ (by omega))
  have k3:=hb32.1.cell
  have hadd:=za (zhe (x:=col) HO.out.ok hk2.j hT2.out HI.out)
  have hw12:=hk2.size
  clear k2 b2 b3 b4
  go_upto_region 99 with fail
  refine hadd.out.mono ?_
  rintro e w3 ⟨S3,hk3,hcase⟩
  have hb23:=hk3.blk hb22.1 hb22.2
  have hb33:=hk3.blk hb32.1 hb32.2
  have hb43:=hk3.blk hb42.1 hb42.2
  have hk3W:=za (hk2W.out.trans hk3)
  have k3:=hb33.1.cell
  have f3:=hb33.1.frozen
  clear hb22 hb32 hb42 hadd
  rcases hcase with ⟨hn,rfl⟩|⟨rs,cs,R',C',cr',cc',ho,rfl,hT3⟩
  ·have hln:=za (show zaV L f rows cols x=none by
    rw [hls.out,Hsp.out]
    unfold addT at hn
    by_cases hc:(!zcm cols col&&decide (cols.length≠20))=true
    ·rw [if_pos hc] at hn;cases hn
    ·show (if (!zcm cols col&&decide (cols.length≠20))=true then _ else none)=none
     rw [if_neg hc])
   have h3:=zga HO.out.ok hk3W.out hb33.1 hb33.2 (by omega) (by omega)
   have hb44:=hb43.1.far2 (Z:=W.heap.size+1) (by omega) (.slice none 0 0) (.slice none 0 0)
   have k4:=hb44.cell
   have f4:=hb44.frozen
   have ziM:=zga HO.out.ok (h3.2.more HO.out.ok (show B+6000≤B+27840 by omega)) hb44 hb43.2 (by omega) (by omega)
   have cf:=ziM.1.cell
   have Hk:=za ziM.2
   clear ziM h3 hn hk3 hk2
   go_wp2_with fail
   clear k3 f3 k4 f4 hb44 hb23 hb33 hb43
   generalize (((w3.setCell ⟨W.heap.size+1,0,none⟩ (.slice none 0 0)).setCell ⟨W.heap.size+1,1,none⟩ (.slice none 0 0)).setCell ⟨W.heap.size+1+1,0,none⟩ (.slice none 0 0)).setCell ⟨W.heap.size+1+1,1,none⟩ (.slice none 0 0)=w9 at *
   exact bodyPost_ret (v:=.tuple #[.agg #[.slice none 0 0,.slice none 0 0],.bool false]) (by simp [results,Tryz.results84,go_sem,cf]) rfl ⟨S3,Hk.out,.inl ⟨hln.out,rfl⟩⟩
  ·obtain⟨hc,rfl,hcs0⟩:(!zcm cols col&&decide (cols.length≠20))=true∧rows=rs∧cols++[col]=cs:=by
    unfold addT at ho
    by_cases hc:(!zcm cols col&&decide (cols.length≠20))=true
    ·rw [if_pos hc] at ho
     have h1:=Option.some.inj ho
     exact⟨hc,(Prod.mk.inj h1).1,(Prod.mk.inj h1).2⟩
    ·rw [if_neg hc] at ho;cases ho
   have hln:=za (show zaV L f rows cols x=(zZ L f (cols++[col]) (12 - rows.length) rows).map fun r=>(r,cols++[col]) by
    rw [hls.out,Hsp.out]
    show (if (!zcm cols col&&decide (cols.length≠20))=true then _ else none)=_
    rw [if_pos hc])
   have hI2:=za (show zbz L f rows cs by
    rw [← hcs0]
    exact HI.out.addC (x:=col) (by
     unfold zfN
     rw [(hspc.out col Hsp.out).1,hc]
     simpa using (hspc.out col Hsp.out).2))
   rw [hcs0] at hln
   clear hcs0
   have h3:=zeN HO.out.ok hk3W.out hT3 hb33.1 hb33.2 (by omega) (by omega) (by have:=hx1.size;omega)
   have hb24:=za (hb23.1.far2 (Z:=W.heap.size+1) (by omega) (.slice R' rows.length cr') (.slice C' cs.length cc'))
   have hb44:=za (hb43.1.far2 (Z:=W.heap.size+1) (by omega) (.slice R' rows.length cr') (.slice C' cs.length cc'))
   have hb34:=za h3.1
   have Hk4:=za h3.2.1
   have HT4:=za h3.2.2
   have hB2S:=za hb23.2
   have hB4S:=za hb43.2
   clear h3 ho hk3 hk2 hc hT3
   go_upto_region 7 with fail
   clear k3 f3 hb23 hb33 hb43
   generalize (w3.setCell ⟨W.heap.size+1,0,none⟩ (.slice R' rows.length cr')).setCell ⟨W.heap.size+1,1,none⟩ (.slice C' cs.length cc')=w4 at *
   have k2:=hb24.out.cell
   have k3:=hb34.out.cell
   have hclo:=za (zfa HO.out Hk4.out.j (by omega) HT4.out hI2.out (by have:=Hk4.out.size;omega) hL)
   go_upto_region 99 with fail
   refine hclo.out.mono ?_
   rintro e w5 ⟨S5,hk5,hcase⟩
   have hb45:=hk5.blk hb44.out hB4S.out
   have hk5W:=za ((Hk4.out.trans hk5).more HO.out.ok (show B+6000+21840≤B+27840 by omega))
   have k4:=hb45.1.cell
   have f4:=hb45.1.frozen
   clear k2 k3 hclo
   rcases hcase with ⟨hn,rfl⟩|⟨rs,cs9,R9,C9,cr9,cc9,ho,rfl,hT5⟩
   ·have hln2:=za (show zaV L f rows cols x=none by rw [hln.out,hn])
    have ziM:=zga HO.out.ok hk5W.out hb45.1 hb45.2 (by omega) (by omega)
    have cf:=ziM.1.cell
    have Hk:=za ziM.2
    clear ziM hn hk5
    go_wp2_with fail
    clear k4 f4 hb45
    generalize (w5.setCell ⟨W.heap.size+1+1,0,none⟩ (.slice none 0 0)).setCell ⟨W.heap.size+1+1,1,none⟩ (.slice none 0 0)=w9 at *
    exact bodyPost_ret (v:=.tuple #[.agg #[.slice none 0 0,.slice none 0 0],.bool false]) (by simp [results,Tryz.results84,go_sem,cf]) rfl ⟨S5,Hk.out,.inl ⟨hln2.out,rfl⟩⟩
   ·have hln2:=za (show zaV L f rows cols x=some (rs,cs9) by rw [hln.out,ho])
    have ziM:=zeN HO.out.ok hk5W.out hT5 hb45.1 hb45.2 (by omega) (by omega) (by have:=Hk4.out.size;omega)
    have cf:=ziM.1.cell
    have Hfin:=za ziM.2
    clear ziM ho hk5 hT5
    go_wp2_with fail
    clear k4 f4 hb45
    generalize (w5.setCell ⟨W.heap.size+1+1,0,none⟩ (.slice R9 rs.length cr9)).setCell ⟨W.heap.size+1+1,1,none⟩ (.slice C9 cs9.length cc9)=w9 at *
    exact bodyPost_ret (v:=.tuple #[.agg #[.slice R9 rs.length cr9,.slice C9 cs9.length cc9],.bool true]) (by simp [results,Tryz.results84,go_sem,cf]) rfl ⟨S5,Hfin.out.1,.inr ⟨rs,cs9,R9,C9,cr9,cc9,hln2.out,rfl,Hfin.out.2⟩⟩
end
theorem zero_pset (w:World):(zeroValue 249).run Tryz.prog w=.ok (.agg (Array.replicate 12 (.int .u16 0))) w:=by kernel_rfl
theorem zaA:((Tryz.prog).info? 249).map (·.size)=some 12:=by kernel_rfl
theorem zgR:(zaQ (List.replicate 12 0)).toArray=Array.replicate 12 (Value.int .u16 0):=by rfl
theorem zcT {T:List Nat}(hT:T.length=12) {k:Nat}(hk:k<12) (w:World):(Instr.index 249 (.agg (zaQ T).toArray) (.int .i64 (k:Int))).run Tryz.prog w=.ok (.int .u16 (T.getD k 0:Nat)) w:=by
 have hu:=Tryz.underlying249
 have a3:=Tryz.isAgg247
 have z3:=Tryz.sizeOf247
 have h1:(zaQ T)[k]?=some (.int .u16 (T.getD k 0:Nat)):=zdW (by omega)
 simp [Instr.index,run_underlying hu,asIntOf,go_sem,hk,a3,z3,part,h1]
theorem zcp {ops:Array Oper} {rest:List Oper} {o:Oper} {a:Act} {w:World} {Q:Exit→Act→World→Prop}(hgd:o.guard=none) (x y:Operand)(ho:o.op=.store 249 x y) (g:Nat)(hx:a.eval x=.pointer (some ⟨g,0,none⟩))
  {T U:List Nat} (hy:a.eval y=.agg (zaQ U).toArray) (hb:Blk w g 249 (zaQ T).toArray) (hT:T.length=12) (hU:U.length=12)
  (h:∀ w',Blk w' g 249 (zaQ U).toArray→Frm (fun k=>k=g) w w'→wpList Tryz.prog ops Q rest (a.put o.dst undef) w'):wpList Tryz.prog ops Q (o :: rest) a w:=by
 have h1:(zaQ U).toArray.all (·.oneCell')=true:=all_oneCell_toArray (fun v hv=>by
  obtain⟨z,_,rfl⟩:=List.mem_map.1 hv
  rfl)
 have hs:((Tryz.prog).info? 249).map (·.size)=some (zaQ U).toArray.size:=by
  rw [zaA]
  simp [zaQ,hU]
 refine wpList_plain hgd fun _ hK=>?_
 unfold Oper.wp execOp
 simp only [ho,hx,hy,Instr.storeAt,Instr.sureAddr,Sem.run_bind,Sem.run_pure,Result.andThen_ok,run_storeVar_row w g 249 249 _ _ hb hs (by simp [zaQ,hT,hU]) h1]
 refine hK _ _ (h _ ?_ ⟨rfl,rfl,rfl,by simp,fun k hk hn=>?_⟩)
 ·exact setRow_heap w g _ _ _ _ hb
 ·exact setRow_other w g k _ hn
def RetSMv (F:Sfx) (l:Nat) (T:List Nat) (W:World) (e:Ending) (W':World):Prop:=∃ U,e=.returned (zfQ U)∧MvP F.s F.p l T 12 U∧Ext W W'
theorem ziG {U:List Nat} {j x:Nat}:(zaQ U).toArray.setIfInBounds j (.int .u16 (x:Nat))=(zaQ (U.set j x)).toArray:=by
 simp [zaQ,List.map_set]
section
variable {F:Sfx} {Ts:List (List Nat)} {nx:Nat→Nat→Int} {k:Nat} {M:List Nat→Option Nat} {vs vn vu:Value} {W:World}
theorem sf_move (hF:zhp F)(h:zdX F Ts nx k M vs vn vu W) {T:List Nat}(hT:WS F.p T) {l:Nat}(hl:l<6) :
  Calls Tryz.prog 272 #[.pointer (some ⟨F.G,0,none⟩),zfQ T,.int .i64 l] W (RetSMv F l T W):=by
 have hsm:=zbQ hF.hs
 have hp:=hF.hp
 obtain⟨ha0,ha1⟩:=zN hF.hs
 obtain⟨al,hal⟩:∃ al:Nat,Hid (F.s.al=al):=⟨F.s.al.toNat,by unfold Hid;omega⟩
 have hal64:al<64:=by have:=hal.out;omega
 have HF:=za hF
 have HM:=za h
 have HT:=za hT
 have Hsm:=za hsm
 have Hp:=za hp
 have bG:=h.blk
 have hR:=h.red hF
 have HR:=za hR
 have HV:=za (show ∀ x∈T,x<65536 from hT.lt)
 have zp:=zero_pset
 have hlen:=za hT.len
 obtain⟨lo,hi,hrule⟩:=hR.rule
 have Hrule:=za hrule
 have Hmov:=za hR.mov
 have Htab:=za hR.tab
 clear hF h hT hsm hp hR hrule ha0 ha1
 unfold zfQ
 go_enter Tryz.func272,Tryz.ntmps272
 go_upto_region 2 with fail
 obtain⟨b4,b6,b7⟩:=zK (Ext.refl (((W.alloc (.cells (zaQ T).toArray 249)).alloc (.cells (Array.replicate 12 (.int .u16 0)) 249)).alloc (.cells (Array.replicate 12 (.int .u16 0)) 249)))
 have hx3:Ext W (((W.alloc (.cells (zaQ T).toArray 249)).alloc (.cells (Array.replicate 12 (.int .u16 0)) 249)).alloc (.cells (Array.replicate 12 (.int .u16 0)) 249)):=(((Ext.refl _).alloc _).alloc _).alloc _
 generalize ((W.alloc (.cells (zaQ T).toArray 249)).alloc (.cells (Array.replicate 12 (.int .u16 0)) 249)).alloc (.cells (Array.replicate 12 (.int .u16 0)) 249)=w3 at *
 rw [← zgR] at b7 b6
 have hu12:(zaQ T).toArray.size=12:=by simp [zaQ,hlen.out]
 go_upto_region 3 with (refine wpList_load_row rfl _ _ rfl _ rfl _ _ _ _ b4 Tryz.underlying249 rfl (by rw [hu12];exact zaA) ?_)
 go_wp2_with fail
 go_loopw [8,9,10,12] (fun _ _ _ i wr=>∃ (k:Nat) (U:List Nat),i=.int .i64 k∧k≤12∧Hid (MvP F.s F.p l T k U)∧Blk wr (W.heap.size+1+1) 249 (zaQ U).toArray∧Blk wr (W.heap.size+1) 249 (zaQ (List.replicate 12 0)).toArray∧Ext W wr) (fun _ _ _ i _=>12 - (intOf i).toNat)
 case atStart=>exact⟨0,_,rfl,Nat.zero_le _,za MvP.zero,b7,b6,hx3⟩
 case round =>
  clear b4 b6 b7 hx3
  obtain⟨k,U,rfl,hk,hU,b7,b6,hx⟩:=hrel
  by_cases hlt:k<12
  ·have hix:=zcT hlen.out hlt
   obtain⟨x,hx9⟩:∃ x,Hid (T.getD k 0=x):=⟨_,rfl⟩
   rw [hx9.out] at hix
   have hx16:x<65536:=by rw [← hx9.out];exact zbt HV.out k
   by_cases h0:x=0
   ·have hU2:=za (hU.out.skip (by rw [hx9.out];exact h0))
    subst h0
    go_wp2_with fail
    go_roundw
    case rel=>exact⟨k+1,U,by go_num,by omega,hU2,b7,b6,hx⟩
    case measure=>simp [intOf];omega
   ·have hkn:k<F.p.next.length:=HT.out.idx (by rw [hx9.out];exact h0)
    have hkn':(k:Int)<(F.p.next.length:Int):=by omega
    have hl6:(l:Int)<6:=by omega
    have hne:((x:Int)==0)=false:=by simp;omega
    obtain⟨gR,oR,hRA,hcR⟩:=(Hrule.out.ext hx).at_ hkn hl
    have HRA:=za hRA
    have hj:aGo F.p k l<12:=by
     have h1:=zcV Hp.out hkn hl
     have h2:=(zl Hp.out).2.1
     omega
    have hU2:=za (hU.out.step Hsm.out HV.out hj)
    rw [hx9.out] at hU2
    obtain⟨j,hjj⟩:∃ j,Hid (aGo F.p k l=j):=⟨_,rfl⟩
    rw [hjj.out] at hcR hj hU2
    have hj':(j:Int)<12:=by omega
    have hUl:=za (show j<U.length by rw [hU.out.1];exact hj)
    obtain⟨z,hz⟩:∃ z,Hid (U.getD j 0=z):=⟨_,rfl⟩
    have C7:∀ X,Ext wr X→X.cell? ⟨W.heap.size+1+1,j,none⟩=some (.int .u16 (z:Nat)):=fun X hX=>by
     rw [(b7.ext hX).cell,List.getElem?_toArray,zdW hUl.out,hz.out]
    have F7:∀ X,Ext wr X→X.frozen? ⟨W.heap.size+1+1,j,none⟩=false:=fun X hX=>(b7.ext hX).frozen j
    have hz16:z<65536:=by rw [← hz.out];exact zbt hU.out.2.1 j
    have BG:∀ X,Ext wr X→∀ i,X.cell? ⟨F.G,i,none⟩=(sfC F vs vn vu)[i]?:=fun X hX=>(bG.ext (hx.trans hX)).cell
    simp only [sfC,hal.out] at BG
    have CR:∀ X,Ext wr X→X.cell? ⟨gR,oR+k*6+l,none⟩=some (.int .i64 (j:Nat)):=fun X hX=>hX.cell_some hcR
    have hww:=Ext.refl wr
    have Hat:=za (show al=F.s.al.toNat by have:=hal.out;omega)
    obtain⟨y,hy⟩:∃ y,Hid (goS F.s l x=y):=⟨_,rfl⟩
    have hy16:y<65536:=by rw [← hy.out];exact goS_lt Hsm.out hx16
    have hor:=u16_or_nat z y hz16 hy16
    have hyw:IntKind.u16.wrap (y:Int)=y:=by rw [IntKind.wrap_u16];omega
    rw [hz.out,hy.out] at hU2
    have B7:=za b7
    have B6:=za b6
    rw [hRA] at BG
    clear b7 b6 hcR hRA h0
    cases hb:hasB al (l:Int) with
    |false =>
     have Hb:=za hb
     have hyx:=za (show x=y by
      rw [← hy.out]
      unfold goS
      rw [if_neg]
      rw [← Hat.out]
      simpa [hasB] using hb)
     clear hb
     obtain rfl:=hyx.out
     go_wp2_with (go_at_call 161;refine (zbp al (l:Int) (by unfold Sm;omega) _).mono ?_;rw [Hb.out];rintro e w' ⟨rfl,rfl⟩)
     go_roundw
     case rel=>exact⟨k+1,U.set j (z|||x),by go_num,by omega,hU2,by rw [← ziG];exact B7.out.set_ j _,B6.out.far (by simp) _,hx.setCell (p:=⟨W.heap.size+1+1,j,none⟩) (by simp;omega) _⟩
     case measure=>simp [intOf];omega
    |true =>
     have Hb:=za hb
     have hyx:=za (show zbO F.s.edges x (l:Int)=y by
      rw [← hy.out]
      unfold goS
      rw [if_pos]
      rw [← Hat.out]
      simpa [hasB] using hb)
     clear hb
     go_wp2_with (first
      |(go_at_call 161;refine (zbp al (l:Int) (by unfold Sm;omega) _).mono ?_;rw [Hb.out];rintro e w' ⟨rfl,rfl⟩)
      |(go_at_call 246;refine (impl_step (k0:=F.s.st.toNat) (Hmov.out.ext hx) (Htab.out.ext hx) hx16 hl Hsm.out.2.2.1 (by have:=Hsm.out.2.1;omega)).mono ?_;rw [hyx.out];rintro e w5 ⟨rfl,hx5⟩))
     go_roundw
     case rel=>exact⟨k+1,U.set j (z|||y),by go_num,by omega,hU2,by rw [← ziG];exact (B7.out.ext hx5).set_ j _,(B6.out.ext hx5).far (by simp) _,(hx.trans hx5).setCell (p:=⟨W.heap.size+1+1,j,none⟩) (by simp;omega) _⟩
     case measure=>simp [intOf];omega
  ·obtain rfl:k=12:=by omega
   have hu12b:(zaQ U).toArray.size=12:=by simp [zaQ,hU.out.1]
   have hres:=za (show RetSMv F l T W (.returned (zfQ U)) wr from ⟨U,rfl,hU.out,hx⟩)
   have hk12:(zaQ U).toArray.size=12:=by simp [zaQ,hU.out.1]
   go_wp2_with (first
    |(refine wpList_load_row rfl _ _ rfl _ rfl _ _ _ _ b7 Tryz.underlying249 rfl (by rw [hk12];exact zaA) ?_)
    |(refine zcp rfl _ _ rfl _ rfl rfl b6 (by simp) hU.out.1 ?_;intro w5 b6' hf5))
   have hx5:Ext W w5:=hx.frm hf5 (fun q hq e=>by subst e;omega)
   exact bodyPost_ret (v:=zfQ U) (results_cell_row (p:=6) (ty:=249) Tryz.results272 _ _ (W.heap.size+1) _ _ _ _ rfl b6' Tryz.underlying249 rfl (by rw [hk12];exact zaA)) rfl ⟨U,rfl,hU.out,hx5⟩
end
theorem zhy:((Tryz.prog).info? 249).map (fun i=>(i.zero,i.size,i.bytes))=some (some (.agg (Array.replicate 12 (.int .u16 0))),12,24):=by kernel_rfl
theorem row12_len:(Value.agg (Array.replicate 12 (.int .u16 0))).cells.size=12:=by decide
theorem fold_set:∀ (l:List Value) (k:Nat) (cs:Array Value),k+l.length=cs.size→(l.zipIdx k).foldl (fun cs x=>cs.setIfInBounds x.snd x.fst) cs=(cs.toList.take k++l).toArray
 |[],k,cs,h=>by
  have h1:cs.toList.take k=cs.toList:=List.take_of_length_le (by simp at h ⊢;omega)
  simp only [List.zipIdx_nil,List.foldl_nil,List.append_nil,h1,Array.toArray_toList]
 |a :: r,k,cs,h=>by
  simp only [List.length_cons] at h
  have hk:k<cs.toList.length:=by simp;omega
  rw [List.zipIdx_cons,List.foldl_cons,fold_set r (k+1) _ (by simp;omega)]
  congr 1
  rw [Array.toList_setIfInBounds,List.take_add_one,List.take_set_of_le (Nat.le_refl _),List.getElem?_set_self hk]
  simp
theorem fold_u16s {U:List Nat}(hU:U.length=12):List.foldl (fun cs x=>cs.setIfInBounds x.snd x.fst) #[Value.int .u16 0,.int .u16 0,.int .u16 0,.int .u16 0,.int .u16 0,.int .u16 0,.int .u16 0,.int .u16 0,.int .u16 0,.int .u16 0,.int .u16 0,.int .u16 0] (zaQ U).zipIdx=(zaQ U).toArray:=by
 rw [fold_set _ 0 _ (by rw [zbu,hU];rfl)]
 rfl
theorem zfD {l:List Oper} {T:List Nat} {Q:Exit→Act→World→Prop} {S:World→Prop} {i:Nat} {rest:zu} {o:Oper} {a:Act} {w:World}(ho:l[i]?=some o)(hq:zcP o.op=true)(hp:zfy o.op=false)(hw:Region.wanted o (yielded l.toArray a.tmps)=true)
  (x:Operand) (hop:o.op=.load 249 x) (g:Nat) (hx:a.eval x=.pointer (some ⟨g,0,none⟩)) {U:List Nat} (hU:U.length=12) (hb:∀ X,S X→Blk X g 249 (zaQ U).toArray) (h:zae Tryz.prog l T Q S rest (a.put o.dst (.agg (zaQ U).toArray)) w):zae Tryz.prog l T Q S (.one i rest) a w:=
 zbm ho hq hp hw (fun X hX=>by
  have h12:(zaQ U).toArray.size=12:=by simp [zaQ,hU]
  unfold execOp
  simp only [hop,hx,Instr.loadAt,Instr.sureAddr,Sem.run_bind,Sem.run_pure,Result.andThen_ok,run_loadVar_row X g 249 249 _ _ _ (hb X hX) Tryz.underlying249 rfl (by rw [h12];exact zaA)]) h
def RetSAdd (F:Sfx) (Ts:List (List Nat)) (nx:Nat→Nat→Int) (U:List Nat) (S:Nat→Prop) (W:World) (e:Ending) (W':World):Prop:=
 ∃ (j:Nat) (Ts':List (List Nat)) (nx':Nat→Nat→Int) (k':Nat) (M':List Nat→Option Nat) (vs' vn' vu':Value),e=.returned (.int .i64 (j:Int))∧((Ts'=Ts∧nx'=nx)∨(Ts'=Ts++[U]∧nx'=fun k l=>if k=Ts.length then -1 else nx k l))∧Ts'[j]?=some U ∧
  zdX F Ts' nx' k' M' vs' vn' vu' W'∧Kq S W W' (sfS F vs' vn' vu')
section
variable {F:Sfx} {Ts:List (List Nat)} {nx:Nat→Nat→Int} {k:Nat} {M:List Nat→Option Nat} {vs vn vu:Value} {W:World}
theorem yC13a2 {P:Prop}(h:P:=by
 refine ze fun K hK=>?_;go_simp
 refine hK.out _ _ (hwd.alloc _) ?_
 have hPe:=hP5.ext hwd
 have hqe:=hq5'.out.ext hwd
 have B3e:=za (B35.out.ext hwd)
 generalize wd6=we at *
 refine pT ?_
 refine uQ ?_
 refine zb fun K hK=>?_
 rw [fold_u16s HU.out.len]
 refine zbN F.w9 we _ _ _ rfl 249 _ 12 24 Tryz.underlying243 zhy row12_len (by decide) (.slice As Ts.length cs) Ts.length (stC Ts) (zaQ U).toArray _ rfl rfl hPe.frm.size hPe.sets h12 hone (by unfold maxLen;omega) (by omega) ?_
 intro g8 cap8 w8 hown8 hg8 hat8 hlt8
 refine hK.out _ _ ?_
 refine pT ?_
 obtain⟨hB8,hP8,hq8⟩:=hPe.pushS HF.out (U:=U) hown8 hg8 hat8
 have k8:=hB8.cell
 have f8:=hB8.frozen
 simp only [sfC] at k8
 refine zb fun K hK=>?_
 go_simp
 refine hK.out _ _ ?_
 refine pT ?_
 refine uQ ?_
 refine zb fun K hK=>?_
 go_simp
 refine hK.out _ _ ?_
 refine zf ?_
 have hq:=za (hqe.trans hq8)
 have hP:=za hP8
 have B38:=za ((B3e.out.frm (Frm.of_grown hg8) (fun e=>hWs e rfl)).far (p:=⟨F.G,10,none⟩) (by show W.heap.size≠F.G;omega) (.slice (some ⟨g8,0,none⟩) (Ts.length+1) cap8))
 clear hown8 hg8 hat8 hB8 hP8 hq8 k8 f8 hPe hqe B3e hWs
 generalize w8.setCell ⟨F.G,10,none⟩ (.slice (some ⟨g8,0,none⟩) (Ts.length+1) cap8)=w9' at *
 go_wp2_with fail
 go_meet
 exact⟨g8,cap8,hq.out,hP.out,B38.out⟩
 ):P:=h
theorem sf_add (hF:zhp F)(h:zdX F Ts nx k M vs vn vu W) {U:List Nat}(hU:WS F.p U)(hn:Ts.length≤1000000000000) :
  Calls Tryz.prog 228 #[.pointer (some ⟨F.G,0,none⟩),zfQ U] W (RetSAdd F Ts nx U (sfS F vs vn vu) W):=by
 have HF:=za hF
 have HU:=za hU
 have hdom:=za (show domP U from ⟨hU.len,hU.lt⟩)
 have h12:(zaQ U).toArray.size=12:=by simp [zaQ,hU.len]
 have hk0:k≤Ts.length:=h.le
 have hw9:=h.frm.size
 have hx1:Ext W (W.alloc (.cells (zaQ U).toArray 249)):=(Ext.refl _).alloc _
 have hM1:=za (h.ext hF hx1)
 have b3:=Blk.new W 249 (zaQ U).toArray
 obtain⟨As,cs,rfl⟩:=zi h.sets
 obtain⟨An,cn,rfl⟩:=zi h.next
 obtain⟨Au,cu,rfl⟩:=zi h.uns
 have hfar3:=za (show ¬ sfS F (.slice As Ts.length cs) (.slice An Ts.length cn) (.slice Au Ts.length cu) W.heap.size from fun hs=>by have:=h.lt hs;omega)
 clear hF h hU
 unfold zfQ
 go_enter Tryz.func228,Tryz.ntmps228
 go_upto_region 1 with fail
 generalize W.alloc (.cells (zaQ U).toArray 249)=w1 at *
 have BG:∀ X,Ext w1 X→∀ i,X.cell? ⟨F.G,i,none⟩=(sfC F (.slice As Ts.length cs) (.slice An Ts.length cn) (.slice Au Ts.length cu))[i]?:=fun X hX=>(hM1.out.blk.ext hX).cell
 simp only [sfC] at BG
 have hww:=Ext.refl w1
 have B3:=za b3
 clear b3
 refine uR (fun X=>Ext w1 X) [5] (zu.of [0,4,1,2,3,5,6,7,8,9,10]) ?_
 refine uQ ?_
 refine zfD rfl rfl rfl rfl _ rfl W.heap.size rfl HU.out.len (fun X hX=>B3.out.ext hX) ?_
 refine pT ?_
 refine ze fun K hK=>?_;go_simp
 refine hK.out _ _ hww.drew ?_
 refine pT ?_
 refine uQ ?_
 have hMd:=hM1.out.ext HF.out hww.drew
 have hxd:=hx1.trans hww.drew
 have B3d:=za (B3.out.ext hww.drew)
 clear BG B3 hM1 hx1
 generalize w1.drew=wd at *
 cases hMU:M U with
 |some j =>
  have HMU:=za hMU
  clear hMU
  refine zb fun K hK=>?_
  refine wp_mapOkG _ keyP _ _ rfl rfl hMd.map U rfl hdom.out ?_
  rw [HMU.out]
  intro cc hcc
  obtain rfl:=hcc j rfl
  refine hK.out _ _ ?_
  refine pT ?_
  clear hcc
  refine uQ ?_
  refine zf ?_
  have hres:=za (show RetSAdd F Ts nx U (sfS F (.slice As Ts.length cs) (.slice An Ts.length cn) (.slice Au Ts.length cu)) W (.returned (.int .i64 (j:Int))) wd from
   ⟨j,Ts,nx,k,M,_,_,_,rfl,.inl ⟨rfl,rfl⟩,hMd.num U j HMU.out,hMd,Kq.refl.ext hxd⟩)
  go_wp2_with fail
  go_ret
  exact hres.out
 |none =>
  have HMU:=za hMU
  clear hMU
  refine zb fun K hK=>?_
  refine wp_mapOkG _ keyP _ _ rfl rfl hMd.map U rfl hdom.out ?_
  rw [HMU.out]
  intro cc hcc
  refine hK.out _ _ ?_
  refine pT ?_
  clear hcc
  refine uQ ?_
  refine zf ?_
  have kd:=hMd.blk.cell
  simp only [sfC] at kd
  have hWw:=hMd.frm.size
  go_upto_region 5 with fail
  have hx2:=hxd.drew
  have BG:∀ X,Ext wd X→∀ i,X.cell? ⟨F.G,i,none⟩=(sfC F (.slice As Ts.length cs) (.slice An Ts.length cn) (.slice Au Ts.length cu))[i]?:=fun X hX=>(hMd.blk.ext hX).cell
  simp only [sfC] at BG
  have hww:=Ext.refl wd
  refine uR (fun X=>Ext wd X) [6] (zu.of [0,4,5,1,2,3,6]) ?_
  refine uQ ?_
  refine zfD rfl rfl rfl rfl _ rfl W.heap.size rfl HU.out.len (fun X hX=>B3d.out.ext hX) ?_
  refine pT ?_
  refine uQ ?_
  refine ze fun K hK=>?_;go_simp
  refine hK.out _ _ hww.drew ?_
  refine pT ?_
  refine uQ ?_
  refine zb fun K hK=>?_
  refine wp_mapSetG _ keyP _ _ _ (.inl rfl) rfl (hMd.ext HF.out hww.drew).map (by omega) U Ts.length rfl rfl hdom.out (by omega) ?_
  intro w5 hmap5 hg5
  refine hK.out _ _ ?_
  refine pT ?_
  refine zf ?_
  obtain⟨hP5,hq5⟩:=(hMd.ext HF.out hww.drew).p.mapSet HF.out hmap5 hg5
  have B35:=za ((B3d.out.ext hww.drew).frm (Frm.of_grown hg5) (fun e=>by
   have h1:=Option.some.inj e
   exact hfar3.out (.inl ⟨by rw [← h1];exact HF.out.b0m,by rw [← h1];exact HF.out.mw⟩)))
  have hq5':=za (Kq.back hx2 hq5)
  have hnum:=za (hMd.num.add U)
  have hws:=za hMd.ws
  clear BG hww hMd hmap5 hg5 hq5 kd hx2
  go_upto_region 6 with fail
  go_cut [] (fun wx=>∃ (g8 cap8:Nat),Kq (sfS F (.slice As Ts.length cs) (.slice An Ts.length cn) (.slice Au Ts.length cu)) W wx (sfS F (.slice (some ⟨g8,0,none⟩) (Ts.length+1) cap8) (.slice An Ts.length cn) (.slice Au Ts.length cu))∧zgX F (Ts++[U]) Ts.length nx (unC F.p Ts) (k+1) (updG M U Ts.length) (.slice (some ⟨g8,0,none⟩) (Ts.length+1) cap8) (.slice An Ts.length cn) (.slice Au Ts.length cu) wx∧Blk wx W.heap.size 249 (zaQ U).toArray)
  case first =>
   have BG:∀ X,Ext w5 X→∀ i,X.cell? ⟨F.G,i,none⟩=(sfC F (.slice As Ts.length cs) (.slice An Ts.length cn) (.slice Au Ts.length cu))[i]?:=fun X hX=>(hP5.blk.ext hX).cell
   simp only [sfC] at BG
   have hww:=Ext.refl w5
   have hone:∀ u∈(zaQ U).toArray.toList,u.oneCell'=true:=fun u hu=>by
    have hu2:u∈zaQ U:=by simpa using hu
    obtain⟨z,_,rfl⟩:=List.mem_map.1 hu2
    rfl
   have hGW:F.G<W.heap.size:=by have:=HF.out.Gw;omega
   have hWs:∀ {q:Nat},(Value.slice As Ts.length cs).ownBlock=some q→W.heap.size≠q:=fun hq e=>hfar3.out (.inr (.inl (by rw [e];exact hq)))
   refine uR (fun X=>Ext w5 X) [7,8,10] (zu.app [0,1,5] (zu.two 2 (zu.of [3,4,6,7,8,9,10]) 6 (zu.of [2,3,4,7,8,9,10]))) ?_
   refine uQ ?_
   refine zfD rfl rfl rfl rfl _ rfl W.heap.size rfl HU.out.len (fun X hX=>B35.out.ext hX) ?_
   refine pT ?_
   have hwd:=hww.drew
   generalize w5.drew=wd6 at *
   refine zm (fun K hK=>?_) (fun K hK=>?_)
   ·go_simp
    refine hK.out _ _ hwd ?_
    refine pT ?_
    refine uQ ?_
    exact yC13a2
   ·go_simp
    refine hK.out _ _ (hwd.alloc _) ?_
    refine pT ?_
    exact yC13a2
  case rest =>
   obtain⟨g8,cap8,hq8,hP8,b38⟩:=hcut
   clear hP5 hq5' B35
   have k8:=hP8.blk.cell
   simp only [sfC] at k8
   have Hq8:=za hq8
   have hWn:∀ {q:Nat},(Value.slice An Ts.length cn).ownBlock=some q→W.heap.size≠q:=fun hq e=>hfar3.out (.inr (.inr (.inl (by rw [e];exact hq))))
   have hGW:F.G<W.heap.size:=by have:=HF.out.Gw;omega
   go_upto_region 8 with (at_builtin;refine zaZ F.w9 wc rfl _ _ _ rfl 179 _ 6 48 Tryz.underlying177 info_row6 row6_len (by decide) (.slice An Ts.length cn) Ts.length (nxC Ts.length nx) _ _ rfl rfl hP8.frm.size hP8.next rfl (by simp [Value.oneCell']) (by unfold maxLen;omega) (by omega) ?_;intro g7 cap7 w7 hown7 hg7 hat7 hlt7;obtain⟨hB7,hP7,hq7⟩:=hP8.pushN HF.out hown7 hg7 hat7;have k7:=hB7.cell;have f7:=hB7.frozen;simp only [sfC] at k7)
   have hqn:=za (Hq8.out.trans hq7)
   have hPn:=za hP7
   have b3n:=(b38.frm (Frm.of_grown hg7) (fun e=>hWn e rfl)).far (p:=⟨F.G,12,none⟩) (by show W.heap.size≠F.G;omega) (.slice (some ⟨g7,0,none⟩) (Ts.length+1) cap7)
   clear hown7 hg7 hat7 hB7 hP7 hq7 k7 f7 hP8 hq8 Hq8 b38 k8 hWn
   generalize w7.setCell ⟨F.G,12,none⟩ (.slice (some ⟨g7,0,none⟩) (Ts.length+1) cap7)=wn at *
   go_upto_block 0 with (refine wpList_load_row rfl _ _ rfl _ rfl _ _ _ _ b3n Tryz.underlying249 rfl (by rw [h12];exact zaA) ?_)
   have kn:=hPn.out.blk.cell
   simp only [sfC] at kn
   have hRn:=za (HF.out.red wn hPn.out.frm)
   go_wp2_with fail
   go_loopw [8,9,10,54] (fun v8 _ _ i wr=>∃ q:Nat,v8=.bool (zfp F.p U q)∧i=.int .i64 q∧q≤12∧wr=wn) (fun _ _ _ i _=>12 - (intOf i).toNat)
   case atStart=>exact⟨0,rfl,rfl,Nat.zero_le _,rfl⟩
   case round =>
    obtain⟨q,rfl,rfl,hq,rfl⟩:=hrel
    by_cases hlt:q<12
    ·have hix:=zcT HU.out.len hlt
     have hlt':(q:Int)<12:=by omega
     obtain⟨x,hx9⟩:∃ x,Hid (U.getD q 0=x):=⟨_,rfl⟩
     rw [hx9.out] at hix
     have hst:=za (show zfp F.p U (q+1)=(zfp F.p U q || (x != 0&&!zcg F.p q)) by rw [← hx9.out];rfl)
     cases hb:zfp F.p U q with
     |true =>
      have hst2:=za (show zfp F.p U (q+1)=true by rw [hst.out,hb];rfl)
      clear hst
      go_wp2_with fail
      go_roundw
      case rel=>exact⟨q+1,by rw [hst2.out],by go_num,by omega,trivial⟩
      case measure=>simp [intOf];omega
     |false =>
      by_cases h0:x=0
      ·have hst2:=za (show zfp F.p U (q+1)=false by rw [hst.out,hb,h0];rfl)
       subst h0
       clear hst
       go_wp2_with fail
       go_roundw
       case rel=>exact⟨q+1,by rw [hst2.out],by go_num,by omega,trivial⟩
       case measure=>simp [intOf];omega
      ·have hqn:=HU.out.idx (i:=q) (by rw [hx9.out];exact h0)
       obtain⟨loA,hiA,ziK⟩:=hRn.out.acc
       have hal:=(zl HF.out.hp).2
       obtain⟨aA,y,hA,_,_,hy,hcy⟩:=ziK.bool (k:=q) (by have:=ziK.length;rw [zaH] at this;omega)
       have hst2:=za (show zfp F.p U (q+1)=!y by
        rw [hst.out,hb]
        have:zcg F.p q=y:=by unfold zcg;rw [List.getD_eq_getElem?_getD,hy.out];rfl
        rw [this]
        simp [h0])
       have hne:((x:Int) != 0)=true:=by simp;omega
       rw [hA] at kn
       have hqm:(q:Int)<(F.m':Int):=by have:=ziK.length;rw [zaH] at this;omega
       clear hst ziK hA hal
       go_wp2_with fail
       go_roundw
       case rel=>exact⟨q+1,by rw [hst2.out],by go_num,by omega,trivial⟩
       case measure=>simp [intOf];omega
    ·obtain rfl:q=12:=by omega
     have hPe:=hPn.out
     have ul:(unC F.p Ts).length=Ts.length:=by simp [unC]
     have huns:=hPe.uns
     rw [ul] at huns
     have hqe:=hqn.out
     have hbb:=za (show zfp F.p U 12=badS F.p U from rfl)
     obtain⟨bb,hbq⟩:∃ bb,Hid (bb=zfp F.p U 12):=⟨_,rfl⟩
     rw [← hbq.out]
     clear hPn hqn
     go_wp2_with (at_builtin;refine zaZ F.w9 wr rfl _ _ _ rfl 4 _ 1 1 Tryz.underlying26 zbH rfl (by decide) (.slice Au Ts.length cu) Ts.length (zP (unC F.p Ts)) _ _ rfl rfl hPe.frm.size huns rfl (by simp [Value.oneCell']) (by unfold maxLen;omega) (by omega) ?_;intro g6 cap6 w6 hown6 hg6 hat6 hlt6;rw [← ul] at hown6;obtain⟨hB6,hP6,hq6⟩:=hPe.pushU HF.out (x:=bb) hown6 hg6 hat6;have k6:=hB6.cell;have f6:=hB6.frozen;simp only [sfC] at k6)
     go_ret
     rw [ul] at hP6 hq6
     have hun:unC F.p (Ts++[U])=unC F.p Ts++[bb]:=by rw [unC_snoc,← hbb.out,← hbq.out]
     refine⟨Ts.length,Ts++[U],_,k+1,updG M U Ts.length,_,_,_,rfl,.inr ⟨rfl,rfl⟩,by simp,zgX.m (by rw [hun,List.length_append,List.length_singleton];exact hP6) hnum.out (by rw [List.length_append,List.length_singleton];omega) (fun T hT=>?_),hqe.trans hq6⟩
     rcases List.mem_append.1 hT with h1|h1
     ·exact hws.out T h1
     ·obtain rfl:=List.mem_singleton.1 h1
      exact HU.out.len
end
end Go.Proofs.YtcfchopfijalpaaGreatDoor
namespace Go.Proofs.YtcfchopfijalpaaGreatDoor
open Go Go.RowKit Go.WideMaps Go.Maps
def memP (W:World) (g:Nat):List Nat:=(List.range 12).map fun j=>match W.cell? ⟨g,j,none⟩ with|some (.int _ z)=>z.toNat|_=>0
theorem memP_blk {W:World} {g:Nat} {t:TypeId} {T:List Nat}(h:Blk W g t (zaQ T).toArray)(hT:T.length=12):memP W g=T:=by
 refine List.ext_getElem? fun j=>?_
 unfold memP
 rw [List.getElem?_map]
 rcases Nat.lt_or_ge j 12 with hj|hj
 ·rw [List.getElem?_range hj,Option.map_some,h.cell,List.getElem?_toArray,zdW (by omega),List.getD_eq_getElem?_getD,List.getElem?_eq_getElem (by omega)]
  simp
 ·rw [List.getElem?_eq_none (by simpa using hj),List.getElem?_eq_none (by omega)]
  rfl
theorem run_eq_pset {T U:List Nat}(hT:domP T)(hU:domP U) (w:World):(Op.equalIn 10000 249 (zfQ T) (zfQ U)).run Tryz.prog w=.ok (decide (T=U)) w:=by
 show (Op.equal 249 (zfQ T) (zfQ U)).run Tryz.prog w=.ok (decide (T=U)) w
 obtain⟨l,hl⟩:=Option.isSome_iff_exists.1 (zdF hT)
 obtain⟨k,hk⟩:=Option.isSome_iff_exists.1 (zdF hU)
 obtain⟨r,hr,hi⟩:=run_equal_deep w (m:=2) (by omega) (zhA.at 0) zhA.wide hl hk
 rw [hr]
 congr 1
 rw [Bool.eq_iff_iff,hi,decide_eq_true_eq]
 constructor
 ·rintro rfl
  exact pset_inj ((Keyed.of_law zhA.law).inj hl hk)
 ·rintro rfl
  exact Option.some.inj (hl.symm.trans hk)
def RetSCl (F:Sfx) (T:List Nat) (W:World) (e:Ending) (W':World):Prop:=∃ U,e=.returned (zfQ U)∧zbd U 12 (Cl F.s F.p F.L (bq T))∧Ext W W'
section
variable {F:Sfx} {Ts:List (List Nat)} {nx:Nat→Nat→Int} {k:Nat} {M:List Nat→Option Nat} {vs vn vu:Value} {W:World}
theorem ClI.ws {s:Sys} {p:Aut} {A:Nat} {T0 T:List Nat}(hp:zk p=true)(h0:WS p T0)(h:ClI s p A (bq T0) 12 T):WS p T:=
 ⟨h.len,h.lt,fun i q hb=>cl_row hp (fun q i hb=>h0.row i q hb) (h.sub i q hb)⟩
theorem hidS_iff {s:Sys} {L l:Nat}:l∈hidS s L↔hidL s L l:=by
 unfold hidS hidL
 rw [zz,zhY]
 simp
theorem sf_close (hF:zhp F)(h:zdX F Ts nx k M vs vn vu W) {T0:List Nat}(hT0:WS F.p T0) :
  Calls Tryz.prog 229 #[.pointer (some ⟨F.G,0,none⟩),zfQ T0] W (RetSCl F T0 W):=by
 have HF:=za hF
 have HM:=za h
 have HT0:=za hT0
 have hsm:=zbQ hF.hs
 have Hp:=za hF.hp
 have bG:=h.blk
 have zp:=zero_pset
 obtain⟨loH,hiH,hid⟩:=(h.red hF).hid
 have Hhid:=za hid
 have h120:(zaQ T0).toArray.size=12:=by simp [zaQ,hT0.len]
 have hI0:=za (show ClI F.s F.p F.L (bq T0) 12 T0 from hT0.stand.clI)
 clear hF h hT0 hsm hid
 unfold zfQ
 go_enter Tryz.func229,Tryz.ntmps229
 go_upto_block 0 with fail
 obtain⟨b3,b4⟩:=zE (Ext.refl ((W.alloc (.cells (zaQ T0).toArray 249)).alloc (.cells (Array.replicate 12 (.int .u16 0)) 249)))
 have hx2:Ext W ((W.alloc (.cells (zaQ T0).toArray 249)).alloc (.cells (Array.replicate 12 (.int .u16 0)) 249)):=((Ext.refl _).alloc _).alloc _
 generalize (W.alloc (.cells (zaQ T0).toArray 249)).alloc (.cells (Array.replicate 12 (.int .u16 0)) 249)=w2 at *
 rw [← zgR] at b4
 have hm0:=room (memP w2 W.heap.size)
 go_wp2_with fail
 go_loopw [5,7,8,9] (fun _ _ _ _ wr=>∃ T,Blk wr W.heap.size 249 (zaQ T).toArray∧Blk wr (W.heap.size+1) 249 (zaQ (List.replicate 12 0)).toArray∧Hid (ClI F.s F.p F.L (bq T0) 12 T)∧Ext W wr) (fun _ _ _ _ wr=>room (memP wr W.heap.size))
 case atStart=>exact⟨T0,b3,b4,hI0,hx2⟩
 case round =>
  clear b3 b4 hx2 hI0 h120 hm0
  obtain⟨wo,hwo⟩:∃ wo,wo=wr:=⟨_,rfl⟩
  subst hwo
  obtain⟨T,b3,b4,hI,hx⟩:=hrel
  have h12:(zaQ T).toArray.size=12:=by simp [zaQ,hI.out.len]
  have hbn:=Blk.new wo 249 (Array.replicate 12 (.int .u16 0))
  rw [← zgR] at hbn
  have hxa:Ext wo (wo.alloc (.cells (Array.replicate 12 (.int .u16 0)) 249)):=(Ext.refl _).alloc _
  go_upto_region 2 with (first
    |(refine wpList_load_row rfl _ _ rfl _ rfl _ _ _ _ b3 Tryz.underlying249 rfl (by rw [h12];exact zaA) ?_)
    |(refine zcp rfl _ _ rfl _ rfl rfl hbn (by simp) hI.out.len ?_;intro w5 b5 hf5))
  have hx5:Ext wo w5:=hxa.frm hf5 (fun q hq e=>by subst e;omega)
  have b35:=b3.ext hx5
  have BG:∀ X,Ext wo X→∀ i,X.cell? ⟨F.G,i,none⟩=(sfC F vs vn vu)[i]?:=fun X hX=>(bG.ext (hx.trans hX)).cell
  simp only [sfC] at BG
  have hB3:=za b3
  have hB4:=za b4
  obtain⟨g5,hg5⟩:∃ g5,Hid (g5=wo.heap.size):=⟨_,rfl⟩
  rw [← hg5.out] at b5 hf5 ⊢
  have hst:Hid (ClI F.s F.p F.L (bq T0) 12 T∧(∀ i q,zcX T i q→zcX T i q)∧∀ (jj l:Nat),jj<0→(hidS F.s F.L)[jj]?=some l→∃ V,MvP F.s F.p l T 12 V∧Has T V 12):=⟨hI.out,fun _ _ h=>h,fun jj l h=>by omega⟩
  clear b3 b4 b35 hf5 hbn hxa
  obtain⟨HH,hHH⟩:∃ HH,Hid (HH=hidS F.s F.L):=⟨_,rfl⟩
  rw [← hHH.out] at BG hst
  have Hh:=za Hhid.out
  rw [← hHH.out] at Hh
  obtain⟨HA,hHAe⟩:∃ HA,Hid (HA=F.HA):=⟨_,rfl⟩
  rw [← hHAe.out] at BG Hh
  have hH6:HH.length≤6:=by rw [hHH.out];exact zI _ 6
  go_wp2_with fail
  go_loopw [7,8,9,16] (fun _ _ _ i wr=>∃ (j:Nat) (M2:List Nat),i=.int .i64 j∧j≤HH.length∧Blk wr g5 249 (zaQ M2).toArray∧Ext wo wr∧Hid (ClI F.s F.p F.L (bq T0) 12 M2∧(∀ i q,zcX T i q→zcX M2 i q)∧∀ (jj l:Nat),jj<j→HH[jj]?=some l→∃ V,MvP F.s F.p l T 12 V∧Has M2 V 12)) (fun _ _ _ i _=>HH.length - (intOf i).toNat)
  case atStart=>exact⟨0,T,rfl,Nat.zero_le _,b5,hx5,hst⟩
  case round =>
   clear b5 hx5 hst
   obtain⟨j,M2,rfl,hj,b5,hx5,hst⟩:=hrel
   by_cases hjl:j<HH.length
   ·obtain⟨bl,ol,l,rfl,_,_,hl,hcl⟩:=(Hh.out.ext zbb.ok (hx.trans hx5)).num hjl
    have hlH:hidL F.s F.L l:=hidS_iff.1 (by rw [← hHH.out];exact List.mem_of_getElem? hl.out)
    have HlH:=za hlH
    have hjl':(j:Int)<(HH.length:Int):=by omega
    have B3r:=hB3.out.ext hx5
    have bGr:=BG wr hx5
    clear hlH
    go_upto_region 6 with (first
     |(refine wpList_load_row rfl _ _ rfl _ rfl _ _ _ _ B3r Tryz.underlying249 rfl (by rw [h12];exact zaA) ?_)
     |(go_at_call 272;refine (sf_move HF.out (HM.out.ext HF.out (hx.trans hx5)) (ClI.ws Hp.out HT0.out hI.out) HlH.out.1).mono ?_;rintro e w6 ⟨V,rfl,hV,hx6⟩))
    have hx56:=hx5.trans hx6
    have hb5:=b5.ext hx6
    have hV12:=za hV.1
    have HV:=za hV
    have hIn:Hid ((ClI F.s F.p F.L (bq T0) 12 M2∧(∀ i q,zcX T i q→zcX M2 i q)∧∀ (jj l:Nat),jj<j→HH[jj]?=some l→∃ V,MvP F.s F.p l T 12 V∧Has M2 V 12)∧Has M2 V 0):=⟨hst.out,Has.zero _ _⟩
    clear hst hV b5 hcl B3r bGr hx6
    go_wp2_with fail
    go_loopw [8,9,24] (fun _ _ i wr=>∃ (k:Nat) (M3:List Nat),i=.int .i64 k∧k≤12∧Blk wr g5 249 (zaQ M3).toArray∧Ext wo wr∧Hid ((ClI F.s F.p F.L (bq T0) 12 M3∧(∀ i q,zcX T i q→zcX M3 i q)∧∀ (jj l:Nat),jj<j→HH[jj]?=some l→∃ V,MvP F.s F.p l T 12 V∧Has M3 V 12)∧Has M3 V k)) (fun _ _ i _=>12 - (intOf i).toNat)
    case atStart=>exact⟨0,M2,rfl,Nat.zero_le _,hb5,hx56,hIn⟩
    case round =>
     clear hb5 hx56 hIn
     obtain⟨k,M3,rfl,hk,b5,hx5,hIn⟩:=hrel
     by_cases hlt:k<12
     ·have hix:∀ X:World,(Instr.index 249 (zfQ V) (.int .i64 (k:Int))).run Tryz.prog X=.ok (.int .u16 (V.getD k 0:Nat)) X:=fun X=>zcT hV12.out hlt X
      have hM12:=za hIn.out.1.1.len
      have hk':(k:Int)<12:=by omega
      obtain⟨x,hx9⟩:∃ x,Hid (V.getD k 0=x):=⟨_,rfl⟩
      obtain⟨z,hz⟩:∃ z,Hid (M3.getD k 0=z):=⟨_,rfl⟩
      rw [hx9.out] at hix
      have hx16:x<65536:=by rw [← hx9.out];exact zbt HV.out.2.1 k
      have hz16:z<65536:=by rw [← hz.out];exact zbt hIn.out.1.1.lt k
      have hor:=u16_or_nat z x hz16 hx16
      have c5:wr.cell? ⟨g5,k,none⟩=some (.int .u16 (z:Nat)):=by
       rw [b5.cell,List.getElem?_toArray,zdW (by rw [hM12.out];exact hlt),hz.out]
      have f5:=b5.frozen k
      have hkM:k<M3.length:=by rw [hM12.out];exact hlt
      have hIn2:Hid ((ClI F.s F.p F.L (bq T0) 12 (M3.set k (z|||x))∧(∀ i q,zcX T i q→zcX (M3.set k (z|||x)) i q)∧∀ (jj l:Nat),jj<j→HH[jj]?=some l→∃ V,MvP F.s F.p l T 12 V∧Has (M3.set k (z|||x)) V 12)∧Has (M3.set k (z|||x)) V (k+1)):=by
       obtain⟨⟨i1,i2,i3⟩,i4⟩:=hIn.out
       rw [← hz.out,← hx9.out]
       exact⟨⟨i1.join hI.out HV.out HlH.out hlt,fun i q hb=>(zcl hkM _ _ _).2 (.inl (i2 i q hb)),fun jj l h1 h2=>by
        obtain⟨V,v1,v2⟩:=i3 jj l h1 h2
        exact⟨V,v1,v2.set hkM⟩⟩,i4.step hkM⟩
      have hgw:wo.heap.size≤g5:=by rw [hg5.out];exact Nat.le_refl _
      clear hIn
      go_wp2_with fail
      go_roundw
      case rel=>exact⟨k+1,M3.set k (z|||x),by go_num,by omega,by rw [← ziG];exact b5.set_ k _,hx5.setCell (p:=⟨g5,k,none⟩) hgw _,hIn2⟩
      case measure=>simp [intOf];omega
     ·have hk12:12≤k:=by omega
      have hIn2:Hid (ClI F.s F.p F.L (bq T0) 12 M3∧(∀ i q,zcX T i q→zcX M3 i q)∧∀ (jj l:Nat),jj<j+1→HH[jj]?=some l→∃ V,MvP F.s F.p l T 12 V∧Has M3 V 12):=by
       obtain⟨⟨i1,i2,i3⟩,i4⟩:=hIn.out
       refine⟨i1,i2,fun jj l' h1 h2=>?_⟩
       rcases Nat.lt_or_eq_of_le (Nat.le_of_lt_succ h1) with h3|rfl
       ·exact i3 jj l' h3 h2
       ·have h4:=hl.out
        rw [h2] at h4
        obtain rfl:=Option.some.inj h4
        exact⟨V,HV.out,fun i q hi hb=>i4 i q (by omega) hb⟩
      clear hIn
      go_wp2_with fail
      go_roundw
      case rel=>exact⟨j+1,M3,by go_num,by omega,b5,hx5,hIn2⟩
      case measure=>simp [intOf];omega
   ·have hjl2:¬ (j:Int)<(HH.length:Int):=by omega
    have hcl:∀ l,hidL F.s F.L l→∃ V,MvP F.s F.p l T 12 V∧Has M2 V 12:=fun l hl=>by
     obtain⟨jj,hjj⟩:=List.getElem?_of_mem (hidS_iff.2 hl)
     rw [← hHH.out] at hjj
     exact hst.out.2.2 jj l (by have:=(List.getElem?_eq_some_iff.1 hjj).1;omega) hjj
    have B3r:=hB3.out.ext hx5
    have B4r:=hB4.out.ext hx5
    have hM12:(zaQ M2).toArray.size=12:=by simp [zaQ,hst.out.1.len]
    have heq:=run_eq_pset (T:=M2) (U:=T) ⟨hst.out.1.len,hst.out.1.lt⟩ ⟨hI.out.len,hI.out.lt⟩
    unfold zfQ at heq
    by_cases hMT:M2=T
    ·have hdec:decide (M2=T)=true:=by simpa using hMT
     rw [hdec] at heq
     have HMT:=za hMT
     clear hMT
     go_wp2_with (first
      |(refine wpList_load_row rfl _ _ rfl _ rfl _ _ _ _ b5 Tryz.underlying249 rfl (by rw [hM12];exact zaA) ?_)
      |(refine wpList_load_row rfl _ _ rfl _ rfl _ _ _ _ B3r Tryz.underlying249 rfl (by rw [h12];exact zaA) ?_)
      |(refine zcp rfl _ _ rfl _ rfl rfl B4r (by simp) hI.out.len ?_;intro w7 b7 hf7))
     have hsw:=(hx.trans hx5).size
     have hx7:Ext W w7:=(hx.trans hx5).frm hf7 (fun q hq e=>by subst e;omega)
     have hcl2:zbd T 12 (Cl F.s F.p F.L (bq T0)):=hI.out.stop (fun l hl=>by
      obtain⟨V,v1,v2⟩:=hcl l hl
      rw [HMT.out] at v2
      exact⟨V,v1,v2⟩)
     exact bodyPost_ret (v:=zfQ T) (results_cell_row (p:=4) (ty:=249) Tryz.results229 _ _ (W.heap.size+1) _ _ _ _ rfl b7 Tryz.underlying249 rfl (by rw [h12];exact zaA)) rfl ⟨T,rfl,hcl2,hx7⟩
    ·have hdec:decide (M2=T)=false:=by simpa using hMT
     rw [hdec] at heq
     have hrm:=za (room_grow (by rw [hI.out.len,hst.out.1.len]) hst.out.1.lt hst.out.2.1 (fun e=>hMT e.symm))
     have hroT:=za (memP_blk hB3.out hI.out.len)
     clear hMT
     go_wp2_with (first
      |(refine wpList_load_row rfl _ _ rfl _ rfl _ _ _ _ b5 Tryz.underlying249 rfl (by rw [hM12];exact zaA) ?_)
      |(refine wpList_load_row rfl _ _ rfl _ rfl _ _ _ _ B3r Tryz.underlying249 rfl (by rw [h12];exact zaA) ?_)
      |(refine zcp rfl _ _ rfl _ rfl rfl B3r hI.out.len hst.out.1.len ?_;intro w7 b7 hf7))
     have hsw:=(hx.trans hx5).size
     have hx7:Ext W w7:=(hx.trans hx5).frm hf7 (fun q hq e=>by subst e;omega)
     go_roundw
     case rel=>exact⟨M2,b7,B4r.frm hf7 (by omega),za hst.out.1,hx7⟩
     case measure =>
      show room (memP w7 W.heap.size)<room (memP wo W.heap.size)
      rw [memP_blk b7 hst.out.1.len,hroT.out]
      exact hrm.out
end
end Go.Proofs.YtcfchopfijalpaaGreatDoor
namespace Go.Proofs.YtcfchopfijalpaaGreatDoor
open Go Go.RowKit
theorem MvP.ws {s:Sys} {p:Aut} {l:Nat} {T V:List Nat}(h:MvP s p l T 12 V)(hp:zk p=true)(hl:l<6)(hT:WS p T):WS p V:=
 ⟨h.1,h.2.1,fun j q' hb=>by
  obtain⟨i,q,-,h2,-,rfl⟩:=(h.2.2 j q').1 hb
  exact zcV hp (hT.row i q h2) hl⟩
theorem zii {s:Sys} {p:Aut} {A l:Nat} {T V U:List Nat}(hT:WS p T)(hV:MvP s p l T 12 V)(hU:zbd U 12 (Cl s p A (bq V))):Lead s p A l T U:=by
 unfold Lead
 rw [← (hV.fin hT.stand).eq]
 exact hU
section
variable {F:Sfx} {Ts:List (List Nat)} {nx:Nat→Nat→Int} {k:Nat} {M:List Nat→Option Nat} {vs vn vu:Value} {W W':World}
theorem zdX.setN {g n c q l:Nat} {v:Int}(h:zdX F Ts nx k M vs (.slice (some ⟨g,0,none⟩) n c) vu W)(hq:q<Ts.length)(hl:l<6) :
  zdX F Ts (fun k' l'=>if k'=q∧l'=l then v else nx k' l') k M vs (.slice (some ⟨g,0,none⟩) n c) vu (W.setCell ⟨g,q*6+l,none⟩ (.int .i64 v))∧Kq (sfS F vs (.slice (some ⟨g,0,none⟩) n c) vu) W (W.setCell ⟨g,q*6+l,none⟩ (.int .i64 v)) (sfS F vs (.slice (some ⟨g,0,none⟩) n c) vu):=by
 have hf:=Frm.setCell W g (q*6+l) (.int .i64 v)
 have hn:=h.next
 have hg:(Value.slice (some ⟨g,0,none⟩) n c).ownBlock=some g:=rfl
 have hnn:n=Ts.length:=by
  rcases hn.2 with ⟨h1,h2⟩|⟨g',c',cur,h1,_⟩
  ·injection h1 with h1;cases h1
  ·injection h1
 subst hnn
 have hss:=(hn.stored (q*6+l) (.int .i64 v)).1
 rw [nxC_set hq hl] at hss
 refine⟨⟨⟨h.frm.os,h.frm.tape,h.frm.output,by simpa using h.frm.size,fun j hj hn'=>?_⟩,h.blk.far (fun e=>zF hn h.blk (by decide) hg e.symm) _,zg h.sets hf (fun b hb e=>zaX h.sets hn (by decide) hb (by rw [e];rfl)),hss,zg h.uns hf (fun b hb e=>zaX h.uns hn (by decide) hb (by rw [e];rfl)),h.map.frm hf (fun e=>h.map.farOwn hn (by rw [e];rfl)),h.num,h.le,h.ws⟩,hf.mono (fun b _ e=>.inr (.inr (.inl (by rw [e];rfl)))),fun b hb=>.inl hb⟩
 refine (hf.block j (by have:=h.frm.size;omega) (fun e=>?_)).trans (h.frm.block j hj hn')
 have:=(hn.lt g hg).1
 omega
def RetSAf (F:Sfx) (Ts:List (List Nat)) (T:List Nat) (n l:Nat) (S:Nat→Prop) (W:World) (e:Ending) (W':World):Prop:=
 ∃ (j:Nat) (Ts':List (List Nat)) (nx':Nat→Nat→Int) (k':Nat) (M':List Nat→Option Nat) (vs' vn' vu':Value) (V:List Nat),e=.returned (.int .i64 (j:Int))∧SfI F.s F.p F.L Ts' nx'∧Ts'.length≤Ts.length+1∧Ts'[n]?=some T∧Ts'[j]?=some V∧Lead F.s F.p F.L l T V ∧
  zdX F Ts' nx' k' M' vs' vn' vu' W'∧Kq S W W' (sfS F vs' vn' vu')
theorem sf_after (hF:zhp F)(h:zdX F Ts nx k M vs vn vu W)(hI:SfI F.s F.p F.L Ts nx) {T:List Nat} {n l:Nat}(hT:Ts[n]?=some T)(hl:l<6)(hn:Ts.length≤200000000000) :
  Calls Tryz.prog 230 #[.pointer (some ⟨F.G,0,none⟩),.int .i64 n,.int .i64 l] W (RetSAf F Ts T n l (sfS F vs vn vu) W):=by
 have HF:=za hF
 have HI:=za hI
 have HT:=za hT
 have hnl:=(List.getElem?_eq_some_iff.1 hT).1
 have hnl':(n:Int)<(Ts.length:Int):=by omega
 have hl6:(l:Int)<6:=by omega
 have hWS:=za (hI.ws T (List.mem_of_getElem? hT))
 obtain⟨As,cs,rfl⟩:=zi h.sets
 obtain⟨An,cn,rfl⟩:=zi h.next
 obtain⟨gn,rfl,hgn,-⟩:=zaq h.next (by omega)
 obtain⟨gs,rfl,hgs,-⟩:=zaq h.sets (by omega)
 have hM:=za h
 have kG:=h.blk.cell
 simp only [sfC] at kG
 have cN:W.cell? ⟨gn,n*6+l,none⟩=some (.int .i64 (nx n l)):=by rw [h.next.cellAt _ (by omega),zev hnl hl]
 have hnx:=za (hI.nx n l hnl hl)
 clear hF h hI hT
 rcases hnx.out with hneg|⟨j,T1,U,hj,hT1,hU,hLd⟩
 ·rw [hneg] at cN
  have hrange:W.rangeAt gs (n*12) (zaQ T):=fun i u hu=>by
   have hi:i<12:=by have:=(List.getElem?_eq_some_iff.1 hu).1;rw [zbu,hWS.out.len] at this;exact this
   rw [hM.out.sets.cellAt _ (by omega)]
   exact stC_drop hM.out.ws HT.out i u hu
  have h12:(zaQ T).length=12:=by rw [zbu];exact hWS.out.len
  clear hneg
  go_enter Tryz.func230,Tryz.ntmps230
  go_upto_region 3 with (first
   |(refine wpList_load_mid rfl _ _ rfl gs (n*12) rfl (zaQ T) _ hrange Tryz.underlying249 rfl (by rw [h12];exact zaA) ?_)
   |(go_at_call 272;refine (sf_move HF.out hM.out hWS.out hl).mono ?_;rintro e w1 ⟨V,rfl,hV,hx1⟩)
   |(go_at_call 229;refine (sf_close HF.out (hM.out.ext HF.out hx1) (hV.ws HF.out.hp hl hWS.out)).mono ?_;rintro e w2 ⟨U,rfl,hU,hx2⟩)
   |(go_at_call 228;refine (sf_add HF.out (hM.out.ext HF.out (hx1.trans hx2)) ((zii hWS.out hV hU).ws HF.out.hp hl hWS.out) (by omega)).mono ?_;rintro e w3 ⟨j,Ts',nx',k',M',vs',vn',vu',rfl,hor,hjU,hM3,hq3⟩))
  have hsub:Ts'.length≤Ts.length+1∧Ts'[n]?=some T∧SfI F.s F.p F.L Ts' nx':=by
   rcases hor with ⟨rfl,rfl⟩|⟨rfl,rfl⟩
   ·exact⟨by omega,HT.out,HI.out⟩
   ·exact⟨by simp,by rw [List.getElem?_append_left hnl];exact HT.out,HI.out.add ((zii hWS.out hV hU).ws HF.out.hp hl hWS.out)⟩
  obtain⟨hs1,hs2,hs3⟩:=hsub
  have hnl3:n<Ts'.length:=(List.getElem?_eq_some_iff.1 hs2).1
  have hnl3':(n:Int)<(Ts'.length:Int):=by omega
  obtain⟨An',cn',rfl⟩:=zi hM3.next
  obtain⟨gn',rfl,-,-⟩:=zaq hM3.next (by omega)
  have k3:=hM3.blk.cell
  simp only [sfC] at k3
  obtain⟨o0,g0⟩:=zau hM3.next (n*6+l) (by omega)
  have f0:=hM3.next.frozenAt (n*6+l)
  obtain⟨hM4,hq4⟩:=hM3.setN (v:=(j:Int)) hnl3 hl
  have hI4:=za (hs3.set (k:=n) (l:=l) (j:=j) hs2 hjU (zii hWS.out hV hU))
  have Hs2:=za hs2
  have HjU:=za hjU
  have Hld:=za (zii hWS.out hV hU)
  have hqq:=za ((Kq.back (hx1.trans hx2) hq3).trans hq4)
  clear hs2 hs3 hjU hV hU hq3 hq4 hor
  go_upto_region 4 with fail
  have k4:=hM4.blk.cell
  simp only [sfC] at k4
  have c4:(w3.setCell ⟨gn',n*6+l,none⟩ (.int .i64 (j:Int))).cell? ⟨gn',n*6+l,none⟩=some (.int .i64 (j:Int)):=by
   rw [hM4.next.cellAt _ (by omega),zev hnl3 hl,if_pos ⟨rfl,rfl⟩]
  have HM4:=za hM4
  clear k3 g0 f0 hM3 hM4
  generalize w3.setCell ⟨gn',n*6+l,none⟩ (.int .i64 (j:Int))=w4 at *
  go_wp2_with fail
  go_ret
  exact⟨j,Ts',_,k',M',_,_,_,U,rfl,hI4.out,hs1,Hs2.out,HjU.out,Hld.out,HM4.out,hqq.out⟩
 ·rw [hj] at cN
  have hres:=za (show RetSAf F Ts T n l (sfS F (.slice (some ⟨gs,0,none⟩) Ts.length cs) (.slice (some ⟨gn,0,none⟩) Ts.length cn) vu) W (.returned (.int .i64 (j:Int))) W from by
   obtain rfl:=Option.some.inj (HT.out.symm.trans hT1)
   exact⟨j,Ts,nx,k,M,_,_,_,U,rfl,HI.out,by omega,HT.out,hU,hLd,hM.out,Kq.refl⟩)
  have hj0:¬ ((j:Int)<0):=by omega
  clear hj hT1 hU hLd
  go_enter Tryz.func230,Tryz.ntmps230
  go_wp2_with fail
  go_ret
  exact hres.out
end
def SafJ (F:Sfx):zbv:=fun B W S=>∃ (Ts:List (List Nat)) (nx:Nat→Nat→Int) (k:Nat) (M:List Nat→Option Nat) (vs vn vu:Value),SfI F.s F.p F.L Ts nx∧zdX F Ts nx k M vs vn vu W∧Ts.length≤10000*B+1∧S=sfS F vs vn vu
theorem SafJ.ok {F:Sfx}(hF:zhp F):zbv.Ok F.lo (SafJ F) where
 lt:=fun ⟨_,_,_,_,_,_,_,_,h,_,e⟩ j hj=>by subst e;exact h.lt hj
 low:=fun ⟨_,_,_,_,_,_,_,_,h,_,e⟩ j hj=>by subst e;exact h.low hF hj
 keep:=fun ⟨Ts,nx,k,M,vs,vn,vu,hI,h,hl,e⟩ hf hT=>by subst e;exact⟨Ts,nx,k,M,vs,vn,vu,hI,h.frmT hF hf hT,hl,rfl⟩
 more:=fun ⟨Ts,nx,k,M,vs,vn,vu,hI,h,hl,e⟩ hBC=>⟨Ts,nx,k,M,vs,vn,vu,hI,h,by omega,e⟩
section
variable {F:Sfx} {Ts:List (List Nat)} {nx:Nat→Nat→Int} {k:Nat} {M:List Nat→Option Nat} {vs vn vu:Value} {W:World}
theorem zdX.bad {q:Nat} {T:List Nat} {A:Option Addr} {n c:Nat}(h:zdX F Ts nx k M vs vn (.slice A n c) W)(hT:Ts[q]?=some T):∃ g,A=some ⟨g,0,none⟩∧n=Ts.length∧W.cell? ⟨g,q,none⟩=some (.bool (badS F.p T)):=by
 have hu:=h.uns
 have hql:=(List.getElem?_eq_some_iff.1 hT).1
 have hnn:n=Ts.length:=by
  rcases hu.2 with ⟨h1,h2⟩|⟨g',c',cur,h1,_⟩
  ·injection h1 with _ h3;omega
  ·injection h1
 subst hnn
 obtain⟨g,rfl,-,-⟩:=zaq hu (by omega)
 refine⟨g,rfl,rfl,?_⟩
 rw [hu.cellAt q (by omega)]
 simp [zP,unC,hT]
theorem sf_safe (hF:zhp F) {B:Nat} {S:Nat→Prop} {x:ByteArray}(hJ:SafJ F B W S)(hB:B<10000000)(hx:inB x F.L=true)(hxs:x.size≤9000) :
  Calls Tryz.prog 155 #[.pointer (some ⟨F.G,0,none⟩),.string x] W (RetO (SafJ F) (.bool (zt F.s F.p F.L x)) (B+1) S W):=by
 have HF:=za hF
 have Hx:=za hx
 have Hb:=za (fun k hk=>zaB (zaP hx) (k:=k) hk)
 obtain⟨Ts,nx,k,M,vs,vn,vu,hI,h,hl,rfl⟩:=hJ
 obtain⟨T0,hT0,hst⟩:=hI.start
 have hrel0:Hid (SfI F.s F.p F.L Ts nx∧Ts[0]?=some T0∧SfW F.s F.p F.L x 0 T0∧zdX F Ts nx k M vs vn vu W∧Kq (sfS F vs vn vu) W W (sfS F vs vn vu)∧Ts.length≤10000*B+1+0):=⟨hI,hT0,SfW.zero hst,h,Kq.refl,by omega⟩
 clear hF hx hI hT0 hst h hl
 go_enter Tryz.func155,Tryz.ntmps155
 go_upto_block 0 with fail
 go_wp2_with fail
 go_loopw [5,6] (fun n i wr=>∃ (q a:Nat) (Ts':List (List Nat)) (nx':Nat→Nat→Int) (k':Nat) (M':List Nat→Option Nat) (vs' vn' vu':Value) (T:List Nat),n=.int .i64 q∧i=.int .i64 a∧a≤x.size∧Hid (SfI F.s F.p F.L Ts' nx'∧Ts'[q]?=some T∧SfW F.s F.p F.L x a T∧zdX F Ts' nx' k' M' vs' vn' vu' wr∧Kq (sfS F vs vn vu) W wr (sfS F vs' vn' vu')∧Ts'.length≤10000*B+1+a)) (fun _ i _=>x.size - (intOf i).toNat)
 case atStart=>exact⟨0,0,Ts,nx,k,M,vs,vn,vu,T0,rfl,rfl,Nat.zero_le _,hrel0⟩
 case round =>
  clear hrel0
  obtain⟨q,a,Ts',nx',k',M',vs',vn',vu',T,rfl,rfl,ha,hh⟩:=hrel
  obtain⟨h1,h2,h3,h4,h5,h6⟩:=hh.out
  obtain⟨Au,nu,rfl⟩:=zi h4.uns
  obtain⟨gu,rfl,-,cu⟩:=h4.bad h2
  have kG:=h4.blk.cell
  simp only [sfC] at kG
  have hql:(q:Int)<(Ts'.length:Int):=by have:=(List.getElem?_eq_some_iff.1 h2).1;omega
  have hfinB:(a=x.size∨badS F.p T=true)→Hid (RetO (SafJ F) (.bool (zt F.s F.p F.L x)) (B+1) (sfS F vs vn vu) W (.returned (.bool (!badS F.p T))) wr):=fun he=>by
   refine⟨_,by rw [h3.fin Hx.out (he.elim (fun e=>.inl (by rw [e,zfk])) (fun e=>.inr e))],⟨⟨Ts',nx',k',M',vs',vn',_,h1,h4,by omega,rfl⟩,h5.frm,h5.new⟩⟩
  by_cases hlt:a<x.size
  ·have hlt':(a:Int)<(x.size:Int):=by omega
   cases hb:badS F.p T with
   |true =>
    have hres:=hfinB (.inr hb)
    rw [hb] at hres cu
    clear hfinB h1 h2 h3 h4 h5 h6 hh
    go_wp2_with fail
    go_ret
    exact hres.out
   |false =>
    have Hbad:=za hb
    rw [hb] at cu
    have hbb:=Hb.out a hlt
    have hlg:=za (zdA hlt)
    have hlv:=za (show ltr (x[a].toNat)=((x[a].toNat - 97:Nat):Int) by unfold ltr;rw [if_neg (by omega)];omega)
    obtain⟨l,hll⟩:∃ l,Hid (l=x[a].toNat - 97):=⟨x[a].toNat - 97,za rfl⟩
    rw [← hll.out] at hlg hlv
    have hl6:l<6:=by have:=hll.out;omega
    have H1:=za h1
    have H2:=za h2
    have H3:=za h3
    have H4:=za h4
    have H5:=za h5
    clear hfinB h1 h2 h3 h4 h5 hh hb
    go_wp2_with (first
     |(go_at_call 153;refine (zaJ x a hlt _).mono ?_;rw [hlv.out];rintro e w6 ⟨rfl,rfl⟩)
     |(go_at_call 230;refine (sf_after HF.out H4.out H1.out H2.out hl6 (by omega)).mono ?_;rintro e w6 ⟨j,Ts2,nx2,k2,M2,vs2,vn2,vu2,V,rfl,i1,i2,i3,i4,i5,i6,i7⟩))
    have hnew:Hid (SfI F.s F.p F.L Ts2 nx2∧Ts2[j]?=some V∧SfW F.s F.p F.L x (a+1) V∧zdX F Ts2 nx2 k2 M2 vs2 vn2 vu2 w6∧Kq (sfS F vs vn vu) W w6 (sfS F vs2 vn2 vu2)∧Ts2.length≤10000*B+1+(a+1)):=
     ⟨i1,i4,H3.out.step Hbad.out hlg.out i5,i6,H5.out.trans i7,by omega⟩
    go_roundw
    case rel=>exact⟨j,a+1,Ts2,nx2,k2,M2,vs2,vn2,vu2,V,rfl,by go_num,by omega,hnew⟩
    case measure=>simp [intOf];omega
  ·have hge:¬ (a:Int)<(x.size:Int):=by omega
   have hres:=hfinB (.inl (by omega))
   clear hfinB h1 h2 h3 h4 h5 h6 hh
   go_wp2_with fail
   go_ret
   exact hres.out
end
theorem Blk.diff {w:World} {g h:Nat} {t u:TypeId} {cs ds:Array Value} (a:Blk w g t cs) (b:Blk w h u ds)(hne:t≠u):g≠h:=by
 rintro rfl
 unfold Blk at a b
 rw [a] at b
 injection b with b
 injection b with _ b
 exact hne b
theorem Tab.frm {T:Nat→Prop} {w W W':World}(h:Tab w)(hx:Ext w W)(hf:Frm T W W')(hT:∀ q,T q→w.heap.size≤q):Tab W':=fun j hj=>by
 have h1:=hx.cell_some (h j hj)
 have h0:=World.block_lt_of_cell? w _ (h j hj)
 have h2:=World.block_lt_of_cell? W _ h1
 exact (World.cell?_of_block (w:=W) (hf.block _ h2 (fun e=>by have:=hT _ e;omega))).trans h1
structure NsI (F:Sfx) (s:Sys) (p:Aut) (L:Nat) (w wx:World):Prop where
 ok:zhp F
 hs:F.s=s
 hp:F.p=p
 hL:F.L=L
 b0:F.b0=w.heap.size
 blk:Blk wx F.G 245 (sfC F (.slice none 0 0) (.slice none 0 0) (.slice none 0 0))
 map:zdw 249 litP domP wx F.mb 0 (fun _=>none)
 w9:wx=F.w9
 ext:Ext w wx
section
variable {w W:World} {lo hi n c m d m' d' L:Nat} {A B B':Option Addr} {s:Sys} {p:Aut}
theorem ns_fin {w0 w1:World} {mv rc hc mb base:Nat} {RA HA:Option Addr}(hs:zn s=true)(hp:zk p=true)(hL:L<64)(hP:zC w lo hi B m B' m' p)(h0:Ext w0 w)(hhi:hi≤w0.heap.size)(hT:Tab w0)(hw1:Ext w w1)(hx:Ext w1 W)(hmvg:w.heap.size≤mv)(hbg:w.heap.size≤base)
  (hmv:MovB W mv s.edges) (htb:∃ bt,w.heap.size≤bt∧W.ownsRow bt 179 6 (.slice RA p.next.length rc) p.next.length (tbC p.next.length (aGo p))) (hhd:W.ownsRow base 3 1 (.slice HA (hidS s L).length hc) (hidS s L).length (zS (hidS s L))) (hmp:zdw 249 litP domP W mb 0 (fun _=>none)) (hmb:w.heap.size≤mb) :
  ∃ F:Sfx,Value.pointer (some ⟨W.heap.size,0,none⟩)=.pointer (some ⟨F.G,0,none⟩)∧F.lo=w0.heap.size∧NsI F s p L w (W.alloc (.cells #[.int .i64 s.al,.int .i64 s.st,.slice A n c,.int .i64 p.al,.slice B m d,.slice B' m' d',.int .i64 L,.pointer (some ⟨mv,0,none⟩),.slice RA p.next.length rc,.slice HA (hidS s L).length hc,.slice none 0 0,.map (some mb),.slice none 0 0,.slice none 0 0] 245)):=by
 have hb:=Blk.new W 245 #[.int .i64 s.al,.int .i64 s.st,.slice A n c,.int .i64 p.al,.slice B m d,.slice B' m' d',.int .i64 L,.pointer (some ⟨mv,0,none⟩),.slice RA p.next.length rc,.slice HA (hidS s L).length hc,.slice none 0 0,.map (some mb),.slice none 0 0,.slice none 0 0]
 have hxa:Ext W (W.alloc (.cells #[.int .i64 s.al,.int .i64 s.st,.slice A n c,.int .i64 p.al,.slice B m d,.slice B' m' d',.int .i64 L,.pointer (some ⟨mv,0,none⟩),.slice RA p.next.length rc,.slice HA (hidS s L).length hc,.slice none 0 0,.map (some mb),.slice none 0 0,.slice none 0 0] 245)):=(Ext.refl _).alloc _
 generalize W.alloc (.cells #[.int .i64 s.al,.int .i64 s.st,.slice A n c,.int .i64 p.al,.slice B m d,.slice B' m' d',.int .i64 L,.pointer (some ⟨mv,0,none⟩),.slice RA p.next.length rc,.slice HA (hidS s L).length hc,.slice none 0 0,.map (some mb),.slice none 0 0,.slice none 0 0] 245)=X at *
 have hwW:=(hw1.trans hx).size
 have hlt:=hb.lt
 have hml:=hmp.lt
 have hwX:=(hw1.trans hx).trans hxa
 have mX:=hmp.ext hxa
 obtain⟨cm,bm,hm⟩:=hmv.ext hxa
 obtain⟨bt,hbt,ht0⟩:=htb
 have ht:=zh ht0 hxa
 have hd:=zh hhd hxa
 refine⟨⟨s,p,L,A,n,c,B,m,d,B',m',d',mv,RA,rc,HA,hc,W.heap.size,mb,w.heap.size,w0.heap.size,X⟩,rfl,rfl,⟨⟨hs,hp,hL,fun Y hY=>?_,h0.size,hwW,hlt,hmb,mX.lt,by show mb≠W.heap.size;omega⟩,rfl,rfl,rfl,rfl,hb,mX,rfl,hwX⟩⟩
 have h2:∀ q,Sfx.two ⟨s,p,L,A,n,c,B,m,d,B',m',d',mv,RA,rc,HA,hc,W.heap.size,mb,w.heap.size,w0.heap.size,X⟩ q→w0.heap.size≤q:=fun q hq=>by
  have h0s:=h0.size
  rcases hq with e|e|e
  ·have e':q=W.heap.size:=e
   omega
  ·have e':q=mb:=e
   omega
  ·exact e.1
 have h3:∀ {e:TypeId} {sz k b:Nat} {v:Value} {xs:List Value},X.ownsRow b e sz v k xs→w.heap.size≤b→e≠245→∀ q,v.ownBlock=some q→¬ Sfx.two ⟨s,p,L,A,n,c,B,m,d,B',m',d',mv,RA,rc,HA,hc,W.heap.size,mb,w.heap.size,w0.heap.size,X⟩ q:=fun ho hbb hne q hq ht=>by
  rcases ht with e|e|e
  ·exact zF ho hb hne hq e
  ·have e':q=mb:=e
   subst e'
   exact mX.farOwn ho hq
  ·have h4:q<w.heap.size:=e.2
   have h5:=(ho.lt q hq).1
   omega
 have hY2:Frm (Sfx.two ⟨s,p,L,A,n,c,B,m,d,B',m',d',mv,RA,rc,HA,hc,W.heap.size,mb,w.heap.size,w0.heap.size,X⟩) X Y:=hY
 refine⟨hT.frm (h0.trans hwX) hY2 h2,MovB.at_ ⟨cm,bm.frm hY2 (fun ht=>?_),hm⟩,?_,?_,⟨lo,hi,((hP.2.2.ext hwX).frm hY2 (fun q _ h5 h6=>by have:=h2 q h6;omega))⟩⟩
 ·rcases ht with e|e|e
  ·exact bm.diff hb (by decide) e
  ·exact mX.far bm e
  ·have h4:mv<w.heap.size:=e.2
   omega
 ·exact TbO.at_ ⟨bt,zg ht hY2 (h3 ht hbt (by decide))⟩
 ·exact⟨_,_,Lst.own_nats (zg hd hY2 (h3 hd hbg (by decide)))⟩
def T00:List Nat:=(List.replicate 12 0).set 0 1
theorem zeI:zbd T00 12 (fun q i=>q=0∧i=0):=zgO (n:=12) (by decide)
theorem T00_ws {p:Aut}(h:0<p.next.length):WS p T00:=⟨zeI.1,zeI.2.1,fun i q hb=>by rw [((zeI.2.2 i q).1 hb).2];exact h⟩
def RetNs (s:Sys) (p:Aut) (L z:Nat) (w:World) (e:Ending) (w':World):Prop:=∃ (F:Sfx) (S:Nat→Prop),e=.returned (.pointer (some ⟨F.G,0,none⟩))∧zhp F∧F.s=s∧F.p=p∧F.L=L∧F.lo=z∧F.b0=w.heap.size∧SafJ F 0 w' S∧Ext w w'
theorem yC13b2 {P:Prop}(h:P:=by
 go_simp
 refine hK.out _ _ ?_
 refine pT ?_
 refine uQ ?_
 refine zf ?_
 go_wp2_with fail
 go_meet
 obtain⟨F,f1,f2,f3⟩:=ziM
 exact⟨F,f1,f2,f3⟩
 ):P:=h
theorem yC13a3 {P:Prop}(h:P:=by
 replace htb:=zh htb hy13
 refine uQ ?_
 refine zb fun K hK=>?_
 have ziM:=ns_fin (A:=A) (n:=n) (c:=c) (d:=d) (d':=d') Hs.out Hp.out hL64 HP0.out h0 hhi Htab.out hw1 hxw13 hmvw hbhd hmv ⟨bt,hbtw,htb⟩ hhd hmp0 hmbge
 exact yC13b2
 ):P:=h
theorem yC13a4 {P:Prop}(h:P:=by
 exact yC13b2
 ):P:=h
theorem zhg {w0:World}(h0:Ext w0 w)(hS:zM w lo hi A n s)(hP:zC w lo hi B m B' m' p)(hs:zn s=true)(hp:zk p=true)(hL64:L<64)(hhi:hi≤w0.heap.size)(hT:Tab w0) :
  Calls Tryz.prog 154 #[.agg #[.int .i64 s.al,.int .i64 s.st,.slice A n c,.int .i64 p.al,.slice B m d,.slice B' m' d',.int .i64 L]] w (RetNs s p L w0.heap.size w):=by
 have Hs:=za hs
 have Hp:=za hp
 have HP0:=za hP
 have Htab:=za hT
 have hsml:=zbQ hs
 have Hfew:=za (show Few 16 s.edges from fun e he=>by have:=hsml.2.2.1 e he;have:=hsml.2.1;omega)
 obtain⟨ha0,ha1⟩:=zN hs
 have han:s.al.toNat<64:=by omega
 have hsm:Sm (diff s.al.toNat L):=by
  have:=diff_le s.al.toNat L
  unfold Sm;omega
 have hand:bits .andNot .i64 s.al (L:Int)=((diff s.al.toNat L:Nat):Int):=by
  have h1:=bits_andNot (a:=s.al.toNat) (b:=L) (by unfold Sm;omega) (by unfold Sm;omega)
  rwa [show ((s.al.toNat:Nat):Int)=s.al by omega] at h1
 have hw1:Ext w (w.alloc (.cells #[.int .i64 s.al,.int .i64 s.st,.slice A n c,.int .i64 p.al,.slice B m d,.slice B' m' d',.int .i64 L] 96)):=(Ext.refl _).alloc _
 have b1:=Blk.new w 96 #[.int .i64 s.al,.int .i64 s.st,.slice A n c,.int .i64 p.al,.slice B m d,.slice B' m' d',.int .i64 L]
 have HS:=za (fun X (hX:Ext (w.alloc (.cells #[.int .i64 s.al,.int .i64 s.st,.slice A n c,.int .i64 p.al,.slice B m d,.slice B' m' d',.int .i64 L] 96)) X)=>hS.ext (hw1.trans hX))
 have HP:=za (fun X (hX:Ext (w.alloc (.cells #[.int .i64 s.al,.int .i64 s.st,.slice A n c,.int .i64 p.al,.slice B m d,.slice B' m' d',.int .i64 L] 96)) X)=>hP.ext (hw1.trans hX))
 have hp1:=(zl hp).2.1
 clear hs hp hS hP hT hsml ha0 ha1
 have hmm:=@run_makeMap Tryz.prog
 go_enter Tryz.func154,Tryz.ntmps154
 go_upto_region 1 with fail
 generalize w.alloc (.cells #[.int .i64 s.al,.int .i64 s.st,.slice A n c,.int .i64 p.al,.slice B m d,.slice B' m' d',.int .i64 L] 96)=w1 at *
 have hw1s:=hw1.size
 go_cut [3] (fun v3 wx=>∃ F:Sfx,v3=.pointer (some ⟨F.G,0,none⟩)∧F.lo=w0.heap.size∧NsI F s p L w wx)
 case first =>
  have CX:∀ X,Ext w1 X→∀ q,X.cell? ⟨w.heap.size,q,none⟩=#[Value.int .i64 s.al,.int .i64 s.st,.slice A n c,.int .i64 p.al,.slice B m d,.slice B' m' d',.int .i64 L][q]?:=fun X hX=>(b1.ext hX).cell
  have hww:=Ext.refl w1
  refine uR (fun X=>Ext w1 X) [16] (zu.app [0,1,2,4,5,7,8,9,10,11,12] (zu.two 3 (zu.two 6 (zu.two 13 (zu.of [14,15,16,17]) 14 (zu.of [13,15,16,17])) 14 (zu.of [6,13,15,16,17])) 14 (zu.of [3,6,13,15,16,17]))) ?_
  refine uQ ?_
  have hxwd:=hww.drew
  generalize w1.drew=wd at *
  refine zm (fun K hK=>?_) (fun K hK=>?_)
  ·go_simp
   refine (zdE (HS.out _ hxwd) Hfew.out).mono ?_
   rintro e w3 ⟨mv,rfl,hmvge,hmv,hy3⟩
   have hmvw:w.heap.size≤mv:=by have:=hxwd.size;omega
   have hxw3:=hxwd.trans hy3
   refine hK.out _ _ hxw3 ?_
   refine pT ?_
   refine zm (fun K hK=>?_) (fun K hK=>?_)
   ·go_simp
    refine (zbG (HP.out _ hxw3) Hp.out).mono ?_
    rintro e w6 ⟨RA,rc,rfl,⟨bt,hbt,htb⟩,hy6⟩
    have hbtw:w.heap.size≤bt:=by have:=hxw3.size;omega
    have hxw6:=hxw3.trans hy6
    refine hK.out _ _ hxw6 ?_
    refine pT ?_
    replace hmv:=hmv.ext hy6
    refine zm (fun K hK=>?_) (fun K hK=>?_)
    ·go_simp
     refine (zY (diff s.al.toNat L) hsm _).mono ?_
     rintro e w13 ⟨HA,hc,rfl,hhd,hy13⟩
     have hbhd:w.heap.size≤w6.heap.size:=by have:=hxw6.size;omega
     have hxw13:=hxw6.trans hy13
     refine hK.out _ _ hxw13 ?_
     refine pT ?_
     replace hmv:=hmv.ext hy13
     replace htb:=zh htb hy13
     refine ze fun K hK=>?_;go_simp
     have hmp0:zdw 249 litP domP (w13.alloc (.map #[] 0)) w13.heap.size 0 (fun _=>none):=zdw.made w13
     have hy14:Ext w13 (w13.alloc (.map #[] 0)):=(Ext.refl _).alloc _
     obtain⟨mb,hmb⟩:∃ mb,Hid (mb=w13.heap.size):=⟨_,rfl⟩
     have hmbge:w.heap.size≤mb:=by have:=hxw13.size;have:=hmb.out;omega
     have hxw14:=hxw13.trans hy14
     rw [← hmb.out] at hmp0 ⊢
     refine hK.out _ _ hxw14 ?_
     generalize w13.alloc (.map #[] 0)=w14 at *
     refine pT ?_
     replace hmv:=hmv.ext hy14
     replace htb:=zh htb hy14
     replace hhd:=zh hhd hy14
     refine uQ ?_
     refine zb fun K hK=>?_
     have ziM:=ns_fin (A:=A) (n:=n) (c:=c) (d:=d) (d':=d') Hs.out Hp.out hL64 HP0.out h0 hhi Htab.out hw1 hxw14 hmvw hbhd hmv ⟨bt,hbtw,htb⟩ hhd hmp0 hmbge
     exact yC13a4
    ·go_simp
     have hmp0:zdw 249 litP domP (w6.alloc (.map #[] 0)) w6.heap.size 0 (fun _=>none):=zdw.made w6
     have hy14:Ext w6 (w6.alloc (.map #[] 0)):=(Ext.refl _).alloc _
     obtain⟨mb,hmb⟩:∃ mb,Hid (mb=w6.heap.size):=⟨_,rfl⟩
     have hmbge:w.heap.size≤mb:=by have:=hxw6.size;have:=hmb.out;omega
     have hxw14:=hxw6.trans hy14
     rw [← hmb.out] at hmp0 ⊢
     refine hK.out _ _ hxw14 ?_
     generalize w6.alloc (.map #[] 0)=w14 at *
     refine pT ?_
     replace hmv:=hmv.ext hy14
     replace htb:=zh htb hy14
     refine ze fun K hK=>?_;go_simp
     refine (zY (diff s.al.toNat L) hsm _).mono ?_
     rintro e w13 ⟨HA,hc,rfl,hhd,hy13⟩
     have hbhd:w.heap.size≤w14.heap.size:=by have:=hxw14.size;omega
     have hxw13:=hxw14.trans hy13
     refine hK.out _ _ hxw13 ?_
     refine pT ?_
     replace hmv:=hmv.ext hy13
     replace htb:=zh htb hy13
     replace hmp0:=hmp0.ext hy13
     refine uQ ?_
     refine zb fun K hK=>?_
     have ziM:=ns_fin (A:=A) (n:=n) (c:=c) (d:=d) (d':=d') Hs.out Hp.out hL64 HP0.out h0 hhi Htab.out hw1 hxw13 hmvw hbhd hmv ⟨bt,hbtw,htb⟩ hhd hmp0 hmbge
     exact yC13a4
   ·go_simp
    have hmp0:zdw 249 litP domP (w3.alloc (.map #[] 0)) w3.heap.size 0 (fun _=>none):=zdw.made w3
    have hy14:Ext w3 (w3.alloc (.map #[] 0)):=(Ext.refl _).alloc _
    obtain⟨mb,hmb⟩:∃ mb,Hid (mb=w3.heap.size):=⟨_,rfl⟩
    have hmbge:w.heap.size≤mb:=by have:=hxw3.size;have:=hmb.out;omega
    have hxw14:=hxw3.trans hy14
    rw [← hmb.out] at hmp0 ⊢
    refine hK.out _ _ hxw14 ?_
    generalize w3.alloc (.map #[] 0)=w14 at *
    refine pT ?_
    replace hmv:=hmv.ext hy14
    refine ze fun K hK=>?_;go_simp
    refine (zbG (HP.out _ hxw14) Hp.out).mono ?_
    rintro e w6 ⟨RA,rc,rfl,⟨bt,hbt,htb⟩,hy6⟩
    have hbtw:w.heap.size≤bt:=by have:=hxw14.size;omega
    have hxw6:=hxw14.trans hy6
    refine hK.out _ _ hxw6 ?_
    refine pT ?_
    replace hmv:=hmv.ext hy6
    replace hmp0:=hmp0.ext hy6
    refine ze fun K hK=>?_;go_simp
    refine (zY (diff s.al.toNat L) hsm _).mono ?_
    rintro e w13 ⟨HA,hc,rfl,hhd,hy13⟩
    have hbhd:w.heap.size≤w6.heap.size:=by have:=hxw6.size;omega
    have hxw13:=hxw6.trans hy13
    refine hK.out _ _ hxw13 ?_
    refine pT ?_
    replace hmv:=hmv.ext hy13
    replace hmp0:=hmp0.ext hy13
    exact yC13a3
  ·go_simp
   have hmp0:zdw 249 litP domP (wd.alloc (.map #[] 0)) wd.heap.size 0 (fun _=>none):=zdw.made wd
   have hy14:Ext wd (wd.alloc (.map #[] 0)):=(Ext.refl _).alloc _
   obtain⟨mb,hmb⟩:∃ mb,Hid (mb=wd.heap.size):=⟨_,rfl⟩
   have hmbge:w.heap.size≤mb:=by have:=hxwd.size;have:=hmb.out;omega
   have hxw14:=hxwd.trans hy14
   rw [← hmb.out] at hmp0 ⊢
   refine hK.out _ _ hxw14 ?_
   generalize wd.alloc (.map #[] 0)=w14 at *
   refine pT ?_
   refine ze fun K hK=>?_;go_simp
   refine (zdE (HS.out _ hxw14) Hfew.out).mono ?_
   rintro e w3 ⟨mv,rfl,hmvge,hmv,hy3⟩
   have hmvw:w.heap.size≤mv:=by have:=hxw14.size;omega
   have hxw3:=hxw14.trans hy3
   refine hK.out _ _ hxw3 ?_
   refine pT ?_
   replace hmp0:=hmp0.ext hy3
   refine ze fun K hK=>?_;go_simp
   refine (zbG (HP.out _ hxw3) Hp.out).mono ?_
   rintro e w6 ⟨RA,rc,rfl,⟨bt,hbt,htb⟩,hy6⟩
   have hbtw:w.heap.size≤bt:=by have:=hxw3.size;omega
   have hxw6:=hxw3.trans hy6
   refine hK.out _ _ hxw6 ?_
   refine pT ?_
   replace hmp0:=hmp0.ext hy6
   replace hmv:=hmv.ext hy6
   refine ze fun K hK=>?_;go_simp
   refine (zY (diff s.al.toNat L) hsm _).mono ?_
   rintro e w13 ⟨HA,hc,rfl,hhd,hy13⟩
   have hbhd:w.heap.size≤w6.heap.size:=by have:=hxw6.size;omega
   have hxw13:=hxw6.trans hy13
   refine hK.out _ _ hxw13 ?_
   refine pT ?_
   replace hmp0:=hmp0.ext hy13
   replace hmv:=hmv.ext hy13
   exact yC13a3
 case rest =>
  obtain⟨F,rfl,hlo,hN⟩:=hcut
  obtain⟨hok,rfl,rfl,rfl,hb0,hbk,hmp,hw9,hxc⟩:=hN
  have hM0:zdX F [] (fun _ _ => -1) 0 (fun _=>none) (.slice none 0 0) (.slice none 0 0) (.slice none 0 0) wc:=by
   refine⟨by rw [hw9];exact Frm.refl _ _,hbk,World.ownsRow_nil _ _ _ _,World.ownsRow_nil _ _ _ _,World.ownsRow_nil _ _ _ _,hmp,NumI.nil,Nat.le_refl _,fun T hT=>by simp at hT⟩
  have HM0:=za hM0
  have Hok:=za hok
  have H00:=za (T00_ws (p:=F.p) (by omega))
  clear hM0 hok hbk hmp hw9
  go_wp2_with (first
   |(go_at_call 229;refine (sf_close (T0:=T00) Hok.out HM0.out H00.out).mono ?_;rintro e w2 ⟨U,rfl,hU,hx2⟩)
   |(go_at_call 228;refine (sf_add (U:=U) Hok.out (HM0.out.ext Hok.out hx2) ⟨hU.1,hU.2.1,fun i q hb=>cl_row Hp.out (fun q i hb=>H00.out.row i q hb) ((hU.2.2 i q).1 hb)⟩ (by decide)).mono ?_;rintro e w3 ⟨j,Ts',nx',k',M',vs',vn',vu',rfl,hor,hjU,hM3,hq3⟩))
  go_ret
  rcases hor with ⟨rfl,rfl⟩|⟨rfl,rfl⟩
  ·simp at hjU
  have hU2:zbd U 12 (PR F.s F.p F.L []):=by
   rw [PR_nil,← zeI.eq]
   exact hU
  have hI:SfI F.s F.p F.L ([]++[U]) (fun k l=>if k=([]:List (List Nat)).length then -1 else (fun _ _=>(-1:Int)) k l):=
   ⟨fun T hT=>by
    obtain rfl:T=U:=by simpa using hT
    exact start_ws hU2 Hp.out (by omega),⟨U,rfl,hU2⟩,fun k l _ _=>.inl (by dsimp only;split<;>rfl)⟩
  refine⟨F,_,rfl,Hok.out,rfl,rfl,rfl,hlo,hb0,⟨_,_,k',M',vs',vn',vu',hI,hM3,by simp,rfl⟩,(hxc.trans hx2).frm hq3.frm (fun q hq hs=>?_)⟩
  have:=(HM0.out.ext Hok.out hx2).low0 Hok.out hs
  omega
end
section
variable {w W:World} {lo hi n c m d m' d' L:Nat} {A B B':Option Addr} {s:Sys} {p:Aut}
theorem zhc (hS:zM w lo hi A n s)(hP:zC w lo hi B m B' m' p)(hv:zn s=true)(hp:zk p=true)(hL:L<64) :
  Calls Tryz.prog 226 #[.agg #[.int .i64 s.al,.int .i64 s.st,.slice A n c,.int .i64 p.al,.slice B m d,.slice B' m' d',.int .i64 L]] w fun e w'=>e=.returned (.bool true)∧Ext w w':=by
 have HS:=za (fun W (hW:Ext w W)=>zaN (c:=c) (hS.ext hW))
 have HP:=za (fun W (hW:Ext w W)=>zV _ _ _ _ d _ _ d' _ _ (hP.ext hW))
 rw [hv] at HS
 rw [hp] at HP
 have hal:=za (show (decide ((0:Int)≤L∧(L:Int)≤63))=true by simp;omega)
 have hw1:Ext w (w.alloc (.cells #[.int .i64 s.al,.int .i64 s.st,.slice A n c,.int .i64 p.al,.slice B m d,.slice B' m' d',.int .i64 L] 96)):=(Ext.refl _).alloc _
 have b1:=Blk.new w 96 #[.int .i64 s.al,.int .i64 s.st,.slice A n c,.int .i64 p.al,.slice B m d,.slice B' m' d',.int .i64 L]
 clear hS hP hv hp
 go_enter Tryz.func226,Tryz.ntmps226
 go_upto_region 1 with fail
 generalize w.alloc (.cells #[.int .i64 s.al,.int .i64 s.st,.slice A n c,.int .i64 p.al,.slice B m d,.slice B' m' d',.int .i64 L] 96)=w1 at *
 have CB:=b1.cells
 have hww:=Ext.refl w1
 go_wp2_with (first
  |(go_at_call 108;refine (HS.out _ hw1).mono ?_;rintro e w2 ⟨rfl,hx2⟩)
  |(go_at_call 95;refine (HP.out _ (hw1.trans hx2)).mono ?_;rintro e w3 ⟨rfl,hx3⟩;have hx23:=hx2.trans hx3)
  |(go_at_call 173;refine (zR _ _).mono ?_;rw [hal.out];rintro e w4 ⟨rfl,rfl⟩))
 go_ret
 exact⟨rfl,hw1.trans hx23⟩
theorem zeb (hS:zM w lo hi A n s)(hP:zC w lo hi B m B' m' p)(hv:zn s=true)(hp:zk p=true)(hL:L<64) :
  Calls Tryz.prog 150 #[.agg #[.bool false,.int .i64 0,.slice none 0 0,.slice none 0 0,.int .i64 s.al,.int .i64 s.st,.slice A n c,.int .i64 p.al,.slice B m d,.slice B' m' d',.int .i64 L]] w fun e w'=>e=.returned (.int .i64 L)∧Ext w w':=by
 have HV:=za (fun W (hW:Ext w W)=>zhc (c:=c) (d:=d) (d':=d') (hS.ext hW) (hP.ext hW) hv hp hL)
 have hw1:Ext w (w.alloc (.cells #[.bool false,.int .i64 0,.slice none 0 0,.slice none 0 0,.int .i64 s.al,.int .i64 s.st,.slice A n c,.int .i64 p.al,.slice B m d,.slice B' m' d',.int .i64 L] 98)):=(Ext.refl _).alloc _
 have b1:=Blk.new w 98 #[.bool false,.int .i64 0,.slice none 0 0,.slice none 0 0,.int .i64 s.al,.int .i64 s.st,.slice A n c,.int .i64 p.al,.slice B m d,.slice B' m' d',.int .i64 L]
 clear hS hP hv hp
 go_enter Tryz.func150,Tryz.ntmps150
 go_upto_region 1 with fail
 generalize w.alloc (.cells #[.bool false,.int .i64 0,.slice none 0 0,.slice none 0 0,.int .i64 s.al,.int .i64 s.st,.slice A n c,.int .i64 p.al,.slice B m d,.slice B' m' d',.int .i64 L] 98)=w1 at *
 have CB:=b1.cells
 have hww:=Ext.refl w1
 go_wp2_with (go_at_call 226;refine (HV.out _ hw1).mono ?_;rintro e w2 ⟨rfl,hx2⟩)
 go_ret
 exact⟨rfl,hw1.trans hx2⟩
theorem sf_orc {F:Sfx}(hF:zhp F):zgg F.lo F.L (zt F.s F.p F.L) (SafJ F) 155 (.pointer (some ⟨F.G,0,none⟩)) where
 ok:=SafJ.ok hF
 in_:=fun args W=>by kernel_rfl
 ask:=fun B W S x hJ hB hx hxs=>sf_safe hF hJ hB hx hxs
def RetOr (s:Sys) (p:Aut) (L z:Nat) (w:World) (e:Ending) (w':World):Prop:=
 ∃ (F:Sfx) (S:Nat→Prop),e=.returned (.tuple #[orcV L 155 (.pointer (some ⟨F.G,0,none⟩)),.bool true])∧zhp F∧F.s=s∧F.p=p∧F.L=L∧F.lo=z∧w.heap.size≤F.b0∧SafJ F 0 w' S∧Ext w w'
theorem SafJ.low0 {F:Sfx}(hF:zhp F) {B:Nat} {W:World} {S:Nat→Prop}(h:SafJ F B W S) {j:Nat}(hj:S j):F.b0≤j:=by
 obtain⟨Ts,nx,k,M,vs,vn,vu,hI,hM,hl,rfl⟩:=h
 exact hM.low0 hF hj
theorem zhf {w0:World}(h0:Ext w0 w)(hS:zM w lo hi A n s)(hP:zC w lo hi B m B' m' p)(hv:zn s=true)(hp:zk p=true)(hL:L<64)(hhi:hi≤w0.heap.size)(hT:Tab w0) :
  Calls Tryz.prog 79 #[.agg #[.bool false,.int .i64 0,.slice none 0 0,.slice none 0 0,.int .i64 s.al,.int .i64 s.st,.slice A n c,.int .i64 p.al,.slice B m d,.slice B' m' d',.int .i64 L]] w (RetOr s p L w0.heap.size w):=by
 have HA:=za (fun W (hW:Ext w W)=>zeb (c:=c) (d:=d) (d':=d') (hS.ext hW) (hP.ext hW) hv hp hL)
 have HN:=za (fun W (hW:Ext w W)=>zhg (c:=c) (d:=d) (d':=d') (h0.trans hW) (hS.ext hW) (hP.ext hW) hv hp hL hhi hT)
 have hw1:Ext w ((w.alloc (.cells #[.bool false,.int .i64 0,.slice none 0 0,.slice none 0 0,.int .i64 s.al,.int .i64 s.st,.slice A n c,.int .i64 p.al,.slice B m d,.slice B' m' d',.int .i64 L] 98)).alloc (.cells #[.int .i64 0,.nilFunc] 115)):=((Ext.refl _).alloc _).alloc _
 obtain⟨b1,b2⟩:=zE (Ext.refl ((w.alloc (.cells #[.bool false,.int .i64 0,.slice none 0 0,.slice none 0 0,.int .i64 s.al,.int .i64 s.st,.slice A n c,.int .i64 p.al,.slice B m d,.slice B' m' d',.int .i64 L] 98)).alloc (.cells #[.int .i64 0,.nilFunc] 115)))
 have hs1:w.heap.size+1<((w.alloc (.cells #[.bool false,.int .i64 0,.slice none 0 0,.slice none 0 0,.int .i64 s.al,.int .i64 s.st,.slice A n c,.int .i64 p.al,.slice B m d,.slice B' m' d',.int .i64 L] 98)).alloc (.cells #[.int .i64 0,.nilFunc] 115)).heap.size:=by simp
 clear hS hP hv hp
 have hL0:¬ ((L:Int)<0):=by omega
 go_enter Tryz.func79,Tryz.ntmps79
 go_upto_region 1 with fail
 generalize (w.alloc (.cells #[.bool false,.int .i64 0,.slice none 0 0,.slice none 0 0,.int .i64 s.al,.int .i64 s.st,.slice A n c,.int .i64 p.al,.slice B m d,.slice B' m' d',.int .i64 L] 98)).alloc (.cells #[.int .i64 0,.nilFunc] 115)=w1 at *
 have CB:∀ X,Ext w1 X→∀ q,X.cell? ⟨w.heap.size,q,none⟩=#[Value.bool false,.int .i64 0,.slice none 0 0,.slice none 0 0,.int .i64 s.al,.int .i64 s.st,.slice A n c,.int .i64 p.al,.slice B m d,.slice B' m' d',.int .i64 L][q]?:=fun X hX=>(b1.ext hX).cell
 have hww:=Ext.refl w1
 have h0s:=h0.size
 go_upto_region 99 with (go_at_call 150;refine (HA.out _ hw1).mono ?_;rintro e w2 ⟨rfl,hx2⟩)
 refine (HN.out _ (hw1.trans hx2)).mono ?_
 rintro e w3 ⟨F,S,rfl,hok,hFs,hFp,hFL,hFlo,hFb,hJ,hx3⟩
 have hx13:=hx2.trans hx3
 have hb23:=b2.ext hx13
 have k2:=hb23.cell
 have f2:=hb23.frozen
 have Hok:=za hok
 have HJ:=za hJ
 have HFs:=za hFs
 have HFp:=za hFp
 have HFL:=za hFL
 have HFlo:=za hFlo
 have HFb:=za (show w.heap.size≤F.b0 by have:=hx2.size;have:=hw1.size;omega)
 have hSn:¬ S (w.heap.size+1):=fun hs=>by
  have h1:=SafJ.low0 hok hJ hs
  have h2:=hx2.size
  omega
 have hf:=(Frm.setCell w3 (w.heap.size+1) 0 (.int .i64 (L:Int))).trans (Frm.setCell _ (w.heap.size+1) 1 (.func (.func 155) #[.pointer (some ⟨F.G,0,none⟩)] #[]))
 have hJ2:=za ((SafJ.ok hok).keep hJ hf (fun q _ e=>by have e':q=w.heap.size+1:=e;rw [e',hFlo];exact⟨by omega,hSn⟩))
 have hx23:=za ((hw1.trans hx13).frm hf (fun q hq e=>by have e':q=w.heap.size+1:=e;omega))
 have hbf:=(hb23.set_ 0 (.int .i64 (L:Int))).set_ 1 (.func (.func 155) #[.pointer (some ⟨F.G,0,none⟩)] #[])
 have cf:∀ i,((w3.setCell ⟨w.heap.size+1,0,none⟩ (.int .i64 (L:Int))).setCell ⟨w.heap.size+1,1,none⟩ (.func (.func 155) #[.pointer (some ⟨F.G,0,none⟩)] #[])).cell? ⟨w.heap.size+1,i,none⟩=#[Value.int .i64 (L:Int),.func (.func 155) #[.pointer (some ⟨F.G,0,none⟩)] #[]][i]?:=fun i=>by
  have:=hbf.cell i
  simpa using this
 have hst:(store ⟨w.heap.size+1,1,none⟩ (.func (.func 155) #[.pointer (some ⟨F.G,0,none⟩)] #[])).run Tryz.prog (w3.setCell ⟨w.heap.size+1,0,none⟩ (.int .i64 (L:Int)))=.ok () ((w3.setCell ⟨w.heap.size+1,0,none⟩ (.int .i64 (L:Int))).setCell ⟨w.heap.size+1,1,none⟩ (.func (.func 155) #[.pointer (some ⟨F.G,0,none⟩)] #[])):=by
  rw [run_store _ _ _ _ _ rfl]
  have h1:=hb23.set_ 0 (.int .i64 (L:Int))
  rw [h1.cell,h1.frozen]
  rfl
 clear hok hJ hFs hFp hFL hFlo hFb hSn hf hbf hb23 CB
 go_wp2_with fail
 clear k2 f2
 generalize (w3.setCell ⟨w.heap.size+1,0,none⟩ (.int .i64 (L:Int))).setCell ⟨w.heap.size+1,1,none⟩ (.func (.func 155) #[.pointer (some ⟨F.G,0,none⟩)] #[])=w9 at *
 exact bodyPost_ret (v:=.tuple #[orcV L 155 (.pointer (some ⟨F.G,0,none⟩)),.bool true]) (by simp [results,Tryz.results79,go_sem,cf]) rfl ⟨F,S,rfl,Hok.out,HFs.out,HFp.out,HFL.out,HFlo.out,HFb.out,hJ2.out,hx23.out⟩
end
end Go.Proofs.YtcfchopfijalpaaGreatDoor
