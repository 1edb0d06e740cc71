/- AssumptionFa -/
import Derived.Test.YtcfchopfijalpaaGreatDoorD06
import Derived.Lib.SliceRun
set_option maxHeartbeats 4000000
set_option maxRecDepth 100000
namespace Go.Proofs.YtcfchopfijalpaaGreatDoor
open Go Go.RowKit
open Bool renaming and_eq_true->dJ,eq_false_iff->eQ,eq_iff_iff->gL,or_eq_true->fV,true_and->jF
open Ext renaming refl->cY,x1_->gH
open List renaming all_eq_true->eL,eq_nil_of_length_eq_zero->dQ,foldl_cons->iG,getD_eq_getElem?_getD->dK,getElem?_append_left->dP,getElem?_eq_getElem->dF,getElem?_map->dT,getElem?_of_mem->eD,getElem?_set_ne->fN,getElem?_set_self->eS,length_append->dS,length_set->fJ,length_singleton->eC,map_cons->fQ,mem_cons_of_mem->eE,mem_cons_self->gK,mem_of_getElem?->dE,mem_of_mem_take->gD,mem_or_eq_of_mem_set->e7,mem_replicate->iO,nil_append->eJ,replicate->dU,take_add_one->dN,take_of_length_le->dL
open Nat renaming div_eq_of_lt->iY,eq_of_testBit_eq->fO,eq_zero_or_pos->gZ,le_of_lt_succ->eU,le_refl->dG,le_trans->dO,lt_of_lt_of_le->eB,lt_or_eq_of_le->eI,mod_eq_of_lt->iD,mod_mul_right_div_self->jL,mul_comm->fL,or_lt_two_pow->eR,pow_le_pow_right->eH,testBit_and->fX,testBit_or->gU,zero_add->dW,zero_le->dI
open Option renaming getD_some->fK,toList_some->eG
variable {A a b c hi i j k l lo n q x:Nat} {M T U V ls v:List Nat} {cs:Array Value} {es:List Edg} {p:Aut} {s:ByteArray} {ss:List Sys} {t:TypeId} {w:World}
theorem zjB {w':World} {ds es fs:Array Value} {u v x:TypeId}(h:Ext ((((w.alloc (.cells cs t)).alloc (.cells ds u)).alloc (.cells es v)).alloc (.cells fs x)) w'):Blk w' w.heap.size t cs∧Blk w' (w.heap.size+1) u ds∧Blk w' (w.heap.size+1+1) v es∧Blk w' (w.heap.size+1+1+1) x fs:=by
 have a:=zL (((cY _).alloc _).trans h);refine⟨a.1,a.2.1,a.2.2,?_⟩;have:=zcp h;simpa using this
noncomputable def zaN (s t:Sys) (p a:Aut):Int:=if iface s p t<0∨zj a=false then 1 else if a.al≠iface s p t then 2 else if zbw s a p=false then 3 else if zaO [t] a=false then 4 else 0
section
variable {lo hi n c:Nat} {A:Option Addr} {s:Sys} {lo1 hi1 m1 d1 m1' d1':Nat} {B B':Option Addr} {p:Aut} {lo2 hi2 k c2:Nat} {C:Option Addr} {t:Sys} {w:World}
variable {lo3 hi3 m2 d2 m2' d2':Nat} {D D':Option Addr} {a:Aut}
theorem yD07a4 {P:Prop}(h:P:=by
 go_enter Tryz.func117,Tryz.ntmps117
 go_upto_region 1 with fail
 generalize (((w.alloc _).alloc _).alloc _).alloc _=w1 at *;have c1:=b1.cell;have c2:=b2.cell;have c3:=b3.cell;go_wp2_with (first
  |(go_at_call 114;with_reducible refine (HI.out _ hw1).mono (mQ fun w2 hx2=>?_);have hw2:=hw1.trans hx2;have c42:=(b4.ext hx2).cell)
  |(go_at_call 200;with_reducible refine (HA.out _ hw2).mono ?_;rw [H1.out];rintro e w3 ⟨rfl,hx3⟩;have hx13:=hx2.trans hx3;have hw3:=hw1.trans hx13;have c13:=(b1.ext hx13).cell;have c33:=(b3.ext hx13).cell;have c43:=(b4.ext hx13).cell)
  |(go_at_call 204;with_reducible refine (HU.out _ hw3).mono (mQ fun w4 hx4=>?_);have hx14:=hx13.trans hx4;have hw4:=hw1.trans hx14;have c24:=(b2.ext hx14).cell;have c44:=(b4.ext hx14).cell)
  |(go_at_call 205;with_reducible refine (HK.out _ hw4).mono (mQ fun w5 hx5=>?_);have hw5:=hw4.trans hx5))
 go_ret;exact⟨zJ (by rw [hr.out];try rfl),by first|exact hw5|exact hw4|exact hw3|exact hw2⟩
 ):P:=h
theorem spec_AssumptionFault (h:zP w lo hi A n s)(ht:zP w lo2 hi2 C k t)(hp:zH w lo1 hi1 B m1 B' m1' p)(ha:zH w lo3 hi3 D m2 D' m2' a) :
  Calls Tryz.prog 117 #[.agg #[s.al,s.st,.slice A n c],.agg #[t.al,t.st,.slice C k c2],.agg #[p.al,.slice B m1 d1,.slice B' m1' d1'],.agg #[a.al,.slice D m2 d2,.slice D' m2' d2']] w fun e w'=>e=.returned (.int .i64 (zaN s t p a))∧Ext w w':=by
 have HI:=za (fun W (hW:Ext w W)=>zcV (c:=c) (d1:=d1) (d1':=d1') (c2:=c2) (h.ext hW) (hp.ext hW) (ht.ext hW));have HA:=za (fun W (hW:Ext w W)=>zO _ _ _ _ d2 _ _ d2' _ _ (ha.ext hW));have HU:=za (fun W (hW:Ext w W)=>zig (c:=c) (d1:=d2) (d1':=d2') (d2:=d1) (d2':=d1') (h.ext hW) (ha.ext hW) (hp.ext hW));have HK:=za (fun W (hW:Ext w W)=>zgo (c:=c2) (d2:=d2) (d2':=d2') (ht.ext hW) (ha.ext hW));have hr:=za (show zaN s t p a=if iface s p t<0∨zj a=false then 1 else if a.al≠iface s p t then 2 else if zbw s a p=false then 3 else if zaO [t] a=false then 4 else 0 from rfl);clear h hp ht ha;have hw1:Ext w ((((w.alloc (.cells #[s.al,s.st,.slice A n c] 38)).alloc (.cells #[t.al,t.st,.slice C k c2] 38)).alloc (.cells #[p.al,.slice B m1 d1,.slice B' m1' d1'] 31)).alloc (.cells #[a.al,.slice D m2 d2,.slice D' m2' d2'] 31)):=((((cY w).alloc _).alloc _).alloc _).alloc _;obtain⟨b1,b2,b3,b4⟩:=zjB (cY ((((w.alloc (.cells #[s.al,s.st,.slice A n c] 38)).alloc (.cells #[t.al,t.st,.slice C k c2] 38)).alloc (.cells #[p.al,.slice B m1 d1,.slice B' m1' d1'] 31)).alloc (.cells #[a.al,.slice D m2 d2,.slice D' m2' d2'] 31)));generalize iface s p t=I at *;generalize zbw s a p=u at *;generalize zaO [t] a=v at *
 by_cases hI:I<0
 ·rw [if_pos (Or.inl hI)] at hr;obtain⟨y,H1⟩:∃ y,Hid (zj a=y):=⟨_,rfl⟩;have g:=za hI;exact yD07a4
 have b:¬ I<0:=hI;have f:0<=I:=oM;clear hI;cases h1:zj a
 ·rw [h1,if_pos (Or.inr rfl)] at hr;have H1:=za h1;clear h1;exact yD07a4
 rw [h1,if_neg (by rintro (h|h);exact b h;cases h)] at hr;have H1:=za h1;clear h1
 by_cases h2:a.al=I
 ·rw [if_neg (fun hn=>hn h2)] at hr;subst h2;cases u<;>cases v
  all_goals
   have i:=za (rfl:true=true);have j:=za (rfl:true=true);exact yD07a4
 ·rw [if_pos h2] at hr;have d:(a.al==I)=false:=by simpa using h2
  exact yD07a4
theorem yD07a5 {P:Prop}(h:P:=by
 go_enter Tryz.func109,Tryz.ntmps109
 go_upto_region 1 with fail
 generalize (((w.alloc _).alloc _).alloc _).alloc _=w1 at *;have c1:=b1.cell;have c2:=b2.cell;have c3:=b3.cell;go_wp2_with (first
  |(go_at_call 188;with_reducible refine (HI.out _ hw1).mono (mQ fun w2 hx2=>?_);have hw2:=hw1.trans hx2;have c42:=(b4.ext hx2).cell)
  |(go_at_call 95;with_reducible refine (HA.out _ hw2).mono ?_;rw [H1.out];rintro e w3 ⟨rfl,hx3⟩;have hx13:=hx2.trans hx3;have hw3:=hw1.trans hx13;have c13:=(b1.ext hx13).cell;have c33:=(b3.ext hx13).cell;have c43:=(b4.ext hx13).cell)
  |(go_at_call 100;with_reducible refine (HU.out _ hw3).mono (mQ fun w4 hx4=>?_);have hx14:=hx13.trans hx4;have hw4:=hw1.trans hx14;have c24:=(b2.ext hx14).cell;have c44:=(b4.ext hx14).cell)
  |(go_at_call 101;with_reducible refine (HK.out _ hw4).mono (mQ fun w5 hx5=>?_);have hw5:=hw4.trans hx5))
 go_ret;exact⟨zJ (by rw [hr.out];try rfl),by first|exact hw5|exact hw4|exact hw3|exact hw2⟩
 ):P:=h
theorem zfd (h:zP w lo hi A n s)(ht:zP w lo2 hi2 C k t)(hp:zH w lo1 hi1 B m1 B' m1' p)(ha:zH w lo3 hi3 D m2 D' m2' a)(hT:Tab w) :
  Calls Tryz.prog 109 #[.agg #[s.al,s.st,.slice A n c],.agg #[t.al,t.st,.slice C k c2],.agg #[p.al,.slice B m1 d1,.slice B' m1' d1'],.agg #[a.al,.slice D m2 d2,.slice D' m2' d2']] w fun e w'=>e=.returned (.int .i64 (zaN s t p a))∧Ext w w':=by
 have HI:=za (fun W (hW:Ext w W)=>zcT (c:=c) (d1:=d1) (d1':=d1') (c2:=c2) (h.ext hW) (hp.ext hW) (ht.ext hW));have HA:=za (fun W (hW:Ext w W)=>zF _ _ _ _ d2 _ _ d2' _ _ (ha.ext hW));have HU:=za (fun W (hW:Ext w W)=>zhO (c:=c) (d1:=d2) (d1':=d2') (d2:=d1) (d2':=d1') (h.ext hW) (ha.ext hW) (hp.ext hW) (hT.ext hW));have HK:=za (fun W (hW:Ext w W)=>zgb (c:=c2) (d2:=d2) (d2':=d2') (ht.ext hW) (ha.ext hW) (hT.ext hW));have hr:=za (show zaN s t p a=if iface s p t<0∨zj a=false then 1 else if a.al≠iface s p t then 2 else if zbw s a p=false then 3 else if zaO [t] a=false then 4 else 0 from rfl);clear h hp ht ha;have hw1:Ext w ((((w.alloc (.cells #[s.al,s.st,.slice A n c] 38)).alloc (.cells #[t.al,t.st,.slice C k c2] 38)).alloc (.cells #[p.al,.slice B m1 d1,.slice B' m1' d1'] 31)).alloc (.cells #[a.al,.slice D m2 d2,.slice D' m2' d2'] 31)):=((((cY w).alloc _).alloc _).alloc _).alloc _;obtain⟨b1,b2,b3,b4⟩:=zjB (cY ((((w.alloc (.cells #[s.al,s.st,.slice A n c] 38)).alloc (.cells #[t.al,t.st,.slice C k c2] 38)).alloc (.cells #[p.al,.slice B m1 d1,.slice B' m1' d1'] 31)).alloc (.cells #[a.al,.slice D m2 d2,.slice D' m2' d2'] 31)));generalize iface s p t=I at *;generalize zbw s a p=u at *;generalize zaO [t] a=v at *
 by_cases hI:I<0
 ·rw [if_pos (Or.inl hI)] at hr;obtain⟨y,H1⟩:∃ y,Hid (zj a=y):=⟨_,rfl⟩;have g:=za hI;exact yD07a5
 have b:¬ I<0:=hI;have f:0<=I:=oM;clear hI;cases h1:zj a
 ·rw [h1,if_pos (Or.inr rfl)] at hr;have H1:=za h1;clear h1;exact yD07a5
 rw [h1,if_neg (by rintro (h|h);exact b h;cases h)] at hr;have H1:=za h1;clear h1
 by_cases h2:a.al=I
 ·rw [if_neg (fun hn=>hn h2)] at hr;subst h2;cases u<;>cases v
  all_goals
   have i:=za (rfl:true=true);have j:=za (rfl:true=true);exact yD07a5
 ·rw [if_pos h2] at hr;have d:(a.al==I)=false:=by simpa using h2
  exact yD07a5
end
def wl (s:ByteArray):List Nat:=s.data.toList.map fun b=>b.toNat - 97
theorem zeA (s:ByteArray):(wl s).length=s.size:=by simp [wl]
theorem zdv (hk:k<s.size):(wl s)[k]?=some (s[k].toNat - 97):=by
 unfold wl;rw [dT,zco s k hk];rfl
theorem zaG (h:zbe s=true) (hk:k<s.size):97<=s[k].toNat∧s[k].toNat<=102:=by
 unfold zbe at h;simp only [dJ,eL] at h;have:=h.2 s[k] (dE (zco s k hk));simp only [zdn,decide_eq_true_eq] at this;omega
theorem zbi (h:zbe s=true):s.size<=50000:=by
 unfold zbe at h;simp only [dJ,decide_eq_true_eq] at h;exact h.1
theorem ziM (h:zbe s=true):∀ l∈wl s,l<6:=by
 intro l hl;obtain⟨k,b⟩:=eD hl;have a:=(List.getElem?_eq_some_iff.1 b).1;rw [zeA] at a;rw [zdv a] at b;have:=zaG h a;have:=Option.some.inj b;omega
def alB (ls:List Nat):Nat:=ls.foldl (fun u l=>u|||2 ^ l) 0
theorem alB_snoc (ls:List Nat) (l:Nat):alB (ls++[l])=alB ls|||2 ^ l:=by simp [alB]
theorem zej (ls:List Nat) (k:Nat):(alB ls).testBit k=true↔k∈ls:=by
 have a:∀ (ls:List Nat) (u:Nat),(ls.foldl (fun u l=>u|||2 ^ l) u).testBit k=true↔u.testBit k=true∨k∈ls:=by
  intro ls
  induction ls with
  |nil=>intro u;simp
  |cons l r ih =>
   intro u;rw [iG,ih,gU,Nat.testBit_two_pow,fV,decide_eq_true_eq,List.mem_cons];constructor
   ·rintro ((h|h)|h)
    ·exact Or.inl h
    ·exact Or.inr (Or.inl h.symm)
    ·exact Or.inr (Or.inr h)
   ·rintro (h|h|h)
    ·exact Or.inl (Or.inl h)
    ·exact Or.inl (Or.inr h.symm)
    ·exact Or.inr h
 have:=a ls 0;simpa [alB] using this
theorem alB_lt (h:∀ l∈ls,l<6):alB ls<64:=Nat.lt_pow_two_of_testBit (n:=6) _ fun k hk=>by
 rw [eQ]
 intro hb
 have:=h k ((zej ls k).1 hb)
 omega
def inB (s:ByteArray) (a:Nat):Bool:=decide (s.size<=50000)&&zeC s a
theorem zaH (h:inB s a=true):zbe s=true:=by
 unfold inB at h;simp only [dJ,decide_eq_true_eq] at h;unfold zbe;simp only [dJ,decide_eq_true_eq];refine⟨h.1,?_⟩;rw [eL];intro b hb;have c:=h.2;unfold zeC at c;rw [eL] at c;have d:=c b hb;unfold hasB ltr at d;simp only [dJ,decide_eq_true_eq] at d;unfold zdn;rw [decide_eq_true_eq];have f:=d.1
 split at f<;>omega
theorem zfD :inB s a=true↔zbe s=true∧alB (wl s)&&&a=alB (wl s):=by
 constructor
 ·intro h;have f:=zaH h;refine⟨f,fO fun k=>?_⟩;rw [fX];cases hk:(alB (wl s)).testBit k
  ·rfl
  ·rw [jF];have g:=(zej _ k).1 hk;obtain⟨i,d⟩:=eD g;have c:=(List.getElem?_eq_some_iff.1 d).1;rw [zeA] at c;rw [zdv c] at d;have hb:=zaG f c;have e:=Option.some.inj d;unfold inB zeC at h;simp only [dJ,eL] at h;have:=h.2 s[i] (dE (zco s i c));unfold hasB ltr at this;rw [if_neg oM] at this;simp only [dJ] at this;rw [← e,← this.2]
   congr 1
   omega
 ·rintro ⟨f,h⟩;unfold inB;simp only [dJ,decide_eq_true_eq];refine⟨zbi f,?_⟩;unfold zeC;rw [eL];intro b hb;obtain⟨i,d⟩:=eD hb;have c:i<s.size:=by have:=(List.getElem?_eq_some_iff.1 d).1;simpa using this
  rw [zco s i c] at d;obtain rfl:=Option.some.inj d;have j:=zaG f c;unfold hasB ltr;rw [if_neg oM];have g:(alB (wl s)).testBit (s[i].toNat - 97)=true:=(zej _ _).2 (dE (zdv c));rw [← h,fX,dJ] at g;simp only [dJ,decide_eq_true_eq];refine⟨oM,?_⟩;rw [show ((s[i].toNat:Int) - 97).toNat=s[i].toNat - 97 by omega];exact g.2
theorem zeL (hs:s.size<=9223372036854775807) :
  Calls Tryz.prog 219 #[s] w fun e w'=>e=.returned (.tuple #[.int .i64 (if zbe s=true then alB (wl s) else 0:Nat),.bool (zbe s)])∧w=w':=by
 cases hw:zbe s
 ·have f:=za hw;clear hw
  go_enter Tryz.func219,Tryz.ntmps219
  go_wp2_with (go_at_call 138;refine (zcJ s _ hs).mono ?_;rw [f.out];rintro e w' ⟨rfl,rfl⟩)
  go_ret2;exact⟨rfl,rfl⟩
 ·have q:=zbi hw;have p:=za (fun k o=>zaG hw (k:=k) o);have t:=za (ziM hw);have f:=za hw;clear hw
  go_enter Tryz.func219,Tryz.ntmps219
  go_wp2_with (go_at_call 138;refine (zcJ s _ hs).mono ?_;rw [f.out];rintro e w' ⟨rfl,rfl⟩)
  go_loop [4,5] (fun v i=>∃ k u:Nat,k<=s.size∧i=.int .i64 k∧v=.int .i64 u∧u<64∧Hid (u=alB ((wl s).take k))) (fun _ i=>s.size - (intOf i).toNat)
  case atStart=>exact⟨0,0,dI _,rfl,rfl,oM,rfl⟩
  case round =>
   obtain⟨k,u,o,rfl,rfl,r,d⟩:=hrel
   by_cases hlt:k<s.size
   ·have g:=p.out k hlt;obtain⟨l,h⟩:∃ l:Nat,Hid ((s[k].toNat:Int) - 97=l):=⟨s[k].toNat - 97,by unfold Hid;omega⟩;have j:l<6:=oH h.out;have m:=za (show alB ((wl s).take (k+1))=u|||2 ^ l by
     rw [dN,zdv hlt,eG,alB_snoc,← d.out]
     congr 2
     have:=h.out;omega)
    have c:=za (show bits .or .i64 (u:Nat) ((2:Int) ^ l)=((u|||2 ^ l:Nat):Int) by
     have:=zcm (a:=u) tM (Sm.bit (n:=l) oM);rw [show (((2:Nat) ^ l:Nat):Int)=(2:Int) ^ l by simp] at this;exact this)
    have b:u|||2 ^ l<64:=eR (n:=6) r (Nat.pow_lt_pow_right oM j)
    have x:=c.out;clear g;go_wp2_with (first
     |(go_at_call 141;refine (zbA s k hlt _).mono ?_;rw [h.out];rintro e w' ⟨rfl,rfl⟩)
     |(go_at_call 241;refine (zgG l oM _).mono ?_;rintro e w' ⟨rfl,rfl⟩))
    go_round
    case rel=>exact⟨k+1,u|||2 ^ l,oM,gM,by first|rfl|rw [c.out],b,m.symm⟩
    case measure=>simp [intOf];omega
   ·obtain rfl:k=s.size:=oM;have zkk:=za (show u=alB (wl s) by rw [d.out,dL (by rw [zeA];exact dG _)]);go_wp2;go_ret2;exact⟨by rw [zkk.out];rfl,rfl⟩
theorem zai (hs:s.size<=9223372036854775807)(ha:a<=63) :
  Calls Tryz.prog 143 #[s,a] w fun e w'=>e=.returned (.bool (inB s a))∧w=w':=by
 have d:=za (show (decide ((0:Int)<=a∧(a:Int)<=63))=true by simp;omega);cases hw:zbe s
 ·have hr:=za (show inB s a=false by
   rw [eQ];intro h;rw [zaH h] at hw;cases hw)
  have c:=za hw;clear hw
  go_enter Tryz.func143,Tryz.ntmps143
  go_wp2_with (go_at_call 219;refine (zeL hs).mono ?_;rw [c.out];rintro e w' ⟨rfl,rfl⟩)
  go_ret;exact⟨zm (by rw [hr.out]),rfl⟩
 ·obtain⟨u,g⟩:∃ u,Hid (alB (wl s)=u):=⟨_,rfl⟩;have i:u<64:=by rw [← g.out];exact alB_lt (ziM hw)
  have f:=za (zdx (a:=u) (b:=a) tM tM);have hb:=f.out;have hr:=za (show inB s a=(((u&&&a:Nat):Int)==(u:Int)) by
   rw [gL,zfD,g.out,beq_iff_eq];constructor
   ·rintro ⟨_,h⟩;rw [h]
   ·intro h;exact⟨hw,oM⟩)
  have c:=za hw;clear hw
  go_enter Tryz.func143,Tryz.ntmps143
  go_wp2_with (first
   |(go_at_call 219;refine (zeL hs).mono ?_;rw [c.out,if_pos rfl,g.out];rintro e w' ⟨rfl,rfl⟩)
   |(go_at_call 139;refine (zY _ _).mono ?_;rw [d.out];rintro e w' ⟨rfl,rfl⟩))
  go_ret;exact⟨zm (by rw [hr.out]),rfl⟩
def zjt (bs:List UInt8):List Int:=bs.map fun b=>(b.toNat:Int)
def bcl (bs:List UInt8):List Value:=(zjt bs).map (Value.int .u8)
theorem bcl_length (bs:List UInt8):(bcl bs).length=bs.length:=by simp [bcl,zjt]
def zgd (a:Nat) (bs:List UInt8):List UInt8:=bs.filter fun b=>hasB a (ltr b.toNat)
def zaU (s:ByteArray) (a:Nat):ByteArray:=strOfNums (zjt (zgd a s.data.toList))
theorem ziZ (hk:k<s.size):zgd a (s.data.toList.take (k+1))=zgd a (s.data.toList.take k)++if hasB a (ltr s[k].toNat)=true then [s[k]] else []:=by
 rw [dN,zco s k hk,eG];unfold zgd;rw [List.filter_append]
 congr 1
 cases h:hasB a (ltr s[k].toNat)<;>simp [h]
theorem zhU (s:ByteArray) (a k:Nat):(zgd a (s.data.toList.take k)).length<=s.size:=by
 refine dO (List.length_filter_le _ _) ?_;rw [List.length_take];have:s.data.toList.length=s.size:=sM;omega
theorem zjx {W:World} {base:Nat} {A:Option Addr} {cap:Nat} {bs:List UInt8}(h:W.ownsRow base 5 1 (.slice A n cap) n (bcl bs)) :
  (convert 62 9 (.slice A n cap)).run Tryz.prog W=.ok (.string (strOfNums (zjt bs))) W:=by
 have d:bs.length=n:=by have:=zdL h;rw [bcl_length] at this;omega
 rcases h.2 with ⟨a,j⟩|⟨g,c,f,a,_⟩
 ·injection a with a h3 h4
  subst a;subst h3;subst h4;obtain rfl:bs=[]:=dQ d;exact run_convert_bytes_nil (P:=Tryz.prog) W 62 5 u8_row u8_und _ _ _ zkb
 ·injection a with a
  subst a;refine run_convert_bytes_arg (P:=Tryz.prog) W 62 5 u8_row u8_und g 0 n cap (zjt bs) (by simp [zjt,d]) (fun i hi=>?_) _ zkb;rw [dW,h.cellAt i oM];unfold bcl;rw [dT];have b:i<(zjt bs).length:=by simp [zjt];omega
  rw [dF b];simp [List.getD,dF b]
theorem own_u8_lit (w:World):(w.alloc (.cells #[] 5)).ownsRow w.heap.size 5 1 (.slice (some w.heap.size) 0 0) 0 (bcl []):=World.ownsRow_lit w #[] 0 (dG _) lM rfl
theorem yD07a7 {P:Prop}(h:P:=by
 obtain rfl:k=s.size:=oM;have zkk:=za (show strOfNums (zjt bs)=zaU s a by rw [hbs.out,List.take_of_length_le sM];rfl);obtain⟨A5,c5,rfl⟩:=zi zkh;have hcv:=zjx zkh;clear zkh;go_wp2_with (simp only [hcv])
 go_ret;exact⟨by rw [zkk.out];rfl,hx⟩
 ):P:=h
theorem yD07a9 {P:Prop}(h:P:=by
 go_roundw
 case rel=>exact⟨k+1,bs++[s[k]],oM,gM,by rw [List.length_append];simpa [bcl,zjt] using zkt,hst2,by rw [List.length_append];exact hl3,hext5⟩
 case measure=>simp [intOf];omega
 ):P:=h
theorem zcG (hw:zbe s=true)(ha:a<=63) :
  Calls Tryz.prog 73 #[s,a] w fun e w'=>e=.returned (.string (zaU s a))∧Ext w w':=by
 have j:=za (show (decide ((0:Int)<=a∧(a:Int)<=63))=true by simp;omega);have u:=zbi hw;have p:=za (fun k o=>zaG hw (k:=k) o);have q:=za hw;clear hw
 go_enter Tryz.func73,Tryz.ntmps73
 go_upto_region 3 with (first
  |(go_at_call 138;refine (zcJ s _ oM).mono ?_;rw [q.out];rintro e w' ⟨rfl,rfl⟩)
  |(go_at_call 139;refine (zY _ _).mono ?_;rw [j.out];rintro e w' ⟨rfl,rfl⟩))
 go_upto_region 4 with fail
 have c:=own_u8_lit w;have hx0:=(cY w).alloc (.cells #[] 5);generalize hA0:(some ⟨w.heap.size,0,none⟩:Option Addr)=x at *;clear hA0;generalize w.alloc _=y at *;go_wp2_with fail
 go_loopw [5,6] (fun v i wr=>∃ (k:Nat) (bs:List UInt8),k<=s.size∧i=.int .i64 k∧wr.ownsRow w.heap.size 5 1 v bs.length (bcl bs)∧Hid (bs=zgd a (s.data.toList.take k))∧bs.length<=50000∧Ext w wr) (fun _ i _=>s.size - (intOf i).toNat)
 case atStart=>exact⟨0,[],dI _,rfl,c,rfl,sM,hx0⟩
 case round =>
  clear c hx0;obtain⟨k,bs,o,rfl,zkh,hbs,m,hx⟩:=hrel
  by_cases hlt:k<s.size
  ·have r:=p.out k hlt;obtain⟨l,g⟩:∃ l:Nat,Hid ((s[k].toNat:Int) - 97=l):=⟨s[k].toNat - 97,by unfold Hid;omega⟩;have f:=za (show hasB a (ltr s[k].toNat)=a.testBit l by
    unfold hasB ltr;have:=g.out;rw [if_neg oM,this]
    simp)
   have h:=za (ziZ (a:=a) hlt);have t:=zhU s a (k+1);have d:Sm a:=tM;have n:=za (show s.data.toList[k]?=some s[k] from zco s k hlt);cases hb:a.testBit l
   ·have b:=za hb;have hst2:=za (show bs=zgd a (s.data.toList.take (k+1)) by rw [h.out,f.out,b.out,hbs.out];simp);clear hb;go_wp2_with (first
     |(go_at_call 141;refine (zbA s k hlt _).mono ?_;rw [g.out];rintro e w' ⟨rfl,rfl⟩)
     |(go_at_call 140;refine (zax a l d _ (oH g.out)).mono ?_;rw [b.out];rintro e w' ⟨rfl,rfl⟩))
    go_roundw
    case rel=>exact⟨k+1,bs,oM,gM,zkh,hst2,m,hx⟩
    case measure=>simp [intOf];omega
   ·have b:=za hb;have hst2:=za (show bs++[s[k]]=zgd a (s.data.toList.take (k+1)) by rw [h.out,f.out,b.out,hbs.out];simp);have hl3:(bs++[s[k]]).length<=50000:=by rw [hst2.out];omega
    rw [dS,eC] at hl3;clear hb;go_wp2_with (first
     |(go_at_call 141;refine (zbA s k hlt _).mono ?_;rw [g.out];rintro e w' ⟨rfl,rfl⟩)
     |(go_at_call 140;refine (zax a l d _ (oH g.out)).mono ?_;rw [b.out];rintro e w' ⟨rfl,rfl⟩)
     |(at_builtin;refine zX w wr rfl _ _ _ rfl 5 _ 1 1 Tryz.underlying62 zjG rfl dM u5 _ _ _ _ rfl rfl hx zkh rfl (zju _) lM oM ?_;intro v' w5 hext5 zkt hg5 hat5))
    exact yD07a9
  ·exact yD07a7
theorem zdd (hw:zbe s=true)(ha:a<=63) :
  Calls Tryz.prog 83 #[s,a] w fun e w'=>e=.returned (.string (zaU s a))∧Ext w w':=by
 have m:=zbi hw;have h:=za (fun k g=>zaG hw (k:=k) g);clear hw;have c:Sm a:=tM
 go_enter Tryz.func83,Tryz.ntmps83
 go_wp2_with fail
 go_loopw [5,6,9] (fun v _ i wr=>∃ (k:Nat) (bs:List UInt8),k<=s.size∧i=.int .i64 k∧wr.ownsRow w.heap.size 5 1 v bs.length (bcl bs)∧Hid (bs=zgd a (s.data.toList.take k))∧bs.length<=50000∧Ext w wr) (fun _ _ i _=>s.size - (intOf i).toNat)
 case atStart=>exact⟨0,[],dI _,rfl,World.ownsRow_nil _ _ _ _,rfl,sM,cY _⟩
 case round =>
  obtain⟨k,bs,g,rfl,zkh,hbs,f,hx⟩:=hrel
  by_cases hlt:k<s.size
  ·have j:=h.out k hlt;have d:=za (ziZ (a:=a) hlt);have l:=zhU s a (k+1);cases hb:hasB a (ltr s[k].toNat)
   ·have b:=za hb;have hst2:=za (show bs=zgd a (s.data.toList.take (k+1)) by rw [d.out,b.out,hbs.out];simp);clear hb;go_wp2_with (first
     |(go_at_call 153;refine (zaM s k hlt _).mono ?_;rintro e w' ⟨rfl,rfl⟩)
     |(go_at_call 161;refine (zbQ a _ c _).mono ?_;rw [b.out];rintro e w' ⟨rfl,rfl⟩))
    go_roundw
    case rel=>exact⟨k+1,bs,oM,gM,zkh,hst2,f,hx⟩
    case measure=>simp [intOf];omega
   ·have b:=za hb;have hst2:=za (show bs++[s[k]]=zgd a (s.data.toList.take (k+1)) by rw [d.out,b.out,hbs.out];simp);have hl3:(bs++[s[k]]).length<=50000:=by rw [hst2.out];omega
    rw [dS,eC] at hl3;clear hb;go_wp2_with (first
     |(go_at_call 153;refine (zaM s k hlt _).mono ?_;rintro e w' ⟨rfl,rfl⟩)
     |(go_at_call 161;refine (zbQ a _ c _).mono ?_;rw [b.out];rintro e w' ⟨rfl,rfl⟩)
     |(at_builtin;refine zX w wr rfl _ _ _ rfl 5 _ 1 1 Tryz.underlying62 zjG rfl dM u5 _ _ _ _ rfl rfl hx zkh rfl (zju _) lM oM ?_;intro v' w5 hext5 zkt hg5 hat5))
    exact yD07a9
  ·exact yD07a7
def zhj (es:List Edg) (x:Nat) (ls:List Nat):Nat:=ls.foldl (fun m (l:Nat)=>zbN es m (l:Int)) x
theorem zgm (es:List Edg) (x:Nat) (ls:List Nat) (l:Nat):zhj es x (ls++[l])=zbN es (zhj es x ls) (l:Int):=by simp [zhj]
theorem runB_zero (es:List Edg) (ls:List Nat):zhj es 0 ls=0:=by
 induction ls with
 |nil=>rfl
 |cons l r ih=>rw [zhj,iG,zji];exact ih
theorem runB_end (h:zhj es x (ls.take k)=0):zhj es x ls=0:=by
 have e:ls=ls.take k++ls.drop k:=(List.take_append_drop k ls).symm;rw [e,zhj,List.foldl_append];show zhj es (zhj es x (ls.take k)) (ls.drop k)=0;rw [h,runB_zero]
section
variable {lo hi n c:Nat} {A:Option Addr} {s:Sys} {t:ByteArray} {w:World}
theorem runB_lt16 {p:Nat} (hf:Few p es)(hp:p<=16) (ls:List Nat):zhj es 1 ls<65536:=by
 rcases zae ls with rfl|⟨u,l,rfl⟩
 ·simp [zhj]
 ·rw [zgm];refine eB (zka hf _ _) ?_;rw [show (65536:Nat)=2 ^ 16 from rfl];exact eH oM hp
theorem spec_l2Run (h:zP w lo hi A n s)(hv:zk s=true)(ht:zbe t=true) :
  Calls Tryz.prog 286 #[.agg #[s.al,s.st,.slice A n c],(1:Int),t] w fun e w'=>e=.returned (.int .i64 (zhj s.edges 1 (wl t):Nat))∧Ext w w':=by
 obtain⟨p,D,E,f,q⟩:=zcx hv;have HS:=za (fun W (hW:Ext w W)=>h.ext hW);have F:=zbi ht;have z:=za (fun k r=>zaG ht (k:=k) r);have B:=za q;have m:=za (fun ls=>runB_lt16 q f ls);clear h hv ht q D
 go_enter Tryz.func286,Tryz.ntmps286
 go_upto_region 1 with fail
 generalize U0:w.alloc _=w1 at *;obtain⟨hw1,b1⟩:=gH U0;clear U0;go_wp2_with fail
 go_loopw [1,7] (fun v i wr=>∃ k x:Nat,i=.int .i64 k∧k<=t.size∧v=.int .i64 x∧x<65536∧Hid (x=zhj s.edges 1 ((wl t).take k))∧Ext w1 wr) (fun _ i _=>t.size - (intOf i).toNat)
 case atStart=>exact⟨0,1,rfl,dI _,rfl,oM,rfl,cY _⟩
 case round =>
  obtain⟨k,x,rfl,r,rfl,hx,b,hxr⟩:=hrel
  by_cases hlt:k<t.size
  ·by_cases hx0:x=0
   ·subst hx0;have zkk:=za (show zhj s.edges 1 (wl t)=0 from runB_end b.out.symm);go_wp2;go_ret;exact⟨zJ (by rw [zkk.out]),hw1.trans hxr⟩
   ·have C:((x:Int) != 0)=true:=by simp;try omega
    have o:=z.out k hlt;obtain⟨l,u⟩:∃ l:Nat,Hid ((t[k].toNat:Int) - 97=l):=⟨t[k].toNat - 97,by unfold Hid;omega⟩;have g:=za (show zbN s.edges x (l:Int)=zhj s.edges 1 ((wl t).take (k+1)) by
     rw [dN,zdv hlt,eG,zgm,← b.out]
     congr 1
     have:=u.out;omega)
    have d:=m.out ((wl t).take (k+1));rw [← g.out] at d;have HC:=za (fun W (hW:Ext w1 W)=>zfL (c:=c) (set:=x) (l:=(l:Int)) (HS.out W (hw1.trans hW)) B.out f tM);generalize zbN s.edges x (l:Int)=y at *;have c1:∀ W,Ext wr W->∀ j,W.cell? ⟨w.heap.size,j,none⟩=#[Value.int .i64 s.al,.int .i64 s.st,.slice A n c][j]?:=fun W hW=>(b1.ext (hxr.trans hW)).cell;have a:=cY wr;clear o;go_upto_region 4 with fail
    refine uR (fun X=>Ext wr X) [5] (zv.of [0,1,2,3,4,5,6]) ?_;refine uQ ?_;refine ze fun K hK=>?_;go_simp;refine (zbA t k hlt _).mono ?_;rw [u.out];rintro e w' ⟨rfl,rfl⟩;refine hK.out _ _ a.drew ?_;refine pT ?_;refine zb fun K hK=>?_;go_simp;refine (HC.out _ (hxr.trans a.drew)).mono (mQ fun w5 hx5=>?_);refine hK.out _ _ ?_;refine pT ?_;refine uQ ?_;refine zf ?_;have hx6:=hxr.trans (a.drew.trans hx5);go_wp2_with fail
    go_roundw
    case rel=>exact⟨k+1,y,gM,oM,rfl,d,g,hx6⟩
    case measure=>simp [intOf];omega
  ·obtain rfl:k=t.size:=oM;have zkk:=za (show x=zhj s.edges 1 (wl t) by rw [b.out,dL (by rw [zeA];exact dG _)]);go_wp2;go_ret;exact⟨zJ (by rw [zkk.out]),hw1.trans hxr⟩
def zfc (s:Sys) (t:ByteArray):Nat:=if (zk s&&inB t s.al.toNat)=true then zhj s.edges 1 (wl t) else 0
theorem zhl (h:zP w lo hi A n s)(ht:t.size<=9223372036854775807) :
  Calls Tryz.prog 282 #[.agg #[s.al,s.st,.slice A n c],t] w fun e w'=>e=.returned (.int .i64 (zfc s t:Nat))∧Ext w w':=by
 have HS:=za (fun W (hW:Ext w W)=>h.ext hW);have HV:=za (fun W (hW:Ext w W)=>zam (c:=c) (h.ext hW));clear h;have hw1:Ext w (w.alloc (.cells #[s.al,s.st,.slice A n c] 38)):=(cY w).alloc _;have b1:=Blk.new w 38 #[s.al,s.st,.slice A n c];cases hv:zk s
 ·have d:=za hv;have hr:=za (show zfc s t=0 by unfold zfc;rw [hv];rfl);clear hv
  go_enter Tryz.func282,Tryz.ntmps282
  go_upto_region 1 with fail
  generalize w.alloc _=w1 at *;have c1:=b1.cell;go_wp2_with (go_at_call 199;refine (HV.out _ hw1).mono ?_;rw [d.out];rintro e w2 ⟨rfl,hx2⟩)
  go_ret;exact⟨zJ (by rw [hr.out];rfl),hw1.trans hx2⟩
 ·have i:=zR hv;obtain⟨al,a⟩:∃ al:Nat,Hid (s.al=al):=⟨s.al.toNat,by unfold Hid;omega⟩;have b:al<=63:=oH a.out;have hr:=za (show zfc s t=if inB t al=true then zhj s.edges 1 (wl t) else 0 by unfold zfc;rw [hv,a.out];simp);have d:=za hv;cases hi:inB t al
  ·have f:=za hi;rw [hi] at hr;clear hv hi
   go_enter Tryz.func282,Tryz.ntmps282
   go_upto_region 1 with fail
   generalize w.alloc _=w1 at *;have c1:=b1.cell;go_wp2_with (first
    |(go_at_call 199;refine (HV.out _ hw1).mono ?_;rw [d.out];rintro e w2 ⟨rfl,hx2⟩;have c2:=((b1.ext hx2).cell 0).trans (show #[Value.int .i64 s.al,.int .i64 s.st,.slice A n c][0]?=some (Value.int .i64 (al:Nat)) by rw [a.out];rfl))
    |(go_at_call 143;refine (zai ht b).mono ?_;rw [f.out];rintro e w3 ⟨rfl,rfl⟩))
   go_ret;exact⟨zJ (by rw [hr.out];rfl),hw1.trans hx2⟩
  ·have f:=za hi;have g:=za (zaH hi);rw [hi,if_pos rfl] at hr;clear hv hi
   go_enter Tryz.func282,Tryz.ntmps282
   go_upto_region 1 with fail
   generalize w.alloc _=w1 at *;have c1:=b1.cell;go_upto_region 3 with (first
    |(go_at_call 199;refine (HV.out _ hw1).mono ?_;rw [d.out];rintro e w2 ⟨rfl,hx2⟩;have c2:=((b1.ext hx2).cell 0).trans (show #[Value.int .i64 s.al,.int .i64 s.st,.slice A n c][0]?=some (Value.int .i64 (al:Nat)) by rw [a.out];rfl))
    |(go_at_call 143;refine (zai ht b).mono ?_;rw [f.out];rintro e w3 ⟨rfl,rfl⟩))
   have hw2:=hw1.trans hx2;have c3:=(b1.ext hx2).cell;clear c2 c1;go_wp2_with (go_at_call 286;refine (spec_l2Run (HS.out _ hw2) d.out g.out).mono (mQ fun w4 hx4=>?_))
   go_ret;exact⟨zJ (by rw [hr.out]),hw2.trans hx4⟩
theorem zhf (h:zP w lo hi A n s)(hT:Tab w)(ht:t.size<=9223372036854775807) :
  Calls Tryz.prog 184 #[.agg #[s.al,s.st,.slice A n c],t] w fun e w'=>e=.returned (.int .i64 (zfc s t:Nat))∧Ext w w':=by
 have HS:=za (fun W (hW:Ext w W)=>h.ext hW);have HT:=za (fun W (hW:Ext w W)=>hT.ext hW);have HV:=za (fun W (hW:Ext w W)=>zak (c:=c) (h.ext hW));clear h hT;have hw1:Ext w (w.alloc (.cells #[s.al,s.st,.slice A n c] 38)):=(cY w).alloc _;have b1:=Blk.new w 38 #[s.al,s.st,.slice A n c];cases hv:zk s
 ·have o:=za hv;have hr:=za (show zfc s t=0 by unfold zfc;rw [hv];rfl);clear hv
  go_enter Tryz.func184,Tryz.ntmps184
  go_upto_region 1 with fail
  generalize w.alloc _=w1 at *;have c1:=b1.cell;go_wp2_with (go_at_call 108;refine (HV.out _ hw1).mono ?_;rw [o.out];rintro e w2 ⟨rfl,hx2⟩)
  go_ret;exact⟨zJ (by rw [hr.out];rfl),hw1.trans hx2⟩
 ·have I:=zR hv;obtain⟨al,a⟩:∃ al:Nat,Hid (s.al=al):=⟨s.al.toNat,by unfold Hid;omega⟩;have b:al<=63:=oH a.out;have hr:=za (show zfc s t=if inB t al=true then zhj s.edges 1 (wl t) else 0 by unfold zfc;rw [hv,a.out];simp);have o:=za hv;cases hi:inB t al
  ·have r:=za (show (decide (t.size<=50000)&&zeC t al)=false from hi);rw [hi] at hr;clear hv hi
   go_enter Tryz.func184,Tryz.ntmps184
   go_upto_region 1 with fail
   generalize w.alloc _=w1 at *;have c1:=b1.cell;go_wp2_with (first
    |(go_at_call 108;refine (HV.out _ hw1).mono ?_;rw [o.out];rintro e w2 ⟨rfl,hx2⟩;have c2:=((b1.ext hx2).cell 0).trans (show #[Value.int .i64 s.al,.int .i64 s.st,.slice A n c][0]?=some (Value.int .i64 (al:Nat)) by rw [a.out];rfl))
    |(go_at_call 103;refine (zbg t al _ ht b).mono ?_;rw [r.out];rintro e w3 ⟨rfl,rfl⟩))
   go_ret;exact⟨zJ (by rw [hr.out];rfl),hw1.trans hx2⟩
  ·have r:=za (show (decide (t.size<=50000)&&zeC t al)=true from hi);have d:=zaH hi;obtain⟨p,L,M,j,z⟩:=zcx hv;have O:=zbi d;have H:=za (fun k E=>zaG d (k:=k) E);have D:=za z;have q:=za (fun ls=>runB_lt16 z j ls);rw [hi,if_pos rfl] at hr;clear hv hi z L d
   go_enter Tryz.func184,Tryz.ntmps184
   go_upto_region 1 with fail
   generalize w.alloc _=w1 at *;have c1:=b1.cell;go_upto_region 3 with (first
    |(go_at_call 108;refine (HV.out _ hw1).mono ?_;rw [o.out];rintro e w2 ⟨rfl,hx2⟩;have c2:=((b1.ext hx2).cell 0).trans (show #[Value.int .i64 s.al,.int .i64 s.st,.slice A n c][0]?=some (Value.int .i64 (al:Nat)) by rw [a.out];rfl))
    |(go_at_call 103;refine (zbg t al _ ht b).mono ?_;rw [r.out];rintro e w3 ⟨rfl,rfl⟩))
   have hw2:=hw1.trans hx2;have c3:=(b1.ext hx2).cell;clear c2 c1;go_wp2_with (go_at_call 227;refine (zdA (HS.out _ hw2) (fun e he=>by have:=D.out e he;omega)).mono ?_;rintro e w4 ⟨Q,rfl,_,F,hx4⟩)
   have hw4:=hw2.trans hx4;have G:=za (fun W (hW:Ext w4 W)=>(F.ext hW).at_);clear F c3
   go_loopw [6,7] (fun v i wr=>∃ k x:Nat,i=.int .i64 k∧k<=t.size∧v=.int .i64 x∧x<65536∧Hid (x=zhj s.edges 1 ((wl t).take k))∧Ext w4 wr) (fun _ i _=>t.size - (intOf i).toNat)
   case atStart=>exact⟨0,1,rfl,dI _,rfl,oM,rfl,cY _⟩
   case round =>
    obtain⟨k,x,rfl,E,rfl,hx,f,hxr⟩:=hrel
    by_cases hlt:k<t.size
    ·by_cases hx0:x=0
     ·subst hx0;have zkk:=za (show zhj s.edges 1 (wl t)=0 from runB_end f.out.symm);go_wp2;go_ret;exact⟨zJ (by rw [hr.out,zkk.out]),hw4.trans hxr⟩
     ·have J:((x:Int) != 0)=true:=by simp;try omega
      have u:=H.out k hlt;obtain⟨l,B⟩:∃ l:Nat,Hid (ltr t[k].toNat=l∧l<6∧t[k].toNat - 97=l):=⟨t[k].toNat - 97,by unfold Hid ltr;rw [if_neg oM];omega⟩;have C:=B.out.2.1;have m:=za (show zbN s.edges x (l:Int)=zhj s.edges 1 ((wl t).take (k+1)) by
       rw [dN,zdv hlt,eG,zgm,← f.out,B.out.2.2])
      have g:=q.out ((wl t).take (k+1));rw [← m.out] at g;have HC:=za (fun W (hW:Ext w4 W)=>impl_step (G.out W hW) (HT.out W (hw4.trans hW)) (show x<2 ^ 16 from hx) C D.out j);generalize zbN s.edges x (l:Int)=y at *;clear u;go_wp2_with (first
       |(go_at_call 153;refine (zaM t k hlt _).mono ?_;rw [B.out.1];rintro e w' ⟨rfl,rfl⟩)
       |(go_at_call 246;refine (HC.out _ hxr).mono (mQ fun R hx6=>?_)))
      go_roundw
      case rel=>exact⟨k+1,y,gM,oM,rfl,g,m,hxr.trans hx6⟩
      case measure=>simp [intOf];omega
    ·obtain rfl:k=t.size:=oM;have zkk:=za (show x=zhj s.edges 1 (wl t) by rw [f.out,dL (by rw [zeA];exact dG _)]);go_wp2;go_ret;exact⟨zJ (by rw [hr.out,zkk.out]),hw4.trans hxr⟩
theorem zjP (h:zP w lo hi A n s)(ht:t.size<=9223372036854775807) :
  Calls Tryz.prog 262 #[.agg #[s.al,s.st,.slice A n c],t] w fun e w'=>e=.returned (.bool (zfc s t != 0))∧Ext w w':=by
 have HS:=za (fun W (hW:Ext w W)=>zhl (c:=c) (h.ext hW) ht);have hr:=za (show (((zfc s t:Nat):Int) != 0)=(zfc s t != 0) by rw [gL];simp;try omega);generalize zfc s t=y at *
 go_enter Tryz.func262,Tryz.ntmps262
 go_wp2_with (go_at_call 282;refine (HS.out _ ((cY _).alloc _)).mono (mQ fun w2 hx2=>?_))
 go_ret;exact⟨zm (by rw [hr.out]),((cY _).alloc _).trans hx2⟩
theorem zjF (h:zP w lo hi A n s)(hT:Tab w)(ht:t.size<=9223372036854775807) :
  Calls Tryz.prog 105 #[.agg #[s.al,s.st,.slice A n c],t] w fun e w'=>e=.returned (.bool (zfc s t != 0))∧Ext w w':=by
 have HS:=za (fun W (hW:Ext w W)=>zhf (c:=c) (h.ext hW) (hT.ext hW) ht);have hr:=za (show (((zfc s t:Nat):Int) != 0)=(zfc s t != 0) by rw [gL];simp;try omega);generalize zfc s t=y at *
 go_enter Tryz.func105,Tryz.ntmps105
 go_wp2_with (go_at_call 184;refine (HS.out _ ((cY _).alloc _)).mono (mQ fun w2 hx2=>?_))
 go_ret;exact⟨zm (by rw [hr.out]),((cY _).alloc _).trans hx2⟩
end
theorem zea (s:ByteArray) (a:Nat):(zaU s a).size<=s.size:=by
 have h:=zhU s a s.size;rw [dL sM] at h;have e:(zaU s a).size=(zjt (zgd a s.data.toList)).length:=by unfold zaU;rw [strOfNums_size]
 rw [e,zjt,List.length_map];exact h
def ziL (ss:List Sys) (t:ByteArray):Bool:=zA ss&&(inB t (zG ss)&&ss.all fun s=>zfc s (zaU t s.al.toNat) != 0)
section
variable {lo hi n c:Nat} {A:Option Addr} {ss:List Sys} {t:ByteArray} {w:World}
theorem all_next {f:Sys->Bool}  {s:Sys}(h:ss[k]?=some s)(ha:(ss.take k).all f=true)(hf:f s=true):(ss.take (k+1)).all f=true:=by
 rw [dN,h,List.all_append,ha];simp [hf]
theorem all_not {f:Sys->Bool}  {s:Sys}(h:ss[k]?=some s)(hf:f s=false):ss.all f=false:=by
 rw [List.all_eq_false];exact⟨s,dE h,by simp [hf]⟩
theorem yD07a6 {P:Prop}(h:P:=by
 cases hb:(zfc s t' != 0)
 ·have hff:=za (hF.out hb);clear hF hN;go_wp2;go_ret;exact⟨zm (by rw [hr.out,hff.out]),hxr.trans hx6⟩
 ·have hnn:=za (hN.out hb);clear hF hN;go_wp2_with fail
  go_roundw
  case rel=>exact⟨k+1,oM,gM,hnn,hxr.trans hx6⟩
  case measure=>simp [intOf];omega
 ):P:=h
theorem yD07a8 {P:Prop}(h:P:=by
 obtain rfl:k=n:=oM;have zkk:=za (show (ss.all fun s=>zfc s (zaU t s.al.toNat) != 0)=true by have:=hall.out;rwa [List.take_of_length_le (oH hL.out)] at this);go_wp2;go_ret;exact⟨zm (by rw [hr.out,zkk.out]),hxr⟩
 ):P:=h
theorem spec_TraceOfParts (h:zgL w lo hi A n ss)(ht:t.size<=9223372036854775807) :
  Calls Tryz.prog 202 #[.slice A n c,t] w fun e w'=>e=.returned (.bool (ziL ss t))∧Ext w w':=by
 have L:=h.len;have hL:=za h.1;have HS:=za (fun W (hW:Ext w W)=>h.ext hW);clear h;cases hp:zA ss
 ·have a:=za (show zbj ss = -1 by unfold zbj;rw [hp];rfl);have hr:=za (show ziL ss t=false by unfold ziL;rw [hp];rfl);clear hp
  go_enter Tryz.func202,Tryz.ntmps202
  go_wp2_with (go_at_call 207;refine (zaw (HS.out _ (cY _))).mono ?_;rw [a.out];rintro e w1 ⟨rfl,hx⟩)
  go_ret;exact⟨zm (by rw [hr.out]),hx⟩
 ·have G:=za (zaP hp).2;have F:=zgv G.out;have a:=za (show zbj ss=(zG ss:Int) by unfold zbj;rw [hp];rfl);have hr:=za (show ziL ss t=(inB t (zG ss)&&ss.all fun s=>zfc s (zaU t s.al.toNat) != 0) by unfold ziL;rw [hp];rfl);clear hp;generalize zG ss=u at *;cases hi:inB t u
  ·have r:=za hi;rw [hi] at hr;clear hi
   go_enter Tryz.func202,Tryz.ntmps202
   go_wp2_with (first
    |(go_at_call 207;refine (zaw (HS.out _ (cY _))).mono ?_;rw [a.out];rintro e w1 ⟨rfl,hx⟩)
    |(go_at_call 143;refine (zai ht F).mono ?_;rw [r.out];rintro e w3 ⟨rfl,rfl⟩))
   go_ret;exact⟨zm (by rw [hr.out];rfl),hx⟩
  ·have r:=za hi;have z:=za (zaH hi);rw [hi,jF] at hr;clear hi
   go_enter Tryz.func202,Tryz.ntmps202
   go_wp2_with (first
    |(go_at_call 207;refine (zaw (HS.out _ (cY _))).mono ?_;rw [a.out];rintro e w1 ⟨rfl,hx⟩)
    |(go_at_call 143;refine (zai ht F).mono ?_;rw [r.out];rintro e w3 ⟨rfl,rfl⟩))
   go_loopw [6] (fun i wr=>∃ k:Nat,k<=n∧i=.int .i64 k∧Hid ((ss.take k).all (fun s=>zfc s (zaU t s.al.toNat) != 0)=true)∧Ext w wr) (fun i _=>n - (intOf i).toNat)
   case atStart=>exact⟨0,dI _,rfl,rfl,hx⟩
   case round =>
    clear hx;obtain⟨k,J,rfl,hall,hxr⟩:=hrel
    by_cases hlt:k<n
    ·obtain⟨b,o,s,B,q,d,rfl,_,_,y,E,c1,c2,m⟩:=(HS.out wr hxr).sys hlt;obtain⟨v,x⟩:=zR (G.out s (dE y.out));obtain⟨al,j⟩:∃ al:Nat,Hid (s.al=al):=⟨s.al.toNat,by unfold Hid;omega⟩;have l:al<=63:=oH j.out;have p:s.al.toNat=al:=oH j.out;have g:=dO (zea t al) ht;have H:=za (fun W=>zcG (w:=W) z.out l);have HC:=za (fun W (hW:Ext wr W)=>zjP (c:=d) (m.ext hW) g);rw [j.out] at E HC;have I:∀ W,Ext wr W->W.cell? ⟨b,o+k*3,none⟩=some (.int .i64 al):=fun W hW=>hW.aa E;have d1:∀ W,Ext wr W->W.cell? ⟨b,o+k*3+1,none⟩=some (.int .i64 s.st):=fun W hW=>hW.aa c1;have d2:∀ W,Ext wr W->W.cell? ⟨b,o+k*3+2,none⟩=some (.slice B q d):=fun W hW=>hW.aa c2;have hN:=za (fun hb=>all_next (f:=fun s=>zfc s (zaU t s.al.toNat) != 0) y.out hall.out hb);have hF:=za (fun hb=>all_not (f:=fun s=>zfc s (zaU t s.al.toNat) != 0) y.out hb);simp only [p] at hN hF;clear p g m v x hall;generalize zaU t al=t' at *;have C:=cY wr;go_upto_region 7 with fail
     refine uR (fun X=>Ext wr X) [11] (zv.of [0,1,2,3,4,5,6,7,8,9,10,11,12]) ?_;refine uQ ?_;refine ze fun K hK=>?_;go_simp;refine (H.out _).mono (mQ fun w' D=>?_);have hx2:=C.drew.trans D;refine hK.out _ _ hx2 ?_;refine pT ?_;refine zb fun K hK=>?_;go_simp;refine (HC.out _ hx2).mono (mQ fun w5 hx5=>?_);refine hK.out _ _ ?_;refine pT ?_;refine uQ ?_;refine zf ?_;have hx6:=hx2.trans hx5;exact yD07a6
    ·exact yD07a8
theorem zac (h:zgL w lo hi A n ss)(hT:Tab w)(ht:t.size<=9223372036854775807) :
  Calls Tryz.prog 50 #[.slice A n c,t] w fun e w'=>e=.returned (.bool (ziL ss t))∧Ext w w':=by
 have M:=h.len;have hL:=za h.1;have HS:=za (fun W (hW:Ext w W)=>h.ext hW);have HT:=za (fun W (hW:Ext w W)=>hT.ext hW);clear h hT;cases hp:zA ss
 ·have v:=za hp;have hr:=za (show ziL ss t=false by unfold ziL;rw [hp];rfl);clear hp
  go_enter Tryz.func50,Tryz.ntmps50
  go_wp2_with (go_at_call 94;refine (zaL (HS.out _ (cY _))).mono ?_;rw [v.out];rintro e w1 ⟨rfl,hx⟩)
  go_ret;exact⟨zm (by rw [hr.out]),hx⟩
 ·have v:=za hp;have G:=za (zaP hp).2;have F:=zgv G.out;have l:=za (show zbj ss=(zG ss:Int) by unfold zbj;rw [hp];rfl);have hr:=za (show ziL ss t=(inB t (zG ss)&&ss.all fun s=>zfc s (zaU t s.al.toNat) != 0) by unfold ziL;rw [hp];rfl);clear hp;generalize zG ss=u at *;cases hi:inB t u
  ·have x:=za (show (decide (t.size<=50000)&&zeC t u)=false from hi);rw [hi] at hr;clear hi
   go_enter Tryz.func50,Tryz.ntmps50
   go_wp2_with (first
    |(go_at_call 94;refine (zaL (HS.out _ (cY _))).mono ?_;rw [v.out];rintro e w1 ⟨rfl,a⟩)
    |(go_at_call 104;refine (zbp (HS.out _ a)).mono ?_;rw [l.out];rintro e w2 ⟨rfl,hx⟩)
    |(go_at_call 103;refine (zbg t u _ ht F).mono ?_;rw [x.out];rintro e w3 ⟨rfl,rfl⟩))
   go_ret;exact⟨zm (by rw [hr.out];rfl),a.trans hx⟩
  ·have x:=za (show (decide (t.size<=50000)&&zeC t u)=true from hi);have D:=za (zaH hi);rw [hi,jF] at hr;clear hi
   go_enter Tryz.func50,Tryz.ntmps50
   go_wp2_with (first
    |(go_at_call 94;refine (zaL (HS.out _ (cY _))).mono ?_;rw [v.out];rintro e w1 ⟨rfl,a⟩)
    |(go_at_call 104;refine (zbp (HS.out _ a)).mono ?_;rw [l.out];rintro e w2 ⟨rfl,hx⟩)
    |(go_at_call 103;refine (zbg t u _ ht F).mono ?_;rw [x.out];rintro e w3 ⟨rfl,rfl⟩))
   go_loopw [6,19] (fun _ i wr=>∃ k:Nat,k<=n∧i=.int .i64 k∧Hid ((ss.take k).all (fun s=>zfc s (zaU t s.al.toNat) != 0)=true)∧Ext w wr) (fun _ i _=>n - (intOf i).toNat)
   case atStart=>exact⟨0,dI _,rfl,rfl,a.trans hx⟩
   case round =>
    clear hx a;obtain⟨k,L,rfl,hall,hxr⟩:=hrel
    by_cases hlt:k<n
    ·obtain⟨b,o,s,B,q,d,rfl,_,_,C,J,c1,c2,p⟩:=(HS.out wr hxr).sys hlt;obtain⟨y,z⟩:=zR (G.out s (dE C.out));obtain⟨al,j⟩:∃ al:Nat,Hid (s.al=al):=⟨s.al.toNat,by unfold Hid;omega⟩;have m:al<=63:=oH j.out;have r:s.al.toNat=al:=oH j.out;have g:=dO (zea t al) ht;have H:=za (fun W=>zdd (w:=W) D.out m);have HC:=za (fun W (hW:Ext wr W)=>zjF (c:=d) (p.ext hW) (HT.out W (hxr.trans hW)) g);rw [j.out] at J HC;have hN:=za (fun hb=>all_next (f:=fun s=>zfc s (zaU t s.al.toNat) != 0) C.out hall.out hb);have hF:=za (fun hb=>all_not (f:=fun s=>zfc s (zaU t s.al.toNat) != 0) C.out hb);simp only [r] at hN hF;clear r g p y z hall;generalize zaU t al=t' at *;go_upto_region 6 with fail
     generalize U0:wr.alloc _=w5 at *;obtain⟨hw5,I⟩:=gH U0;clear U0;have c5:=I.cells;have E:=cY w5;refine uR (fun X=>Ext w5 X) [5] (zv.of [0,1,2,3,4,5,6]) ?_;refine uQ ?_;refine ze fun K hK=>?_;go_simp;refine (H.out _).mono (mQ fun w' a=>?_);have hx2:=E.drew.trans a;refine hK.out _ _ hx2 ?_;refine pT ?_;refine zb fun K hK=>?_;go_simp;refine (HC.out _ (hw5.trans hx2)).mono (mQ fun O hx5=>?_);refine hK.out _ _ ?_;refine pT ?_;refine uQ ?_;refine zf ?_;have hx6:=hw5.trans (hx2.trans hx5);exact yD07a6
    ·exact yD07a8
end
def zI (hd:Bool) (a:Aut) (s:ByteArray):Bool:=if hd then zj a&&s.toList.isEmpty else zfv a&&zbe s
theorem zcO (lo hi:Nat) (A:Option Addr) (n c:Nat) (A':Option Addr) (n' c':Nat)(hd:Bool) (a:Aut) (s:ByteArray) (w:World)(h:zH w lo hi A n A' n' a)(hs:s.size<=9223372036854775807) :
  Calls Tryz.prog 115 #[.agg #[.bool hd,a.al,.slice A n c,.slice A' n' c',s]] w fun e w'=>e=.returned (.bool (zI hd a s))∧Ext w w':=by
 have i:=fun W (hW:Ext w W)=>h.ext hW;have g:=za i;clear i;cases hd
 ·cases hb:zfv a
  all_goals
   have d:=za hb;clear hb
   go_enter Tryz.func115,Tryz.ntmps115
   go_wp2_with (first
    |(go_at_call 201;refine (spec_l13None _ _ _ _ _ _ _ _ _ _ (g.out _ ?_)).mono ?_;exact (cY _).alloc _;rw [d.out];rintro e w2 ⟨rfl,b⟩;have f:=zdk b)
    |(go_at_call 138;refine (zcJ s _ hs).mono ?_;rintro e w' ⟨rfl,rfl⟩))
   go_ret;exact⟨zm (by rw [zI,d.out];simp),((cY _).alloc _).trans b⟩
 ·cases hb:zj a
  all_goals
   have d:=za hb;clear hb
   go_enter Tryz.func115,Tryz.ntmps115
   go_wp2_with (go_at_call 200;refine (zO _ _ _ _ _ _ _ _ _ _ (g.out _ ?_)).mono ?_;exact (cY _).alloc _;rw [d.out];rintro e w2 ⟨rfl,b⟩;have f:=zdk b)
   go_ret;exact⟨zm (by rw [zI,d.out];simp),((cY _).alloc _).trans b⟩
theorem zbu (lo hi:Nat) (A:Option Addr) (n c:Nat) (A':Option Addr) (n' c':Nat)(hd:Bool) (a:Aut) (s:ByteArray) (w:World)(h:zH w lo hi A n A' n' a)(hs:s.size<=9223372036854775807) :
  Calls Tryz.prog 99 #[.agg #[.bool hd,a.al,.slice A n c,.slice A' n' c',s]] w fun e w'=>e=.returned (.bool (zI hd a s))∧Ext w w':=by
 have i:=fun W (hW:Ext w W)=>h.ext hW;have m:=za i;clear i;cases hd
 ·have d:=za (show zfv a=(decide (a.al=0)&&(decide (n=0)&&decide (n'=0))) by unfold zfv;rw [← h.n1,← h.n2]);have o:=h.1.len;have p:=h.2.2.len;clear h
  by_cases h0:a.al=0
  ·have hb:((a.al:Int)==0)=true:=by simp [h0]
   have k:=za h0;clear h0
   by_cases h1:n=0
   ·have hb1:((n:Int)==0)=true:=by simp [h1]
    have H1:=za h1;clear h1
    by_cases h2:n'=0
    ·have f:((n':Int)==0)=true:=by simp [h2]
     have l:=za h2;clear h2
     go_enter Tryz.func99,Tryz.ntmps99
     go_wp2_with (go_at_call 106;refine (zdK s _ hs).mono ?_;rintro e w' ⟨rfl,rfl⟩)
     go_ret;exact⟨zm (by rw [zI,d.out,k.out,H1.out,l.out];simp),((cY _).alloc _).alloc _⟩
    ·have f:((n':Int)==0)=false:=by simp [h2]
     go_enter Tryz.func99,Tryz.ntmps99
     go_wp2_with fail
     go_ret;exact⟨zm (by rw [zI,d.out];simp [h2]),((cY _).alloc _).alloc _⟩
   ·have hb1:((n:Int)==0)=false:=by simp [h1]
    go_enter Tryz.func99,Tryz.ntmps99
    go_wp2_with fail
    go_ret;exact⟨zm (by rw [zI,d.out];simp [h1]),((cY _).alloc _).alloc _⟩
  ·have hb:((a.al:Int)==0)=false:=by simp [h0]
   go_enter Tryz.func99,Tryz.ntmps99
   go_wp2_with fail
   go_ret;exact⟨zm (by rw [zI,d.out];simp [h0]),((cY _).alloc _).alloc _⟩
 ·cases hb:zj a
  all_goals
   have g:=za hb;clear hb
   go_enter Tryz.func99,Tryz.ntmps99
   go_wp2_with (go_at_call 95;refine (zF _ _ _ _ _ _ _ _ _ _ (m.out _ ?_)).mono ?_;exact (cY _).alloc _;rw [g.out];rintro e w2 ⟨rfl,b⟩;have j:=zdk b)
   go_ret;exact⟨zm (by rw [zI,g.out];simp),((cY _).alloc _).trans b⟩
def zaQ (p:Aut) (q:Nat) (ls:List Nat):Nat:=ls.foldl (aGo p) q
theorem zbz (p:Aut) (q:Nat) (ls:List Nat) (l:Nat):zaQ p q (ls++[l])=aGo p (zaQ p q ls) l:=by simp [zaQ]
theorem zdM (hv:zj p=true) (h:∀ l∈ls,l<6) (hq:q<p.next.length):zaQ p q ls<p.next.length:=by
 induction ls generalizing q with
 |nil=>exact hq
 |cons l r ih=>exact ih (fun x hx=>h x (eE _ hx)) (zdP hv hq (h l gK))
theorem runA_filter (p:Aut) (ls:List Nat) (q:Nat):zaQ p q (ls.filter fun l=>p.al.toNat.testBit l)=zaQ p q ls:=by
 induction ls generalizing q with
 |nil=>rfl
 |cons l r ih =>
  rw [List.filter_cons];show _=zaQ p (aGo p q l) r;cases hb:p.al.toNat.testBit l
  ·have e:aGo p q l=q:=by unfold aGo;rw [hb];rfl
   rw [e];simpa using ih q
  ·simp only [if_true];exact ih (aGo p q l)
theorem zjf (s:ByteArray) (a:Nat):(zaU s a).data.toList=zgd a s.data.toList:=by
 unfold zaU strOfNums zjt;simp only [List.map_map];refine (List.map_congr_left (g:=id) fun b _=>?_).trans (List.map_id _);simp
theorem zkg (h:zbe s=true) (a:Nat):wl (zaU s a)=(wl s).filter fun l=>a.testBit l:=by
 unfold wl;rw [zjf];unfold zgd;have hb:∀ b∈s.data.toList,97<=b.toNat∧b.toNat<=102:=by
  intro b hb;obtain⟨i,f⟩:=eD hb;have c:i<s.size:=by have:=(List.getElem?_eq_some_iff.1 f).1;simpa using this
  rw [zco s i c] at f;obtain rfl:=Option.some.inj f;exact zaG h c
 generalize s.data.toList=L at hb;clear h
 induction L with
 |nil=>rfl
 |cons b r d =>
  have g:=hb b gK;have d:=d fun x hx=>hb x (eE _ hx);have e:hasB a (ltr b.toNat)=a.testBit (b.toNat - 97):=by
   unfold hasB ltr;rw [if_neg oM,decide_eq_true oM,jF]
   congr 1
   omega
  rw [List.filter_cons,fQ,List.filter_cons,e];cases a.testBit (b.toNat - 97)
  ·simpa using d
  ·simp only [if_true,fQ];rw [d]
theorem zdH (h:zbe s=true) (a:Nat):inB (zaU s a) a=true:=by
 unfold inB zeC;rw [zjf,dJ,decide_eq_true_eq];refine⟨dO (zea s a) (zbi h),?_⟩;rw [eL];intro b hb;exact (List.mem_filter.1 hb).2
def zdT (p:Aut) (t:ByteArray):Bool:=zj p&&(zbe t&&!zcy p (zaQ p 0 (wl t)))
section
variable {lo hi m d m' d':Nat} {B B':Option Addr} {p:Aut} {t:ByteArray} {w:World}
theorem spec_l3Run (h:zH w lo hi B m B' m' p)(hv:zj p=true)(ht:zbe t=true) :
  Calls Tryz.prog 263 #[.agg #[p.al,.slice B m d,.slice B' m' d'],(0:Int),t] w fun e w'=>e=.returned (.int .i64 (zaQ p 0 (wl t):Nat))∧Ext w w':=by
 have HS:=za (fun W (hW:Ext w W)=>h.ext hW);have D:=zbi ht;have u:=za (fun k s=>zaG ht (k:=k) s);have C:=(zl hv).2.1;have z:=za hv;have f:=za (fun k=>zdM hv (ls:=(wl t).take k) (fun l c=>ziM ht l (gD c)) (q:=0) oM);clear h hv ht
 go_enter Tryz.func263,Tryz.ntmps263
 go_upto_region 1 with fail
 generalize U0:w.alloc _=w1 at *;obtain⟨hw1,b1⟩:=gH U0;clear U0;go_wp2_with fail
 go_loopw [1,7] (fun v i wr=>∃ k x:Nat,i=.int .i64 k∧k<=t.size∧v=.int .i64 x∧Hid (x=zaQ p 0 ((wl t).take k))∧Ext w1 wr) (fun _ i _=>t.size - (intOf i).toNat)
 case atStart=>exact⟨0,0,rfl,dI _,rfl,rfl,cY _⟩
 case round =>
  obtain⟨k,x,rfl,s,rfl,b,hxr⟩:=hrel
  by_cases hlt:k<t.size
  ·have g:=u.out k hlt;obtain⟨l,c⟩:∃ l:Nat,Hid ((t[k].toNat:Int) - 97=l):=⟨t[k].toNat - 97,by unfold Hid;omega⟩;have n:l<6:=oH c.out;have o:=za (show aGo p x l=zaQ p 0 ((wl t).take (k+1)) by
    rw [dN,zdv hlt,eG,zbz,← b.out]
    congr 1
    have:=c.out;omega)
   have r:x<p.next.length:=by rw [b.out];exact f.out k
   have HC:=za (fun W (hW:Ext w1 W)=>zed (d:=d) (d':=d') (HS.out W (hw1.trans hW)) z.out r n);generalize aGo p x l=y at *;have c1:∀ W,Ext wr W->∀ j,W.cell? ⟨w.heap.size,j,none⟩=#[Value.int .i64 p.al,.slice B m d,.slice B' m' d'][j]?:=fun W hW=>(b1.ext (hxr.trans hW)).cell;have a:=cY wr;clear g;go_upto_region 4 with fail
   refine uR (fun X=>Ext wr X) [5] (zv.of [0,1,2,3,4,5,6]) ?_;refine uQ ?_;refine ze fun K hK=>?_;go_simp;refine (zbA t k hlt _).mono ?_;rw [c.out];rintro e w' ⟨rfl,rfl⟩;refine hK.out _ _ a.drew ?_;refine pT ?_;refine zb fun K hK=>?_;go_simp;refine (HC.out _ (hxr.trans a.drew)).mono (mQ fun w5 hx5=>?_);refine hK.out _ _ ?_;refine pT ?_;refine uQ ?_;refine zf ?_;have hx6:=hxr.trans (a.drew.trans hx5);go_wp2_with fail
   go_roundw
   case rel=>exact⟨k+1,y,gM,oM,rfl,o,hx6⟩
   case measure=>simp [intOf];omega
  ·obtain rfl:k=t.size:=oM;have zkk:=za (show x=zaQ p 0 (wl t) by rw [b.out,dL (by rw [zeA];exact dG _)]);go_wp2;go_ret;exact⟨zJ (by rw [zkk.out]),hw1.trans hxr⟩
end
section
variable {lo hi m d m' d':Nat} {B B':Option Addr} {p:Aut} {t:ByteArray} {w:World}
theorem zhP (h:zH w lo hi B m B' m' p)(hv:zj p=true)(ht:inB t p.al.toNat=true) :
  Calls Tryz.prog 185 #[.agg #[p.al,.slice B m d,.slice B' m' d'],t] w fun e w'=>e=.returned (.int .i64 (zaQ p 0 (wl t):Nat))∧Ext w w':=by
 have HT:=za (fun W (hW:Ext w W)=>zcM (d:=d) (d':=d') (h.ext hW) hv);have HA:=za (fun W (hW:Ext w W)=>zF _ _ _ _ d _ _ d' _ _ (h.ext hW));have a:=zaH ht;have V:=zbi a;have Q:=za (fun k L=>zaG a (k:=k) L);have U:=(zl hv).2.1;obtain⟨E,F⟩:=(zl hv).1;obtain⟨al,b⟩:∃ al:Nat,Hid (p.al=al):=⟨p.al.toNat,by unfold Hid;omega⟩;have n:al<=63:=oH b.out;have u:p.al.toNat=al:=oH b.out;rw [u] at ht;have R:=za (show (decide (t.size<=50000)&&zeC t al)=true from ht);have S:=za hv;have D:=za (fun k=>zdM hv (ls:=(wl t).take k) (fun l r=>ziM a l (gD r)) (q:=0) oM);clear h hv ht u a;rw [b.out] at HT HA ⊢;clear E F
 go_enter Tryz.func185,Tryz.ntmps185
 go_upto_region 1 with fail
 generalize U0:w.alloc _=w1 at *;obtain⟨hw1,b1⟩:=gH U0;clear U0;have c1:=b1.cell;go_wp2_with (first
  |(go_at_call 95;refine (HA.out _ hw1).mono ?_;rw [S.out];rintro e w2 ⟨rfl,hx2⟩;have hw2:=hw1.trans hx2;have c2:=(b1.ext hx2).cell)
  |(go_at_call 103;refine (zbg t al _ oM n).mono ?_;rw [R.out];rintro e w3 ⟨rfl,rfl⟩)
  |(go_at_call 151;refine (HT.out _ hw2).mono ?_;rintro e w4 ⟨Z,tc,rfl,j,hx4⟩))
 have hw4:=hw2.trans hx4;have O:=za (fun W (hW:Ext w4 W)=>(j.ext hW).at_);clear j c1 c2
 go_loopw [6,7,22] (fun v _ i wr=>∃ k x:Nat,i=.int .i64 k∧k<=t.size∧v=.int .i64 x∧Hid (x=zaQ p 0 ((wl t).take k))∧Ext w4 wr) (fun _ _ i _=>t.size - (intOf i).toNat)
 case atStart=>exact⟨0,0,rfl,dI _,rfl,rfl,cY _⟩
 case round =>
  obtain⟨k,x,rfl,L,rfl,f,hxr⟩:=hrel
  by_cases hlt:k<t.size
  ·have H:=Q.out k hlt;obtain⟨l,r⟩:∃ l:Nat,Hid (ltr t[k].toNat=l∧l<6∧t[k].toNat - 97=l):=⟨t[k].toNat - 97,by unfold Hid ltr;rw [if_neg oM];omega⟩;have s:=r.out.2.1;have M:((l:Nat):Int)<6:=oM;have J:=za (show aGo p x l=zaQ p 0 ((wl t).take (k+1)) by
    rw [dN,zdv hlt,eG,zbz,← f.out,r.out.2.2])
   have C:x<p.next.length:=by rw [f.out];exact D.out k
   obtain⟨Y,T,c⟩:=O.out wr hxr;have HC:=za (fun W (hW:Ext wr W)=>(c.ext hW).at_ C s);obtain⟨g,o,G,I⟩:=c.at_ C s;subst G;generalize aGo p x l=y at *;have d1:∀ W,Ext wr W->W.cell? ⟨g,o+x*6+l,none⟩=some (.int .i64 (y:Nat)):=fun W hW=>hW.aa I;clear H c HC;generalize p.next.length=N at *;go_upto_region 8 with fail
   have z:=cY wr;refine uR (fun X=>Ext wr X) [] (zv.of [0,1,2,3,5,4,6,7,8]) ?_;refine uQ ?_;refine ze fun K hK=>?_;go_simp;refine (zaM t k hlt _).mono ?_;rw [r.out.1];rintro e w' ⟨rfl,rfl⟩;refine hK.out _ _ z.drew ?_;refine pT ?_;refine uQ ?_;refine zf ?_;have hx6:=hxr.trans z.drew;go_wp2_with fail
   go_roundw
   case rel=>exact⟨k+1,y,gM,oM,rfl,J,hx6⟩
   case measure=>simp [intOf];omega
  ·obtain rfl:k=t.size:=oM;have zkk:=za (show x=zaQ p 0 (wl t) by rw [f.out,dL (by rw [zeA];exact dG _)]);go_wp2;go_ret;exact⟨zJ (by rw [zkk.out]),hw4.trans hxr⟩
theorem zhe (h:zH w lo hi B m B' m' p)(hv:zj p=true)(ht:inB t p.al.toNat=true) :
  Calls Tryz.prog 107 #[.agg #[p.al,.slice B m d,.slice B' m' d'],t] w fun e w'=>e=.returned (.bool (zcy p (zaQ p 0 (wl t))))∧Ext w w':=by
 have HA:=za (fun W (hW:Ext w W)=>zhP (d:=d) (d':=d') (h.ext hW) hv ht);have HB:=za (fun W (hW:Ext w W) q g=>zeD (q:=q) (h.ext hW) g);have g:=zdM hv (ziM (zaH ht)) (q:=0) (by have:=(zl hv).2.1;omega);have c:=(zl hv).2.2.1;have f:=h.n2;have b:zaQ p 0 (wl t)<m':=oM;clear h hv ht c;generalize hqe:zaQ p 0 (wl t)=q at *;clear hqe g f;obtain⟨i,a,_⟩:=HB.out w (cY w) q b;have k:∀ W,Ext w W->W.cell? (i.add q)=some (.bool (zcy p q)):=by
  intro W hW;obtain⟨j,e,n⟩:=HB.out W hW q b;rw [a] at e;obtain rfl:=Option.some.inj e;exact n
 subst a
 go_enter Tryz.func107,Tryz.ntmps107
 go_upto_region 1 with fail
 generalize U0:w.alloc _=w1 at *;obtain⟨hw1,b1⟩:=gH U0;clear U0;have c1:=b1.cell;go_wp2_with (go_at_call 185;refine (HA.out _ hw1).mono (mQ fun w2 hx2=>?_);have c2:=(b1.ext hx2).cell;have l:=k _ (hw1.trans hx2))
 go_ret;exact⟨zm (by rfl),hw1.trans hx2⟩
theorem zfz (h:zH w lo hi B m B' m' p)(ht:t.size<=9223372036854775807) :
  Calls Tryz.prog 51 #[.agg #[p.al,.slice B m d,.slice B' m' d'],t] w fun e w'=>e=.returned (.bool (zdT p t))∧Ext w w':=by
 have HA:=za (fun W (hW:Ext w W)=>zF _ _ _ _ d _ _ d' _ _ (h.ext hW));have hr:=za (show zdT p t=(zj p&&(zbe t&&!zcy p (zaQ p 0 (wl t)))) from rfl);have hw1:Ext w (w.alloc (.cells #[p.al,.slice B m d,.slice B' m' d'] 31)):=(cY w).alloc _;have b1:=Blk.new w 31 #[p.al,.slice B m d,.slice B' m' d'];cases h1:zj p
 ·have H1:=za h1;clear h1
  go_enter Tryz.func51,Tryz.ntmps51
  go_upto_region 1 with fail
  generalize w.alloc _=w1 at *;have c1:=b1.cells;have a:=cY w1;refine uR (fun X=>Ext w1 X) [12] (zv.of [0,1,2,3,4,5,6,7,8,9,10,11,12,13,14,15]) ?_;refine uQ ?_;refine ze fun K hK=>?_;go_simp;refine (HA.out _ (hw1.trans a.drew)).mono ?_;rw [H1.out];rintro e w2 ⟨rfl,hx2⟩;have hx3:=a.drew.trans hx2;refine hK.out _ _ hx3 ?_;refine pT ?_;refine uQ ?_;refine zf ?_;go_wp2_with fail
  go_ret;exact⟨zm (by rw [hr.out,H1.out];rfl),hw1.trans hx3⟩
 ·cases h2:zbe t
  ·have H1:=za h1;have c:=za h2;clear h1 h2
   go_enter Tryz.func51,Tryz.ntmps51
   go_upto_region 1 with fail
   generalize w.alloc _=w1 at *;have c1:=b1.cells;have a:=cY w1;refine uR (fun X=>Ext w1 X) [12] (zv.of [0,1,2,3,4,5,6,7,8,9,10,11,12,13,14,15]) ?_;refine uQ ?_;refine ze fun K hK=>?_;go_simp;refine (HA.out _ (hw1.trans a.drew)).mono ?_;rw [H1.out];rintro e w2 ⟨rfl,hx2⟩;have hx3:=a.drew.trans hx2;refine hK.out _ _ hx3 ?_;refine pT ?_;refine uQ ?_;refine ze fun K hK=>?_;go_simp;refine (zdK _ _ ht).mono ?_;rw [c.out];rintro e w3 ⟨rfl,rfl⟩;refine hK.out _ _ hx3 ?_;refine pT ?_;refine uQ ?_;refine zf ?_;go_wp2_with fail
   go_ret;exact⟨zm (by rw [hr.out,H1.out,c.out];rfl),hw1.trans hx3⟩
  ·obtain⟨j,k⟩:=(zl h1).1;obtain⟨al,b⟩:∃ al:Nat,Hid (p.al=al):=⟨p.al.toNat,by unfold Hid;omega⟩;have f:al<=63:=oH b.out;have g:=za (show p.al.toNat=al by have:=b.out;omega);have n:=za (fun W=>zdd (w:=W) h2 f);have i:=za (fun W (hW:Ext w W)=>zhe (d:=d) (d':=d') (t:=zaU t al) (h.ext hW) h1 (by rw [g.out];exact zdH h2 al));have l:=za (show zaQ p 0 (wl (zaU t al))=zaQ p 0 (wl t) by rw [zkg h2,← g.out,runA_filter]);rw [l.out] at i;have H1:=za h1;have c:=za h2;clear h h1 h2 j k;rw [b.out] at HA i hw1 b1 ⊢;generalize zaU t al=t' at *
   go_enter Tryz.func51,Tryz.ntmps51
   go_upto_region 1 with fail
   generalize w.alloc _=w1 at *;have c1:=b1.cells;have a:=cY w1;refine uR (fun X=>Ext w1 X) [12] (zv.of [0,1,2,3,4,5,6,7,8,9,10,11,12,13,14,15]) ?_;refine uQ ?_;refine ze fun K hK=>?_;go_simp;refine (HA.out _ (hw1.trans a.drew)).mono ?_;rw [H1.out];rintro e w2 ⟨rfl,hx2⟩;have hx3:=a.drew.trans hx2;refine hK.out _ _ hx3 ?_;refine pT ?_;refine uQ ?_;refine ze fun K hK=>?_;go_simp;refine (zdK _ _ ht).mono ?_;rw [c.out];rintro e w3 ⟨rfl,rfl⟩;refine hK.out _ _ hx3 ?_;refine pT ?_;refine uQ ?_;refine ze fun K hK=>?_;go_simp;refine (n.out _).mono (mQ fun w4 hx4=>?_);have hx5:=hx3.trans hx4;refine hK.out _ _ hx5 ?_;refine pT ?_;refine uQ ?_;refine zb fun K hK=>?_;go_simp;refine (i.out _ (hw1.trans hx5)).mono (mQ fun o hx6=>?_);refine hK.out _ _ ?_;refine pT ?_;refine uQ ?_;refine zf ?_;go_wp2_with fail
   go_ret;exact⟨zm (by rw [hr.out,H1.out,c.out];rfl),hw1.trans (hx5.trans hx6)⟩
end
theorem zgn {g lo2 hi2 c2:Nat} {A C:Option Addr} {s t:Sys}(hb:Blk w g 38 #[s.al,s.st,.slice A n c,t.al,t.st,.slice C k c2])(h:zP w lo hi A n s)(h':zP w lo2 hi2 C k t):∃ lo hi,zgL w lo hi (some ⟨g,0,none⟩) 2 [s,t]:=by
 refine⟨0,hi+hi2+g+1,rfl,[.int .i64 s.al,.int .i64 s.st,.slice A n c,.int .i64 t.al,.int .i64 t.st,.slice C k c2],⟨rfl,oM,fun _=>⟨_,rfl,dI _,by dsimp only;omega,fun j u hu=>?_⟩⟩,fun j u hu=>?_⟩
 ·rw [zZ,dW,hb.cell];simpa using hu
 ·match j with
  |0 =>
   simp at hu;subst hu;exact⟨A,n,c,rfl,rfl,rfl,h.1,h.2.more (dI _) oM⟩
  |1 =>
   simp at hu;subst hu;exact⟨C,k,c2,rfl,rfl,rfl,h'.1,h'.2.more (dI _) oM⟩
  |j+2=>simp at hu
def zgX (s t:Sys) (p:Aut) (x:ByteArray):Int:=if ziL [s,t] x=false then 6 else if zdT p x=false then 7 else 0
noncomputable def zdU (s t:Sys) (p:Aut) (hd:Bool) (a:Aut) (x:ByteArray):Int:=
 if iface s p t<0 then 1 else if zI hd a x=false then 2 else if hd=false then zgX s t p x
 else if zaN s t p a=2 then 3 else if zaN s t p a=3 then 4 else if zaN s t p a=4 then 5 else 0
theorem zga (s t:Sys) (p:Aut):iface s p t<0↔(zk s&&(zj p&&zk t))=false:=by
 unfold iface;cases h:(zk s&&(zj p&&zk t))
 ·simp
 ·simp
section
variable {lo hi n c:Nat} {A:Option Addr} {s:Sys} {lo1 hi1 m1 d1 m1' d1':Nat} {B B':Option Addr} {p:Aut} {lo2 hi2 k c2:Nat} {C:Option Addr} {t:Sys} {x:ByteArray} {w:World}
variable {lo3 hi3 m2 d2 m2' d2':Nat} {D D':Option Addr} {a:Aut} {hd:Bool}
theorem yD07b1 {P:Prop}(h:P:=by
 generalize zgX s t p x=R at *
 go_enter Tryz.func52,Tryz.ntmps52
 go_upto_region 1 with fail
 generalize (((w.alloc _).alloc _).alloc _).alloc _=w1 at *;have c1:=b1.cells;have c2':=b2.cells;have c3:=b3.cells;have c4:=b4.cells;have hx0:=Ext.refl w1;go_wp2_with (first
  |(go_at_call 108;with_reducible refine (HV.out _ hw1).mono (mQ fun w2 hx2=>?_);have hw2:=hw1.trans hx2)
  |(go_at_call 108;with_reducible refine (HV'.out _ hw2).mono (mQ fun w3 hx3=>?_);have hx13:=hx2.trans hx3;have hw3:=hw1.trans hx13)
  |(go_at_call 95;with_reducible refine (HP.out _ hw3).mono (mQ fun w4 hx4=>?_);have hx14:=hx13.trans hx4;have hw4:=hw1.trans hx14)
  |(go_at_call 99;with_reducible refine (HC.out _ hw4).mono (mQ fun w5 hx5=>?_);have hx15:=hx14.trans hx5;have hw5:=hw1.trans hx15;have e6:=Blk.new w5 38 #[s.al,s.st,.slice A n c,t.al,t.st,.slice C k c2];have f6:=(Ext.refl w5).alloc (.cells #[s.al,s.st,.slice A n c,t.al,t.st,.slice C k c2] 38);have hx16:=hx15.trans f6;have hw6:=hw1.trans hx16;obtain⟨l1,l2,hsl⟩:=zgn e6 (HS.out _ hw6) (HS'.out _ hw6))
  |(go_at_call 50;with_reducible refine (zac hsl (HT.out _ hw6) hxs).mono ?_;rw [Ht1.out];rintro e w7 ⟨rfl,hx7⟩;have hx17:=hx16.trans hx7;have hw7:=hw1.trans hx17)
  |(go_at_call 51;with_reducible refine (HB.out _ hw7).mono (mQ fun w8 hx8=>?_);have hx18:=hx17.trans hx8;have hw8:=hw1.trans hx18)
  |(go_at_call 109;with_reducible refine (HF.out _ hw5).mono (mQ fun w9 hx9=>?_);have hw9:=hw5.trans hx9))
 go_ret;exact⟨zJ (by rw [hr.out,hr2.out];try rfl),by first|exact hw9|exact hw8|exact hw7|exact hw5|exact hw4|exact hw3|exact hw2⟩
 ):P:=h
theorem yD07a1 {P:Prop}(h:P:=by
 rw [hb1] at HB;clear hb1;exact yD07b1
 ):P:=h
theorem yD07c1 {P:Prop}(h:P:=by
 have c1:=b1.cells;have c2':=b2.cells;have c3:=b3.cells;have c4:=b4.cells;have hx0:=Ext.refl w1;go_wp2_with (first
  |(go_at_call 108;with_reducible refine (HV.out _ hw1).mono (mQ fun w2 hx2=>?_);have hw2:=hw1.trans hx2)
  |(go_at_call 108;with_reducible refine (HV'.out _ hw2).mono (mQ fun w3 hx3=>?_);have hx13:=hx2.trans hx3;have hw3:=hw1.trans hx13)
  |(go_at_call 95;with_reducible refine (HP.out _ hw3).mono (mQ fun w4 hx4=>?_);have hx14:=hx13.trans hx4;have hw4:=hw1.trans hx14)
  |(go_at_call 99;with_reducible refine (HC.out _ hw4).mono (mQ fun w5 hx5=>?_);have hx15:=hx14.trans hx5;have hw5:=hw1.trans hx15;have e6:=Blk.new w5 38 #[s.al,s.st,.slice A n c,t.al,t.st,.slice C k c2];have f6:=(Ext.refl w5).alloc (.cells #[s.al,s.st,.slice A n c,t.al,t.st,.slice C k c2] 38);have hx16:=hx15.trans f6;have hw6:=hw1.trans hx16;obtain⟨l1,l2,hsl⟩:=zgn e6 (HS.out _ hw6) (HS'.out _ hw6))
  |(go_at_call 50;with_reducible refine (zac hsl (HT.out _ hw6) hxs).mono ?_;rw [Ht1.out];rintro e w7 ⟨rfl,hx7⟩;have hx17:=hx16.trans hx7;have hw7:=hw1.trans hx17)
  |(go_at_call 51;with_reducible refine (HB.out _ hw7).mono (mQ fun w8 hx8=>?_);have hx18:=hx17.trans hx8;have hw8:=hw1.trans hx18)
  |(go_at_call 109;with_reducible refine (HF.out _ hw5).mono (mQ fun w9 hx9=>?_);have hw9:=hw5.trans hx9))
 go_ret;exact⟨zJ (by rw [hr.out];try rfl),by first|exact hw9|exact hw8|exact hw7|exact hw5|exact hw4|exact hw3|exact hw2⟩
 ):P:=h
theorem yD07b2 {P:Prop}(h:P:=by
 go_enter Tryz.func52,Tryz.ntmps52
 go_upto_region 1 with fail
 generalize (((w.alloc _).alloc _).alloc _).alloc _=w1 at *;exact yD07c1
 ):P:=h
theorem yD07a2 {P:Prop}(h:P:=by
 rw [if_pos rfl] at hr;exact yD07b2
 ):P:=h
theorem yD07a3 {P:Prop}(h:P:=by
 go_enter Tryz.func52,Tryz.ntmps52
 go_upto_region 1 with fail
 generalize (((w.alloc _).alloc _).alloc _).alloc _=w1 at *;exact yD07c1
 ):P:=h
theorem impl_CheckCertificate (h:zP w lo hi A n s)(ht:zP w lo2 hi2 C k t)(hp:zH w lo1 hi1 B m1 B' m1' p)(ha:zH w lo3 hi3 D m2 D' m2' a)(hxs:x.size<=9223372036854775807)(hT:Tab w) :
  Calls Tryz.prog 52 #[.agg #[s.al,s.st,.slice A n c],.agg #[t.al,t.st,.slice C k c2],.agg #[p.al,.slice B m1 d1,.slice B' m1' d1'],.agg #[.bool hd,a.al,.slice D m2 d2,.slice D' m2' d2',x]] w fun e w'=>e=.returned (.int .i64 (zdU s t p hd a x))∧Ext w w':=by
 have HT:=za (fun W (hW:Ext w W)=>hT.ext hW);have HS:=za (fun W (hW:Ext w W)=>h.ext hW);have HS':=za (fun W (hW:Ext w W)=>ht.ext hW);have HB:=za (fun W (hW:Ext w W)=>zfz (d:=d1) (d':=d1') (hp.ext hW) hxs);have HV:=za (fun W (hW:Ext w W)=>zak (c:=c) (h.ext hW));have HV':=za (fun W (hW:Ext w W)=>zak (c:=c2) (ht.ext hW));have HP:=za (fun W (hW:Ext w W)=>zF _ _ _ _ d1 _ _ d1' _ _ (hp.ext hW));have HC:=za (fun W (hW:Ext w W)=>zbu _ _ _ _ d2 _ _ d2' hd _ x _ (ha.ext hW) hxs);have HF:=za (fun W (hW:Ext w W)=>zfd (c:=c) (d1:=d1) (d1':=d1') (c2:=c2) (d2:=d2) (d2':=d2') (h.ext hW) (ht.ext hW) (hp.ext hW) (ha.ext hW) (hT.ext hW));have hr:=za (show zdU s t p hd a x=if iface s p t<0 then 1 else if zI hd a x=false then 2 else if hd=false then zgX s t p x
  else if zaN s t p a=2 then 3 else if zaN s t p a=3 then 4 else if zaN s t p a=4 then 5 else 0 from rfl)
 clear h hp ht ha;have hw1:Ext w ((((w.alloc (.cells #[s.al,s.st,.slice A n c] 38)).alloc (.cells #[t.al,t.st,.slice C k c2] 38)).alloc (.cells #[p.al,.slice B m1 d1,.slice B' m1' d1'] 31)).alloc (.cells #[.bool hd,a.al,.slice D m2 d2,.slice D' m2' d2',x] 33)):=((((cY w).alloc _).alloc _).alloc _).alloc _;obtain⟨b1,b2,b3,b4⟩:=zjB (cY ((((w.alloc (.cells #[s.al,s.st,.slice A n c] 38)).alloc (.cells #[t.al,t.st,.slice C k c2] 38)).alloc (.cells #[p.al,.slice B m1 d1,.slice B' m1' d1'] 31)).alloc (.cells #[.bool hd,a.al,.slice D m2 d2,.slice D' m2' d2',x] 33)));generalize zaN s t p a=F at *;cases h1:zk s<;>cases h2:zk t<;>cases h3:zj p
 case true.true.true =>
  rw [if_neg (by rw [zga,h1,h2,h3];decide)] at hr;rw [h1] at HV;rw [h2] at HV';rw [h3] at HP;clear h1 h2 h3;cases hv0:zI hd a x
  ·rw [hv0,if_pos rfl] at hr;have b:=za hv0;clear hv0;rw [b.out] at HC;exact yD07a3
  rw [hv0,if_neg dM] at hr;have b:=za hv0;clear hv0;rw [b.out] at HC;cases hd
  ·rw [if_pos rfl] at hr;have hr2:=za (show zgX s t p x=if ziL [s,t] x=false then 6 else if zdT p x=false then 7 else 0 from rfl);cases ht1:ziL [s,t] x
   ·rw [ht1,if_pos rfl] at hr2;have Ht1:=za ht1;clear ht1;exact yD07b1
   rw [ht1,if_neg dM] at hr2;have Ht1:=za ht1;clear ht1;cases hb1:zdT p x
   ·rw [hb1,if_pos rfl] at hr2;exact yD07a1
   rw [hb1,if_neg dM] at hr2;exact yD07a1
  rw [if_neg dM] at hr
  by_cases f2:F=2
  ·subst f2;exact yD07a2
  rw [if_neg f2] at hr;have f:(F==2)=false:=by simpa using f2
  by_cases f3:F=3
  ·subst f3;exact yD07a2
  rw [if_neg f3] at hr;have g:(F==3)=false:=by simpa using f3
  by_cases f4:F=4
  ·subst f4;exact yD07a2
  ·rw [if_neg f4] at hr;have i:(F==4)=false:=by simpa using f4
   exact yD07b2
 all_goals
  rw [if_pos (by rw [zga,h1,h2,h3];rfl)] at hr;rw [h1] at HV;rw [h2] at HV';rw [h3] at HP;clear h1 h2 h3;exact yD07a3
end
theorem pnx_mod (ms:List Mem) (x l:Nat):pnx ms x l=pnx ms (x % zM ms) l:=by
 induction ms generalizing x with
 |nil=>rfl
 |cons m r ih =>
  rw [zdZ];unfold pnx;have a:x % (m.1*zM r) / zM r % m.1=x / zM r % m.1:=by
   rw [fL,jL,Nat.mod_mod]
  have b:pnx r (x % (m.1*zM r)) l=pnx r x l:=by
   rw [ih (x % (m.1*zM r)),Nat.mod_mul_left_mod,← ih x]
  rw [a,b]
theorem goes_lt {ms:List Mem}(hm:∀ m∈ms,zeB m) (hv:∀ l∈v,l<6) (h:zbE (pnx ms) [0] v x):x<zM ms:=by
 rcases zae v with rfl|⟨u,l,rfl⟩
 ·have:=h.ah;have a:=zgk hm;simp at this;omega
 ·obtain⟨n,_,hx⟩:=h.inv;exact zjd hm (hv l sM) x hx
theorem mem_lt {m:Mem}(hm:zeB m) (hv:∀ l∈v,l<6) (h:zbE m.2 [0] v q):q<m.1:=by
 have a:∀ n (v:List Nat),v.length=n->(∀ l∈v,l<6)->∀ q,zbE m.2 [0] v q->q<m.1:=by
  intro n
  induction n with
  |zero =>
   intro v hl _ q h;obtain rfl:=dQ hl;have:=h.ah;have:=hm.1;simp at *;omega
  |succ n ih =>
   intro v hl hv q h;rcases zae v with rfl|⟨u,l,rfl⟩
   ·simp at hl
   ·obtain⟨b,c,d⟩:=h.inv;exact hm.2 b l (ih u (by simpa using hl) (fun k hk=>hv k (by simp [hk])) b c) (hv l sM) q d
 exact a _ v rfl hv q h
theorem zfY {m:Mem} {r:List Mem}(hm:zeB m)(hr:∀ m∈r,zeB m):∀ (n:Nat) (v:List Nat),v.length=n->(∀ l∈v,l<6)->∀ x,zbE (pnx (m :: r)) [0] v x↔∃ q y,x=q*zM r+y∧zbE m.2 [0] v q∧zbE (pnx r) [0] v y:=by
 intro n
 induction n with
 |zero =>
  intro v hl _ x;obtain rfl:=dQ hl;constructor
  ·intro h;have:=h.ah;simp at this;subst this;exact⟨0,0,sM,.nil sM,.nil sM⟩
  ·rintro ⟨q,y,rfl,b,a⟩;have b:=b.ah;have a:=a.ah;simp at b a;subst b;subst a;exact .nil sM
 |succ n j =>
  intro v hl hv x;rcases zae v with rfl|⟨u,l,rfl⟩
  ·simp at hl
  have p:∀ k∈u,k<6:=fun k hk=>hv k (by simp [hk]);have D:l<6:=hv l sM;have j:=j u (by simpa using hl) p;have H:=zgk hr;have c:∀ q y,zbE m.2 [0] u q->zbE (pnx r) [0] u y->pnx (m :: r) (q*zM r+y) l=(m.2 q l).flatMap fun d=>(pnx r y l).map fun f=>d*zM r+f:=by
   intro q y b a;have E:=mem_lt hm p b;have F:=goes_lt hr p a;show (m.2 ((q*zM r+y) / zM r % m.1) l).flatMap (fun d=>(pnx r (q*zM r+y) l).map fun f=>d*zM r+f)=_;have z:(q*zM r+y) / zM r % m.1=q:=by
    rw [fL,Nat.mul_add_div oM,iY F,Nat.add_zero,iD E]
   have B:pnx r (q*zM r+y) l=pnx r y l:=by
    rw [pnx_mod r (q*zM r+y),fL,Nat.mul_add_mod,← pnx_mod]
   rw [z,B]
  constructor
  ·intro h;obtain⟨G,b,a⟩:=h.inv;obtain⟨q,y,rfl,g,i⟩:=(j G).1 b;rw [c q y g i] at a;simp only [List.mem_flatMap,List.mem_map] at a;obtain⟨d,o,f,s,rfl⟩:=a;exact⟨d,f,rfl,.snoc g o,.snoc i s⟩
  ·rintro ⟨d,f,rfl,b,a⟩;obtain⟨q,g,i⟩:=b.inv;obtain⟨y,t,C⟩:=a.inv;refine .snoc ((j (q*zM r+y)).2 ⟨q,y,rfl,g,t⟩) ?_;rw [c q y g t];simp only [List.mem_flatMap,List.mem_map];exact⟨d,i,f,C,rfl⟩
def zjo (s:Sys) (v:List Nat):Prop:=∃ q,zbE (cho s) [0] v q
theorem zhv (a:Aut) (v:List Nat) (q:Nat):zbE (zbJ a).2 [0] v q↔q=zaQ a 0 v:=by
 have c:∀ n (v:List Nat),v.length=n->∀ q,zbE (zbJ a).2 [0] v q↔q=zaQ a 0 v:=by
  intro n
  induction n with
  |zero =>
   intro v hl q;obtain rfl:=dQ hl;constructor
   ·intro h;have:=h.ah;simp at this;subst this;rfl
   ·rintro rfl;exact .nil (by simp [zaQ])
  |succ n b =>
   intro v hl q;rcases zae v with rfl|⟨u,l,rfl⟩
   ·simp at hl
   rw [zbz];have b:=b u (by simpa using hl);constructor
   ·intro h;obtain⟨g,f,d⟩:=h.inv;rw [(b g).1 f] at d;simpa [zbJ] using d
   ·rintro rfl;exact .snoc ((b _).2 rfl) (by simp [zbJ])
 exact c _ v rfl q
theorem goes_nil (v:List Nat) (y:Nat):zbE (pnx []) [0] v y↔y=0:=by
 have b:∀ n (v:List Nat),v.length=n->∀ y,zbE (pnx []) [0] v y↔y=0:=by
  intro n
  induction n with
  |zero =>
   intro v hl y;obtain rfl:=dQ hl;exact⟨fun h=>by simpa using h.ah,fun h=>.nil (by simp [h])⟩
  |succ n a =>
   intro v hl y;rcases zae v with rfl|⟨u,l,rfl⟩
   ·simp at hl
   have a:=a u (by simpa using hl);constructor
   ·intro h;obtain⟨f,d,c⟩:=h.inv;simpa [pnx] using c
   ·rintro rfl;exact .snoc ((a 0).2 rfl) (by simp [pnx])
 exact b _ v rfl y
theorem zhw {a:Aut}(ha:zj a=true)(hp:zj p=true) (hv:∀ l∈v,l<6) (y:Nat):zbE (pnx [zbJ a,zbJ p]) [0] v y↔y=zaQ a 0 v*p.next.length+zaQ p 0 v:=by
 have d:∀ m∈[zbJ p],zeB m:=by simp;exact zbK hp
 have g:zM [zbJ p]=p.next.length:=by simp [zM,zaA,zbJ]
 have b:∀ z,zbE (pnx [zbJ p]) [0] v z↔z=zaQ p 0 v:=by
  intro z;rw [zfY (zbK hp) sM _ v rfl hv];constructor
  ·rintro ⟨q,y,rfl,b,c⟩;rw [(goes_nil v y).1 c,(zhv p v q).1 b];simp [zM,zaA]
  ·rintro rfl;exact⟨zaQ p 0 v,0,by simp [zM,zaA],(zhv p v _).2 rfl,(goes_nil v 0).2 rfl⟩
 rw [zfY (zbK ha) d _ v rfl hv,g];constructor
 ·rintro ⟨q,y,rfl,c,f⟩;rw [(zhv a v q).1 c,(b y).1 f]
 ·rintro rfl;exact⟨_,_,rfl,(zhv a v _).2 rfl,(b _).2 rfl⟩
theorem ziV {T:List Mem}(hT:∀ m∈T,zeB m) (hv:∀ l∈v,l<6) (g:Nat->Prop):∀ {ss:List Sys},(∀ s∈ss,zeB (zeh s))->((∃ x,zbE (pnx (ss.map zeh++T)) [0] v x∧g (x % zM T))↔(∀ s∈ss,zjo s v)∧∃ y,zbE (pnx T) [0] v y∧g y):=by
 intro ss
 induction ss with
 |nil =>
  intro _;simp only [List.map_nil,eJ,List.not_mem_nil,false_implies,implies_true,true_and];constructor
  ·rintro ⟨x,h,c⟩;rw [iD (goes_lt hT hv h)] at c;exact⟨x,h,c⟩
  ·rintro ⟨x,h,c⟩;exact⟨x,h,by rwa [iD (goes_lt hT hv h)]⟩
 |cons s r j =>
  intro hs;have d:=hs s gK;have f:=fun t a=>hs t (eE _ a);have j:=j f;have hr:∀ m∈r.map zeh++T,zeB m:=by
   intro m hm;rcases List.mem_append.1 hm with h|h
   ·obtain⟨t,a,rfl⟩:=List.mem_map.1 h;exact f t a
   ·exact hT m h
  have b:∀ q y,(q*zM (r.map zeh++T)+y) % zM T=y % zM T:=by
   intro q y;rw [zcf,← Nat.mul_assoc,fL,Nat.mul_add_mod]
  rw [fQ,List.cons_append];constructor
  ·rintro ⟨x,h,c⟩;obtain⟨q,y,rfl,i,k⟩:=(zfY d hr _ v rfl hv x).1 h;rw [b] at c;obtain⟨n,o⟩:=j.1 ⟨y,k,c⟩;refine⟨fun t a=>?_,o⟩;rcases List.mem_cons.1 a with rfl|a
   ·exact⟨q,i⟩
   ·exact n t a
  ·rintro ⟨i,k⟩;obtain⟨y,n,o⟩:=j.2 ⟨fun t a=>i t (eE _ a),k⟩;obtain⟨q,p⟩:=i s gK;exact⟨q*zM (r.map zeh++T)+y,(zfY d hr _ v rfl hv _).2 ⟨q,y,rfl,p,n⟩,by rwa [b]⟩
def zfO (ss:List Sys) (a p:Aut) (v:List Nat):Prop:=(∀ s∈ss,zjo s v)∧zcy a (zaQ a 0 v)=true∧zcy p (zaQ p 0 v)=false
theorem zkf {a:Aut}(hss:∀ s∈ss,zk s=true)(ha:zj a=true)(hp:zj p=true) :
  vioB ss a p=true↔∃ v,(∀ l∈v,l∈letters (zG ss|||a.al.toNat) 6)∧zfO ss a p v:=by
 have k:∀ s∈ss,zeB (zeh s):=fun s hs=>zeJ (zcA (hss s hs));have B:∀ m∈[zbJ a,zbJ p],zeB m:=by simp;exact⟨zbK ha,zbK hp⟩
 have z:zM [zbJ a,zbJ p]=a.next.length*p.next.length:=by simp [zM,zaA,zbJ]
 have D:=(zl ha).2.1;have E:=(zl hp).2.1;have c:∀ x,zbW a p x=zbW a p (x % zM [zbJ a,zbJ p]):=by
  intro x;unfold zbW;rw [z,Nat.mod_mul_left_mod,fL,jL,Nat.mod_mod]
 have i:∀ v,(∀ l∈v,l<6)->((∃ x,zbE (zcn ss a p) [0] v x∧zbW a p x=true)↔zfO ss a p v):=by
  intro v d;rw [zdy];have r:=ziV B d (fun y=>zbW a p y=true) k;have t:(∃ x,zbE (pnx (zbo ss [a,p])) [0] v x∧zbW a p x=true)↔(∃ x,zbE (pnx (ss.map zeh++[zbJ a,zbJ p])) [0] v x∧zbW a p (x % zM [zbJ a,zbJ p])=true):=by
   constructor
   ·rintro ⟨x,h,b⟩;exact⟨x,h,by rw [← c];exact b⟩
   ·rintro ⟨x,h,b⟩;exact⟨x,h,by rw [c];exact b⟩
  rw [t,r];unfold zfO;refine and_congr_right fun _=>?_;have j:=zdM ha d (q:=0) oM;have g:=zdM hp d (q:=0) oM;have n:(zaQ a 0 v*p.next.length+zaQ p 0 v) / p.next.length % a.next.length=zaQ a 0 v:=by
   rw [fL,Nat.mul_add_div oM,iY g,Nat.add_zero,iD j]
  have o:(zaQ a 0 v*p.next.length+zaQ p 0 v) % p.next.length=zaQ p 0 v:=by
   rw [fL,Nat.mul_add_mod,iD g]
  constructor
  ·rintro ⟨y,C,b⟩;rw [(zhw ha hp d y).1 C] at b;unfold zbW at b;rw [n,o] at b;simpa using b
  ·intro b;refine⟨_,(zhw ha hp d _).2 rfl,?_⟩;unfold zbW;rw [n,o];simpa using b
 unfold vioB lostB;rw [Bool.not_eq_true',@decide_eq_false_iff_not _ (Classical.propDecidable _)];constructor
 ·intro hn;apply Classical.byContradiction;intro hno;refine hn fun v d x hx=>?_;cases hb:zbW a p x
  ·rfl
  ·exact absurd ⟨v,d,(i v (fun l f=>zcC _ l (d l f))).1 ⟨x,hx,hb⟩⟩ hno
 ·rintro ⟨v,d,u⟩ f;obtain⟨x,hx,b⟩:=(i v (fun l f=>zcC _ l (d l f))).2 u;have:=f v d x hx;rw [b] at this;cases this
def hidL (s:Sys) (A l:Nat):Prop:=l<6∧s.al.toNat.testBit l=true∧A.testBit l=false
inductive Cl (s:Sys) (p:Aut) (A:Nat) (B:Nat->Nat->Prop):Nat->Nat->Prop
 |base {q i:Nat} (h:B q i):Cl s p A B q i
 |hid {q i l q':Nat} (h:Cl s p A B q i) (hl:hidL s A l) (hq:q'∈cho s q l):Cl s p A B q' (aGo p i l)
def mvB (s:Sys) (p:Aut) (l:Nat) (B:Nat->Nat->Prop):Nat->Nat->Prop:=fun q' j=>∃ q i,B q i∧q'∈cho s q l∧j=aGo p i l
def prR (s:Sys) (p:Aut) (A:Nat):List Nat->Nat->Nat->Prop
 |[]=>Cl s p A (fun q i=>q=0∧i=0)
 |l :: r=>Cl s p A (mvB s p l (prR s p A r))
def PR (s:Sys) (p:Aut) (A:Nat) (v:List Nat):Nat->Nat->Prop:=prR s p A v.reverse
theorem PR_nil (s:Sys) (p:Aut) (A:Nat):PR s p A []=Cl s p A (fun q i=>q=0∧i=0):=rfl
theorem PR_snoc (s:Sys) (p:Aut) (A:Nat) (v:List Nat) (l:Nat):PR s p A (v++[l])=Cl s p A (mvB s p l (PR s p A v)):=by
 unfold PR;rw [List.reverse_append];rfl
def Bad (s:Sys) (p:Aut) (A:Nat) (v:List Nat):Prop:=∃ q i,PR s p A v q i∧zcy p i=false
def SafeW (s:Sys) (p:Aut) (A:Nat) (v:List Nat):Prop:=∀ k,k<=v.length->¬ Bad s p A (v.take k)
theorem zhE {s:Sys}(hs:Sml s) (hb:s.al.toNat.testBit l=true) (set q':Nat):(zbN s.edges set (l:Int)).testBit q'=true↔∃ q,set.testBit q=true∧q'∈cho s q l:=by
 obtain⟨m,n,h,-⟩:=hs;rw [zee];constructor
 ·rintro ⟨e,b,⟨c,a⟩,rfl⟩;obtain⟨i,j,k⟩:=h e b;refine⟨e.fr.toNat,a,?_⟩;unfold cho;rw [if_pos hb,zK];refine⟨oM,(zew _ _ _ _).2 ⟨e,b,?_,rfl⟩⟩;exact⟨oM,c⟩
 ·rintro ⟨q,c,a⟩;unfold cho at a;rw [if_pos hb,zK] at a;obtain⟨e,b,⟨d,f⟩,g⟩:=(zew _ _ _ _).1 a.2;exact⟨e,b,⟨f,by rw [d];simpa using c⟩,g⟩
theorem zgH {s:Sys}(hs:Sml s) (x:Nat) (l:Int):zbN s.edges x l<65536:=by
 have a:=zka hs.2.2.1 x l;have b:(2:Nat) ^ s.st.toNat<=2 ^ 16:=eH oM (oH hs.2.1);exact eB a b
def zdS (T:List Nat) (i q:Nat):Prop:=(T.getD i 0).testBit q=true
theorem zhK (h:zdS T i q):i<T.length:=by
 rcases Nat.lt_or_ge i T.length with a|a
 ·exact a
 ·unfold zdS at h;rw [dK,List.getElem?_eq_none a] at h;simp at h
theorem zda (hj:j<T.length) (x i q:Nat):zdS (T.set j (T.getD j 0|||x)) i q↔zdS T i q∨(i=j∧x.testBit q=true):=by
 unfold zdS
 by_cases h:j=i
 ·subst h;rw [dK,eS hj,fK,gU,fV];simp
 ·rw [dK,fN h,← dK];constructor
  ·exact .inl
  ·rintro (a|⟨a,-⟩)
   ·exact a
   ·exact absurd a.symm h
def zbF (T:List Nat) (n:Nat) (B:Nat->Nat->Prop):Prop:=T.length=n∧(∀ x∈T,x<65536)∧∀ i q,zdS T i q↔B q i
structure ClI (s:Sys) (p:Aut) (A:Nat) (B:Nat->Nat->Prop) (n:Nat) (T:List Nat):Prop where
 len:T.length=n
 lt:∀ x∈T,x<65536
 base:∀ q i,B q i->zdS T i q
 sub:∀ i q,zdS T i q->Cl s p A B q i
def zeU (s:Sys) (p:Aut) (T:List Nat) (i l:Nat):Prop:=∀ q,zdS T i q->∀ q'∈cho s q l,zdS T (aGo p i l) q'
section
variable {s:Sys} {p:Aut} {A n:Nat} {B:Nat->Nat->Prop} {T:List Nat}
theorem zbF.clI (h:zbF T n B):ClI s p A B n T:=⟨h.1,h.2.1,fun q i hb=>(h.2.2 i q).2 hb,fun i q hb=>.base ((h.2.2 i q).1 hb)⟩
theorem zbX (h:∀ x∈T,x<65536) (i:Nat):T.getD i 0<65536:=by
 rw [dK];cases h1:T[i]? with
 |none=>simp
 |some x=>exact h x (dE h1)
theorem ClI.step (h:ClI s p A B n T)(hs:Sml s)(hp:zj p=true)(hn:n=p.next.length) (hi:i<n)(hl:hidL s A l) :
  ClI s p A B n (T.set (aGo p i l) (T.getD (aGo p i l) 0|||zbN s.edges (T.getD i 0) (l:Int))):=by
 have a:aGo p i l<T.length:=by rw [h.len,hn];exact zdP hp oM hl.1
 refine⟨by rw [fJ];exact h.len,fun x hx=>?_,fun q i' hb=>(zda a _ _ _).2 (.inl (h.base q i' hb)),fun i' q hb=>?_⟩
 ·rcases e7 hx with hx|rfl
  ·exact h.lt x hx
  ·exact eR (n:=16) (zbX h.lt _) (eB (zka hs.2.2.1 _ _) (eH oM (oH hs.2.1)))
 ·rcases (zda a _ _ _).1 hb with hb1|⟨rfl,hb1⟩
  ·exact h.sub _ _ hb1
  ·obtain⟨d,b,c⟩:=(zhE hs hl.2.1 _ _).1 hb1;exact .hid (h.sub _ _ b) hl c
theorem closedAt_of (hs:Sml s) (hl:hidL s A l)(he:T.getD (aGo p i l) 0|||zbN s.edges (T.getD i 0) (l:Int)=T.getD (aGo p i l) 0):zeU s p T i l:=by
 intro q hq q' hq';unfold zdS;rw [← he,gU,(zhE hs hl.2.1 _ _).2 ⟨q,hq,hq'⟩,Bool.or_true]
theorem ClI.fin (h:ClI s p A B n T)(hc:∀ i l,i<n->hidL s A l->zeU s p T i l):zbF T n (Cl s p A B):=by
 refine⟨h.len,h.lt,fun i q=>⟨h.sub i q,fun hb=>?_⟩⟩
 induction hb with
 |base hb=>exact h.base _ _ hb
 |hid _ hl hq ih=>exact hc _ _ (by rw [← h.len];exact zhK ih) hl _ ih _ hq
end
def room:List Nat->Nat
 |[]=>0
 |x :: r=>(65536 - x)+room r
theorem room_set:∀ (T:List Nat) (j x:Nat),(T.getD j 0|||x)<65536->room (T.set j (T.getD j 0|||x))<=room T∧(j<T.length->T.getD j 0|||x≠T.getD j 0->room (T.set j (T.getD j 0|||x))<room T)
 |[],j,x,_=>by simp [room]
 |a :: r,0,x,h=>by
  simp only [List.getD_cons_zero,List.set_cons_zero,room] at h ⊢
  have h1:a<=a|||x:=Nat.left_le_or
  refine⟨oM,fun _ h2=>oM⟩
 |a :: r,j+1,x,h=>by
  simp only [List.getD_cons_succ,List.set_cons_succ,room,List.length_cons] at h ⊢
  obtain⟨h1,h2⟩:=room_set r j x h
  refine⟨oM,fun h3 h4=>by have:=h2 oM h4;omega⟩
theorem sub_bit (ha:a<64)(hb:b<64) (l:Nat):l∈letters (a - (a&&&b)) 6↔l<6∧a.testBit l=true∧b.testBit l=false:=by
 rw [zK];refine and_congr_right fun hl=>?_;have c:∀ a<64,∀ b<64,∀ l<6,((a - (a&&&b)).testBit l=true↔a.testBit l=true∧b.testBit l=false):=by decide +kernel
 exact c a ha b hb l hl
theorem stand_bad {s:Sys}    (h:zbF T n (PR s p A v)):Bad s p A v↔∃ i,i<n∧T.getD i 0≠0∧zcy p i=false:=by
 constructor
 ·rintro ⟨q,i,a,b⟩;have hb:=(h.2.2 i q).2 a;refine⟨i,by rw [← h.1];exact zhK hb,fun e=>?_,b⟩;unfold zdS at hb;rw [e] at hb;simp at hb
 ·rintro ⟨i,d,a,b⟩;obtain⟨q,c⟩:=Nat.exists_testBit_of_ne_zero a;exact⟨q,i,(h.2.2 i q).1 c,b⟩
theorem ziq (hn:1<=n):zbF ((dU n 0).set 0 1) n (fun q i=>q=0∧i=0):=by
 refine⟨sM,fun x hx=>?_,fun i q=>?_⟩
 ·rcases e7 hx with hx|rfl
  ·rw [iO] at hx;omega
  ·omega
 ·unfold zdS;rw [dK]
  by_cases h:i=0
  ·subst h;rw [eS (by rw [List.length_replicate];omega),fK];constructor
   ·intro h;exact⟨by cases q with|zero=>rfl|succ q=>simp [Nat.testBit_succ] at h,rfl⟩
   ·rintro ⟨rfl,-⟩;rfl
  ·rw [fN oM];constructor
   ·intro h;cases a:(dU n 0)[i]? with
    |none=>rw [a] at h;simp at h
    |some x =>
     have:=dE a;rw [iO] at this;rw [a,this.2] at h;simp at h
   ·rintro ⟨_,a⟩;exact absurd a h
def MvP (s:Sys) (p:Aut) (l:Nat) (T:List Nat) (k:Nat) (U:List Nat):Prop:=
 U.length=12∧(∀ x∈U,x<65536)∧∀ j q',zdS U j q'↔∃ i q,i<k∧zdS T i q∧q'∈cho s q l∧j=aGo p i l
def goS (s:Sys) (l x:Nat):Nat:=if s.al.toNat.testBit l=true then zbN s.edges x (l:Int) else x
section
variable {s:Sys} {p:Aut} {l k n:Nat} {T U:List Nat} {B:Nat->Nat->Prop}
theorem goS_bit (hs:Sml s) (x q':Nat):(goS s l x).testBit q'=true↔∃ q,x.testBit q=true∧q'∈cho s q l:=by
 unfold goS
 by_cases hb:s.al.toNat.testBit l=true
 ·rw [if_pos hb];exact zhE hs hb x q'
 ·rw [if_neg hb];constructor
  ·intro h;refine⟨q',h,?_⟩;unfold cho;rw [if_neg hb];simp
  ·rintro ⟨q,b,a⟩;unfold cho at a;rw [if_neg hb] at a;obtain rfl:q'=q:=by simpa using a
   exact b
theorem goS_lt (hs:Sml s) (hx:x<65536):goS s l x<65536:=by
 unfold goS;split
 ·exact zgH hs _ _
 ·exact hx
theorem zero_bit (n i q:Nat):¬ zdS (dU n 0) i q:=by
 unfold zdS;rw [dK];cases h:(dU n 0)[i]? with
 |none=>simp
 |some x =>
  have:=dE h;rw [iO] at this;simp [this.2]
theorem MvP.zero:MvP s p l T 0 (dU 12 0):=by
 refine⟨sM,fun x hx=>by rw [iO] at hx;omega,fun j q'=>⟨fun h=>absurd h (zero_bit _ _ _),?_⟩⟩;rintro ⟨i,q,h,-⟩;omega
theorem MvP.skip (h:MvP s p l T k U)(h0:T.getD k 0=0):MvP s p l T (k+1) U:=by
 refine⟨h.1,h.2.1,fun j q'=>⟨fun hb=>?_,?_⟩⟩
 ·obtain⟨i,q,b,a⟩:=(h.2.2 j q').1 hb;exact⟨i,q,oM,a⟩
 ·rintro ⟨i,q,b,a,c⟩;rcases eI (eU b) with d|rfl
  ·exact (h.2.2 j q').2 ⟨i,q,d,a,c⟩
  ·unfold zdS at a;rw [h0] at a;simp at a
theorem MvP.step (h:MvP s p l T k U)(hs:Sml s)(hT:∀ x∈T,x<65536)(hj:aGo p k l<12):MvP s p l T (k+1) (U.set (aGo p k l) (U.getD (aGo p k l) 0|||goS s l (T.getD k 0))):=by
 have c:aGo p k l<U.length:=by rw [h.1];exact hj
 refine⟨by rw [fJ];exact h.1,fun x hx=>?_,fun j q'=>?_⟩
 ·rcases e7 hx with hx|rfl
  ·exact h.2.1 x hx
  ·exact eR (n:=16) (zbX h.2.1 _) (goS_lt hs (zbX hT _))
 ·rw [zda c,h.2.2 j q',goS_bit hs];constructor
  ·rintro (⟨i,q,b,a⟩|⟨rfl,q,b,a⟩)
   ·exact⟨i,q,oM,a⟩
   ·exact⟨k,q,oM,b,a,rfl⟩
  ·rintro ⟨i,q,b,a,d,f⟩;rcases eI (eU b) with g|rfl
   ·exact .inl ⟨i,q,g,a,d,f⟩
   ·exact .inr ⟨f,q,a,d⟩
theorem MvP.fin (h:MvP s p l T 12 U)(hT:zbF T 12 B):zbF U 12 (mvB s p l B):=by
 refine⟨h.1,h.2.1,fun j q'=>?_⟩;rw [h.2.2 j q'];constructor
 ·rintro ⟨i,q,-,a,b,c⟩;exact⟨q,i,(hT.2.2 i q).1 a,b,c⟩
 ·rintro ⟨q,i,a,b,c⟩;have hb:=(hT.2.2 i q).2 a;exact⟨i,q,by rw [← hT.1];exact zhK hb,hb,b,c⟩
def Has (M V:List Nat) (k:Nat):Prop:=∀ i q,i<k->zdS V i q->zdS M i q
theorem Has.zero (M V:List Nat):Has M V 0:=fun i q h=>oM
theorem Has.all (h:Has M V 12)(hV:V.length=12) (i q:Nat)(hb:zdS V i q):zdS M i q:=h i q (by rw [← hV];exact zhK hb) hb
theorem Has.set (h:Has M V n) (hj:j<M.length):Has (M.set j (M.getD j 0|||x)) V n:=fun i q hi hb=>(zda hj _ _ _).2 (.inl (h i q hi hb))
theorem Has.step (h:Has M V k)(hk:k<M.length):Has (M.set k (M.getD k 0|||V.getD k 0)) V (k+1):=fun i q hi hb=>by
 rw [zda hk]
 rcases eI (eU hi) with h4|rfl
 ·exact .inl (h i q h4 hb)
 ·exact .inr ⟨rfl,hb⟩
variable {A:Nat}
theorem ClI.join (h:ClI s p A B 12 M)(hT:ClI s p A B 12 T)(hV:MvP s p l T 12 V)(hl:hidL s A l)(hk:k<12):ClI s p A B 12 (M.set k (M.getD k 0|||V.getD k 0)):=by
 have a:k<M.length:=by rw [h.len];exact hk
 refine⟨by rw [fJ];exact h.len,fun x hx=>?_,fun q i hb=>(zda a _ _ _).2 (.inl (h.base q i hb)),fun i q hb=>?_⟩
 ·rcases e7 hx with hx|rfl
  ·exact h.lt x hx
  ·exact eR (n:=16) (zbX h.lt _) (zbX hV.2.1 _)
 ·rcases (zda a _ _ _).1 hb with hb|⟨rfl,hb⟩
  ·exact h.sub i q hb
  ·obtain⟨d,f,-,b,c,rfl⟩:=(hV.2.2 i q).1 hb;exact .hid (hT.sub d f b) hl c
theorem ClI.stop (hT:ClI s p A B 12 T)(h:∀ l,hidL s A l->∃ V,MvP s p l T 12 V∧Has T V 12):zbF T 12 (Cl s p A B):=
 hT.fin fun i l hi hl q hq q' hq'=>by
  obtain⟨V,hV,hh⟩:=h l hl
  exact hh.all hV.1 _ _ ((hV.2.2 _ _).2 ⟨i,q,hi,hq,hq',rfl⟩)
end
theorem bits_le (h:∀ q,a.testBit q=true->b.testBit q=true):a<=b:=by
 have:a|||b=b:=fO fun q=>by
  rw [gU];cases ha:a.testBit q
  ·simp
  ·rw [h q ha];simp
 rw [← this];exact Nat.left_le_or
theorem room_le:∀ {T M:List Nat},T.length=M.length->(∀ x∈M,x<65536)->(∀ i,T.getD i 0<=M.getD i 0)->room M<=room T∧(T≠M->room M<room T)
 |[],[],_,_,_=>⟨dG _,fun h=>absurd rfl h⟩
 |[],_ :: _,h,_,_=>by simp at h
 |_ :: _,[],h,_,_=>by simp at h
 |a :: r,b :: t,h,hM,hle=>by
  have h0:a<=b:=by simpa using hle 0
  have hb:=hM b sM;obtain⟨d,c⟩:=room_le (T:=r) (M:=t) (by simpa using h) (fun x hx=>hM x (by simp [hx])) (fun i=>by simpa using hle (i+1));refine⟨by simp only [room];omega,fun hne=>?_⟩;simp only [room]
  by_cases e:a=b
  ·subst e;have:=c (fun e2=>hne (by rw [e2]));omega
  ·omega
theorem room_grow (h1:T.length=M.length)(hM:∀ x∈M,x<65536)(h:∀ i q,zdS T i q->zdS M i q)(hne:T≠M):room M<room T:=
 (room_le h1 hM (fun i=>bits_le (fun q hq=>h i q hq))).2 hne
def bq (T:List Nat):Nat->Nat->Prop:=fun q i=>zdS T i q
theorem zbF.eq {B:Nat->Nat->Prop}(h:zbF T n B):bq T=B:=funext fun q=>funext fun i=>propext (h.2.2 i q)
structure WS (p:Aut) (T:List Nat):Prop where
 len:T.length=12
 lt:∀ x∈T,x<65536
 row:∀ i q,zdS T i q->i<p.next.length
theorem WS.stand (h:WS p T):zbF T 12 (bq T):=⟨h.len,h.lt,fun _ _=>Iff.rfl⟩
theorem WS.idx (h:WS p T) (h0:T.getD i 0≠0):i<p.next.length:=by
 obtain⟨q,a⟩:=Nat.exists_testBit_of_ne_zero h0;exact h.row i q a
def zgz (p:Aut) (T:List Nat):Nat->Bool
 |0=>false
 |k+1=>zgz p T k || (T.getD k 0 != 0&&!zcy p k)
def badS (p:Aut) (T:List Nat):Bool:=zgz p T 12
theorem badSN_iff (p:Aut) (T:List Nat):∀ k,zgz p T k=true↔∃ i,i<k∧T.getD i 0≠0∧zcy p i=false
 |0=>⟨fun h=>(by cases h),fun ⟨i,h,_⟩=>oM⟩
 |k+1=>by
  unfold zgz
  rw [fV,badSN_iff p T k]
  constructor
  ·rintro (⟨i,h1,h2⟩|h)
   ·exact⟨i,oM,h2⟩
   ·refine⟨k,oM,?_⟩
    simpa using h
  ·rintro ⟨i,h1,h2,h3⟩
   rcases eI (eU h1) with h4|rfl
   ·exact .inl ⟨i,h4,h2,h3⟩
   ·exact .inr (by simp only [h3,Bool.not_false,Bool.and_true];simpa using h2)
theorem zjq {s:Sys}    (h:zbF T 12 (PR s p A v)):badS p T=true↔Bad s p A v:=by
 rw [stand_bad h];exact badSN_iff p T 12
theorem cl_row {s:Sys}   {B:Nat->Nat->Prop}(hp:zj p=true)(hB:∀ q i,B q i->i<p.next.length) (h:Cl s p A B q i):i<p.next.length:=by
 induction h with
 |base h=>exact hB _ _ h
 |hid _ hl _ ih=>exact zdP hp ih hl.1
def Lead (s:Sys) (p:Aut) (A l:Nat) (T U:List Nat):Prop:=zbF U 12 (Cl s p A (mvB s p l (bq T)))
theorem Lead.ws {s:Sys}   (h:Lead s p A l T U)(hp:zj p=true)(hl:l<6)(hT:WS p T):WS p U:=
 ⟨h.1,h.2.1,fun i q hb=>cl_row hp (fun q i ⟨_,i0,h1,_,h3⟩=>by rw [h3];exact zdP hp (hT.row _ _ h1) hl) ((h.2.2 i q).1 hb)⟩
theorem Lead.pr {s:Sys}    (h:Lead s p A l T U)(hT:zbF T 12 (PR s p A v)):zbF U 12 (PR s p A (v++[l])):=by
 unfold Lead at h;rw [hT.eq,← PR_snoc] at h;exact h
theorem start_ws {s:Sys}   (h:zbF U 12 (PR s p A []))(hp:zj p=true)(h0:0<p.next.length):WS p U:=
 ⟨h.1,h.2.1,fun i q hb=>cl_row hp (fun q i ⟨_,h3⟩=>by rw [h3];exact h0) ((h.2.2 i q).1 hb)⟩
structure SfI (s:Sys) (p:Aut) (A:Nat) (Ts:List (List Nat)) (nx:Nat->Nat->Int):Prop where
 ws:∀ T∈Ts,WS p T
 start:∃ T,Ts[0]?=some T∧zbF T 12 (PR s p A [])
 nx:∀ k l,k<Ts.length->l<6->nx k l = -1∨∃ (j:Nat) (T U:List Nat),nx k l=(j:Int)∧Ts[k]?=some T∧Ts[j]?=some U∧Lead s p A l T U
section
variable {s:Sys} {p:Aut} {A:Nat} {Ts:List (List Nat)} {nx:Nat->Nat->Int}
theorem SfI.add (h:SfI s p A Ts nx) (hU:WS p U):SfI s p A (Ts++[U]) (fun k l=>if k=Ts.length then -1 else nx k l):=by
 obtain⟨T,d,g⟩:=h.start;refine⟨fun V a=>?_,⟨T,by rw [dP (List.getElem?_eq_some_iff.1 d).1];exact d,g⟩,fun k l hk hl=>?_⟩
 ·rcases List.mem_append.1 a with a|a
  ·exact h.ws V a
  ·obtain rfl:V=U:=by simpa using a
   exact hU
 ·by_cases e:k=Ts.length
  ·exact .inl (if_pos e)
  ·have b:k<Ts.length:=by simp at hk;omega
   simp only [if_neg e];rcases h.nx k l b hl with c|⟨j,T,U,c,i,f,m⟩
   ·exact .inl c
   ·exact .inr ⟨j,T,U,c,by rw [dP b];exact i,by rw [dP (List.getElem?_eq_some_iff.1 f).1];exact f,m⟩
theorem SfI.set (h:SfI s p A Ts nx)  (hT:Ts[k]?=some T)(hU:Ts[j]?=some U)(hl:Lead s p A l T U):SfI s p A Ts (fun k' l'=>if k'=k∧l'=l then (j:Int) else nx k' l'):=by
 refine⟨h.ws,h.start,fun k' l' hk' hl'=>?_⟩
 by_cases e:k'=k∧l'=l
 ·obtain⟨rfl,rfl⟩:=e;exact .inr ⟨j,T,U,if_pos ⟨rfl,rfl⟩,hT,hU,hl⟩
 ·simp only [if_neg e];exact h.nx k' l' hk' hl'
end
theorem zhx (l:List Int):∀ u∈ints l,u.oneCell'=true:=by
 intro u hu;obtain⟨x,_,rfl⟩:=List.mem_map.1 hu;rfl
theorem zfT (l:List Bool):∀ u∈zag l,u.oneCell'=true:=by
 intro u hu;obtain⟨x,_,rfl⟩:=List.mem_map.1 hu;rfl
theorem zfZ {w1:World}   (hg:(w.alloc (.cells cs t)).grownBy w1 (Value.slice (some w.heap.size) n c).ownBlock):Ext w w1:=
 ((cY w).alloc _).grown hg (fun k hk=>by
  have hk':w.heap.size=k:=by simpa [Value.ownBlock] using hk
  omega)
theorem clone_int {A:Option Addr}  {l:List Int} (h:Reads w lo hi 1 A n (ints l))(hn:n<=1048576) :
  Calls Tryz.prog 177 #[.slice A n c] w fun e w'=>∃ v',e=.returned v'∧w'.ownsRow w.heap.size 3 1 v' n (ints l)∧Ext w w':=by
 cases A with
 |none =>
  obtain rfl:n=0:=by
   rcases gZ n with b|b
   ·exact b
   ·obtain⟨_,d,_⟩:=h.2.2 b;cases d
  have f:=h.length;obtain rfl:l=[]:=dQ (by rw [zdm] at f;omega);clear h;have g:=fun (w:World) (a:Option Addr) (n c n' c':Nat)=>Lib.run_eql_slice_nil (P:=Tryz.prog) w 128 _ a n c n' c' Tryz.underlying128
  go_enter Tryz.func177,Tryz.ntmps177
  go_wp2;go_ret;exact⟨_,rfl,World.ownsRow_nil _ _ _ _,cY _⟩
 |some ad =>
  have H:=za (h.ext ((cY w).alloc (.cells #[] 3)));clear h;have g:=fun (w:World) (a:Option Addr) (n c n' c':Nat)=>Lib.run_eql_slice_nil (P:=Tryz.prog) w 128 _ a n c n' c' Tryz.underlying128
  go_enter Tryz.func177,Tryz.ntmps177
  go_wp2_with (at_builtin;refine zdw _ rfl _ _ 128 rfl w.heap.size 3 _ 1 8 Tryz.underlying128 zaf rfl dM _ 0 [] rfl (World.ownsRow_made w #[] 0 (dG _) (dI _) rfl) _ _ (some ad) n c (ints l) rfl H.out (zhx l) lM oM sM ?_;intro v' w1 zkh hg hat)
  have hx:=zfZ hg;rw [dW,eJ] at zkh;go_ret;exact⟨_,rfl,zkh,hx⟩
theorem ziS {A:Option Addr}  {l:List Bool} (h:Reads w lo hi 1 A n (zag l))(hn:n<=1048576) :
  Calls Tryz.prog 176 #[.slice A n c] w fun e w'=>∃ v',e=.returned v'∧w'.ownsRow w.heap.size 4 1 v' n (zag l)∧Ext w w':=by
 cases A with
 |none =>
  obtain rfl:n=0:=by
   rcases gZ n with b|b
   ·exact b
   ·obtain⟨_,d,_⟩:=h.2.2 b;cases d
  have f:=h.length;obtain rfl:l=[]:=dQ (by rw [zce] at f;omega);clear h;have g:=fun (w:World) (a:Option Addr) (n c n' c':Nat)=>Lib.run_eql_slice_nil (P:=Tryz.prog) w 26 _ a n c n' c' Tryz.underlying26
  go_enter Tryz.func176,Tryz.ntmps176
  go_wp2;go_ret;exact⟨_,rfl,World.ownsRow_nil _ _ _ _,cY _⟩
 |some ad =>
  have H:=za (h.ext ((cY w).alloc (.cells #[] 4)));clear h;have g:=fun (w:World) (a:Option Addr) (n c n' c':Nat)=>Lib.run_eql_slice_nil (P:=Tryz.prog) w 26 _ a n c n' c' Tryz.underlying26
  go_enter Tryz.func176,Tryz.ntmps176
  go_wp2_with (at_builtin;refine zdw _ rfl _ _ 26 rfl w.heap.size 4 _ 1 1 Tryz.underlying26 zbh rfl dM _ 0 [] rfl (World.ownsRow_made w #[] 0 (dG _) (dI _) rfl) _ _ (some ad) n c (zag l) rfl H.out (zfT l) lM oM sM ?_;intro v' w1 zkh hg hat)
  have hx:=zfZ hg;rw [dW,eJ] at zkh;go_ret;exact⟨_,rfl,zkh,hx⟩
end Go.Proofs.YtcfchopfijalpaaGreatDoor
