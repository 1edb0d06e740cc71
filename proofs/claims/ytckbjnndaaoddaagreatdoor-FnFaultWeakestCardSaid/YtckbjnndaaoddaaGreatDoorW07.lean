/- AssumptionFa -/
import Derived.Test.YtckbjnndaaoddaaGreatDoorW06
import Derived.Lib.SliceRun
set_option maxHeartbeats 4000000
set_option maxRecDepth 100000
namespace Go.Proofs.YtckbjnndaaoddaaGreatDoor
open Go Go.RowKit
open Bool renaming and_eq_true->dH,eq_false_iff->eU,eq_iff_iff->gJ,not_eq_true'->gG,or_eq_true->fM,false->j1,true->jU
open Ext renaming bl_->eA,drew->fB,refl->cY,trans->eN,x1_->gH
open Frm renaming setCell->dG
open List renaming all_eq_true->eK,eq_nil_of_length_eq_zero->dP,getD_eq_getElem?_getD->dE,getElem?_append_left->dI,getElem?_eq_getElem->dB,getElem?_eq_none->dV,getElem?_map->dO,getElem?_of_mem->dY,getElem?_set_ne->fQ,getElem?_set_self->eX,length_append->dK,length_set->e9,length_singleton->dU,length_take->eV,map_cons->fK,mem_cons_of_mem->eC,mem_cons_self->gD,mem_of_getElem?->dC,mem_or_eq_of_mem_set->e7,mem_replicate->iR,nil_append->eI,replicate->dS,take_add_one->dN,take_of_length_le->dJ,getElem?_eq_some_iff->j9,mem_append->kD,mem_map->kC
open Nat renaming div_eq_of_lt->iZ,eq_of_testBit_eq->fH,eq_zero_or_pos->gI,le_of_lt_succ->eF,le_refl->dD,le_trans->dL,lt_of_lt_of_le->eB,lt_or_eq_of_le->dX,mod_eq_of_lt->iH,mod_mul_right_div_self->jL,mul_comm->fI,or_lt_two_pow->eP,pow_le_pow_right->eD,testBit_and->fO,testBit_or->fX,zero_add->dW,zero_le->dF
open Option renaming getD_some->eL,toList_some->eG,none->fV,some->fU
open Go renaming Calls->j6,Value->j4,World->jX
open Go.Ending renaming returned->j5
open Go.IntKind renaming i64->iX
open Go.Value renaming agg->j2,bool->j7,slice->fC
open Option.some renaming inj->j8
open _root_.Go.Proofs.Tryz renaming prog->j3
variable {A N a b b0 base c c0 cap g g0 hi i j k l lo n q x:Nat}{M O T U V ls v:List Nat}{W w:jX}{cs:Array j4}{p:Aut}{s:ByteArray}{t:TypeId}
theorem ext_blk4 {w':jX}{ds es fs:Array j4}{u v x:TypeId}(h:Ext ((((w.alloc (.cells cs t)).alloc (.cells ds u)).alloc (.cells es v)).alloc (.cells fs x)) w'):Blk w' w.heap.size t cs/\Blk w' (w.heap.size+1) u ds/\Blk w' (w.heap.size+1+1) v es/\Blk w' (w.heap.size+1+1+1) x fs:=by
 have h2:=zK (((cY _).alloc _).trans h);refine⟨h2.1,h2.2.1,h2.2.2,?_⟩;have:=zcf h;simpa using this
noncomputable def zer (s t:Sys) (p a:Aut):Int:=if iface s p t<0\/zj a=j1 then 1 else if a.al≠iface s p t then 2 else if zbk s a p=j1 then 3 else if zaE [t] a=j1 then 4 else 0
section
variable {lo hi n c:Nat}{A:Option Addr}{s:Sys}{lo1 hi1 m1 d1 m1' d1':Nat}{B B':Option Addr}{p:Aut}{lo2 hi2 k c2:Nat}{C:Option Addr}{t:Sys}{w:jX}
variable {lo3 hi3 m2 d2 m2' d2':Nat}{D D':Option Addr}{a:Aut}
theorem yW07a1 {P:Prop}(h:P:=by
 go_enter Tryz.func98,Tryz.ntmps98
 go_upto_region 1 with fail
 generalize (((w.alloc _).alloc _).alloc _).alloc _=w1 at *;have c1:=b1.cell;have c2:=b2.cell;have c3:=b3.cell;go_wp2_with (first
  |(go_at_call 95;with_reducible refine (HI.out _ hw1).mono (mQ fun w2 hx2=>?_);have hw2:=hw1.trans hx2;have c42:=(b4.ext hx2).cell)
  |(go_at_call 79;with_reducible refine (HA.out _ hw2).mono ?_;rw [H1.out];rintro e w3 ⟨rfl,hx3⟩;have hx13:=hx2.trans hx3;have hw3:=hw1.trans hx13;have c13:=(b1.ext hx13).cell;have c33:=(b3.ext hx13).cell;have c43:=(b4.ext hx13).cell)
  |(go_at_call 80;with_reducible refine (HU.out _ hw3).mono (mQ fun w4 hx4=>?_);have hx14:=hx13.trans hx4;have hw4:=hw1.trans hx14;have c24:=(b2.ext hx14).cell;have c44:=(b4.ext hx14).cell)
  |(go_at_call 81;with_reducible refine (HK.out _ hw4).mono (mQ fun w5 hx5=>?_);have hw5:=hw4.trans hx5))
 go_ret;exact⟨zaa (by rw [hr.out];try rfl),by first|exact hw5|exact hw4|exact hw3|exact hw2⟩
 ):P:=h
theorem spec_AssumptionFault (h:zU w lo hi A n s)(ht:zU w lo2 hi2 C k t)(hp:zJ w lo1 hi1 B m1 B' m1' p)(ha:zJ w lo3 hi3 D m2 D' m2' a) :
  j6 j3 98 #[j2 #[s.al,s.st,fC A n c],j2 #[t.al,t.st,fC C k c2],j2 #[p.al,fC B m1 d1,fC B' m1' d1'],j2 #[a.al,fC D m2 d2,fC D' m2' d2']] w fun e w'=>e=j5 (.int iX (zer s t p a))/\Ext w w':=by
 have HI:=za (fun W (hW:Ext w W)=>zcG (c:=c) (d1:=d1) (d1':=d1') (c2:=c2) (h.ext hW) (hp.ext hW) (ht.ext hW));have HA:=za (fun W (hW:Ext w W)=>zQ _ _ _ _ d2 _ _ d2' _ _ (ha.ext hW));have HU:=za (fun W (hW:Ext w W)=>zhO (c:=c) (d1:=d2) (d1':=d2') (d2:=d1) (d2':=d1') (h.ext hW) (ha.ext hW) (hp.ext hW));have HK:=za (fun W (hW:Ext w W)=>zgb (c:=c2) (d2:=d2) (d2':=d2') (ht.ext hW) (ha.ext hW));have hr:=za (show zer s t p a=if iface s p t<0\/zj a=j1 then 1 else if a.al≠iface s p t then 2 else if zbk s a p=j1 then 3 else if zaE [t] a=j1 then 4 else 0 from rfl);clear h hp ht ha;have hw1:Ext w ((((w.alloc (.cells #[s.al,s.st,fC A n c] 38)).alloc (.cells #[t.al,t.st,fC C k c2] 38)).alloc (.cells #[p.al,fC B m1 d1,fC B' m1' d1'] 27)).alloc (.cells #[a.al,fC D m2 d2,fC D' m2' d2'] 27)):=((((cY w).alloc _).alloc _).alloc _).alloc _;obtain⟨b1,b2,b3,b4⟩:=ext_blk4 (cY ((((w.alloc (.cells #[s.al,s.st,fC A n c] 38)).alloc (.cells #[t.al,t.st,fC C k c2] 38)).alloc (.cells #[p.al,fC B m1 d1,fC B' m1' d1'] 27)).alloc (.cells #[a.al,fC D m2 d2,fC D' m2' d2'] 27)));generalize iface s p t=I at *;generalize zbk s a p=u at *;generalize zaE [t] a=v at *
 by_cases hI:I<0
 ·rw [if_pos (Or.inl hI)] at hr;obtain⟨y,H1⟩:∃ y,Hid (zj a=y):=⟨_,rfl⟩;have g:=za hI;exact yW07a1
 have b:¬ I<0:=hI;have f:0<=I:=oM;clear hI;cases h1:zj a
 ·rw [h1,if_pos (Or.inr rfl)] at hr;have H1:=za h1;clear h1;exact yW07a1
 rw [h1,if_neg (by rintro (h|h);exact b h;cases h)] at hr;have H1:=za h1;clear h1
 by_cases h2:a.al=I
 ·rw [if_neg (fun hn=>hn h2)] at hr;subst h2;cases u<;>cases v
  all_goals
   have i:=za (rfl:jU=jU);have j:=za (rfl:jU=jU);exact yW07a1
 ·rw [if_pos h2] at hr;have d:(a.al==I)=j1:=by simpa using h2
  exact yW07a1
theorem yW07a2 {P:Prop}(h:P:=by
 go_enter Tryz.func29,Tryz.ntmps29
 go_upto_region 1 with fail
 generalize (((w.alloc _).alloc _).alloc _).alloc _=w1 at *;have c1:=b1.cell;have c2:=b2.cell;have c3:=b3.cell;go_wp2_with (first
  |(go_at_call 83;with_reducible refine (HI.out _ hw1).mono (mQ fun w2 hx2=>?_);have hw2:=hw1.trans hx2;have c42:=(b4.ext hx2).cell)
  |(go_at_call 25;with_reducible refine (HA.out _ hw2).mono ?_;rw [H1.out];rintro e w3 ⟨rfl,hx3⟩;have hx13:=hx2.trans hx3;have hw3:=hw1.trans hx13;have c13:=(b1.ext hx13).cell;have c33:=(b3.ext hx13).cell;have c43:=(b4.ext hx13).cell)
  |(go_at_call 26;with_reducible refine (HU.out _ hw3).mono (mQ fun w4 hx4=>?_);have hx14:=hx13.trans hx4;have hw4:=hw1.trans hx14;have c24:=(b2.ext hx14).cell;have c44:=(b4.ext hx14).cell)
  |(go_at_call 27;with_reducible refine (HK.out _ hw4).mono (mQ fun w5 hx5=>?_);have hw5:=hw4.trans hx5))
 go_ret;exact⟨zaa (by rw [hr.out];try rfl),by first|exact hw5|exact hw4|exact hw3|exact hw2⟩
 ):P:=h
theorem impl_AssumptionFault (h:zU w lo hi A n s)(ht:zU w lo2 hi2 C k t)(hp:zJ w lo1 hi1 B m1 B' m1' p)(ha:zJ w lo3 hi3 D m2 D' m2' a)(hT:Tab w) :
  j6 j3 29 #[j2 #[s.al,s.st,fC A n c],j2 #[t.al,t.st,fC C k c2],j2 #[p.al,fC B m1 d1,fC B' m1' d1'],j2 #[a.al,fC D m2 d2,fC D' m2' d2']] w fun e w'=>e=j5 (.int iX (zer s t p a))/\Ext w w':=by
 have HI:=za (fun W (hW:Ext w W)=>zcD (c:=c) (d1:=d1) (d1':=d1') (c2:=c2) (h.ext hW) (hp.ext hW) (ht.ext hW));have HA:=za (fun W (hW:Ext w W)=>zP _ _ _ _ d2 _ _ d2' _ _ (ha.ext hW));have HU:=za (fun W (hW:Ext w W)=>zhw (c:=c) (d1:=d2) (d1':=d2') (d2:=d1) (d2':=d1') (h.ext hW) (ha.ext hW) (hp.ext hW) (hT.ext hW));have HK:=za (fun W (hW:Ext w W)=>zfO (c:=c2) (d2:=d2) (d2':=d2') (ht.ext hW) (ha.ext hW) (hT.ext hW));have hr:=za (show zer s t p a=if iface s p t<0\/zj a=j1 then 1 else if a.al≠iface s p t then 2 else if zbk s a p=j1 then 3 else if zaE [t] a=j1 then 4 else 0 from rfl);clear h hp ht ha;have hw1:Ext w ((((w.alloc (.cells #[s.al,s.st,fC A n c] 38)).alloc (.cells #[t.al,t.st,fC C k c2] 38)).alloc (.cells #[p.al,fC B m1 d1,fC B' m1' d1'] 27)).alloc (.cells #[a.al,fC D m2 d2,fC D' m2' d2'] 27)):=((((cY w).alloc _).alloc _).alloc _).alloc _;obtain⟨b1,b2,b3,b4⟩:=ext_blk4 (cY ((((w.alloc (.cells #[s.al,s.st,fC A n c] 38)).alloc (.cells #[t.al,t.st,fC C k c2] 38)).alloc (.cells #[p.al,fC B m1 d1,fC B' m1' d1'] 27)).alloc (.cells #[a.al,fC D m2 d2,fC D' m2' d2'] 27)));generalize iface s p t=I at *;generalize zbk s a p=u at *;generalize zaE [t] a=v at *
 by_cases hI:I<0
 ·rw [if_pos (Or.inl hI)] at hr;obtain⟨y,H1⟩:∃ y,Hid (zj a=y):=⟨_,rfl⟩;have g:=za hI;exact yW07a2
 have b:¬ I<0:=hI;have f:0<=I:=oM;clear hI;cases h1:zj a
 ·rw [h1,if_pos (Or.inr rfl)] at hr;have H1:=za h1;clear h1;exact yW07a2
 rw [h1,if_neg (by rintro (h|h);exact b h;cases h)] at hr;have H1:=za h1;clear h1
 by_cases h2:a.al=I
 ·rw [if_neg (fun hn=>hn h2)] at hr;subst h2;cases u<;>cases v
  all_goals
   have i:=za (rfl:jU=jU);have j:=za (rfl:jU=jU);exact yW07a2
 ·rw [if_pos h2] at hr;have d:(a.al==I)=j1:=by simpa using h2
  exact yW07a2
end
def wl (s:ByteArray):List Nat:=s.data.toList.map fun b=>b.toNat - 97
theorem zfl (s:ByteArray):(wl s).length=s.size:=by simp [wl]
theorem zet (hk:k<s.size):(wl s)[k]?=fU (s[k].toNat - 97):=by
 unfold wl;rw [dO,zcu s k hk];rfl
theorem zaU (h:zbg s=jU) (hk:k<s.size):97<=s[k].toNat/\s[k].toNat<=102:=by
 unfold zbg at h;simp only [dH,eK] at h;have:=h.2 s[k] (dC (zcu s k hk));simp only [zeA,decide_eq_true_eq] at this;omega
theorem zbJ (h:zbg s=jU):s.size<=50000:=by
 unfold zbg at h;simp only [dH,decide_eq_true_eq] at h;exact h.1
theorem zkg (h:zbg s=jU):∀ l∈wl s,l<6:=by
 intro l hl;obtain⟨k,b⟩:=dY hl;have a:=(j9.1 b).1;rw [zfl] at a;rw [zet a] at b;have:=zaU h a;have:=j8 b;omega
def alB (ls:List Nat):Nat:=ls.foldl (fun u l=>u|||2 ^ l) 0
theorem alB_snoc (ls:List Nat) (l:Nat):alB (ls++[l])=alB ls|||2 ^ l:=by simp [alB]
theorem zdw (ls:List Nat) (k:Nat):(alB ls).testBit k=jU↔k∈ls:=by
 have a:∀ (ls:List Nat) (u:Nat),(ls.foldl (fun u l=>u|||2 ^ l) u).testBit k=jU↔u.testBit k=jU\/k∈ls:=by
  intro ls
  induction ls with
  |nil=>intro u;simp
  |cons l r ih =>
   intro u;rw [List.foldl_cons,ih,fX,Nat.testBit_two_pow,fM,decide_eq_true_eq,List.mem_cons];constructor
   ·rintro ((h|h)|h)
    ·exact Or.inl h
    ·exact Or.inr (Or.inl h.symm)
    ·exact Or.inr (Or.inr h)
   ·rintro (h|h|h)
    ·exact Or.inl (Or.inl h)
    ·exact Or.inl (Or.inr h.symm)
    ·exact Or.inr h
 have:=a ls 0;simpa [alB] using this
theorem alB_lt (h:∀ l∈ls,l<6):alB ls<64:=Nat.lt_pow_two_of_testBit (n:=6) _ fun k hk=>by
 rw [eU]
 intro hb
 have:=h k ((zdw ls k).1 hb)
 omega
def inB (s:ByteArray) (a:Nat):Bool:=decide (s.size<=50000)&&zjJ s a
theorem zbj (h:inB s a=jU):zbg s=jU:=by
 unfold inB at h;simp only [dH,decide_eq_true_eq] at h;unfold zbg;simp only [dH,decide_eq_true_eq];refine⟨h.1,?_⟩;rw [eK];intro b hb;have h2:=h.2;unfold zjJ at h2;rw [eK] at h2;have h3:=h2 b hb;unfold hasB ltr at h3;simp only [dH,decide_eq_true_eq] at h3;unfold zeA;rw [decide_eq_true_eq];have h4:=h3.1
 split at h4<;>omega
theorem zey :inB s a=jU↔zbg s=jU/\alB (wl s)&&&a=alB (wl s):=by
 constructor
 ·intro h;have f:=zbj h;refine⟨f,fH fun k=>?_⟩;rw [fO];cases hk:(alB (wl s)).testBit k
  ·rfl
  ·rw [Bool.true_and];have g:=(zdw _ k).1 hk;obtain⟨i,d⟩:=dY g;have c:=(j9.1 d).1;rw [zfl] at c;rw [zet c] at d;have j:=zaU f c;have e:=j8 d;unfold inB zjJ at h;simp only [dH,eK] at h;have:=h.2 s[i] (dC (zcu s i c));unfold hasB ltr at this;rw [if_neg oM] at this;simp only [dH] at this;rw [<- e,<- this.2]
   congr 1
   omega
 ·rintro ⟨f,h⟩;unfold inB;simp only [dH,decide_eq_true_eq];refine⟨zbJ f,?_⟩;unfold zjJ;rw [eK];intro b j;obtain⟨i,d⟩:=dY j;have c:i<s.size:=by have:=(j9.1 d).1;simpa using this
  rw [zcu s i c] at d;obtain rfl:=j8 d;have l:=zaU f c;unfold hasB ltr;rw [if_neg oM];have g:(alB (wl s)).testBit (s[i].toNat - 97)=jU:=(zdw _ _).2 (dC (zet c));rw [<- h,fO,dH] at g;simp only [dH,decide_eq_true_eq];refine⟨oM,?_⟩;rw [show ((s[i].toNat:Int) - 97).toNat=s[i].toNat - 97 by omega];exact g.2
theorem zeE (hs:s.size<=9223372036854775807) :
  j6 j3 222 #[s] w fun e w'=>e=j5 (.tuple #[.int iX (if zbg s=jU then alB (wl s) else 0:Nat),j7 (zbg s)])/\w=w':=by
 cases hw:zbg s
 ·have f:=za hw;clear hw
  go_enter Tryz.func222,Tryz.ntmps222
  go_wp2_with (go_at_call 141;refine (zdz s _ hs).mono ?_;rw [f.out];rintro e w' ⟨rfl,rfl⟩)
  go_ret2;exact⟨rfl,rfl⟩
 ·have q:=zbJ hw;have p:=za (fun k o=>zaU hw (k:=k) o);have t:=za (zkg hw);have f:=za hw;clear hw
  go_enter Tryz.func222,Tryz.ntmps222
  go_wp2_with (go_at_call 141;refine (zdz s _ hs).mono ?_;rw [f.out];rintro e w' ⟨rfl,rfl⟩)
  go_loop [4,5] (fun v i=>∃ k u:Nat,k<=s.size/\i=.int iX k/\v=.int iX u/\u<64/\Hid (u=alB ((wl s).take k))) (fun _ i=>s.size - (intOf i).toNat)
  case atStart=>exact⟨0,0,dF _,rfl,rfl,oM,rfl⟩
  case round =>
   obtain⟨k,u,o,rfl,rfl,r,d⟩:=hrel
   by_cases hlt:k<s.size
   ·have g:=p.out k hlt;obtain⟨l,h⟩:∃ l:Nat,Hid ((s[k].toNat:Int) - 97=l):=⟨s[k].toNat - 97,by unfold Hid;omega⟩;have j:l<6:=oH h.out;have m:=za (show alB ((wl s).take (k+1))=u|||2 ^ l by
     rw [dN,zet hlt,eG,alB_snoc,<- d.out]
     congr 2
     have:=h.out;omega)
    have c:=za (show bits .or iX (u:Nat) ((2:Int) ^ l)=((u|||2 ^ l:Nat):Int) by
     have:=zcd (a:=u) tM (Sm.bit (n:=l) oM);rw [show (((2:Nat) ^ l:Nat):Int)=(2:Int) ^ l by simp] at this;exact this)
    have b:u|||2 ^ l<64:=eP (n:=6) r (Nat.pow_lt_pow_right oM j)
    have x:=c.out;clear g;go_wp2_with (first
     |(go_at_call 144;refine (zbG s k hlt _).mono ?_;rw [h.out];rintro e w' ⟨rfl,rfl⟩)
     |(go_at_call 270;refine (zgv l oM _).mono ?_;rintro e w' ⟨rfl,rfl⟩))
    go_round
    case rel=>exact⟨k+1,u|||2 ^ l,oM,gM,by first|rfl|rw [c.out],b,m.symm⟩
    case measure=>exact uM
   ·obtain rfl:k=s.size:=oM;have zkk:=za (show u=alB (wl s) by rw [d.out,dJ (by rw [zfl];exact dD _)]);go_wp2;go_ret2;exact⟨by rw [zkk.out];rfl,rfl⟩
theorem zaZ (hs:s.size<=9223372036854775807)(ha:a<=63) :
  j6 j3 146 #[s,a] w fun e w'=>e=j5 (.bool (inB s a))/\w=w':=by
 have d:=za (show (decide ((0:Int)<=a/\(a:Int)<=63))=jU by simp;omega);cases hw:zbg s
 ·have hr:=za (show inB s a=j1 by
   rw [eU];intro h;rw [zbj h] at hw;cases hw)
  have c:=za hw;clear hw
  go_enter Tryz.func146,Tryz.ntmps146
  go_wp2_with (go_at_call 222;refine (zeE hs).mono ?_;rw [c.out];rintro e w' ⟨rfl,rfl⟩)
  go_ret;exact⟨zr (by rw [hr.out]),rfl⟩
 ·obtain⟨u,g⟩:∃ u,Hid (alB (wl s)=u):=⟨_,rfl⟩;have i:u<64:=by rw [<- g.out];exact alB_lt (zkg hw)
  have f:=za (zdi (a:=u) (b:=a) tM tM);have j:=f.out;have hr:=za (show inB s a=(((u&&&a:Nat):Int)==(u:Int)) by
   rw [gJ,zey,g.out,beq_iff_eq];constructor
   ·rintro ⟨_,h⟩;rw [h]
   ·intro h;exact⟨hw,oM⟩)
  have c:=za hw;clear hw
  go_enter Tryz.func146,Tryz.ntmps146
  go_wp2_with (first
   |(go_at_call 222;refine (zeE hs).mono ?_;rw [c.out,if_pos rfl,g.out];rintro e w' ⟨rfl,rfl⟩)
   |(go_at_call 142;refine (zX _ _).mono ?_;rw [d.out];rintro e w' ⟨rfl,rfl⟩))
  go_ret;exact⟨zr (by rw [hr.out]),rfl⟩
def zjn (bs:List UInt8):List Int:=bs.map fun b=>(b.toNat:Int)
def bcl (bs:List UInt8):List j4:=(zjn bs).map (Value.int .u8)
theorem bcl_length (bs:List UInt8):(bcl bs).length=bs.length:=by simp [bcl,zjn]
def zfU (a:Nat) (bs:List UInt8):List UInt8:=bs.filter fun b=>hasB a (ltr b.toNat)
def zbx (s:ByteArray) (a:Nat):ByteArray:=strOfNums (zjn (zfU a s.data.toList))
theorem ziO (hk:k<s.size):zfU a (s.data.toList.take (k+1))=zfU a (s.data.toList.take k)++if hasB a (ltr s[k].toNat)=jU then [s[k]] else []:=by
 rw [dN,zcu s k hk,eG];unfold zfU;rw [List.filter_append]
 congr 1
 cases h:hasB a (ltr s[k].toNat)<;>simp [h]
theorem zhB (s:ByteArray) (a k:Nat):(zfU a (s.data.toList.take k)).length<=s.size:=by
 refine dL (List.length_filter_le _ _) ?_;rw [eV];have:s.data.toList.length=s.size:=sM;omega
theorem zjr {A:Option Addr}{bs:List UInt8}(h:W.ownsRow base 5 1 (fC A n cap) n (bcl bs)) :
  (convert 22 9 (fC A n cap)).run j3 W=.ok (.string (strOfNums (zjn bs))) W:=by
 have c:bs.length=n:=by have:=zcE h;rw [bcl_length] at this;omega
 rcases h.2 with ⟨h1,h2⟩|⟨g,b,d,h1,_⟩
 ·injection h1 with h1 h3 h4
  subst h1;subst h3;subst h4;obtain rfl:bs=[]:=dP c;exact run_convert_bytes_nil (P:=j3) W 22 5 u8_row u8_und _ _ _ zjY
 ·injection h1 with h1
  subst h1;refine run_convert_bytes_arg (P:=j3) W 22 5 u8_row u8_und g 0 n cap (zjn bs) (by simp [zjn,c]) (fun i hi=>?_) _ zjY;rw [dW,h.cellAt i oM];unfold bcl;rw [dO];have a:i<(zjn bs).length:=by simp [zjn];omega
  rw [dB a];simp [List.getD,dB a]
theorem own_u8_lit (w:jX):(w.alloc (.cells #[] 5)).ownsRow w.heap.size 5 1 (fC (fU w.heap.size) 0 0) 0 (bcl []):=World.ownsRow_lit w #[] 0 (dD _) lM rfl
theorem yW07a3 {P:Prop}(h:P:=by
 obtain rfl:k=s.size:=oM;have zkk:=za (show strOfNums (zjn bs)=zbx s a by rw [hbs.out,List.take_of_length_le sM];rfl);obtain⟨A5,c5,rfl⟩:=zh zkh;have hcv:=zjr zkh;clear zkh;go_wp2_with (simp only [hcv])
 go_ret;exact⟨by rw [zkk.out];rfl,hx⟩
 ):P:=h
theorem yW07a4 {P:Prop}(h:P:=by
 go_roundw
 case rel=>exact⟨k+1,bs++[s[k]],oM,gM,by rw [List.length_append];simpa [bcl,zjn] using zkt,hst2,by rw [List.length_append];exact hl3,hext5⟩
 case measure=>simp [intOf];omega
 ):P:=h
theorem zdR (hw:zbg s=jU)(ha:a<=63) :
  j6 j3 60 #[s,a] w fun e w'=>e=j5 (.string (zbx s a))/\Ext w w':=by
 have m:=za (show (decide ((0:Int)<=a/\(a:Int)<=63))=jU by simp;omega);have x:=zbJ hw;have q:=za (fun k p=>zaU hw (k:=k) p);have r:=za hw;clear hw
 go_enter Tryz.func60,Tryz.ntmps60
 go_upto_region 3 with (first
  |(go_at_call 141;refine (zdz s _ oM).mono ?_;rw [r.out];rintro e w' ⟨rfl,rfl⟩)
  |(go_at_call 142;refine (zX _ _).mono ?_;rw [m.out];rintro e w' ⟨rfl,rfl⟩))
 go_upto_region 4 with fail
 have c:=own_u8_lit w;have j:=(cY w).alloc (.cells #[] 5);generalize hA0:(fU ⟨w.heap.size,0,fV⟩:Option Addr)=y at *;clear hA0;generalize w.alloc _=z at *;go_wp2_with fail
 go_loopw [5,6] (fun v i wr=>∃ (k:Nat) (bs:List UInt8),k<=s.size/\i=.int iX k/\wr.ownsRow w.heap.size 5 1 v bs.length (bcl bs)/\Hid (bs=zfU a (s.data.toList.take k))/\bs.length<=50000/\Ext w wr) (fun _ i _=>s.size - (intOf i).toNat)
 case atStart=>exact⟨0,[],dF _,rfl,c,rfl,sM,j⟩
 case round =>
  clear c j;obtain⟨k,bs,p,rfl,zkh,hbs,n,hx⟩:=hrel
  by_cases hlt:k<s.size
  ·have t:=q.out k hlt;obtain⟨l,g⟩:∃ l:Nat,Hid ((s[k].toNat:Int) - 97=l):=⟨s[k].toNat - 97,by unfold Hid;omega⟩;have f:=za (show hasB a (ltr s[k].toNat)=a.testBit l by
    unfold hasB ltr;have:=g.out;rw [if_neg oM,this]
    simp)
   have h:=za (ziO (a:=a) hlt);have u:=zhB s a (k+1);have d:Sm a:=tM;have o:=za (show s.data.toList[k]?=fU s[k] from zcu s k hlt);cases hb:a.testBit l
   ·have b:=za hb;have hst2:=za (show bs=zfU a (s.data.toList.take (k+1)) by rw [h.out,f.out,b.out,hbs.out];simp);clear hb;go_wp2_with (first
     |(go_at_call 144;refine (zbG s k hlt _).mono ?_;rw [g.out];rintro e w' ⟨rfl,rfl⟩)
     |(go_at_call 143;refine (zav a l d _ (oH g.out)).mono ?_;rw [b.out];rintro e w' ⟨rfl,rfl⟩))
    go_roundw
    case rel=>exact⟨k+1,bs,oM,gM,zkh,hst2,n,hx⟩
    case measure=>exact uM
   ·have b:=za hb;have hst2:=za (show bs++[s[k]]=zfU a (s.data.toList.take (k+1)) by rw [h.out,f.out,b.out,hbs.out];simp);have hl3:(bs++[s[k]]).length<=50000:=by rw [hst2.out];omega
    rw [dK,dU] at hl3;clear hb;go_wp2_with (first
     |(go_at_call 144;refine (zbG s k hlt _).mono ?_;rw [g.out];rintro e w' ⟨rfl,rfl⟩)
     |(go_at_call 143;refine (zav a l d _ (oH g.out)).mono ?_;rw [b.out];rintro e w' ⟨rfl,rfl⟩)
     |(at_builtin;refine zW w wr rfl _ _ _ rfl 5 _ 1 1 Tryz.underlying22 zjD rfl dM u5 _ _ _ _ rfl rfl hx zkh rfl (zjo _) lM oM ?_;intro v' w5 hext5 zkt hg5 hat5))
    exact yW07a4
  ·exact yW07a3
theorem zfS (hw:zbg s=jU)(ha:a<=63) :
  j6 j3 53 #[s,a] w fun e w'=>e=j5 (.string (zbx s a))/\Ext w w':=by
 have m:=zbJ hw;have h:=za (fun k g=>zaU hw (k:=k) g);clear hw;have c:Sm a:=tM
 go_enter Tryz.func53,Tryz.ntmps53
 go_wp2_with fail
 go_loopw [5,6,9] (fun v _ i wr=>∃ (k:Nat) (bs:List UInt8),k<=s.size/\i=.int iX k/\wr.ownsRow w.heap.size 5 1 v bs.length (bcl bs)/\Hid (bs=zfU a (s.data.toList.take k))/\bs.length<=50000/\Ext w wr) (fun _ _ i _=>s.size - (intOf i).toNat)
 case atStart=>exact⟨0,[],dF _,rfl,World.ownsRow_nil _ _ _ _,rfl,sM,cY _⟩
 case round =>
  obtain⟨k,bs,g,rfl,zkh,hbs,f,hx⟩:=hrel
  by_cases hlt:k<s.size
  ·have j:=h.out k hlt;have d:=za (ziO (a:=a) hlt);have l:=zhB s a (k+1);cases hb:hasB a (ltr s[k].toNat)
   ·have b:=za hb;have hst2:=za (show bs=zfU a (s.data.toList.take (k+1)) by rw [d.out,b.out,hbs.out];simp);clear hb;go_wp2_with (first
     |(go_at_call 121;refine (zcg s k hlt _).mono ?_;rintro e w' ⟨rfl,rfl⟩)
     |(go_at_call 127;refine (zcv a _ c _).mono ?_;rw [b.out];rintro e w' ⟨rfl,rfl⟩))
    go_roundw
    case rel=>exact⟨k+1,bs,oM,gM,zkh,hst2,f,hx⟩
    case measure=>exact uM
   ·have b:=za hb;have hst2:=za (show bs++[s[k]]=zfU a (s.data.toList.take (k+1)) by rw [d.out,b.out,hbs.out];simp);have hl3:(bs++[s[k]]).length<=50000:=by rw [hst2.out];omega
    rw [dK,dU] at hl3;clear hb;go_wp2_with (first
     |(go_at_call 121;refine (zcg s k hlt _).mono ?_;rintro e w' ⟨rfl,rfl⟩)
     |(go_at_call 127;refine (zcv a _ c _).mono ?_;rw [b.out];rintro e w' ⟨rfl,rfl⟩)
     |(at_builtin;refine zW w wr rfl _ _ _ rfl 5 _ 1 1 Tryz.underlying22 zjD rfl dM u5 _ _ _ _ rfl rfl hx zkh rfl (zjo _) lM oM ?_;intro v' w5 hext5 zkt hg5 hat5))
    exact yW07a4
  ·exact yW07a3
def runB (es:List Edg) (x:Nat) (ls:List Nat):Nat:=ls.foldl (fun m (l:Nat)=>zco es m (l:Int)) x
theorem runB_snoc (es:List Edg) (x:Nat) (ls:List Nat) (l:Nat):runB es x (ls++[l])=zco es (runB es x ls) (l:Int):=by simp [runB]
section
variable {lo hi n c:Nat}{A:Option Addr}{s:Sys}{t:ByteArray}{w:jX}
def aftB (s:Sys) (t:ByteArray):Nat:=if (zk s&&inB t s.al.toNat)=jU then runB s.edges 1 (wl t) else 0
end
theorem zeT (s:ByteArray) (a:Nat):(zbx s a).size<=s.size:=by
 have h:=zhB s a s.size;rw [dJ sM] at h;have e:(zbx s a).size=(zjn (zfU a s.data.toList)).length:=by unfold zbx;rw [strOfNums_size]
 rw [e,zjn,List.length_map];exact h
def topB (ss:List Sys) (t:ByteArray):Bool:=zE ss&&(inB t (zG ss)&&ss.all fun s=>aftB s (zbx t s.al.toNat) != 0)
def zfH (hd:Bool) (a:Aut) (s:ByteArray):Bool:=if hd then zj a&&s.toList.isEmpty else autNone a&&zbg s
def zal (p:Aut) (q:Nat) (ls:List Nat):Nat:=ls.foldl (aGo p) q
theorem zaN (p:Aut) (q:Nat) (ls:List Nat) (l:Nat):zal p q (ls++[l])=aGo p (zal p q ls) l:=by simp [zal]
theorem zeU (hv:Fit N p) (h:∀ l∈ls,l<6) (hq:q<p.next.length):zal p q ls<p.next.length:=by
 induction ls generalizing q with
 |nil=>exact hq
 |cons l r ih=>exact ih (fun x hx=>h x (eC _ hx)) (aGo_ltF hv hq (h l gD))
theorem zeh (hv:zj p=jU) (h:∀ l∈ls,l<6) (hq:q<p.next.length):zal p q ls<p.next.length:=zeU (fit_of hv) h hq
theorem zhK (p:Aut) (ls:List Nat) (q:Nat):zal p q (ls.filter fun l=>p.al.toNat.testBit l)=zal p q ls:=by
 induction ls generalizing q with
 |nil=>rfl
 |cons l r ih =>
  rw [List.filter_cons];show _=zal p (aGo p q l) r;cases hb:p.al.toNat.testBit l
  ·have e:aGo p q l=q:=by unfold aGo;rw [hb];rfl
   rw [e];simpa using ih q
  ·simp only [if_true];exact ih (aGo p q l)
theorem ziW (s:ByteArray) (a:Nat):(zbx s a).data.toList=zfU a s.data.toList:=by
 unfold zbx strOfNums zjn;simp only [List.map_map];refine (List.map_congr_left (g:=id) fun b _=>?_).trans (List.map_id _);simp
theorem zhj (h:zbg s=jU) (a:Nat):wl (zbx s a)=(wl s).filter fun l=>a.testBit l:=by
 unfold wl;rw [ziW];unfold zfU;have c:∀ b∈s.data.toList,97<=b.toNat/\b.toNat<=102:=by
  intro b c;obtain⟨i,g⟩:=dY c;have d:i<s.size:=by have:=(j9.1 g).1;simpa using this
  rw [zcu s i d] at g;obtain rfl:=j8 g;exact zaU h d
 generalize s.data.toList=L at c;clear h
 induction L with
 |nil=>rfl
 |cons b r f =>
  have j:=c b gD;have f:=f fun x hx=>c x (eC _ hx);have e:hasB a (ltr b.toNat)=a.testBit (b.toNat - 97):=by
   unfold hasB ltr;rw [if_neg oM,decide_eq_true oM,Bool.true_and]
   congr 1
   omega
  rw [List.filter_cons,fK,List.filter_cons,e];cases a.testBit (b.toNat - 97)
  ·simpa using f
  ·simp only [if_true,fK];rw [f]
theorem zcQ (h:zbg s=jU) (a:Nat):inB (zbx s a) a=jU:=by
 unfold inB zjJ;rw [ziW,dH,decide_eq_true_eq];refine⟨dL (zeT s a) (zbJ h),?_⟩;rw [eK];intro b hb;exact (List.mem_filter.1 hb).2
def breakB (p:Aut) (t:ByteArray):Bool:=zj p&&(zbg t&&!zat p (zal p 0 (wl t)))
section
variable {lo hi m d m' d':Nat}{B B':Option Addr}{p:Aut}{t:ByteArray}{w:jX}
theorem spec_l3Run (h:zJ w lo hi B m B' m' p)(hv:zj p=jU)(ht:zbg t=jU) :
  j6 j3 264 #[j2 #[p.al,fC B m d,fC B' m' d'],(0:Int),t] w fun e w'=>e=j5 (.int iX (zal p 0 (wl t):Nat))/\Ext w w':=by
 have D:=za (fun W (hW:Ext w W)=>h.ext hW);have H:=zbJ ht;have E:=za (fun k z=>zaU ht (k:=k) z);have G:=(zl hv).2.1;have F:=za hv;have g:=za (fun k=>zeh hv (ls:=(wl t).take k) (fun l f=>zkg ht l (List.mem_of_mem_take f)) (q:=0) oM);clear h hv ht
 go_enter Tryz.func264,Tryz.ntmps264
 go_upto_region 1 with fail
 generalize U0:w.alloc _=w1 at *;obtain⟨hw1,b1⟩:=gH U0;clear U0;go_wp2_with fail
 go_loopw [1,7] (fun v i wr=>∃ k x:Nat,i=.int iX k/\k<=t.size/\v=.int iX x/\Hid (x=zal p 0 ((wl t).take k))/\Ext w1 wr) (fun _ i _=>t.size - (intOf i).toNat)
 case atStart=>exact⟨0,0,rfl,dF _,rfl,rfl,cY _⟩
 case round =>
  obtain⟨k,x,rfl,z,rfl,c,a⟩:=hrel
  by_cases hlt:k<t.size
  ·have n:=E.out k hlt;obtain⟨l,f⟩:∃ l:Nat,Hid ((t[k].toNat:Int) - 97=l):=⟨t[k].toNat - 97,by unfold Hid;omega⟩;have o:l<6:=oH f.out;have r:=za (show aGo p x l=zal p 0 ((wl t).take (k+1)) by
    rw [dN,zet hlt,eG,zaN,<- c.out]
    congr 1
    have:=f.out;omega)
   have u:x<p.next.length:=by rw [c.out];exact g.out k
   have C:=za (fun W (hW:Ext w1 W)=>zdT (d:=d) (d':=d') (D.out W (hw1.trans hW)) F.out u o);generalize aGo p x l=y at *;have c1:∀ W,Ext wr W->∀ j,W.cell? ⟨w.heap.size,j,fV⟩=#[Value.int iX p.al,fC B m d,fC B' m' d'][j]?:=fun W hW=>(b1.ext (a.trans hW)).cell;have b:=cY wr;clear n;go_upto_region 4 with fail
   refine uR (fun X=>Ext wr X) [5] (zy.of [0,1,2,3,4,5,6]) ?_;refine uQ ?_;refine ze fun K hK=>?_;go_simp;refine (zbG t k hlt _).mono ?_;rw [f.out];rintro e w' ⟨rfl,rfl⟩;refine hK.out _ _ b.drew ?_;refine pT ?_;refine zb fun K hK=>?_;go_simp;refine (C.out _ (a.trans b.drew)).mono (mQ fun w5 hx5=>?_);refine hK.out _ _ ?_;refine pT ?_;refine uQ ?_;refine zg ?_;have s:=a.trans (b.drew.trans hx5);go_wp2_with fail
   go_roundw
   case rel=>exact⟨k+1,y,gM,oM,rfl,r,s⟩
   case measure=>exact uM
  ·obtain rfl:k=t.size:=oM;have zkk:=za (show x=zal p 0 (wl t) by rw [c.out,dJ (by rw [zfl];exact dD _)]);go_wp2;go_ret;exact⟨zaa (by rw [zkk.out]),hw1.trans a⟩
end
theorem iface_neg (s t:Sys) (p:Aut):iface s p t<0↔(zk s&&(zj p&&zk t))=j1:=by
 unfold iface;cases h:(zk s&&(zj p&&zk t))
 ·simp
 ·simp
theorem pnx_mod (ms:List Mem) (x l:Nat):pnx ms x l=pnx ms (x % zH ms) l:=by
 induction ms generalizing x with
 |nil=>rfl
 |cons m r ih =>
  rw [zdO];unfold pnx;have a:x % (m.1*zH r) / zH r % m.1=x / zH r % m.1:=by
   rw [fI,jL,Nat.mod_mod]
  have b:pnx r (x % (m.1*zH r)) l=pnx r x l:=by
   rw [ih (x % (m.1*zH r)),Nat.mod_mul_left_mod,<- ih x]
  rw [a,b]
theorem goes_lt {ms:List Mem}(hm:∀ m∈ms,zeu m) (hv:∀ l∈v,l<6) (h:zbt (pnx ms) [0] v x):x<zH ms:=by
 rcases zZ v with rfl|⟨u,l,rfl⟩
 ·have:=h.ah;have h1:=zga hm;simp at this;omega
 ·obtain⟨n,_,hx⟩:=h.inv;exact ziU hm (hv l sM) x hx
theorem mem_lt {m:Mem}(hm:zeu m) (hv:∀ l∈v,l<6) (h:zbt m.2 [0] v q):q<m.1:=by
 have a:∀ n (v:List Nat),v.length=n->(∀ l∈v,l<6)->∀ q,zbt m.2 [0] v q->q<m.1:=by
  intro n
  induction n with
  |zero =>
   intro v hl _ q h;obtain rfl:=dP hl;have:=h.ah;have:=hm.1;simp at *;omega
  |succ n ih =>
   intro v hl hv q h;rcases zZ v with rfl|⟨u,l,rfl⟩
   ·simp at hl
   ·obtain⟨b,h1,h2⟩:=h.inv;exact hm.2 b l (ih u (by simpa using hl) (fun k hk=>hv k (by simp [hk])) b h1) (hv l sM) q h2
 exact a _ v rfl hv q h
theorem zfM {m:Mem}{r:List Mem}(hm:zeu m)(hr:∀ m∈r,zeu m):∀ (n:Nat) (v:List Nat),v.length=n->(∀ l∈v,l<6)->∀ x,zbt (pnx (m :: r)) [0] v x↔∃ q y,x=q*zH r+y/\zbt m.2 [0] v q/\zbt (pnx r) [0] v y:=by
 intro n
 induction n with
 |zero =>
  intro v hl _ x;obtain rfl:=dP hl;constructor
  ·intro h;have:=h.ah;simp at this;subst this;exact⟨0,0,sM,.nil sM,.nil sM⟩
  ·rintro ⟨q,y,rfl,h1,h2⟩;have h1:=h1.ah;have h2:=h2.ah;simp at h1 h2;subst h1;subst h2;exact .nil sM
 |succ n d =>
  intro v hl hv x;rcases zZ v with rfl|⟨u,l,rfl⟩
  ·simp at hl
  have g:∀ k∈u,k<6:=fun k hk=>hv k (by simp [hk]);have s:l<6:=hv l sM;have d:=d u (by simpa using hl) g;have C:=zga hr;have a:∀ q y,zbt m.2 [0] u q->zbt (pnx r) [0] u y->pnx (m :: r) (q*zH r+y) l=(m.2 q l).flatMap fun b=>(pnx r y l).map fun c=>b*zH r+c:=by
   intro q y h1 h2;have t:=mem_lt hm g h1;have z:=goes_lt hr g h2;show (m.2 ((q*zH r+y) / zH r % m.1) l).flatMap (fun b=>(pnx r (q*zH r+y) l).map fun c=>b*zH r+c)=_;have j:(q*zH r+y) / zH r % m.1=q:=by
    rw [fI,Nat.mul_add_div oM,iZ z,Nat.add_zero,iH t]
   have o:pnx r (q*zH r+y) l=pnx r y l:=by
    rw [pnx_mod r (q*zH r+y),fI,Nat.mul_add_mod,<- pnx_mod]
   rw [j,o]
  constructor
  ·intro h;obtain⟨B,h1,h2⟩:=h.inv;obtain⟨q,y,rfl,h3,h4⟩:=(d B).1 h1;rw [a q y h3 h4] at h2;simp only [List.mem_flatMap,List.mem_map] at h2;obtain⟨b,f,c,i,rfl⟩:=h2;exact⟨b,c,rfl,.snoc h3 f,.snoc h4 i⟩
  ·rintro ⟨b,c,rfl,h1,h2⟩;obtain⟨q,h3,h4⟩:=h1.inv;obtain⟨y,h5,p⟩:=h2.inv;refine .snoc ((d (q*zH r+y)).2 ⟨q,y,rfl,h3,h5⟩) ?_;rw [a q y h3 h5];simp only [List.mem_flatMap,List.mem_map];exact⟨b,h4,c,p,rfl⟩
def zji (s:Sys) (v:List Nat):Prop:=∃ q,zbt (cho s) [0] v q
theorem zha (a:Aut) (v:List Nat) (q:Nat):zbt (zbz a).2 [0] v q↔q=zal a 0 v:=by
 have c:∀ n (v:List Nat),v.length=n->∀ q,zbt (zbz a).2 [0] v q↔q=zal a 0 v:=by
  intro n
  induction n with
  |zero =>
   intro v hl q;obtain rfl:=dP hl;constructor
   ·intro h;have:=h.ah;simp at this;subst this;rfl
   ·rintro rfl;exact .nil (by simp [zal])
  |succ n b =>
   intro v hl q;rcases zZ v with rfl|⟨u,l,rfl⟩
   ·simp at hl
   rw [zaN];have b:=b u (by simpa using hl);constructor
   ·intro h;obtain⟨d,h1,h2⟩:=h.inv;rw [(b d).1 h1] at h2;simpa [zbz] using h2
   ·rintro rfl;exact .snoc ((b _).2 rfl) (by simp [zbz])
 exact c _ v rfl q
theorem goes_nil (v:List Nat) (y:Nat):zbt (pnx []) [0] v y↔y=0:=by
 have b:∀ n (v:List Nat),v.length=n->∀ y,zbt (pnx []) [0] v y↔y=0:=by
  intro n
  induction n with
  |zero =>
   intro v hl y;obtain rfl:=dP hl;exact⟨fun h=>by simpa using h.ah,fun h=>.nil (by simp [h])⟩
  |succ n a =>
   intro v hl y;rcases zZ v with rfl|⟨u,l,rfl⟩
   ·simp at hl
   have a:=a u (by simpa using hl);constructor
   ·intro h;obtain⟨c,h1,h2⟩:=h.inv;simpa [pnx] using h2
   ·rintro rfl;exact .snoc ((a 0).2 rfl) (by simp [pnx])
 exact b _ v rfl y
theorem zhb {a:Aut}(ha:zj a=jU)(hp:zj p=jU) (hv:∀ l∈v,l<6) (y:Nat):zbt (pnx [zbz a,zbz p]) [0] v y↔y=zal a 0 v*p.next.length+zal p 0 v:=by
 have b:∀ m∈[zbz p],zeu m:=by simp;exact zbA hp
 have c:zH [zbz p]=p.next.length:=by simp [zH,zaz,zbz]
 have h1:∀ z,zbt (pnx [zbz p]) [0] v z↔z=zal p 0 v:=by
  intro z;rw [zfM (zbA hp) sM _ v rfl hv];constructor
  ·rintro ⟨q,y,rfl,h1,h2⟩;rw [(goes_nil v y).1 h2,(zha p v q).1 h1];simp [zH,zaz]
  ·rintro rfl;exact⟨zal p 0 v,0,by simp [zH,zaz],(zha p v _).2 rfl,(goes_nil v 0).2 rfl⟩
 rw [zfM (zbA ha) b _ v rfl hv,c];constructor
 ·rintro ⟨q,y,rfl,h2,h3⟩;rw [(zha a v q).1 h2,(h1 y).1 h3]
 ·rintro rfl;exact⟨_,_,rfl,(zha a v _).2 rfl,(h1 _).2 rfl⟩
theorem ziK {T:List Mem}(hT:∀ m∈T,zeu m) (hv:∀ l∈v,l<6) (g:Nat->Prop):∀ {ss:List Sys},(∀ s∈ss,zeu (zdY s))->((∃ x,zbt (pnx (ss.map zdY++T)) [0] v x/\g (x % zH T))↔(∀ s∈ss,zji s v)/\∃ y,zbt (pnx T) [0] v y/\g y):=by
 intro ss
 induction ss with
 |nil =>
  intro _;simp only [List.map_nil,eI,List.not_mem_nil,false_implies,implies_true,true_and];constructor
  ·rintro ⟨x,h,c⟩;rw [iH (goes_lt hT hv h)] at c;exact⟨x,h,c⟩
  ·rintro ⟨x,h,c⟩;exact⟨x,h,by rwa [iH (goes_lt hT hv h)]⟩
 |cons s r i =>
  intro hs;have d:=hs s gD;have f:=fun t a=>hs t (eC _ a);have i:=i f;have hr:∀ m∈r.map zdY++T,zeu m:=by
   intro m hm;rcases kD.1 hm with h|h
   ·obtain⟨t,a,rfl⟩:=kC.1 h;exact f t a
   ·exact hT m h
  have b:∀ q y,(q*zH (r.map zdY++T)+y) % zH T=y % zH T:=by
   intro q y;rw [zbX,<- Nat.mul_assoc,fI,Nat.mul_add_mod]
  rw [fK,List.cons_append];constructor
  ·rintro ⟨x,h,c⟩;obtain⟨q,y,rfl,h1,h2⟩:=(zfM d hr _ v rfl hv x).1 h;rw [b] at c;obtain⟨h3,h4⟩:=i.1 ⟨y,h2,c⟩;refine⟨fun t a=>?_,h4⟩;rcases List.mem_cons.1 a with rfl|a
   ·exact⟨q,h1⟩
   ·exact h3 t a
  ·rintro ⟨h1,h2⟩;obtain⟨y,h3,h4⟩:=i.2 ⟨fun t a=>h1 t (eC _ a),h2⟩;obtain⟨q,j⟩:=h1 s gD;exact⟨q*zH (r.map zdY++T)+y,(zfM d hr _ v rfl hv _).2 ⟨q,y,rfl,j,h3⟩,by rwa [b]⟩
def zfA (ss:List Sys) (a p:Aut) (v:List Nat):Prop:=(∀ s∈ss,zji s v)/\zat a (zal a 0 v)=jU/\zat p (zal p 0 v)=j1
theorem zkd {ss:List Sys}{a:Aut}(hss:∀ s∈ss,zk s=jU)(ha:zj a=jU)(hp:zj p=jU) :
  zkc ss a p=jU↔∃ v,(∀ l∈v,l∈letters (zG ss|||a.al.toNat) 6)/\zfA ss a p v:=by
 have k:∀ s∈ss,zeu (zdY s):=fun s hs=>zeD (zcj (hss s hs));have u:∀ m∈[zbz a,zbz p],zeu m:=by simp;exact⟨zbA ha,zbA hp⟩
 have t:zH [zbz a,zbz p]=a.next.length*p.next.length:=by simp [zH,zaz,zbz]
 have B:=(zl ha).2.1;have C:=(zl hp).2.1;have c:∀ x,zbO a p x=zbO a p (x % zH [zbz a,zbz p]):=by
  intro x;unfold zbO;rw [t,Nat.mod_mul_left_mod,fI,jL,Nat.mod_mod]
 have i:∀ v,(∀ l∈v,l<6)->((∃ x,zbt (zce ss a p) [0] v x/\zbO a p x=jU)↔zfA ss a p v):=by
  intro v d;rw [zdj];have h1:=ziK u d (fun y=>zbO a p y=jU) k;have h2:(∃ x,zbt (pnx (zbh ss [a,p])) [0] v x/\zbO a p x=jU)↔(∃ x,zbt (pnx (ss.map zdY++[zbz a,zbz p])) [0] v x/\zbO a p (x % zH [zbz a,zbz p])=jU):=by
   constructor
   ·rintro ⟨x,h,b⟩;exact⟨x,h,by rw [<- c];exact b⟩
   ·rintro ⟨x,h,b⟩;exact⟨x,h,by rw [c];exact b⟩
  rw [h2,h1];unfold zfA;refine and_congr_right fun _=>?_;have j:=zeh ha d (q:=0) oM;have g:=zeh hp d (q:=0) oM;have n:(zal a 0 v*p.next.length+zal p 0 v) / p.next.length % a.next.length=zal a 0 v:=by
   rw [fI,Nat.mul_add_div oM,iZ g,Nat.add_zero,iH j]
  have o:(zal a 0 v*p.next.length+zal p 0 v) % p.next.length=zal p 0 v:=by
   rw [fI,Nat.mul_add_mod,iH g]
  constructor
  ·rintro ⟨y,z,b⟩;rw [(zhb ha hp d y).1 z] at b;unfold zbO at b;rw [n,o] at b;simpa using b
  ·intro b;refine⟨_,(zhb ha hp d _).2 rfl,?_⟩;unfold zbO;rw [n,o];simpa using b
 unfold zkc lostB;rw [gG,@decide_eq_false_iff_not _ (Classical.propDecidable _)];constructor
 ·intro hn;apply Classical.byContradiction;intro hno;refine hn fun v d x hx=>?_;cases hb:zbO a p x
  ·rfl
  ·exact absurd ⟨v,d,(i v (fun l f=>zcq _ l (d l f))).1 ⟨x,hx,hb⟩⟩ hno
 ·rintro ⟨v,d,r⟩ f;obtain⟨x,hx,b⟩:=(i v (fun l f=>zcq _ l (d l f))).2 r;have:=f v d x hx;rw [b] at this;cases this
def hidL (s:Sys) (A l:Nat):Prop:=l<6/\s.al.toNat.testBit l=jU/\A.testBit l=j1
inductive Cl (s:Sys) (p:Aut) (A:Nat) (B:Nat->Nat->Prop):Nat->Nat->Prop
 |base {q i:Nat} (h:B q i):Cl s p A B q i
 |hid {q i l q':Nat} (h:Cl s p A B q i) (hl:hidL s A l) (hq:q'∈cho s q l):Cl s p A B q' (aGo p i l)
def mvB (s:Sys) (p:Aut) (l:Nat) (B:Nat->Nat->Prop):Nat->Nat->Prop:=fun q' j=>∃ q i,B q i/\q'∈cho s q l/\j=aGo p i l
def prR (s:Sys) (p:Aut) (A:Nat):List Nat->Nat->Nat->Prop
 |[]=>Cl s p A (fun q i=>q=0/\i=0)
 |l :: r=>Cl s p A (mvB s p l (prR s p A r))
def PR (s:Sys) (p:Aut) (A:Nat) (v:List Nat):Nat->Nat->Prop:=prR s p A v.reverse
theorem PR_nil (s:Sys) (p:Aut) (A:Nat):PR s p A []=Cl s p A (fun q i=>q=0/\i=0):=rfl
theorem PR_snoc (s:Sys) (p:Aut) (A:Nat) (v:List Nat) (l:Nat):PR s p A (v++[l])=Cl s p A (mvB s p l (PR s p A v)):=by
 unfold PR;rw [List.reverse_append];rfl
def Bad (s:Sys) (p:Aut) (A:Nat) (v:List Nat):Prop:=∃ q i,PR s p A v q i/\zat p i=j1
def SafeW (s:Sys) (p:Aut) (A:Nat) (v:List Nat):Prop:=∀ k,k<=v.length->¬ Bad s p A (v.take k)
theorem zgf {s:Sys}(hs:Sml s) (hb:s.al.toNat.testBit l=jU) (set q':Nat):(zco s.edges set (l:Int)).testBit q'=jU↔∃ q,set.testBit q=jU/\q'∈cho s q l:=by
 obtain⟨h1,h2,d,-⟩:=hs;rw [zdU];constructor
 ·rintro ⟨e,a,⟨h3,h4⟩,rfl⟩;obtain⟨f,g,h⟩:=d e a;refine⟨e.fr.toNat,h4,?_⟩;unfold cho;rw [if_pos hb,zC];refine⟨oM,(zeo _ _ _ _).2 ⟨e,a,?_,rfl⟩⟩;exact⟨oM,h3⟩
 ·rintro ⟨q,h3,h4⟩;unfold cho at h4;rw [if_pos hb,zC] at h4;obtain⟨e,a,⟨h5,b⟩,c⟩:=(zeo _ _ _ _).1 h4.2;exact⟨e,a,⟨b,by rw [h5];simpa using h3⟩,c⟩
theorem zeW {s:Sys}(hs:Sml s) (x:Nat) (l:Int):zco s.edges x l<65536:=by
 have h1:=stepB_lt hs.2.2.1 x l;have h2:(2:Nat) ^ s.st.toNat<=2 ^ 16:=eD oM (oH hs.2.1);exact eB h1 h2
def zdx (T:List Nat) (i q:Nat):Prop:=(T.getD i 0).testBit q=jU
theorem zho (h:zdx T i q):i<T.length:=by
 rcases Nat.lt_or_ge i T.length with h1|h1
 ·exact h1
 ·unfold zdx at h;rw [dE,dV h1] at h;simp at h
theorem zcN (hj:j<T.length) (x i q:Nat):zdx (T.set j (T.getD j 0|||x)) i q↔zdx T i q\/(i=j/\x.testBit q=jU):=by
 unfold zdx
 by_cases h:j=i
 ·subst h;rw [dE,eX hj,eL,fX,fM];simp
 ·rw [dE,fQ h,<- dE];constructor
  ·exact .inl
  ·rintro (h1|⟨h1,-⟩)
   ·exact h1
   ·exact absurd h1.symm h
def zaP (T:List Nat) (n:Nat) (B:Nat->Nat->Prop):Prop:=T.length=n/\(∀ x∈T,x<65536)/\∀ i q,zdx T i q↔B q i
structure ClI (s:Sys) (p:Aut) (A:Nat) (B:Nat->Nat->Prop) (n:Nat) (T:List Nat):Prop where
 len:T.length=n
 lt:∀ x∈T,x<65536
 base:∀ q i,B q i->zdx T i q
 sub:∀ i q,zdx T i q->Cl s p A B q i
def zeM (s:Sys) (p:Aut) (T:List Nat) (i l:Nat):Prop:=∀ q,zdx T i q->∀ q'∈cho s q l,zdx T (aGo p i l) q'
section
variable {s:Sys}{p:Aut}{A n:Nat}{B:Nat->Nat->Prop}{T:List Nat}
theorem zaP.clI (h:zaP T n B):ClI s p A B n T:=⟨h.1,h.2.1,fun q i hb=>(h.2.2 i q).2 hb,fun i q hb=>.base ((h.2.2 i q).1 hb)⟩
theorem zbC (h:∀ x∈T,x<65536) (i:Nat):T.getD i 0<65536:=by
 rw [dE];cases h1:T[i]? with
 |none=>simp
 |some x=>exact h x (dC h1)
theorem ClI.step (h:ClI s p A B n T)(hs:Sml s)(hp:zj p=jU)(hn:n=p.next.length) (hi:i<n)(hl:hidL s A l) :
  ClI s p A B n (T.set (aGo p i l) (T.getD (aGo p i l) 0|||zco s.edges (T.getD i 0) (l:Int))):=by
 have b:aGo p i l<T.length:=by rw [h.len,hn];exact zdE hp oM hl.1
 refine⟨by rw [e9];exact h.len,fun x hx=>?_,fun q i' hb=>(zcN b _ _ _).2 (.inl (h.base q i' hb)),fun i' q hb=>?_⟩
 ·rcases e7 hx with hx|rfl
  ·exact h.lt x hx
  ·exact eP (n:=16) (zbC h.lt _) (eB (stepB_lt hs.2.2.1 _ _) (eD oM (oH hs.2.1)))
 ·rcases (zcN b _ _ _).1 hb with a|⟨rfl,a⟩
  ·exact h.sub _ _ a
  ·obtain⟨c,h1,h2⟩:=(zgf hs hl.2.1 _ _).1 a;exact .hid (h.sub _ _ h1) hl h2
theorem closedAt_of (hs:Sml s) (hl:hidL s A l)(he:T.getD (aGo p i l) 0|||zco s.edges (T.getD i 0) (l:Int)=T.getD (aGo p i l) 0):zeM s p T i l:=by
 intro q hq q' hq';unfold zdx;rw [<- he,fX,(zgf hs hl.2.1 _ _).2 ⟨q,hq,hq'⟩,Bool.or_true]
theorem ClI.fin (h:ClI s p A B n T)(hc:∀ i l,i<n->hidL s A l->zeM s p T i l):zaP T n (Cl s p A B):=by
 refine⟨h.len,h.lt,fun i q=>⟨h.sub i q,fun hb=>?_⟩⟩
 induction hb with
 |base hb=>exact h.base _ _ hb
 |hid _ hl hq ih=>exact hc _ _ (by rw [<- h.len];exact zho ih) hl _ ih _ hq
end
def room:List Nat->Nat
 |[]=>0
 |x :: r=>(65536 - x)+room r
theorem room_set:∀ (T:List Nat) (j x:Nat),(T.getD j 0|||x)<65536->room (T.set j (T.getD j 0|||x))<=room T/\(j<T.length->T.getD j 0|||x≠T.getD j 0->room (T.set j (T.getD j 0|||x))<room T)
 |[],j,x,_=>by simp [room]
 |a :: r,0,x,h=>by
  simp only [List.getD_cons_zero,List.set_cons_zero,room] at h ⊢
  have h1:a<=a|||x:=Nat.left_le_or
  refine⟨oM,fun _ h2=>oM⟩
 |a :: r,j+1,x,h=>by
  simp only [List.getD_cons_succ,List.set_cons_succ,room,List.length_cons] at h ⊢
  obtain⟨h1,h2⟩:=room_set r j x h
  refine⟨oM,fun h3 h4=>by have:=h2 oM h4;omega⟩
theorem sub_bit (ha:a<64)(hb:b<64) (l:Nat):l∈letters (a - (a&&&b)) 6↔l<6/\a.testBit l=jU/\b.testBit l=j1:=by
 rw [zC];refine and_congr_right fun hl=>?_;have c:∀ a<64,∀ b<64,∀ l<6,((a - (a&&&b)).testBit l=jU↔a.testBit l=jU/\b.testBit l=j1):=by decide +kernel
 exact c a ha b hb l hl
theorem stand_bad {s:Sys}(h:zaP T n (PR s p A v)):Bad s p A v↔∃ i,i<n/\T.getD i 0≠0/\zat p i=j1:=by
 constructor
 ·rintro ⟨q,i,h1,h2⟩;have a:=(h.2.2 i q).2 h1;refine⟨i,by rw [<- h.1];exact zho a,fun e=>?_,h2⟩;unfold zdx at a;rw [e] at a;simp at a
 ·rintro ⟨i,c,h1,h2⟩;obtain⟨q,b⟩:=Nat.exists_testBit_of_ne_zero h1;exact⟨q,i,(h.2.2 i q).1 b,h2⟩
theorem zia (hn:1<=n):zaP ((dS n 0).set 0 1) n (fun q i=>q=0/\i=0):=by
 refine⟨sM,fun x hx=>?_,fun i q=>?_⟩
 ·rcases e7 hx with hx|rfl
  ·rw [iR] at hx;omega
  ·omega
 ·unfold zdx;rw [dE]
  by_cases h:i=0
  ·subst h;rw [eX (by rw [List.length_replicate];omega),eL];constructor
   ·intro h;exact⟨by cases q with|zero=>rfl|succ q=>simp [Nat.testBit_succ] at h,rfl⟩
   ·rintro ⟨rfl,-⟩;rfl
  ·rw [fQ oM];constructor
   ·intro h;cases h1:(dS n 0)[i]? with
    |none=>rw [h1] at h;simp at h
    |some x =>
     have:=dC h1;rw [iR] at this;rw [h1,this.2] at h;simp at h
   ·rintro ⟨_,h1⟩;exact absurd h1 h
def MvP (s:Sys) (p:Aut) (l:Nat) (T:List Nat) (k:Nat) (U:List Nat):Prop:=
 U.length=12/\(∀ x∈U,x<65536)/\∀ j q',zdx U j q'↔∃ i q,i<k/\zdx T i q/\q'∈cho s q l/\j=aGo p i l
def goS (s:Sys) (l x:Nat):Nat:=if s.al.toNat.testBit l=jU then zco s.edges x (l:Int) else x
section
variable {s:Sys}{p:Aut}{l k n:Nat}{T U:List Nat}{B:Nat->Nat->Prop}
theorem goS_bit (hs:Sml s) (x q':Nat):(goS s l x).testBit q'=jU↔∃ q,x.testBit q=jU/\q'∈cho s q l:=by
 unfold goS
 by_cases hb:s.al.toNat.testBit l=jU
 ·rw [if_pos hb];exact zgf hs hb x q'
 ·rw [if_neg hb];constructor
  ·intro h;refine⟨q',h,?_⟩;unfold cho;rw [if_neg hb];simp
  ·rintro ⟨q,h1,h2⟩;unfold cho at h2;rw [if_neg hb] at h2;obtain rfl:q'=q:=by simpa using h2
   exact h1
theorem goS_lt (hs:Sml s) (hx:x<65536):goS s l x<65536:=by
 unfold goS;split
 ·exact zeW hs _ _
 ·exact hx
theorem zero_bit (n i q:Nat):¬ zdx (dS n 0) i q:=by
 unfold zdx;rw [dE];cases h:(dS n 0)[i]? with
 |none=>simp
 |some x =>
  have:=dC h;rw [iR] at this;simp [this.2]
theorem MvP.zero:MvP s p l T 0 (dS 12 0):=by
 refine⟨sM,fun x hx=>by rw [iR] at hx;omega,fun j q'=>⟨fun h=>absurd h (zero_bit _ _ _),?_⟩⟩;rintro ⟨i,q,h,-⟩;omega
theorem MvP.skip (h:MvP s p l T k U)(h0:T.getD k 0=0):MvP s p l T (k+1) U:=by
 refine⟨h.1,h.2.1,fun j q'=>⟨fun hb=>?_,?_⟩⟩
 ·obtain⟨i,q,h1,h2⟩:=(h.2.2 j q').1 hb;exact⟨i,q,oM,h2⟩
 ·rintro ⟨i,q,h1,h2,h3⟩;rcases dX (eF h1) with h4|rfl
  ·exact (h.2.2 j q').2 ⟨i,q,h4,h2,h3⟩
  ·unfold zdx at h2;rw [h0] at h2;simp at h2
theorem yW07a5 {P:Prop}(h:P:=by
 rintro ⟨i,q,h1,h2,h3,h4⟩;rcases Nat.lt_or_eq_of_le (Nat.le_of_lt_succ h1) with h5|rfl
 ·exact .inl ⟨i,q,h5,h2,h3,h4⟩
 ·exact .inr ⟨h4,q,h2,h3⟩
 ):P:=h
theorem MvP.step (h:MvP s p l T k U)(hs:Sml s)(hT:∀ x∈T,x<65536)(hj:aGo p k l<12):MvP s p l T (k+1) (U.set (aGo p k l) (U.getD (aGo p k l) 0|||goS s l (T.getD k 0))):=by
 have a:aGo p k l<U.length:=by rw [h.1];exact hj
 refine⟨by rw [e9];exact h.1,fun x hx=>?_,fun j q'=>?_⟩
 ·rcases e7 hx with hx|rfl
  ·exact h.2.1 x hx
  ·exact eP (n:=16) (zbC h.2.1 _) (goS_lt hs (zbC hT _))
 ·rw [zcN a,h.2.2 j q',goS_bit hs];constructor
  ·rintro (⟨i,q,h1,h2⟩|⟨rfl,q,h1,h2⟩)
   ·exact⟨i,q,oM,h2⟩
   ·exact⟨k,q,oM,h1,h2,rfl⟩
  ·exact yW07a5
theorem MvP.fin (h:MvP s p l T 12 U)(hT:zaP T 12 B):zaP U 12 (mvB s p l B):=by
 refine⟨h.1,h.2.1,fun j q'=>?_⟩;rw [h.2.2 j q'];constructor
 ·rintro ⟨i,q,-,h2,h3,h4⟩;exact⟨q,i,(hT.2.2 i q).1 h2,h3,h4⟩
 ·rintro ⟨q,i,h2,h3,h4⟩;have a:=(hT.2.2 i q).2 h2;exact⟨i,q,by rw [<- hT.1];exact zho a,a,h3,h4⟩
def Has (M V:List Nat) (k:Nat):Prop:=∀ i q,i<k->zdx V i q->zdx M i q
theorem Has.zero (M V:List Nat):Has M V 0:=fun i q h=>oM
theorem Has.all (h:Has M V 12)(hV:V.length=12) (i q:Nat)(hb:zdx V i q):zdx M i q:=h i q (by rw [<- hV];exact zho hb) hb
theorem Has.set (h:Has M V n) (hj:j<M.length):Has (M.set j (M.getD j 0|||x)) V n:=fun i q hi hb=>(zcN hj _ _ _).2 (.inl (h i q hi hb))
theorem Has.step (h:Has M V k)(hk:k<M.length):Has (M.set k (M.getD k 0|||V.getD k 0)) V (k+1):=fun i q hi hb=>by
 rw [zcN hk]
 rcases dX (eF hi) with h4|rfl
 ·exact .inl (h i q h4 hb)
 ·exact .inr ⟨rfl,hb⟩
variable {A:Nat}
theorem ClI.join (h:ClI s p A B 12 M)(hT:ClI s p A B 12 T)(hV:MvP s p l T 12 V)(hl:hidL s A l)(hk:k<12):ClI s p A B 12 (M.set k (M.getD k 0|||V.getD k 0)):=by
 have b:k<M.length:=by rw [h.len];exact hk
 refine⟨by rw [e9];exact h.len,fun x hx=>?_,fun q i a=>(zcN b _ _ _).2 (.inl (h.base q i a)),fun i q a=>?_⟩
 ·rcases e7 hx with hx|rfl
  ·exact h.lt x hx
  ·exact eP (n:=16) (zbC h.lt _) (zbC hV.2.1 _)
 ·rcases (zcN b _ _ _).1 a with a|⟨rfl,a⟩
  ·exact h.sub i q a
  ·obtain⟨c,d,-,h2,h3,rfl⟩:=(hV.2.2 i q).1 a;exact .hid (hT.sub c d h2) hl h3
theorem ClI.stop (hT:ClI s p A B 12 T)(h:∀ l,hidL s A l->∃ V,MvP s p l T 12 V/\Has T V 12):zaP T 12 (Cl s p A B):=
 hT.fin fun i l hi hl q hq q' hq'=>by
  obtain⟨V,hV,hh⟩:=h l hl
  exact hh.all hV.1 _ _ ((hV.2.2 _ _).2 ⟨i,q,hi,hq,hq',rfl⟩)
end
theorem bits_le (h:∀ q,a.testBit q=jU->b.testBit q=jU):a<=b:=by
 have:a|||b=b:=fH fun q=>by
  rw [fX];cases ha:a.testBit q
  ·simp
  ·rw [h q ha];simp
 rw [<- this];exact Nat.left_le_or
theorem room_le:∀ {T M:List Nat},T.length=M.length->(∀ x∈M,x<65536)->(∀ i,T.getD i 0<=M.getD i 0)->room M<=room T/\(T≠M->room M<room T)
 |[],[],_,_,_=>⟨dD _,fun h=>absurd rfl h⟩
 |[],_ :: _,h,_,_=>by simp at h
 |_ :: _,[],h,_,_=>by simp at h
 |a :: r,b :: t,h,hM,hle=>by
  have h0:a<=b:=by simpa using hle 0
  have c:=hM b sM;obtain⟨h1,h2⟩:=room_le (T:=r) (M:=t) (by simpa using h) (fun x hx=>hM x (by simp [hx])) (fun i=>by simpa using hle (i+1));refine⟨by simp only [room];omega,fun hne=>?_⟩;simp only [room]
  by_cases e:a=b
  ·subst e;have:=h2 (fun e2=>hne (by rw [e2]));omega
  ·omega
theorem room_grow (h1:T.length=M.length)(hM:∀ x∈M,x<65536)(h:∀ i q,zdx T i q->zdx M i q)(hne:T≠M):room M<room T:=
 (room_le h1 hM (fun i=>bits_le (fun q hq=>h i q hq))).2 hne
def bq (T:List Nat):Nat->Nat->Prop:=fun q i=>zdx T i q
theorem zaP.eq {B:Nat->Nat->Prop}(h:zaP T n B):bq T=B:=funext fun q=>funext fun i=>propext (h.2.2 i q)
structure WS (p:Aut) (T:List Nat):Prop where
 len:T.length=12
 lt:∀ x∈T,x<65536
 row:∀ i q,zdx T i q->i<p.next.length
theorem WS.stand (h:WS p T):zaP T 12 (bq T):=⟨h.len,h.lt,fun _ _=>Iff.rfl⟩
theorem WS.idx (h:WS p T) (h0:T.getD i 0≠0):i<p.next.length:=by
 obtain⟨q,a⟩:=Nat.exists_testBit_of_ne_zero h0;exact h.row i q a
def zgm (p:Aut) (T:List Nat):Nat->Bool
 |0=>j1
 |k+1=>zgm p T k || (T.getD k 0 != 0&&!zat p k)
def zgY (p:Aut) (T:List Nat):Bool:=zgm p T 12
theorem badSN_iff (p:Aut) (T:List Nat):∀ k,zgm p T k=jU↔∃ i,i<k/\T.getD i 0≠0/\zat p i=j1
 |0=>⟨fun h=>(by cases h),fun ⟨i,h,_⟩=>oM⟩
 |k+1=>by
  unfold zgm
  rw [fM,badSN_iff p T k]
  constructor
  ·rintro (⟨i,h1,h2⟩|h)
   ·exact⟨i,oM,h2⟩
   ·refine⟨k,oM,?_⟩
    simpa using h
  ·rintro ⟨i,h1,h2,h3⟩
   rcases dX (eF h1) with h4|rfl
   ·exact .inl ⟨i,h4,h2,h3⟩
   ·exact .inr (by simp only [h3,Bool.not_false,Bool.and_true];simpa using h2)
theorem zfF {s:Sys}(h:zaP T 12 (PR s p A v)):zgY p T=jU↔Bad s p A v:=by
 rw [stand_bad h];exact badSN_iff p T 12
theorem ziD {s:Sys}{B:Nat->Nat->Prop}(hp:zj p=jU)(hB:∀ q i,B q i->i<p.next.length) (h:Cl s p A B q i):i<p.next.length:=by
 induction h with
 |base h=>exact hB _ _ h
 |hid _ hl _ ih=>exact zdE hp ih hl.1
def Lead (s:Sys) (p:Aut) (A l:Nat) (T U:List Nat):Prop:=zaP U 12 (Cl s p A (mvB s p l (bq T)))
theorem Lead.ws {s:Sys}(h:Lead s p A l T U)(hp:zj p=jU)(hl:l<6)(hT:WS p T):WS p U:=
 ⟨h.1,h.2.1,fun i q hb=>ziD hp (fun q i ⟨_,i0,h1,_,h3⟩=>by rw [h3];exact zdE hp (hT.row _ _ h1) hl) ((h.2.2 i q).1 hb)⟩
theorem Lead.pr {s:Sys}(h:Lead s p A l T U)(hT:zaP T 12 (PR s p A v)):zaP U 12 (PR s p A (v++[l])):=by
 unfold Lead at h;rw [hT.eq,<- PR_snoc] at h;exact h
theorem start_ws {s:Sys}(h:zaP U 12 (PR s p A []))(hp:zj p=jU)(h0:0<p.next.length):WS p U:=
 ⟨h.1,h.2.1,fun i q hb=>ziD hp (fun q i ⟨_,h3⟩=>by rw [h3];exact h0) ((h.2.2 i q).1 hb)⟩
structure SfI (s:Sys) (p:Aut) (A:Nat) (Ts:List (List Nat)) (nx:Nat->Nat->Int):Prop where
 ws:∀ T∈Ts,WS p T
 start:∃ T,Ts[0]?=fU T/\zaP T 12 (PR s p A [])
 nx:∀ k l,k<Ts.length->l<6->nx k l = -1\/∃ (j:Nat) (T U:List Nat),nx k l=(j:Int)/\Ts[k]?=fU T/\Ts[j]?=fU U/\Lead s p A l T U
section
variable {s:Sys}{p:Aut}{A:Nat}{Ts:List (List Nat)}{nx:Nat->Nat->Int}
theorem SfI.add (h:SfI s p A Ts nx) (hU:WS p U):SfI s p A (Ts++[U]) (fun k l=>if k=Ts.length then -1 else nx k l):=by
 obtain⟨T,h1,h2⟩:=h.start;refine⟨fun V a=>?_,⟨T,by rw [dI (j9.1 h1).1];exact h1,h2⟩,fun k l hk hl=>?_⟩
 ·rcases kD.1 a with a|a
  ·exact h.ws V a
  ·obtain rfl:V=U:=by simpa using a
   exact hU
 ·by_cases e:k=Ts.length
  ·exact .inl (if_pos e)
  ·have b:k<Ts.length:=by simp at hk;omega
   simp only [if_neg e];rcases h.nx k l b hl with h3|⟨j,T,U,h3,h4,h5,c⟩
   ·exact .inl h3
   ·exact .inr ⟨j,T,U,h3,by rw [dI b];exact h4,by rw [dI (j9.1 h5).1];exact h5,c⟩
theorem SfI.set (h:SfI s p A Ts nx)  (hT:Ts[k]?=fU T)(hU:Ts[j]?=fU U)(hl:Lead s p A l T U):SfI s p A Ts (fun k' l'=>if k'=k/\l'=l then (j:Int) else nx k' l'):=by
 refine⟨h.ws,h.start,fun k' l' hk' hl'=>?_⟩
 by_cases e:k'=k/\l'=l
 ·obtain⟨rfl,rfl⟩:=e;exact .inr ⟨j,T,U,if_pos ⟨rfl,rfl⟩,hT,hU,hl⟩
 ·simp only [if_neg e];exact h.nx k' l' hk' hl'
end
theorem zhc (l:List Int):∀ u∈ints l,u.oneCell'=jU:=by
 intro u hu;obtain⟨x,_,rfl⟩:=kC.1 hu;rfl
theorem zfG (l:List Bool):∀ u∈zY l,u.oneCell'=jU:=by
 intro u hu;obtain⟨x,_,rfl⟩:=kC.1 hu;rfl
theorem zfN {w1:jX}(hg:(w.alloc (.cells cs t)).grownBy w1 (fC (fU w.heap.size) n c).ownBlock):Ext w w1:=
 ((cY w).alloc _).grown hg (fun k hk=>by
  have hk':w.heap.size=k:=by simpa [Value.ownBlock] using hk
  omega)
theorem clone_int {A:Option Addr}{l:List Int}(h:Reads w lo hi 1 A n (ints l))(hn:n<=1048576) :
  j6 j3 195 #[fC A n c] w fun e w'=>∃ v',e=j5 v'/\w'.ownsRow w.heap.size 3 1 v' n (ints l)/\Ext w w':=by
 cases A with
 |none =>
  obtain rfl:n=0:=by
   rcases gI n with b|b
   ·exact b
   ·obtain⟨_,h1,_⟩:=h.2.2 b;cases h1
  have d:=h.length;obtain rfl:l=[]:=dP (by rw [zcX] at d;omega);clear h;have f:=fun (w:jX) (a:Option Addr) (n c n' c':Nat)=>Lib.run_eql_slice_nil (P:=j3) w 110 _ a n c n' c' Tryz.underlying110
  go_enter Tryz.func195,Tryz.ntmps195
  go_wp2;go_ret;exact⟨_,rfl,World.ownsRow_nil _ _ _ _,cY _⟩
 |some ad =>
  have H:=za (h.ext ((cY w).alloc (.cells #[] 3)));clear h;have f:=fun (w:jX) (a:Option Addr) (n c n' c':Nat)=>Lib.run_eql_slice_nil (P:=j3) w 110 _ a n c n' c' Tryz.underlying110
  go_enter Tryz.func195,Tryz.ntmps195
  go_wp2_with (at_builtin;refine zdh _ rfl _ _ 110 rfl w.heap.size 3 _ 1 8 Tryz.underlying110 zS rfl dM _ 0 [] rfl (World.ownsRow_made w #[] 0 (dD _) (dF _) rfl) _ _ (fU ad) n c (ints l) rfl H.out (zhc l) lM oM sM ?_;intro v' w1 zkh hg hat)
  have hx:=zfN hg;rw [dW,eI] at zkh;go_ret;exact⟨_,rfl,zkh,hx⟩
theorem ziE {A:Option Addr}{l:List Bool}(h:Reads w lo hi 1 A n (zY l))(hn:n<=1048576) :
  j6 j3 194 #[fC A n c] w fun e w'=>∃ v',e=j5 v'/\w'.ownsRow w.heap.size 4 1 v' n (zY l)/\Ext w w':=by
 cases A with
 |none =>
  obtain rfl:n=0:=by
   rcases gI n with b|b
   ·exact b
   ·obtain⟨_,h1,_⟩:=h.2.2 b;cases h1
  have d:=h.length;obtain rfl:l=[]:=dP (by rw [zbT] at d;omega);clear h;have f:=fun (w:jX) (a:Option Addr) (n c n' c':Nat)=>Lib.run_eql_slice_nil (P:=j3) w 25 _ a n c n' c' Tryz.underlying25
  go_enter Tryz.func194,Tryz.ntmps194
  go_wp2;go_ret;exact⟨_,rfl,World.ownsRow_nil _ _ _ _,cY _⟩
 |some ad =>
  have H:=za (h.ext ((cY w).alloc (.cells #[] 4)));clear h;have f:=fun (w:jX) (a:Option Addr) (n c n' c':Nat)=>Lib.run_eql_slice_nil (P:=j3) w 25 _ a n c n' c' Tryz.underlying25
  go_enter Tryz.func194,Tryz.ntmps194
  go_wp2_with (at_builtin;refine zdh _ rfl _ _ 25 rfl w.heap.size 4 _ 1 1 Tryz.underlying25 zaJ rfl dM _ 0 [] rfl (World.ownsRow_made w #[] 0 (dD _) (dF _) rfl) _ _ (fU ad) n c (zY l) rfl H.out (zfG l) lM oM sM ?_;intro v' w1 zkh hg hat)
  have hx:=zfN hg;rw [dW,eI] at zkh;go_ret;exact⟨_,rfl,zkh,hx⟩
theorem zV (W:jX) (Z:Nat) (u0 u1 u2:j4):Frm (fun k=>k=Z) W (((W.setCell Z u0).setCell ⟨Z,1,fV⟩ u1).setCell ⟨Z,2,fV⟩ u2):=
 ((dG W Z 0 u0).trans (dG _ Z 1 u1)).trans (dG _ Z 2 u2)
theorem zah {Z:Nat}(h:Blk w Z t cs)(hc:cs.size=3) (u0 u1 u2:j4):Blk (((w.setCell Z u0).setCell ⟨Z,1,fV⟩ u1).setCell ⟨Z,2,fV⟩ u2) Z t #[u0,u1,u2]:=by
 obtain⟨l⟩:=cs
 match l,hc with
 |[a,b,c],_=>simpa using ((h.ae 0 u0).ae 1 u1).ae 2 u2
theorem zq {e:TypeId}{size G:Nat}{v:j4}{xs:List j4}(h:w.ownsRow base e size v n xs)(hB:Blk w G t cs)(hne:e≠t) (hv:v.ownBlock=fU b):b≠G:=by
 rintro rfl;rcases h.2 with ⟨rfl,_⟩|⟨g,a,c,rfl,_,f,_⟩
 ·simp [Value.ownBlock] at hv
 ·have d:g=b:=by simpa [Value.ownBlock] using hv
  subst d;unfold Blk at hB;rw [f] at hB;injection hB with hB
  injection hB with _ ht
  exact absurd ht hne
structure Gra (w0 W:jX) (G:Nat) (al:Int) (v:j4) (ls:List (List Int)) (vA:j4) (acc:List Bool):Prop where
 blk:Blk W G 27 #[al,v,vA]
 own:zeY W w0.heap.size v ls
 acc:W.ownsRow w0.heap.size 4 1 vA acc.length (zY acc)
 ext:Ext w0 W
 hG:w0.heap.size<=G
section
variable {w0 W W':jX}{G:Nat}{al:Int}{v vA:j4}{ls:List (List Int)}{acc:List Bool}
theorem Gra.aw (h:Gra w0 W G al v ls vA acc)(hb:Ext W W'):Gra w0 W' G al v ls vA acc:=⟨h.blk.ext hb,h.own.ext hb,zi h.acc hb,h.ext.trans hb,h.hG⟩
theorem Gra.push {W1:jX}{rows:List j4}{row:j4}{l:List Int}(h:Gra w0 W G al v ls vA acc)(hrows:zB W w0.heap.size rows ls)(hv:W.ownsRow w0.heap.size 110 1 v ls.length rows)
  (hx:Ext W W1) (hrow:W1.ownsRow W.heap.size 3 1 row l.length (ints l))
  (zkh:W'.ownsRow w0.heap.size 110 1 (fC (fU g) (ls.length+1) cap) (ls.length+1) (rows++[row]))
  (hg:W1.grownBy W' v.ownBlock) (hat:v.ownBlock=fU g\/g=W1.heap.size+1) :
  Hid (W'.cell? ⟨G,1,fV⟩=fU v)/\W'.frozen? ⟨G,1,fV⟩=j1/\Gra w0 (W'.setCell ⟨G,1,fV⟩ (fC (fU g) (ls.length+1) cap)) G al (fC (fU g) (ls.length+1) cap) (ls++[l]) vA acc:=by
 have a:=h.blk.ext hx;have d:=zi hv hx;have f:Blk W' G 27 #[.int iX al,v,vA]:=(hg.block G a.lt (fun e=>zq d a dM e.symm rfl)).trans a;have t:g≠G:=by
  rcases hat with h1|h1
  ·exact zq d a dM h1
  ·have:=a.lt;omega
 have s:Ext w0 W':=(h.ext.trans hx).grown hg (fun k hk=>(d.lt k hk).1);have m:=hrows.snoc hx (h.ext.size) hrow;have j:Frm (fun k=>v.ownBlock=fU k) W1 W':=Frm.ab hg;have n:zB W' w0.heap.size (rows++[row]) (ls++[l]):=m.frm j (fun i r b hr hb hS=>by
  obtain⟨u,_,q⟩:=m.row hr;exact zas q d dM hb hS)
 have o:W'.ownsRow w0.heap.size 4 1 vA acc.length (zY acc):=zf (zi h.acc hx) j (fun b hb hS=>zas (zi h.acc hx) d dM hb hS);have c:=dG W' G 1 (fC (fU g) (ls.length+1) cap);refine⟨f.cell 1,f.frozen 1,⟨by simpa using f.ae 1 _,⟨rows++[row],?_,?_⟩,?_,s.setCell (p:=⟨G,1,fV⟩) h.hG _,h.hG⟩⟩
 ·rw [dK,dU];exact zf zkh c (fun b hv hS=>by
   have:g=b:=by simpa [Value.ownBlock] using hv
   omega)
 ·refine n.frm c (fun i r b hr hb hS=>?_);obtain⟨u,_,q⟩:=n.row hr;exact zq q f dM hb hS
 ·exact zf o c (fun b hb hS=>zq o f dM hb hS)
end
theorem zfP {A:Option Addr}{A':Option Addr}{n' c':Nat}{a:Aut}(h:zJ w lo hi A n A' n' a)(hs:a.size<=1048576) :
  j6 j3 104 #[j2 #[a.al,fC A n c,fC A' n' c']] w (RetAut w a):=by
 have h1:n<=1048576:=by have:=h.n1;unfold Aut.size at hs;omega
 have h2:n'<=1048576:=by have:=h.n2;unfold Aut.size at hs;omega
 have o:∀ (k:Nat) (l:List Int),a.next[k]?=fU l->l.length<=1048576:=fun k l Q=>by
  have h1:=zgh Q;have h2:=zib a.next (k+1);unfold Aut.size at hs;omega
 have H:=za o;have J:=za h.n1;have L:=za h.n2;have HS:=za (fun W (hW:Ext w W)=>h.1.ext hW);have HA:=za (fun W (hW:Ext w W)=>h.2.2.ext hW);have ah:=h.1.len;clear o h hs
 go_enter Tryz.func104,Tryz.ntmps104
 go_upto_region 1 with fail
 generalize U0:(w.alloc _).alloc _=w2 at *;obtain⟨hw2,b1,bz⟩:=Ext.x2_ U0;have aj:w.heap.size+2=w2.heap.size:=by rw [<- U0];simp
 clear U0
 go_cut [3] (fun v wx=>∃ (G:Nat) (vA:j4),v=.pointer (fU G)/\Gra w2 wx G a.al (fC fV 0 0) [] vA a.acc)
 case first =>
  have c1:=fun W (hW:Ext w2 W)=>(b1.ext hW).cell;have s:=cY w2;refine uR (fun X=>Ext w2 X) [7] (zy.app [0,1,2,3] (zy.two 4 (zy.of [5,6,7]) 6 (zy.of [4,5,7]))) ?_;refine uQ ?_;have g:Ext w2 w2.drew:=s.drew;generalize w2.drew=wd at *;refine zn (fun K hK=>?_) (fun K hK=>?_)
  ·go_simp;refine (ziE (HA.out _ (hw2.trans g)) h2).mono ?_;rintro e E ⟨af,rfl,j,u⟩;obtain⟨F,I,rfl⟩:=zh j;have m:=g.trans u;refine hK.out _ _ m ?_;refine pT ?_;refine uQ ?_;refine ze fun K hK=>?_;go_simp;have t:=(cY E).alloc (.cells #[(0:Int),(),()] 27);have U:=m.size;have f:=zm (zi j t) g.size;replace m:=m.trans t;refine hK.out _ _ m ?_;generalize U0:E.alloc _=w3 at *;have q:=eA U0;clear U0;generalize E.heap.size=G at *;refine pT ?_;refine uQ ?_;have T:=q.cell;have fG:=q.frozen;refine zb fun K hK=>?_;go_simp;refine hK.out _ _ ?_;refine zg ?_;have zkk:Gra w2 (((w3.setCell G a.al).setCell ⟨G,1,fV⟩ ()).setCell ⟨G,2,fV⟩ (fC F n' I)) G a.al (fC fV 0 0) [] (fC F n' I) a.acc:=⟨zah q rfl _ _ _,⟨[],World.ownsRow_nil _ _ _ _,zB.nil _ _⟩,by
    rw [<- L.out];exact zf f (zV w3 G _ _ _) (fun b r hS=>zq f q dM r hS),m.frm (zV w3 G _ _ _) (fun k Z e=>oM),U⟩
   go_wp2_with fail
   go_meet;exact⟨G,_,rfl,zkk⟩
  ·go_simp;have t:=(cY wd).alloc (.cells #[(0:Int),(),()] 27);have U:=g.size;replace g:=g.trans t;refine hK.out _ _ g ?_;generalize U0:wd.alloc _=w3 at *;have q:=eA U0;clear U0;generalize wd.heap.size=G at *;refine pT ?_;refine ze fun K hK=>?_;go_simp;refine (ziE (HA.out _ (hw2.trans g)) h2).mono ?_;rintro e E ⟨af,rfl,j,u⟩;obtain⟨F,I,rfl⟩:=zh j;have f:=zm j g.size;replace q:=q.ext u;replace g:=g.trans u;refine hK.out _ _ g ?_;refine pT ?_;refine uQ ?_;have T:=q.cell;have fG:=q.frozen;refine zb fun K hK=>?_;go_simp;refine hK.out _ _ ?_;refine zg ?_;have zkk:Gra w2 (((E.setCell G a.al).setCell ⟨G,1,fV⟩ ()).setCell ⟨G,2,fV⟩ (fC F n' I)) G a.al (fC fV 0 0) [] (fC F n' I) a.acc:=⟨zah q rfl _ _ _,⟨[],World.ownsRow_nil _ _ _ _,zB.nil _ _⟩,by
    rw [<- L.out];exact zf f (zV E G _ _ _) (fun b r hS=>zq f q dM r hS),g.frm (zV E G _ _ _) (fun k Z e=>oM),U⟩
   go_wp2_with fail
   go_meet;exact⟨G,_,rfl,zkk⟩
 case rest =>
  obtain⟨G,vA,rfl,d⟩:=hcut;have k1:=(b1.ext d.ext).cell;go_wp2_with fail
  go_loopw [5,15] (fun _ i wr=>∃ (k:Nat) (v:j4),k<=n/\i=.int iX k/\Gra w2 wr G a.al v (a.next.take k) vA a.acc) (fun _ i _=>n - (intOf i).toNat)
  case atStart=>exact⟨0,_,dF _,rfl,by simpa using d⟩
  case round =>
   clear d k1;obtain⟨k,v,Z,rfl,d⟩:=hrel
   by_cases hlt:k<n
   ·obtain⟨ad,Ak,ck,l,rfl,_,_,Q,Y,M⟩:=(HS.out wr (hw2.trans d.ext)).row hlt;have aa:=H.out k l Q.out;have S:=za (show a.next.take (k+1)=a.next.take k++[l] by rw [dN,Q.out];rfl);have O:=za (show (a.next.take k).length=k by rw [eV];have:=J.out;omega);obtain⟨x,r,D⟩:=d.own;go_upto_region 5 with fail
    have T:=fun W (hW:Ext wr W)=>(d.blk.ext hW).cell;have s:=cY wr;have R:=za (fun W (hW:Ext wr W)=>M.ext hW);clear Y M;refine uR (fun X=>Ext wr X) [5,7] (zy.of [0,1,2,3,4,5,6,7]) ?_;refine uQ ?_;refine ze fun K hK=>?_;go_simp;refine (clone_int (R.out _ s.drew) aa).mono ?_;rintro e w3 ⟨row,rfl,o,hx3⟩;obtain⟨BR,dR,rfl⟩:=zh o;have p:=s.drew.trans hx3;refine hK.out _ _ p ?_;refine pT ?_;refine uQ ?_;refine ze fun K hK=>?_;go_simp;refine hK.out _ _ (p.alloc _) ?_;refine pT ?_;refine zb fun K hK=>?_;refine zaC w2 w3 _ _ _ rfl 110 _ 1 24 Tryz.underlying24 zbp rfl dM v (a.next.take k).length x _ _ rfl rfl (d.ext.trans p).size (zi r p) rfl (zaG _ _ _) (by unfold maxLen;have:=O.out;omega) (oH O.out) ?_;intro g5 cap5 w5 zkt hg5 hat5 hlt5;refine hK.out _ _ ?_;refine pT ?_;refine uQ ?_;obtain⟨p1,p2,p3⟩:=d.push D r p o (W':=w5) zkt hg5 hat5;have au:=p1.out;refine zb fun K hK=>?_;go_simp;refine hK.out _ _ ?_;refine zg ?_;go_wp2_with fail
    go_roundw
    case rel=>exact⟨k+1,_,oM,gM,by rw [S.out];first|exact p3|simpa using p3⟩
    case measure=>exact uM
   ·obtain rfl:n=k:=oM;obtain⟨A5,c5,rfl⟩:∃ A5 c5,v=fC A5 n c5:=by
     obtain⟨x,r,_⟩:=d.own;rw [dJ (oH J.out),<- J.out] at r;exact zh r
    obtain⟨y,z,rfl⟩:=zh d.acc;have T:=d.blk.cell;have B:=bz.ext d.ext;have cZ:=B.cell;have fZ:=B.frozen;have C:=zV wr (w.heap.size+1) (.int iX a.al) (fC A5 n c5) (fC y a.acc.length z);have V:=zah B rfl (.int iX a.al) (fC A5 n c5) (fC y a.acc.length z);have ab:=(hw2.trans d.ext).frm C (fun k Z e=>oM);have zkk:=za (show RetAut w a (j5 (j2 #[a.al,fC A5 n c5,fC y a.acc.length z])) (((wr.setCell ⟨w.heap.size+1,0,fV⟩ a.al).setCell ⟨w.heap.size+1,1,fV⟩ (fC A5 n c5)).setCell ⟨w.heap.size+1,2,fV⟩ (fC y a.acc.length z)) from by
     refine⟨A5,n,c5,y,a.acc.length,z,rfl,⟨?_,J.out,?_,rfl⟩,ab⟩
     ·have ho:=d.own;rw [dJ (oH J.out)] at ho;exact (ho.keep C (fun b h1 e=>oM)).less oM
     ·exact zm (zbw d.acc C (fun b h1 e=>oM)) oM)
    go_wp2_with fail
    generalize ((wr.setCell ⟨w.heap.size+1,0,fV⟩ a.al).setCell ⟨w.heap.size+1,1,fV⟩ (fC A5 n c5)).setCell ⟨w.heap.size+1,2,fV⟩ (fC y a.acc.length z)=wf at *;have cf:=V.cell;exact bodyPost_ret (v:=j2 #[a.al,fC A5 n c5,fC y a.acc.length z]) (by simp [results,Tryz.results104,go_sem,cf]) rfl zkk.out
def memT (W:jX) (g n:Nat):List Nat:=(List.range n).map fun j=>match W.cell? ⟨g,j,fV⟩ with|some (.int _ z)=>z.toNat|_=>0
theorem memT_own (h:W.ownsRow base 3 1 (fC (fU g) n c) n (zag T))(hT:T.length=n):memT W g n=T:=by
 refine List.ext_getElem? fun j=>?_;unfold memT;rw [dO];rcases Nat.lt_or_ge j n with a|a
 ·rw [List.getElem?_range a,Option.map_some,h.cellAt j oM,show (zag T)[j]?=T[j]?.map (fun x=>Value.int iX (x:Nat)) by simp [zag]];rw [dB oM];simp
 ·rw [dV (by simpa using a),dV oM];rfl
theorem zcr (h:W.ownsRow base 3 1 (fC (fU g) n c) n (zag T))(hj:j<n):W.cell? ⟨g,j,fV⟩=fU (.int iX (T.getD j 0:Nat)):=by
 have a:=zcE h;have b:T.length=n:=by simpa [zag] using a
 rw [h.cellAt j oM,show (zag T)[j]?=T[j]?.map (fun x=>Value.int iX (x:Nat)) by simp [zag],dE,dB oM];simp
def RetSets (g N cc base:Nat) (Q:Nat->Nat->Prop) (w:jX) (e:Ending) (w':jX):Prop:=
 ∃ T':List Nat,e=j5 (fC (fU g) N cc)/\w'.ownsRow base 3 1 (fC (fU g) N cc) N (zag T')/\zaP T' N Q/\Frm (fun k=>k=g) w w'
section
variable {w:jX}{lo hi n c m d m' d' L:Nat}{A B B':Option Addr}{s:Sys}{p:Aut}
theorem zgJ {cc:Nat}{Bs:Nat->Nat->Prop}(hS:zU w lo hi A n s)(hP:zJ w lo hi B m B' m' p)(hv:zk s=jU)(hp:zj p=jU)(hL:L<64)(hN:N=p.next.length)
  (hg:hi<=base) (zkh:w.ownsRow base 3 1 (fC (fU g) N cc) N (zag T)) (hT:zaP T N Bs) :
  j6 j3 223 #[j2 #[s.al,s.st,fC A n c,p.al,fC B m d,fC B' m' d',L],fC (fU g) N cc] w (RetSets g N cc base (Cl s p L Bs) w):=by
 have O:=zcj hv;obtain⟨aV,aW⟩:=zab hv;obtain⟨al,aa⟩:∃ al:Nat,Hid (s.al=al):=⟨s.al.toNat,by unfold Hid;omega⟩;have I:al<64:=oH aa.out;have aJ:N<=12:=by have:=(zl hp).2.1;omega
 have aZ:=(zkh.lt g rfl).1;have a1:=(zkh.lt g rfl).2;have HN:=za hN;have aB:=za (zdi (a:=al) (b:=L) tM tM);have a3:al&&&L<=al:=Nat.and_le_left;have Y:(al:Int) - ((al&&&L:Nat):Int)=((al - (al&&&L):Nat):Int):=oM;have ak:=za Y;clear Y;have H:=za (fun l=>sub_bit I hL l);have aX:=aB.out;clear hN
 go_enter Tryz.func223,Tryz.ntmps223
 go_upto_region 1 with fail
 generalize U0:w.alloc _=w1 at *;obtain⟨hw1,b1⟩:=gH U0;have k1:=b1.cell;clear U0;rw [aa.out] at k1;go_wp2_with fail
 rw [ak.out];refine (zai (al - (al&&&L)) tM _).mono ?_;rintro e w2 ⟨HA,hc,rfl,E,hx2⟩;have H:=za (fun l=>(sub_bit I hL l).trans (show l<6/\al.testBit l=jU/\L.testBit l=j1↔hidL s L l by unfold hidL;rw [aa.out];rfl));generalize letters (al - (al&&&L)) 6=hs at *;have a2:hs.length<=9223372036854775807:=(Reads.af E).len;have am:Frm (fun k=>k=g) w w2:=(hw1.trans hx2).ak;have av:=zi zkh (hw1.trans hx2);have aE:=b1.ext hx2;have o:=hT.clI (s:=s) (p:=p) (A:=L);clear zkh hT k1 b1;go_wp2_with fail
 go_loopw [6] (fun mv wr=>∃ (C:Bool) (T:List Nat),mv=.bool C/\Hid (ClI s p L Bs N T)/\Hid (C=j1->∀ i l,i<N->hidL s L l->zeM s p T i l)/\wr.ownsRow base 3 1 (fC (fU g) N cc) N (zag T)/\Frm (fun k=>k=g) w2 wr) (fun mv wr=>room (memT wr g N)+(match mv with | .bool jU=>1|_=>0))
 case atStart=>exact⟨jU,T,rfl,za o,za (fun h=>by cases h),av,Frm.refl _ _⟩
 case round =>
  clear o av;obtain⟨C,T,rfl,o,f,zkh,t⟩:=hrel;have ao:=za (memT_own zkh o.out.len);cases C
  ·have zkk:=za (o.out.fin (f.out rfl));go_wp2_with fail
   go_ret;exact⟨T,rfl,zkh,zkk.out,am.trans t⟩
  ·go_wp2_with fail
   go_loopw [6,7] (fun mv iv wq=>∃ (C:Bool) (i:Nat) (v:List Nat),mv=.bool C/\iv=.int iX i/\i<=N/\Hid (ClI s p L Bs N v)/\Hid (room v<=room T/\(C=jU->room v<room T))/\Hid (C=j1->∀ i' l,i'<i->hidL s L l->zeM s p v i' l)/\wq.ownsRow base 3 1 (fC (fU g) N cc) N (zag v)/\Frm (fun k=>k=g) w2 wq) (fun _ iv _=>N - (intOf iv).toNat)
   case atStart=>exact⟨j1,0,T,rfl,rfl,dF _,o,za ⟨dD _,fun h=>by cases h⟩,za (fun _ i' l h=>oM),zkh,t⟩
   case round =>
    clear o zkh t f;obtain⟨C,i,v,rfl,rfl,hi,o,r,f,zkh,t⟩:=hrel
    by_cases hlt:i<N
    ·have aN:(i:Int)<(N:Int):=oM;go_wp2_with fail
     go_loopw [6,8] (fun mv kv wq=>∃ (C:Bool) (k:Nat) (v:List Nat),mv=.bool C/\kv=.int iX k/\k<=hs.length/\Hid (ClI s p L Bs N v)/\Hid (room v<=room T/\(C=jU->room v<room T))/\Hid (C=j1->(∀ i' l,i'<i->hidL s L l->zeM s p v i' l)/\∀ (k' l:Nat),k'<k->hs[k']?=fU l->zeM s p v i l)/\wq.ownsRow base 3 1 (fC (fU g) N cc) N (zag v)/\Frm (fun k=>k=g) w2 wq) (fun _ kv _=>hs.length - (intOf kv).toNat)
     case atStart=>exact⟨C,0,v,rfl,rfl,dF _,o,r,za (fun h=>⟨f.out h,fun k' l h=>oM⟩),zkh,t⟩
     case round =>
      clear o r f zkh t;obtain⟨C,k,v,rfl,rfl,hk,o,r,f,zkh,t⟩:=hrel
      by_cases hkl:k<hs.length
      ·have aL:(k:Int)<(hs.length:Int):=oM;obtain⟨l,U⟩:∃ l,hs[k]?=fU l:=⟨_,dB hkl⟩;have M:=(H.out l).1 (dC U);have an:=M.1;have ab:aGo p i l<N:=by rw [HN.out];exact zdE hp (by rw [<- HN.out];exact hlt) an
       obtain⟨gh,rfl,a0,-⟩:=zM E oM;have G:=zbw E t (fun b h1 e=>oH hw1.size);have cH:=zcr G hkl;rw [dE,U,eL] at cH;have CH:∀ W,Ext wr W->W.cell? ⟨gh,k,fV⟩=fU (.int iX (l:Nat)):=fun W hW=>hW.aa cH;have CB:∀ W,Ext wr W->∀ q,W.cell? ⟨w.heap.size,q,fV⟩=#[Value.int iX s.al,.int iX s.st,fC A n c,.int iX p.al,fC B m d,fC B' m' d',.int iX L][q]?:=fun W hW=>((aE.frm t oM).ext hW).cell;have CI:∀ W,Ext wr W->W.cell? ⟨g,i,fV⟩=fU (.int iX (v.getD i 0:Nat)):=fun W hW=>hW.aa (zcr zkh hlt);have az:=za (fun W (hW:Ext wr W)=>((hP.ext (hw1.trans hx2)).frm t (fun k h1 h2 e=>oM)).ext hW);have aA:=za (fun W (hW:Ext wr W)=>((hS.ext (hw1.trans hx2)).frm t (fun k h1 h2 e=>oM)).ext hW);have Hl:=za U;have a4:=cY wr;clear U cH G;go_wp2_with fail
       go_region_held3 (fun W=>Ext wr W) (first|assumption|(refine fB ?_;assumption)|(refine eN ?_ aM;assumption)|(refine eN ?_ aM;refine fB ?_;assumption)) (first|(go_at_call 225;refine (zdT (az.out _ ?_) hp (by rw [<- HN.out];exact hlt) an).mono ?_;(first|assumption|(refine fB ?_;assumption));rintro e w3 ⟨rfl,hx3⟩))
       have aO:Ext wr w3:=aM;obtain⟨j,hj⟩:∃ j,Hid (aGo p i l=j):=⟨_,rfl⟩;rw [hj.out] at ab ⊢;have CJ:∀ W,Ext wr W->W.cell? ⟨g,j,fV⟩=fU (.int iX (v.getD j 0:Nat)):=fun W hW=>hW.aa (zcr zkh ab);obtain⟨x,hx⟩:∃ x,Hid (v.getD i 0=x):=⟨_,rfl⟩;obtain⟨y,hy⟩:∃ y,Hid (v.getD j 0=y):=⟨_,rfl⟩;have aP:x<65536:=by rw [<- hx.out];exact zbC o.out.lt i
       have au:y<65536:=by rw [<- hy.out];exact zbC o.out.lt j
       rw [hx.out] at CI;rw [hy.out] at CJ;have Q:zco s.edges x (l:Int)<65536:=zeW O _ _;obtain⟨z,hz⟩:∃ z,Hid (zco s.edges x (l:Int)=z):=⟨_,rfl⟩;rw [hz.out] at Q;have aG:=zcd (a:=y) (b:=z) tM tM;have aK:(j:Int)<(N:Int):=oM;obtain⟨u,hu⟩:∃ u,Hid (y|||z=u):=⟨_,rfl⟩;have ar:u<65536:=by rw [<- hu.out];exact eP (n:=16) au Q
       rw [hu.out] at aG;go_wp2_with fail
       go_region_held3 (fun W=>Ext wr W) (first|assumption|(refine fB ?_;assumption)|(refine eN ?_ aM;assumption)|(refine eN ?_ aM;refine fB ?_;assumption)) (first|(go_at_call 224;refine (zhT (c:=c) (k0:=s.st.toNat) (aA.out _ ?_) O.2.2.1 (oH O.2.1) tM).mono ?_;(first|assumption|(refine fB ?_;assumption));rw [hz.out];rintro e w4 ⟨rfl,hx4⟩))
       have R:Ext wr w4:=aM;have cJ:=CJ w4 R;have V:=t.ext R;have D:=zi zkh R;have J:v.getD (aGo p i l) 0|||zco s.edges (v.getD i 0) (l:Int)=u:=by rw [hj.out,hx.out,hy.out,hz.out,hu.out]
       have ai:=za J;have F:=o.out.step O hp HN.out hlt M;rw [J,hj.out] at F;have Z:=za F;clear J F CH CB CI CJ
       by_cases he:u=y
       ·have aC:=za (closedAt_of (T:=v) (p:=p) (i:=i) O M (by rw [ai.out,hj.out,hy.out,he]));have aF:((u:Int) != (y:Int))=j1:=by rw [he];simp
        clear he;go_wp2_with fail
        go_roundw
        case rel=>exact⟨C,k+1,v,rfl,gM,oM,o,r,za (fun h=>⟨(f.out h).1,fun k' l' S hl'=>by
         rcases dX (eF S) with h1|rfl
         ·exact (f.out h).2 k' l' h1 hl'
         ·rw [Hl.out] at hl';obtain rfl:=j8 hl';exact aC.out⟩),D,V⟩
        case measure=>exact uM
       ·have aF:((u:Int) != (y:Int))=jU:=by simp;omega
        have ae:=room_set v j z (by rw [hy.out,hu.out];exact ar);rw [hy.out,hu.out] at ae;have X:=ae.2 (by rw [o.out.len];exact ab) he;have aj:=za X;have ap:=(D.stored j (.int iX (u:Nat))).1;rw [<- zeR] at ap;have aY:=D.frozenAt j;clear ae X he;go_wp2_with fail
        go_roundw
        case rel=>exact⟨jU,k+1,v.set j u,rfl,gM,oM,za Z.out,za ⟨by have:=aj.out;have:=r.out.1;omega,fun _=>by have:=aj.out;have:=r.out.1;omega⟩,za (fun h=>by cases h),ap,V.trans (dG _ g j _)⟩
        case measure=>exact uM
      ·go_wp2_with fail
       go_roundw
       case rel=>exact⟨C,i+1,v,rfl,gM,oM,o,r,za (fun h i' l hi' U=>by
        rcases dX (eF hi') with h1|rfl
        ·exact (f.out h).1 i' l h1 U
        ·obtain⟨k',S⟩:=dY ((H.out l).2 U);exact (f.out h).2 k' l (by have:=(j9.1 S).1;omega) S),zkh,t⟩
       case measure=>exact uM
    ·go_wp2_with fail
     have ad:=za (memT_own zkh o.out.len);go_roundw
     case rel=>exact⟨C,v,rfl,o,za (fun h i l hi U=>f.out h i l oM U),zkh,t⟩
     case measure =>
      rw [ao.out,ad.out];have h1:=r.out;cases C
      ·simp;omega
      ·have:=h1.2 rfl
       simp;omega
end
def RetSt (N:Nat) (Q:Nat->Nat->Prop) (w:jX) (e:Ending) (w':jX):Prop:=
 ∃ (T:List Nat) (g c:Nat),e=j5 (fC (fU g) N c)/\w'.ownsRow w.heap.size 3 1 (fC (fU g) N c) N (zag T)/\zaP T N Q/\Ext w w'
def mset (s:Sys) (x l:Nat):Nat:=if s.al.toNat.testBit l then zco s.edges x (l:Int) else x
theorem mset_bit {s:Sys}(hs:Sml s) (x l q':Nat):(mset s x l).testBit q'=jU↔∃ q,x.testBit q=jU/\q'∈cho s q l:=by
 unfold mset;split
 ·rename_i h;exact zgf hs h x q'
 ·rename_i h;constructor
  ·intro h1;exact⟨q',h1,by unfold cho;rw [if_neg h];simp⟩
  ·rintro ⟨q,h1,h2⟩;unfold cho at h2;rw [if_neg h] at h2;simp at h2;rw [h2];exact h1
theorem mset_lt {s:Sys}(hs:Sml s) (hx:x<65536) (l:Nat):mset s x l<65536:=by
 unfold mset;split
 ·exact zeW hs _ _
 ·exact hx
structure MvI (s:Sys) (p:Aut) (l N:Nat) (T:List Nat) (k:Nat) (O:List Nat):Prop where
 len:O.length=N
 lt:∀ x∈O,x<65536
 bit:∀ j q',zdx O j q'↔∃ i q,i<k/\zdx T i q/\q'∈cho s q l/\j=aGo p i l
theorem MvI.step {s:Sys}(h:MvI s p l N T k O)(hs:Sml s)(hp:zj p=jU)(hN:N=p.next.length)(hT:∀ x∈T,x<65536)(hk:k<N)(hl:l<6) :
  MvI s p l N T (k+1) (O.set (aGo p k l) (O.getD (aGo p k l) 0|||mset s (T.getD k 0) l)):=by
 have a:aGo p k l<O.length:=by rw [h.len,hN];exact zdE hp oM hl
 refine⟨by rw [e9];exact h.len,fun x hx=>?_,fun j q'=>?_⟩
 ·rcases e7 hx with hx|rfl
  ·exact h.lt x hx
  ·exact eP (n:=16) (zbC h.lt _) (mset_lt hs (zbC hT _) _)
 ·rw [zcN a,h.bit,mset_bit hs];constructor
  ·rintro (⟨i,q,h1,h2,h3,h4⟩|⟨h1,q,h2,h3⟩)
   ·exact⟨i,q,oM,h2,h3,h4⟩
   ·exact⟨k,q,oM,h2,h3,h1⟩
  ·exact yW07a5
theorem MvI.zero (s:Sys) (p:Aut) (l N:Nat) (T:List Nat):MvI s p l N T 0 (dS N 0):=by
 refine⟨sM,fun x hx=>by rw [iR] at hx;omega,fun j q'=>?_⟩;constructor
 ·intro h;unfold zdx at h;rw [dE] at h;cases h1:(dS N 0)[j]? with
  |none=>rw [h1] at h;simp at h
  |some x =>
   have:=dC h1;rw [iR] at this;rw [h1,this.2] at h;simp at h
 ·rintro ⟨_,_,h,_⟩;omega
theorem MvI.fin {s:Sys}{B:Nat->Nat->Prop}(h:MvI s p l N T N O)(hT:zaP T N B):zaP O N (mvB s p l B):=by
 refine⟨h.len,h.lt,fun j q'=>?_⟩;rw [h.bit];constructor
 ·rintro ⟨i,q,h1,h2,h3,h4⟩;exact⟨q,i,(hT.2.2 i q).1 h2,h3,h4⟩
 ·rintro ⟨q,i,h2,h3,h4⟩;have a:=(hT.2.2 i q).2 h2;exact⟨i,q,by rw [<- hT.1];exact zho a,a,h3,h4⟩
def badT (p:Aut) (T:List Nat) (N:Nat):Bool:=(List.range N).any fun i=>T.getD i 0 != 0&&!zat p i
theorem zjl :badT p T N=jU↔∃ i,i<N/\T.getD i 0≠0/\zat p i=j1:=by
 unfold badT;rw [List.any_eq_true];constructor
 ·rintro ⟨i,h1,h2⟩;rw [List.mem_range] at h1;simp only [dH,bne_iff_ne,gG] at h2;exact⟨i,h1,h2.1,h2.2⟩
 ·rintro ⟨i,h1,h2,h3⟩;exact⟨i,List.mem_range.2 h1,by simp [h3];simpa using h2⟩
section
variable {w:jX}{lo hi n c m d m' d' L:Nat}{A B B':Option Addr}{s:Sys}{p:Aut}
theorem spec_l9Start (hS:zU w lo hi A n s)(hP:zJ w lo hi B m B' m' p)(hv:zk s=jU)(hp:zj p=jU)(hL:L<64)(hhi:hi<=w.heap.size)(hN:N=p.next.length) :
  j6 j3 147 #[j2 #[s.al,s.st,fC A n c,p.al,fC B m d,fC B' m' d',L]] w (RetSt N (PR s p L []) w):=by
 have G:m=N:=hP.n1.trans hN.symm;subst G;have b:1<=m/\m<=12:=by have:=(zl hp).2.1;omega
 have z:=za (fun W (hW:Ext w W)=>hS.ext hW);have y:=za (fun W (hW:Ext w W)=>hP.ext hW);have x:=za hN;clear hS hP hN
 go_enter Tryz.func147,Tryz.ntmps147
 go_upto_region 1 with fail
 generalize U0:w.alloc _=w1 at *;obtain⟨hw1,b1⟩:=gH U0;have D:=b1.lt;clear U0;have u:=b1.cell;go_upto_region 2 with (at_make;refine zbd w1 w1 rfl _ _ 110 rfl 3 _ 1 8 Tryz.underlying110 zS _ _ m rfl rfl (cY _) oM lM ?_;intro w2 hx2 zkr hx23 hsz2)
 rw [madeZ] at zkr;have g:=(zkr.stored 0 (.int iX 1)).1;rw [show (zag (dS m 0)).set 0 (.int iX 1)=zag ((dS m 0).set 0 1) from (zeR (i:=0) (v:=1) (R:=dS m 0)).symm] at g;have F:=zkr.frozenAt 0;have E:=zcr zkr (show 0<m by omega);have hw3:=(hw1.trans hx2).setCell (p:=⟨w1.heap.size,0,fV⟩) hw1.size (.int iX 1);have t:=(b1.ext hx2).far (p:=⟨w1.heap.size,0,fV⟩) (by dsimp only;omega) (.int iX 1);have C:(0:Int)<(m:Int):=oM;clear u;have u:=t.cell;have I:=za (fun h (hT':zaP h m (fun q i=>q=0/\i=0))=>hT');have l:=z.out _ hw3;have j:=y.out _ hw3;have o:=zia b.1;have H:=hw1.size;clear hx23;go_wp2_with fail
 refine (zgJ (c:=c) (d:=d) (d':=d') l j hv hp hL x.out oM g o).mono ?_;rintro e w4 ⟨h,rfl,a,r,f⟩;go_wp2_with fail
 go_ret;exact⟨h,w1.heap.size,m,rfl,zm a hw1.size,r,hw3.frm f (fun k hk e=>oM)⟩
theorem spec_l9Move {Q:Nat->Nat->Prop}(hS:zU w lo hi A n s)(hP:zJ w lo hi B m B' m' p)(hv:zk s=jU)(hp:zj p=jU)(hL:L<64)(hhi:hi<=w.heap.size)(hN:N=p.next.length)(hl:l<6)
  (zkh:w.ownsRow b0 3 1 (fC (fU g0) N c0) N (zag T)) (hT:zaP T N Q) :
  j6 j3 149 #[j2 #[s.al,s.st,fC A n c,p.al,fC B m d,fC B' m' d',L],fC (fU g0) N c0,l] w (RetSt N (Cl s p L (mvB s p l Q)) w):=by
 have D:=zcj hv;obtain⟨aw,ax⟩:=zab hv;obtain⟨al,C⟩:∃ al:Nat,Hid (s.al=al):=⟨s.al.toNat,by unfold Hid;omega⟩;have ag:al<64:=oH C.out;have S:=za (show s.al.toNat=al by have:=C.out;omega);have ak:1<=N/\N<=12:=by have:=(zl hp).2.1;omega
 have HS:=za (fun W (hW:Ext w W)=>hS.ext hW);have Z:=za (fun W (hW:Ext w W)=>hP.ext hW);have I:=za hN;have HT:=za hT;have az:=(zkh.lt g0 rfl).2;clear hS hP hN hT
 go_enter Tryz.func149,Tryz.ntmps149
 go_upto_region 1 with fail
 generalize U0:w.alloc _=w1 at *;obtain⟨hw1,b1⟩:=gH U0;have ay:=b1.lt;clear U0;go_wp2_with (at_make;refine zbd w1 w1 rfl _ _ 110 rfl 3 _ 1 8 Tryz.underlying110 zS _ _ N rfl rfl (cY _) oM lM ?_;intro w2 hx2 zkr hx23 hsz2)
 rw [madeZ] at zkr;have ao:=hw1.size;have hw2:=hw1.trans hx2;clear hx23;obtain⟨r,R⟩:∃ r,r=w1.heap.size:=⟨_,rfl⟩;rw [<- R] at zkr ⊢;have av:w.heap.size<r:=oM;clear R
 go_loopw [8] (fun iv wr=>∃ (i:Nat) (O:List Nat),iv=.int iX i/\i<=N/\Hid (MvI s p l N T i O)/\wr.ownsRow r 3 1 (fC (fU r) N N) N (zag O)/\Frm (fun k=>k=r) w2 wr) (fun iv _=>N - (intOf iv).toNat)
 case atStart=>exact⟨0,_,rfl,dF _,za (MvI.zero s p l N T),zkr,Frm.refl _ _⟩
 case round =>
  clear zkr;obtain⟨i,O,rfl,hi,hO,f,t⟩:=hrel;have h:Ext w wr:=hw2.frm t (fun k hk e=>oM);have k1:=((b1.ext hx2).frm t oM).cell
  by_cases hlt:i<N
  ·have an:(i:Int)<(N:Int):=oM;have cI:=zcr (zi zkh h) hlt;obtain⟨x,hx⟩:∃ x,Hid (T.getD i 0=x):=⟨_,rfl⟩;have U:x<65536:=by rw [<- hx.out];exact zbC HT.out.2.1 i
   rw [hx.out] at cI;have CB:∀ W,Ext wr W->∀ q,W.cell? ⟨w.heap.size,q,fV⟩=#[Value.int iX al,.int iX s.st,fC A n c,.int iX p.al,fC B m d,fC B' m' d',.int iX L][q]?:=fun W hW q=>by rw [(((b1.ext hx2).frm t oM).ext hW).cell,C.out]
   have CI:∀ W,Ext wr W->W.cell? ⟨g0,i,fV⟩=fU (.int iX (x:Nat)):=fun W hW=>hW.aa cI;obtain⟨j,X⟩:∃ j,Hid (aGo p i l=j):=⟨_,rfl⟩;have ah:j<N:=by rw [<- X.out,I.out];exact zdE hp (by rw [<- I.out];exact hlt) hl
   have am:(j:Int)<(N:Int):=oM;obtain⟨v,G⟩:∃ v,Hid (O.getD j 0=v):=⟨_,rfl⟩;obtain⟨y,Y⟩:∃ y,Hid (mset s x l=y):=⟨_,rfl⟩;obtain⟨u,hu⟩:∃ u,Hid (v|||y=u):=⟨_,rfl⟩;have aq:v<65536:=by rw [<- G.out];exact zbC hO.out.lt j
   have ar:y<65536:=by rw [<- Y.out];exact mset_lt D U l
   have ai:=zcd (a:=v) (b:=y) tM tM;rw [hu.out] at ai;have CJ:∀ W,Ext wr W->W.cell? ⟨r,j,fV⟩=fU (.int iX (v:Nat)):=fun W hW=>hW.aa (G.out ▸ zcr f ah);have FJ:∀ W,Ext wr W->W.frozen? ⟨r,j,fV⟩=j1:=fun W hW=>(zi f hW).frozenAt j;have g:=hO.out.step D hp I.out HT.out.2.1 hlt hl;rw [X.out,G.out,hx.out,Y.out,hu.out] at g;have o:=za g;have J:=za (fun W (hW:Ext wr W)=>((zi f hW).stored j (.int iX (u:Nat))).1);have aA:=cY wr;clear g k1 cI;cases hb:al.testBit l
   ·have Hb:=za hb;have H:x=y:=by rw [<- Y.out];unfold mset;rw [S.out,hb];rfl
    subst H;clear hb;go_wp2_with (first
     |(go_at_call 143;refine (zav al l tM _ oM).mono ?_;rw [Hb.out];rintro e w' ⟨rfl,rfl⟩)
     |(go_at_call 225;refine (zdT (Z.out _ h) hp (by rw [<- I.out];exact hlt) hl).mono ?_;rw [X.out];rintro e w4 ⟨rfl,hx4⟩))
    have z:=J.out w4 hx4;rw [<- zeR] at z;go_roundw
    case rel=>exact⟨i+1,O.set j u,gM,oM,o,z,(t.ext hx4).trans (dG _ r j _)⟩
    case measure=>exact uM
   ·have Hb:=za hb;have H:Hid (zco s.edges x (l:Int)=y):=by unfold Hid;rw [<- Y.out];unfold mset;rw [S.out,hb];rfl
    clear hb;go_wp2_with (first
     |(go_at_call 143;refine (zav al l tM _ oM).mono ?_;rw [Hb.out];rintro e w' ⟨rfl,rfl⟩)
     |(go_at_call 224;rw [<- C.out];refine (zhT (c:=c) (k0:=s.st.toNat) (HS.out _ h) D.2.2.1 (oH D.2.1) tM).mono ?_;rw [H.out];rintro e w3 ⟨rfl,hx3⟩;have V:=h.trans hx3)
     |(go_at_call 225;refine (zdT (Z.out _ V) hp (by rw [<- I.out];exact hlt) hl).mono ?_;rw [X.out];rintro e w4 ⟨rfl,hx4⟩;have E:=hx3.trans hx4))
    have z:=J.out w4 E;rw [<- zeR] at z;go_roundw
    case rel=>exact⟨i+1,O.set j u,gM,oM,o,z,(t.ext E).trans (dG _ r j _)⟩
    case measure=>exact uM
  ·obtain rfl:i=N:=oM;have zkk:=hO.out.fin HT.out;go_wp2_with fail
   refine (zgJ (c:=c) (d:=d) (d':=d') (HS.out _ h) (Z.out _ h) hv hp hL I.out oM f zkk).mono ?_;rintro e w4 ⟨T',rfl,F,af,M⟩;go_wp2_with fail
   go_ret;exact⟨T',r,i,rfl,zm F oM,af,h.frm M (fun k hk e=>oM)⟩
end
noncomputable def zu (s:Sys) (p:Aut) (L:Nat) (t:ByteArray):Bool:=by
 classical exact inB t L&&decide (SafeW s p L (wl t))
theorem zcZ {s:Sys}{L:Nat}{t:ByteArray}:zu s p L t=jU↔inB t L=jU/\SafeW s p L (wl t):=by
 unfold zu;simp
section
variable {w:jX}{lo hi n c m d m' d' L:Nat}{A B B':Option Addr}{s:Sys}{p:Aut}
theorem spec_l9Bad (hP:zJ w lo hi B m B' m' p)(hp:zj p=jU)(hN:N=p.next.length)
  (zkh:w.ownsRow b0 3 1 (fC (fU g0) N c0) N (zag T)) :
  j6 j3 148 #[j2 #[s.al,s.st,fC A n c,p.al,fC B m d,fC B' m' d',L],fC (fU g0) N c0] w fun e w'=>e=j5 (.bool (badT p T N))/\Ext w w':=by
 have l:1<=N/\N<=12:=by have:=(zl hp).2.1;omega
 have g:m'=N:=by rw [hP.n2,(zl hp).2.2.1,hN]
 have r:=za (fun W (hW:Ext w W) q hq=>zfD (q:=q) (hP.ext hW) hq);obtain⟨w1,U0⟩:∃ x,Hid (w.alloc (.cells #[s.al,s.st,fC A n c,p.al,fC B m d,fC B' m' d',L] 70)=x):=⟨_,za rfl⟩;have hw1:Ext w w1:=((cY _).alloc _).trans (Ext.eq_ U0.out);have b1:=eA U0.out;subst g;clear hP hN
 go_enter Tryz.func148,Tryz.ntmps148
 go_upto_region 1 with fail
 rw [U0.out] at *;have y:=b1.cell;go_wp2_with fail
 go_loop [5] (fun iv=>∃ i:Nat,iv=.int iX i/\i<=m'/\Hid (∀ j,j<i->T.getD j 0=0\/zat p j=jU)) (fun iv=>m' - (intOf iv).toNat)
 case atStart=>exact⟨0,rfl,dF _,za (fun j h=>oM)⟩
 case round =>
  obtain⟨i,rfl,hi,a⟩:=hrel
  by_cases hlt:i<m'
  ·have o:(i:Int)<(m':Int):=oM;obtain⟨v,rfl,k⟩:=r.out w1 hw1 i hlt;have t:=zcr (zi zkh hw1) hlt;obtain⟨x,hx⟩:∃ x,Hid (T.getD i 0=x):=⟨_,rfl⟩;rw [hx.out] at t
   by_cases h0:x=0
   ·subst h0;go_wp2_with fail
    go_round
    case rel=>exact⟨i+1,gM,oM,za (fun j hj=>by
     rcases dX (eF hj) with h1|rfl
     ·exact a.out j h1
     ·exact .inl hx.out)⟩
    case measure=>exact uM
   ·have u:((x:Int) != 0)=jU:=by simp;omega
    cases zki:zat p i
    ·have f:=za (show badT p T m'=jU from zjl.2 ⟨i,hlt,by rw [hx.out];exact h0,zki⟩);rw [zki] at k;clear zki h0;go_wp2_with fail
     go_ret;exact⟨zr (by rw [f.out]),hw1⟩
    ·have b:=za zki;rw [zki] at k;clear zki h0;go_wp2_with fail
     go_round
     case rel=>exact⟨i+1,gM,oM,za (fun j hj=>by
      rcases dX (eF hj) with h1|rfl
      ·exact a.out j h1
      ·exact .inr b.out)⟩
     case measure=>exact uM
  ·obtain rfl:i=m':=oM;have f:=za (show badT p T i=j1 by
    rw [eU];intro h;obtain⟨j,h1,h2,h3⟩:=zjl.1 h;rcases a.out j h1 with h4|h4
    ·exact h2 h4
    ·rw [h3] at h4;cases h4)
   go_wp2_with fail
   go_ret;exact⟨zr (by rw [f.out]),hw1⟩
theorem zfi (hS:zU w lo hi A n s)(hP:zJ w lo hi B m B' m' p)(hv:zk s=jU)(hp:zj p=jU)(hL:L<64) :
  j6 j3 145 #[j2 #[s.al,s.st,fC A n c,p.al,fC B m d,fC B' m' d',L]] w fun e w'=>e=j5 (.bool jU)/\Ext w w':=by
 have g:=za (fun W (hW:Ext w W)=>zax (c:=c) (hS.ext hW));have f:=za (fun W (hW:Ext w W)=>zQ _ _ _ _ d _ _ d' _ _ (hP.ext hW));rw [hv] at g;rw [hp] at f;have b:=za (show (decide ((0:Int)<=L/\(L:Int)<=63))=jU by simp;omega);clear hS hP hv hp
 go_enter Tryz.func145,Tryz.ntmps145
 go_upto_region 1 with fail
 generalize U0:w.alloc _=w1 at *;obtain⟨hw1,b1⟩:=gH U0;clear U0;have i:=b1.cells;have h:=cY w1;go_wp2_with (first
  |(go_at_call 185;refine (g.out _ hw1).mono (mQ fun w2 hx2=>?_))
  |(go_at_call 79;refine (f.out _ (hw1.trans hx2)).mono (mQ fun w3 hx3=>?_);have a:=hx2.trans hx3)
  |(go_at_call 142;refine (zX _ _).mono ?_;rw [b.out];rintro e w4 ⟨rfl,rfl⟩))
 go_ret;exact⟨rfl,hw1.trans a⟩
theorem zjm (h:zaP T N (PR s p L (v.take k))):badT p T N=jU↔Bad s p L (v.take k):=zjl.trans (stand_bad h).symm
theorem zgc {t:ByteArray}(hS:zU w lo hi A n s)(hP:zJ w lo hi B m B' m' p)(hv:zk s=jU)(hp:zj p=jU)(hL:L<64)(hhi:hi<=w.heap.size)(ht:t.size<=9223372036854775807) :
  j6 j3 62 #[j2 #[s.al,s.st,fC A n c,p.al,fC B m d,fC B' m' d',L],t] w fun e w'=>e=j5 (.bool (zu s p L t))/\Ext w w':=by
 obtain⟨N,O⟩:∃ N,Hid (N=p.next.length):=⟨_,rfl⟩;have Z:=za (fun W (hW:Ext w W)=>zfi (c:=c) (d:=d) (d':=d') (L:=L) (hS.ext hW) (hP.ext hW) hv hp hL);have I:=za (fun W (hW:Ext w W)=>spec_l9Start (c:=c) (d:=d) (d':=d') (L:=L) (N:=N) (hS.ext hW) (hP.ext hW) hv hp hL (dL hhi hW.size) O.out);have G:=za (fun (g0 r c0:Nat) (T:List Nat) W (hW:Ext w W) (ho:W.ownsRow r 3 1 (fC (fU g0) N c0) N (zag T))=>spec_l9Bad (A:=A) (n:=n) (c:=c) (d:=d) (d':=d') (L:=L) (s:=s) (hP.ext hW) hp O.out ho);have HM:=za (fun (l g0 r c0:Nat) (T:List Nat) (Q:Nat->Nat->Prop) W (hW:Ext w W) (E:l<6) (ho:W.ownsRow r 3 1 (fC (fU g0) N c0) N (zag T)) (q:zaP T N Q)=>spec_l9Move (c:=c) (d:=d) (d':=d') (L:=L) (hS.ext hW) (hP.ext hW) hv hp hL (dL hhi hW.size) O.out E ho q);have hw1:Ext w (w.alloc (.cells #[s.al,s.st,fC A n c,p.al,fC B m d,fC B' m' d',L] 70)):=(cY _).alloc _;have b1:=Blk.new w 70 #[s.al,s.st,fC A n c,p.al,fC B m d,fC B' m' d',L];clear hS hP;cases hin:inB t L
 ·have o:=za hin;have zkk:=za (show zu s p L t=j1 by rw [eU];intro h;have:=(zcZ.1 h).1;rw [hin] at this;cases this);clear hin
  go_enter Tryz.func62,Tryz.ntmps62
  go_upto_region 1 with fail
  generalize w.alloc _=w1 at *;have Y:=b1.cells;have X:=cY w1;go_wp2_with (first
   |(go_at_call 145;refine (Z.out _ hw1).mono (mQ fun w2 hx2=>?_))
   |(go_at_call 146;refine (zaZ ht oM).mono ?_;rw [o.out];rintro e w3 ⟨rfl,rfl⟩))
  go_ret;exact⟨zr (by rw [zkk.out]),hw1.trans hx2⟩
 ·have o:=za hin;have M:=za (fun k R=>zaU (zbj hin) (k:=k) R);clear hin
  go_enter Tryz.func62,Tryz.ntmps62
  go_upto_region 1 with fail
  generalize w.alloc _=w1 at *;have Y:=b1.cells;have X:=cY w1;go_wp2_with (first
   |(go_at_call 145;refine (Z.out _ hw1).mono (mQ fun w2 hx2=>?_))
   |(go_at_call 146;refine (zaZ ht oM).mono ?_;rw [o.out];rintro e w3 ⟨rfl,rfl⟩)
   |(go_at_call 147;refine (I.out _ (hw1.trans hx2)).mono ?_;rintro e w4 ⟨T,g,z,rfl,zkh,q,hx4⟩;have hx14:=hx2.trans hx4))
  go_loopw [5,6] (fun v iv wr=>∃ (k g r z:Nat) (T:List Nat),iv=.int iX k/\k<=t.size/\v=fC (fU g) N z/\wr.ownsRow r 3 1 (fC (fU g) N z) N (zag T)/\Hid (zaP T N (PR s p L ((wl t).take k)))/\Hid (∀ j,j<k->¬ Bad s p L ((wl t).take j))/\Ext w1 wr) (fun _ iv _=>t.size - (intOf iv).toNat)
  case atStart=>exact⟨0,g,_,z,T,rfl,dF _,rfl,zkh,za (by simpa using q),za (fun j h=>oM),hx14⟩
  case round =>
   clear zkh q hx2 hx4 hx14;obtain⟨k,g,r,z,T,rfl,R,rfl,zkh,q,f,a⟩:=hrel
   by_cases hlt:k<t.size
   ·have aa:(k:Int)<(t.size:Int):=oM;obtain⟨l,E⟩:∃ l:Nat,Hid ((t[k].toNat:Int) - 97=l):=⟨t[k].toNat - 97,by unfold Hid;have:=M.out k hlt;omega⟩;have S:l<6:=by have:=E.out;have:=M.out k hlt;omega
    have V:=za (show (wl t).take (k+1)=(wl t).take k++[l] by rw [dN,zet hlt,eG,show t[k].toNat - 97=l by have:=E.out;have:=M.out k hlt;omega]);cases hbad:badT p T N
    ·have b:=za hbad;have U:=za (show ¬ Bad s p L ((wl t).take k) by rw [<- zjm q.out,hbad];decide);clear hbad;go_wp2_with (first|(go_at_call 148;refine (G.out _ _ _ _ _ (hw1.trans a) zkh).mono ?_;rw [b.out];rintro e w5 ⟨rfl,hx5⟩;have i:=a.trans hx5))
     have C:=za (fun W (hW:Ext wr W)=>HM.out l g r z T _ W ((hw1.trans a).trans hW) S (zi zkh hW) q.out);have H:=fun W (hW:Ext wr W)=>Y W (a.trans hW)
     go_region_held3 (fun W=>Ext wr W) (first|assumption|(refine fB ?_;assumption)|(refine eN ?_ aM;assumption)|(refine eN ?_ aM;refine fB ?_;assumption)) (first
      |(go_at_call 144;refine (zbG t k hlt _).mono ?_;rw [E.out];rintro e w6 ⟨rfl,rfl⟩)
      |(go_at_call 149;refine (C.out _ ?_).mono ?_;(first|assumption|(refine fB ?_;assumption));rintro e w7 ⟨T7,g7,c7,rfl,x,u,ai⟩))
     have F:Ext w1 w7:=a.trans aM;rw [<- PR_snoc,<- V.out] at u;have J:=za u;clear u C H;go_wp2_with fail
     go_roundw
     case rel=>exact⟨k+1,g7,_,c7,T7,gM,oM,rfl,x,J,za (fun j hj=>by
      rcases dX (eF hj) with h1|rfl
      ·exact f.out j h1
      ·exact U.out),F⟩
     case measure=>exact uM
    ·have b:=za hbad;have zkk:=za (show zu s p L t=j1 by
      rw [eU];intro h;exact (zcZ.1 h).2 k (by rw [zfl];omega) ((zjm q.out).1 hbad))
     clear hbad;go_wp2_with (first
      |(go_at_call 148;with_reducible refine (G.out _ _ _ _ _ (hw1.trans a) zkh).mono ?_;rw [b.out];rintro e w5 ⟨rfl,hx5⟩;have i:=a.trans hx5)
      |(go_at_call 148;refine (G.out _ _ _ _ _ (hw1.trans i) (zi zkh hx5)).mono ?_;rw [b.out];rintro e w6 ⟨rfl,y⟩))
     go_ret;exact⟨zr (by rw [zkk.out]),hw1.trans (i.trans y)⟩
   ·have D:k=t.size:=oM;have ah:(t.size:Int)<=(k:Int):=oM;have zkk:=za (show zu s p L t=!badT p T N by
     rw [gJ,zcZ,gG,<- Bool.not_eq_true,zjm q.out];constructor
     ·intro h;exact h.2 k (by rw [zfl];omega)
     ·intro h;refine⟨o.out,fun j hj=>?_⟩;rw [zfl] at hj;rcases dX hj with h1|rfl
      ·exact f.out j oM
      ·rw [D] at h;exact h)
    clear D hlt R;go_wp2_with (first
     |(go_at_call 148;refine (G.out _ _ _ _ _ (hw1.trans a) zkh).mono (mQ fun w6 y=>?_)))
    go_ret;exact⟨zr (by rw [zkk.out]),hw1.trans (a.trans y)⟩
end
def RetNumS (w:jX) (e:Ending) (w':jX):Prop:=∃ (n:Int) (ok:Bool),e=j5 (.tuple #[n,j7 ok])/\w=w'
theorem zej (hs:s.size<=1000000) :
  j6 j3 258 #[s] w (RetNumS w):=by
 by_cases h0:s.size=0
 ·have c:¬ 0<s.size:=oM
  go_enter Tryz.func258,Tryz.ntmps258
  go_wp2;go_ret2;exact⟨0,j1,rfl,rfl⟩
 have c:0<s.size:=oM;cases hm:((s[0].toNat:Int)==45)
 ·have m:0<s.size:=c
  by_cases z0:s.size=0
  ·go_enter Tryz.func258,Tryz.ntmps258
   go_wp2;go_ret2;exact⟨0,j1,rfl,rfl⟩
  have q:0<s.size:=oM;have f:((s.size:Int)==0)=j1:=by rw [beq_eq_false_iff_ne];omega
  by_cases z2:17<s.size
  ·have a:(17:Int)<(s.size:Int):=oM
   go_enter Tryz.func258,Tryz.ntmps258
   go_wp2;go_ret2;exact⟨0,j1,rfl,rfl⟩
  have a:(s.size:Int)<=17:=oM;cases z3:((s[0].toNat:Int)==48)
  ·go_enter Tryz.func258,Tryz.ntmps258
   go_wp2_with fail
   go_loop [5,6] (fun v i=>∃ (k:Nat) (n:Int),k<=s.size/\i=.int iX k/\v=.int iX n) (fun _ i=>s.size - (intOf i).toNat)
   case atStart=>exact⟨0,0,dF _,rfl,rfl⟩
   case round =>
    obtain⟨k,n,h,rfl,rfl⟩:=hrel
    by_cases hlt:k<s.size
    ·have g:=zcB s k hlt
     by_cases c0:(s[k].toNat:Int)<48
     ·go_wp2_with fail
      go_ret2;exact⟨0,j1,rfl,rfl⟩
     ·by_cases c1:57<(s[k].toNat:Int)
      ·go_wp2_with fail
       go_ret2;exact⟨0,j1,rfl,rfl⟩
      ·go_wp2_with fail
       go_round
       case rel=>exact⟨k+1,_,oM,gM,rfl⟩
       case measure=>exact uM
    ·obtain rfl:k=s.size:=oM;go_wp2_with fail
     go_ret2;exact⟨_,jU,rfl,rfl⟩
  ·by_cases z4:1<s.size
   ·have b:(1:Int)<(s.size:Int):=oM
    go_enter Tryz.func258,Tryz.ntmps258
    go_wp2;go_ret2;exact⟨0,j1,rfl,rfl⟩
   ·have b:(s.size:Int)<=1:=oM
    go_enter Tryz.func258,Tryz.ntmps258
    go_wp2_with fail
    go_loop [5,6] (fun v i=>∃ (k:Nat) (n:Int),k<=s.size/\i=.int iX k/\v=.int iX n) (fun _ i=>s.size - (intOf i).toNat)
    case atStart=>exact⟨0,0,dF _,rfl,rfl⟩
    case round =>
     obtain⟨k,n,h,rfl,rfl⟩:=hrel
     by_cases hlt:k<s.size
     ·have g:=zcB s k hlt
      by_cases c0:(s[k].toNat:Int)<48
      ·go_wp2_with fail
       go_ret2;exact⟨0,j1,rfl,rfl⟩
      ·by_cases c1:57<(s[k].toNat:Int)
       ·go_wp2_with fail
        go_ret2;exact⟨0,j1,rfl,rfl⟩
       ·go_wp2_with fail
        go_round
        case rel=>exact⟨k+1,_,oM,gM,rfl⟩
        case measure=>exact uM
     ·obtain rfl:k=s.size:=oM;go_wp2_with fail
      go_ret2;exact⟨_,jU,rfl,rfl⟩
 ·obtain⟨y,o⟩:∃ y,s.extract 1 s.size=y:=⟨_,rfl⟩;have d:y.size=s.size - 1:=by rw [<- o,ByteArray.size_extract];omega
  have p:y.size<=1000000:=oM;have j:=za d;clear d;have l:(1:Int)<=(s.size:Int):=oM
  by_cases z0:y.size=0
  ·go_enter Tryz.func258,Tryz.ntmps258
   go_wp2;go_ret2;exact⟨0,j1,rfl,rfl⟩
  have q:0<y.size:=oM;have f:((y.size:Int)==0)=j1:=by rw [beq_eq_false_iff_ne];omega
  by_cases z2:17<y.size
  ·have a:(17:Int)<(y.size:Int):=oM
   go_enter Tryz.func258,Tryz.ntmps258
   go_wp2;go_ret2;exact⟨0,j1,rfl,rfl⟩
  have a:(y.size:Int)<=17:=oM;cases z3:((y[0].toNat:Int)==48)
  ·go_enter Tryz.func258,Tryz.ntmps258
   go_wp2_with fail
   go_loop [5,6] (fun v i=>∃ (k:Nat) (n:Int),k<=y.size/\i=.int iX k/\v=.int iX n) (fun _ i=>y.size - (intOf i).toNat)
   case atStart=>exact⟨0,0,dF _,rfl,rfl⟩
   case round =>
    obtain⟨k,n,h,rfl,rfl⟩:=hrel
    by_cases hlt:k<y.size
    ·have g:=zcB y k hlt
     by_cases c0:(y[k].toNat:Int)<48
     ·go_wp2_with fail
      go_ret2;exact⟨0,j1,rfl,rfl⟩
     ·by_cases c1:57<(y[k].toNat:Int)
      ·go_wp2_with fail
       go_ret2;exact⟨0,j1,rfl,rfl⟩
      ·go_wp2_with fail
       go_round
       case rel=>exact⟨k+1,_,oM,gM,rfl⟩
       case measure=>exact uM
    ·obtain rfl:k=y.size:=oM;go_wp2_with fail
     go_ret2;exact⟨_,jU,rfl,rfl⟩
  ·by_cases z4:1<y.size
   ·have b:(1:Int)<(y.size:Int):=oM
    go_enter Tryz.func258,Tryz.ntmps258
    go_wp2;go_ret2;exact⟨0,j1,rfl,rfl⟩
   ·have b:(y.size:Int)<=1:=oM
    go_enter Tryz.func258,Tryz.ntmps258
    go_wp2;go_ret2;exact⟨0,j1,rfl,rfl⟩
theorem zo:(j3.info? 9).map (fun i=>(i.zero,i.size,i.bytes))=fU (fU (.string ⟨#[]⟩),1,16):=kM
def RetStrs (L N:Nat) (w:jX) (e:Ending) (w':jX):Prop:=∃ (A:Option Addr) (n c:Nat) (l:List ByteArray),e=j5 (fC A n c)/\n=l.length/\w'.ownsRow w.heap.size 9 1 (fC A n c) n (zO l)/\(∀ x∈l,x.size<=L)/\n<=N/\Ext w w'
theorem zcx (x:ByteArray):∀ u∈(#[Value.string x]:Array j4).toList,u.oneCell'=jU:=by simp [Value.oneCell']
theorem spec_l19Cut (hs:s.size<=1000000) :
  j6 j3 250 #[s,.int .u8 32] w (RetStrs s.size (s.size+1) w):=by
 go_enter Tryz.func250,Tryz.ntmps250
 go_wp2_with fail
 go_loopw [5,6,7] (fun v f i wr=>∃ (k m:Nat) (l:List ByteArray),k<=s.size+1/\i=.int iX k/\m<=k/\f=.int iX m/\l.length<=k/\wr.ownsRow w.heap.size 9 1 v l.length (zO l)/\Hid (∀ x∈l,x.size<=s.size)/\Ext w wr) (fun _ _ i _=>s.size+1 - (intOf i).toNat)
 case atStart=>exact⟨0,0,[],dF _,rfl,dD _,rfl,dD _,World.ownsRow_lit w #[] 0 (dD _) lM rfl,(fun x hx=>by cases hx),(cY _).alloc _⟩
 case round =>
  obtain⟨k,m,l,r,rfl,u,rfl,t,zkh,d,a⟩:=hrel
  by_cases hle:k<=s.size
  ·have n:(k:Int)<=(s.size:Int):=oM;have o:(m:Int)<=(k:Int):=oM;have h:=za (show (s.extract m k).size<=s.size by rw [ByteArray.size_extract];omega);have b:=za (show ∀ x∈l++[s.extract m k],x.size<=s.size from fun x hx=>by
    rcases kD.1 hx with h1|h1
    ·exact d.out x h1
    ·rw [List.mem_singleton.1 h1];exact h.out)
   by_cases he:k=s.size
   ·have g:((k:Int)==(s.size:Int))=jU:=by simp [he]
    have p:=za he;clear he;go_wp2_with (at_builtin;refine zW w wr rfl _ _ _ rfl 9 _ 1 16 Tryz.underlying88 zo rfl dM u5 _ _ _ _ rfl rfl a zkh rfl (zcx _) lM oM ?_;intro v' w1 hext1 zkq hg1 hat1)
    go_roundw
    case rel=>exact⟨k+1,k+1,l++[s.extract m k],oM,gM,oM,gM,by simp;omega,by simpa [zO] using zkq,b.out,aM⟩
    case measure=>exact uM
   ·have g:((k:Int)==(s.size:Int))=j1:=by rw [beq_eq_false_iff_ne];omega
    have j:k<s.size:=oM;have q:=zcB s k j;cases hc:((s[k].toNat:Int)==32)
    ·go_wp2_with fail
     go_roundw
     case rel=>exact⟨k+1,m,l,oM,gM,oM,rfl,oM,zkh,d,a⟩
     case measure=>exact uM
    ·go_wp2_with (at_builtin;refine zW w wr rfl _ _ _ rfl 9 _ 1 16 Tryz.underlying88 zo rfl dM u5 _ _ _ _ rfl rfl a zkh rfl (zcx _) lM oM ?_;intro v' w1 hext1 zkq hg1 hat1)
     go_roundw
     case rel=>exact⟨k+1,k+1,l++[s.extract m k],oM,gM,oM,gM,by simp;omega,by simpa [zO] using zkq,b.out,aM⟩
     case measure=>exact uM
  ·obtain rfl:k=s.size+1:=oM;obtain⟨A,c,rfl⟩:=zh zkh;go_wp2_with fail
   go_ret;exact⟨A,_,c,l,rfl,rfl,zkh,d.out,oM,a⟩
def RetEdgeS (w:jX) (e:Ending) (w':jX):Prop:=∃ (x:Edg) (ok:Bool),e=j5 (.tuple #[j2 #[x.fr,x.le,x.ta],j7 ok])/\Ext w w'
theorem spec_l2Parse (hs:s.size<=1000000) :
  j6 j3 259 #[s] w (RetEdgeS w):=by
 go_enter Tryz.func259,Tryz.ntmps259
 go_wp2_with fail
 generalize U0:w.alloc _=w1 at *;have c:=Ext.al_ U0;have b:=eA U0;clear U0
 go_loop [4] (fun i=>∃ k:Nat,k<=s.size/\i=.int iX k) (fun i=>s.size - (intOf i).toNat)
 case atStart=>exact⟨0,dF _,rfl⟩
 case round =>
  obtain⟨k,r,rfl⟩:=hrel;have h:=b.cell;have o:=b.frozen
  by_cases hlt:k<s.size
  ·have q:=zcB s k hlt
   by_cases c0:(97:Int)<=(s[k].toNat:Int)
   ·by_cases c1:(s[k].toNat:Int)<=102
    ·have j:=za (show (s.extract 0 k).size<=1000000 by rw [ByteArray.size_extract];omega);have l:=za (show (s.extract (k+1) s.size).size<=1000000 by rw [ByteArray.size_extract];omega);have n:(k:Int)+1<=(s.size:Int):=oM;go_wp2_with fail
     refine (zej j.out).mono ?_;rintro e w2 ⟨f,m,rfl,rfl⟩;go_wp2_with fail
     refine (zej l.out).mono ?_;rintro e w2 ⟨g,d,rfl,rfl⟩;go_wp2_with fail
     refine (zbG s k hlt _).mono ?_;rintro e w2 ⟨rfl,rfl⟩;have zkk:∀ u0 u1 u2,Ext w (((w1.setCell w.heap.size u0).setCell ⟨w.heap.size,1,fV⟩ u1).setCell ⟨w.heap.size,2,fV⟩ u2):=fun u0 u1 u2=>((c.setCell (dD _) u0).setCell (dD _) u1).setCell (dD _) u2;have a:=za zkk;clear zkk;cases m
     ·go_wp2_with fail
      exact bodyPost_ret (v:=.tuple #[j2 #[f,.int iX ((s[k].toNat:Int) - 97),g],j7 j1]) (by simp [results,Tryz.results259,go_sem,h]) rfl ⟨⟨f,(s[k].toNat:Int) - 97,g⟩,j1,rfl,a.out _ _ _⟩
     ·go_wp2_with fail
      exact bodyPost_ret (v:=.tuple #[j2 #[f,.int iX ((s[k].toNat:Int) - 97),g],j7 d]) (by simp [results,Tryz.results259,go_sem,h]) rfl ⟨⟨f,(s[k].toNat:Int) - 97,g⟩,d,rfl,a.out _ _ _⟩
    ·go_wp2_with fail
     go_round
     case rel=>exact⟨k+1,oM,gM⟩
     case measure=>exact uM
   ·go_wp2_with fail
    go_round
    case rel=>exact⟨k+1,oM,gM⟩
    case measure=>exact uM
  ·obtain rfl:k=s.size:=oM;go_wp2_with fail
   refine bodyPost_ret (v:=.tuple #[j2 #[(0:Int),(0:Int),(0:Int)],j7 j1]) (by simp [results,Tryz.results259,go_sem,h]) rfl ⟨⟨0,0,0⟩,j1,rfl,?_⟩;exact ((c.setCell (p:=⟨w.heap.size,0,fV⟩) (dD _) _).setCell (p:=⟨w.heap.size,1,fV⟩) (dD _) _).setCell (p:=⟨w.heap.size,2,fV⟩) (dD _) _
end Go.Proofs.YtckbjnndaaoddaaGreatDoor
