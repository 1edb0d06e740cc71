/- AssumptionFa -/
import Derived.Test.YtcfchopfijalpaaGreatDoorE06
set_option maxHeartbeats 4000000
set_option maxRecDepth 100000
namespace Go.Proofs.YtcfchopfijalpaaGreatDoor
open Go Go.RowKit
open Blk renaming new->dX
open Bool renaming and_eq_true->dG,eq_false_iff->eO,eq_iff_iff->gL,or_eq_true->fR,true_and->jD
open Ext renaming refl->cY,x1_->gG
open List renaming all_eq_true->eH,eq_nil_of_length_eq_zero->dN,foldl_cons->iF,getD_eq_getElem?_getD->dH,getElem?_eq_getElem->dC,getElem?_map->dP,getElem?_of_mem->dY,getElem?_set_ne->fL,getElem?_set_self->eQ,length_append->dO,length_singleton->eB,map_cons->fN,mem_cons_of_mem->eC,mem_cons_self->gJ,mem_of_getElem?->dB,mem_of_mem_take->fY,mem_or_eq_of_mem_set->eX,mem_replicate->iO,replicate->dQ,take_add_one->dK,take_of_length_le->dI
open Nat renaming div_eq_of_lt->iW,le_refl->dD,le_trans->dJ,lt_of_lt_of_le->dZ,mod_eq_of_lt->iB,mod_mul_right_div_self->jI,mul_comm->fJ,or_lt_two_pow->eL,pow_le_pow_right->eE,testBit_and->fV,testBit_or->gU,zero_le->dF
open Option renaming getD_some->fI,toList_some->eD
variable {A:Option Addr} {T ls v:List Nat} {a i k l n q x:Nat} {es:List Edg} {p:Aut} {s:ByteArray} {ss:List Sys} {w:World}
theorem zgh {w':World} {cs ds es fs:Array Value} {t u v x:TypeId}(h:Ext ((((w.alloc (.cells cs t)).alloc (.cells ds u)).alloc (.cells es v)).alloc (.cells fs x)) w'):Blk w' w.heap.size t cs∧Blk w' (w.heap.size+1) u ds∧Blk w' (w.heap.size+1+1) v es∧Blk w' (w.heap.size+1+1+1) x fs:=by
 have a:=zL (((cY _).alloc _).trans h);refine⟨a.1,a.2.1,a.2.2,?_⟩;have:=zcu h;simpa using this
noncomputable def zaF (s t:Sys) (p a:Aut):Int:=if iface s p t<0∨zj a=false then 1 else if a.al≠iface s p t then 2 else if zbA s a p=false then 3 else if zaR [t] a=false then 4 else 0
section
variable {lo hi n c:Nat} {A:Option Addr} {s:Sys} {lo1 hi1 m1 d1 m1' d1':Nat} {B B':Option Addr} {p:Aut} {lo2 hi2 k c2:Nat} {C:Option Addr} {t:Sys} {w:World}
variable {lo3 hi3 m2 d2 m2' d2':Nat} {D D':Option Addr} {a:Aut}
theorem yE07a4 {P:Prop}(h:P:=by
 go_enter Tryz.func117,Tryz.ntmps117
 go_upto_region 1 with fail
 generalize (((w.alloc _).alloc _).alloc _).alloc _=w1 at *;have c1:=b1.cell;have c2:=b2.cell;have c3:=b3.cell;go_wp2_with (first
  |(go_at_call 114;with_reducible refine (HI.out _ hw1).mono (mQ fun w2 hx2=>?_);have hw2:=hw1.trans hx2;have c42:=(b4.ext hx2).cell)
  |(go_at_call 200;with_reducible refine (HA.out _ hw2).mono ?_;rw [H1.out];rintro e w3 ⟨rfl,hx3⟩;have hx13:=hx2.trans hx3;have hw3:=hw1.trans hx13;have c13:=(b1.ext hx13).cell;have c33:=(b3.ext hx13).cell;have c43:=(b4.ext hx13).cell)
  |(go_at_call 204;with_reducible refine (HU.out _ hw3).mono (mQ fun w4 hx4=>?_);have hx14:=hx13.trans hx4;have hw4:=hw1.trans hx14;have c24:=(b2.ext hx14).cell;have c44:=(b4.ext hx14).cell)
  |(go_at_call 205;with_reducible refine (HK.out _ hw4).mono (mQ fun w5 hx5=>?_);have hw5:=hw4.trans hx5))
 go_ret;exact⟨zF (by rw [hr.out];try rfl),by first|exact hw5|exact hw4|exact hw3|exact hw2⟩
 ):P:=h
theorem zfr (h:zP w lo hi A n s)(ht:zP w lo2 hi2 C k t)(hp:zJ w lo1 hi1 B m1 B' m1' p)(ha:zJ w lo3 hi3 D m2 D' m2' a) :
  Calls Tryz.prog 117 #[.agg #[s.al,s.st,.slice A n c],.agg #[t.al,t.st,.slice C k c2],.agg #[p.al,.slice B m1 d1,.slice B' m1' d1'],.agg #[a.al,.slice D m2 d2,.slice D' m2' d2']] w fun e w'=>e=.returned (.int .i64 (zaF s t p a))∧Ext w w':=by
 have HI:=za (fun W (hW:Ext w W)=>zbp (c:=c) (d1:=d1) (d1':=d1') (c2:=c2) (h.ext hW) (hp.ext hW) (ht.ext hW));have HA:=za (fun W (hW:Ext w W)=>zN _ _ _ _ d2 _ _ d2' _ _ (ha.ext hW));have HU:=za (fun W (hW:Ext w W)=>ziq (c:=c) (d1:=d2) (d1':=d2') (d2:=d1) (d2':=d1') (h.ext hW) (ha.ext hW) (hp.ext hW));have HK:=za (fun W (hW:Ext w W)=>zgB (c:=c2) (d2:=d2) (d2':=d2') (ht.ext hW) (ha.ext hW));have hr:=za (show zaF s t p a=if iface s p t<0∨zj a=false then 1 else if a.al≠iface s p t then 2 else if zbA s a p=false then 3 else if zaR [t] a=false then 4 else 0 from rfl);clear h hp ht ha;have hw1:Ext w ((((w.alloc (.cells #[s.al,s.st,.slice A n c] 38)).alloc (.cells #[t.al,t.st,.slice C k c2] 38)).alloc (.cells #[p.al,.slice B m1 d1,.slice B' m1' d1'] 31)).alloc (.cells #[a.al,.slice D m2 d2,.slice D' m2' d2'] 31)):=((((cY w).alloc _).alloc _).alloc _).alloc _;obtain⟨b1,b2,b3,b4⟩:=zgh (cY ((((w.alloc (.cells #[s.al,s.st,.slice A n c] 38)).alloc (.cells #[t.al,t.st,.slice C k c2] 38)).alloc (.cells #[p.al,.slice B m1 d1,.slice B' m1' d1'] 31)).alloc (.cells #[a.al,.slice D m2 d2,.slice D' m2' d2'] 31)));generalize iface s p t=I at *;generalize zbA s a p=u at *;generalize zaR [t] a=v at *
 by_cases hI:I<0
 ·rw [if_pos (Or.inl hI)] at hr;obtain⟨y,H1⟩:∃ y,Hid (zj a=y):=⟨_,rfl⟩;have g:=za hI;exact yE07a4
 have b:¬ I<0:=hI;have f:0<=I:=oM;clear hI;cases h1:zj a
 ·rw [h1,if_pos (Or.inr rfl)] at hr;have H1:=za h1;clear h1;exact yE07a4
 rw [h1,if_neg (by rintro (h|h);exact b h;cases h)] at hr;have H1:=za h1;clear h1
 by_cases h2:a.al=I
 ·rw [if_neg (fun hn=>hn h2)] at hr;subst h2;cases u<;>cases v
  all_goals
   have i:=za (rfl:true=true);have j:=za (rfl:true=true);exact yE07a4
 ·rw [if_pos h2] at hr;have d:(a.al==I)=false:=by simpa using h2
  exact yE07a4
theorem yE07a5 {P:Prop}(h:P:=by
 go_enter Tryz.func109,Tryz.ntmps109
 go_upto_region 1 with fail
 generalize (((w.alloc _).alloc _).alloc _).alloc _=w1 at *;have c1:=b1.cell;have c2:=b2.cell;have c3:=b3.cell;go_wp2_with (first
  |(go_at_call 188;with_reducible refine (HI.out _ hw1).mono (mQ fun w2 hx2=>?_);have hw2:=hw1.trans hx2;have c42:=(b4.ext hx2).cell)
  |(go_at_call 95;with_reducible refine (HA.out _ hw2).mono ?_;rw [H1.out];rintro e w3 ⟨rfl,hx3⟩;have hx13:=hx2.trans hx3;have hw3:=hw1.trans hx13;have c13:=(b1.ext hx13).cell;have c33:=(b3.ext hx13).cell;have c43:=(b4.ext hx13).cell)
  |(go_at_call 100;with_reducible refine (HU.out _ hw3).mono (mQ fun w4 hx4=>?_);have hx14:=hx13.trans hx4;have hw4:=hw1.trans hx14;have c24:=(b2.ext hx14).cell;have c44:=(b4.ext hx14).cell)
  |(go_at_call 101;with_reducible refine (HK.out _ hw4).mono (mQ fun w5 hx5=>?_);have hw5:=hw4.trans hx5))
 go_ret;exact⟨zF (by rw [hr.out];try rfl),by first|exact hw5|exact hw4|exact hw3|exact hw2⟩
 ):P:=h
theorem zfl (h:zP w lo hi A n s)(ht:zP w lo2 hi2 C k t)(hp:zJ w lo1 hi1 B m1 B' m1' p)(ha:zJ w lo3 hi3 D m2 D' m2' a)(hT:Tab w) :
  Calls Tryz.prog 109 #[.agg #[s.al,s.st,.slice A n c],.agg #[t.al,t.st,.slice C k c2],.agg #[p.al,.slice B m1 d1,.slice B' m1' d1'],.agg #[a.al,.slice D m2 d2,.slice D' m2' d2']] w fun e w'=>e=.returned (.int .i64 (zaF s t p a))∧Ext w w':=by
 have HI:=za (fun W (hW:Ext w W)=>zcZ (c:=c) (d1:=d1) (d1':=d1') (c2:=c2) (h.ext hW) (hp.ext hW) (ht.ext hW));have HA:=za (fun W (hW:Ext w W)=>zI _ _ _ _ d2 _ _ d2' _ _ (ha.ext hW));have HU:=za (fun W (hW:Ext w W)=>zhX (c:=c) (d1:=d2) (d1':=d2') (d2:=d1) (d2':=d1') (h.ext hW) (ha.ext hW) (hp.ext hW) (hT.ext hW));have HK:=za (fun W (hW:Ext w W)=>zgn (c:=c2) (d2:=d2) (d2':=d2') (ht.ext hW) (ha.ext hW) (hT.ext hW));have hr:=za (show zaF s t p a=if iface s p t<0∨zj a=false then 1 else if a.al≠iface s p t then 2 else if zbA s a p=false then 3 else if zaR [t] a=false then 4 else 0 from rfl);clear h hp ht ha;have hw1:Ext w ((((w.alloc (.cells #[s.al,s.st,.slice A n c] 38)).alloc (.cells #[t.al,t.st,.slice C k c2] 38)).alloc (.cells #[p.al,.slice B m1 d1,.slice B' m1' d1'] 31)).alloc (.cells #[a.al,.slice D m2 d2,.slice D' m2' d2'] 31)):=((((cY w).alloc _).alloc _).alloc _).alloc _;obtain⟨b1,b2,b3,b4⟩:=zgh (cY ((((w.alloc (.cells #[s.al,s.st,.slice A n c] 38)).alloc (.cells #[t.al,t.st,.slice C k c2] 38)).alloc (.cells #[p.al,.slice B m1 d1,.slice B' m1' d1'] 31)).alloc (.cells #[a.al,.slice D m2 d2,.slice D' m2' d2'] 31)));generalize iface s p t=I at *;generalize zbA s a p=u at *;generalize zaR [t] a=v at *
 by_cases hI:I<0
 ·rw [if_pos (Or.inl hI)] at hr;obtain⟨y,H1⟩:∃ y,Hid (zj a=y):=⟨_,rfl⟩;have g:=za hI;exact yE07a5
 have b:¬ I<0:=hI;have f:0<=I:=oM;clear hI;cases h1:zj a
 ·rw [h1,if_pos (Or.inr rfl)] at hr;have H1:=za h1;clear h1;exact yE07a5
 rw [h1,if_neg (by rintro (h|h);exact b h;cases h)] at hr;have H1:=za h1;clear h1
 by_cases h2:a.al=I
 ·rw [if_neg (fun hn=>hn h2)] at hr;subst h2;cases u<;>cases v
  all_goals
   have i:=za (rfl:true=true);have j:=za (rfl:true=true);exact yE07a5
 ·rw [if_pos h2] at hr;have d:(a.al==I)=false:=by simpa using h2
  exact yE07a5
end
def wl (s:ByteArray):List Nat:=s.data.toList.map fun b=>b.toNat - 97
theorem zeK (s:ByteArray):(wl s).length=s.size:=by simp [wl]
theorem zdC (hk:k<s.size):(wl s)[k]?=some (s[k].toNat - 97):=by
 unfold wl;rw [dP,zct s k hk];rfl
theorem zaL (h:zaW s=true) (hk:k<s.size):97<=s[k].toNat∧s[k].toNat<=102:=by
 unfold zaW at h;simp only [dG,eH] at h;have:=h.2 s[k] (dB (zct s k hk));simp only [zdt,decide_eq_true_eq] at this;omega
theorem zbk (h:zaW s=true):s.size<=50000:=by
 unfold zaW at h;simp only [dG,decide_eq_true_eq] at h;exact h.1
theorem ziD (h:zaW s=true):∀ l∈wl s,l<6:=by
 intro l hl;obtain⟨k,b⟩:=dY hl;have a:=(List.getElem?_eq_some_iff.1 b).1;rw [zeK] at a;rw [zdC a] at b;have:=zaL h a;have:=Option.some.inj b;omega
def alB (ls:List Nat):Nat:=ls.foldl (fun u l=>u|||2 ^ l) 0
theorem alB_snoc (ls:List Nat) (l:Nat):alB (ls++[l])=alB ls|||2 ^ l:=by simp [alB]
theorem zep (ls:List Nat) (k:Nat):(alB ls).testBit k=true↔k∈ls:=by
 have a:∀ (ls:List Nat) (u:Nat),(ls.foldl (fun u l=>u|||2 ^ l) u).testBit k=true↔u.testBit k=true∨k∈ls:=by
  intro ls
  induction ls with
  |nil=>intro u;simp
  |cons l r ih =>
   intro u;rw [iF,ih,gU,Nat.testBit_two_pow,fR,decide_eq_true_eq,List.mem_cons];constructor
   ·rintro ((h|h)|h)
    ·exact Or.inl h
    ·exact Or.inr (Or.inl h.symm)
    ·exact Or.inr (Or.inr h)
   ·rintro (h|h|h)
    ·exact Or.inl (Or.inl h)
    ·exact Or.inl (Or.inr h.symm)
    ·exact Or.inr h
 have:=a ls 0;simpa [alB] using this
theorem alB_lt (h:∀ l∈ls,l<6):alB ls<64:=Nat.lt_pow_two_of_testBit (n:=6) _ fun k hk=>by
 rw [eO]
 intro hb
 have:=h k ((zep ls k).1 hb)
 omega
def inB (s:ByteArray) (a:Nat):Bool:=decide (s.size<=50000)&&zeM s a
theorem zaM (h:inB s a=true):zaW s=true:=by
 unfold inB at h;simp only [dG,decide_eq_true_eq] at h;unfold zaW;simp only [dG,decide_eq_true_eq];refine⟨h.1,?_⟩;rw [eH];intro b hb;have c:=h.2;unfold zeM at c;rw [eH] at c;have d:=c b hb;unfold hasB ltr at d;simp only [dG,decide_eq_true_eq] at d;unfold zdt;rw [decide_eq_true_eq];have f:=d.1
 split at f<;>omega
theorem zfO :inB s a=true↔zaW s=true∧alB (wl s)&&&a=alB (wl s):=by
 constructor
 ·intro h;have f:=zaM h;refine⟨f,Nat.eq_of_testBit_eq fun k=>?_⟩;rw [fV];cases hk:(alB (wl s)).testBit k
  ·rfl
  ·rw [jD];have g:=(zep _ k).1 hk;obtain⟨i,d⟩:=dY g;have c:=(List.getElem?_eq_some_iff.1 d).1;rw [zeK] at c;rw [zdC c] at d;have hb:=zaL f c;have e:=Option.some.inj d;unfold inB zeM at h;simp only [dG,eH] at h;have:=h.2 s[i] (dB (zct s i c));unfold hasB ltr at this;rw [if_neg oM] at this;simp only [dG] at this;rw [← e,← this.2]
   congr 1
   omega
 ·rintro ⟨f,h⟩;unfold inB;simp only [dG,decide_eq_true_eq];refine⟨zbk f,?_⟩;unfold zeM;rw [eH];intro b hb;obtain⟨i,d⟩:=dY hb;have c:i<s.size:=by have:=(List.getElem?_eq_some_iff.1 d).1;simpa using this
  rw [zct s i c] at d;obtain rfl:=Option.some.inj d;have j:=zaL f c;unfold hasB ltr;rw [if_neg oM];have g:(alB (wl s)).testBit (s[i].toNat - 97)=true:=(zep _ _).2 (dB (zdC c));rw [← h,fV,dG] at g;simp only [dG,decide_eq_true_eq];refine⟨oM,?_⟩;rw [show ((s[i].toNat:Int) - 97).toNat=s[i].toNat - 97 by omega];exact g.2
theorem zeV (hs:s.size<=9223372036854775807) :
  Calls Tryz.prog 219 #[s] w fun e w'=>e=.returned (.tuple #[.int .i64 (if zaW s=true then alB (wl s) else 0:Nat),.bool (zaW s)])∧w=w':=by
 cases hw:zaW s
 ·have f:=za hw;clear hw
  go_enter Tryz.func219,Tryz.ntmps219
  go_wp2_with (go_at_call 138;refine (zbq s _ hs).mono ?_;rw [f.out];rintro e w' ⟨rfl,rfl⟩)
  go_ret2;exact⟨rfl,rfl⟩
 ·have q:=zbk hw;have p:=za (fun k o=>zaL hw (k:=k) o);have t:=za (ziD hw);have f:=za hw;clear hw
  go_enter Tryz.func219,Tryz.ntmps219
  go_wp2_with (go_at_call 138;refine (zbq s _ hs).mono ?_;rw [f.out];rintro e w' ⟨rfl,rfl⟩)
  go_loop [4,5] (fun v i=>∃ k u:Nat,k<=s.size∧i=.int .i64 k∧v=.int .i64 u∧u<64∧Hid (u=alB ((wl s).take k))) (fun _ i=>s.size - (intOf i).toNat)
  case atStart=>exact⟨0,0,dF _,rfl,rfl,oM,rfl⟩
  case round =>
   obtain⟨k,u,o,rfl,rfl,r,d⟩:=hrel
   by_cases hlt:k<s.size
   ·have g:=p.out k hlt;obtain⟨l,h⟩:∃ l:Nat,Hid ((s[k].toNat:Int) - 97=l):=⟨s[k].toNat - 97,by unfold Hid;omega⟩;have j:l<6:=oH h.out;have m:=za (show alB ((wl s).take (k+1))=u|||2 ^ l by
     rw [dK,zdC hlt,eD,alB_snoc,← d.out]
     congr 2
     have:=h.out;omega)
    have c:=za (show bits .or .i64 (u:Nat) ((2:Int) ^ l)=((u|||2 ^ l:Nat):Int) by
     have:=zcr (a:=u) tM (Sm.bit (n:=l) oM);rw [show (((2:Nat) ^ l:Nat):Int)=(2:Int) ^ l by simp] at this;exact this)
    have b:u|||2 ^ l<64:=eL (n:=6) r (Nat.pow_lt_pow_right oM j)
    have x:=c.out;clear g;go_wp2_with (first
     |(go_at_call 141;refine (zbE s k hlt _).mono ?_;rw [h.out];rintro e w' ⟨rfl,rfl⟩)
     |(go_at_call 241;refine (zgW l oM _).mono ?_;rintro e w' ⟨rfl,rfl⟩))
    go_round
    case rel=>exact⟨k+1,u|||2 ^ l,oM,gM,by first|rfl|rw [c.out],b,m.symm⟩
    case measure=>simp [intOf];omega
   ·obtain rfl:k=s.size:=oM;have zkx:=za (show u=alB (wl s) by rw [d.out,dI (by rw [zeK];exact dD _)]);go_wp2;go_ret2;exact⟨by rw [zkx.out];rfl,rfl⟩
theorem zaj (hs:s.size<=9223372036854775807)(ha:a<=63) :
  Calls Tryz.prog 143 #[s,a] w fun e w'=>e=.returned (.bool (inB s a))∧w=w':=by
 have d:=za (show (decide ((0:Int)<=a∧(a:Int)<=63))=true by simp;omega);cases hw:zaW s
 ·have hr:=za (show inB s a=false by
   rw [eO];intro h;rw [zaM h] at hw;cases hw)
  have c:=za hw;clear hw
  go_enter Tryz.func143,Tryz.ntmps143
  go_wp2_with (go_at_call 219;refine (zeV hs).mono ?_;rw [c.out];rintro e w' ⟨rfl,rfl⟩)
  go_ret;exact⟨zm (by rw [hr.out]),rfl⟩
 ·obtain⟨u,g⟩:∃ u,Hid (alB (wl s)=u):=⟨_,rfl⟩;have i:u<64:=by rw [← g.out];exact alB_lt (ziD hw)
  have f:=za (zdi (a:=u) (b:=a) tM tM);have hb:=f.out;have hr:=za (show inB s a=(((u&&&a:Nat):Int)==(u:Int)) by
   rw [gL,zfO,g.out,beq_iff_eq];constructor
   ·rintro ⟨_,h⟩;rw [h]
   ·intro h;exact⟨hw,oM⟩)
  have c:=za hw;clear hw
  go_enter Tryz.func143,Tryz.ntmps143
  go_wp2_with (first
   |(go_at_call 219;refine (zeV hs).mono ?_;rw [c.out,if_pos rfl,g.out];rintro e w' ⟨rfl,rfl⟩)
   |(go_at_call 139;refine (zX _ _).mono ?_;rw [d.out];rintro e w' ⟨rfl,rfl⟩))
  go_ret;exact⟨zm (by rw [hr.out]),rfl⟩
def zjE (bs:List UInt8):List Int:=bs.map fun b=>(b.toNat:Int)
def bcl (bs:List UInt8):List Value:=(zjE bs).map (Value.int .u8)
theorem bcl_length (bs:List UInt8):(bcl bs).length=bs.length:=by simp [bcl,zjE]
def zgp (a:Nat) (bs:List UInt8):List UInt8:=bs.filter fun b=>hasB a (ltr b.toNat)
def zaY (s:ByteArray) (a:Nat):ByteArray:=strOfNums (zjE (zgp a s.data.toList))
theorem zjj (hk:k<s.size):zgp a (s.data.toList.take (k+1))=zgp a (s.data.toList.take k)++if hasB a (ltr s[k].toNat)=true then [s[k]] else []:=by
 rw [dK,zct s k hk,eD];unfold zgp;rw [List.filter_append]
 congr 1
 cases h:hasB a (ltr s[k].toNat)<;>simp [h]
theorem zid (s:ByteArray) (a k:Nat):(zgp a (s.data.toList.take k)).length<=s.size:=by
 refine dJ (List.length_filter_le _ _) ?_;rw [List.length_take];have:s.data.toList.length=s.size:=sM;omega
theorem zjI {W:World} {base:Nat}  {cap:Nat} {bs:List UInt8}(h:W.ownsRow base 5 1 (.slice A n cap) n (bcl bs)) :
  (convert 62 9 (.slice A n cap)).run Tryz.prog W=.ok (.string (strOfNums (zjE bs))) W:=by
 have d:bs.length=n:=by have:=zdS h;rw [bcl_length] at this;omega
 rcases h.2 with ⟨a,j⟩|⟨g,c,f,a,_⟩
 ·injection a with a h3 h4
  subst a;subst h3;subst h4;obtain rfl:bs=[]:=dN d;exact run_convert_bytes_nil (P:=Tryz.prog) W 62 5 u8_row u8_und _ _ _ zko
 ·injection a with a
  subst a;refine run_convert_bytes_arg (P:=Tryz.prog) W 62 5 u8_row u8_und g 0 n cap (zjE bs) (by simp [zjE,d]) (fun i hi=>?_) _ zko;rw [Nat.zero_add,h.cellAt i oM];unfold bcl;rw [dP];have b:i<(zjE bs).length:=by simp [zjE];omega
  rw [dC b];simp [List.getD,dC b]
theorem own_u8_lit (w:World):(w.alloc (.cells #[] 5)).ownsRow w.heap.size 5 1 (.slice (some w.heap.size) 0 0) 0 (bcl []):=World.ownsRow_lit w #[] 0 (dD _) lM rfl
theorem yE07a10 {P:Prop}(h:P:=by
 obtain rfl:k=s.size:=oM;have zkx:=za (show strOfNums (zjE bs)=zaY s a by rw [hbs.out,List.take_of_length_le sM];rfl);obtain⟨A5,c5,rfl⟩:=zi zku;have hcv:=zjI zku;clear zku;go_wp2_with (simp only [hcv])
 go_ret;exact⟨by rw [zkx.out];rfl,hx⟩
 ):P:=h
theorem yE07a12 {P:Prop}(h:P:=by
 go_roundw
 case rel=>exact⟨k+1,bs++[s[k]],oM,gM,by rw [List.length_append];simpa [bcl,zjE] using zkG,hst2,by rw [List.length_append];exact hl3,hext5⟩
 case measure=>simp [intOf];omega
 ):P:=h
theorem zcL (hw:zaW s=true)(ha:a<=63) :
  Calls Tryz.prog 73 #[s,a] w fun e w'=>e=.returned (.string (zaY s a))∧Ext w w':=by
 have j:=za (show (decide ((0:Int)<=a∧(a:Int)<=63))=true by simp;omega);have u:=zbk hw;have p:=za (fun k o=>zaL hw (k:=k) o);have q:=za hw;clear hw
 go_enter Tryz.func73,Tryz.ntmps73
 go_upto_region 3 with (first
  |(go_at_call 138;refine (zbq s _ oM).mono ?_;rw [q.out];rintro e w' ⟨rfl,rfl⟩)
  |(go_at_call 139;refine (zX _ _).mono ?_;rw [j.out];rintro e w' ⟨rfl,rfl⟩))
 go_upto_region 4 with fail
 have c:=own_u8_lit w;have hx0:=(cY w).alloc (.cells #[] 5);generalize hA0:(some ⟨w.heap.size,0,none⟩:Option Addr)=x at *;clear hA0;generalize w.alloc _=y at *;go_wp2_with fail
 go_loopw [5,6] (fun v i wr=>∃ (k:Nat) (bs:List UInt8),k<=s.size∧i=.int .i64 k∧wr.ownsRow w.heap.size 5 1 v bs.length (bcl bs)∧Hid (bs=zgp a (s.data.toList.take k))∧bs.length<=50000∧Ext w wr) (fun _ i _=>s.size - (intOf i).toNat)
 case atStart=>exact⟨0,[],dF _,rfl,c,rfl,sM,hx0⟩
 case round =>
  clear c hx0;obtain⟨k,bs,o,rfl,zku,hbs,m,hx⟩:=hrel
  by_cases hlt:k<s.size
  ·have r:=p.out k hlt;obtain⟨l,g⟩:∃ l:Nat,Hid ((s[k].toNat:Int) - 97=l):=⟨s[k].toNat - 97,by unfold Hid;omega⟩;have f:=za (show hasB a (ltr s[k].toNat)=a.testBit l by
    unfold hasB ltr;have:=g.out;rw [if_neg oM,this]
    simp)
   have h:=za (zjj (a:=a) hlt);have t:=zid s a (k+1);have d:Sm a:=tM;have n:=za (show s.data.toList[k]?=some s[k] from zct s k hlt);cases hb:a.testBit l
   ·have b:=za hb;have hst2:=za (show bs=zgp a (s.data.toList.take (k+1)) by rw [h.out,f.out,b.out,hbs.out];simp);clear hb;go_wp2_with (first
     |(go_at_call 141;refine (zbE s k hlt _).mono ?_;rw [g.out];rintro e w' ⟨rfl,rfl⟩)
     |(go_at_call 140;refine (zaz a l d _ (oH g.out)).mono ?_;rw [b.out];rintro e w' ⟨rfl,rfl⟩))
    go_roundw
    case rel=>exact⟨k+1,bs,oM,gM,zku,hst2,m,hx⟩
    case measure=>simp [intOf];omega
   ·have b:=za hb;have hst2:=za (show bs++[s[k]]=zgp a (s.data.toList.take (k+1)) by rw [h.out,f.out,b.out,hbs.out];simp);have hl3:(bs++[s[k]]).length<=50000:=by rw [hst2.out];omega
    rw [dO,eB] at hl3;clear hb;go_wp2_with (first
     |(go_at_call 141;refine (zbE s k hlt _).mono ?_;rw [g.out];rintro e w' ⟨rfl,rfl⟩)
     |(go_at_call 140;refine (zaz a l d _ (oH g.out)).mono ?_;rw [b.out];rintro e w' ⟨rfl,rfl⟩)
     |(at_builtin;refine zW w wr rfl _ _ _ rfl 5 _ 1 1 Tryz.underlying62 zjR rfl dM u5 _ _ _ _ rfl rfl hx zku rfl (zjF _) lM oM ?_;intro v' w5 hext5 zkG hg5 hat5))
    exact yE07a12
  ·exact yE07a10
theorem zdl (hw:zaW s=true)(ha:a<=63) :
  Calls Tryz.prog 83 #[s,a] w fun e w'=>e=.returned (.string (zaY s a))∧Ext w w':=by
 have m:=zbk hw;have h:=za (fun k g=>zaL hw (k:=k) g);clear hw;have c:Sm a:=tM
 go_enter Tryz.func83,Tryz.ntmps83
 go_wp2_with fail
 go_loopw [5,6,9] (fun v _ i wr=>∃ (k:Nat) (bs:List UInt8),k<=s.size∧i=.int .i64 k∧wr.ownsRow w.heap.size 5 1 v bs.length (bcl bs)∧Hid (bs=zgp a (s.data.toList.take k))∧bs.length<=50000∧Ext w wr) (fun _ _ i _=>s.size - (intOf i).toNat)
 case atStart=>exact⟨0,[],dF _,rfl,World.ownsRow_nil _ _ _ _,rfl,sM,cY _⟩
 case round =>
  obtain⟨k,bs,g,rfl,zku,hbs,f,hx⟩:=hrel
  by_cases hlt:k<s.size
  ·have j:=h.out k hlt;have d:=za (zjj (a:=a) hlt);have l:=zid s a (k+1);cases hb:hasB a (ltr s[k].toNat)
   ·have b:=za hb;have hst2:=za (show bs=zgp a (s.data.toList.take (k+1)) by rw [d.out,b.out,hbs.out];simp);clear hb;go_wp2_with (first
     |(go_at_call 153;refine (zaP s k hlt _).mono ?_;rintro e w' ⟨rfl,rfl⟩)
     |(go_at_call 161;refine (zbV a _ c _).mono ?_;rw [b.out];rintro e w' ⟨rfl,rfl⟩))
    go_roundw
    case rel=>exact⟨k+1,bs,oM,gM,zku,hst2,f,hx⟩
    case measure=>simp [intOf];omega
   ·have b:=za hb;have hst2:=za (show bs++[s[k]]=zgp a (s.data.toList.take (k+1)) by rw [d.out,b.out,hbs.out];simp);have hl3:(bs++[s[k]]).length<=50000:=by rw [hst2.out];omega
    rw [dO,eB] at hl3;clear hb;go_wp2_with (first
     |(go_at_call 153;refine (zaP s k hlt _).mono ?_;rintro e w' ⟨rfl,rfl⟩)
     |(go_at_call 161;refine (zbV a _ c _).mono ?_;rw [b.out];rintro e w' ⟨rfl,rfl⟩)
     |(at_builtin;refine zW w wr rfl _ _ _ rfl 5 _ 1 1 Tryz.underlying62 zjR rfl dM u5 _ _ _ _ rfl rfl hx zku rfl (zjF _) lM oM ?_;intro v' w5 hext5 zkG hg5 hat5))
    exact yE07a12
  ·exact yE07a10
def zhv (es:List Edg) (x:Nat) (ls:List Nat):Nat:=ls.foldl (fun m (l:Nat)=>zbT es m (l:Int)) x
theorem zgz (es:List Edg) (x:Nat) (ls:List Nat) (l:Nat):zhv es x (ls++[l])=zbT es (zhv es x ls) (l:Int):=by simp [zhv]
theorem runB_zero (es:List Edg) (ls:List Nat):zhv es 0 ls=0:=by
 induction ls with
 |nil=>rfl
 |cons l r ih=>rw [zhv,iF,zjt];exact ih
theorem runB_end (h:zhv es x (ls.take k)=0):zhv es x ls=0:=by
 have e:ls=ls.take k++ls.drop k:=(List.take_append_drop k ls).symm;rw [e,zhv,List.foldl_append];show zhv es (zhv es x (ls.take k)) (ls.drop k)=0;rw [h,runB_zero]
section
variable {lo hi n c:Nat} {A:Option Addr} {s:Sys} {t:ByteArray} {w:World}
theorem runB_lt16 {p:Nat} (hf:Few p es)(hp:p<=16) (ls:List Nat):zhv es 1 ls<65536:=by
 rcases zaf ls with rfl|⟨u,l,rfl⟩
 ·simp [zhv]
 ·rw [zgz];refine dZ (zkm hf _ _) ?_;rw [show (65536:Nat)=2 ^ 16 from rfl];exact eE oM hp
theorem spec_l2Run (h:zP w lo hi A n s)(hv:zl s=true)(ht:zaW t=true) :
  Calls Tryz.prog 286 #[.agg #[s.al,s.st,.slice A n c],(1:Int),t] w fun e w'=>e=.returned (.int .i64 (zhv s.edges 1 (wl t):Nat))∧Ext w w':=by
 obtain⟨p,D,E,f,q⟩:=zcB hv;have HS:=za (fun W (hW:Ext w W)=>h.ext hW);have F:=zbk ht;have z:=za (fun k r=>zaL ht (k:=k) r);have B:=za q;have m:=za (fun ls=>runB_lt16 q f ls);clear h hv ht q D
 go_enter Tryz.func286,Tryz.ntmps286
 go_upto_region 1 with fail
 generalize U0:w.alloc _=w1 at *;obtain⟨hw1,b1⟩:=gG U0;clear U0;go_wp2_with fail
 go_loopw [1,7] (fun v i wr=>∃ k x:Nat,i=.int .i64 k∧k<=t.size∧v=.int .i64 x∧x<65536∧Hid (x=zhv s.edges 1 ((wl t).take k))∧Ext w1 wr) (fun _ i _=>t.size - (intOf i).toNat)
 case atStart=>exact⟨0,1,rfl,dF _,rfl,oM,rfl,cY _⟩
 case round =>
  obtain⟨k,x,rfl,r,rfl,hx,b,hxr⟩:=hrel
  by_cases hlt:k<t.size
  ·by_cases hx0:x=0
   ·subst hx0;have zkx:=za (show zhv s.edges 1 (wl t)=0 from runB_end b.out.symm);go_wp2;go_ret;exact⟨zF (by rw [zkx.out]),hw1.trans hxr⟩
   ·have C:((x:Int) != 0)=true:=by simp;try omega
    have o:=z.out k hlt;obtain⟨l,u⟩:∃ l:Nat,Hid ((t[k].toNat:Int) - 97=l):=⟨t[k].toNat - 97,by unfold Hid;omega⟩;have g:=za (show zbT s.edges x (l:Int)=zhv s.edges 1 ((wl t).take (k+1)) by
     rw [dK,zdC hlt,eD,zgz,← b.out]
     congr 1
     have:=u.out;omega)
    have d:=m.out ((wl t).take (k+1));rw [← g.out] at d;have HC:=za (fun W (hW:Ext w1 W)=>zfX (c:=c) (set:=x) (l:=(l:Int)) (HS.out W (hw1.trans hW)) B.out f tM);generalize zbT s.edges x (l:Int)=y at *;have c1:∀ W,Ext wr W->∀ j,W.cell? ⟨w.heap.size,j,none⟩=#[Value.int .i64 s.al,.int .i64 s.st,.slice A n c][j]?:=fun W hW=>(b1.ext (hxr.trans hW)).cell;have a:=cY wr;clear o;go_upto_region 4 with fail
    refine uR (fun X=>Ext wr X) [5] (zv.of [0,1,2,3,4,5,6]) ?_;refine uQ ?_;refine ze fun K hK=>?_;go_simp;refine (zbE t k hlt _).mono ?_;rw [u.out];rintro e w' ⟨rfl,rfl⟩;refine hK.out _ _ a.drew ?_;refine pT ?_;refine zb fun K hK=>?_;go_simp;refine (HC.out _ (hxr.trans a.drew)).mono (mQ fun w5 hx5=>?_);refine hK.out _ _ ?_;refine pT ?_;refine uQ ?_;refine zf ?_;have hx6:=hxr.trans (a.drew.trans hx5);go_wp2_with fail
    go_roundw
    case rel=>exact⟨k+1,y,gM,oM,rfl,d,g,hx6⟩
    case measure=>simp [intOf];omega
  ·obtain rfl:k=t.size:=oM;have zkx:=za (show x=zhv s.edges 1 (wl t) by rw [b.out,dI (by rw [zeK];exact dD _)]);go_wp2;go_ret;exact⟨zF (by rw [zkx.out]),hw1.trans hxr⟩
def zfk (s:Sys) (t:ByteArray):Nat:=if (zl s&&inB t s.al.toNat)=true then zhv s.edges 1 (wl t) else 0
theorem zhx (h:zP w lo hi A n s)(ht:t.size<=9223372036854775807) :
  Calls Tryz.prog 282 #[.agg #[s.al,s.st,.slice A n c],t] w fun e w'=>e=.returned (.int .i64 (zfk s t:Nat))∧Ext w w':=by
 have HS:=za (fun W (hW:Ext w W)=>h.ext hW);have HV:=za (fun W (hW:Ext w W)=>zan (c:=c) (h.ext hW));clear h;have hw1:Ext w (w.alloc (.cells #[s.al,s.st,.slice A n c] 38)):=(cY w).alloc _;have b1:=dX w 38 #[s.al,s.st,.slice A n c];cases hv:zl s
 ·have d:=za hv;have hr:=za (show zfk s t=0 by unfold zfk;rw [hv];rfl);clear hv
  go_enter Tryz.func282,Tryz.ntmps282
  go_upto_region 1 with fail
  generalize w.alloc _=w1 at *;have c1:=b1.cell;go_wp2_with (go_at_call 199;refine (HV.out _ hw1).mono ?_;rw [d.out];rintro e w2 ⟨rfl,hx2⟩)
  go_ret;exact⟨zF (by rw [hr.out];rfl),hw1.trans hx2⟩
 ·have i:=zQ hv;obtain⟨al,a⟩:∃ al:Nat,Hid (s.al=al):=⟨s.al.toNat,by unfold Hid;omega⟩;have b:al<=63:=oH a.out;have hr:=za (show zfk s t=if inB t al=true then zhv s.edges 1 (wl t) else 0 by unfold zfk;rw [hv,a.out];simp);have d:=za hv;cases hi:inB t al
  ·have f:=za hi;rw [hi] at hr;clear hv hi
   go_enter Tryz.func282,Tryz.ntmps282
   go_upto_region 1 with fail
   generalize w.alloc _=w1 at *;have c1:=b1.cell;go_wp2_with (first
    |(go_at_call 199;refine (HV.out _ hw1).mono ?_;rw [d.out];rintro e w2 ⟨rfl,hx2⟩;have c2:=((b1.ext hx2).cell 0).trans (show #[Value.int .i64 s.al,.int .i64 s.st,.slice A n c][0]?=some (Value.int .i64 (al:Nat)) by rw [a.out];rfl))
    |(go_at_call 143;refine (zaj ht b).mono ?_;rw [f.out];rintro e w3 ⟨rfl,rfl⟩))
   go_ret;exact⟨zF (by rw [hr.out];rfl),hw1.trans hx2⟩
  ·have f:=za hi;have g:=za (zaM hi);rw [hi,if_pos rfl] at hr;clear hv hi
   go_enter Tryz.func282,Tryz.ntmps282
   go_upto_region 1 with fail
   generalize w.alloc _=w1 at *;have c1:=b1.cell;go_upto_region 3 with (first
    |(go_at_call 199;refine (HV.out _ hw1).mono ?_;rw [d.out];rintro e w2 ⟨rfl,hx2⟩;have c2:=((b1.ext hx2).cell 0).trans (show #[Value.int .i64 s.al,.int .i64 s.st,.slice A n c][0]?=some (Value.int .i64 (al:Nat)) by rw [a.out];rfl))
    |(go_at_call 143;refine (zaj ht b).mono ?_;rw [f.out];rintro e w3 ⟨rfl,rfl⟩))
   have hw2:=hw1.trans hx2;have c3:=(b1.ext hx2).cell;clear c2 c1;go_wp2_with (go_at_call 286;refine (spec_l2Run (HS.out _ hw2) d.out g.out).mono (mQ fun w4 hx4=>?_))
   go_ret;exact⟨zF (by rw [hr.out]),hw2.trans hx4⟩
theorem zhr (h:zP w lo hi A n s)(hT:Tab w)(ht:t.size<=9223372036854775807) :
  Calls Tryz.prog 184 #[.agg #[s.al,s.st,.slice A n c],t] w fun e w'=>e=.returned (.int .i64 (zfk s t:Nat))∧Ext w w':=by
 have HS:=za (fun W (hW:Ext w W)=>h.ext hW);have HT:=za (fun W (hW:Ext w W)=>hT.ext hW);have HV:=za (fun W (hW:Ext w W)=>zak (c:=c) (h.ext hW));clear h hT;have hw1:Ext w (w.alloc (.cells #[s.al,s.st,.slice A n c] 38)):=(cY w).alloc _;have b1:=dX w 38 #[s.al,s.st,.slice A n c];cases hv:zl s
 ·have o:=za hv;have hr:=za (show zfk s t=0 by unfold zfk;rw [hv];rfl);clear hv
  go_enter Tryz.func184,Tryz.ntmps184
  go_upto_region 1 with fail
  generalize w.alloc _=w1 at *;have c1:=b1.cell;go_wp2_with (go_at_call 108;refine (HV.out _ hw1).mono ?_;rw [o.out];rintro e w2 ⟨rfl,hx2⟩)
  go_ret;exact⟨zF (by rw [hr.out];rfl),hw1.trans hx2⟩
 ·have I:=zQ hv;obtain⟨al,a⟩:∃ al:Nat,Hid (s.al=al):=⟨s.al.toNat,by unfold Hid;omega⟩;have b:al<=63:=oH a.out;have hr:=za (show zfk s t=if inB t al=true then zhv s.edges 1 (wl t) else 0 by unfold zfk;rw [hv,a.out];simp);have o:=za hv;cases hi:inB t al
  ·have r:=za (show (decide (t.size<=50000)&&zeM t al)=false from hi);rw [hi] at hr;clear hv hi
   go_enter Tryz.func184,Tryz.ntmps184
   go_upto_region 1 with fail
   generalize w.alloc _=w1 at *;have c1:=b1.cell;go_wp2_with (first
    |(go_at_call 108;refine (HV.out _ hw1).mono ?_;rw [o.out];rintro e w2 ⟨rfl,hx2⟩;have c2:=((b1.ext hx2).cell 0).trans (show #[Value.int .i64 s.al,.int .i64 s.st,.slice A n c][0]?=some (Value.int .i64 (al:Nat)) by rw [a.out];rfl))
    |(go_at_call 103;refine (zbi t al _ ht b).mono ?_;rw [r.out];rintro e w3 ⟨rfl,rfl⟩))
   go_ret;exact⟨zF (by rw [hr.out];rfl),hw1.trans hx2⟩
  ·have r:=za (show (decide (t.size<=50000)&&zeM t al)=true from hi);have d:=zaM hi;obtain⟨p,L,M,j,z⟩:=zcB hv;have O:=zbk d;have H:=za (fun k E=>zaL d (k:=k) E);have D:=za z;have q:=za (fun ls=>runB_lt16 z j ls);rw [hi,if_pos rfl] at hr;clear hv hi z L d
   go_enter Tryz.func184,Tryz.ntmps184
   go_upto_region 1 with fail
   generalize w.alloc _=w1 at *;have c1:=b1.cell;go_upto_region 3 with (first
    |(go_at_call 108;refine (HV.out _ hw1).mono ?_;rw [o.out];rintro e w2 ⟨rfl,hx2⟩;have c2:=((b1.ext hx2).cell 0).trans (show #[Value.int .i64 s.al,.int .i64 s.st,.slice A n c][0]?=some (Value.int .i64 (al:Nat)) by rw [a.out];rfl))
    |(go_at_call 103;refine (zbi t al _ ht b).mono ?_;rw [r.out];rintro e w3 ⟨rfl,rfl⟩))
   have hw2:=hw1.trans hx2;have c3:=(b1.ext hx2).cell;clear c2 c1;go_wp2_with (go_at_call 227;refine (zdG (HS.out _ hw2) (fun e he=>by have:=D.out e he;omega)).mono ?_;rintro e w4 ⟨Q,rfl,_,F,hx4⟩)
   have hw4:=hw2.trans hx4;have G:=za (fun W (hW:Ext w4 W)=>(F.ext hW).at_);clear F c3
   go_loopw [6,7] (fun v i wr=>∃ k x:Nat,i=.int .i64 k∧k<=t.size∧v=.int .i64 x∧x<65536∧Hid (x=zhv s.edges 1 ((wl t).take k))∧Ext w4 wr) (fun _ i _=>t.size - (intOf i).toNat)
   case atStart=>exact⟨0,1,rfl,dF _,rfl,oM,rfl,cY _⟩
   case round =>
    obtain⟨k,x,rfl,E,rfl,hx,f,hxr⟩:=hrel
    by_cases hlt:k<t.size
    ·by_cases hx0:x=0
     ·subst hx0;have zkx:=za (show zhv s.edges 1 (wl t)=0 from runB_end f.out.symm);go_wp2;go_ret;exact⟨zF (by rw [hr.out,zkx.out]),hw4.trans hxr⟩
     ·have J:((x:Int) != 0)=true:=by simp;try omega
      have u:=H.out k hlt;obtain⟨l,B⟩:∃ l:Nat,Hid (ltr t[k].toNat=l∧l<6∧t[k].toNat - 97=l):=⟨t[k].toNat - 97,by unfold Hid ltr;rw [if_neg oM];omega⟩;have C:=B.out.2.1;have m:=za (show zbT s.edges x (l:Int)=zhv s.edges 1 ((wl t).take (k+1)) by
       rw [dK,zdC hlt,eD,zgz,← f.out,B.out.2.2])
      have g:=q.out ((wl t).take (k+1));rw [← m.out] at g;have HC:=za (fun W (hW:Ext w4 W)=>impl_step (G.out W hW) (HT.out W (hw4.trans hW)) (show x<2 ^ 16 from hx) C D.out j);generalize zbT s.edges x (l:Int)=y at *;clear u;go_wp2_with (first
       |(go_at_call 153;refine (zaP t k hlt _).mono ?_;rw [B.out.1];rintro e w' ⟨rfl,rfl⟩)
       |(go_at_call 246;refine (HC.out _ hxr).mono (mQ fun R hx6=>?_)))
      go_roundw
      case rel=>exact⟨k+1,y,gM,oM,rfl,g,m,hxr.trans hx6⟩
      case measure=>simp [intOf];omega
    ·obtain rfl:k=t.size:=oM;have zkx:=za (show x=zhv s.edges 1 (wl t) by rw [f.out,dI (by rw [zeK];exact dD _)]);go_wp2;go_ret;exact⟨zF (by rw [hr.out,zkx.out]),hw4.trans hxr⟩
theorem zka (h:zP w lo hi A n s)(ht:t.size<=9223372036854775807) :
  Calls Tryz.prog 262 #[.agg #[s.al,s.st,.slice A n c],t] w fun e w'=>e=.returned (.bool (zfk s t != 0))∧Ext w w':=by
 have HS:=za (fun W (hW:Ext w W)=>zhx (c:=c) (h.ext hW) ht);have hr:=za (show (((zfk s t:Nat):Int) != 0)=(zfk s t != 0) by rw [gL];simp;try omega);generalize zfk s t=y at *
 go_enter Tryz.func262,Tryz.ntmps262
 go_wp2_with (go_at_call 282;refine (HS.out _ ((cY _).alloc _)).mono (mQ fun w2 hx2=>?_))
 go_ret;exact⟨zm (by rw [hr.out]),((cY _).alloc _).trans hx2⟩
theorem zjQ (h:zP w lo hi A n s)(hT:Tab w)(ht:t.size<=9223372036854775807) :
  Calls Tryz.prog 105 #[.agg #[s.al,s.st,.slice A n c],t] w fun e w'=>e=.returned (.bool (zfk s t != 0))∧Ext w w':=by
 have HS:=za (fun W (hW:Ext w W)=>zhr (c:=c) (h.ext hW) (hT.ext hW) ht);have hr:=za (show (((zfk s t:Nat):Int) != 0)=(zfk s t != 0) by rw [gL];simp;try omega);generalize zfk s t=y at *
 go_enter Tryz.func105,Tryz.ntmps105
 go_wp2_with (go_at_call 184;refine (HS.out _ ((cY _).alloc _)).mono (mQ fun w2 hx2=>?_))
 go_ret;exact⟨zm (by rw [hr.out]),((cY _).alloc _).trans hx2⟩
end
theorem zef (s:ByteArray) (a:Nat):(zaY s a).size<=s.size:=by
 have h:=zid s a s.size;rw [dI sM] at h;have e:(zaY s a).size=(zjE (zgp a s.data.toList)).length:=by unfold zaY;rw [strOfNums_size]
 rw [e,zjE,List.length_map];exact h
def zhQ (ss:List Sys) (t:ByteArray):Bool:=zB ss&&(inB t (zG ss)&&ss.all fun s=>zfk s (zaY t s.al.toNat) != 0)
section
variable {lo hi n c:Nat} {A:Option Addr} {ss:List Sys} {t:ByteArray} {w:World}
theorem all_next {f:Sys->Bool}  {s:Sys}(h:ss[k]?=some s)(ha:(ss.take k).all f=true)(hf:f s=true):(ss.take (k+1)).all f=true:=by
 rw [dK,h,List.all_append,ha];simp [hf]
theorem all_not {f:Sys->Bool}  {s:Sys}(h:ss[k]?=some s)(hf:f s=false):ss.all f=false:=by
 rw [List.all_eq_false];exact⟨s,dB h,by simp [hf]⟩
theorem yE07a9 {P:Prop}(h:P:=by
 cases hb:(zfk s t' != 0)
 ·have hff:=za (hF.out hb);clear hF hN;go_wp2;go_ret;exact⟨zm (by rw [hr.out,hff.out]),hxr.trans hx6⟩
 ·have hnn:=za (hN.out hb);clear hF hN;go_wp2_with fail
  go_roundw
  case rel=>exact⟨k+1,oM,gM,hnn,hxr.trans hx6⟩
  case measure=>simp [intOf];omega
 ):P:=h
theorem yE07a11 {P:Prop}(h:P:=by
 obtain rfl:k=n:=oM;have zkx:=za (show (ss.all fun s=>zfk s (zaY t s.al.toNat) != 0)=true by have:=hall.out;rwa [List.take_of_length_le (oH hL.out)] at this);go_wp2;go_ret;exact⟨zm (by rw [hr.out,zkx.out]),hxr⟩
 ):P:=h
theorem zeh (h:zfF w lo hi A n ss)(ht:t.size<=9223372036854775807) :
  Calls Tryz.prog 202 #[.slice A n c,t] w fun e w'=>e=.returned (.bool (zhQ ss t))∧Ext w w':=by
 have L:=h.len;have hL:=za h.1;have HS:=za (fun W (hW:Ext w W)=>h.ext hW);clear h;cases hp:zB ss
 ·have a:=za (show zaX ss = -1 by unfold zaX;rw [hp];rfl);have hr:=za (show zhQ ss t=false by unfold zhQ;rw [hp];rfl);clear hp
  go_enter Tryz.func202,Tryz.ntmps202
  go_wp2_with (go_at_call 207;refine (zah (HS.out _ (cY _))).mono ?_;rw [a.out];rintro e w1 ⟨rfl,hx⟩)
  go_ret;exact⟨zm (by rw [hr.out]),hx⟩
 ·have G:=za (zaS hp).2;have F:=zgJ G.out;have a:=za (show zaX ss=(zG ss:Int) by unfold zaX;rw [hp];rfl);have hr:=za (show zhQ ss t=(inB t (zG ss)&&ss.all fun s=>zfk s (zaY t s.al.toNat) != 0) by unfold zhQ;rw [hp];rfl);clear hp;generalize zG ss=u at *;cases hi:inB t u
  ·have r:=za hi;rw [hi] at hr;clear hi
   go_enter Tryz.func202,Tryz.ntmps202
   go_wp2_with (first
    |(go_at_call 207;refine (zah (HS.out _ (cY _))).mono ?_;rw [a.out];rintro e w1 ⟨rfl,hx⟩)
    |(go_at_call 143;refine (zaj ht F).mono ?_;rw [r.out];rintro e w3 ⟨rfl,rfl⟩))
   go_ret;exact⟨zm (by rw [hr.out];rfl),hx⟩
  ·have r:=za hi;have z:=za (zaM hi);rw [hi,jD] at hr;clear hi
   go_enter Tryz.func202,Tryz.ntmps202
   go_wp2_with (first
    |(go_at_call 207;refine (zah (HS.out _ (cY _))).mono ?_;rw [a.out];rintro e w1 ⟨rfl,hx⟩)
    |(go_at_call 143;refine (zaj ht F).mono ?_;rw [r.out];rintro e w3 ⟨rfl,rfl⟩))
   go_loopw [6] (fun i wr=>∃ k:Nat,k<=n∧i=.int .i64 k∧Hid ((ss.take k).all (fun s=>zfk s (zaY t s.al.toNat) != 0)=true)∧Ext w wr) (fun i _=>n - (intOf i).toNat)
   case atStart=>exact⟨0,dF _,rfl,rfl,hx⟩
   case round =>
    clear hx;obtain⟨k,J,rfl,hall,hxr⟩:=hrel
    by_cases hlt:k<n
    ·obtain⟨b,o,s,B,q,d,rfl,_,_,y,E,c1,c2,m⟩:=(HS.out wr hxr).sys hlt;obtain⟨v,x⟩:=zQ (G.out s (dB y.out));obtain⟨al,j⟩:∃ al:Nat,Hid (s.al=al):=⟨s.al.toNat,by unfold Hid;omega⟩;have l:al<=63:=oH j.out;have p:s.al.toNat=al:=oH j.out;have g:=dJ (zef t al) ht;have H:=za (fun W=>zcL (w:=W) z.out l);have HC:=za (fun W (hW:Ext wr W)=>zka (c:=d) (m.ext hW) g);rw [j.out] at E HC;have I:∀ W,Ext wr W->W.cell? ⟨b,o+k*3,none⟩=some (.int .i64 al):=fun W hW=>hW.aa E;have d1:∀ W,Ext wr W->W.cell? ⟨b,o+k*3+1,none⟩=some (.int .i64 s.st):=fun W hW=>hW.aa c1;have d2:∀ W,Ext wr W->W.cell? ⟨b,o+k*3+2,none⟩=some (.slice B q d):=fun W hW=>hW.aa c2;have hN:=za (fun hb=>all_next (f:=fun s=>zfk s (zaY t s.al.toNat) != 0) y.out hall.out hb);have hF:=za (fun hb=>all_not (f:=fun s=>zfk s (zaY t s.al.toNat) != 0) y.out hb);simp only [p] at hN hF;clear p g m v x hall;generalize zaY t al=t' at *;have C:=cY wr;go_upto_region 7 with fail
     refine uR (fun X=>Ext wr X) [11] (zv.of [0,1,2,3,4,5,6,7,8,9,10,11,12]) ?_;refine uQ ?_;refine ze fun K hK=>?_;go_simp;refine (H.out _).mono (mQ fun w' D=>?_);have hx2:=C.drew.trans D;refine hK.out _ _ hx2 ?_;refine pT ?_;refine zb fun K hK=>?_;go_simp;refine (HC.out _ hx2).mono (mQ fun w5 hx5=>?_);refine hK.out _ _ ?_;refine pT ?_;refine uQ ?_;refine zf ?_;have hx6:=hx2.trans hx5;exact yE07a9
    ·exact yE07a11
theorem zae (h:zfF w lo hi A n ss)(hT:Tab w)(ht:t.size<=9223372036854775807) :
  Calls Tryz.prog 50 #[.slice A n c,t] w fun e w'=>e=.returned (.bool (zhQ ss t))∧Ext w w':=by
 have M:=h.len;have hL:=za h.1;have HS:=za (fun W (hW:Ext w W)=>h.ext hW);have HT:=za (fun W (hW:Ext w W)=>hT.ext hW);clear h hT;cases hp:zB ss
 ·have v:=za hp;have hr:=za (show zhQ ss t=false by unfold zhQ;rw [hp];rfl);clear hp
  go_enter Tryz.func50,Tryz.ntmps50
  go_wp2_with (go_at_call 94;refine (zaO (HS.out _ (cY _))).mono ?_;rw [v.out];rintro e w1 ⟨rfl,hx⟩)
  go_ret;exact⟨zm (by rw [hr.out]),hx⟩
 ·have v:=za hp;have G:=za (zaS hp).2;have F:=zgJ G.out;have l:=za (show zaX ss=(zG ss:Int) by unfold zaX;rw [hp];rfl);have hr:=za (show zhQ ss t=(inB t (zG ss)&&ss.all fun s=>zfk s (zaY t s.al.toNat) != 0) by unfold zhQ;rw [hp];rfl);clear hp;generalize zG ss=u at *;cases hi:inB t u
  ·have x:=za (show (decide (t.size<=50000)&&zeM t u)=false from hi);rw [hi] at hr;clear hi
   go_enter Tryz.func50,Tryz.ntmps50
   go_wp2_with (first
    |(go_at_call 94;refine (zaO (HS.out _ (cY _))).mono ?_;rw [v.out];rintro e w1 ⟨rfl,a⟩)
    |(go_at_call 104;refine (zbt (HS.out _ a)).mono ?_;rw [l.out];rintro e w2 ⟨rfl,hx⟩)
    |(go_at_call 103;refine (zbi t u _ ht F).mono ?_;rw [x.out];rintro e w3 ⟨rfl,rfl⟩))
   go_ret;exact⟨zm (by rw [hr.out];rfl),a.trans hx⟩
  ·have x:=za (show (decide (t.size<=50000)&&zeM t u)=true from hi);have D:=za (zaM hi);rw [hi,jD] at hr;clear hi
   go_enter Tryz.func50,Tryz.ntmps50
   go_wp2_with (first
    |(go_at_call 94;refine (zaO (HS.out _ (cY _))).mono ?_;rw [v.out];rintro e w1 ⟨rfl,a⟩)
    |(go_at_call 104;refine (zbt (HS.out _ a)).mono ?_;rw [l.out];rintro e w2 ⟨rfl,hx⟩)
    |(go_at_call 103;refine (zbi t u _ ht F).mono ?_;rw [x.out];rintro e w3 ⟨rfl,rfl⟩))
   go_loopw [6,19] (fun _ i wr=>∃ k:Nat,k<=n∧i=.int .i64 k∧Hid ((ss.take k).all (fun s=>zfk s (zaY t s.al.toNat) != 0)=true)∧Ext w wr) (fun _ i _=>n - (intOf i).toNat)
   case atStart=>exact⟨0,dF _,rfl,rfl,a.trans hx⟩
   case round =>
    clear hx a;obtain⟨k,L,rfl,hall,hxr⟩:=hrel
    by_cases hlt:k<n
    ·obtain⟨b,o,s,B,q,d,rfl,_,_,C,J,c1,c2,p⟩:=(HS.out wr hxr).sys hlt;obtain⟨y,z⟩:=zQ (G.out s (dB C.out));obtain⟨al,j⟩:∃ al:Nat,Hid (s.al=al):=⟨s.al.toNat,by unfold Hid;omega⟩;have m:al<=63:=oH j.out;have r:s.al.toNat=al:=oH j.out;have g:=dJ (zef t al) ht;have H:=za (fun W=>zdl (w:=W) D.out m);have HC:=za (fun W (hW:Ext wr W)=>zjQ (c:=d) (p.ext hW) (HT.out W (hxr.trans hW)) g);rw [j.out] at J HC;have hN:=za (fun hb=>all_next (f:=fun s=>zfk s (zaY t s.al.toNat) != 0) C.out hall.out hb);have hF:=za (fun hb=>all_not (f:=fun s=>zfk s (zaY t s.al.toNat) != 0) C.out hb);simp only [r] at hN hF;clear r g p y z hall;generalize zaY t al=t' at *;go_upto_region 6 with fail
     generalize U0:wr.alloc _=w5 at *;obtain⟨hw5,I⟩:=gG U0;clear U0;have c5:=I.cells;have E:=cY w5;refine uR (fun X=>Ext w5 X) [5] (zv.of [0,1,2,3,4,5,6]) ?_;refine uQ ?_;refine ze fun K hK=>?_;go_simp;refine (H.out _).mono (mQ fun w' a=>?_);have hx2:=E.drew.trans a;refine hK.out _ _ hx2 ?_;refine pT ?_;refine zb fun K hK=>?_;go_simp;refine (HC.out _ (hw5.trans hx2)).mono (mQ fun O hx5=>?_);refine hK.out _ _ ?_;refine pT ?_;refine uQ ?_;refine zf ?_;have hx6:=hw5.trans (hx2.trans hx5);exact yE07a9
    ·exact yE07a11
end
def zE (hd:Bool) (a:Aut) (s:ByteArray):Bool:=if hd then zj a&&s.toList.isEmpty else zfG a&&zaW s
theorem zaK (lo hi:Nat) (A:Option Addr) (n c:Nat) (A':Option Addr) (n' c':Nat)(hd:Bool) (a:Aut) (s:ByteArray) (w:World)(h:zJ w lo hi A n A' n' a)(hs:s.size<=9223372036854775807) :
  Calls Tryz.prog 115 #[.agg #[.bool hd,a.al,.slice A n c,.slice A' n' c',s]] w fun e w'=>e=.returned (.bool (zE hd a s))∧Ext w w':=by
 have i:=fun W (hW:Ext w W)=>h.ext hW;have g:=za i;clear i;cases hd
 ·cases hb:zfG a
  all_goals
   have d:=za hb;clear hb
   go_enter Tryz.func115,Tryz.ntmps115
   go_wp2_with (first
    |(go_at_call 201;refine (spec_l13None _ _ _ _ _ _ _ _ _ _ (g.out _ ?_)).mono ?_;exact (cY _).alloc _;rw [d.out];rintro e w2 ⟨rfl,b⟩;have f:=zdr b)
    |(go_at_call 138;refine (zbq s _ hs).mono ?_;rintro e w' ⟨rfl,rfl⟩))
   go_ret;exact⟨zm (by rw [zE,d.out];simp),((cY _).alloc _).trans b⟩
 ·cases hb:zj a
  all_goals
   have d:=za hb;clear hb
   go_enter Tryz.func115,Tryz.ntmps115
   go_wp2_with (go_at_call 200;refine (zN _ _ _ _ _ _ _ _ _ _ (g.out _ ?_)).mono ?_;exact (cY _).alloc _;rw [d.out];rintro e w2 ⟨rfl,b⟩;have f:=zdr b)
   go_ret;exact⟨zm (by rw [zE,d.out];simp),((cY _).alloc _).trans b⟩
theorem zby (lo hi:Nat) (A:Option Addr) (n c:Nat) (A':Option Addr) (n' c':Nat)(hd:Bool) (a:Aut) (s:ByteArray) (w:World)(h:zJ w lo hi A n A' n' a)(hs:s.size<=9223372036854775807) :
  Calls Tryz.prog 99 #[.agg #[.bool hd,a.al,.slice A n c,.slice A' n' c',s]] w fun e w'=>e=.returned (.bool (zE hd a s))∧Ext w w':=by
 have i:=fun W (hW:Ext w W)=>h.ext hW;have m:=za i;clear i;cases hd
 ·have d:=za (show zfG a=(decide (a.al=0)&&(decide (n=0)&&decide (n'=0))) by unfold zfG;rw [← h.n1,← h.n2]);have o:=h.1.len;have p:=h.2.2.len;clear h
  by_cases h0:a.al=0
  ·have hb:((a.al:Int)==0)=true:=by simp [h0]
   have k:=za h0;clear h0
   by_cases h1:n=0
   ·have hb1:((n:Int)==0)=true:=by simp [h1]
    have H1:=za h1;clear h1
    by_cases h2:n'=0
    ·have f:((n':Int)==0)=true:=by simp [h2]
     have l:=za h2;clear h2
     go_enter Tryz.func99,Tryz.ntmps99
     go_wp2_with (go_at_call 106;refine (zdR s _ hs).mono ?_;rintro e w' ⟨rfl,rfl⟩)
     go_ret;exact⟨zm (by rw [zE,d.out,k.out,H1.out,l.out];simp),((cY _).alloc _).alloc _⟩
    ·have f:((n':Int)==0)=false:=by simp [h2]
     go_enter Tryz.func99,Tryz.ntmps99
     go_wp2_with fail
     go_ret;exact⟨zm (by rw [zE,d.out];simp [h2]),((cY _).alloc _).alloc _⟩
   ·have hb1:((n:Int)==0)=false:=by simp [h1]
    go_enter Tryz.func99,Tryz.ntmps99
    go_wp2_with fail
    go_ret;exact⟨zm (by rw [zE,d.out];simp [h1]),((cY _).alloc _).alloc _⟩
  ·have hb:((a.al:Int)==0)=false:=by simp [h0]
   go_enter Tryz.func99,Tryz.ntmps99
   go_wp2_with fail
   go_ret;exact⟨zm (by rw [zE,d.out];simp [h0]),((cY _).alloc _).alloc _⟩
 ·cases hb:zj a
  all_goals
   have g:=za hb;clear hb
   go_enter Tryz.func99,Tryz.ntmps99
   go_wp2_with (go_at_call 95;refine (zI _ _ _ _ _ _ _ _ _ _ (m.out _ ?_)).mono ?_;exact (cY _).alloc _;rw [g.out];rintro e w2 ⟨rfl,b⟩;have j:=zdr b)
   go_ret;exact⟨zm (by rw [zE,g.out];simp),((cY _).alloc _).trans b⟩
def zaQ (p:Aut) (q:Nat) (ls:List Nat):Nat:=ls.foldl (aGo p) q
theorem zbD (p:Aut) (q:Nat) (ls:List Nat) (l:Nat):zaQ p q (ls++[l])=aGo p (zaQ p q ls) l:=by simp [zaQ]
theorem zdv (hv:zj p=true) (h:∀ l∈ls,l<6) (hq:q<p.next.length):zaQ p q ls<p.next.length:=by
 induction ls generalizing q with
 |nil=>exact hq
 |cons l r ih=>exact ih (fun x hx=>h x (eC _ hx)) (zdV hv hq (h l gJ))
theorem runA_filter (p:Aut) (ls:List Nat) (q:Nat):zaQ p q (ls.filter fun l=>p.al.toNat.testBit l)=zaQ p q ls:=by
 induction ls generalizing q with
 |nil=>rfl
 |cons l r ih =>
  rw [List.filter_cons];show _=zaQ p (aGo p q l) r;cases hb:p.al.toNat.testBit l
  ·have e:aGo p q l=q:=by unfold aGo;rw [hb];rfl
   rw [e];simpa using ih q
  ·simp only [if_true];exact ih (aGo p q l)
theorem zjp (s:ByteArray) (a:Nat):(zaY s a).data.toList=zgp a s.data.toList:=by
 unfold zaY strOfNums zjE;simp only [List.map_map];refine (List.map_congr_left (g:=id) fun b _=>?_).trans (List.map_id _);simp
theorem zkt (h:zaW s=true) (a:Nat):wl (zaY s a)=(wl s).filter fun l=>a.testBit l:=by
 unfold wl;rw [zjp];unfold zgp;have hb:∀ b∈s.data.toList,97<=b.toNat∧b.toNat<=102:=by
  intro b hb;obtain⟨i,f⟩:=dY hb;have c:i<s.size:=by have:=(List.getElem?_eq_some_iff.1 f).1;simpa using this
  rw [zct s i c] at f;obtain rfl:=Option.some.inj f;exact zaL h c
 generalize s.data.toList=L at hb;clear h
 induction L with
 |nil=>rfl
 |cons b r d =>
  have g:=hb b gJ;have d:=d fun x hx=>hb x (eC _ hx);have e:hasB a (ltr b.toNat)=a.testBit (b.toNat - 97):=by
   unfold hasB ltr;rw [if_neg oM,decide_eq_true oM,jD]
   congr 1
   omega
  rw [List.filter_cons,fN,List.filter_cons,e];cases a.testBit (b.toNat - 97)
  ·simpa using d
  ·simp only [if_true,fN];rw [d]
theorem zdN (h:zaW s=true) (a:Nat):inB (zaY s a) a=true:=by
 unfold inB zeM;rw [zjp,dG,decide_eq_true_eq];refine⟨dJ (zef s a) (zbk h),?_⟩;rw [eH];intro b hb;exact (List.mem_filter.1 hb).2
def zcC (p:Aut) (t:ByteArray):Bool:=zj p&&(zaW t&&!zco p (zaQ p 0 (wl t)))
section
variable {lo hi m d m' d':Nat} {B B':Option Addr} {p:Aut} {t:ByteArray} {w:World}
theorem zjs (h:zJ w lo hi B m B' m' p)(hv:zj p=true)(ht:zaW t=true) :
  Calls Tryz.prog 263 #[.agg #[p.al,.slice B m d,.slice B' m' d'],(0:Int),t] w fun e w'=>e=.returned (.int .i64 (zaQ p 0 (wl t):Nat))∧Ext w w':=by
 have HS:=za (fun W (hW:Ext w W)=>h.ext hW);have D:=zbk ht;have u:=za (fun k s=>zaL ht (k:=k) s);have C:=(zk hv).2.1;have z:=za hv;have f:=za (fun k=>zdv hv (ls:=(wl t).take k) (fun l c=>ziD ht l (fY c)) (q:=0) oM);clear h hv ht
 go_enter Tryz.func263,Tryz.ntmps263
 go_upto_region 1 with fail
 generalize U0:w.alloc _=w1 at *;obtain⟨hw1,b1⟩:=gG U0;clear U0;go_wp2_with fail
 go_loopw [1,7] (fun v i wr=>∃ k x:Nat,i=.int .i64 k∧k<=t.size∧v=.int .i64 x∧Hid (x=zaQ p 0 ((wl t).take k))∧Ext w1 wr) (fun _ i _=>t.size - (intOf i).toNat)
 case atStart=>exact⟨0,0,rfl,dF _,rfl,rfl,cY _⟩
 case round =>
  obtain⟨k,x,rfl,s,rfl,b,hxr⟩:=hrel
  by_cases hlt:k<t.size
  ·have g:=u.out k hlt;obtain⟨l,c⟩:∃ l:Nat,Hid ((t[k].toNat:Int) - 97=l):=⟨t[k].toNat - 97,by unfold Hid;omega⟩;have n:l<6:=oH c.out;have o:=za (show aGo p x l=zaQ p 0 ((wl t).take (k+1)) by
    rw [dK,zdC hlt,eD,zbD,← b.out]
    congr 1
    have:=c.out;omega)
   have r:x<p.next.length:=by rw [b.out];exact f.out k
   have HC:=za (fun W (hW:Ext w1 W)=>zej (d:=d) (d':=d') (HS.out W (hw1.trans hW)) z.out r n);generalize aGo p x l=y at *;have c1:∀ W,Ext wr W->∀ j,W.cell? ⟨w.heap.size,j,none⟩=#[Value.int .i64 p.al,.slice B m d,.slice B' m' d'][j]?:=fun W hW=>(b1.ext (hxr.trans hW)).cell;have a:=cY wr;clear g;go_upto_region 4 with fail
   refine uR (fun X=>Ext wr X) [5] (zv.of [0,1,2,3,4,5,6]) ?_;refine uQ ?_;refine ze fun K hK=>?_;go_simp;refine (zbE t k hlt _).mono ?_;rw [c.out];rintro e w' ⟨rfl,rfl⟩;refine hK.out _ _ a.drew ?_;refine pT ?_;refine zb fun K hK=>?_;go_simp;refine (HC.out _ (hxr.trans a.drew)).mono (mQ fun w5 hx5=>?_);refine hK.out _ _ ?_;refine pT ?_;refine uQ ?_;refine zf ?_;have hx6:=hxr.trans (a.drew.trans hx5);go_wp2_with fail
   go_roundw
   case rel=>exact⟨k+1,y,gM,oM,rfl,o,hx6⟩
   case measure=>simp [intOf];omega
  ·obtain rfl:k=t.size:=oM;have zkx:=za (show x=zaQ p 0 (wl t) by rw [b.out,dI (by rw [zeK];exact dD _)]);go_wp2;go_ret;exact⟨zF (by rw [zkx.out]),hw1.trans hxr⟩
theorem zfR (h:zJ w lo hi B m B' m' p)(ht:t.size<=9223372036854775807) :
  Calls Tryz.prog 203 #[.agg #[p.al,.slice B m d,.slice B' m' d'],t] w fun e w'=>e=.returned (.bool (zcC p t))∧Ext w w':=by
 have HA:=za (fun W (hW:Ext w W)=>zN _ _ _ _ d _ _ d' _ _ (h.ext hW));have r:=za (fun W (hW:Ext w W)=>zjs (d:=d) (d':=d') (t:=t) (h.ext hW));have HB:=za (fun W (hW:Ext w W) q o=>zdW (q:=q) (h.ext hW) o);have n:=za h.n2;clear h;have hr:=za (show zcC p t=(zj p&&(zaW t&&!zco p (zaQ p 0 (wl t)))) from rfl);have hw1:Ext w (w.alloc (.cells #[p.al,.slice B m d,.slice B' m' d'] 31)):=(cY w).alloc _;have b1:=dX w 31 #[p.al,.slice B m d,.slice B' m' d']
 by_cases hall:zj p=true∧zaW t=true
 ·obtain⟨a,b⟩:=hall;have H1:=za a;have c:=za b;have o:=zdv a (ziD b) (q:=0) (by have:=(zk a).2.1;omega);have l:=(zk a).2.2.1;have g:zaQ p 0 (wl t)<m':=oH n.out;clear a b l
  go_enter Tryz.func203,Tryz.ntmps203
  go_upto_region 3 with (first
   |(go_at_call 200;refine (HA.out _ hw1).mono ?_;rw [H1.out];rintro e w2 ⟨rfl,hx2⟩)
   |(go_at_call 138;refine (zbq _ _ ht).mono ?_;rw [c.out];rintro e w3 ⟨rfl,rfl⟩))
  have k:=za (fun W hW=>r.out W hW H1.out c.out);clear r;generalize hqe:zaQ p 0 (wl t)=q at *;clear hqe o;obtain⟨s,f,_⟩:=HB.out w (cY w) q g;have v:∀ W,Ext w W->W.cell? (s.add q)=some (.bool (zco p q)):=by
   intro W hW;obtain⟨u,e,x⟩:=HB.out W hW q g;rw [f] at e;obtain rfl:=Option.some.inj e;exact x
  subst f;have hw2:=hw1.trans hx2;generalize w.alloc _=w1 at *;have c1:∀ W,Ext w2 W->∀ j,W.cell? ⟨w.heap.size,j,none⟩=#[Value.int .i64 p.al,.slice B m d,.slice (some s) m' d'][j]?:=fun W hW=>(b1.ext (hx2.trans hW)).cell;have y:=fun W (hW:Ext w2 W)=>v W (hw2.trans hW);have i:=cY w2;refine uR (fun X=>Ext w2 X) [] (zv.of [0,1,2,3,4,5,6,7,8]) ?_;refine uQ ?_;refine ze fun K hK=>?_;go_simp;refine (k.out _ (hw2.trans i.drew)).mono (mQ fun w5 hx5=>?_);have hx6:=i.drew.trans hx5;refine hK.out _ _ hx6 ?_;refine pT ?_;refine uQ ?_;refine zf ?_;go_wp2_with fail
  go_ret;exact⟨zm (by rw [hr.out,H1.out,c.out];rfl),hw2.trans hx6⟩
 ·have hr2:=za (show zcC p t=false by
   rw [hr.out];cases a:zj p
   ·rfl
   ·cases b:zaW t
    ·rfl
    ·exact absurd ⟨a,b⟩ hall)
  cases a:zj p<;>cases b:zaW t
  case true.true=>exact absurd ⟨a,b⟩ hall
  all_goals
   have H1:=za a;have c:=za b;clear a b hall
   go_enter Tryz.func203,Tryz.ntmps203
   go_wp2_with (first
    |(go_at_call 200;refine (HA.out _ hw1).mono ?_;rw [H1.out];rintro e w2 ⟨rfl,hx2⟩)
    |(go_at_call 138;refine (zbq _ _ ht).mono ?_;rw [c.out];rintro e w3 ⟨rfl,rfl⟩))
   go_ret;exact⟨zm (by rw [hr2.out]),hw1.trans hx2⟩
end
section
variable {lo hi m d m' d':Nat} {B B':Option Addr} {p:Aut} {t:ByteArray} {w:World}
theorem zhY (h:zJ w lo hi B m B' m' p)(hv:zj p=true)(ht:inB t p.al.toNat=true) :
  Calls Tryz.prog 185 #[.agg #[p.al,.slice B m d,.slice B' m' d'],t] w fun e w'=>e=.returned (.int .i64 (zaQ p 0 (wl t):Nat))∧Ext w w':=by
 have HT:=za (fun W (hW:Ext w W)=>zcT (d:=d) (d':=d') (h.ext hW) hv);have HA:=za (fun W (hW:Ext w W)=>zI _ _ _ _ d _ _ d' _ _ (h.ext hW));have a:=zaM ht;have V:=zbk a;have Q:=za (fun k L=>zaL a (k:=k) L);have U:=(zk hv).2.1;obtain⟨E,F⟩:=(zk hv).1;obtain⟨al,b⟩:∃ al:Nat,Hid (p.al=al):=⟨p.al.toNat,by unfold Hid;omega⟩;have n:al<=63:=oH b.out;have u:p.al.toNat=al:=oH b.out;rw [u] at ht;have R:=za (show (decide (t.size<=50000)&&zeM t al)=true from ht);have S:=za hv;have D:=za (fun k=>zdv hv (ls:=(wl t).take k) (fun l r=>ziD a l (fY r)) (q:=0) oM);clear h hv ht u a;rw [b.out] at HT HA ⊢;clear E F
 go_enter Tryz.func185,Tryz.ntmps185
 go_upto_region 1 with fail
 generalize U0:w.alloc _=w1 at *;obtain⟨hw1,b1⟩:=gG U0;clear U0;have c1:=b1.cell;go_wp2_with (first
  |(go_at_call 95;refine (HA.out _ hw1).mono ?_;rw [S.out];rintro e w2 ⟨rfl,hx2⟩;have hw2:=hw1.trans hx2;have c2:=(b1.ext hx2).cell)
  |(go_at_call 103;refine (zbi t al _ oM n).mono ?_;rw [R.out];rintro e w3 ⟨rfl,rfl⟩)
  |(go_at_call 151;refine (HT.out _ hw2).mono ?_;rintro e w4 ⟨Z,tc,rfl,j,hx4⟩))
 have hw4:=hw2.trans hx4;have O:=za (fun W (hW:Ext w4 W)=>(j.ext hW).at_);clear j c1 c2
 go_loopw [6,7,22] (fun v _ i wr=>∃ k x:Nat,i=.int .i64 k∧k<=t.size∧v=.int .i64 x∧Hid (x=zaQ p 0 ((wl t).take k))∧Ext w4 wr) (fun _ _ i _=>t.size - (intOf i).toNat)
 case atStart=>exact⟨0,0,rfl,dF _,rfl,rfl,cY _⟩
 case round =>
  obtain⟨k,x,rfl,L,rfl,f,hxr⟩:=hrel
  by_cases hlt:k<t.size
  ·have H:=Q.out k hlt;obtain⟨l,r⟩:∃ l:Nat,Hid (ltr t[k].toNat=l∧l<6∧t[k].toNat - 97=l):=⟨t[k].toNat - 97,by unfold Hid ltr;rw [if_neg oM];omega⟩;have s:=r.out.2.1;have M:((l:Nat):Int)<6:=oM;have J:=za (show aGo p x l=zaQ p 0 ((wl t).take (k+1)) by
    rw [dK,zdC hlt,eD,zbD,← f.out,r.out.2.2])
   have C:x<p.next.length:=by rw [f.out];exact D.out k
   obtain⟨Y,T,c⟩:=O.out wr hxr;have HC:=za (fun W (hW:Ext wr W)=>(c.ext hW).at_ C s);obtain⟨g,o,G,I⟩:=c.at_ C s;subst G;generalize aGo p x l=y at *;have d1:∀ W,Ext wr W->W.cell? ⟨g,o+x*6+l,none⟩=some (.int .i64 (y:Nat)):=fun W hW=>hW.aa I;clear H c HC;generalize p.next.length=N at *;go_upto_region 8 with fail
   have z:=cY wr;refine uR (fun X=>Ext wr X) [] (zv.of [0,1,2,3,5,4,6,7,8]) ?_;refine uQ ?_;refine ze fun K hK=>?_;go_simp;refine (zaP t k hlt _).mono ?_;rw [r.out.1];rintro e w' ⟨rfl,rfl⟩;refine hK.out _ _ z.drew ?_;refine pT ?_;refine uQ ?_;refine zf ?_;have hx6:=hxr.trans z.drew;go_wp2_with fail
   go_roundw
   case rel=>exact⟨k+1,y,gM,oM,rfl,J,hx6⟩
   case measure=>simp [intOf];omega
  ·obtain rfl:k=t.size:=oM;have zkx:=za (show x=zaQ p 0 (wl t) by rw [f.out,dI (by rw [zeK];exact dD _)]);go_wp2;go_ret;exact⟨zF (by rw [zkx.out]),hw4.trans hxr⟩
theorem zhq (h:zJ w lo hi B m B' m' p)(hv:zj p=true)(ht:inB t p.al.toNat=true) :
  Calls Tryz.prog 107 #[.agg #[p.al,.slice B m d,.slice B' m' d'],t] w fun e w'=>e=.returned (.bool (zco p (zaQ p 0 (wl t))))∧Ext w w':=by
 have HA:=za (fun W (hW:Ext w W)=>zhY (d:=d) (d':=d') (h.ext hW) hv ht);have HB:=za (fun W (hW:Ext w W) q g=>zdW (q:=q) (h.ext hW) g);have g:=zdv hv (ziD (zaM ht)) (q:=0) (by have:=(zk hv).2.1;omega);have c:=(zk hv).2.2.1;have f:=h.n2;have b:zaQ p 0 (wl t)<m':=oM;clear h hv ht c;generalize hqe:zaQ p 0 (wl t)=q at *;clear hqe g f;obtain⟨i,a,_⟩:=HB.out w (cY w) q b;have k:∀ W,Ext w W->W.cell? (i.add q)=some (.bool (zco p q)):=by
  intro W hW;obtain⟨j,e,n⟩:=HB.out W hW q b;rw [a] at e;obtain rfl:=Option.some.inj e;exact n
 subst a
 go_enter Tryz.func107,Tryz.ntmps107
 go_upto_region 1 with fail
 generalize U0:w.alloc _=w1 at *;obtain⟨hw1,b1⟩:=gG U0;clear U0;have c1:=b1.cell;go_wp2_with (go_at_call 185;refine (HA.out _ hw1).mono (mQ fun w2 hx2=>?_);have c2:=(b1.ext hx2).cell;have l:=k _ (hw1.trans hx2))
 go_ret;exact⟨zm (by rfl),hw1.trans hx2⟩
theorem zfK (h:zJ w lo hi B m B' m' p)(ht:t.size<=9223372036854775807) :
  Calls Tryz.prog 51 #[.agg #[p.al,.slice B m d,.slice B' m' d'],t] w fun e w'=>e=.returned (.bool (zcC p t))∧Ext w w':=by
 have HA:=za (fun W (hW:Ext w W)=>zI _ _ _ _ d _ _ d' _ _ (h.ext hW));have hr:=za (show zcC p t=(zj p&&(zaW t&&!zco p (zaQ p 0 (wl t)))) from rfl);have hw1:Ext w (w.alloc (.cells #[p.al,.slice B m d,.slice B' m' d'] 31)):=(cY w).alloc _;have b1:=dX w 31 #[p.al,.slice B m d,.slice B' m' d'];cases h1:zj p
 ·have H1:=za h1;clear h1
  go_enter Tryz.func51,Tryz.ntmps51
  go_upto_region 1 with fail
  generalize w.alloc _=w1 at *;have c1:=b1.cells;have a:=cY w1;refine uR (fun X=>Ext w1 X) [12] (zv.of [0,1,2,3,4,5,6,7,8,9,10,11,12,13,14,15]) ?_;refine uQ ?_;refine ze fun K hK=>?_;go_simp;refine (HA.out _ (hw1.trans a.drew)).mono ?_;rw [H1.out];rintro e w2 ⟨rfl,hx2⟩;have hx3:=a.drew.trans hx2;refine hK.out _ _ hx3 ?_;refine pT ?_;refine uQ ?_;refine zf ?_;go_wp2_with fail
  go_ret;exact⟨zm (by rw [hr.out,H1.out];rfl),hw1.trans hx3⟩
 ·cases h2:zaW t
  ·have H1:=za h1;have c:=za h2;clear h1 h2
   go_enter Tryz.func51,Tryz.ntmps51
   go_upto_region 1 with fail
   generalize w.alloc _=w1 at *;have c1:=b1.cells;have a:=cY w1;refine uR (fun X=>Ext w1 X) [12] (zv.of [0,1,2,3,4,5,6,7,8,9,10,11,12,13,14,15]) ?_;refine uQ ?_;refine ze fun K hK=>?_;go_simp;refine (HA.out _ (hw1.trans a.drew)).mono ?_;rw [H1.out];rintro e w2 ⟨rfl,hx2⟩;have hx3:=a.drew.trans hx2;refine hK.out _ _ hx3 ?_;refine pT ?_;refine uQ ?_;refine ze fun K hK=>?_;go_simp;refine (zdR _ _ ht).mono ?_;rw [c.out];rintro e w3 ⟨rfl,rfl⟩;refine hK.out _ _ hx3 ?_;refine pT ?_;refine uQ ?_;refine zf ?_;go_wp2_with fail
   go_ret;exact⟨zm (by rw [hr.out,H1.out,c.out];rfl),hw1.trans hx3⟩
  ·obtain⟨j,k⟩:=(zk h1).1;obtain⟨al,b⟩:∃ al:Nat,Hid (p.al=al):=⟨p.al.toNat,by unfold Hid;omega⟩;have f:al<=63:=oH b.out;have g:=za (show p.al.toNat=al by have:=b.out;omega);have n:=za (fun W=>zdl (w:=W) h2 f);have i:=za (fun W (hW:Ext w W)=>zhq (d:=d) (d':=d') (t:=zaY t al) (h.ext hW) h1 (by rw [g.out];exact zdN h2 al));have l:=za (show zaQ p 0 (wl (zaY t al))=zaQ p 0 (wl t) by rw [zkt h2,← g.out,runA_filter]);rw [l.out] at i;have H1:=za h1;have c:=za h2;clear h h1 h2 j k;rw [b.out] at HA i hw1 b1 ⊢;generalize zaY t al=t' at *
   go_enter Tryz.func51,Tryz.ntmps51
   go_upto_region 1 with fail
   generalize w.alloc _=w1 at *;have c1:=b1.cells;have a:=cY w1;refine uR (fun X=>Ext w1 X) [12] (zv.of [0,1,2,3,4,5,6,7,8,9,10,11,12,13,14,15]) ?_;refine uQ ?_;refine ze fun K hK=>?_;go_simp;refine (HA.out _ (hw1.trans a.drew)).mono ?_;rw [H1.out];rintro e w2 ⟨rfl,hx2⟩;have hx3:=a.drew.trans hx2;refine hK.out _ _ hx3 ?_;refine pT ?_;refine uQ ?_;refine ze fun K hK=>?_;go_simp;refine (zdR _ _ ht).mono ?_;rw [c.out];rintro e w3 ⟨rfl,rfl⟩;refine hK.out _ _ hx3 ?_;refine pT ?_;refine uQ ?_;refine ze fun K hK=>?_;go_simp;refine (n.out _).mono (mQ fun w4 hx4=>?_);have hx5:=hx3.trans hx4;refine hK.out _ _ hx5 ?_;refine pT ?_;refine uQ ?_;refine zb fun K hK=>?_;go_simp;refine (i.out _ (hw1.trans hx5)).mono (mQ fun o hx6=>?_);refine hK.out _ _ ?_;refine pT ?_;refine uQ ?_;refine zf ?_;go_wp2_with fail
   go_ret;exact⟨zm (by rw [hr.out,H1.out,c.out];rfl),hw1.trans (hx5.trans hx6)⟩
end
theorem zfA {g lo hi c lo2 hi2 c2:Nat} {C:Option Addr} {s t:Sys}(hb:Blk w g 38 #[s.al,s.st,.slice A n c,t.al,t.st,.slice C k c2])(h:zP w lo hi A n s)(h':zP w lo2 hi2 C k t):∃ lo hi,zfF w lo hi (some ⟨g,0,none⟩) 2 [s,t]:=by
 refine⟨0,hi+hi2+g+1,rfl,[.int .i64 s.al,.int .i64 s.st,.slice A n c,.int .i64 t.al,.int .i64 t.st,.slice C k c2],⟨rfl,oM,fun _=>⟨_,rfl,dF _,by dsimp only;omega,fun j u hu=>?_⟩⟩,fun j u hu=>?_⟩
 ·rw [zY,Nat.zero_add,hb.cell];simpa using hu
 ·match j with
  |0 =>
   simp at hu;subst hu;exact⟨A,n,c,rfl,rfl,rfl,h.1,h.2.more (dF _) oM⟩
  |1 =>
   simp at hu;subst hu;exact⟨C,k,c2,rfl,rfl,rfl,h'.1,h'.2.more (dF _) oM⟩
  |j+2=>simp at hu
def zeJ (s t:Sys) (p:Aut) (x:ByteArray):Int:=if zhQ [s,t] x=false then 6 else if zcC p x=false then 7 else 0
noncomputable def zcR (s t:Sys) (p:Aut) (hd:Bool) (a:Aut) (x:ByteArray):Int:=
 if iface s p t<0 then 1 else if zE hd a x=false then 2 else if hd=false then zeJ s t p x
 else if zaF s t p a=2 then 3 else if zaF s t p a=3 then 4 else if zaF s t p a=4 then 5 else 0
theorem zgm (s t:Sys) (p:Aut):iface s p t<0↔(zl s&&(zj p&&zl t))=false:=by
 unfold iface;cases h:(zl s&&(zj p&&zl t))
 ·simp
 ·simp
section
variable {lo hi n c:Nat} {A:Option Addr} {s:Sys} {lo1 hi1 m1 d1 m1' d1':Nat} {B B':Option Addr} {p:Aut} {lo2 hi2 k c2:Nat} {C:Option Addr} {t:Sys} {x:ByteArray} {w:World}
theorem zkg (h:zP w lo hi A n s)(ht:zP w lo2 hi2 C k t)(hp:zJ w lo1 hi1 B m1 B' m1' p)(hx:x.size<=9223372036854775807) :
  Calls Tryz.prog 116 #[.agg #[s.al,s.st,.slice A n c],.agg #[t.al,t.st,.slice C k c2],.agg #[p.al,.slice B m1 d1,.slice B' m1' d1'],x] w fun e w'=>e=.returned (.int .i64 (zeJ s t p x))∧Ext w w':=by
 have HS:=za (fun W (hW:Ext w W)=>h.ext hW);have HS':=za (fun W (hW:Ext w W)=>ht.ext hW);have HB:=za (fun W (hW:Ext w W)=>zfR (d:=d1) (d':=d1') (hp.ext hW) hx);have hr:=za (show zeJ s t p x=if zhQ [s,t] x=false then 6 else if zcC p x=false then 7 else 0 from rfl);clear h ht hp;have hw1:Ext w (((w.alloc (.cells #[s.al,s.st,.slice A n c] 38)).alloc (.cells #[t.al,t.st,.slice C k c2] 38)).alloc (.cells #[p.al,.slice B m1 d1,.slice B' m1' d1'] 31)):=(((cY w).alloc _).alloc _).alloc _;obtain⟨b1,b2,b3⟩:=zL (cY (((w.alloc (.cells #[s.al,s.st,.slice A n c] 38)).alloc (.cells #[t.al,t.st,.slice C k c2] 38)).alloc (.cells #[p.al,.slice B m1 d1,.slice B' m1' d1'] 31)));cases h1:zhQ [s,t] x<;>cases h2:zcC p x
 all_goals
  have H1:=za h1;have b:=za h2;clear h1 h2
  go_enter Tryz.func116,Tryz.ntmps116
  go_upto_region 1 with fail
  generalize ((w.alloc _).alloc _).alloc _=w1 at *;have c1:=b1.cells;have c2':=b2.cells;have c3:=b3.cells;have hx0:=cY w1;have e6:=dX w1 38 #[s.al,s.st,.slice A n c,t.al,t.st,.slice C k c2];have f6:=(cY w1).alloc (.cells #[s.al,s.st,.slice A n c,t.al,t.st,.slice C k c2] 38);obtain⟨l1,l2,hsl⟩:=zfA e6 (HS.out _ (hw1.trans f6)) (HS'.out _ (hw1.trans f6));go_wp2_with (first
   |(go_at_call 202;with_reducible refine (zeh hsl hx).mono ?_;rw [H1.out];rintro e w2 ⟨rfl,hx2⟩;have a:=f6.trans hx2)
   |(go_at_call 203;with_reducible refine (HB.out _ (hw1.trans a)).mono ?_;rw [b.out];rintro e w3 ⟨rfl,hx3⟩;have hx13:=a.trans hx3))
  go_ret;exact⟨zF (by rw [hr.out,H1.out];try rw [b.out];try rfl),hw1.trans (by first|exact hx13|exact a)⟩
variable {lo3 hi3 m2 d2 m2' d2':Nat} {D D':Option Addr} {a:Aut} {hd:Bool}
theorem yE07b3 {P:Prop}(h:P:=by
 have c1:=b1.cells;have c2':=b2.cells;have c3:=b3.cells;have c4:=b4.cells;have hx0:=Ext.refl w1;go_wp2_with (first
  |(go_at_call 114;with_reducible refine (HI.out _ hw1).mono (mQ fun w2 hx2=>?_);have hw2:=hw1.trans hx2)
  |(go_at_call 115;with_reducible refine (HC.out _ hw2).mono (mQ fun w3 hx3=>?_);have hx13:=hx2.trans hx3;have hw3:=hw1.trans hx13)
  |(go_at_call 116;with_reducible refine (HT.out _ hw3).mono (mQ fun w4 hx4=>?_);have hw4:=hw3.trans hx4)
  |(go_at_call 117;with_reducible refine (HF.out _ hw3).mono (mQ fun w4 hx4=>?_);have hw4:=hw3.trans hx4))
 go_ret;exact⟨zF (by rw [hr.out];try rfl),by first|exact hw4|exact hw3|exact hw2⟩
 ):P:=h
theorem yE07a6 {P:Prop}(h:P:=by
 rw [if_pos rfl] at hr
 go_enter Tryz.func54,Tryz.ntmps54
 go_upto_region 1 with fail
 generalize (((w.alloc _).alloc _).alloc _).alloc _=w1 at *;exact yE07b3
 ):P:=h
theorem yE07a7 {P:Prop}(h:P:=by
 go_enter Tryz.func54,Tryz.ntmps54
 go_upto_region 1 with fail
 generalize (((w.alloc _).alloc _).alloc _).alloc _=w1 at *;exact yE07b3
 ):P:=h
theorem yE07a8 {P:Prop}(h:P:=by
 exact yE07b3
 ):P:=h
theorem spec_CheckCertificate (h:zP w lo hi A n s)(ht:zP w lo2 hi2 C k t)(hp:zJ w lo1 hi1 B m1 B' m1' p)(ha:zJ w lo3 hi3 D m2 D' m2' a)(hxs:x.size<=9223372036854775807) :
  Calls Tryz.prog 54 #[.agg #[s.al,s.st,.slice A n c],.agg #[t.al,t.st,.slice C k c2],.agg #[p.al,.slice B m1 d1,.slice B' m1' d1'],.agg #[.bool hd,a.al,.slice D m2 d2,.slice D' m2' d2',x]] w fun e w'=>e=.returned (.int .i64 (zcR s t p hd a x))∧Ext w w':=by
 have HI:=za (fun W (hW:Ext w W)=>zbp (c:=c) (d1:=d1) (d1':=d1') (c2:=c2) (h.ext hW) (hp.ext hW) (ht.ext hW));have HT:=za (fun W (hW:Ext w W)=>zkg (c:=c) (d1:=d1) (d1':=d1') (c2:=c2) (x:=x) (h.ext hW) (ht.ext hW) (hp.ext hW) hxs);have HC:=za (fun W (hW:Ext w W)=>zaK _ _ _ _ d2 _ _ d2' hd _ x _ (ha.ext hW) hxs);have HF:=za (fun W (hW:Ext w W)=>zfr (c:=c) (d1:=d1) (d1':=d1') (c2:=c2) (d2:=d2) (d2':=d2') (h.ext hW) (ht.ext hW) (hp.ext hW) (ha.ext hW));have hr:=za (show zcR s t p hd a x=if iface s p t<0 then 1 else if zE hd a x=false then 2 else if hd=false then zeJ s t p x
  else if zaF s t p a=2 then 3 else if zaF s t p a=3 then 4 else if zaF s t p a=4 then 5 else 0 from rfl)
 clear h hp ht ha;have hw1:Ext w ((((w.alloc (.cells #[s.al,s.st,.slice A n c] 38)).alloc (.cells #[t.al,t.st,.slice C k c2] 38)).alloc (.cells #[p.al,.slice B m1 d1,.slice B' m1' d1'] 31)).alloc (.cells #[.bool hd,a.al,.slice D m2 d2,.slice D' m2' d2',x] 33)):=((((cY w).alloc _).alloc _).alloc _).alloc _;obtain⟨b1,b2,b3,b4⟩:=zgh (cY ((((w.alloc (.cells #[s.al,s.st,.slice A n c] 38)).alloc (.cells #[t.al,t.st,.slice C k c2] 38)).alloc (.cells #[p.al,.slice B m1 d1,.slice B' m1' d1'] 31)).alloc (.cells #[.bool hd,a.al,.slice D m2 d2,.slice D' m2' d2',x] 33)));generalize iface s p t=I at *;generalize zeJ s t p x=R at *;generalize zaF s t p a=F at *
 by_cases hI:I<0
 ·rw [if_pos hI] at hr;have b:=za (rfl:true=true);have f:=za (rfl:true=true);generalize zE hd a x=g at *;exact yE07a7
 have d:0<=I:=oM;rw [if_neg hI] at hr;cases hv0:zE hd a x
 ·rw [hv0,if_pos rfl] at hr;have b:=za hv0;clear hv0;rw [b.out] at HC;exact yE07a7
 rw [hv0,if_neg dM] at hr;have b:=za hv0;clear hv0;rw [b.out] at HC;cases hd
 ·rw [if_pos rfl] at hr
  go_enter Tryz.func54,Tryz.ntmps54
  go_upto_region 1 with fail
  generalize (((w.alloc _).alloc _).alloc _).alloc _=w1 at *;exact yE07a8
 rw [if_neg dM] at hr
 by_cases f2:F=2
 ·subst f2;exact yE07a6
 rw [if_neg f2] at hr;have i:(F==2)=false:=by simpa using f2
 by_cases f3:F=3
 ·subst f3;exact yE07a6
 rw [if_neg f3] at hr;have j:(F==3)=false:=by simpa using f3
 by_cases f4:F=4
 ·subst f4;exact yE07a6
 ·rw [if_neg f4] at hr;have l:(F==4)=false:=by simpa using f4
  go_enter Tryz.func54,Tryz.ntmps54
  go_upto_region 1 with fail
  generalize (((w.alloc _).alloc _).alloc _).alloc _=w1 at *;exact yE07a8
theorem yE07b1 {P:Prop}(h:P:=by
 generalize zeJ s t p x=R at *
 go_enter Tryz.func52,Tryz.ntmps52
 go_upto_region 1 with fail
 generalize (((w.alloc _).alloc _).alloc _).alloc _=w1 at *;have c1:=b1.cells;have c2':=b2.cells;have c3:=b3.cells;have c4:=b4.cells;have hx0:=Ext.refl w1;go_wp2_with (first
  |(go_at_call 108;with_reducible refine (HV.out _ hw1).mono (mQ fun w2 hx2=>?_);have hw2:=hw1.trans hx2)
  |(go_at_call 108;with_reducible refine (HV'.out _ hw2).mono (mQ fun w3 hx3=>?_);have hx13:=hx2.trans hx3;have hw3:=hw1.trans hx13)
  |(go_at_call 95;with_reducible refine (HP.out _ hw3).mono (mQ fun w4 hx4=>?_);have hx14:=hx13.trans hx4;have hw4:=hw1.trans hx14)
  |(go_at_call 99;with_reducible refine (HC.out _ hw4).mono (mQ fun w5 hx5=>?_);have hx15:=hx14.trans hx5;have hw5:=hw1.trans hx15;have e6:=Blk.new w5 38 #[s.al,s.st,.slice A n c,t.al,t.st,.slice C k c2];have f6:=(Ext.refl w5).alloc (.cells #[s.al,s.st,.slice A n c,t.al,t.st,.slice C k c2] 38);have hx16:=hx15.trans f6;have hw6:=hw1.trans hx16;obtain⟨l1,l2,hsl⟩:=zfA e6 (HS.out _ hw6) (HS'.out _ hw6))
  |(go_at_call 50;with_reducible refine (zae hsl (HT.out _ hw6) hxs).mono ?_;rw [Ht1.out];rintro e w7 ⟨rfl,hx7⟩;have hx17:=hx16.trans hx7;have hw7:=hw1.trans hx17)
  |(go_at_call 51;with_reducible refine (HB.out _ hw7).mono (mQ fun w8 hx8=>?_);have hx18:=hx17.trans hx8;have hw8:=hw1.trans hx18)
  |(go_at_call 109;with_reducible refine (HF.out _ hw5).mono (mQ fun w9 hx9=>?_);have hw9:=hw5.trans hx9))
 go_ret;exact⟨zF (by rw [hr.out,hr2.out];try rfl),by first|exact hw9|exact hw8|exact hw7|exact hw5|exact hw4|exact hw3|exact hw2⟩
 ):P:=h
theorem yE07a1 {P:Prop}(h:P:=by
 rw [hb1] at HB;clear hb1;exact yE07b1
 ):P:=h
theorem yE07c1 {P:Prop}(h:P:=by
 have c1:=b1.cells;have c2':=b2.cells;have c3:=b3.cells;have c4:=b4.cells;have hx0:=Ext.refl w1;go_wp2_with (first
  |(go_at_call 108;with_reducible refine (HV.out _ hw1).mono (mQ fun w2 hx2=>?_);have hw2:=hw1.trans hx2)
  |(go_at_call 108;with_reducible refine (HV'.out _ hw2).mono (mQ fun w3 hx3=>?_);have hx13:=hx2.trans hx3;have hw3:=hw1.trans hx13)
  |(go_at_call 95;with_reducible refine (HP.out _ hw3).mono (mQ fun w4 hx4=>?_);have hx14:=hx13.trans hx4;have hw4:=hw1.trans hx14)
  |(go_at_call 99;with_reducible refine (HC.out _ hw4).mono (mQ fun w5 hx5=>?_);have hx15:=hx14.trans hx5;have hw5:=hw1.trans hx15;have e6:=Blk.new w5 38 #[s.al,s.st,.slice A n c,t.al,t.st,.slice C k c2];have f6:=(Ext.refl w5).alloc (.cells #[s.al,s.st,.slice A n c,t.al,t.st,.slice C k c2] 38);have hx16:=hx15.trans f6;have hw6:=hw1.trans hx16;obtain⟨l1,l2,hsl⟩:=zfA e6 (HS.out _ hw6) (HS'.out _ hw6))
  |(go_at_call 50;with_reducible refine (zae hsl (HT.out _ hw6) hxs).mono ?_;rw [Ht1.out];rintro e w7 ⟨rfl,hx7⟩;have hx17:=hx16.trans hx7;have hw7:=hw1.trans hx17)
  |(go_at_call 51;with_reducible refine (HB.out _ hw7).mono (mQ fun w8 hx8=>?_);have hx18:=hx17.trans hx8;have hw8:=hw1.trans hx18)
  |(go_at_call 109;with_reducible refine (HF.out _ hw5).mono (mQ fun w9 hx9=>?_);have hw9:=hw5.trans hx9))
 go_ret;exact⟨zF (by rw [hr.out];try rfl),by first|exact hw9|exact hw8|exact hw7|exact hw5|exact hw4|exact hw3|exact hw2⟩
 ):P:=h
theorem yE07b2 {P:Prop}(h:P:=by
 go_enter Tryz.func52,Tryz.ntmps52
 go_upto_region 1 with fail
 generalize (((w.alloc _).alloc _).alloc _).alloc _=w1 at *;exact yE07c1
 ):P:=h
theorem yE07a2 {P:Prop}(h:P:=by
 rw [if_pos rfl] at hr;exact yE07b2
 ):P:=h
theorem yE07a3 {P:Prop}(h:P:=by
 go_enter Tryz.func52,Tryz.ntmps52
 go_upto_region 1 with fail
 generalize (((w.alloc _).alloc _).alloc _).alloc _=w1 at *;exact yE07c1
 ):P:=h
theorem impl_CheckCertificate (h:zP w lo hi A n s)(ht:zP w lo2 hi2 C k t)(hp:zJ w lo1 hi1 B m1 B' m1' p)(ha:zJ w lo3 hi3 D m2 D' m2' a)(hxs:x.size<=9223372036854775807)(hT:Tab w) :
  Calls Tryz.prog 52 #[.agg #[s.al,s.st,.slice A n c],.agg #[t.al,t.st,.slice C k c2],.agg #[p.al,.slice B m1 d1,.slice B' m1' d1'],.agg #[.bool hd,a.al,.slice D m2 d2,.slice D' m2' d2',x]] w fun e w'=>e=.returned (.int .i64 (zcR s t p hd a x))∧Ext w w':=by
 have HT:=za (fun W (hW:Ext w W)=>hT.ext hW);have HS:=za (fun W (hW:Ext w W)=>h.ext hW);have HS':=za (fun W (hW:Ext w W)=>ht.ext hW);have HB:=za (fun W (hW:Ext w W)=>zfK (d:=d1) (d':=d1') (hp.ext hW) hxs);have HV:=za (fun W (hW:Ext w W)=>zak (c:=c) (h.ext hW));have HV':=za (fun W (hW:Ext w W)=>zak (c:=c2) (ht.ext hW));have HP:=za (fun W (hW:Ext w W)=>zI _ _ _ _ d1 _ _ d1' _ _ (hp.ext hW));have HC:=za (fun W (hW:Ext w W)=>zby _ _ _ _ d2 _ _ d2' hd _ x _ (ha.ext hW) hxs);have HF:=za (fun W (hW:Ext w W)=>zfl (c:=c) (d1:=d1) (d1':=d1') (c2:=c2) (d2:=d2) (d2':=d2') (h.ext hW) (ht.ext hW) (hp.ext hW) (ha.ext hW) (hT.ext hW));have hr:=za (show zcR s t p hd a x=if iface s p t<0 then 1 else if zE hd a x=false then 2 else if hd=false then zeJ s t p x
  else if zaF s t p a=2 then 3 else if zaF s t p a=3 then 4 else if zaF s t p a=4 then 5 else 0 from rfl)
 clear h hp ht ha;have hw1:Ext w ((((w.alloc (.cells #[s.al,s.st,.slice A n c] 38)).alloc (.cells #[t.al,t.st,.slice C k c2] 38)).alloc (.cells #[p.al,.slice B m1 d1,.slice B' m1' d1'] 31)).alloc (.cells #[.bool hd,a.al,.slice D m2 d2,.slice D' m2' d2',x] 33)):=((((cY w).alloc _).alloc _).alloc _).alloc _;obtain⟨b1,b2,b3,b4⟩:=zgh (cY ((((w.alloc (.cells #[s.al,s.st,.slice A n c] 38)).alloc (.cells #[t.al,t.st,.slice C k c2] 38)).alloc (.cells #[p.al,.slice B m1 d1,.slice B' m1' d1'] 31)).alloc (.cells #[.bool hd,a.al,.slice D m2 d2,.slice D' m2' d2',x] 33)));generalize zaF s t p a=F at *;cases h1:zl s<;>cases h2:zl t<;>cases h3:zj p
 case true.true.true =>
  rw [if_neg (by rw [zgm,h1,h2,h3];decide)] at hr;rw [h1] at HV;rw [h2] at HV';rw [h3] at HP;clear h1 h2 h3;cases hv0:zE hd a x
  ·rw [hv0,if_pos rfl] at hr;have b:=za hv0;clear hv0;rw [b.out] at HC;exact yE07a3
  rw [hv0,if_neg dM] at hr;have b:=za hv0;clear hv0;rw [b.out] at HC;cases hd
  ·rw [if_pos rfl] at hr;have hr2:=za (show zeJ s t p x=if zhQ [s,t] x=false then 6 else if zcC p x=false then 7 else 0 from rfl);cases ht1:zhQ [s,t] x
   ·rw [ht1,if_pos rfl] at hr2;have Ht1:=za ht1;clear ht1;exact yE07b1
   rw [ht1,if_neg dM] at hr2;have Ht1:=za ht1;clear ht1;cases hb1:zcC p x
   ·rw [hb1,if_pos rfl] at hr2;exact yE07a1
   rw [hb1,if_neg dM] at hr2;exact yE07a1
  rw [if_neg dM] at hr
  by_cases f2:F=2
  ·subst f2;exact yE07a2
  rw [if_neg f2] at hr;have f:(F==2)=false:=by simpa using f2
  by_cases f3:F=3
  ·subst f3;exact yE07a2
  rw [if_neg f3] at hr;have g:(F==3)=false:=by simpa using f3
  by_cases f4:F=4
  ·subst f4;exact yE07a2
  ·rw [if_neg f4] at hr;have i:(F==4)=false:=by simpa using f4
   exact yE07b2
 all_goals
  rw [if_pos (by rw [zgm,h1,h2,h3];rfl)] at hr;rw [h1] at HV;rw [h2] at HV';rw [h3] at HP;clear h1 h2 h3;exact yE07a3
end
theorem pnx_mod (ms:List Mem) (x l:Nat):pnx ms x l=pnx ms (x % zM ms) l:=by
 induction ms generalizing x with
 |nil=>rfl
 |cons m r ih =>
  rw [zee];unfold pnx;have a:x % (m.1*zM r) / zM r % m.1=x / zM r % m.1:=by
   rw [fJ,jI,Nat.mod_mod]
  have b:pnx r (x % (m.1*zM r)) l=pnx r x l:=by
   rw [ih (x % (m.1*zM r)),Nat.mod_mul_left_mod,← ih x]
  rw [a,b]
theorem goes_lt {ms:List Mem}(hm:∀ m∈ms,zeL m) (hv:∀ l∈v,l<6) (h:zbJ (pnx ms) [0] v x):x<zM ms:=by
 rcases zaf v with rfl|⟨u,l,rfl⟩
 ·have:=h.ah;have a:=zgx hm;simp at this;omega
 ·obtain⟨n,_,hx⟩:=h.inv;exact zjn hm (hv l sM) x hx
theorem mem_lt {m:Mem}(hm:zeL m) (hv:∀ l∈v,l<6) (h:zbJ m.2 [0] v q):q<m.1:=by
 have a:∀ n (v:List Nat),v.length=n->(∀ l∈v,l<6)->∀ q,zbJ m.2 [0] v q->q<m.1:=by
  intro n
  induction n with
  |zero =>
   intro v hl _ q h;obtain rfl:=dN hl;have:=h.ah;have:=hm.1;simp at *;omega
  |succ n ih =>
   intro v hl hv q h;rcases zaf v with rfl|⟨u,l,rfl⟩
   ·simp at hl
   ·obtain⟨b,c,d⟩:=h.inv;exact hm.2 b l (ih u (by simpa using hl) (fun k hk=>hv k (by simp [hk])) b c) (hv l sM) q d
 exact a _ v rfl hv q h
theorem zgk {m:Mem} {r:List Mem}(hm:zeL m)(hr:∀ m∈r,zeL m):∀ (n:Nat) (v:List Nat),v.length=n->(∀ l∈v,l<6)->∀ x,zbJ (pnx (m :: r)) [0] v x↔∃ q y,x=q*zM r+y∧zbJ m.2 [0] v q∧zbJ (pnx r) [0] v y:=by
 intro n
 induction n with
 |zero =>
  intro v hl _ x;obtain rfl:=dN hl;constructor
  ·intro h;have:=h.ah;simp at this;subst this;exact⟨0,0,sM,.nil sM,.nil sM⟩
  ·rintro ⟨q,y,rfl,b,a⟩;have b:=b.ah;have a:=a.ah;simp at b a;subst b;subst a;exact .nil sM
 |succ n j =>
  intro v hl hv x;rcases zaf v with rfl|⟨u,l,rfl⟩
  ·simp at hl
  have p:∀ k∈u,k<6:=fun k hk=>hv k (by simp [hk]);have D:l<6:=hv l sM;have j:=j u (by simpa using hl) p;have H:=zgx hr;have c:∀ q y,zbJ m.2 [0] u q->zbJ (pnx r) [0] u y->pnx (m :: r) (q*zM r+y) l=(m.2 q l).flatMap fun d=>(pnx r y l).map fun f=>d*zM r+f:=by
   intro q y b a;have E:=mem_lt hm p b;have F:=goes_lt hr p a;show (m.2 ((q*zM r+y) / zM r % m.1) l).flatMap (fun d=>(pnx r (q*zM r+y) l).map fun f=>d*zM r+f)=_;have z:(q*zM r+y) / zM r % m.1=q:=by
    rw [fJ,Nat.mul_add_div oM,iW F,Nat.add_zero,iB E]
   have B:pnx r (q*zM r+y) l=pnx r y l:=by
    rw [pnx_mod r (q*zM r+y),fJ,Nat.mul_add_mod,← pnx_mod]
   rw [z,B]
  constructor
  ·intro h;obtain⟨G,b,a⟩:=h.inv;obtain⟨q,y,rfl,g,i⟩:=(j G).1 b;rw [c q y g i] at a;simp only [List.mem_flatMap,List.mem_map] at a;obtain⟨d,o,f,s,rfl⟩:=a;exact⟨d,f,rfl,.snoc g o,.snoc i s⟩
  ·rintro ⟨d,f,rfl,b,a⟩;obtain⟨q,g,i⟩:=b.inv;obtain⟨y,t,C⟩:=a.inv;refine .snoc ((j (q*zM r+y)).2 ⟨q,y,rfl,g,t⟩) ?_;rw [c q y g t];simp only [List.mem_flatMap,List.mem_map];exact⟨d,i,f,C,rfl⟩
def zjz (s:Sys) (v:List Nat):Prop:=∃ q,zbJ (cho s) [0] v q
theorem zhG (a:Aut) (v:List Nat) (q:Nat):zbJ (zbO a).2 [0] v q↔q=zaQ a 0 v:=by
 have c:∀ n (v:List Nat),v.length=n->∀ q,zbJ (zbO a).2 [0] v q↔q=zaQ a 0 v:=by
  intro n
  induction n with
  |zero =>
   intro v hl q;obtain rfl:=dN hl;constructor
   ·intro h;have:=h.ah;simp at this;subst this;rfl
   ·rintro rfl;exact .nil (by simp [zaQ])
  |succ n b =>
   intro v hl q;rcases zaf v with rfl|⟨u,l,rfl⟩
   ·simp at hl
   rw [zbD];have b:=b u (by simpa using hl);constructor
   ·intro h;obtain⟨g,f,d⟩:=h.inv;rw [(b g).1 f] at d;simpa [zbO] using d
   ·rintro rfl;exact .snoc ((b _).2 rfl) (by simp [zbO])
 exact c _ v rfl q
theorem goes_nil (v:List Nat) (y:Nat):zbJ (pnx []) [0] v y↔y=0:=by
 have b:∀ n (v:List Nat),v.length=n->∀ y,zbJ (pnx []) [0] v y↔y=0:=by
  intro n
  induction n with
  |zero =>
   intro v hl y;obtain rfl:=dN hl;exact⟨fun h=>by simpa using h.ah,fun h=>.nil (by simp [h])⟩
  |succ n a =>
   intro v hl y;rcases zaf v with rfl|⟨u,l,rfl⟩
   ·simp at hl
   have a:=a u (by simpa using hl);constructor
   ·intro h;obtain⟨f,d,c⟩:=h.inv;simpa [pnx] using c
   ·rintro rfl;exact .snoc ((a 0).2 rfl) (by simp [pnx])
 exact b _ v rfl y
theorem zhH {a:Aut}(ha:zj a=true)(hp:zj p=true) (hv:∀ l∈v,l<6) (y:Nat):zbJ (pnx [zbO a,zbO p]) [0] v y↔y=zaQ a 0 v*p.next.length+zaQ p 0 v:=by
 have d:∀ m∈[zbO p],zeL m:=by simp;exact zbQ hp
 have g:zM [zbO p]=p.next.length:=by simp [zM,zaC,zbO]
 have b:∀ z,zbJ (pnx [zbO p]) [0] v z↔z=zaQ p 0 v:=by
  intro z;rw [zgk (zbQ hp) sM _ v rfl hv];constructor
  ·rintro ⟨q,y,rfl,b,c⟩;rw [(goes_nil v y).1 c,(zhG p v q).1 b];simp [zM,zaC]
  ·rintro rfl;exact⟨zaQ p 0 v,0,by simp [zM,zaC],(zhG p v _).2 rfl,(goes_nil v 0).2 rfl⟩
 rw [zgk (zbQ ha) d _ v rfl hv,g];constructor
 ·rintro ⟨q,y,rfl,c,f⟩;rw [(zhG a v q).1 c,(b y).1 f]
 ·rintro rfl;exact⟨_,_,rfl,(zhG a v _).2 rfl,(b _).2 rfl⟩
theorem zjf {T:List Mem}(hT:∀ m∈T,zeL m) (hv:∀ l∈v,l<6) (g:Nat->Prop):∀ {ss:List Sys},(∀ s∈ss,zeL (zen s))->((∃ x,zbJ (pnx (ss.map zen++T)) [0] v x∧g (x % zM T))↔(∀ s∈ss,zjz s v)∧∃ y,zbJ (pnx T) [0] v y∧g y):=by
 intro ss
 induction ss with
 |nil =>
  intro _;simp only [List.map_nil,List.nil_append,List.not_mem_nil,false_implies,implies_true,true_and];constructor
  ·rintro ⟨x,h,c⟩;rw [iB (goes_lt hT hv h)] at c;exact⟨x,h,c⟩
  ·rintro ⟨x,h,c⟩;exact⟨x,h,by rwa [iB (goes_lt hT hv h)]⟩
 |cons s r j =>
  intro hs;have d:=hs s gJ;have f:=fun t a=>hs t (eC _ a);have j:=j f;have hr:∀ m∈r.map zen++T,zeL m:=by
   intro m hm;rcases List.mem_append.1 hm with h|h
   ·obtain⟨t,a,rfl⟩:=List.mem_map.1 h;exact f t a
   ·exact hT m h
  have b:∀ q y,(q*zM (r.map zen++T)+y) % zM T=y % zM T:=by
   intro q y;rw [zcj,← Nat.mul_assoc,fJ,Nat.mul_add_mod]
  rw [fN,List.cons_append];constructor
  ·rintro ⟨x,h,c⟩;obtain⟨q,y,rfl,i,k⟩:=(zgk d hr _ v rfl hv x).1 h;rw [b] at c;obtain⟨n,o⟩:=j.1 ⟨y,k,c⟩;refine⟨fun t a=>?_,o⟩;rcases List.mem_cons.1 a with rfl|a
   ·exact⟨q,i⟩
   ·exact n t a
  ·rintro ⟨i,k⟩;obtain⟨y,n,o⟩:=j.2 ⟨fun t a=>i t (eC _ a),k⟩;obtain⟨q,p⟩:=i s gJ;exact⟨q*zM (r.map zen++T)+y,(zgk d hr _ v rfl hv _).2 ⟨q,y,rfl,p,n⟩,by rwa [b]⟩
def zga (ss:List Sys) (a p:Aut) (v:List Nat):Prop:=(∀ s∈ss,zjz s v)∧zco a (zaQ a 0 v)=true∧zco p (zaQ p 0 v)=false
theorem zks {a:Aut}(hss:∀ s∈ss,zl s=true)(ha:zj a=true)(hp:zj p=true) :
  vioB ss a p=true↔∃ v,(∀ l∈v,l∈letters (zG ss|||a.al.toNat) 6)∧zga ss a p v:=by
 have k:∀ s∈ss,zeL (zen s):=fun s hs=>zeT (zcD (hss s hs));have B:∀ m∈[zbO a,zbO p],zeL m:=by simp;exact⟨zbQ ha,zbQ hp⟩
 have z:zM [zbO a,zbO p]=a.next.length*p.next.length:=by simp [zM,zaC,zbO]
 have D:=(zk ha).2.1;have E:=(zk hp).2.1;have c:∀ x,zcb a p x=zcb a p (x % zM [zbO a,zbO p]):=by
  intro x;unfold zcb;rw [z,Nat.mod_mul_left_mod,fJ,jI,Nat.mod_mod]
 have i:∀ v,(∀ l∈v,l<6)->((∃ x,zbJ (zcs ss a p) [0] v x∧zcb a p x=true)↔zga ss a p v):=by
  intro v d;rw [zdE];have r:=zjf B d (fun y=>zcb a p y=true) k;have t:(∃ x,zbJ (pnx (zbr ss [a,p])) [0] v x∧zcb a p x=true)↔(∃ x,zbJ (pnx (ss.map zen++[zbO a,zbO p])) [0] v x∧zcb a p (x % zM [zbO a,zbO p])=true):=by
   constructor
   ·rintro ⟨x,h,b⟩;exact⟨x,h,by rw [← c];exact b⟩
   ·rintro ⟨x,h,b⟩;exact⟨x,h,by rw [c];exact b⟩
  rw [t,r];unfold zga;refine and_congr_right fun _=>?_;have j:=zdv ha d (q:=0) oM;have g:=zdv hp d (q:=0) oM;have n:(zaQ a 0 v*p.next.length+zaQ p 0 v) / p.next.length % a.next.length=zaQ a 0 v:=by
   rw [fJ,Nat.mul_add_div oM,iW g,Nat.add_zero,iB j]
  have o:(zaQ a 0 v*p.next.length+zaQ p 0 v) % p.next.length=zaQ p 0 v:=by
   rw [fJ,Nat.mul_add_mod,iB g]
  constructor
  ·rintro ⟨y,C,b⟩;rw [(zhH ha hp d y).1 C] at b;unfold zcb at b;rw [n,o] at b;simpa using b
  ·intro b;refine⟨_,(zhH ha hp d _).2 rfl,?_⟩;unfold zcb;rw [n,o];simpa using b
 unfold vioB lostB;rw [Bool.not_eq_true',@decide_eq_false_iff_not _ (Classical.propDecidable _)];constructor
 ·intro hn;apply Classical.byContradiction;intro hno;refine hn fun v d x hx=>?_;cases hb:zcb a p x
  ·rfl
  ·exact absurd ⟨v,d,(i v (fun l f=>zcG _ l (d l f))).1 ⟨x,hx,hb⟩⟩ hno
 ·rintro ⟨v,d,u⟩ f;obtain⟨x,hx,b⟩:=(i v (fun l f=>zcG _ l (d l f))).2 u;have:=f v d x hx;rw [b] at this;cases this
def hidL (s:Sys) (A l:Nat):Prop:=l<6∧s.al.toNat.testBit l=true∧A.testBit l=false
inductive Cl (s:Sys) (p:Aut) (A:Nat) (B:Nat->Nat->Prop):Nat->Nat->Prop
 |base {q i:Nat} (h:B q i):Cl s p A B q i
 |hid {q i l q':Nat} (h:Cl s p A B q i) (hl:hidL s A l) (hq:q'∈cho s q l):Cl s p A B q' (aGo p i l)
def mvB (s:Sys) (p:Aut) (l:Nat) (B:Nat->Nat->Prop):Nat->Nat->Prop:=fun q' j=>∃ q i,B q i∧q'∈cho s q l∧j=aGo p i l
def prR (s:Sys) (p:Aut) (A:Nat):List Nat->Nat->Nat->Prop
 |[]=>Cl s p A (fun q i=>q=0∧i=0)
 |l :: r=>Cl s p A (mvB s p l (prR s p A r))
def PR (s:Sys) (p:Aut) (A:Nat) (v:List Nat):Nat->Nat->Prop:=prR s p A v.reverse
theorem PR_nil (s:Sys) (p:Aut) (A:Nat):PR s p A []=Cl s p A (fun q i=>q=0∧i=0):=rfl
theorem PR_snoc (s:Sys) (p:Aut) (A:Nat) (v:List Nat) (l:Nat):PR s p A (v++[l])=Cl s p A (mvB s p l (PR s p A v)):=by
 unfold PR;rw [List.reverse_append];rfl
def Bad (s:Sys) (p:Aut) (A:Nat) (v:List Nat):Prop:=∃ q i,PR s p A v q i∧zco p i=false
def SafeW (s:Sys) (p:Aut) (A:Nat) (v:List Nat):Prop:=∀ k,k<=v.length->¬ Bad s p A (v.take k)
theorem zhP {s:Sys}(hs:Sml s) (hb:s.al.toNat.testBit l=true) (set q':Nat):(zbT s.edges set (l:Int)).testBit q'=true↔∃ q,set.testBit q=true∧q'∈cho s q l:=by
 obtain⟨m,n,h,-⟩:=hs;rw [zek];constructor
 ·rintro ⟨e,b,⟨c,a⟩,rfl⟩;obtain⟨i,j,k⟩:=h e b;refine⟨e.fr.toNat,a,?_⟩;unfold cho;rw [if_pos hb,zK];refine⟨oM,(zeF _ _ _ _).2 ⟨e,b,?_,rfl⟩⟩;exact⟨oM,c⟩
 ·rintro ⟨q,c,a⟩;unfold cho at a;rw [if_pos hb,zK] at a;obtain⟨e,b,⟨d,f⟩,g⟩:=(zeF _ _ _ _).1 a.2;exact⟨e,b,⟨f,by rw [d];simpa using c⟩,g⟩
theorem zgX {s:Sys}(hs:Sml s) (x:Nat) (l:Int):zbT s.edges x l<65536:=by
 have a:=zkm hs.2.2.1 x l;have b:(2:Nat) ^ s.st.toNat<=2 ^ 16:=eE oM (oH hs.2.1);exact dZ a b
def zdZ (T:List Nat) (i q:Nat):Prop:=(T.getD i 0).testBit q=true
theorem zhT (h:zdZ T i q):i<T.length:=by
 rcases Nat.lt_or_ge i T.length with a|a
 ·exact a
 ·unfold zdZ at h;rw [dH,List.getElem?_eq_none a] at h;simp at h
theorem zdh {j:Nat}(hj:j<T.length) (x i q:Nat):zdZ (T.set j (T.getD j 0|||x)) i q↔zdZ T i q∨(i=j∧x.testBit q=true):=by
 unfold zdZ
 by_cases h:j=i
 ·subst h;rw [dH,eQ hj,fI,gU,fR];simp
 ·rw [dH,fL h,← dH];constructor
  ·exact .inl
  ·rintro (a|⟨a,-⟩)
   ·exact a
   ·exact absurd a.symm h
def zbK (T:List Nat) (n:Nat) (B:Nat->Nat->Prop):Prop:=T.length=n∧(∀ x∈T,x<65536)∧∀ i q,zdZ T i q↔B q i
structure ClI (s:Sys) (p:Aut) (A:Nat) (B:Nat->Nat->Prop) (n:Nat) (T:List Nat):Prop where
 len:T.length=n
 lt:∀ x∈T,x<65536
 base:∀ q i,B q i->zdZ T i q
 sub:∀ i q,zdZ T i q->Cl s p A B q i
def zfc (s:Sys) (p:Aut) (T:List Nat) (i l:Nat):Prop:=∀ q,zdZ T i q->∀ q'∈cho s q l,zdZ T (aGo p i l) q'
section
variable {s:Sys} {p:Aut} {A n:Nat} {B:Nat->Nat->Prop} {T:List Nat}
theorem zbK.clI (h:zbK T n B):ClI s p A B n T:=⟨h.1,h.2.1,fun q i hb=>(h.2.2 i q).2 hb,fun i q hb=>.base ((h.2.2 i q).1 hb)⟩
theorem zcc (h:∀ x∈T,x<65536) (i:Nat):T.getD i 0<65536:=by
 rw [dH];cases h1:T[i]? with
 |none=>simp
 |some x=>exact h x (dB h1)
theorem ClI.step (h:ClI s p A B n T)(hs:Sml s)(hp:zj p=true)(hn:n=p.next.length) (hi:i<n)(hl:hidL s A l) :
  ClI s p A B n (T.set (aGo p i l) (T.getD (aGo p i l) 0|||zbT s.edges (T.getD i 0) (l:Int))):=by
 have a:aGo p i l<T.length:=by rw [h.len,hn];exact zdV hp oM hl.1
 refine⟨by rw [List.length_set];exact h.len,fun x hx=>?_,fun q i' hb=>(zdh a _ _ _).2 (.inl (h.base q i' hb)),fun i' q hb=>?_⟩
 ·rcases eX hx with hx|rfl
  ·exact h.lt x hx
  ·exact eL (n:=16) (zcc h.lt _) (dZ (zkm hs.2.2.1 _ _) (eE oM (oH hs.2.1)))
 ·rcases (zdh a _ _ _).1 hb with hb1|⟨rfl,hb1⟩
  ·exact h.sub _ _ hb1
  ·obtain⟨d,b,c⟩:=(zhP hs hl.2.1 _ _).1 hb1;exact .hid (h.sub _ _ b) hl c
theorem closedAt_of (hs:Sml s) (hl:hidL s A l)(he:T.getD (aGo p i l) 0|||zbT s.edges (T.getD i 0) (l:Int)=T.getD (aGo p i l) 0):zfc s p T i l:=by
 intro q hq q' hq';unfold zdZ;rw [← he,gU,(zhP hs hl.2.1 _ _).2 ⟨q,hq,hq'⟩,Bool.or_true]
theorem ClI.fin (h:ClI s p A B n T)(hc:∀ i l,i<n->hidL s A l->zfc s p T i l):zbK T n (Cl s p A B):=by
 refine⟨h.len,h.lt,fun i q=>⟨h.sub i q,fun hb=>?_⟩⟩
 induction hb with
 |base hb=>exact h.base _ _ hb
 |hid _ hl hq ih=>exact hc _ _ (by rw [← h.len];exact zhT ih) hl _ ih _ hq
end
def room:List Nat->Nat
 |[]=>0
 |x :: r=>(65536 - x)+room r
theorem room_set:∀ (T:List Nat) (j x:Nat),(T.getD j 0|||x)<65536->room (T.set j (T.getD j 0|||x))<=room T∧(j<T.length->T.getD j 0|||x≠T.getD j 0->room (T.set j (T.getD j 0|||x))<room T)
 |[],j,x,_=>by simp [room]
 |a :: r,0,x,h=>by
  simp only [List.getD_cons_zero,List.set_cons_zero,room] at h ⊢
  have h1:a<=a|||x:=Nat.left_le_or
  refine⟨oM,fun _ h2=>oM⟩
 |a :: r,j+1,x,h=>by
  simp only [List.getD_cons_succ,List.set_cons_succ,room,List.length_cons] at h ⊢
  obtain⟨h1,h2⟩:=room_set r j x h
  refine⟨oM,fun h3 h4=>by have:=h2 oM h4;omega⟩
theorem sub_bit {b:Nat}(ha:a<64)(hb:b<64) (l:Nat):l∈letters (a - (a&&&b)) 6↔l<6∧a.testBit l=true∧b.testBit l=false:=by
 rw [zK];refine and_congr_right fun hl=>?_;have c:∀ a<64,∀ b<64,∀ l<6,((a - (a&&&b)).testBit l=true↔a.testBit l=true∧b.testBit l=false):=by decide +kernel
 exact c a ha b hb l hl
theorem stand_bad {s:Sys}  {A:Nat}  (h:zbK T n (PR s p A v)):Bad s p A v↔∃ i,i<n∧T.getD i 0≠0∧zco p i=false:=by
 constructor
 ·rintro ⟨q,i,a,b⟩;have hb:=(h.2.2 i q).2 a;refine⟨i,by rw [← h.1];exact zhT hb,fun e=>?_,b⟩;unfold zdZ at hb;rw [e] at hb;simp at hb
 ·rintro ⟨i,d,a,b⟩;obtain⟨q,c⟩:=Nat.exists_testBit_of_ne_zero a;exact⟨q,i,(h.2.2 i q).1 c,b⟩
theorem ziz (hn:1<=n):zbK ((dQ n 0).set 0 1) n (fun q i=>q=0∧i=0):=by
 refine⟨sM,fun x hx=>?_,fun i q=>?_⟩
 ·rcases eX hx with hx|rfl
  ·rw [iO] at hx;omega
  ·omega
 ·unfold zdZ;rw [dH]
  by_cases h:i=0
  ·subst h;rw [eQ (by rw [List.length_replicate];omega),fI];constructor
   ·intro h;exact⟨by cases q with|zero=>rfl|succ q=>simp [Nat.testBit_succ] at h,rfl⟩
   ·rintro ⟨rfl,-⟩;rfl
  ·rw [fL oM];constructor
   ·intro h;cases a:(dQ n 0)[i]? with
    |none=>rw [a] at h;simp at h
    |some x =>
     have:=dB a;rw [iO] at this;rw [a,this.2] at h;simp at h
   ·rintro ⟨_,a⟩;exact absurd a h
end Go.Proofs.YtcfchopfijalpaaGreatDoor
