/- Words: the r -/
import Derived.Test.YtckbjnndaaoddaaGreatDoorY06
import Derived.Lib.SliceRun
set_option maxHeartbeats 4000000
set_option maxRecDepth 100000
namespace Go.Proofs.YtckbjnndaaoddaaGreatDoor
open Go Go.RowKit
open Bool renaming and_eq_true->eD,eq_false_iff->fT,eq_iff_iff->jC,not_eq_true'->iR,or_eq_true->iC
open Ext renaming bl_->eS,drew->gG,refl->dE,trans->fI,x1_->iK
open Frm renaming setCell->eB
open List renaming all_eq_true->fH,eq_nil_of_length_eq_zero->eJ,getD_eq_getElem?_getD->eE,getElem?_append_left->eH,getElem?_eq_getElem->dH,getElem?_eq_none->eR,getElem?_map->eM,getElem?_of_mem->eU,getElem?_set_ne->gX,getElem?_set_self->fP,length_append->eK,length_set->gU,length_singleton->eY,length_take->fL,map_cons->gZ,mem_cons_of_mem->eZ,mem_cons_self->iG,mem_of_getElem?->dG,mem_or_eq_of_mem_set->gL,mem_replicate->jO,nil_append->e9,replicate->eQ,take_add_one->eG,take_of_length_le->eF
open Nat renaming div_eq_of_lt->jD,eq_of_testBit_eq->gY,eq_zero_or_pos->iL,le_of_lt_succ->gD,le_refl->dI,le_trans->eI,lt_of_lt_of_le->eV,lt_or_eq_of_le->fC,mod_eq_of_lt->iJ,mod_mul_right_div_self->kA,mul_comm->gK,or_lt_two_pow->e7,pow_le_pow_right->e6,testBit_and->iE,testBit_or->iM,zero_add->eO,zero_le->eC
open Option renaming getD_some->gQ,toList_some->e8
open Reads renaming af->eW
variable {A:Option Addr} {G N R Z a b b0 base c c0 cap g g0 hi i j k l lo n q size x:Nat} {M O T U V ls v:List Nat} {W w w':World} {cs:Array Value} {e t:TypeId} {p:Aut} {s:Sys} {xs:List Value}
def wl (s:ByteArray):List Nat:=s.data.toList.map fun b=>b.toNat - 97
theorem zgh (s:ByteArray):(wl s).length=s.size:=by simp [wl]
theorem zev {s:ByteArray} (hk:k<s.size):(wl s)[k]?=some (s[k].toNat - 97):=by
 unfold wl;rw [eM,zcu s k hk];rfl
theorem zaQ {s:ByteArray}(h:zbj s=true) (hk:k<s.size):97<=s[k].toNat∧s[k].toNat<=102:=by
 unfold zbj at h;simp only [eD,fH] at h;have:=h.2 s[k] (dG (zcu s k hk));simp only [zeC,decide_eq_true_eq] at this;omega
theorem zbk {s:ByteArray}(h:zbj s=true):s.size<=50000:=by
 unfold zbj at h;simp only [eD,decide_eq_true_eq] at h;exact h.1
theorem wl_lt {s:ByteArray}(h:zbj s=true):∀ l∈wl s,l<6:=by
 intro l hl;obtain⟨k,b⟩:=eU hl;have a:=(List.getElem?_eq_some_iff.1 b).1;rw [zgh] at a;rw [zev a] at b;have:=zaQ h a;have:=Option.some.inj b;omega
def alB (ls:List Nat):Nat:=ls.foldl (fun u l=>u|||2 ^ l) 0
theorem alB_snoc (ls:List Nat) (l:Nat):alB (ls++[l])=alB ls|||2 ^ l:=by simp [alB]
theorem zea (ls:List Nat) (k:Nat):(alB ls).testBit k=true↔k∈ls:=by
 have a:∀ (ls:List Nat) (u:Nat),(ls.foldl (fun u l=>u|||2 ^ l) u).testBit k=true↔u.testBit k=true∨k∈ls:=by
  intro ls
  induction ls with
  |nil=>intro u;simp
  |cons l r ih =>
   intro u;rw [List.foldl_cons,ih,iM,Nat.testBit_two_pow,iC,decide_eq_true_eq,List.mem_cons];constructor
   ·rintro ((h|h)|h)
    ·exact Or.inl h
    ·exact Or.inr (Or.inl h.symm)
    ·exact Or.inr (Or.inr h)
   ·rintro (h|h|h)
    ·exact Or.inl (Or.inl h)
    ·exact Or.inl (Or.inr h.symm)
    ·exact Or.inr h
 have:=a ls 0;simpa [alB] using this
theorem alB_lt (h:∀ l∈ls,l<6):alB ls<64:=Nat.lt_pow_two_of_testBit (n:=6) _ fun k hk=>by
 rw [fT]
 intro hb
 have:=h k ((zea ls k).1 hb)
 omega
def inB (s:ByteArray) (a:Nat):Bool:=decide (s.size<=50000)&&overB s a
theorem zaT {s:ByteArray} (h:inB s a=true):zbj s=true:=by
 unfold inB at h;simp only [eD,decide_eq_true_eq] at h;unfold zbj;simp only [eD,decide_eq_true_eq];refine⟨h.1,?_⟩;rw [fH];intro b hb;have h2:=h.2;unfold overB at h2;rw [fH] at h2;have h3:=h2 b hb;unfold hasB ltr at h3;simp only [eD,decide_eq_true_eq] at h3;unfold zeC;rw [decide_eq_true_eq];have h4:=h3.1
 split at h4<;>omega
theorem zft {s:ByteArray} :inB s a=true↔zbj s=true∧alB (wl s)&&&a=alB (wl s):=by
 constructor
 ·intro h;have f:=zaT h;refine⟨f,gY fun k=>?_⟩;rw [iE];cases hk:(alB (wl s)).testBit k
  ·rfl
  ·rw [Bool.true_and];have g:=(zea _ k).1 hk;obtain⟨i,d⟩:=eU g;have c:=(List.getElem?_eq_some_iff.1 d).1;rw [zgh] at c;rw [zev c] at d;have j:=zaQ f c;have e:=Option.some.inj d;unfold inB overB at h;simp only [eD,fH] at h;have:=h.2 s[i] (dG (zcu s i c));unfold hasB ltr at this;rw [if_neg oM] at this;simp only [eD] at this;rw [← e,← this.2]
   congr 1
   omega
 ·rintro ⟨f,h⟩;unfold inB;simp only [eD,decide_eq_true_eq];refine⟨zbk f,?_⟩;unfold overB;rw [fH];intro b j;obtain⟨i,d⟩:=eU j;have c:i<s.size:=by have:=(List.getElem?_eq_some_iff.1 d).1;simpa using this
  rw [zcu s i c] at d;obtain rfl:=Option.some.inj d;have l:=zaQ f c;unfold hasB ltr;rw [if_neg oM];have g:(alB (wl s)).testBit (s[i].toNat - 97)=true:=(zea _ _).2 (dG (zev c));rw [← h,iE,eD] at g;simp only [eD,decide_eq_true_eq];refine⟨oM,?_⟩;rw [show ((s[i].toNat:Int) - 97).toNat=s[i].toNat - 97 by omega];exact g.2
theorem zeJ {s:ByteArray} (hs:s.size<=9223372036854775807) :
  Calls Tryz.prog 222 #[s] w fun e w'=>e=.returned (.tuple #[.int .i64 (if zbj s=true then alB (wl s) else 0:Nat),.bool (zbj s)])∧w=w':=by
 cases hw:zbj s
 ·have f:=za hw;clear hw
  go_enter Tryz.func222,Tryz.ntmps222
  go_wp2_with (go_at_call 141;refine (zdE s _ hs).mono ?_;rw [f.out];rintro e w' ⟨rfl,rfl⟩)
  go_ret2;exact⟨rfl,rfl⟩
 ·have q:=zbk hw;have p:=za (fun k o=>zaQ hw (k:=k) o);have t:=za (wl_lt hw);have f:=za hw;clear hw
  go_enter Tryz.func222,Tryz.ntmps222
  go_wp2_with (go_at_call 141;refine (zdE s _ hs).mono ?_;rw [f.out];rintro e w' ⟨rfl,rfl⟩)
  go_loop [4,5] (fun v i=>∃ k u:Nat,k<=s.size∧i=.int .i64 k∧v=.int .i64 u∧u<64∧Hid (u=alB ((wl s).take k))) (fun _ i=>s.size - (intOf i).toNat)
  case atStart=>exact⟨0,0,eC _,rfl,rfl,oM,rfl⟩
  case round =>
   obtain⟨k,u,o,rfl,rfl,r,d⟩:=hrel
   by_cases hlt:k<s.size
   ·have g:=p.out k hlt;obtain⟨l,h⟩:∃ l:Nat,Hid ((s[k].toNat:Int) - 97=l):=⟨s[k].toNat - 97,by unfold Hid;omega⟩;have j:l<6:=oH h.out;have m:=za (show alB ((wl s).take (k+1))=u|||2 ^ l by
     rw [eG,zev hlt,e8,alB_snoc,← d.out]
     congr 2
     have:=h.out;omega)
    have c:=za (show bits .or .i64 (u:Nat) ((2:Int) ^ l)=((u|||2 ^ l:Nat):Int) by
     have:=zbb (a:=u) tM (Sm.bit (n:=l) oM);rw [show (((2:Nat) ^ l:Nat):Int)=(2:Int) ^ l by simp] at this;exact this)
    have b:u|||2 ^ l<64:=e7 (n:=6) r (Nat.pow_lt_pow_right oM j)
    have x:=c.out;clear g;go_wp2_with (first
     |(go_at_call 144;refine (zbC s k hlt _).mono ?_;rw [h.out];rintro e w' ⟨rfl,rfl⟩)
     |(go_at_call 270;refine (zgz l oM _).mono ?_;rintro e w' ⟨rfl,rfl⟩))
    go_round
    case rel=>exact⟨k+1,u|||2 ^ l,oM,gM,by first|rfl|rw [c.out],b,m.symm⟩
    case measure=>simp [intOf];omega
   ·obtain rfl:k=s.size:=oM;have zki:=za (show u=alB (wl s) by rw [d.out,eF (by rw [zgh];exact dI _)]);go_wp2;go_ret2;exact⟨by rw [zki.out];rfl,rfl⟩
theorem zaY {s:ByteArray}  (hs:s.size<=9223372036854775807)(ha:a<=63) :
  Calls Tryz.prog 146 #[s,a] w fun e w'=>e=.returned (.bool (inB s a))∧w=w':=by
 have d:=za (show (decide ((0:Int)<=a∧(a:Int)<=63))=true by simp;omega);cases hw:zbj s
 ·have g:=za (show inB s a=false by
   rw [fT];intro h;rw [zaT h] at hw;cases hw)
  have c:=za hw;clear hw
  go_enter Tryz.func146,Tryz.ntmps146
  go_wp2_with (go_at_call 222;refine (zeJ hs).mono ?_;rw [c.out];rintro e w' ⟨rfl,rfl⟩)
  go_ret;exact⟨zu (by rw [g.out]),rfl⟩
 ·obtain⟨u,i⟩:∃ u,Hid (alB (wl s)=u):=⟨_,rfl⟩;have j:u<64:=by rw [← i.out];exact alB_lt (wl_lt hw)
  have f:=za (zbZ (a:=u) (b:=a) tM tM);have k:=f.out;have g:=za (show inB s a=(((u&&&a:Nat):Int)==(u:Int)) by
   rw [jC,zft,i.out,beq_iff_eq];constructor
   ·rintro ⟨_,h⟩;rw [h]
   ·intro h;exact⟨hw,oM⟩)
  have c:=za hw;clear hw
  go_enter Tryz.func146,Tryz.ntmps146
  go_wp2_with (first
   |(go_at_call 222;refine (zeJ hs).mono ?_;rw [c.out,if_pos rfl,i.out];rintro e w' ⟨rfl,rfl⟩)
   |(go_at_call 142;refine (zS _ _).mono ?_;rw [d.out];rintro e w' ⟨rfl,rfl⟩))
  go_ret;exact⟨zu (by rw [g.out]),rfl⟩
def zjo (bs:List UInt8):List Int:=bs.map fun b=>(b.toNat:Int)
def bcl (bs:List UInt8):List Value:=(zjo bs).map (Value.int .u8)
theorem bcl_length (bs:List UInt8):(bcl bs).length=bs.length:=by simp [bcl,zjo]
def zfR (a:Nat) (bs:List UInt8):List UInt8:=bs.filter fun b=>hasB a (ltr b.toNat)
def zan (s:ByteArray) (a:Nat):ByteArray:=strOfNums (zjo (zfR a s.data.toList))
theorem ziT {s:ByteArray} (hk:k<s.size):zfR a (s.data.toList.take (k+1))=zfR a (s.data.toList.take k)++if hasB a (ltr s[k].toNat)=true then [s[k]] else []:=by
 rw [eG,zcu s k hk,e8];unfold zfR;rw [List.filter_append]
 congr 1
 cases h:hasB a (ltr s[k].toNat)<;>simp [h]
theorem zhH (s:ByteArray) (a k:Nat):(zfR a (s.data.toList.take k)).length<=s.size:=by
 refine eI (List.length_filter_le _ _) ?_;rw [fL];have:s.data.toList.length=s.size:=sM;omega
theorem zjt {bs:List UInt8}(h:W.ownsRow base 5 1 (.slice A n cap) n (bcl bs)) :
  (convert 22 9 (.slice A n cap)).run Tryz.prog W=.ok (.string (strOfNums (zjo bs))) W:=by
 have c:bs.length=n:=by have:=zdB h;rw [bcl_length] at this;omega
 rcases h.2 with ⟨h1,h2⟩|⟨g,b,d,h1,_⟩
 ·injection h1 with h1 h3 h4
  subst h1;subst h3;subst h4;obtain rfl:bs=[]:=eJ c;exact run_convert_bytes_nil (P:=Tryz.prog) W 22 5 u8_row u8_und _ _ _ zjY
 ·injection h1 with h1
  subst h1;refine run_convert_bytes_arg (P:=Tryz.prog) W 22 5 u8_row u8_und g 0 n cap (zjo bs) (by simp [zjo,c]) (fun i hi=>?_) _ zjY;rw [eO,h.cellAt i oM];unfold bcl;rw [eM];have a:i<(zjo bs).length:=by simp [zjo];omega
  rw [dH a];simp [List.getD,dH a]
theorem own_u8_lit (w:World):(w.alloc (.cells #[] 5)).ownsRow w.heap.size 5 1 (.slice (some w.heap.size) 0 0) 0 (bcl []):=World.ownsRow_lit w #[] 0 (dI _) lM rfl
theorem yY07a1 {P:Prop}(h:P:=by
 obtain rfl:k=s.size:=oM;have zki:=za (show strOfNums (zjo bs)=zan s a by rw [hbs.out,List.take_of_length_le sM];rfl);obtain⟨A5,c5,rfl⟩:=zi zkf;have hcv:=zjt zkf;clear zkf;go_wp2_with (simp only [hcv])
 go_ret;exact⟨by rw [zki.out];rfl,hx⟩
 ):P:=h
theorem yY07a2 {P:Prop}(h:P:=by
 go_roundw
 case rel=>exact⟨k+1,bs++[s[k]],oM,gM,by rw [List.length_append];simpa [bcl,zjo] using zkr,hst2,by rw [List.length_append];exact hl3,hext5⟩
 case measure=>simp [intOf];omega
 ):P:=h
theorem zaX {s:ByteArray}  (hw:zbj s=true)(ha:a<=63) :
  Calls Tryz.prog 60 #[s,a] w fun e w'=>e=.returned (.string (zan s a))∧Ext w w':=by
 have m:=za (show (decide ((0:Int)<=a∧(a:Int)<=63))=true by simp;omega);have x:=zbk hw;have q:=za (fun k p=>zaQ hw (k:=k) p);have r:=za hw;clear hw
 go_enter Tryz.func60,Tryz.ntmps60
 go_upto_region 3 with (first
  |(go_at_call 141;refine (zdE s _ oM).mono ?_;rw [r.out];rintro e w' ⟨rfl,rfl⟩)
  |(go_at_call 142;refine (zS _ _).mono ?_;rw [m.out];rintro e w' ⟨rfl,rfl⟩))
 go_upto_region 4 with fail
 have c:=own_u8_lit w;have j:=(dE w).alloc (.cells #[] 5);generalize hA0:(some ⟨w.heap.size,0,none⟩:Option Addr)=y at *;clear hA0;generalize w.alloc _=z at *;go_wp2_with fail
 go_loopw [5,6] (fun v i wr=>∃ (k:Nat) (bs:List UInt8),k<=s.size∧i=.int .i64 k∧wr.ownsRow w.heap.size 5 1 v bs.length (bcl bs)∧Hid (bs=zfR a (s.data.toList.take k))∧bs.length<=50000∧Ext w wr) (fun _ i _=>s.size - (intOf i).toNat)
 case atStart=>exact⟨0,[],eC _,rfl,c,rfl,sM,j⟩
 case round =>
  clear c j;obtain⟨k,bs,p,rfl,zkf,hbs,n,hx⟩:=hrel
  by_cases hlt:k<s.size
  ·have t:=q.out k hlt;obtain⟨l,g⟩:∃ l:Nat,Hid ((s[k].toNat:Int) - 97=l):=⟨s[k].toNat - 97,by unfold Hid;omega⟩;have f:=za (show hasB a (ltr s[k].toNat)=a.testBit l by
    unfold hasB ltr;have:=g.out;rw [if_neg oM,this]
    simp)
   have h:=za (ziT (a:=a) hlt);have u:=zhH s a (k+1);have d:Sm a:=tM;have o:=za (show s.data.toList[k]?=some s[k] from zcu s k hlt);cases hb:a.testBit l
   ·have b:=za hb;have hst2:=za (show bs=zfR a (s.data.toList.take (k+1)) by rw [h.out,f.out,b.out,hbs.out];simp);clear hb;go_wp2_with (first
     |(go_at_call 144;refine (zbC s k hlt _).mono ?_;rw [g.out];rintro e w' ⟨rfl,rfl⟩)
     |(go_at_call 143;refine (zaq a l d _ (oH g.out)).mono ?_;rw [b.out];rintro e w' ⟨rfl,rfl⟩))
    go_roundw
    case rel=>exact⟨k+1,bs,oM,gM,zkf,hst2,n,hx⟩
    case measure=>simp [intOf];omega
   ·have b:=za hb;have hst2:=za (show bs++[s[k]]=zfR a (s.data.toList.take (k+1)) by rw [h.out,f.out,b.out,hbs.out];simp);have hl3:(bs++[s[k]]).length<=50000:=by rw [hst2.out];omega
    rw [eK,eY] at hl3;clear hb;go_wp2_with (first
     |(go_at_call 144;refine (zbC s k hlt _).mono ?_;rw [g.out];rintro e w' ⟨rfl,rfl⟩)
     |(go_at_call 143;refine (zaq a l d _ (oH g.out)).mono ?_;rw [b.out];rintro e w' ⟨rfl,rfl⟩)
     |(at_builtin;refine zO w wr rfl _ _ _ rfl 5 _ 1 1 Tryz.underlying22 zjB rfl dM u5 _ _ _ _ rfl rfl hx zkf rfl (zjq _) lM oM ?_;intro v' w5 hext5 zkr hg5 hat5))
    exact yY07a2
  ·exact yY07a1
theorem zcR {s:ByteArray}  (hw:zbj s=true)(ha:a<=63) :
  Calls Tryz.prog 53 #[s,a] w fun e w'=>e=.returned (.string (zan s a))∧Ext w w':=by
 have m:=zbk hw;have h:=za (fun k g=>zaQ hw (k:=k) g);clear hw;have c:Sm a:=tM
 go_enter Tryz.func53,Tryz.ntmps53
 go_wp2_with fail
 go_loopw [5,6,9] (fun v _ i wr=>∃ (k:Nat) (bs:List UInt8),k<=s.size∧i=.int .i64 k∧wr.ownsRow w.heap.size 5 1 v bs.length (bcl bs)∧Hid (bs=zfR a (s.data.toList.take k))∧bs.length<=50000∧Ext w wr) (fun _ _ i _=>s.size - (intOf i).toNat)
 case atStart=>exact⟨0,[],eC _,rfl,World.ownsRow_nil _ _ _ _,rfl,sM,dE _⟩
 case round =>
  obtain⟨k,bs,g,rfl,zkf,hbs,f,hx⟩:=hrel
  by_cases hlt:k<s.size
  ·have j:=h.out k hlt;have d:=za (ziT (a:=a) hlt);have l:=zhH s a (k+1);cases hb:hasB a (ltr s[k].toNat)
   ·have b:=za hb;have hst2:=za (show bs=zfR a (s.data.toList.take (k+1)) by rw [d.out,b.out,hbs.out];simp);clear hb;go_wp2_with (first
     |(go_at_call 121;refine (zcd s k hlt _).mono ?_;rintro e w' ⟨rfl,rfl⟩)
     |(go_at_call 127;refine (zcw a _ c _).mono ?_;rw [b.out];rintro e w' ⟨rfl,rfl⟩))
    go_roundw
    case rel=>exact⟨k+1,bs,oM,gM,zkf,hst2,f,hx⟩
    case measure=>simp [intOf];omega
   ·have b:=za hb;have hst2:=za (show bs++[s[k]]=zfR a (s.data.toList.take (k+1)) by rw [d.out,b.out,hbs.out];simp);have hl3:(bs++[s[k]]).length<=50000:=by rw [hst2.out];omega
    rw [eK,eY] at hl3;clear hb;go_wp2_with (first
     |(go_at_call 121;refine (zcd s k hlt _).mono ?_;rintro e w' ⟨rfl,rfl⟩)
     |(go_at_call 127;refine (zcw a _ c _).mono ?_;rw [b.out];rintro e w' ⟨rfl,rfl⟩)
     |(at_builtin;refine zO w wr rfl _ _ _ rfl 5 _ 1 1 Tryz.underlying22 zjB rfl dM u5 _ _ _ _ rfl rfl hx zkf rfl (zjq _) lM oM ?_;intro v' w5 hext5 zkr hg5 hat5))
    exact yY07a2
  ·exact yY07a1
def runB (es:List Edg) (x:Nat) (ls:List Nat):Nat:=ls.foldl (fun m (l:Nat)=>zcj es m (l:Int)) x
theorem runB_snoc (es:List Edg) (x:Nat) (ls:List Nat) (l:Nat):runB es x (ls++[l])=zcj es (runB es x ls) (l:Int):=by simp [runB]
section
variable {lo hi n c:Nat} {A:Option Addr} {s:Sys} {t:ByteArray} {w:World}
def aftB (s:Sys) (t:ByteArray):Nat:=if (zk s&&inB t s.al.toNat)=true then runB s.edges 1 (wl t) else 0
end
theorem zdP (s:ByteArray) (a:Nat):(zan s a).size<=s.size:=by
 have h:=zhH s a s.size;rw [eF sM] at h;have e:(zan s a).size=(zjo (zfR a s.data.toList)).length:=by unfold zan;rw [strOfNums_size]
 rw [e,zjo,List.length_map];exact h
def topB (ss:List Sys) (t:ByteArray):Bool:=zy ss&&(inB t (zB ss)&&ss.all fun s=>aftB s (zan t s.al.toNat) != 0)
def zfJ (hd:Bool) (a:Aut) (s:ByteArray):Bool:=if hd then zj a&&s.toList.isEmpty else autNone a&&zbj s
def zaW (p:Aut) (q:Nat) (ls:List Nat):Nat:=ls.foldl (aGo p) q
theorem zbB (p:Aut) (q:Nat) (ls:List Nat) (l:Nat):zaW p q (ls++[l])=aGo p (zaW p q ls) l:=by simp [zaW]
theorem runA_ltF (hv:Fit N p) (h:∀ l∈ls,l<6) (hq:q<p.next.length):zaW p q ls<p.next.length:=by
 induction ls generalizing q with
 |nil=>exact hq
 |cons l r ih=>exact ih (fun x hx=>h x (eZ _ hx)) (aGo_ltF hv hq (h l iG))
theorem zeG (hv:zj p=true) (h:∀ l∈ls,l<6) (hq:q<p.next.length):zaW p q ls<p.next.length:=runA_ltF (fit_of hv) h hq
theorem ziZ (s:ByteArray) (a:Nat):(zan s a).data.toList=zfR a s.data.toList:=by
 unfold zan strOfNums zjo;simp only [List.map_map];refine (List.map_congr_left (g:=id) fun b _=>?_).trans (List.map_id _);simp
theorem wl_restB {s:ByteArray}(h:zbj s=true) (a:Nat):wl (zan s a)=(wl s).filter fun l=>a.testBit l:=by
 unfold wl;rw [ziZ];unfold zfR;have c:∀ b∈s.data.toList,97<=b.toNat∧b.toNat<=102:=by
  intro b c;obtain⟨i,g⟩:=eU c;have d:i<s.size:=by have:=(List.getElem?_eq_some_iff.1 g).1;simpa using this
  rw [zcu s i d] at g;obtain rfl:=Option.some.inj g;exact zaQ h d
 generalize s.data.toList=L at c;clear h
 induction L with
 |nil=>rfl
 |cons b r f =>
  have j:=c b iG;have f:=f fun x hx=>c x (eZ _ hx);have e:hasB a (ltr b.toNat)=a.testBit (b.toNat - 97):=by
   unfold hasB ltr;rw [if_neg oM,decide_eq_true oM,Bool.true_and]
   congr 1
   omega
  rw [List.filter_cons,gZ,List.filter_cons,e];cases a.testBit (b.toNat - 97)
  ·simpa using f
  ·simp only [if_true,gZ];rw [f]
theorem zcg {s:ByteArray}(h:zbj s=true) (a:Nat):inB (zan s a) a=true:=by
 unfold inB overB;rw [ziZ,eD,decide_eq_true_eq];refine⟨eI (zdP s a) (zbk h),?_⟩;rw [fH];intro b hb;exact (List.mem_filter.1 hb).2
def breakB (p:Aut) (t:ByteArray):Bool:=zj p&&(zbj t&&!zct p (zaW p 0 (wl t)))
section
variable {lo hi m d m' d':Nat} {B B':Option Addr} {p:Aut} {t:ByteArray} {w:World}
theorem spec_l3Run (h:zF w lo hi B m B' m' p)(hv:zj p=true)(ht:zbj t=true) :
  Calls Tryz.prog 264 #[.agg #[p.al,.slice B m d,.slice B' m' d'],(0:Int),t] w fun e w'=>e=.returned (.int .i64 (zaW p 0 (wl t):Nat))∧Ext w w':=by
 have G:=za (fun W (hW:Ext w W)=>h.ext hW);have M:=zbk ht;have H:=za (fun k D=>zaQ ht (k:=k) D);have L:=(zl hv).2.1;have I:=za hv;have n:=za (fun k=>zeG hv (ls:=(wl t).take k) (fun l f=>wl_lt ht l (List.mem_of_mem_take f)) (q:=0) oM);clear h hv ht
 go_enter Tryz.func264,Tryz.ntmps264
 go_upto_region 1 with fail
 generalize U0:w.alloc _=E at *;obtain⟨g,J⟩:=iK U0;clear U0;go_wp2_with fail
 go_loopw [1,7] (fun v i wr=>∃ k x:Nat,i=.int .i64 k∧k<=t.size∧v=.int .i64 x∧Hid (x=zaW p 0 ((wl t).take k))∧Ext E wr) (fun _ i _=>t.size - (intOf i).toNat)
 case atStart=>exact⟨0,0,rfl,eC _,rfl,rfl,dE _⟩
 case round =>
  obtain⟨k,x,rfl,D,rfl,c,a⟩:=hrel
  by_cases hlt:k<t.size
  ·have o:=H.out k hlt;obtain⟨l,f⟩:∃ l:Nat,Hid ((t[k].toNat:Int) - 97=l):=⟨t[k].toNat - 97,by unfold Hid;omega⟩;have r:l<6:=oH f.out;have s:=za (show aGo p x l=zaW p 0 ((wl t).take (k+1)) by
    rw [eG,zev hlt,e8,zbB,← c.out]
    congr 1
    have:=f.out;omega)
   have C:x<p.next.length:=by rw [c.out];exact n.out k
   have F:=za (fun W (hW:Ext E W)=>zdU (d:=d) (d':=d') (G.out W (g.trans hW)) I.out C r);generalize aGo p x l=y at *;have O:∀ W,Ext wr W->∀ j,W.cell? ⟨w.heap.size,j,none⟩=#[Value.int .i64 p.al,.slice B m d,.slice B' m' d'][j]?:=fun W hW=>(J.ext (a.trans hW)).cell;have b:=dE wr;clear o;go_upto_region 4 with fail
   refine uR (fun X=>Ext wr X) [5] (zw.of [0,1,2,3,4,5,6]) ?_;refine uQ ?_;refine ze fun K hK=>?_;go_simp;refine (zbC t k hlt _).mono ?_;rw [f.out];rintro e w' ⟨rfl,rfl⟩;refine hK.out _ _ b.drew ?_;refine pT ?_;refine zb fun K hK=>?_;go_simp;refine (F.out _ (a.trans b.drew)).mono (mQ fun Q u=>?_);refine hK.out _ _ ?_;refine pT ?_;refine uQ ?_;refine zg ?_;have z:=a.trans (b.drew.trans u);go_wp2_with fail
   go_roundw
   case rel=>exact⟨k+1,y,gM,oM,rfl,s,z⟩
   case measure=>simp [intOf];omega
  ·obtain rfl:k=t.size:=oM;have zki:=za (show x=zaW p 0 (wl t) by rw [c.out,eF (by rw [zgh];exact dI _)]);go_wp2;go_ret;exact⟨zap (by rw [zki.out]),g.trans a⟩
end
theorem iface_neg (s t:Sys) (p:Aut):iface s p t<0↔(zk s&&(zj p&&zk t))=false:=by
 unfold iface;cases h:(zk s&&(zj p&&zk t))
 ·simp
 ·simp
theorem pnx_mod (ms:List Mem) (x l:Nat):pnx ms x l=pnx ms (x % zE ms) l:=by
 induction ms generalizing x with
 |nil=>rfl
 |cons m r ih =>
  rw [zdO];unfold pnx;have a:x % (m.1*zE r) / zE r % m.1=x / zE r % m.1:=by
   rw [gK,kA,Nat.mod_mod]
  have b:pnx r (x % (m.1*zE r)) l=pnx r x l:=by
   rw [ih (x % (m.1*zE r)),Nat.mod_mul_left_mod,← ih x]
  rw [a,b]
theorem goes_lt {ms:List Mem}(hm:∀ m∈ms,zew m) (hv:∀ l∈v,l<6) (h:zbe (pnx ms) [0] v x):x<zE ms:=by
 rcases zY v with rfl|⟨u,l,rfl⟩
 ·have:=h.ah;have h1:=zfW hm;simp at this;omega
 ·obtain⟨n,_,hx⟩:=h.inv;exact ziX hm (hv l sM) x hx
theorem mem_lt {m:Mem}(hm:zew m) (hv:∀ l∈v,l<6) (h:zbe m.2 [0] v q):q<m.1:=by
 have a:∀ n (v:List Nat),v.length=n->(∀ l∈v,l<6)->∀ q,zbe m.2 [0] v q->q<m.1:=by
  intro n
  induction n with
  |zero =>
   intro v hl _ q h;obtain rfl:=eJ hl;have:=h.ah;have:=hm.1;simp at *;omega
  |succ n ih =>
   intro v hl hv q h;rcases zY v with rfl|⟨u,l,rfl⟩
   ·simp at hl
   ·obtain⟨b,h1,h2⟩:=h.inv;exact hm.2 b l (ih u (by simpa using hl) (fun k hk=>hv k (by simp [hk])) b h1) (hv l sM) q h2
 exact a _ v rfl hv q h
theorem zfO {m:Mem} {r:List Mem}(hm:zew m)(hr:∀ m∈r,zew m):∀ (n:Nat) (v:List Nat),v.length=n->(∀ l∈v,l<6)->∀ x,zbe (pnx (m :: r)) [0] v x↔∃ q y,x=q*zE r+y∧zbe m.2 [0] v q∧zbe (pnx r) [0] v y:=by
 intro n
 induction n with
 |zero =>
  intro v hl _ x;obtain rfl:=eJ hl;constructor
  ·intro h;have:=h.ah;simp at this;subst this;exact⟨0,0,sM,.nil sM,.nil sM⟩
  ·rintro ⟨q,y,rfl,h1,h2⟩;have h1:=h1.ah;have h2:=h2.ah;simp at h1 h2;subst h1;subst h2;exact .nil sM
 |succ n d =>
  intro v hl hv x;rcases zY v with rfl|⟨u,l,rfl⟩
  ·simp at hl
  have g:∀ k∈u,k<6:=fun k hk=>hv k (by simp [hk]);have s:l<6:=hv l sM;have d:=d u (by simpa using hl) g;have C:=zfW hr;have a:∀ q y,zbe m.2 [0] u q->zbe (pnx r) [0] u y->pnx (m :: r) (q*zE r+y) l=(m.2 q l).flatMap fun b=>(pnx r y l).map fun c=>b*zE r+c:=by
   intro q y h1 h2;have t:=mem_lt hm g h1;have z:=goes_lt hr g h2;show (m.2 ((q*zE r+y) / zE r % m.1) l).flatMap (fun b=>(pnx r (q*zE r+y) l).map fun c=>b*zE r+c)=_;have j:(q*zE r+y) / zE r % m.1=q:=by
    rw [gK,Nat.mul_add_div oM,jD z,Nat.add_zero,iJ t]
   have o:pnx r (q*zE r+y) l=pnx r y l:=by
    rw [pnx_mod r (q*zE r+y),gK,Nat.mul_add_mod,← pnx_mod]
   rw [j,o]
  constructor
  ·intro h;obtain⟨B,h1,h2⟩:=h.inv;obtain⟨q,y,rfl,h3,h4⟩:=(d B).1 h1;rw [a q y h3 h4] at h2;simp only [List.mem_flatMap,List.mem_map] at h2;obtain⟨b,f,c,i,rfl⟩:=h2;exact⟨b,c,rfl,.snoc h3 f,.snoc h4 i⟩
  ·rintro ⟨b,c,rfl,h1,h2⟩;obtain⟨q,h3,h4⟩:=h1.inv;obtain⟨y,h5,p⟩:=h2.inv;refine .snoc ((d (q*zE r+y)).2 ⟨q,y,rfl,h3,h5⟩) ?_;rw [a q y h3 h5];simp only [List.mem_flatMap,List.mem_map];exact⟨b,h4,c,p,rfl⟩
def zgl (s:Sys) (v:List Nat):Prop:=∃ q,zbe (cho s) [0] v q
theorem zhe (a:Aut) (v:List Nat) (q:Nat):zbe (zbv a).2 [0] v q↔q=zaW a 0 v:=by
 have c:∀ n (v:List Nat),v.length=n->∀ q,zbe (zbv a).2 [0] v q↔q=zaW a 0 v:=by
  intro n
  induction n with
  |zero =>
   intro v hl q;obtain rfl:=eJ hl;constructor
   ·intro h;have:=h.ah;simp at this;subst this;rfl
   ·rintro rfl;exact .nil (by simp [zaW])
  |succ n b =>
   intro v hl q;rcases zY v with rfl|⟨u,l,rfl⟩
   ·simp at hl
   rw [zbB];have b:=b u (by simpa using hl);constructor
   ·intro h;obtain⟨d,h1,h2⟩:=h.inv;rw [(b d).1 h1] at h2;simpa [zbv] using h2
   ·rintro rfl;exact .snoc ((b _).2 rfl) (by simp [zbv])
 exact c _ v rfl q
theorem goes_nil (v:List Nat) (y:Nat):zbe (pnx []) [0] v y↔y=0:=by
 have b:∀ n (v:List Nat),v.length=n->∀ y,zbe (pnx []) [0] v y↔y=0:=by
  intro n
  induction n with
  |zero =>
   intro v hl y;obtain rfl:=eJ hl;exact⟨fun h=>by simpa using h.ah,fun h=>.nil (by simp [h])⟩
  |succ n a =>
   intro v hl y;rcases zY v with rfl|⟨u,l,rfl⟩
   ·simp at hl
   have a:=a u (by simpa using hl);constructor
   ·intro h;obtain⟨c,h1,h2⟩:=h.inv;simpa [pnx] using h2
   ·rintro rfl;exact .snoc ((a 0).2 rfl) (by simp [pnx])
 exact b _ v rfl y
theorem zhf {a:Aut}(ha:zj a=true)(hp:zj p=true) (hv:∀ l∈v,l<6) (y:Nat):zbe (pnx [zbv a,zbv p]) [0] v y↔y=zaW a 0 v*p.next.length+zaW p 0 v:=by
 have b:∀ m∈[zbv p],zew m:=by simp;exact zbw hp
 have c:zE [zbv p]=p.next.length:=by simp [zE,zav,zbv]
 have h1:∀ z,zbe (pnx [zbv p]) [0] v z↔z=zaW p 0 v:=by
  intro z;rw [zfO (zbw hp) sM _ v rfl hv];constructor
  ·rintro ⟨q,y,rfl,h1,h2⟩;rw [(goes_nil v y).1 h2,(zhe p v q).1 h1];simp [zE,zav]
  ·rintro rfl;exact⟨zaW p 0 v,0,by simp [zE,zav],(zhe p v _).2 rfl,(goes_nil v 0).2 rfl⟩
 rw [zfO (zbw ha) b _ v rfl hv,c];constructor
 ·rintro ⟨q,y,rfl,h2,h3⟩;rw [(zhe a v q).1 h2,(h1 y).1 h3]
 ·rintro rfl;exact⟨_,_,rfl,(zhe a v _).2 rfl,(h1 _).2 rfl⟩
theorem ziO {T:List Mem}(hT:∀ m∈T,zew m) (hv:∀ l∈v,l<6) (g:Nat->Prop):∀ {ss:List Sys},(∀ s∈ss,zew (zdQ s))->((∃ x,zbe (pnx (ss.map zdQ++T)) [0] v x∧g (x % zE T))↔(∀ s∈ss,zgl s v)∧∃ y,zbe (pnx T) [0] v y∧g y):=by
 intro ss
 induction ss with
 |nil =>
  intro _;simp only [List.map_nil,e9,List.not_mem_nil,false_implies,implies_true,true_and];constructor
  ·rintro ⟨x,h,c⟩;rw [iJ (goes_lt hT hv h)] at c;exact⟨x,h,c⟩
  ·rintro ⟨x,h,c⟩;exact⟨x,h,by rwa [iJ (goes_lt hT hv h)]⟩
 |cons s r i =>
  intro hs;have d:=hs s iG;have f:=fun t a=>hs t (eZ _ a);have i:=i f;have j:∀ m∈r.map zdQ++T,zew m:=by
   intro m hm;rcases List.mem_append.1 hm with h|h
   ·obtain⟨t,a,rfl⟩:=List.mem_map.1 h;exact f t a
   ·exact hT m h
  have b:∀ q y,(q*zE (r.map zdQ++T)+y) % zE T=y % zE T:=by
   intro q y;rw [zbU,← Nat.mul_assoc,gK,Nat.mul_add_mod]
  rw [gZ,List.cons_append];constructor
  ·rintro ⟨x,h,c⟩;obtain⟨q,y,rfl,h1,h2⟩:=(zfO d j _ v rfl hv x).1 h;rw [b] at c;obtain⟨h3,h4⟩:=i.1 ⟨y,h2,c⟩;refine⟨fun t a=>?_,h4⟩;rcases List.mem_cons.1 a with rfl|a
   ·exact⟨q,h1⟩
   ·exact h3 t a
  ·rintro ⟨h1,h2⟩;obtain⟨y,h3,h4⟩:=i.2 ⟨fun t a=>h1 t (eZ _ a),h2⟩;obtain⟨q,k⟩:=h1 s iG;exact⟨q*zE (r.map zdQ++T)+y,(zfO d j _ v rfl hv _).2 ⟨q,y,rfl,k,h3⟩,by rwa [b]⟩
def zey (ss:List Sys) (a p:Aut) (v:List Nat):Prop:=(∀ s∈ss,zgl s v)∧zct a (zaW a 0 v)=true∧zct p (zaW p 0 v)=false
theorem zkd {ss:List Sys} {a:Aut}(hss:∀ s∈ss,zk s=true)(ha:zj a=true)(hp:zj p=true) :
  zje ss a p=true↔∃ v,(∀ l∈v,l∈letters (zB ss|||a.al.toNat) 6)∧zey ss a p v:=by
 have k:∀ s∈ss,zew (zdQ s):=fun s hs=>zei (zck (hss s hs));have u:∀ m∈[zbv a,zbv p],zew m:=by simp;exact⟨zbw ha,zbw hp⟩
 have t:zE [zbv a,zbv p]=a.next.length*p.next.length:=by simp [zE,zav,zbv]
 have B:=(zl ha).2.1;have C:=(zl hp).2.1;have c:∀ x,zbJ a p x=zbJ a p (x % zE [zbv a,zbv p]):=by
  intro x;unfold zbJ;rw [t,Nat.mod_mul_left_mod,gK,kA,Nat.mod_mod]
 have i:∀ v,(∀ l∈v,l<6)->((∃ x,zbe (zca ss a p) [0] v x∧zbJ a p x=true)↔zey ss a p v):=by
  intro v d;rw [zdl];have h1:=ziO u d (fun y=>zbJ a p y=true) k;have h2:(∃ x,zbe (pnx (zbl ss [a,p])) [0] v x∧zbJ a p x=true)↔(∃ x,zbe (pnx (ss.map zdQ++[zbv a,zbv p])) [0] v x∧zbJ a p (x % zE [zbv a,zbv p])=true):=by
   constructor
   ·rintro ⟨x,h,b⟩;exact⟨x,h,by rw [← c];exact b⟩
   ·rintro ⟨x,h,b⟩;exact⟨x,h,by rw [c];exact b⟩
  rw [h2,h1];unfold zey;refine and_congr_right fun _=>?_;have j:=zeG ha d (q:=0) oM;have g:=zeG hp d (q:=0) oM;have n:(zaW a 0 v*p.next.length+zaW p 0 v) / p.next.length % a.next.length=zaW a 0 v:=by
   rw [gK,Nat.mul_add_div oM,jD g,Nat.add_zero,iJ j]
  have o:(zaW a 0 v*p.next.length+zaW p 0 v) % p.next.length=zaW p 0 v:=by
   rw [gK,Nat.mul_add_mod,iJ g]
  constructor
  ·rintro ⟨y,z,b⟩;rw [(zhf ha hp d y).1 z] at b;unfold zbJ at b;rw [n,o] at b;simpa using b
  ·intro b;refine⟨_,(zhf ha hp d _).2 rfl,?_⟩;unfold zbJ;rw [n,o];simpa using b
 unfold zje lostB;rw [iR,@decide_eq_false_iff_not _ (Classical.propDecidable _)];constructor
 ·intro hn;apply Classical.byContradiction;intro hno;refine hn fun v d x hx=>?_;cases hb:zbJ a p x
  ·rfl
  ·exact absurd ⟨v,d,(i v (fun l f=>zco _ l (d l f))).1 ⟨x,hx,hb⟩⟩ hno
 ·rintro ⟨v,d,r⟩ f;obtain⟨x,hx,b⟩:=(i v (fun l f=>zco _ l (d l f))).2 r;have:=f v d x hx;rw [b] at this;cases this
def hidL (s:Sys) (A l:Nat):Prop:=l<6∧s.al.toNat.testBit l=true∧A.testBit l=false
inductive Cl (s:Sys) (p:Aut) (A:Nat) (B:Nat->Nat->Prop):Nat->Nat->Prop
 |base {q i:Nat} (h:B q i):Cl s p A B q i
 |hid {q i l q':Nat} (h:Cl s p A B q i) (hl:hidL s A l) (hq:q'∈cho s q l):Cl s p A B q' (aGo p i l)
def mvB (s:Sys) (p:Aut) (l:Nat) (B:Nat->Nat->Prop):Nat->Nat->Prop:=fun q' j=>∃ q i,B q i∧q'∈cho s q l∧j=aGo p i l
def prR (s:Sys) (p:Aut) (A:Nat):List Nat->Nat->Nat->Prop
 |[]=>Cl s p A (fun q i=>q=0∧i=0)
 |l :: r=>Cl s p A (mvB s p l (prR s p A r))
def PR (s:Sys) (p:Aut) (A:Nat) (v:List Nat):Nat->Nat->Prop:=prR s p A v.reverse
theorem PR_nil (s:Sys) (p:Aut) (A:Nat):PR s p A []=Cl s p A (fun q i=>q=0∧i=0):=rfl
theorem PR_snoc (s:Sys) (p:Aut) (A:Nat) (v:List Nat) (l:Nat):PR s p A (v++[l])=Cl s p A (mvB s p l (PR s p A v)):=by
 unfold PR;rw [List.reverse_append];rfl
def Bad (s:Sys) (p:Aut) (A:Nat) (v:List Nat):Prop:=∃ q i,PR s p A v q i∧zct p i=false
def SafeW (s:Sys) (p:Aut) (A:Nat) (v:List Nat):Prop:=∀ k,k<=v.length->¬ Bad s p A (v.take k)
theorem zhn (hs:Sml s) (hb:s.al.toNat.testBit l=true) (set q':Nat):(zcj s.edges set (l:Int)).testBit q'=true↔∃ q,set.testBit q=true∧q'∈cho s q l:=by
 obtain⟨h1,h2,d,-⟩:=hs;rw [zdV];constructor
 ·rintro ⟨e,a,⟨h3,h4⟩,rfl⟩;obtain⟨f,g,h⟩:=d e a;refine⟨e.fr.toNat,h4,?_⟩;unfold cho;rw [if_pos hb,zD];refine⟨oM,(zcU _ _ _ _).2 ⟨e,a,?_,rfl⟩⟩;exact⟨oM,h3⟩
 ·rintro ⟨q,h3,h4⟩;unfold cho at h4;rw [if_pos hb,zD] at h4;obtain⟨e,a,⟨h5,b⟩,c⟩:=(zcU _ _ _ _).1 h4.2;exact⟨e,a,⟨b,by rw [h5];simpa using h3⟩,c⟩
theorem zgA (hs:Sml s) (x:Nat) (l:Int):zcj s.edges x l<65536:=by
 have h1:=stepB_lt hs.2.2.1 x l;have h2:(2:Nat) ^ s.st.toNat<=2 ^ 16:=e6 oM (oH hs.2.1);exact eV h1 h2
def zdJ (T:List Nat) (i q:Nat):Prop:=(T.getD i 0).testBit q=true
theorem zht (h:zdJ T i q):i<T.length:=by
 rcases Nat.lt_or_ge i T.length with h1|h1
 ·exact h1
 ·unfold zdJ at h;rw [eE,eR h1] at h;simp at h
theorem zcP (hj:j<T.length) (x i q:Nat):zdJ (T.set j (T.getD j 0|||x)) i q↔zdJ T i q∨(i=j∧x.testBit q=true):=by
 unfold zdJ
 by_cases h:j=i
 ·subst h;rw [eE,fP hj,gQ,iM,iC];simp
 ·rw [eE,gX h,← eE];constructor
  ·exact .inl
  ·rintro (h1|⟨h1,-⟩)
   ·exact h1
   ·exact absurd h1.symm h
def zbr (T:List Nat) (n:Nat) (B:Nat->Nat->Prop):Prop:=T.length=n∧(∀ x∈T,x<65536)∧∀ i q,zdJ T i q↔B q i
structure ClI (s:Sys) (p:Aut) (A:Nat) (B:Nat->Nat->Prop) (n:Nat) (T:List Nat):Prop where
 len:T.length=n
 lt:∀ x∈T,x<65536
 base:∀ q i,B q i->zdJ T i q
 sub:∀ i q,zdJ T i q->Cl s p A B q i
def zeT (s:Sys) (p:Aut) (T:List Nat) (i l:Nat):Prop:=∀ q,zdJ T i q->∀ q'∈cho s q l,zdJ T (aGo p i l) q'
section
variable {s:Sys} {p:Aut} {A n:Nat} {B:Nat->Nat->Prop} {T:List Nat}
theorem zbr.clI (h:zbr T n B):ClI s p A B n T:=⟨h.1,h.2.1,fun q i hb=>(h.2.2 i q).2 hb,fun i q hb=>.base ((h.2.2 i q).1 hb)⟩
theorem zbK (h:∀ x∈T,x<65536) (i:Nat):T.getD i 0<65536:=by
 rw [eE];cases h1:T[i]? with
 |none=>simp
 |some x=>exact h x (dG h1)
theorem ClI.step (h:ClI s p A B n T)(hs:Sml s)(hp:zj p=true)(hn:n=p.next.length) (hi:i<n)(hl:hidL s A l) :
  ClI s p A B n (T.set (aGo p i l) (T.getD (aGo p i l) 0|||zcj s.edges (T.getD i 0) (l:Int))):=by
 have b:aGo p i l<T.length:=by rw [h.len,hn];exact zer hp oM hl.1
 refine⟨by rw [gU];exact h.len,fun x hx=>?_,fun q i' hb=>(zcP b _ _ _).2 (.inl (h.base q i' hb)),fun i' q hb=>?_⟩
 ·rcases gL hx with hx|rfl
  ·exact h.lt x hx
  ·exact e7 (n:=16) (zbK h.lt _) (eV (stepB_lt hs.2.2.1 _ _) (e6 oM (oH hs.2.1)))
 ·rcases (zcP b _ _ _).1 hb with a|⟨rfl,a⟩
  ·exact h.sub _ _ a
  ·obtain⟨c,h1,h2⟩:=(zhn hs hl.2.1 _ _).1 a;exact .hid (h.sub _ _ h1) hl h2
theorem closedAt_of (hs:Sml s) (hl:hidL s A l)(he:T.getD (aGo p i l) 0|||zcj s.edges (T.getD i 0) (l:Int)=T.getD (aGo p i l) 0):zeT s p T i l:=by
 intro q hq q' hq';unfold zdJ;rw [← he,iM,(zhn hs hl.2.1 _ _).2 ⟨q,hq,hq'⟩,Bool.or_true]
theorem ClI.fin (h:ClI s p A B n T)(hc:∀ i l,i<n->hidL s A l->zeT s p T i l):zbr T n (Cl s p A B):=by
 refine⟨h.len,h.lt,fun i q=>⟨h.sub i q,fun hb=>?_⟩⟩
 induction hb with
 |base hb=>exact h.base _ _ hb
 |hid _ hl hq ih=>exact hc _ _ (by rw [← h.len];exact zht ih) hl _ ih _ hq
end
def room:List Nat->Nat
 |[]=>0
 |x :: r=>(65536 - x)+room r
theorem room_set:∀ (T:List Nat) (j x:Nat),(T.getD j 0|||x)<65536->room (T.set j (T.getD j 0|||x))<=room T∧(j<T.length->T.getD j 0|||x≠T.getD j 0->room (T.set j (T.getD j 0|||x))<room T)
 |[],j,x,_=>by simp [room]
 |a :: r,0,x,h=>by
  simp only [List.getD_cons_zero,List.set_cons_zero,room] at h ⊢
  have h1:a<=a|||x:=Nat.left_le_or
  refine⟨oM,fun _ h2=>oM⟩
 |a :: r,j+1,x,h=>by
  simp only [List.getD_cons_succ,List.set_cons_succ,room,List.length_cons] at h ⊢
  obtain⟨h1,h2⟩:=room_set r j x h
  refine⟨oM,fun h3 h4=>by have:=h2 oM h4;omega⟩
theorem sub_bit (ha:a<64)(hb:b<64) (l:Nat):l∈letters (a - (a&&&b)) 6↔l<6∧a.testBit l=true∧b.testBit l=false:=by
 rw [zD];refine and_congr_right fun hl=>?_;have c:∀ a<64,∀ b<64,∀ l<6,((a - (a&&&b)).testBit l=true↔a.testBit l=true∧b.testBit l=false):=by decide +kernel
 exact c a ha b hb l hl
theorem stand_bad {A:Nat}  (h:zbr T n (PR s p A v)):Bad s p A v↔∃ i,i<n∧T.getD i 0≠0∧zct p i=false:=by
 constructor
 ·rintro ⟨q,i,h1,h2⟩;have a:=(h.2.2 i q).2 h1;refine⟨i,by rw [← h.1];exact zht a,fun e=>?_,h2⟩;unfold zdJ at a;rw [e] at a;simp at a
 ·rintro ⟨i,c,h1,h2⟩;obtain⟨q,b⟩:=Nat.exists_testBit_of_ne_zero h1;exact⟨q,i,(h.2.2 i q).1 b,h2⟩
theorem zid (hn:1<=n):zbr ((eQ n 0).set 0 1) n (fun q i=>q=0∧i=0):=by
 refine⟨sM,fun x hx=>?_,fun i q=>?_⟩
 ·rcases gL hx with hx|rfl
  ·rw [jO] at hx;omega
  ·omega
 ·unfold zdJ;rw [eE]
  by_cases h:i=0
  ·subst h;rw [fP (by rw [List.length_replicate];omega),gQ];constructor
   ·intro h;exact⟨by cases q with|zero=>rfl|succ q=>simp [Nat.testBit_succ] at h,rfl⟩
   ·rintro ⟨rfl,-⟩;rfl
  ·rw [gX oM];constructor
   ·intro h;cases h1:(eQ n 0)[i]? with
    |none=>rw [h1] at h;simp at h
    |some x =>
     have:=dG h1;rw [jO] at this;rw [h1,this.2] at h;simp at h
   ·rintro ⟨_,h1⟩;exact absurd h1 h
def MvP (s:Sys) (p:Aut) (l:Nat) (T:List Nat) (k:Nat) (U:List Nat):Prop:=
 U.length=12∧(∀ x∈U,x<65536)∧∀ j q',zdJ U j q'↔∃ i q,i<k∧zdJ T i q∧q'∈cho s q l∧j=aGo p i l
def goS (s:Sys) (l x:Nat):Nat:=if s.al.toNat.testBit l=true then zcj s.edges x (l:Int) else x
section
variable {s:Sys} {p:Aut} {l k n:Nat} {T U:List Nat} {B:Nat->Nat->Prop}
theorem goS_bit (hs:Sml s) (x q':Nat):(goS s l x).testBit q'=true↔∃ q,x.testBit q=true∧q'∈cho s q l:=by
 unfold goS
 by_cases hb:s.al.toNat.testBit l=true
 ·rw [if_pos hb];exact zhn hs hb x q'
 ·rw [if_neg hb];constructor
  ·intro h;refine⟨q',h,?_⟩;unfold cho;rw [if_neg hb];simp
  ·rintro ⟨q,h1,h2⟩;unfold cho at h2;rw [if_neg hb] at h2;obtain rfl:q'=q:=by simpa using h2
   exact h1
theorem goS_lt (hs:Sml s) (hx:x<65536):goS s l x<65536:=by
 unfold goS;split
 ·exact zgA hs _ _
 ·exact hx
theorem zero_bit (n i q:Nat):¬ zdJ (eQ n 0) i q:=by
 unfold zdJ;rw [eE];cases h:(eQ n 0)[i]? with
 |none=>simp
 |some x =>
  have:=dG h;rw [jO] at this;simp [this.2]
theorem MvP.zero:MvP s p l T 0 (eQ 12 0):=by
 refine⟨sM,fun x hx=>by rw [jO] at hx;omega,fun j q'=>⟨fun h=>absurd h (zero_bit _ _ _),?_⟩⟩;rintro ⟨i,q,h,-⟩;omega
theorem MvP.skip (h:MvP s p l T k U)(h0:T.getD k 0=0):MvP s p l T (k+1) U:=by
 refine⟨h.1,h.2.1,fun j q'=>⟨fun hb=>?_,?_⟩⟩
 ·obtain⟨i,q,h1,h2⟩:=(h.2.2 j q').1 hb;exact⟨i,q,oM,h2⟩
 ·rintro ⟨i,q,h1,h2,h3⟩;rcases fC (gD h1) with h4|rfl
  ·exact (h.2.2 j q').2 ⟨i,q,h4,h2,h3⟩
  ·unfold zdJ at h2;rw [h0] at h2;simp at h2
theorem yY07a3 {P:Prop}(h:P:=by
 rintro ⟨i,q,h1,h2,h3,h4⟩;rcases Nat.lt_or_eq_of_le (Nat.le_of_lt_succ h1) with h5|rfl
 ·exact .inl ⟨i,q,h5,h2,h3,h4⟩
 ·exact .inr ⟨h4,q,h2,h3⟩
 ):P:=h
theorem MvP.step (h:MvP s p l T k U)(hs:Sml s)(hT:∀ x∈T,x<65536)(hj:aGo p k l<12):MvP s p l T (k+1) (U.set (aGo p k l) (U.getD (aGo p k l) 0|||goS s l (T.getD k 0))):=by
 have a:aGo p k l<U.length:=by rw [h.1];exact hj
 refine⟨by rw [gU];exact h.1,fun x hx=>?_,fun j q'=>?_⟩
 ·rcases gL hx with hx|rfl
  ·exact h.2.1 x hx
  ·exact e7 (n:=16) (zbK h.2.1 _) (goS_lt hs (zbK hT _))
 ·rw [zcP a,h.2.2 j q',goS_bit hs];constructor
  ·rintro (⟨i,q,h1,h2⟩|⟨rfl,q,h1,h2⟩)
   ·exact⟨i,q,oM,h2⟩
   ·exact⟨k,q,oM,h1,h2,rfl⟩
  ·exact yY07a3
theorem MvP.fin (h:MvP s p l T 12 U)(hT:zbr T 12 B):zbr U 12 (mvB s p l B):=by
 refine⟨h.1,h.2.1,fun j q'=>?_⟩;rw [h.2.2 j q'];constructor
 ·rintro ⟨i,q,-,h2,h3,h4⟩;exact⟨q,i,(hT.2.2 i q).1 h2,h3,h4⟩
 ·rintro ⟨q,i,h2,h3,h4⟩;have a:=(hT.2.2 i q).2 h2;exact⟨i,q,by rw [← hT.1];exact zht a,a,h3,h4⟩
def Has (M V:List Nat) (k:Nat):Prop:=∀ i q,i<k->zdJ V i q->zdJ M i q
theorem Has.zero (M V:List Nat):Has M V 0:=fun i q h=>oM
theorem Has.all (h:Has M V 12)(hV:V.length=12) (i q:Nat)(hb:zdJ V i q):zdJ M i q:=h i q (by rw [← hV];exact zht hb) hb
theorem Has.set (h:Has M V n) (hj:j<M.length):Has (M.set j (M.getD j 0|||x)) V n:=fun i q hi hb=>(zcP hj _ _ _).2 (.inl (h i q hi hb))
theorem Has.step (h:Has M V k)(hk:k<M.length):Has (M.set k (M.getD k 0|||V.getD k 0)) V (k+1):=fun i q hi hb=>by
 rw [zcP hk]
 rcases fC (gD hi) with h4|rfl
 ·exact .inl (h i q h4 hb)
 ·exact .inr ⟨rfl,hb⟩
variable {A:Nat}
theorem ClI.join (h:ClI s p A B 12 M)(hT:ClI s p A B 12 T)(hV:MvP s p l T 12 V)(hl:hidL s A l)(hk:k<12):ClI s p A B 12 (M.set k (M.getD k 0|||V.getD k 0)):=by
 have b:k<M.length:=by rw [h.len];exact hk
 refine⟨by rw [gU];exact h.len,fun x hx=>?_,fun q i a=>(zcP b _ _ _).2 (.inl (h.base q i a)),fun i q a=>?_⟩
 ·rcases gL hx with hx|rfl
  ·exact h.lt x hx
  ·exact e7 (n:=16) (zbK h.lt _) (zbK hV.2.1 _)
 ·rcases (zcP b _ _ _).1 a with a|⟨rfl,a⟩
  ·exact h.sub i q a
  ·obtain⟨c,d,-,h2,h3,rfl⟩:=(hV.2.2 i q).1 a;exact .hid (hT.sub c d h2) hl h3
theorem ClI.stop (hT:ClI s p A B 12 T)(h:∀ l,hidL s A l->∃ V,MvP s p l T 12 V∧Has T V 12):zbr T 12 (Cl s p A B):=
 hT.fin fun i l hi hl q hq q' hq'=>by
  obtain⟨V,hV,hh⟩:=h l hl
  exact hh.all hV.1 _ _ ((hV.2.2 _ _).2 ⟨i,q,hi,hq,hq',rfl⟩)
end
theorem bits_le (h:∀ q,a.testBit q=true->b.testBit q=true):a<=b:=by
 have:a|||b=b:=gY fun q=>by
  rw [iM];cases ha:a.testBit q
  ·simp
  ·rw [h q ha];simp
 rw [← this];exact Nat.left_le_or
theorem room_le:∀ {T M:List Nat},T.length=M.length->(∀ x∈M,x<65536)->(∀ i,T.getD i 0<=M.getD i 0)->room M<=room T∧(T≠M->room M<room T)
 |[],[],_,_,_=>⟨dI _,fun h=>absurd rfl h⟩
 |[],_ :: _,h,_,_=>by simp at h
 |_ :: _,[],h,_,_=>by simp at h
 |a :: r,b :: t,h,hM,hle=>by
  have h0:a<=b:=by simpa using hle 0
  have c:=hM b sM;obtain⟨h1,h2⟩:=room_le (T:=r) (M:=t) (by simpa using h) (fun x hx=>hM x (by simp [hx])) (fun i=>by simpa using hle (i+1));refine⟨by simp only [room];omega,fun hne=>?_⟩;simp only [room]
  by_cases e:a=b
  ·subst e;have:=h2 (fun e2=>hne (by rw [e2]));omega
  ·omega
theorem room_grow (h1:T.length=M.length)(hM:∀ x∈M,x<65536)(h:∀ i q,zdJ T i q->zdJ M i q)(hne:T≠M):room M<room T:=
 (room_le h1 hM (fun i=>bits_le (fun q hq=>h i q hq))).2 hne
def bq (T:List Nat):Nat->Nat->Prop:=fun q i=>zdJ T i q
theorem zbr.eq {B:Nat->Nat->Prop}(h:zbr T n B):bq T=B:=funext fun q=>funext fun i=>propext (h.2.2 i q)
structure WS (p:Aut) (T:List Nat):Prop where
 len:T.length=12
 lt:∀ x∈T,x<65536
 row:∀ i q,zdJ T i q->i<p.next.length
theorem WS.stand (h:WS p T):zbr T 12 (bq T):=⟨h.len,h.lt,fun _ _=>Iff.rfl⟩
theorem WS.idx (h:WS p T) (h0:T.getD i 0≠0):i<p.next.length:=by
 obtain⟨q,a⟩:=Nat.exists_testBit_of_ne_zero h0;exact h.row i q a
def zgm (p:Aut) (T:List Nat):Nat->Bool
 |0=>false
 |k+1=>zgm p T k || (T.getD k 0 != 0&&!zct p k)
def badS (p:Aut) (T:List Nat):Bool:=zgm p T 12
theorem badSN_iff (p:Aut) (T:List Nat):∀ k,zgm p T k=true↔∃ i,i<k∧T.getD i 0≠0∧zct p i=false
 |0=>⟨fun h=>(by cases h),fun ⟨i,h,_⟩=>oM⟩
 |k+1=>by
  unfold zgm
  rw [iC,badSN_iff p T k]
  constructor
  ·rintro (⟨i,h1,h2⟩|h)
   ·exact⟨i,oM,h2⟩
   ·refine⟨k,oM,?_⟩
    simpa using h
  ·rintro ⟨i,h1,h2,h3⟩
   rcases fC (gD h1) with h4|rfl
   ·exact .inl ⟨i,h4,h2,h3⟩
   ·exact .inr (by simp only [h3,Bool.not_false,Bool.and_true];simpa using h2)
theorem zjl {A:Nat}  (h:zbr T 12 (PR s p A v)):badS p T=true↔Bad s p A v:=by
 rw [stand_bad h];exact badSN_iff p T 12
theorem cl_row {A:Nat} {B:Nat->Nat->Prop}(hp:zj p=true)(hB:∀ q i,B q i->i<p.next.length) (h:Cl s p A B q i):i<p.next.length:=by
 induction h with
 |base h=>exact hB _ _ h
 |hid _ hl _ ih=>exact zer hp ih hl.1
def Lead (s:Sys) (p:Aut) (A l:Nat) (T U:List Nat):Prop:=zbr U 12 (Cl s p A (mvB s p l (bq T)))
theorem Lead.ws {A:Nat} (h:Lead s p A l T U)(hp:zj p=true)(hl:l<6)(hT:WS p T):WS p U:=
 ⟨h.1,h.2.1,fun i q hb=>cl_row hp (fun q i ⟨_,i0,h1,_,h3⟩=>by rw [h3];exact zer hp (hT.row _ _ h1) hl) ((h.2.2 i q).1 hb)⟩
theorem Lead.pr {A:Nat}  (h:Lead s p A l T U)(hT:zbr T 12 (PR s p A v)):zbr U 12 (PR s p A (v++[l])):=by
 unfold Lead at h;rw [hT.eq,← PR_snoc] at h;exact h
theorem start_ws {A:Nat} (h:zbr U 12 (PR s p A []))(hp:zj p=true)(h0:0<p.next.length):WS p U:=
 ⟨h.1,h.2.1,fun i q hb=>cl_row hp (fun q i ⟨_,h3⟩=>by rw [h3];exact h0) ((h.2.2 i q).1 hb)⟩
structure SfI (s:Sys) (p:Aut) (A:Nat) (Ts:List (List Nat)) (nx:Nat->Nat->Int):Prop where
 ws:∀ T∈Ts,WS p T
 start:∃ T,Ts[0]?=some T∧zbr T 12 (PR s p A [])
 nx:∀ k l,k<Ts.length->l<6->nx k l = -1∨∃ (j:Nat) (T U:List Nat),nx k l=(j:Int)∧Ts[k]?=some T∧Ts[j]?=some U∧Lead s p A l T U
section
variable {s:Sys} {p:Aut} {A:Nat} {Ts:List (List Nat)} {nx:Nat->Nat->Int}
theorem SfI.add (h:SfI s p A Ts nx) (hU:WS p U):SfI s p A (Ts++[U]) (fun k l=>if k=Ts.length then -1 else nx k l):=by
 obtain⟨T,h1,h2⟩:=h.start;refine⟨fun V a=>?_,⟨T,by rw [eH (List.getElem?_eq_some_iff.1 h1).1];exact h1,h2⟩,fun k l hk hl=>?_⟩
 ·rcases List.mem_append.1 a with a|a
  ·exact h.ws V a
  ·obtain rfl:V=U:=by simpa using a
   exact hU
 ·by_cases e:k=Ts.length
  ·exact .inl (if_pos e)
  ·have b:k<Ts.length:=by simp at hk;omega
   simp only [if_neg e];rcases h.nx k l b hl with h3|⟨j,T,U,h3,h4,h5,c⟩
   ·exact .inl h3
   ·exact .inr ⟨j,T,U,h3,by rw [eH b];exact h4,by rw [eH (List.getElem?_eq_some_iff.1 h5).1];exact h5,c⟩
theorem SfI.set (h:SfI s p A Ts nx)  (hT:Ts[k]?=some T)(hU:Ts[j]?=some U)(hl:Lead s p A l T U):SfI s p A Ts (fun k' l'=>if k'=k∧l'=l then (j:Int) else nx k' l'):=by
 refine⟨h.ws,h.start,fun k' l' hk' hl'=>?_⟩
 by_cases e:k'=k∧l'=l
 ·obtain⟨rfl,rfl⟩:=e;exact .inr ⟨j,T,U,if_pos ⟨rfl,rfl⟩,hT,hU,hl⟩
 ·simp only [if_neg e];exact h.nx k' l' hk' hl'
end
theorem zjC (l:List Int):∀ u∈ints l,u.oneCell'=true:=by
 intro u hu;obtain⟨x,_,rfl⟩:=List.mem_map.1 hu;rfl
theorem zfI (l:List Bool):∀ u∈zak l,u.oneCell'=true:=by
 intro u hu;obtain⟨x,_,rfl⟩:=List.mem_map.1 hu;rfl
theorem zfP {w1:World}   (hg:(w.alloc (.cells cs t)).grownBy w1 (Value.slice (some w.heap.size) n c).ownBlock):Ext w w1:=
 ((dE w).alloc _).grown hg (fun k hk=>by
  have hk':w.heap.size=k:=by simpa [Value.ownBlock] using hk
  omega)
theorem clone_int {l:List Int} (h:Reads w lo hi 1 A n (ints l))(hn:n<=1048576) :
  Calls Tryz.prog 195 #[.slice A n c] w fun e w'=>∃ v',e=.returned v'∧w'.ownsRow w.heap.size 3 1 v' n (ints l)∧Ext w w':=by
 cases A with
 |none =>
  obtain rfl:n=0:=by
   rcases iL n with b|b
   ·exact b
   ·obtain⟨_,h1,_⟩:=h.2.2 b;cases h1
  have d:=h.length;obtain rfl:l=[]:=eJ (by rw [zdc] at d;omega);clear h;have f:=fun (w:World) (a:Option Addr) (n c n' c':Nat)=>Lib.run_eql_slice_nil (P:=Tryz.prog) w 110 _ a n c n' c' Tryz.underlying110
  go_enter Tryz.func195,Tryz.ntmps195
  go_wp2;go_ret;exact⟨_,rfl,World.ownsRow_nil _ _ _ _,dE _⟩
 |some ad =>
  have H:=za (h.ext ((dE w).alloc (.cells #[] 3)));clear h;have f:=fun (w:World) (a:Option Addr) (n c n' c':Nat)=>Lib.run_eql_slice_nil (P:=Tryz.prog) w 110 _ a n c n' c' Tryz.underlying110
  go_enter Tryz.func195,Tryz.ntmps195
  go_wp2_with (at_builtin;refine zdk _ rfl _ _ 110 rfl w.heap.size 3 _ 1 8 Tryz.underlying110 zae rfl dM _ 0 [] rfl (World.ownsRow_made w #[] 0 (dI _) (eC _) rfl) _ _ (some ad) n c (ints l) rfl H.out (zjC l) lM oM sM ?_;intro v' w1 zkf hg hat)
  have hx:=zfP hg;rw [eO,e9] at zkf;go_ret;exact⟨_,rfl,zkf,hx⟩
theorem ziL {l:List Bool} (h:Reads w lo hi 1 A n (zak l))(hn:n<=1048576) :
  Calls Tryz.prog 194 #[.slice A n c] w fun e w'=>∃ v',e=.returned v'∧w'.ownsRow w.heap.size 4 1 v' n (zak l)∧Ext w w':=by
 cases A with
 |none =>
  obtain rfl:n=0:=by
   rcases iL n with b|b
   ·exact b
   ·obtain⟨_,h1,_⟩:=h.2.2 b;cases h1
  have d:=h.length;obtain rfl:l=[]:=eJ (by rw [zbT] at d;omega);clear h;have f:=fun (w:World) (a:Option Addr) (n c n' c':Nat)=>Lib.run_eql_slice_nil (P:=Tryz.prog) w 25 _ a n c n' c' Tryz.underlying25
  go_enter Tryz.func194,Tryz.ntmps194
  go_wp2;go_ret;exact⟨_,rfl,World.ownsRow_nil _ _ _ _,dE _⟩
 |some ad =>
  have H:=za (h.ext ((dE w).alloc (.cells #[] 4)));clear h;have f:=fun (w:World) (a:Option Addr) (n c n' c':Nat)=>Lib.run_eql_slice_nil (P:=Tryz.prog) w 25 _ a n c n' c' Tryz.underlying25
  go_enter Tryz.func194,Tryz.ntmps194
  go_wp2_with (at_builtin;refine zdk _ rfl _ _ 25 rfl w.heap.size 4 _ 1 1 Tryz.underlying25 zbh rfl dM _ 0 [] rfl (World.ownsRow_made w #[] 0 (dI _) (eC _) rfl) _ _ (some ad) n c (zak l) rfl H.out (zfI l) lM oM sM ?_;intro v' w1 zkf hg hat)
  have hx:=zfP hg;rw [eO,e9] at zkf;go_ret;exact⟨_,rfl,zkf,hx⟩
theorem zZ (W:World) (Z:Nat) (u0 u1 u2:Value):Frm (fun k=>k=Z) W (((W.setCell Z u0).setCell ⟨Z,1,none⟩ u1).setCell ⟨Z,2,none⟩ u2):=
 ((eB W Z 0 u0).trans (eB _ Z 1 u1)).trans (eB _ Z 2 u2)
theorem zaf (h:Blk w Z t cs)(hc:cs.size=3) (u0 u1 u2:Value):Blk (((w.setCell Z u0).setCell ⟨Z,1,none⟩ u1).setCell ⟨Z,2,none⟩ u2) Z t #[u0,u1,u2]:=by
 obtain⟨l⟩:=cs
 match l,hc with
 |[a,b,c],_=>simpa using ((h.ab 0 u0).ab 1 u1).ab 2 u2
theorem zr {v:Value}  (h:w.ownsRow base e size v n xs)(hB:Blk w G t cs)(hne:e≠t) (hv:v.ownBlock=some b):b≠G:=by
 rintro rfl;rcases h.2 with ⟨rfl,_⟩|⟨g,a,c,rfl,_,f,_⟩
 ·simp [Value.ownBlock] at hv
 ·have d:g=b:=by simpa [Value.ownBlock] using hv
  subst d;unfold Blk at hB;rw [f] at hB;injection hB with hB
  injection hB with _ ht
  exact absurd ht hne
structure Gra (w0 W:World) (G:Nat) (al:Int) (v:Value) (ls:List (List Int)) (vA:Value) (acc:List Bool):Prop where
 blk:Blk W G 27 #[al,v,vA]
 own:zfF W w0.heap.size v ls
 acc:W.ownsRow w0.heap.size 4 1 vA acc.length (zak acc)
 ext:Ext w0 W
 hG:w0.heap.size<=G
section
variable {w0 W W':World} {G:Nat} {al:Int} {v vA:Value} {ls:List (List Int)} {acc:List Bool}
theorem Gra.aw (h:Gra w0 W G al v ls vA acc)(hb:Ext W W'):Gra w0 W' G al v ls vA acc:=⟨h.blk.ext hb,h.own.ext hb,zh h.acc hb,h.ext.trans hb,h.hG⟩
theorem Gra.push {W1:World} {rows:List Value} {row:Value} {l:List Int} (h:Gra w0 W G al v ls vA acc)(hrows:zC W w0.heap.size rows ls)(hv:W.ownsRow w0.heap.size 110 1 v ls.length rows)
  (hx:Ext W W1) (hrow:W1.ownsRow W.heap.size 3 1 row l.length (ints l))
  (zkf:W'.ownsRow w0.heap.size 110 1 (.slice (some g) (ls.length+1) cap) (ls.length+1) (rows++[row]))
  (hg:W1.grownBy W' v.ownBlock) (hat:v.ownBlock=some g∨g=W1.heap.size+1) :
  Hid (W'.cell? ⟨G,1,none⟩=some v)∧W'.frozen? ⟨G,1,none⟩=false∧Gra w0 (W'.setCell ⟨G,1,none⟩ (.slice (some g) (ls.length+1) cap)) G al (.slice (some g) (ls.length+1) cap) (ls++[l]) vA acc:=by
 have a:=h.blk.ext hx;have d:=zh hv hx;have f:Blk W' G 27 #[.int .i64 al,v,vA]:=(hg.block G a.lt (fun e=>zr d a dM e.symm rfl)).trans a;have t:g≠G:=by
  rcases hat with h1|h1
  ·exact zr d a dM h1
  ·have:=a.lt;omega
 have s:Ext w0 W':=(h.ext.trans hx).grown hg (fun k hk=>(d.lt k hk).1);have m:=hrows.snoc hx (h.ext.size) hrow;have j:Frm (fun k=>v.ownBlock=some k) W1 W':=Frm.ae hg;have n:zC W' w0.heap.size (rows++[row]) (ls++[l]):=m.frm j (fun i r b hr hb hS=>by
  obtain⟨u,_,q⟩:=m.row hr;exact zas q d dM hb hS)
 have o:W'.ownsRow w0.heap.size 4 1 vA acc.length (zak acc):=zf (zh h.acc hx) j (fun b hb hS=>zas (zh h.acc hx) d dM hb hS);have c:=eB W' G 1 (.slice (some g) (ls.length+1) cap);refine⟨f.cell 1,f.frozen 1,⟨by simpa using f.ab 1 _,⟨rows++[row],?_,?_⟩,?_,s.setCell (p:=⟨G,1,none⟩) h.hG _,h.hG⟩⟩
 ·rw [eK,eY];exact zf zkf c (fun b hv hS=>by
   have:g=b:=by simpa [Value.ownBlock] using hv
   omega)
 ·refine n.frm c (fun i r b hr hb hS=>?_);obtain⟨u,_,q⟩:=n.row hr;exact zr q f dM hb hS
 ·exact zf o c (fun b hb hS=>zr o f dM hb hS)
end
theorem zfQ {A':Option Addr} {n' c':Nat} {a:Aut} (h:zF w lo hi A n A' n' a)(hs:a.size<=1048576) :
  Calls Tryz.prog 104 #[.agg #[a.al,.slice A n c,.slice A' n' c']] w (RetAut w a):=by
 have h1:n<=1048576:=by have:=h.n1;unfold Aut.size at hs;omega
 have h2:n'<=1048576:=by have:=h.n2;unfold Aut.size at hs;omega
 have o:∀ (k:Nat) (l:List Int),a.next[k]?=some l->l.length<=1048576:=fun k l T=>by
  have h1:=zge T;have h2:=zie a.next (k+1);unfold Aut.size at hs;omega
 have L:=za o;have O:=za h.n1;have Q:=za h.n2;have HS:=za (fun W (hW:Ext w W)=>h.1.ext hW);have HA:=za (fun W (hW:Ext w W)=>h.2.2.ext hW);have ao:=h.1.len;clear o h hs
 go_enter Tryz.func104,Tryz.ntmps104
 go_upto_region 1 with fail
 generalize U0:(w.alloc _).alloc _=q at *;obtain⟨t,b1,bz⟩:=Ext.x2_ U0;have aq:w.heap.size+2=q.heap.size:=by rw [← U0];simp
 clear U0
 go_cut [3] (fun v wx=>∃ (G:Nat) (vA:Value),v=.pointer (some G)∧Gra q wx G a.al (.slice none 0 0) [] vA a.acc)
 case first =>
  have c1:=fun W (hW:Ext q W)=>(b1.ext hW).cell;have u:=dE q;refine uR (fun X=>Ext q X) [7] (zw.app [0,1,2,3] (zw.two 4 (zw.of [5,6,7]) 6 (zw.of [4,5,7]))) ?_;refine uQ ?_;have g:Ext q q.drew:=u.drew;generalize q.drew=wd at *;refine zm (fun K hK=>?_) (fun K hK=>?_)
  ·go_simp;refine (ziL (HA.out _ (t.trans g)) h2).mono ?_;rintro e H ⟨aj,rfl,j,y⟩;obtain⟨J,M,rfl⟩:=zi j;have m:=g.trans y;refine hK.out _ _ m ?_;refine pT ?_;refine uQ ?_;refine ze fun K hK=>?_;go_simp;have x:=(dE H).alloc (.cells #[(0:Int),(),()] 27);have Z:=m.size;have f:=zq (zh j x) g.size;replace m:=m.trans x;refine hK.out _ _ m ?_;generalize U0:H.alloc _=I at *;have r:=eS U0;clear U0;generalize H.heap.size=G at *;refine pT ?_;refine uQ ?_;have Y:=r.cell;have fG:=r.frozen;refine zb fun K hK=>?_;go_simp;refine hK.out _ _ ?_;refine zg ?_;have zki:Gra q (((I.setCell G a.al).setCell ⟨G,1,none⟩ ()).setCell ⟨G,2,none⟩ (.slice J n' M)) G a.al (.slice none 0 0) [] (.slice J n' M) a.acc:=⟨zaf r rfl _ _ _,⟨[],World.ownsRow_nil _ _ _ _,zC.nil _ _⟩,by
    rw [← Q.out];exact zf f (zZ I G _ _ _) (fun b s hS=>zr f r dM s hS),m.frm (zZ I G _ _ _) (fun k hk e=>oM),Z⟩
   go_wp2_with fail
   go_meet;exact⟨G,_,rfl,zki⟩
  ·go_simp;have x:=(dE wd).alloc (.cells #[(0:Int),(),()] 27);have Z:=g.size;replace g:=g.trans x;refine hK.out _ _ g ?_;generalize U0:wd.alloc _=I at *;have r:=eS U0;clear U0;generalize wd.heap.size=G at *;refine pT ?_;refine ze fun K hK=>?_;go_simp;refine (ziL (HA.out _ (t.trans g)) h2).mono ?_;rintro e H ⟨aj,rfl,j,y⟩;obtain⟨J,M,rfl⟩:=zi j;have f:=zq j g.size;replace r:=r.ext y;replace g:=g.trans y;refine hK.out _ _ g ?_;refine pT ?_;refine uQ ?_;have Y:=r.cell;have fG:=r.frozen;refine zb fun K hK=>?_;go_simp;refine hK.out _ _ ?_;refine zg ?_;have zki:Gra q (((H.setCell G a.al).setCell ⟨G,1,none⟩ ()).setCell ⟨G,2,none⟩ (.slice J n' M)) G a.al (.slice none 0 0) [] (.slice J n' M) a.acc:=⟨zaf r rfl _ _ _,⟨[],World.ownsRow_nil _ _ _ _,zC.nil _ _⟩,by
    rw [← Q.out];exact zf f (zZ H G _ _ _) (fun b s hS=>zr f r dM s hS),g.frm (zZ H G _ _ _) (fun k hk e=>oM),Z⟩
   go_wp2_with fail
   go_meet;exact⟨G,_,rfl,zki⟩
 case rest =>
  obtain⟨G,vA,rfl,d⟩:=hcut;have k1:=(b1.ext d.ext).cell;go_wp2_with fail
  go_loopw [5,15] (fun _ i wr=>∃ (k:Nat) (v:Value),k<=n∧i=.int .i64 k∧Gra q wr G a.al v (a.next.take k) vA a.acc) (fun _ i _=>n - (intOf i).toNat)
  case atStart=>exact⟨0,_,eC _,rfl,by simpa using d⟩
  case round =>
   clear d k1;obtain⟨k,v,hk,rfl,d⟩:=hrel
   by_cases hlt:k<n
   ·obtain⟨ad,Ak,ck,l,rfl,_,_,T,ab,R⟩:=(HS.out wr (t.trans d.ext)).row hlt;have af:=L.out k l T.out;have V:=za (show a.next.take (k+1)=a.next.take k++[l] by rw [eG,T.out];rfl);have S:=za (show (a.next.take k).length=k by rw [fL];have:=O.out;omega);obtain⟨z,s,F⟩:=d.own;go_upto_region 5 with fail
    have Y:=fun W (hW:Ext wr W)=>(d.blk.ext hW).cell;have u:=dE wr;have U:=za (fun W (hW:Ext wr W)=>R.ext hW);clear ab R;refine uR (fun X=>Ext wr X) [5,7] (zw.of [0,1,2,3,4,5,6,7]) ?_;refine uQ ?_;refine ze fun K hK=>?_;go_simp;refine (clone_int (U.out _ u.drew) af).mono ?_;rintro e I ⟨row,rfl,o,ag⟩;obtain⟨BR,dR,rfl⟩:=zi o;have p:=u.drew.trans ag;refine hK.out _ _ p ?_;refine pT ?_;refine uQ ?_;refine ze fun K hK=>?_;go_simp;refine hK.out _ _ (p.alloc _) ?_;refine pT ?_;refine zb fun K hK=>?_;refine zaH q I _ _ _ rfl 110 _ 1 24 Tryz.underlying24 zcB rfl dM v (a.next.take k).length z _ _ rfl rfl (d.ext.trans p).size (zh s p) rfl (zbc _ _ _) (by unfold maxLen;have:=S.out;omega) (oH S.out) ?_;intro g5 cap5 w5 zkr hg5 hat5 hlt5;refine hK.out _ _ ?_;refine pT ?_;refine uQ ?_;obtain⟨p1,p2,p3⟩:=d.push F s p o (W':=w5) zkr hg5 hat5;have aA:=p1.out;refine zb fun K hK=>?_;go_simp;refine hK.out _ _ ?_;refine zg ?_;go_wp2_with fail
    go_roundw
    case rel=>exact⟨k+1,_,oM,gM,by rw [V.out];first|exact p3|simpa using p3⟩
    case measure=>simp [intOf];omega
   ·obtain rfl:n=k:=oM;obtain⟨A5,c5,rfl⟩:∃ A5 c5,v=.slice A5 n c5:=by
     obtain⟨z,s,_⟩:=d.own;rw [eF (oH O.out),← O.out] at s;exact zi s
    obtain⟨B,C,rfl⟩:=zi d.acc;have Y:=d.blk.cell;have D:=bz.ext d.ext;have cZ:=D.cell;have fZ:=D.frozen;have E:=zZ wr (w.heap.size+1) (.int .i64 a.al) (.slice A5 n c5) (.slice B a.acc.length C);have aa:=zaf D rfl (.int .i64 a.al) (.slice A5 n c5) (.slice B a.acc.length C);have ah:=(t.trans d.ext).frm E (fun k hk e=>oM);have zki:=za (show RetAut w a (.returned (.agg #[a.al,.slice A5 n c5,.slice B a.acc.length C])) (((wr.setCell ⟨w.heap.size+1,0,none⟩ a.al).setCell ⟨w.heap.size+1,1,none⟩ (.slice A5 n c5)).setCell ⟨w.heap.size+1,2,none⟩ (.slice B a.acc.length C)) from by
     refine⟨A5,n,c5,B,a.acc.length,C,rfl,⟨?_,O.out,?_,rfl⟩,ah⟩
     ·have ho:=d.own;rw [eF (oH O.out)] at ho;exact (ho.keep E (fun b h1 e=>oM)).less oM
     ·exact zq (zaF d.acc E (fun b h1 e=>oM)) oM)
    go_wp2_with fail
    generalize ((wr.setCell ⟨w.heap.size+1,0,none⟩ a.al).setCell ⟨w.heap.size+1,1,none⟩ (.slice A5 n c5)).setCell ⟨w.heap.size+1,2,none⟩ (.slice B a.acc.length C)=wf at *;have cf:=aa.cell;exact bodyPost_ret (v:=.agg #[a.al,.slice A5 n c5,.slice B a.acc.length C]) (by simp [results,Tryz.results104,go_sem,cf]) rfl zki.out
def memT (W:World) (g n:Nat):List Nat:=(List.range n).map fun j=>match W.cell? ⟨g,j,none⟩ with|some (.int _ z)=>z.toNat|_=>0
theorem memT_own (h:W.ownsRow base 3 1 (.slice (some g) n c) n (zac T))(hT:T.length=n):memT W g n=T:=by
 refine List.ext_getElem? fun j=>?_;unfold memT;rw [eM];rcases Nat.lt_or_ge j n with a|a
 ·rw [List.getElem?_range a,Option.map_some,h.cellAt j oM,show (zac T)[j]?=T[j]?.map (fun x=>Value.int .i64 (x:Nat)) by simp [zac]];rw [dH oM];simp
 ·rw [eR (by simpa using a),eR oM];rfl
theorem zdd (h:W.ownsRow base 3 1 (.slice (some g) n c) n (zac T))(hj:j<n):W.cell? ⟨g,j,none⟩=some (.int .i64 (T.getD j 0:Nat)):=by
 have a:=zdB h;have b:T.length=n:=by simpa [zac] using a
 rw [h.cellAt j oM,show (zac T)[j]?=T[j]?.map (fun x=>Value.int .i64 (x:Nat)) by simp [zac],eE,dH oM];simp
def RetSets (g N cc base:Nat) (Q:Nat->Nat->Prop) (w:World) (e:Ending) (w':World):Prop:=
 ∃ T':List Nat,e=.returned (.slice (some g) N cc)∧w'.ownsRow base 3 1 (.slice (some g) N cc) N (zac T')∧zbr T' N Q∧Frm (fun k=>k=g) w w'
section
variable {w:World} {lo hi n c m d m' d' L:Nat} {A B B':Option Addr} {s:Sys} {p:Aut}
theorem zgM {cc:Nat}  {Bs:Nat->Nat->Prop}(hS:zV w lo hi A n s)(hP:zF w lo hi B m B' m' p)(hv:zk s=true)(hp:zj p=true)(hL:L<64)(hN:N=p.next.length)
  (hg:hi<=base) (zkf:w.ownsRow base 3 1 (.slice (some g) N cc) N (zac T)) (hT:zbr T N Bs) :
  Calls Tryz.prog 223 #[.agg #[s.al,s.st,.slice A n c,p.al,.slice B m d,.slice B' m' d',L],.slice (some g) N cc] w (RetSets g N cc base (Cl s p L Bs) w):=by
 have O:=zck hv;obtain⟨a0,a1⟩:=zG hv;obtain⟨al,ad⟩:∃ al:Nat,Hid (s.al=al):=⟨s.al.toNat,by unfold Hid;omega⟩;have I:al<64:=oH ad.out;have aO:N<=12:=by have:=(zl hp).2.1;omega
 have a4:=(zkf.lt g rfl).1;have a6:=(zkf.lt g rfl).2;have HN:=za hN;have aE:=za (zbZ (a:=al) (b:=L) tM tM);have a8:al&&&L<=al:=Nat.and_le_left;have aa:(al:Int) - ((al&&&L:Nat):Int)=((al - (al&&&L):Nat):Int):=oM;have an:=za aa;clear aa;have H:=za (fun l=>sub_bit I hL l);have a2:=aE.out;clear hN
 go_enter Tryz.func223,Tryz.ntmps223
 go_upto_region 1 with fail
 generalize U0:w.alloc _=w1 at *;obtain⟨R,b1⟩:=iK U0;have k1:=b1.cell;clear U0;rw [ad.out] at k1;go_wp2_with fail
 rw [an.out];refine (zah (al - (al&&&L)) tM _).mono ?_;rintro e w2 ⟨HA,hc,rfl,E,U⟩;have H:=za (fun l=>(sub_bit I hL l).trans (show l<6∧al.testBit l=true∧L.testBit l=false↔hidL s L l by unfold hidL;rw [ad.out];rfl));generalize letters (al - (al&&&L)) 6=hs at *;have a7:hs.length<=9223372036854775807:=(eW E).len;have ao:Frm (fun k=>k=g) w w2:=(R.trans U).ak;have ax:=zh zkf (R.trans U);have aI:=b1.ext U;have o:=hT.clI (s:=s) (p:=p) (A:=L);clear zkf hT k1 b1;go_wp2_with fail
 go_loopw [6] (fun mv wr=>∃ (C:Bool) (T:List Nat),mv=.bool C∧Hid (ClI s p L Bs N T)∧Hid (C=false->∀ i l,i<N->hidL s L l->zeT s p T i l)∧wr.ownsRow base 3 1 (.slice (some g) N cc) N (zac T)∧Frm (fun k=>k=g) w2 wr) (fun mv wr=>room (memT wr g N)+(match mv with | .bool true=>1|_=>0))
 case atStart=>exact⟨true,T,rfl,za o,za (fun h=>by cases h),ax,Frm.refl _ _⟩
 case round =>
  clear o ax;obtain⟨C,T,rfl,o,f,zkf,t⟩:=hrel;have aq:=za (memT_own zkf o.out.len);cases C
  ·have zki:=za (o.out.fin (f.out rfl));go_wp2_with fail
   go_ret;exact⟨T,rfl,zkf,zki.out,ao.trans t⟩
  ·go_wp2_with fail
   go_loopw [6,7] (fun mv iv wq=>∃ (C:Bool) (i:Nat) (v:List Nat),mv=.bool C∧iv=.int .i64 i∧i<=N∧Hid (ClI s p L Bs N v)∧Hid (room v<=room T∧(C=true->room v<room T))∧Hid (C=false->∀ i' l,i'<i->hidL s L l->zeT s p v i' l)∧wq.ownsRow base 3 1 (.slice (some g) N cc) N (zac v)∧Frm (fun k=>k=g) w2 wq) (fun _ iv _=>N - (intOf iv).toNat)
   case atStart=>exact⟨false,0,T,rfl,rfl,eC _,o,za ⟨dI _,fun h=>by cases h⟩,za (fun _ i' l h=>oM),zkf,t⟩
   case round =>
    clear o zkf t f;obtain⟨C,i,v,rfl,rfl,hi,o,r,f,zkf,t⟩:=hrel
    by_cases hlt:i<N
    ·have aR:(i:Int)<(N:Int):=oM;go_wp2_with fail
     go_loopw [6,8] (fun mv kv wq=>∃ (C:Bool) (k:Nat) (v:List Nat),mv=.bool C∧kv=.int .i64 k∧k<=hs.length∧Hid (ClI s p L Bs N v)∧Hid (room v<=room T∧(C=true->room v<room T))∧Hid (C=false->(∀ i' l,i'<i->hidL s L l->zeT s p v i' l)∧∀ (k' l:Nat),k'<k->hs[k']?=some l->zeT s p v i l)∧wq.ownsRow base 3 1 (.slice (some g) N cc) N (zac v)∧Frm (fun k=>k=g) w2 wq) (fun _ kv _=>hs.length - (intOf kv).toNat)
     case atStart=>exact⟨C,0,v,rfl,rfl,eC _,o,r,za (fun h=>⟨f.out h,fun k' l h=>oM⟩),zkf,t⟩
     case round =>
      clear o r f zkf t;obtain⟨C,k,v,rfl,rfl,hk,o,r,f,zkf,t⟩:=hrel
      by_cases hkl:k<hs.length
      ·have aQ:(k:Int)<(hs.length:Int):=oM;obtain⟨l,X⟩:∃ l,hs[k]?=some l:=⟨_,dH hkl⟩;have M:=(H.out l).1 (dG X);have ap:=M.1;have ae:aGo p i l<N:=by rw [HN.out];exact zer hp (by rw [← HN.out];exact hlt) ap
       obtain⟨gh,rfl,a5,-⟩:=zad E oM;have G:=zaF E t (fun b h1 e=>oH R.size);have cH:=zdd G hkl;rw [eE,X,gQ] at cH;have CH:∀ W,Ext wr W->W.cell? ⟨gh,k,none⟩=some (.int .i64 (l:Nat)):=fun W hW=>hW.aa cH;have CB:∀ W,Ext wr W->∀ q,W.cell? ⟨w.heap.size,q,none⟩=#[Value.int .i64 s.al,.int .i64 s.st,.slice A n c,.int .i64 p.al,.slice B m d,.slice B' m' d',.int .i64 L][q]?:=fun W hW=>((aI.frm t oM).ext hW).cell;have CI:∀ W,Ext wr W->W.cell? ⟨g,i,none⟩=some (.int .i64 (v.getD i 0:Nat)):=fun W hW=>hW.aa (zdd zkf hlt);have aC:=za (fun W (hW:Ext wr W)=>((hP.ext (R.trans U)).frm t (fun k h1 h2 e=>oM)).ext hW);have aD:=za (fun W (hW:Ext wr W)=>((hS.ext (R.trans U)).frm t (fun k h1 h2 e=>oM)).ext hW);have Hl:=za X;have a9:=dE wr;clear X cH G;go_wp2_with fail
       go_region_held3 (fun W=>Ext wr W) (first|assumption|(refine gG ?_;assumption)|(refine fI ?_ aM;assumption)|(refine fI ?_ aM;refine gG ?_;assumption)) (first|(go_at_call 225;refine (zdU (aC.out _ ?_) hp (by rw [← HN.out];exact hlt) ap).mono ?_;(first|assumption|(refine gG ?_;assumption));rintro e w3 ⟨rfl,ba⟩))
       have aS:Ext wr w3:=aM;obtain⟨j,hj⟩:∃ j,Hid (aGo p i l=j):=⟨_,rfl⟩;rw [hj.out] at ae ⊢;have CJ:∀ W,Ext wr W->W.cell? ⟨g,j,none⟩=some (.int .i64 (v.getD j 0:Nat)):=fun W hW=>hW.aa (zdd zkf ae);obtain⟨x,hx⟩:∃ x,Hid (v.getD i 0=x):=⟨_,rfl⟩;obtain⟨y,hy⟩:∃ y,Hid (v.getD j 0=y):=⟨_,rfl⟩;have aT:x<65536:=by rw [← hx.out];exact zbK o.out.lt i
       have aw:y<65536:=by rw [← hy.out];exact zbK o.out.lt j
       rw [hx.out] at CI;rw [hy.out] at CJ;have Q:zcj s.edges x (l:Int)<65536:=zgA O _ _;obtain⟨z,hz⟩:∃ z,Hid (zcj s.edges x (l:Int)=z):=⟨_,rfl⟩;rw [hz.out] at Q;have aK:=zbb (a:=y) (b:=z) tM tM;have aP:(j:Int)<(N:Int):=oM;obtain⟨u,hu⟩:∃ u,Hid (y|||z=u):=⟨_,rfl⟩;have av:u<65536:=by rw [← hu.out];exact e7 (n:=16) aw Q
       rw [hu.out] at aK;go_wp2_with fail
       go_region_held3 (fun W=>Ext wr W) (first|assumption|(refine gG ?_;assumption)|(refine fI ?_ aM;assumption)|(refine fI ?_ aM;refine gG ?_;assumption)) (first|(go_at_call 224;refine (zhZ (c:=c) (k0:=s.st.toNat) (aD.out _ ?_) O.2.2.1 (oH O.2.1) tM).mono ?_;(first|assumption|(refine gG ?_;assumption));rw [hz.out];rintro e w4 ⟨rfl,bb⟩))
       have S:Ext wr w4:=aM;have cJ:=CJ w4 S;have Y:=t.ext S;have D:=zh zkf S;have J:v.getD (aGo p i l) 0|||zcj s.edges (v.getD i 0) (l:Int)=u:=by rw [hj.out,hx.out,hy.out,hz.out,hu.out]
       have ak:=za J;have F:=o.out.step O hp HN.out hlt M;rw [J,hj.out] at F;have ab:=za F;clear J F CH CB CI CJ
       by_cases he:u=y
       ·have aF:=za (closedAt_of (T:=v) (p:=p) (i:=i) O M (by rw [ak.out,hj.out,hy.out,he]));have aJ:((u:Int) != (y:Int))=false:=by rw [he];simp
        clear he;go_wp2_with fail
        go_roundw
        case rel=>exact⟨C,k+1,v,rfl,gM,oM,o,r,za (fun h=>⟨(f.out h).1,fun k' l' V hl'=>by
         rcases fC (gD V) with h1|rfl
         ·exact (f.out h).2 k' l' h1 hl'
         ·rw [Hl.out] at hl';obtain rfl:=Option.some.inj hl';exact aF.out⟩),D,Y⟩
        case measure=>simp [intOf];omega
       ·have aJ:((u:Int) != (y:Int))=true:=by simp;omega
        have ag:=room_set v j z (by rw [hy.out,hu.out];exact av);rw [hy.out,hu.out] at ag;have Z:=ag.2 (by rw [o.out.len];exact ae) he;have am:=za Z;have ar:=(D.stored j (.int .i64 (u:Nat))).1;rw [← zhg] at ar;have a3:=D.frozenAt j;clear ag Z he;go_wp2_with fail
        go_roundw
        case rel=>exact⟨true,k+1,v.set j u,rfl,gM,oM,za ab.out,za ⟨by have:=am.out;have:=r.out.1;omega,fun _=>by have:=am.out;have:=r.out.1;omega⟩,za (fun h=>by cases h),ar,Y.trans (eB _ g j _)⟩
        case measure=>simp [intOf];omega
      ·go_wp2_with fail
       go_roundw
       case rel=>exact⟨C,i+1,v,rfl,gM,oM,o,r,za (fun h i' l hi' X=>by
        rcases fC (gD hi') with h1|rfl
        ·exact (f.out h).1 i' l h1 X
        ·obtain⟨k',V⟩:=eU ((H.out l).2 X);exact (f.out h).2 k' l (by have:=(List.getElem?_eq_some_iff.1 V).1;omega) V),zkf,t⟩
       case measure=>simp [intOf];omega
    ·go_wp2_with fail
     have af:=za (memT_own zkf o.out.len);go_roundw
     case rel=>exact⟨C,v,rfl,o,za (fun h i l hi X=>f.out h i l oM X),zkf,t⟩
     case measure =>
      rw [aq.out,af.out];have h1:=r.out;cases C
      ·simp;omega
      ·have:=h1.2 rfl
       simp;omega
end
def RetSt (N:Nat) (Q:Nat->Nat->Prop) (w:World) (e:Ending) (w':World):Prop:=
 ∃ (T:List Nat) (g c:Nat),e=.returned (.slice (some g) N c)∧w'.ownsRow w.heap.size 3 1 (.slice (some g) N c) N (zac T)∧zbr T N Q∧Ext w w'
def mset (s:Sys) (x l:Nat):Nat:=if s.al.toNat.testBit l then zcj s.edges x (l:Int) else x
theorem mset_bit (hs:Sml s) (x l q':Nat):(mset s x l).testBit q'=true↔∃ q,x.testBit q=true∧q'∈cho s q l:=by
 unfold mset;split
 ·rename_i h;exact zhn hs h x q'
 ·rename_i h;constructor
  ·intro h1;exact⟨q',h1,by unfold cho;rw [if_neg h];simp⟩
  ·rintro ⟨q,h1,h2⟩;unfold cho at h2;rw [if_neg h] at h2;simp at h2;rw [h2];exact h1
theorem mset_lt (hs:Sml s) (hx:x<65536) (l:Nat):mset s x l<65536:=by
 unfold mset;split
 ·exact zgA hs _ _
 ·exact hx
structure MvI (s:Sys) (p:Aut) (l N:Nat) (T:List Nat) (k:Nat) (O:List Nat):Prop where
 len:O.length=N
 lt:∀ x∈O,x<65536
 bit:∀ j q',zdJ O j q'↔∃ i q,i<k∧zdJ T i q∧q'∈cho s q l∧j=aGo p i l
theorem MvI.step (h:MvI s p l N T k O)(hs:Sml s)(hp:zj p=true)(hN:N=p.next.length)(hT:∀ x∈T,x<65536)(hk:k<N)(hl:l<6) :
  MvI s p l N T (k+1) (O.set (aGo p k l) (O.getD (aGo p k l) 0|||mset s (T.getD k 0) l)):=by
 have a:aGo p k l<O.length:=by rw [h.len,hN];exact zer hp oM hl
 refine⟨by rw [gU];exact h.len,fun x hx=>?_,fun j q'=>?_⟩
 ·rcases gL hx with hx|rfl
  ·exact h.lt x hx
  ·exact e7 (n:=16) (zbK h.lt _) (mset_lt hs (zbK hT _) _)
 ·rw [zcP a,h.bit,mset_bit hs];constructor
  ·rintro (⟨i,q,h1,h2,h3,h4⟩|⟨h1,q,h2,h3⟩)
   ·exact⟨i,q,oM,h2,h3,h4⟩
   ·exact⟨k,q,oM,h2,h3,h1⟩
  ·exact yY07a3
theorem MvI.zero (s:Sys) (p:Aut) (l N:Nat) (T:List Nat):MvI s p l N T 0 (eQ N 0):=by
 refine⟨sM,fun x hx=>by rw [jO] at hx;omega,fun j q'=>?_⟩;constructor
 ·intro h;unfold zdJ at h;rw [eE] at h;cases h1:(eQ N 0)[j]? with
  |none=>rw [h1] at h;simp at h
  |some x =>
   have:=dG h1;rw [jO] at this;rw [h1,this.2] at h;simp at h
 ·rintro ⟨_,_,h,_⟩;omega
theorem MvI.fin {B:Nat->Nat->Prop}(h:MvI s p l N T N O)(hT:zbr T N B):zbr O N (mvB s p l B):=by
 refine⟨h.len,h.lt,fun j q'=>?_⟩;rw [h.bit];constructor
 ·rintro ⟨i,q,h1,h2,h3,h4⟩;exact⟨q,i,(hT.2.2 i q).1 h2,h3,h4⟩
 ·rintro ⟨q,i,h2,h3,h4⟩;have a:=(hT.2.2 i q).2 h2;exact⟨i,q,by rw [← hT.1];exact zht a,a,h3,h4⟩
def badT (p:Aut) (T:List Nat) (N:Nat):Bool:=(List.range N).any fun i=>T.getD i 0 != 0&&!zct p i
theorem zjm :badT p T N=true↔∃ i,i<N∧T.getD i 0≠0∧zct p i=false:=by
 unfold badT;rw [List.any_eq_true];constructor
 ·rintro ⟨i,h1,h2⟩;rw [List.mem_range] at h1;simp only [eD,bne_iff_ne,iR] at h2;exact⟨i,h1,h2.1,h2.2⟩
 ·rintro ⟨i,h1,h2,h3⟩;exact⟨i,List.mem_range.2 h1,by simp [h3];simpa using h2⟩
section
variable {w:World} {lo hi n c m d m' d' L:Nat} {A B B':Option Addr} {s:Sys} {p:Aut}
theorem spec_l9Start (hS:zV w lo hi A n s)(hP:zF w lo hi B m B' m' p)(hv:zk s=true)(hp:zj p=true)(hL:L<64)(hhi:hi<=w.heap.size)(hN:N=p.next.length) :
  Calls Tryz.prog 147 #[.agg #[s.al,s.st,.slice A n c,p.al,.slice B m d,.slice B' m' d',L]] w (RetSt N (PR s p L []) w):=by
 have M:m=N:=hP.n1.trans hN.symm;subst M;have g:1<=m∧m<=12:=by have:=(zl hp).2.1;omega
 have F:=za (fun W (hW:Ext w W)=>hS.ext hW);have E:=za (fun W (hW:Ext w W)=>hP.ext hW);have D:=za hN;clear hS hP hN
 go_enter Tryz.func147,Tryz.ntmps147
 go_upto_region 1 with fail
 generalize U0:w.alloc _=l at *;obtain⟨a,r⟩:=iK U0;have H:=r.lt;clear U0;have C:=r.cell;go_upto_region 2 with (at_make;refine zbS l l rfl _ _ 110 rfl 3 _ 1 8 Tryz.underlying110 zae _ _ m rfl rfl (dE _) oM lM ?_;intro w2 hx2 zkp hx23 hsz2)
 rw [madeZ] at zkp;have j:=(zkp.stored 0 (.int .i64 1)).1;rw [show (zac (eQ m 0)).set 0 (.int .i64 1)=zac ((eQ m 0).set 0 1) from (zhg (i:=0) (v:=1) (R:=eQ m 0)).symm] at j;have J:=zkp.frozenAt 0;have I:=zdd zkp (show 0<m by omega);have f:=(a.trans hx2).setCell (p:=⟨l.heap.size,0,none⟩) a.size (.int .i64 1);have z:=(r.ext hx2).far (p:=⟨l.heap.size,0,none⟩) (by dsimp only;omega) (.int .i64 1);have G:(0:Int)<(m:Int):=oM;clear C;have C:=z.cell;have Q:=za (fun o (hT':zbr o m (fun q i=>q=0∧i=0))=>hT');have u:=F.out _ f;have t:=E.out _ f;have x:=zid g.1;have O:=a.size;clear hx23;go_wp2_with fail
 refine (zgM (c:=c) (d:=d) (d':=d') u t hv hp hL D.out oM j x).mono ?_;rintro e S ⟨o,rfl,b,y,h⟩;go_wp2_with fail
 go_ret;exact⟨o,l.heap.size,m,rfl,zq b a.size,y,f.frm h (fun k hk e=>oM)⟩
theorem spec_l9Move {Q:Nat->Nat->Prop}(hS:zV w lo hi A n s)(hP:zF w lo hi B m B' m' p)(hv:zk s=true)(hp:zj p=true)(hL:L<64)(hhi:hi<=w.heap.size)(hN:N=p.next.length)(hl:l<6)
  (zkf:w.ownsRow b0 3 1 (.slice (some g0) N c0) N (zac T)) (hT:zbr T N Q) :
  Calls Tryz.prog 149 #[.agg #[s.al,s.st,.slice A n c,p.al,.slice B m d,.slice B' m' d',L],.slice (some g0) N c0,l] w (RetSt N (Cl s p L (mvB s p l Q)) w):=by
 have D:=zck hv;obtain⟨aD,aE⟩:=zG hv;obtain⟨al,C⟩:∃ al:Nat,Hid (s.al=al):=⟨s.al.toNat,by unfold Hid;omega⟩;have am:al<64:=oH C.out;have U:=za (show s.al.toNat=al by have:=C.out;omega);have au:1<=N∧N<=12:=by have:=(zl hp).2.1;omega
 have HS:=za (fun W (hW:Ext w W)=>hS.ext hW);have HP:=za (fun W (hW:Ext w W)=>hP.ext hW);have J:=za hN;have HT:=za hT;have aG:=(zkf.lt g0 rfl).2;clear hS hP hN hT
 go_enter Tryz.func149,Tryz.ntmps149
 go_upto_region 1 with fail
 generalize U0:w.alloc _=w1 at *;obtain⟨V,b1⟩:=iK U0;have aF:=b1.lt;clear U0;go_wp2_with (at_make;refine zbS w1 w1 rfl _ _ 110 rfl 3 _ 1 8 Tryz.underlying110 zae _ _ N rfl rfl (dE _) oM lM ?_;intro w2 hx2 zkp hx23 hsz2)
 rw [madeZ] at zkp;have ax:=V.size;have ap:=V.trans hx2;clear hx23;obtain⟨r,S⟩:∃ r,r=w1.heap.size:=⟨_,rfl⟩;rw [← S] at zkp ⊢;have aC:w.heap.size<r:=oM;clear S
 go_loopw [8] (fun iv wr=>∃ (i:Nat) (O:List Nat),iv=.int .i64 i∧i<=N∧Hid (MvI s p l N T i O)∧wr.ownsRow r 3 1 (.slice (some r) N N) N (zac O)∧Frm (fun k=>k=r) w2 wr) (fun iv _=>N - (intOf iv).toNat)
 case atStart=>exact⟨0,_,rfl,eC _,za (MvI.zero s p l N T),zkp,Frm.refl _ _⟩
 case round =>
  clear zkp;obtain⟨i,O,rfl,hi,hO,f,t⟩:=hrel;have h:Ext w wr:=ap.frm t (fun k hk e=>oM);have k1:=((b1.ext hx2).frm t oM).cell
  by_cases hlt:i<N
  ·have aw:(i:Int)<(N:Int):=oM;have cI:=zdd (zh zkf h) hlt;obtain⟨x,hx⟩:∃ x,Hid (T.getD i 0=x):=⟨_,rfl⟩;have X:x<65536:=by rw [← hx.out];exact zbK HT.out.2.1 i
   rw [hx.out] at cI;have CB:∀ W,Ext wr W->∀ q,W.cell? ⟨w.heap.size,q,none⟩=#[Value.int .i64 al,.int .i64 s.st,.slice A n c,.int .i64 p.al,.slice B m d,.slice B' m' d',.int .i64 L][q]?:=fun W hW q=>by rw [(((b1.ext hx2).frm t oM).ext hW).cell,C.out]
   have CI:∀ W,Ext wr W->W.cell? ⟨g0,i,none⟩=some (.int .i64 (x:Nat)):=fun W hW=>hW.aa cI;obtain⟨j,hj⟩:∃ j,Hid (aGo p i l=j):=⟨_,rfl⟩;have an:j<N:=by rw [← hj.out,J.out];exact zer hp (by rw [← J.out];exact hlt) hl
   have av:(j:Int)<(N:Int):=oM;obtain⟨v,H⟩:∃ v,Hid (O.getD j 0=v):=⟨_,rfl⟩;obtain⟨y,hy⟩:∃ y,Hid (mset s x l=y):=⟨_,rfl⟩;obtain⟨u,hu⟩:∃ u,Hid (v|||y=u):=⟨_,rfl⟩;have az:v<65536:=by rw [← H.out];exact zbK hO.out.lt j
   have aA:y<65536:=by rw [← hy.out];exact mset_lt D X l
   have ao:=zbb (a:=v) (b:=y) tM tM;rw [hu.out] at ao;have CJ:∀ W,Ext wr W->W.cell? ⟨r,j,none⟩=some (.int .i64 (v:Nat)):=fun W hW=>hW.aa (H.out ▸ zdd f an);have FJ:∀ W,Ext wr W->W.frozen? ⟨r,j,none⟩=false:=fun W hW=>(zh f hW).frozenAt j;have g:=hO.out.step D hp J.out HT.out.2.1 hlt hl;rw [hj.out,H.out,hx.out,hy.out,hu.out] at g;have o:=za g;have M:=za (fun W (hW:Ext wr W)=>((zh f hW).stored j (.int .i64 (u:Nat))).1);have aH:=dE wr;clear g k1 cI;cases hb:al.testBit l
   ·have Hb:=za hb;have I:x=y:=by rw [← hy.out];unfold mset;rw [U.out,hb];rfl
    subst I;clear hb;go_wp2_with (first
     |(go_at_call 143;refine (zaq al l tM _ oM).mono ?_;rw [Hb.out];rintro e w' ⟨rfl,rfl⟩)
     |(go_at_call 225;refine (zdU (HP.out _ h) hp (by rw [← J.out];exact hlt) hl).mono ?_;rw [hj.out];rintro e w4 ⟨rfl,E⟩))
    have z:=M.out w4 E;rw [← zhg] at z;go_roundw
    case rel=>exact⟨i+1,O.set j u,gM,oM,o,z,(t.ext E).trans (eB _ r j _)⟩
    case measure=>simp [intOf];omega
   ·have Hb:=za hb;have I:Hid (zcj s.edges x (l:Int)=y):=by unfold Hid;rw [← hy.out];unfold mset;rw [U.out,hb];rfl
    clear hb;go_wp2_with (first
     |(go_at_call 143;refine (zaq al l tM _ oM).mono ?_;rw [Hb.out];rintro e w' ⟨rfl,rfl⟩)
     |(go_at_call 224;rw [← C.out];refine (zhZ (c:=c) (k0:=s.st.toNat) (HS.out _ h) D.2.2.1 (oH D.2.1) tM).mono ?_;rw [I.out];rintro e w3 ⟨rfl,Y⟩;have Z:=h.trans Y)
     |(go_at_call 225;refine (zdU (HP.out _ Z) hp (by rw [← J.out];exact hlt) hl).mono ?_;rw [hj.out];rintro e w4 ⟨rfl,E⟩;have F:=Y.trans E))
    have z:=M.out w4 F;rw [← zhg] at z;go_roundw
    case rel=>exact⟨i+1,O.set j u,gM,oM,o,z,(t.ext F).trans (eB _ r j _)⟩
    case measure=>simp [intOf];omega
  ·obtain rfl:i=N:=oM;have zki:=hO.out.fin HT.out;go_wp2_with fail
   refine (zgM (c:=c) (d:=d) (d':=d') (HS.out _ h) (HP.out _ h) hv hp hL J.out oM f zki).mono ?_;rintro e w4 ⟨T',rfl,G,ak,R⟩;go_wp2_with fail
   go_ret;exact⟨T',r,i,rfl,zq G oM,ak,h.frm R (fun k hk e=>oM)⟩
end
noncomputable def zo (s:Sys) (p:Aut) (L:Nat) (t:ByteArray):Bool:=by
 classical exact inB t L&&decide (SafeW s p L (wl t))
theorem zeH {L:Nat} {t:ByteArray}:zo s p L t=true↔inB t L=true∧SafeW s p L (wl t):=by
 unfold zo;simp
section
variable {w:World} {lo hi n c m d m' d' L:Nat} {A B B':Option Addr} {s:Sys} {p:Aut}
theorem spec_l9Bad (hP:zF w lo hi B m B' m' p)(hp:zj p=true)(hN:N=p.next.length)
  (zkf:w.ownsRow b0 3 1 (.slice (some g0) N c0) N (zac T)) :
  Calls Tryz.prog 148 #[.agg #[s.al,s.st,.slice A n c,p.al,.slice B m d,.slice B' m' d',L],.slice (some g0) N c0] w fun e w'=>e=.returned (.bool (badT p T N))∧Ext w w':=by
 have o:1<=N∧N<=12:=by have:=(zl hp).2.1;omega
 have k:m'=N:=by rw [hP.n2,(zl hp).2.2.1,hN]
 have u:=za (fun W (hW:Ext w W) q hq=>zfH (q:=q) (hP.ext hW) hq);obtain⟨t,U0⟩:∃ x,Hid (w.alloc (.cells #[s.al,s.st,.slice A n c,p.al,.slice B m d,.slice B' m' d',L] 70)=x):=⟨_,za rfl⟩;have b:Ext w t:=((dE _).alloc _).trans (Ext.eq_ U0.out);have v:=eS U0.out;subst k;clear hP hN
 go_enter Tryz.func148,Tryz.ntmps148
 go_upto_region 1 with fail
 rw [U0.out] at *;have D:=v.cell;go_wp2_with fail
 go_loop [5] (fun iv=>∃ i:Nat,iv=.int .i64 i∧i<=m'∧Hid (∀ j,j<i->T.getD j 0=0∨zct p j=true)) (fun iv=>m' - (intOf iv).toNat)
 case atStart=>exact⟨0,rfl,eC _,za (fun j h=>oM)⟩
 case round =>
  obtain⟨i,rfl,hi,a⟩:=hrel
  by_cases hlt:i<m'
  ·have r:(i:Int)<(m':Int):=oM;obtain⟨C,rfl,l⟩:=u.out t b i hlt;have y:=zdd (zh zkf b) hlt;obtain⟨x,hx⟩:∃ x,Hid (T.getD i 0=x):=⟨_,rfl⟩;rw [hx.out] at y
   by_cases h0:x=0
   ·subst h0;go_wp2_with fail
    go_round
    case rel=>exact⟨i+1,gM,oM,za (fun j hj=>by
     rcases fC (gD hj) with h1|rfl
     ·exact a.out j h1
     ·exact .inl hx.out)⟩
    case measure=>simp [intOf];omega
   ·have z:((x:Int) != 0)=true:=by simp;omega
    cases zkg:zct p i
    ·have g:=za (show badT p T m'=true from zjm.2 ⟨i,hlt,by rw [hx.out];exact h0,zkg⟩);rw [zkg] at l;clear zkg h0;go_wp2_with fail
     go_ret;exact⟨zu (by rw [g.out]),b⟩
    ·have f:=za zkg;rw [zkg] at l;clear zkg h0;go_wp2_with fail
     go_round
     case rel=>exact⟨i+1,gM,oM,za (fun j hj=>by
      rcases fC (gD hj) with h1|rfl
      ·exact a.out j h1
      ·exact .inr f.out)⟩
     case measure=>simp [intOf];omega
  ·obtain rfl:i=m':=oM;have g:=za (show badT p T i=false by
    rw [fT];intro h;obtain⟨j,h1,h2,h3⟩:=zjm.1 h;rcases a.out j h1 with h4|h4
    ·exact h2 h4
    ·rw [h3] at h4;cases h4)
   go_wp2_with fail
   go_ret;exact⟨zu (by rw [g.out]),b⟩
theorem zfl (hS:zV w lo hi A n s)(hP:zF w lo hi B m B' m' p)(hv:zk s=true)(hp:zj p=true)(hL:L<64) :
  Calls Tryz.prog 145 #[.agg #[s.al,s.st,.slice A n c,p.al,.slice B m d,.slice B' m' d',L]] w fun e w'=>e=.returned (.bool true)∧Ext w w':=by
 have j:=za (fun W (hW:Ext w W)=>zat (c:=c) (hS.ext hW));have i:=za (fun W (hW:Ext w W)=>zQ _ _ _ _ d _ _ d' _ _ (hP.ext hW));rw [hv] at j;rw [hp] at i;have g:=za (show (decide ((0:Int)<=L∧(L:Int)<=63))=true by simp;omega);clear hS hP hv hp
 go_enter Tryz.func145,Tryz.ntmps145
 go_upto_region 1 with fail
 generalize U0:w.alloc _=o at *;obtain⟨a,k⟩:=iK U0;clear U0;have q:=k.cells;have l:=dE o;go_wp2_with (first
  |(go_at_call 185;refine (j.out _ a).mono (mQ fun r b=>?_))
  |(go_at_call 79;refine (i.out _ (a.trans b)).mono (mQ fun t h=>?_);have f:=b.trans h)
  |(go_at_call 142;refine (zS _ _).mono ?_;rw [g.out];rintro e u ⟨rfl,rfl⟩))
 go_ret;exact⟨rfl,a.trans f⟩
theorem zjn (h:zbr T N (PR s p L (v.take k))):badT p T N=true↔Bad s p L (v.take k):=zjm.trans (stand_bad h).symm
theorem zej {t:ByteArray}(hS:zV w lo hi A n s)(hP:zF w lo hi B m B' m' p)(hv:zk s=true)(hp:zj p=true)(hL:L<64)(hhi:hi<=w.heap.size)(ht:t.size<=9223372036854775807) :
  Calls Tryz.prog 62 #[.agg #[s.al,s.st,.slice A n c,p.al,.slice B m d,.slice B' m' d',L],t] w fun e w'=>e=.returned (.bool (zo s p L t))∧Ext w w':=by
 obtain⟨N,Y⟩:∃ N,Hid (N=p.next.length):=⟨_,rfl⟩;have HV:=za (fun W (hW:Ext w W)=>zfl (c:=c) (d:=d) (d':=d') (L:=L) (hS.ext hW) (hP.ext hW) hv hp hL);have U:=za (fun W (hW:Ext w W)=>spec_l9Start (c:=c) (d:=d) (d':=d') (L:=L) (N:=N) (hS.ext hW) (hP.ext hW) hv hp hL (eI hhi hW.size) Y.out);have R:=za (fun (g0 z c0:Nat) (T:List Nat) W (hW:Ext w W) (ho:W.ownsRow z 3 1 (.slice (some g0) N c0) N (zac T))=>spec_l9Bad (A:=A) (n:=n) (c:=c) (d:=d) (d':=d') (L:=L) (s:=s) (hP.ext hW) hp Y.out ho);have HM:=za (fun (l g0 z c0:Nat) (T:List Nat) (Q:Nat->Nat->Prop) W (hW:Ext w W) (I:l<6) (ho:W.ownsRow z 3 1 (.slice (some g0) N c0) N (zac T)) (u:zbr T N Q)=>spec_l9Move (c:=c) (d:=d) (d':=d') (L:=L) (hS.ext hW) (hP.ext hW) hv hp hL (eI hhi hW.size) Y.out I ho u);have a:Ext w (w.alloc (.cells #[s.al,s.st,.slice A n c,p.al,.slice B m d,.slice B' m' d',L] 70)):=(dE _).alloc _;have b1:=Blk.new w 70 #[s.al,s.st,.slice A n c,p.al,.slice B m d,.slice B' m' d',L];clear hS hP;cases hin:inB t L
 ·have r:=za hin;have zki:=za (show zo s p L t=false by rw [fT];intro h;have:=(zeH.1 h).1;rw [hin] at this;cases this);clear hin
  go_enter Tryz.func62,Tryz.ntmps62
  go_upto_region 1 with fail
  generalize w.alloc _=O at *;have CB:=b1.cells;have ae:=dE O;go_wp2_with (first
   |(go_at_call 145;refine (HV.out _ a).mono (mQ fun w2 o=>?_))
   |(go_at_call 146;refine (zaY ht oM).mono ?_;rw [r.out];rintro e w3 ⟨rfl,rfl⟩))
  go_ret;exact⟨zu (by rw [zki.out]),a.trans o⟩
 ·have r:=za hin;have X:=za (fun k Z=>zaQ (zaT hin) (k:=k) Z);clear hin
  go_enter Tryz.func62,Tryz.ntmps62
  go_upto_region 1 with fail
  generalize w.alloc _=O at *;have CB:=b1.cells;have ae:=dE O;go_wp2_with (first
   |(go_at_call 145;refine (HV.out _ a).mono (mQ fun w2 o=>?_))
   |(go_at_call 146;refine (zaY ht oM).mono ?_;rw [r.out];rintro e w3 ⟨rfl,rfl⟩)
   |(go_at_call 147;refine (U.out _ (a.trans o)).mono ?_;rintro e w4 ⟨T,g,F,rfl,zkf,u,M⟩;have y:=o.trans M))
  go_loopw [5,6] (fun v iv wr=>∃ (k g z F:Nat) (T:List Nat),iv=.int .i64 k∧k<=t.size∧v=.slice (some g) N F∧wr.ownsRow z 3 1 (.slice (some g) N F) N (zac T)∧Hid (zbr T N (PR s p L ((wl t).take k)))∧Hid (∀ j,j<k->¬ Bad s p L ((wl t).take j))∧Ext O wr) (fun _ iv _=>t.size - (intOf iv).toNat)
  case atStart=>exact⟨0,g,_,F,T,rfl,eC _,rfl,zkf,za (by simpa using u),za (fun j h=>oM),y⟩
  case round =>
   clear zkf u o M y;obtain⟨k,g,z,F,T,rfl,Z,rfl,zkf,u,i,b⟩:=hrel
   by_cases hlt:k<t.size
   ·have ai:(k:Int)<(t.size:Int):=oM;obtain⟨l,I⟩:∃ l:Nat,Hid ((t[k].toNat:Int) - 97=l):=⟨t[k].toNat - 97,by unfold Hid;have:=X.out k hlt;omega⟩;have aa:l<6:=by have:=I.out;have:=X.out k hlt;omega
    have ad:=za (show (wl t).take (k+1)=(wl t).take k++[l] by rw [eG,zev hlt,e8,show t[k].toNat - 97=l by have:=I.out;have:=X.out k hlt;omega]);cases hbad:badT p T N
    ·have f:=za hbad;have ab:=za (show ¬ Bad s p L ((wl t).take k) by rw [← zjn u.out,hbad];decide);clear hbad;go_wp2_with (first|(go_at_call 148;refine (R.out _ _ _ _ _ (a.trans b) zkf).mono ?_;rw [f.out];rintro e w5 ⟨rfl,x⟩;have q:=b.trans x))
     have G:=za (fun W (hW:Ext wr W)=>HM.out l g z F T _ W ((a.trans b).trans hW) aa (zh zkf hW) u.out);have S:=fun W (hW:Ext wr W)=>CB W (b.trans hW)
     go_region_held3 (fun W=>Ext wr W) (first|assumption|(refine gG ?_;assumption)|(refine fI ?_ aM;assumption)|(refine fI ?_ aM;refine gG ?_;assumption)) (first
      |(go_at_call 144;refine (zbC t k hlt _).mono ?_;rw [I.out];rintro e w6 ⟨rfl,rfl⟩)
      |(go_at_call 149;refine (G.out _ ?_).mono ?_;(first|assumption|(refine gG ?_;assumption));rintro e w7 ⟨T7,g7,c7,rfl,D,C,aq⟩))
     have J:Ext O w7:=b.trans aM;rw [← PR_snoc,← ad.out] at C;have V:=za C;clear C G S;go_wp2_with fail
     go_roundw
     case rel=>exact⟨k+1,g7,_,c7,T7,gM,oM,rfl,D,V,za (fun j hj=>by
      rcases fC (gD hj) with h1|rfl
      ·exact i.out j h1
      ·exact ab.out),J⟩
     case measure=>simp [intOf];omega
    ·have f:=za hbad;have zki:=za (show zo s p L t=false by
      rw [fT];intro h;exact (zeH.1 h).2 k (by rw [zgh];omega) ((zjn u.out).1 hbad))
     clear hbad;go_wp2_with (first
      |(go_at_call 148;with_reducible refine (R.out _ _ _ _ _ (a.trans b) zkf).mono ?_;rw [f.out];rintro e w5 ⟨rfl,x⟩;have q:=b.trans x)
      |(go_at_call 148;refine (R.out _ _ _ _ _ (a.trans q) (zh zkf x)).mono ?_;rw [f.out];rintro e w6 ⟨rfl,E⟩))
     go_ret;exact⟨zu (by rw [zki.out]),a.trans (q.trans E)⟩
   ·have H:k=t.size:=oM;have ap:(t.size:Int)<=(k:Int):=oM;have zki:=za (show zo s p L t=!badT p T N by
     rw [jC,zeH,iR,← Bool.not_eq_true,zjn u.out];constructor
     ·intro h;exact h.2 k (by rw [zgh];omega)
     ·intro h;refine⟨r.out,fun j hj=>?_⟩;rw [zgh] at hj;rcases fC hj with h1|rfl
      ·exact i.out j oM
      ·rw [H] at h;exact h)
    clear H hlt Z;go_wp2_with (first
     |(go_at_call 148;refine (R.out _ _ _ _ _ (a.trans b) zkf).mono (mQ fun w6 E=>?_)))
    go_ret;exact⟨zu (by rw [zki.out]),a.trans (b.trans E)⟩
end
def RetNumS (w:World) (e:Ending) (w':World):Prop:=∃ (n:Int) (ok:Bool),e=.returned (.tuple #[n,.bool ok])∧w=w'
theorem zel {s:ByteArray} (hs:s.size<=1000000) :
  Calls Tryz.prog 258 #[s] w (RetNumS w):=by
 by_cases h0:s.size=0
 ·have c:¬ 0<s.size:=oM
  go_enter Tryz.func258,Tryz.ntmps258
  go_wp2;go_ret2;exact⟨0,false,rfl,rfl⟩
 have c:0<s.size:=oM;cases hm:((s[0].toNat:Int)==45)
 ·have m:0<s.size:=c
  by_cases z0:s.size=0
  ·go_enter Tryz.func258,Tryz.ntmps258
   go_wp2;go_ret2;exact⟨0,false,rfl,rfl⟩
  have q:0<s.size:=oM;have f:((s.size:Int)==0)=false:=by rw [beq_eq_false_iff_ne];omega
  by_cases z2:17<s.size
  ·have a:(17:Int)<(s.size:Int):=oM
   go_enter Tryz.func258,Tryz.ntmps258
   go_wp2;go_ret2;exact⟨0,false,rfl,rfl⟩
  have a:(s.size:Int)<=17:=oM;cases z3:((s[0].toNat:Int)==48)
  ·go_enter Tryz.func258,Tryz.ntmps258
   go_wp2_with fail
   go_loop [5,6] (fun v i=>∃ (k:Nat) (n:Int),k<=s.size∧i=.int .i64 k∧v=.int .i64 n) (fun _ i=>s.size - (intOf i).toNat)
   case atStart=>exact⟨0,0,eC _,rfl,rfl⟩
   case round =>
    obtain⟨k,n,h,rfl,rfl⟩:=hrel
    by_cases hlt:k<s.size
    ·have g:=zcG s k hlt
     by_cases c0:(s[k].toNat:Int)<48
     ·go_wp2_with fail
      go_ret2;exact⟨0,false,rfl,rfl⟩
     ·by_cases c1:57<(s[k].toNat:Int)
      ·go_wp2_with fail
       go_ret2;exact⟨0,false,rfl,rfl⟩
      ·go_wp2_with fail
       go_round
       case rel=>exact⟨k+1,_,oM,gM,rfl⟩
       case measure=>simp [intOf];omega
    ·obtain rfl:k=s.size:=oM;go_wp2_with fail
     go_ret2;exact⟨_,true,rfl,rfl⟩
  ·by_cases z4:1<s.size
   ·have b:(1:Int)<(s.size:Int):=oM
    go_enter Tryz.func258,Tryz.ntmps258
    go_wp2;go_ret2;exact⟨0,false,rfl,rfl⟩
   ·have b:(s.size:Int)<=1:=oM
    go_enter Tryz.func258,Tryz.ntmps258
    go_wp2_with fail
    go_loop [5,6] (fun v i=>∃ (k:Nat) (n:Int),k<=s.size∧i=.int .i64 k∧v=.int .i64 n) (fun _ i=>s.size - (intOf i).toNat)
    case atStart=>exact⟨0,0,eC _,rfl,rfl⟩
    case round =>
     obtain⟨k,n,h,rfl,rfl⟩:=hrel
     by_cases hlt:k<s.size
     ·have g:=zcG s k hlt
      by_cases c0:(s[k].toNat:Int)<48
      ·go_wp2_with fail
       go_ret2;exact⟨0,false,rfl,rfl⟩
      ·by_cases c1:57<(s[k].toNat:Int)
       ·go_wp2_with fail
        go_ret2;exact⟨0,false,rfl,rfl⟩
       ·go_wp2_with fail
        go_round
        case rel=>exact⟨k+1,_,oM,gM,rfl⟩
        case measure=>simp [intOf];omega
     ·obtain rfl:k=s.size:=oM;go_wp2_with fail
      go_ret2;exact⟨_,true,rfl,rfl⟩
 ·obtain⟨y,o⟩:∃ y,s.extract 1 s.size=y:=⟨_,rfl⟩;have d:y.size=s.size - 1:=by rw [← o,ByteArray.size_extract];omega
  have p:y.size<=1000000:=oM;have j:=za d;clear d;have l:(1:Int)<=(s.size:Int):=oM
  by_cases z0:y.size=0
  ·go_enter Tryz.func258,Tryz.ntmps258
   go_wp2;go_ret2;exact⟨0,false,rfl,rfl⟩
  have q:0<y.size:=oM;have f:((y.size:Int)==0)=false:=by rw [beq_eq_false_iff_ne];omega
  by_cases z2:17<y.size
  ·have a:(17:Int)<(y.size:Int):=oM
   go_enter Tryz.func258,Tryz.ntmps258
   go_wp2;go_ret2;exact⟨0,false,rfl,rfl⟩
  have a:(y.size:Int)<=17:=oM;cases z3:((y[0].toNat:Int)==48)
  ·go_enter Tryz.func258,Tryz.ntmps258
   go_wp2_with fail
   go_loop [5,6] (fun v i=>∃ (k:Nat) (n:Int),k<=y.size∧i=.int .i64 k∧v=.int .i64 n) (fun _ i=>y.size - (intOf i).toNat)
   case atStart=>exact⟨0,0,eC _,rfl,rfl⟩
   case round =>
    obtain⟨k,n,h,rfl,rfl⟩:=hrel
    by_cases hlt:k<y.size
    ·have g:=zcG y k hlt
     by_cases c0:(y[k].toNat:Int)<48
     ·go_wp2_with fail
      go_ret2;exact⟨0,false,rfl,rfl⟩
     ·by_cases c1:57<(y[k].toNat:Int)
      ·go_wp2_with fail
       go_ret2;exact⟨0,false,rfl,rfl⟩
      ·go_wp2_with fail
       go_round
       case rel=>exact⟨k+1,_,oM,gM,rfl⟩
       case measure=>simp [intOf];omega
    ·obtain rfl:k=y.size:=oM;go_wp2_with fail
     go_ret2;exact⟨_,true,rfl,rfl⟩
  ·by_cases z4:1<y.size
   ·have b:(1:Int)<(y.size:Int):=oM
    go_enter Tryz.func258,Tryz.ntmps258
    go_wp2;go_ret2;exact⟨0,false,rfl,rfl⟩
   ·have b:(y.size:Int)<=1:=oM
    go_enter Tryz.func258,Tryz.ntmps258
    go_wp2;go_ret2;exact⟨0,false,rfl,rfl⟩
theorem zt:(Tryz.prog.info? 9).map (fun i=>(i.zero,i.size,i.bytes))=some (some (.string ⟨#[]⟩),1,16):=kM
def RetStrs (L N:Nat) (w:World) (e:Ending) (w':World):Prop:=∃ (A:Option Addr) (n c:Nat) (l:List ByteArray),e=.returned (.slice A n c)∧n=l.length∧w'.ownsRow w.heap.size 9 1 (.slice A n c) n (zM l)∧(∀ x∈l,x.size<=L)∧n<=N∧Ext w w'
theorem zcz (x:ByteArray):∀ u∈(#[Value.string x]:Array Value).toList,u.oneCell'=true:=by simp [Value.oneCell']
theorem spec_l19Cut {s:ByteArray} (hs:s.size<=1000000) :
  Calls Tryz.prog 250 #[s,.int .u8 32] w (RetStrs s.size (s.size+1) w):=by
 go_enter Tryz.func250,Tryz.ntmps250
 go_wp2_with fail
 go_loopw [5,6,7] (fun v f i wr=>∃ (k m:Nat) (l:List ByteArray),k<=s.size+1∧i=.int .i64 k∧m<=k∧f=.int .i64 m∧l.length<=k∧wr.ownsRow w.heap.size 9 1 v l.length (zM l)∧Hid (∀ x∈l,x.size<=s.size)∧Ext w wr) (fun _ _ i _=>s.size+1 - (intOf i).toNat)
 case atStart=>exact⟨0,0,[],eC _,rfl,dI _,rfl,dI _,World.ownsRow_lit w #[] 0 (dI _) lM rfl,(fun x hx=>by cases hx),(dE _).alloc _⟩
 case round =>
  obtain⟨k,m,l,r,rfl,u,rfl,t,zkf,d,a⟩:=hrel
  by_cases hle:k<=s.size
  ·have n:(k:Int)<=(s.size:Int):=oM;have o:(m:Int)<=(k:Int):=oM;have h:=za (show (s.extract m k).size<=s.size by rw [ByteArray.size_extract];omega);have b:=za (show ∀ x∈l++[s.extract m k],x.size<=s.size from fun x hx=>by
    rcases List.mem_append.1 hx with h1|h1
    ·exact d.out x h1
    ·rw [List.mem_singleton.1 h1];exact h.out)
   by_cases he:k=s.size
   ·have g:((k:Int)==(s.size:Int))=true:=by simp [he]
    have p:=za he;clear he;go_wp2_with (at_builtin;refine zO w wr rfl _ _ _ rfl 9 _ 1 16 Tryz.underlying88 zt rfl dM u5 _ _ _ _ rfl rfl a zkf rfl (zcz _) lM oM ?_;intro v' w1 hext1 zko hg1 hat1)
    go_roundw
    case rel=>exact⟨k+1,k+1,l++[s.extract m k],oM,gM,oM,gM,by simp;omega,by simpa [zM] using zko,b.out,aM⟩
    case measure=>simp [intOf];omega
   ·have g:((k:Int)==(s.size:Int))=false:=by rw [beq_eq_false_iff_ne];omega
    have j:k<s.size:=oM;have q:=zcG s k j;cases hc:((s[k].toNat:Int)==32)
    ·go_wp2_with fail
     go_roundw
     case rel=>exact⟨k+1,m,l,oM,gM,oM,rfl,oM,zkf,d,a⟩
     case measure=>simp [intOf];omega
    ·go_wp2_with (at_builtin;refine zO w wr rfl _ _ _ rfl 9 _ 1 16 Tryz.underlying88 zt rfl dM u5 _ _ _ _ rfl rfl a zkf rfl (zcz _) lM oM ?_;intro v' w1 hext1 zko hg1 hat1)
     go_roundw
     case rel=>exact⟨k+1,k+1,l++[s.extract m k],oM,gM,oM,gM,by simp;omega,by simpa [zM] using zko,b.out,aM⟩
     case measure=>simp [intOf];omega
  ·obtain rfl:k=s.size+1:=oM;obtain⟨A,c,rfl⟩:=zi zkf;go_wp2_with fail
   go_ret;exact⟨A,_,c,l,rfl,rfl,zkf,d.out,oM,a⟩
def RetEdgeS (w:World) (e:Ending) (w':World):Prop:=∃ (x:Edg) (ok:Bool),e=.returned (.tuple #[.agg #[x.fr,x.le,x.ta],.bool ok])∧Ext w w'
theorem spec_l2Parse {s:ByteArray} (hs:s.size<=1000000) :
  Calls Tryz.prog 259 #[s] w (RetEdgeS w):=by
 go_enter Tryz.func259,Tryz.ntmps259
 go_wp2_with fail
 generalize U0:w.alloc _=q at *;have c:=Ext.al_ U0;have b:=eS U0;clear U0
 go_loop [4] (fun i=>∃ k:Nat,k<=s.size∧i=.int .i64 k) (fun i=>s.size - (intOf i).toNat)
 case atStart=>exact⟨0,eC _,rfl⟩
 case round =>
  obtain⟨k,u,rfl⟩:=hrel;have h:=b.cell;have r:=b.frozen
  by_cases hlt:k<s.size
  ·have t:=zcG s k hlt
   by_cases c0:(97:Int)<=(s[k].toNat:Int)
   ·by_cases c1:(s[k].toNat:Int)<=102
    ·have j:=za (show (s.extract 0 k).size<=1000000 by rw [ByteArray.size_extract];omega);have l:=za (show (s.extract (k+1) s.size).size<=1000000 by rw [ByteArray.size_extract];omega);have o:(k:Int)+1<=(s.size:Int):=oM;go_wp2_with fail
     refine (zel j.out).mono ?_;rintro e n ⟨f,m,rfl,rfl⟩;go_wp2_with fail
     refine (zel l.out).mono ?_;rintro e n ⟨g,d,rfl,rfl⟩;go_wp2_with fail
     refine (zbC s k hlt _).mono ?_;rintro e n ⟨rfl,rfl⟩;have zki:∀ u0 u1 u2,Ext w (((q.setCell w.heap.size u0).setCell ⟨w.heap.size,1,none⟩ u1).setCell ⟨w.heap.size,2,none⟩ u2):=fun u0 u1 u2=>((c.setCell (dI _) u0).setCell (dI _) u1).setCell (dI _) u2;have a:=za zki;clear zki;cases m
     ·go_wp2_with fail
      exact bodyPost_ret (v:=.tuple #[.agg #[f,.int .i64 ((s[k].toNat:Int) - 97),g],.bool false]) (by simp [results,Tryz.results259,go_sem,h]) rfl ⟨⟨f,(s[k].toNat:Int) - 97,g⟩,false,rfl,a.out _ _ _⟩
     ·go_wp2_with fail
      exact bodyPost_ret (v:=.tuple #[.agg #[f,.int .i64 ((s[k].toNat:Int) - 97),g],.bool d]) (by simp [results,Tryz.results259,go_sem,h]) rfl ⟨⟨f,(s[k].toNat:Int) - 97,g⟩,d,rfl,a.out _ _ _⟩
    ·go_wp2_with fail
     go_round
     case rel=>exact⟨k+1,oM,gM⟩
     case measure=>simp [intOf];omega
   ·go_wp2_with fail
    go_round
    case rel=>exact⟨k+1,oM,gM⟩
    case measure=>simp [intOf];omega
  ·obtain rfl:k=s.size:=oM;go_wp2_with fail
   refine bodyPost_ret (v:=.tuple #[.agg #[(0:Int),(0:Int),(0:Int)],.bool false]) (by simp [results,Tryz.results259,go_sem,h]) rfl ⟨⟨0,0,0⟩,false,rfl,?_⟩;exact ((c.setCell (p:=⟨w.heap.size,0,none⟩) (dI _) _).setCell (p:=⟨w.heap.size,1,none⟩) (dI _) _).setCell (p:=⟨w.heap.size,2,none⟩) (dI _) _
def RetFmt (s:Sys) (w:World) (e:Ending) (w':World):Prop:=∃ t:ByteArray,e=.returned (.string t)∧(zk s=false->t.size=0)∧Ext w w'
theorem valid_al (h:zk s=true):∃ a:Nat,s.al=a∧a<64:=by
 simp only [zk,eD,decide_eq_true_eq] at h;exact⟨s.al.toNat,oM,oM⟩
theorem zgw (h:zV w lo hi A n s)(hn:n<=1000000) :
  Calls Tryz.prog 260 #[.agg #[s.al,s.st,.slice A n c]] w (RetFmt s w):=by
 have Q:=za (fun W (hW:Ext w W)=>h.ext hW);clear h;cases h1:zk s
 ·have L:=za h1;clear h1
  go_enter Tryz.func260,Tryz.ntmps260
  go_wp2_with (go_at_call 185;refine (zat (Q.out _ ((dE _).alloc _))).mono ?_;rw [L.out];rintro e O ⟨rfl,hx⟩)
  go_ret;exact⟨_,rfl,fun _=>rfl,((dE _).alloc _).trans hx⟩
 ·obtain⟨p,hp,aw,ax,hf⟩:=zcE h1;obtain⟨a,ha,R⟩:=valid_al h1;have L:=za h1;have Hf:=za hf;have Hp:=za hp;have Ha:=za ha;clear h1 hf hp ha
  go_enter Tryz.func260,Tryz.ntmps260
  go_wp2_with fail
  refine (zat (Q.out _ ((dE _).alloc _))).mono ?_;rw [L.out];rintro e O ⟨rfl,hx⟩;have b1:=zcv hx;rw [Ha.out,Hp.out] at b1;have G:=((dE w).alloc _).trans hx;have cb:=b1.cells;go_wp2_with fail
  refine tR (fun X=>Ext O X) [] (Ord.of [0,1,4,5,2,3,6,7,8]) ?_;refine tQ ?_;refine zI fun K hK=>?_;go_simp;refine (zbO R).mono ?_;rintro e w2 ⟨j,rfl,C,m⟩;have f:=((dE O).drew).trans m;have Z:¬ 9223372036854775807<j.size+1:=oM;refine hK.out _ _ f ?_;refine pT ?_;refine tQ ?_;refine zI fun K hK=>?_;go_simp;refine (zek (n:=p) oM).mono ?_;rintro e w3 ⟨y,rfl,D,q⟩;have g:=f.trans q;have q2:¬ 9223372036854775807<j.size+1+y.size:=oM;refine hK.out _ _ g ?_;refine pT ?_;refine tQ ?_;refine zaD ?_;obtain⟨M,z⟩:∃ M:ByteArray,M=j++{ data:=#[32] }++y:=⟨_,rfl⟩;have B:M.size<=20:=by rw [z,ByteArray.size_append,ByteArray.size_append];show j.size+1+y.size<=20;omega
  rw [← z];clear z Z q2 C D m q f;have d:=g;go_wp2_with fail
  go_loopw [3,4] (fun v i wr=>∃ (k:Nat) (t:ByteArray),k<=n∧i=.int .i64 k∧v=.string t∧t.size<=20+20*k∧Ext O wr) (fun _ i _=>n - (intOf i).toNat)
  case atStart=>exact⟨0,M,eC _,rfl,rfl,B,d⟩
  case round =>
   clear d g B;obtain⟨k,t,hk,rfl,rfl,ht,r⟩:=hrel;have ap:=cb wr r
   by_cases hlt:k<n
   ·obtain⟨b,o,x,rfl,_,_,U,c0,c1,c2⟩:=(Q.out wr (G.trans r)).2.edge hlt;obtain⟨⟨f0,f1⟩,⟨g0,g1⟩,⟨t0,t1⟩⟩:=Hf.out x (dG U.out);obtain⟨u,E⟩:∃ u:Nat,x.fr=u:=⟨x.fr.toNat,oM⟩;obtain⟨v,F⟩:∃ v:Nat,x.ta=v:=⟨x.ta.toNat,oM⟩;rw [E] at c0 f0 f1;rw [F] at c2 t0 t1;clear E F;go_wp2_with fail
    generalize U0:wr.alloc _=wq at *;have Y:=Ext.al_ U0;have S:=eS U0;clear U0;have cq:=S.cells;have q0:¬ 9223372036854775807<t.size+1:=oM;refine tR (fun X=>Ext wq X) [] (Ord.of [0,1,2,3,6,7,10,11,4,5,8,9,12,13,14]) ?_;refine tQ ?_;refine zI fun K hK=>?_;go_simp;refine (zek (n:=u) oM).mono ?_;rintro e w2 ⟨j,rfl,C,m⟩;have H:=((dE wq).drew).trans m;have Z:¬ 9223372036854775807<t.size+1+j.size:=oM;refine hK.out _ _ H ?_;refine pT ?_;refine tQ ?_;refine zI fun K hK=>?_;go_simp;refine (zhY (l:=x.le) g0 g1).mono ?_;rintro e w3 ⟨y,rfl,D,q⟩;have I:=H.trans q;have q2:¬ 9223372036854775807<t.size+1+j.size+y.size:=oM;refine hK.out _ _ I ?_;refine pT ?_;refine tQ ?_;refine zI fun K hK=>?_;go_simp;refine (zek (n:=v) oM).mono ?_;rintro e w5 ⟨t5,rfl,ay,V⟩;have J:=I.trans V;have q3:¬ 9223372036854775807<t.size+1+j.size+y.size+t5.size:=oM;refine hK.out _ _ J ?_;refine pT ?_;refine tQ ?_;refine zaD ?_;have T:(t++{ data:=#[32] }++j++y++t5).size<=20+20*(k+1):=by
     simp only [ByteArray.size_append];show t.size+1+j.size+y.size+t5.size<=_;omega
    clear q0 Z q2 q3;go_wp2_with fail
    go_roundw
    case rel=>exact⟨k+1,_,oM,gM,rfl,T,(r.trans Y).trans J⟩
    case measure=>simp [intOf];omega
   ·obtain rfl:n=k:=oM;go_wp2_with fail
    go_ret;have hv:=L.out;exact⟨t,rfl,fun h=>absurd (hv.symm.trans h) dM,G.trans r⟩
def Good (s:Sys):Prop:=∃ a p:Nat,s.al=a∧a<64∧s.st=p∧1<=p∧p<=16∧Few p s.edges
def zcy (w:World) (R:Nat) (A:Option Addr) (n:Nat) (s:Sys):Prop:=
 n=s.edges.length∧n<=9223372036854775807∧(0<n->∃ (g o:Nat) (cs:Array Value),A=some ⟨g,o,none⟩∧R<g∧w.heap[g]?=some (.cells cs 117 (0,0))∧∀ j u,(zn s.edges)[j]?=some u->w.cell? ⟨g,o+j,none⟩=some u)
theorem zcy.at_ (h:zcy w R A n s):zV w (R+1) w.heap.size A n s:=by
 refine⟨h.1,by rw [zL,← h.1],h.2.1,fun h0=>?_⟩;obtain⟨g,o,d,e,a,c,b⟩:=h.2.2 h0;exact⟨⟨g,o,none⟩,e,a,(Array.getElem?_eq_some_iff.1 c).1,fun j u hu=>by rw [zT];exact b j u hu⟩
theorem zcy.frm {S:Nat->Prop}    (h:zcy w R A n s)(hb:Frm S w w')(hS:∀ k,S k->R<k->∀ cs,w.heap[k]?≠some (.cells cs 117 (0,0))):zcy w' R A n s:=by
 refine⟨h.1,h.2.1,fun h0=>?_⟩;obtain⟨g,o,cs,e,c,b,f⟩:=h.2.2 h0;have a:=(Array.getElem?_eq_some_iff.1 b).1;have d:¬ S g:=fun hs=>hS g hs c cs b;exact⟨g,o,cs,e,c,(hb.block g a d).trans b,fun j u hu=>(World.cell?_of_block (w:=w) (hb.block g a d)).trans (f j u hu)⟩
theorem zcy.ext (h:zcy w R A n s)(hb:Ext w w'):zcy w' R A n s:=h.frm (S:=fun _=>False) hb (fun _ hk=>hk.elim)
theorem zcy.dr (h:zcy w R A n s)(hb:Dr R w w'):zcy w' R A n s:=h.frm hb (fun k hk hR=>oM)
theorem zcy.far (h:zcy w R A n s)(hB:Blk w Z t cs)(ht:t≠117)(hb:Frm (fun k=>k=Z) w w'):zcy w' R A n s:=h.frm hb (fun k hk _ cs' hh=>by
 subst hk
 unfold Blk at hB
 rw [hB] at hh
 injection hh with hh
 injection hh with _ h2
 exact ht h2)
theorem zcy.own (h:w.ownsRow base 117 3 (.slice A n c) n (zn s.edges))(hR:R<base):zcy w R A n s:=by
 have i:n=s.edges.length:=by have:=h.1;rw [zL] at this;omega
 refine⟨i,(eW h).len,fun h0=>?_⟩;rcases h.2 with ⟨_,h1⟩|⟨g,b,a,k,l,f,_⟩
 ·omega
 ·have d:A=some ⟨g,0,none⟩:=by injection k
  subst d;exact⟨g,0,a,rfl,oM,f,fun j u hu=>by
   have:=h.cells (g:=g) rfl j u hu;rwa [zT] at this⟩
theorem zjJ (h:w.ownsRow base e size (.slice A n c) n xs):n<=c:=by
 rcases h.2 with ⟨a,i⟩|⟨g,b,d,a,_,_,f,_⟩
 ·omega
 ·injection a with _ _ h3
  omega
def RetG (R M L:Nat) (w:World) (e:Ending) (w':World):Prop:=
 ∃ (s:Sys) (A:Option Addr) (n c:Nat),e=.returned (.agg #[s.al,s.st,.slice A n c])∧zcy w' R A n s∧Good s∧(n<=L∧n<=c)∧Rd w' R M∧Dr R w w'
def RetA (R M L:Nat) (w:World) (e:Ending) (w':World):Prop:=
 ∃ (s:Sys) (A:Option Addr) (n c:Nat),e=.returned (.agg #[s.al,s.st,.slice A n c])∧zcy w' R A n s∧(n<=L∧n<=c)∧Rd w' R M∧Dr R w w'
structure Acc (w0 wB W:World) (R G M:Nat) (al st:Int) (v:Value) (es:List Edg):Prop where
 blk:Blk W G 38 #[al,st,v]
 own:W.ownsRow wB.heap.size 117 3 v es.length (zn es)
 rd:Rd W R M
 dr:Dr R w0 W
 fr:Frm (fun k=>k=R∨k=G) wB W
 hR:R<w0.heap.size
 hB:w0.heap.size<=wB.heap.size
 hG:w0.heap.size<=G
section
variable {w0 wB W W':World} {R G M N:Nat} {al st:Int} {v:Value} {es:List Edg}
theorem Acc.more (h:Acc w0 wB W R G M al st v es)(hM:M<=N):Acc w0 wB W R G N al st v es:={ h with rd:=h.rd.more hM }
theorem Acc.ext (h:Acc w0 wB W R G M al st v es)(hb:Ext W W'):Acc w0 wB W' R G M al st v es:=⟨h.blk.ext hb,zh h.own hb,h.rd.ext hb,h.dr.ext hb,h.fr.ext hb,h.hR,h.hB,h.hG⟩
theorem Acc.drawn (h:Acc w0 wB W R G M al st v es)(hb:Dr R W W')(hr:Rd W' R N):Acc w0 wB W' R G N al st v es:=
 ⟨h.blk.dr hb (by have:=h.hR;have:=h.hG;omega),zf h.own hb (fun b hv hS=>by have:=(h.own.lt b hv).1;have:=h.hR;have:=h.hB;omega),hr,h.dr.trans hb,h.fr.trans (hb.mono fun k _ hk=>Or.inl hk),h.hR,h.hB,h.hG⟩
theorem Acc.far (h:Acc w0 wB W R G M al st v es) (hv:v.ownBlock=some b):b≠G:=by
 rintro rfl;have a:=h.blk;rcases h.own.2 with ⟨rfl,_⟩|⟨g,c,d,rfl,_,i,_⟩
 ·simp [Value.ownBlock] at hv
 ·have f:g=b:=by simpa [Value.ownBlock] using hv
  subst f;unfold Blk at a;rw [i] at a;injection a with a
  injection a with _ ht
  exact absurd ht dM
theorem Acc.setAl (h:Acc w0 wB W R G M al st v es) (x:Int):Acc w0 wB (W.setCell G x) R G M x st v es:=
 ⟨by simpa using h.blk.ab 0 _,zf h.own (eB W G 0 _) (fun b hv hS=>h.far hv hS),h.rd.frm (eB W G 0 _) (fun k hk hS=>by have:=h.hR;have:=h.hG;omega),h.dr.ag h.hG _,h.fr.cell (Or.inr rfl) _,h.hR,h.hB,h.hG⟩
theorem Acc.setSt (h:Acc w0 wB W R G M al st v es) (x:Int):Acc w0 wB (W.setCell ⟨G,1,none⟩ x) R G M al x v es:=
 ⟨by simpa using h.blk.ab 1 _,zf h.own (eB W G 1 _) (fun b hv hS=>h.far hv hS),h.rd.frm (eB W G 1 _) (fun k hk hS=>by have:=h.hR;have:=h.hG;omega),h.dr.ag h.hG _,h.fr.cell (Or.inr rfl) _,h.hR,h.hB,h.hG⟩
theorem Acc.push {e:Edg}(h:Acc w0 wB W R G M al st v es) (zkf:W'.ownsRow wB.heap.size 117 3 (.slice (some g) (es.length+1) cap) (es.length+1) (zn es++[.int .i64 e.fr,.int .i64 e.le,.int .i64 e.ta]))
  (hg:W.grownBy W' v.ownBlock) (hat:v.ownBlock=some g∨g=W.heap.size+1) :
  Hid (W'.cell? ⟨G,2,none⟩=some v)∧W'.frozen? ⟨G,2,none⟩=false∧Acc w0 wB (W'.setCell ⟨G,2,none⟩ (.slice (some g) (es.length+1) cap)) R G M al st (.slice (some g) (es.length+1) cap) (es++[e]):=by
 have a:Blk W' G 38 #[.int .i64 al,.int .i64 st,v]:=(hg.block G h.blk.lt (fun e=>h.far e.symm rfl)).trans h.blk;have f:g≠G:=by
  rcases hat with h1|h1
  ·exact h.far h1
  ·have:=h.blk.lt;omega
 have c:Dr R w0 W':=h.dr.grown hg (fun k hk=>eI h.hB (h.own.lt k hk).1);have i:Rd W' R M:=h.rd.frm (Frm.ae hg) (fun k hk hS=>by have:=(h.own.lt k hS).1;have:=h.hR;have:=h.hB;omega);have d:Frm (fun k=>k=R∨k=G) wB W':=
  ⟨hg.os.trans h.fr.os,hg.tape.trans h.fr.tape,hg.output.trans h.fr.output,eI h.fr.size hg.size,
   fun k hk hn=>(hg.block k (eV hk h.fr.size) (fun e=>by have:=(h.own.lt k e.symm).1;omega)).trans (h.fr.block k hk hn)⟩
 refine⟨a.cell 2,a.frozen 2,⟨by simpa using a.ab 2 _,?_,i.frm (eB W' G 2 _) (fun k hk hS=>by have:=h.hR;have:=h.hG;omega),c.ag h.hG _,d.cell (Or.inr rfl) _,h.hR,h.hB,h.hG⟩⟩;have:=zf zkf (eB W' G 2 (.slice (some g) (es.length+1) cap)) (fun b hv hS=>by
  have:g=b:=by simpa [Value.ownBlock] using hv
  omega)
 rw [zcH];simpa [zn] using this
theorem Acc.reads (h:Acc w0 wB W R G M al st (.slice A n c) es):n=es.length∧zV W wB.heap.size W.heap.size A n ⟨al,st,es⟩:=by
 have a:n=es.length:=by
  rcases h.own.2 with ⟨b,j⟩|⟨g,f,i,b,_⟩
  ·injection b with _ h2 _;omega
  ·injection b
 have d:=h.own;rw [← a] at d;exact⟨a,a,eW d⟩
theorem Acc.form (h:Acc w0 wB W R G M al st v es):∃ A n c,v=.slice A n c:=by
 obtain⟨A,c,e⟩:=zi h.own;exact⟨A,_,c,e⟩
theorem Acc.old (h:Acc w0 wB W R G M al st v es)   (hx:Reads wB lo hi size A n xs)(h1:∀ k,lo<=k->k<hi->k≠R∧k≠G):Reads W lo hi size A n xs:=
 hx.frm h.fr (fun k a b hS=>by have:=h1 k a b;omega)
end
theorem zdm (W:World) (Z:Nat) (u0 u1 u2:Value):Frm (fun k=>k=Z) W (((W.setCell Z u0).setCell ⟨Z,1,none⟩ u1).setCell ⟨Z,2,none⟩ u2):=
 ((eB W Z 0 u0).trans (eB _ Z 1 u1)).trans (eB _ Z 2 u2)
theorem Acc.fin {w0 wB:World} {M:Nat} {al st:Int}   {es:List Edg}(h:Acc w0 wB W R G M al st (.slice A n c) es)(hZ:w0.heap.size<=Z)(hZ2:Z<wB.heap.size) (u0 u1 u2:Value) :
  zcy (((W.setCell Z u0).setCell ⟨Z,1,none⟩ u1).setCell ⟨Z,2,none⟩ u2) R A n ⟨al,st,es⟩ ∧
  Rd (((W.setCell Z u0).setCell ⟨Z,1,none⟩ u1).setCell ⟨Z,2,none⟩ u2) R M∧Dr R w0 (((W.setCell Z u0).setCell ⟨Z,1,none⟩ u1).setCell ⟨Z,2,none⟩ u2):=by
 have a:=zdm W Z u0 u1 u2;obtain⟨f,_⟩:=h.reads;have i:=h.hR;have g:=h.hB;have d:=h.own;rw [← f] at d;refine⟨zcy.own (s:=⟨al,st,es⟩) (zf d a (fun b hv hS=>by have:=(h.own.lt b hv).1;omega)) oM,h.rd.frm a (fun k h1 h2=>oM),?_⟩;exact ((h.dr.ag (p:=⟨Z,0,none⟩) hZ u0).ag (p:=⟨Z,1,none⟩) hZ u1).ag (p:=⟨Z,2,none⟩) hZ u2
end Go.Proofs.YtckbjnndaaoddaaGreatDoor
