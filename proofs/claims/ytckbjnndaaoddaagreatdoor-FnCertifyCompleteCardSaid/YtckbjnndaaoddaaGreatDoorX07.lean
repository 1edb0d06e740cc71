/- The referenc -/
import Derived.Test.YtckbjnndaaoddaaGreatDoorX06
import Derived.Lib.SliceRun
set_option maxHeartbeats 4000000
set_option maxRecDepth 100000
namespace Go.Proofs.YtckbjnndaaoddaaGreatDoor
open Go Go.RowKit
open Bool renaming and_eq_true->dI,eq_false_iff->eV,not_eq_true'->gH,or_eq_true->fN,false->j3,true->jV
open Ext renaming bl_->dZ,drew->fC,refl->cY,trans->eO,x1_->gP
open Frm renaming setCell->dG
open List renaming eq_nil_of_length_eq_zero->dQ,getD_eq_getElem?_getD->dF,getElem?_append_left->dJ,getElem?_eq_getElem->dC,getElem?_eq_none->dW,getElem?_map->dP,getElem?_of_mem->eA,getElem?_set_ne->fR,getElem?_set_self->eZ,length_append->dN,length_set->fB,length_singleton->dV,length_take->eW,map_cons->fL,mem_cons_of_mem->eD,mem_cons_self->gD,mem_of_getElem?->dD,mem_or_eq_of_mem_set->e8,mem_replicate->iR,nil_append->eJ,replicate->dT,take_add_one->dO,take_of_length_le->dK,getElem?_eq_some_iff->kB,mem_append->kF,mem_map->kE
open Nat renaming div_eq_of_lt->jA,eq_zero_or_pos->gJ,le_add_right->jP,le_of_lt_succ->eG,le_refl->dE,le_trans->dL,lt_of_lt_of_le->eC,lt_or_eq_of_le->dY,mod_eq_of_lt->iI,mod_mul_right_div_self->jM,mul_comm->fJ,or_lt_two_pow->eQ,pow_le_pow_right->eE,testBit_or->gF,zero_add->dX,zero_le->dH
open Option renaming getD_some->eM,toList_some->eH,none->fW,some->fV
open Reads renaming af->eF
open Go renaming Calls->j8,Value->j6,World->j2
open Go.Ending renaming returned->j7
open Go.IntKind renaming i64->iX
open Go.Value renaming agg->j4,bool->j9,slice->fF
open Option.some renaming inj->kA
open _root_.Go.Proofs.Tryz renaming prog->j5
variable {A:Option Addr} {G N R Z a b b0 base c c0 cap g g0 hi i j k l lo n q size x:Nat} {M O T U V ls v:List Nat} {W w w':j2} {cs:Array j6} {e t:TypeId} {es:List Edg} {p:Aut} {s:Sys} {xs:List j6}
def zjy (bs:List UInt8):List Int:=bs.map fun b=>(b.toNat:Int)
def bcl (bs:List UInt8):List j6:=(zjy bs).map (Value.int .u8)
theorem bcl_length (bs:List UInt8):(bcl bs).length=bs.length:=by simp [bcl,zjy]
def zgf (a:Nat) (bs:List UInt8):List UInt8:=bs.filter fun b=>hasB a (ltr b.toNat)
def zbB (s:ByteArray) (a:Nat):ByteArray:=strOfNums (zjy (zgf a s.data.toList))
theorem zjc {s:ByteArray} (hk:k<s.size):zgf a (s.data.toList.take (k+1))=zgf a (s.data.toList.take k)++if hasB a (ltr s[k].toNat)=jV then [s[k]] else []:=by
 rw [dO,zch s k hk,eH];unfold zgf;rw [List.filter_append]
 congr 1
 cases h:hasB a (ltr s[k].toNat)<;>simp [h]
theorem zhQ (s:ByteArray) (a k:Nat):(zgf a (s.data.toList.take k)).length<=s.size:=by
 refine dL (List.length_filter_le _ _) ?_;rw [eW];have:s.data.toList.length=s.size:=sM;omega
theorem zjC {bs:List UInt8}(h:W.ownsRow base 5 1 (fF A n cap) n (bcl bs)) :
  (convert 22 9 (fF A n cap)).run j5 W=.ok (.string (strOfNums (zjy bs))) W:=by
 have c:bs.length=n:=by have:=zcO h;rw [bcl_length] at this;omega
 rcases h.2 with ⟨h1,h2⟩|⟨g,b,d,h1,_⟩
 ·injection h1 with h1 h3 h4
  subst h1;subst h3;subst h4;obtain rfl:bs=[]:=dQ c;exact run_convert_bytes_nil (P:=j5) W 22 5 u8_row u8_und _ _ _ zki
 ·injection h1 with h1
  subst h1;refine run_convert_bytes_arg (P:=j5) W 22 5 u8_row u8_und g 0 n cap (zjy bs) (by simp [zjy,c]) (fun i hi=>?_) _ zki;rw [dX,h.cellAt i oM];unfold bcl;rw [dP];have a:i<(zjy bs).length:=by simp [zjy];omega
  rw [dC a];simp [List.getD,dC a]
theorem own_u8_lit (w:j2):(w.alloc (.cells #[] 5)).ownsRow w.heap.size 5 1 (fF (fV w.heap.size) 0 0) 0 (bcl []):=World.ownsRow_lit w #[] 0 (dE _) lM rfl
theorem yX07a1 {P:Prop}(h:P:=by
 obtain rfl:k=s.size:=oM;have zku:=za (show strOfNums (zjy bs)=zbB s a by rw [hbs.out,List.take_of_length_le sM];rfl);obtain⟨A5,c5,rfl⟩:=zh zkr;have hcv:=zjC zkr;clear zkr;go_wp2_with (simp only [hcv])
 go_ret;exact⟨by rw [zku.out];rfl,hx⟩
 ):P:=h
theorem yX07a2 {P:Prop}(h:P:=by
 go_roundw
 case rel=>exact⟨k+1,bs++[s[k]],oM,gM,by rw [List.length_append];simpa [bcl,zjy] using zkD,hst2,by rw [List.length_append];exact hl3,hext5⟩
 case measure=>simp [intOf];omega
 ):P:=h
theorem zdX {s:ByteArray}  (hw:zbh s=jV)(ha:a<=63) :
  j8 j5 60 #[s,a] w fun e w'=>e=j7 (.string (zbB s a))/\Ext w w':=by
 have m:=za (show (decide ((0:Int)<=a/\(a:Int)<=63))=jV by simp;omega);have x:=zbM hw;have q:=za (fun k p=>zaV hw (k:=k) p);have r:=za hw;clear hw
 go_enter Tryz.func60,Tryz.ntmps60
 go_upto_region 3 with (first
  |(go_at_call 141;refine (zcE s _ oM).mono ?_;rw [r.out];rintro e w' ⟨rfl,rfl⟩)
  |(go_at_call 142;refine (zZ _ _).mono ?_;rw [m.out];rintro e w' ⟨rfl,rfl⟩))
 go_upto_region 4 with fail
 have c:=own_u8_lit w;have j:=(cY w).alloc (.cells #[] 5);generalize hA0:(fV ⟨w.heap.size,0,fW⟩:Option Addr)=y at *;clear hA0;generalize w.alloc _=z at *;go_wp2_with fail
 go_loopw [5,6] (fun v i wr=>∃ (k:Nat) (bs:List UInt8),k<=s.size/\i=.int iX k/\wr.ownsRow w.heap.size 5 1 v bs.length (bcl bs)/\Hid (bs=zgf a (s.data.toList.take k))/\bs.length<=50000/\Ext w wr) (fun _ i _=>s.size - (intOf i).toNat)
 case atStart=>exact⟨0,[],dH _,rfl,c,rfl,sM,j⟩
 case round =>
  clear c j;obtain⟨k,bs,p,rfl,zkr,hbs,n,hx⟩:=hrel
  by_cases hlt:k<s.size
  ·have t:=q.out k hlt;obtain⟨l,g⟩:∃ l:Nat,Hid ((s[k].toNat:Int) - 97=l):=⟨s[k].toNat - 97,by unfold Hid;omega⟩;have f:=za (show hasB a (ltr s[k].toNat)=a.testBit l by
    unfold hasB ltr;have:=g.out;rw [if_neg oM,this]
    simp)
   have h:=za (zjc (a:=a) hlt);have u:=zhQ s a (k+1);have d:Sm a:=tM;have o:=za (show s.data.toList[k]?=fV s[k] from zch s k hlt);cases hb:a.testBit l
   ·have b:=za hb;have hst2:=za (show bs=zgf a (s.data.toList.take (k+1)) by rw [h.out,f.out,b.out,hbs.out];simp);clear hb;go_wp2_with (first
     |(go_at_call 144;refine (zbJ s k hlt _).mono ?_;rw [g.out];rintro e w' ⟨rfl,rfl⟩)
     |(go_at_call 143;refine (zax a l d _ (oH g.out)).mono ?_;rw [b.out];rintro e w' ⟨rfl,rfl⟩))
    go_roundw
    case rel=>exact⟨k+1,bs,oM,gM,zkr,hst2,n,hx⟩
    case measure=>exact uM
   ·have b:=za hb;have hst2:=za (show bs++[s[k]]=zgf a (s.data.toList.take (k+1)) by rw [h.out,f.out,b.out,hbs.out];simp);have hl3:(bs++[s[k]]).length<=50000:=by rw [hst2.out];omega
    rw [dN,dV] at hl3;clear hb;go_wp2_with (first
     |(go_at_call 144;refine (zbJ s k hlt _).mono ?_;rw [g.out];rintro e w' ⟨rfl,rfl⟩)
     |(go_at_call 143;refine (zax a l d _ (oH g.out)).mono ?_;rw [b.out];rintro e w' ⟨rfl,rfl⟩)
     |(at_builtin;refine zX w wr rfl _ _ _ rfl 5 _ 1 1 Tryz.underlying22 zjN rfl dM u5 _ _ _ _ rfl rfl hx zkr rfl (zjz _) lM oM ?_;intro v' w5 hext5 zkD hg5 hat5))
    exact yX07a2
  ·exact yX07a1
theorem zgd {s:ByteArray}  (hw:zbh s=jV)(ha:a<=63) :
  j8 j5 53 #[s,a] w fun e w'=>e=j7 (.string (zbB s a))/\Ext w w':=by
 have m:=zbM hw;have h:=za (fun k g=>zaV hw (k:=k) g);clear hw;have c:Sm a:=tM
 go_enter Tryz.func53,Tryz.ntmps53
 go_wp2_with fail
 go_loopw [5,6,9] (fun v _ i wr=>∃ (k:Nat) (bs:List UInt8),k<=s.size/\i=.int iX k/\wr.ownsRow w.heap.size 5 1 v bs.length (bcl bs)/\Hid (bs=zgf a (s.data.toList.take k))/\bs.length<=50000/\Ext w wr) (fun _ _ i _=>s.size - (intOf i).toNat)
 case atStart=>exact⟨0,[],dH _,rfl,World.ownsRow_nil _ _ _ _,rfl,sM,cY _⟩
 case round =>
  obtain⟨k,bs,g,rfl,zkr,hbs,f,hx⟩:=hrel
  by_cases hlt:k<s.size
  ·have j:=h.out k hlt;have d:=za (zjc (a:=a) hlt);have l:=zhQ s a (k+1);cases hb:hasB a (ltr s[k].toNat)
   ·have b:=za hb;have hst2:=za (show bs=zgf a (s.data.toList.take (k+1)) by rw [d.out,b.out,hbs.out];simp);clear hb;go_wp2_with (first
     |(go_at_call 121;refine (zbf s k hlt _).mono ?_;rintro e w' ⟨rfl,rfl⟩)
     |(go_at_call 127;refine (zbN a _ c _).mono ?_;rw [b.out];rintro e w' ⟨rfl,rfl⟩))
    go_roundw
    case rel=>exact⟨k+1,bs,oM,gM,zkr,hst2,f,hx⟩
    case measure=>exact uM
   ·have b:=za hb;have hst2:=za (show bs++[s[k]]=zgf a (s.data.toList.take (k+1)) by rw [d.out,b.out,hbs.out];simp);have hl3:(bs++[s[k]]).length<=50000:=by rw [hst2.out];omega
    rw [dN,dV] at hl3;clear hb;go_wp2_with (first
     |(go_at_call 121;refine (zbf s k hlt _).mono ?_;rintro e w' ⟨rfl,rfl⟩)
     |(go_at_call 127;refine (zbN a _ c _).mono ?_;rw [b.out];rintro e w' ⟨rfl,rfl⟩)
     |(at_builtin;refine zX w wr rfl _ _ _ rfl 5 _ 1 1 Tryz.underlying22 zjN rfl dM u5 _ _ _ _ rfl rfl hx zkr rfl (zjz _) lM oM ?_;intro v' w5 hext5 zkD hg5 hat5))
    exact yX07a2
  ·exact yX07a1
def runB (es:List Edg) (x:Nat) (ls:List Nat):Nat:=ls.foldl (fun m (l:Nat)=>zcq es m (l:Int)) x
theorem runB_snoc (es:List Edg) (x:Nat) (ls:List Nat) (l:Nat):runB es x (ls++[l])=zcq es (runB es x ls) (l:Int):=by simp [runB]
section
variable {lo hi n c:Nat} {A:Option Addr} {s:Sys} {t:ByteArray} {w:j2}
def aftB (s:Sys) (t:ByteArray):Nat:=if (zl s&&inB t s.al.toNat)=jV then runB s.edges 1 (wl t) else 0
end
theorem zeV (s:ByteArray) (a:Nat):(zbB s a).size<=s.size:=by
 have h:=zhQ s a s.size;rw [dK sM] at h;have e:(zbB s a).size=(zjy (zgf a s.data.toList)).length:=by unfold zbB;rw [strOfNums_size]
 rw [e,zjy,List.length_map];exact h
def topB (ss:List Sys) (t:ByteArray):Bool:=zF ss&&(inB t (zG ss)&&ss.all fun s=>aftB s (zbB t s.al.toNat) != 0)
def zP (hd:Bool) (a:Aut) (s:ByteArray):Bool:=if hd then zj a&&s.toList.isEmpty else zfw a&&zbh s
theorem zcJ (lo hi:Nat) (A:Option Addr) (n c:Nat) (A':Option Addr) (n' c':Nat)(hd:Bool) (a:Aut) (s:ByteArray) (w:j2)(h:zK w lo hi A n A' n' a)(hs:s.size<=9223372036854775807) :
  j8 j5 96 #[j4 #[j9 hd,a.al,fF A n c,fF A' n' c',s]] w fun e w'=>e=j7 (.bool (zP hd a s))/\Ext w w':=by
 have i:=fun W (hW:Ext w W)=>h.ext hW;have g:=za i;clear i;cases hd
 ·cases hb:zfw a
  all_goals
   have d:=za hb;clear hb
   go_enter Tryz.func96,Tryz.ntmps96
   go_wp2_with (first
    |(go_at_call 186;refine (spec_l13None _ _ _ _ _ _ _ _ _ _ (g.out _ ?_)).mono ?_;exact (cY _).alloc _;rw [d.out];rintro e j ⟨rfl,b⟩;have f:=zdd b)
    |(go_at_call 141;refine (zcE s _ hs).mono ?_;rintro e w' ⟨rfl,rfl⟩))
   go_ret;exact⟨zo (by rw [zP,d.out];simp),((cY _).alloc _).trans b⟩
 ·cases hb:zj a
  all_goals
   have d:=za hb;clear hb
   go_enter Tryz.func96,Tryz.ntmps96
   go_wp2_with (go_at_call 79;refine (zW _ _ _ _ _ _ _ _ _ _ (g.out _ ?_)).mono ?_;exact (cY _).alloc _;rw [d.out];rintro e j ⟨rfl,b⟩;have f:=zdd b)
   go_ret;exact⟨zo (by rw [zP,d.out];simp),((cY _).alloc _).trans b⟩
theorem zcH (lo hi:Nat) (A:Option Addr) (n c:Nat) (A':Option Addr) (n' c':Nat)(hd:Bool) (a:Aut) (s:ByteArray) (w:j2)(h:zK w lo hi A n A' n' a)(hs:s.size<=9223372036854775807) :
  j8 j5 94 #[j4 #[j9 hd,a.al,fF A n c,fF A' n' c',s]] w fun e w'=>e=j7 (.bool (zP hd a s))/\Ext w w':=by
 have k:=fun W (hW:Ext w W)=>h.ext hW;have q:=za k;clear k;cases hd
 ·have d:=za (show zfw a=(decide (a.al=0)&&(decide (n=0)&&decide (n'=0))) by unfold zfw;rw [<- h.n1,<- h.n2]);have r:=h.1.len;have t:=h.2.2.len;clear h
  by_cases h0:a.al=0
  ·have f:((a.al:Int)==0)=jV:=by simp [h0]
   have m:=za h0;clear h0
   by_cases h1:n=0
   ·have g:((n:Int)==0)=jV:=by simp [h1]
    have o:=za h1;clear h1
    by_cases h2:n'=0
    ·have i:((n':Int)==0)=jV:=by simp [h2]
     have p:=za h2;clear h2
     go_enter Tryz.func94,Tryz.ntmps94
     go_wp2_with (go_at_call 88;refine (ziC s _ hs).mono ?_;rintro e w' ⟨rfl,rfl⟩)
     go_ret;exact⟨zo (by rw [zP,d.out,m.out,o.out,p.out];simp),((cY _).alloc _).alloc _⟩
    ·have i:((n':Int)==0)=j3:=by simp [h2]
     go_enter Tryz.func94,Tryz.ntmps94
     go_wp2_with fail
     go_ret;exact⟨zo (by rw [zP,d.out];simp [h2]),((cY _).alloc _).alloc _⟩
   ·have g:((n:Int)==0)=j3:=by simp [h1]
    go_enter Tryz.func94,Tryz.ntmps94
    go_wp2_with fail
    go_ret;exact⟨zo (by rw [zP,d.out];simp [h1]),((cY _).alloc _).alloc _⟩
  ·have f:((a.al:Int)==0)=j3:=by simp [h0]
   go_enter Tryz.func94,Tryz.ntmps94
   go_wp2_with fail
   go_ret;exact⟨zo (by rw [zP,d.out];simp [h0]),((cY _).alloc _).alloc _⟩
 ·cases f:zj a
  all_goals
   have j:=za f;clear f
   go_enter Tryz.func94,Tryz.ntmps94
   go_wp2_with (go_at_call 25;refine (zae _ _ _ _ _ _ _ _ _ _ (q.out _ ?_)).mono ?_;exact (cY _).alloc _;rw [j.out];rintro e u ⟨rfl,b⟩;have l:=zdd b)
   go_ret;exact⟨zo (by rw [zP,j.out];simp),((cY _).alloc _).trans b⟩
def zar (p:Aut) (q:Nat) (ls:List Nat):Nat:=ls.foldl (aGo p) q
theorem zaO (p:Aut) (q:Nat) (ls:List Nat) (l:Nat):zar p q (ls++[l])=aGo p (zar p q ls) l:=by simp [zar]
theorem zeW (hv:Fit N p) (h:∀ l∈ls,l<6) (hq:q<p.next.length):zar p q ls<p.next.length:=by
 induction ls generalizing q with
 |nil=>exact hq
 |cons l r ih=>exact ih (fun x hx=>h x (eD _ hx)) (aGo_ltF hv hq (h l gD))
theorem zem (hv:zj p=jV) (h:∀ l∈ls,l<6) (hq:q<p.next.length):zar p q ls<p.next.length:=zeW (fit_of hv) h hq
theorem runA_filter (p:Aut) (ls:List Nat) (q:Nat):zar p q (ls.filter fun l=>p.al.toNat.testBit l)=zar p q ls:=by
 induction ls generalizing q with
 |nil=>rfl
 |cons l r ih =>
  rw [List.filter_cons];show _=zar p (aGo p q l) r;cases hb:p.al.toNat.testBit l
  ·have e:aGo p q l=q:=by unfold aGo;rw [hb];rfl
   rw [e];simpa using ih q
  ·simp only [if_true];exact ih (aGo p q l)
theorem zjj (s:ByteArray) (a:Nat):(zbB s a).data.toList=zgf a s.data.toList:=by
 unfold zbB strOfNums zjy;simp only [List.map_map];refine (List.map_congr_left (g:=id) fun b _=>?_).trans (List.map_id _);simp
theorem zhx {s:ByteArray}(h:zbh s=jV) (a:Nat):wl (zbB s a)=(wl s).filter fun l=>a.testBit l:=by
 unfold wl;rw [zjj];unfold zgf;have c:∀ b∈s.data.toList,97<=b.toNat/\b.toNat<=102:=by
  intro b c;obtain⟨i,g⟩:=eA c;have d:i<s.size:=by have:=(kB.1 g).1;simpa using this
  rw [zch s i d] at g;obtain rfl:=kA g;exact zaV h d
 generalize s.data.toList=L at c;clear h
 induction L with
 |nil=>rfl
 |cons b r f =>
  have j:=c b gD;have f:=f fun x hx=>c x (eD _ hx);have e:hasB a (ltr b.toNat)=a.testBit (b.toNat - 97):=by
   unfold hasB ltr;rw [if_neg oM,decide_eq_true oM,Bool.true_and]
   congr 1
   omega
  rw [List.filter_cons,fL,List.filter_cons,e];cases a.testBit (b.toNat - 97)
  ·simpa using f
  ·simp only [if_true,fL];rw [f]
theorem zda {s:ByteArray}(h:zbh s=jV) (a:Nat):inB (zbB s a) a=jV:=by
 unfold inB zgl;rw [zjj,dI,decide_eq_true_eq];refine⟨dL (zeV s a) (zbM h),?_⟩;rw [List.all_eq_true];intro b hb;exact (List.mem_filter.1 hb).2
def breakB (p:Aut) (t:ByteArray):Bool:=zj p&&(zbh t&&!zaw p (zar p 0 (wl t)))
section
variable {lo hi m d m' d':Nat} {B B':Option Addr} {p:Aut} {t:ByteArray} {w:j2}
theorem spec_l3Run (h:zK w lo hi B m B' m' p)(hv:zj p=jV)(ht:zbh t=jV) :
  j8 j5 264 #[j4 #[p.al,fF B m d,fF B' m' d'],(0:Int),t] w fun e w'=>e=j7 (.int iX (zar p 0 (wl t):Nat))/\Ext w w':=by
 have G:=za (fun W (hW:Ext w W)=>h.ext hW);have M:=zbM ht;have H:=za (fun k D=>zaV ht (k:=k) D);have L:=(zk hv).2.1;have I:=za hv;have n:=za (fun k=>zem hv (ls:=(wl t).take k) (fun l f=>zkq ht l (List.mem_of_mem_take f)) (q:=0) oM);clear h hv ht
 go_enter Tryz.func264,Tryz.ntmps264
 go_upto_region 1 with fail
 generalize U0:w.alloc _=E at *;obtain⟨g,J⟩:=gP U0;clear U0;go_wp2_with fail
 go_loopw [1,7] (fun v i wr=>∃ k x:Nat,i=.int iX k/\k<=t.size/\v=.int iX x/\Hid (x=zar p 0 ((wl t).take k))/\Ext E wr) (fun _ i _=>t.size - (intOf i).toNat)
 case atStart=>exact⟨0,0,rfl,dH _,rfl,rfl,cY _⟩
 case round =>
  obtain⟨k,x,rfl,D,rfl,c,a⟩:=hrel
  by_cases hlt:k<t.size
  ·have o:=H.out k hlt;obtain⟨l,f⟩:∃ l:Nat,Hid ((t[k].toNat:Int) - 97=l):=⟨t[k].toNat - 97,by unfold Hid;omega⟩;have r:l<6:=oH f.out;have s:=za (show aGo p x l=zar p 0 ((wl t).take (k+1)) by
    rw [dO,zey hlt,eH,zaO,<- c.out]
    congr 1
    have:=f.out;omega)
   have C:x<p.next.length:=by rw [c.out];exact n.out k
   have F:=za (fun W (hW:Ext E W)=>zdZ (d:=d) (d':=d') (G.out W (g.trans hW)) I.out C r);generalize aGo p x l=y at *;have O:∀ W,Ext wr W->∀ j,W.cell? ⟨w.heap.size,j,fW⟩=#[Value.int iX p.al,fF B m d,fF B' m' d'][j]?:=fun W hW=>(J.ext (a.trans hW)).cell;have b:=cY wr;clear o;go_upto_region 4 with fail
   refine uR (fun X=>Ext wr X) [5] (zx.of [0,1,2,3,4,5,6]) ?_;refine uQ ?_;refine ze fun K hK=>?_;go_simp;refine (zbJ t k hlt _).mono ?_;rw [f.out];rintro e w' ⟨rfl,rfl⟩;refine hK.out _ _ b.drew ?_;refine pT ?_;refine zb fun K hK=>?_;go_simp;refine (F.out _ (a.trans b.drew)).mono (mQ fun Q u=>?_);refine hK.out _ _ ?_;refine pT ?_;refine uQ ?_;refine zg ?_;have z:=a.trans (b.drew.trans u);go_wp2_with fail
   go_roundw
   case rel=>exact⟨k+1,y,gM,oM,rfl,s,z⟩
   case measure=>exact uM
  ·obtain rfl:k=t.size:=oM;have zku:=za (show x=zar p 0 (wl t) by rw [c.out,dK (by rw [zft];exact dE _)]);go_wp2;go_ret;exact⟨zav (by rw [zku.out]),g.trans a⟩
end
theorem sl_two {lo2 hi2 c2:Nat} {C:Option Addr} {t:Sys}(hb:Blk w g 38 #[s.al,s.st,fF A n c,t.al,t.st,fF C k c2])(h:zY w lo hi A n s)(h':zY w lo2 hi2 C k t):∃ lo hi,zhA w lo hi (fV ⟨g,0,fW⟩) 2 [s,t]:=by
 refine⟨0,hi+hi2+g+1,rfl,[.int iX s.al,.int iX s.st,fF A n c,.int iX t.al,.int iX t.st,fF C k c2],⟨rfl,oM,fun _=>⟨_,rfl,dH _,by dsimp only;omega,fun j u hu=>?_⟩⟩,fun j u hu=>?_⟩
 ·rw [zad,dX,hb.cell];simpa using hu
 ·match j with
  |0 =>
   simp at hu;subst hu;exact⟨A,n,c,rfl,rfl,rfl,h.1,h.2.more (dH _) oM⟩
  |1 =>
   simp at hu;subst hu;exact⟨C,k,c2,rfl,rfl,rfl,h'.1,h'.2.more (dH _) oM⟩
  |j+2=>simp at hu
theorem iface_neg (s t:Sys) (p:Aut):iface s p t<0↔(zl s&&(zj p&&zl t))=j3:=by
 unfold iface;cases h:(zl s&&(zj p&&zl t))
 ·simp
 ·simp
theorem pnx_mod (ms:List Mem) (x l:Nat):pnx ms x l=pnx ms (x % zH ms) l:=by
 induction ms generalizing x with
 |nil=>rfl
 |cons m r ih =>
  rw [zdU];unfold pnx;have a:x % (m.1*zH r) / zH r % m.1=x / zH r % m.1:=by
   rw [fJ,jM,Nat.mod_mod]
  have b:pnx r (x % (m.1*zH r)) l=pnx r x l:=by
   rw [ih (x % (m.1*zH r)),Nat.mod_mul_left_mod,<- ih x]
  rw [a,b]
theorem goes_lt {ms:List Mem}(hm:∀ m∈ms,zez m) (hv:∀ l∈v,l<6) (h:zbx (pnx ms) [0] v x):x<zH ms:=by
 rcases zab v with rfl|⟨u,l,rfl⟩
 ·have:=h.ah;have h1:=zgm hm;simp at this;omega
 ·obtain⟨n,_,hx⟩:=h.inv;exact zjh hm (hv l sM) x hx
theorem mem_lt {m:Mem}(hm:zez m) (hv:∀ l∈v,l<6) (h:zbx m.2 [0] v q):q<m.1:=by
 have a:∀ n (v:List Nat),v.length=n->(∀ l∈v,l<6)->∀ q,zbx m.2 [0] v q->q<m.1:=by
  intro n
  induction n with
  |zero =>
   intro v hl _ q h;obtain rfl:=dQ hl;have:=h.ah;have:=hm.1;simp at *;omega
  |succ n ih =>
   intro v hl hv q h;rcases zab v with rfl|⟨u,l,rfl⟩
   ·simp at hl
   ·obtain⟨b,h1,h2⟩:=h.inv;exact hm.2 b l (ih u (by simpa using hl) (fun k hk=>hv k (by simp [hk])) b h1) (hv l sM) q h2
 exact a _ v rfl hv q h
theorem zfZ {m:Mem} {r:List Mem}(hm:zez m)(hr:∀ m∈r,zez m):∀ (n:Nat) (v:List Nat),v.length=n->(∀ l∈v,l<6)->∀ x,zbx (pnx (m :: r)) [0] v x↔∃ q y,x=q*zH r+y/\zbx m.2 [0] v q/\zbx (pnx r) [0] v y:=by
 intro n
 induction n with
 |zero =>
  intro v hl _ x;obtain rfl:=dQ hl;constructor
  ·intro h;have:=h.ah;simp at this;subst this;exact⟨0,0,sM,.nil sM,.nil sM⟩
  ·rintro ⟨q,y,rfl,h1,h2⟩;have h1:=h1.ah;have h2:=h2.ah;simp at h1 h2;subst h1;subst h2;exact .nil sM
 |succ n d =>
  intro v hl hv x;rcases zab v with rfl|⟨u,l,rfl⟩
  ·simp at hl
  have g:∀ k∈u,k<6:=fun k hk=>hv k (by simp [hk]);have s:l<6:=hv l sM;have d:=d u (by simpa using hl) g;have C:=zgm hr;have a:∀ q y,zbx m.2 [0] u q->zbx (pnx r) [0] u y->pnx (m :: r) (q*zH r+y) l=(m.2 q l).flatMap fun b=>(pnx r y l).map fun c=>b*zH r+c:=by
   intro q y h1 h2;have t:=mem_lt hm g h1;have z:=goes_lt hr g h2;show (m.2 ((q*zH r+y) / zH r % m.1) l).flatMap (fun b=>(pnx r (q*zH r+y) l).map fun c=>b*zH r+c)=_;have j:(q*zH r+y) / zH r % m.1=q:=by
    rw [fJ,Nat.mul_add_div oM,jA z,Nat.add_zero,iI t]
   have o:pnx r (q*zH r+y) l=pnx r y l:=by
    rw [pnx_mod r (q*zH r+y),fJ,Nat.mul_add_mod,<- pnx_mod]
   rw [j,o]
  constructor
  ·intro h;obtain⟨B,h1,h2⟩:=h.inv;obtain⟨q,y,rfl,h3,h4⟩:=(d B).1 h1;rw [a q y h3 h4] at h2;simp only [List.mem_flatMap,List.mem_map] at h2;obtain⟨b,f,c,i,rfl⟩:=h2;exact⟨b,c,rfl,.snoc h3 f,.snoc h4 i⟩
  ·rintro ⟨b,c,rfl,h1,h2⟩;obtain⟨q,h3,h4⟩:=h1.inv;obtain⟨y,h5,p⟩:=h2.inv;refine .snoc ((d (q*zH r+y)).2 ⟨q,y,rfl,h3,h5⟩) ?_;rw [a q y h3 h5];simp only [List.mem_flatMap,List.mem_map];exact⟨b,h4,c,p,rfl⟩
def zjt (s:Sys) (v:List Nat):Prop:=∃ q,zbx (cho s) [0] v q
theorem zhm (a:Aut) (v:List Nat) (q:Nat):zbx (zbD a).2 [0] v q↔q=zar a 0 v:=by
 have c:∀ n (v:List Nat),v.length=n->∀ q,zbx (zbD a).2 [0] v q↔q=zar a 0 v:=by
  intro n
  induction n with
  |zero =>
   intro v hl q;obtain rfl:=dQ hl;constructor
   ·intro h;have:=h.ah;simp at this;subst this;rfl
   ·rintro rfl;exact .nil (by simp [zar])
  |succ n b =>
   intro v hl q;rcases zab v with rfl|⟨u,l,rfl⟩
   ·simp at hl
   rw [zaO];have b:=b u (by simpa using hl);constructor
   ·intro h;obtain⟨d,h1,h2⟩:=h.inv;rw [(b d).1 h1] at h2;simpa [zbD] using h2
   ·rintro rfl;exact .snoc ((b _).2 rfl) (by simp [zbD])
 exact c _ v rfl q
theorem goes_nil (v:List Nat) (y:Nat):zbx (pnx []) [0] v y↔y=0:=by
 have b:∀ n (v:List Nat),v.length=n->∀ y,zbx (pnx []) [0] v y↔y=0:=by
  intro n
  induction n with
  |zero =>
   intro v hl y;obtain rfl:=dQ hl;exact⟨fun h=>by simpa using h.ah,fun h=>.nil (by simp [h])⟩
  |succ n a =>
   intro v hl y;rcases zab v with rfl|⟨u,l,rfl⟩
   ·simp at hl
   have a:=a u (by simpa using hl);constructor
   ·intro h;obtain⟨c,h1,h2⟩:=h.inv;simpa [pnx] using h2
   ·rintro rfl;exact .snoc ((a 0).2 rfl) (by simp [pnx])
 exact b _ v rfl y
theorem zhn {a:Aut}(ha:zj a=jV)(hp:zj p=jV) (hv:∀ l∈v,l<6) (y:Nat):zbx (pnx [zbD a,zbD p]) [0] v y↔y=zar a 0 v*p.next.length+zar p 0 v:=by
 have b:∀ m∈[zbD p],zez m:=by simp;exact zbE hp
 have c:zH [zbD p]=p.next.length:=by simp [zH,zaB,zbD]
 have h1:∀ z,zbx (pnx [zbD p]) [0] v z↔z=zar p 0 v:=by
  intro z;rw [zfZ (zbE hp) sM _ v rfl hv];constructor
  ·rintro ⟨q,y,rfl,h1,h2⟩;rw [(goes_nil v y).1 h2,(zhm p v q).1 h1];simp [zH,zaB]
  ·rintro rfl;exact⟨zar p 0 v,0,by simp [zH,zaB],(zhm p v _).2 rfl,(goes_nil v 0).2 rfl⟩
 rw [zfZ (zbE ha) b _ v rfl hv,c];constructor
 ·rintro ⟨q,y,rfl,h2,h3⟩;rw [(zhm a v q).1 h2,(h1 y).1 h3]
 ·rintro rfl;exact⟨_,_,rfl,(zhm a v _).2 rfl,(h1 _).2 rfl⟩
theorem ziY {T:List Mem}(hT:∀ m∈T,zez m) (hv:∀ l∈v,l<6) (g:Nat->Prop):∀ {ss:List Sys},(∀ s∈ss,zez (zee s))->((∃ x,zbx (pnx (ss.map zee++T)) [0] v x/\g (x % zH T))↔(∀ s∈ss,zjt s v)/\∃ y,zbx (pnx T) [0] v y/\g y):=by
 intro ss
 induction ss with
 |nil =>
  intro _;simp only [List.map_nil,eJ,List.not_mem_nil,false_implies,implies_true,true_and];constructor
  ·rintro ⟨x,h,c⟩;rw [iI (goes_lt hT hv h)] at c;exact⟨x,h,c⟩
  ·rintro ⟨x,h,c⟩;exact⟨x,h,by rwa [iI (goes_lt hT hv h)]⟩
 |cons s r i =>
  intro hs;have d:=hs s gD;have f:=fun t a=>hs t (eD _ a);have i:=i f;have j:∀ m∈r.map zee++T,zez m:=by
   intro m hm;rcases kF.1 hm with h|h
   ·obtain⟨t,a,rfl⟩:=kE.1 h;exact f t a
   ·exact hT m h
  have b:∀ q y,(q*zH (r.map zee++T)+y) % zH T=y % zH T:=by
   intro q y;rw [zca,<- Nat.mul_assoc,fJ,Nat.mul_add_mod]
  rw [fL,List.cons_append];constructor
  ·rintro ⟨x,h,c⟩;obtain⟨q,y,rfl,h1,h2⟩:=(zfZ d j _ v rfl hv x).1 h;rw [b] at c;obtain⟨h3,h4⟩:=i.1 ⟨y,h2,c⟩;refine⟨fun t a=>?_,h4⟩;rcases List.mem_cons.1 a with rfl|a
   ·exact⟨q,h1⟩
   ·exact h3 t a
  ·rintro ⟨h1,h2⟩;obtain⟨y,h3,h4⟩:=i.2 ⟨fun t a=>h1 t (eD _ a),h2⟩;obtain⟨q,k⟩:=h1 s gD;exact⟨q*zH (r.map zee++T)+y,(zfZ d j _ v rfl hv _).2 ⟨q,y,rfl,k,h3⟩,by rwa [b]⟩
def zfN (ss:List Sys) (a p:Aut) (v:List Nat):Prop:=(∀ s∈ss,zjt s v)/\zaw a (zar a 0 v)=jV/\zaw p (zar p 0 v)=j3
theorem zko {ss:List Sys} {a:Aut}(hss:∀ s∈ss,zl s=jV)(ha:zj a=jV)(hp:zj p=jV) :
  zkn ss a p=jV↔∃ v,(∀ l∈v,l∈letters (zG ss|||a.al.toNat) 6)/\zfN ss a p v:=by
 have k:∀ s∈ss,zez (zee s):=fun s hs=>zeI (zcl (hss s hs));have u:∀ m∈[zbD a,zbD p],zez m:=by simp;exact⟨zbE ha,zbE hp⟩
 have t:zH [zbD a,zbD p]=a.next.length*p.next.length:=by simp [zH,zaB,zbD]
 have B:=(zk ha).2.1;have C:=(zk hp).2.1;have c:∀ x,zbS a p x=zbS a p (x % zH [zbD a,zbD p]):=by
  intro x;unfold zbS;rw [t,Nat.mod_mul_left_mod,fJ,jM,Nat.mod_mod]
 have i:∀ v,(∀ l∈v,l<6)->((∃ x,zbx (zcg ss a p) [0] v x/\zbS a p x=jV)↔zfN ss a p v):=by
  intro v d;rw [zdr];have h1:=ziY u d (fun y=>zbS a p y=jV) k;have h2:(∃ x,zbx (pnx (zbn ss [a,p])) [0] v x/\zbS a p x=jV)↔(∃ x,zbx (pnx (ss.map zee++[zbD a,zbD p])) [0] v x/\zbS a p (x % zH [zbD a,zbD p])=jV):=by
   constructor
   ·rintro ⟨x,h,b⟩;exact⟨x,h,by rw [<- c];exact b⟩
   ·rintro ⟨x,h,b⟩;exact⟨x,h,by rw [c];exact b⟩
  rw [h2,h1];unfold zfN;refine and_congr_right fun _=>?_;have j:=zem ha d (q:=0) oM;have g:=zem hp d (q:=0) oM;have n:(zar a 0 v*p.next.length+zar p 0 v) / p.next.length % a.next.length=zar a 0 v:=by
   rw [fJ,Nat.mul_add_div oM,jA g,Nat.add_zero,iI j]
  have o:(zar a 0 v*p.next.length+zar p 0 v) % p.next.length=zar p 0 v:=by
   rw [fJ,Nat.mul_add_mod,iI g]
  constructor
  ·rintro ⟨y,z,b⟩;rw [(zhn ha hp d y).1 z] at b;unfold zbS at b;rw [n,o] at b;simpa using b
  ·intro b;refine⟨_,(zhn ha hp d _).2 rfl,?_⟩;unfold zbS;rw [n,o];simpa using b
 unfold zkn lostB;rw [gH,@decide_eq_false_iff_not _ (Classical.propDecidable _)];constructor
 ·intro hn;apply Classical.byContradiction;intro hno;refine hn fun v d x hx=>?_;cases hb:zbS a p x
  ·rfl
  ·exact absurd ⟨v,d,(i v (fun l f=>zcx _ l (d l f))).1 ⟨x,hx,hb⟩⟩ hno
 ·rintro ⟨v,d,r⟩ f;obtain⟨x,hx,b⟩:=(i v (fun l f=>zcx _ l (d l f))).2 r;have:=f v d x hx;rw [b] at this;cases this
def hidL (s:Sys) (A l:Nat):Prop:=l<6/\s.al.toNat.testBit l=jV/\A.testBit l=j3
inductive Cl (s:Sys) (p:Aut) (A:Nat) (B:Nat->Nat->Prop):Nat->Nat->Prop
 |base {q i:Nat} (h:B q i):Cl s p A B q i
 |hid {q i l q':Nat} (h:Cl s p A B q i) (hl:hidL s A l) (hq:q'∈cho s q l):Cl s p A B q' (aGo p i l)
def mvB (s:Sys) (p:Aut) (l:Nat) (B:Nat->Nat->Prop):Nat->Nat->Prop:=fun q' j=>∃ q i,B q i/\q'∈cho s q l/\j=aGo p i l
def prR (s:Sys) (p:Aut) (A:Nat):List Nat->Nat->Nat->Prop
 |[]=>Cl s p A (fun q i=>q=0/\i=0)
 |l :: r=>Cl s p A (mvB s p l (prR s p A r))
def PR (s:Sys) (p:Aut) (A:Nat) (v:List Nat):Nat->Nat->Prop:=prR s p A v.reverse
theorem PR_nil (s:Sys) (p:Aut) (A:Nat):PR s p A []=Cl s p A (fun q i=>q=0/\i=0):=rfl
theorem PR_snoc (s:Sys) (p:Aut) (A:Nat) (v:List Nat) (l:Nat):PR s p A (v++[l])=Cl s p A (mvB s p l (PR s p A v)):=by
 unfold PR;rw [List.reverse_append];rfl
def Bad (s:Sys) (p:Aut) (A:Nat) (v:List Nat):Prop:=∃ q i,PR s p A v q i/\zaw p i=j3
def SafeW (s:Sys) (p:Aut) (A:Nat) (v:List Nat):Prop:=∀ k,k<=v.length->¬ Bad s p A (v.take k)
theorem zgq (hs:Sml s) (hb:s.al.toNat.testBit l=jV) (set q':Nat):(zcq s.edges set (l:Int)).testBit q'=jV↔∃ q,set.testBit q=jV/\q'∈cho s q l:=by
 obtain⟨h1,h2,d,-⟩:=hs;rw [zea];constructor
 ·rintro ⟨e,a,⟨h3,h4⟩,rfl⟩;obtain⟨f,g,h⟩:=d e a;refine⟨e.fr.toNat,h4,?_⟩;unfold cho;rw [if_pos hb,zC];refine⟨oM,(zes _ _ _ _).2 ⟨e,a,?_,rfl⟩⟩;exact⟨oM,h3⟩
 ·rintro ⟨q,h3,h4⟩;unfold cho at h4;rw [if_pos hb,zC] at h4;obtain⟨e,a,⟨h5,b⟩,c⟩:=(zes _ _ _ _).1 h4.2;exact⟨e,a,⟨b,by rw [h5];simpa using h3⟩,c⟩
theorem zeY (hs:Sml s) (x:Nat) (l:Int):zcq s.edges x l<65536:=by
 have h1:=stepB_lt hs.2.2.1 x l;have h2:(2:Nat) ^ s.st.toNat<=2 ^ 16:=eE oM (oH hs.2.1);exact eC h1 h2
def zdF (T:List Nat) (i q:Nat):Prop:=(T.getD i 0).testBit q=jV
theorem zhC (h:zdF T i q):i<T.length:=by
 rcases Nat.lt_or_ge i T.length with h1|h1
 ·exact h1
 ·unfold zdF at h;rw [dF,dW h1] at h;simp at h
theorem zcX (hj:j<T.length) (x i q:Nat):zdF (T.set j (T.getD j 0|||x)) i q↔zdF T i q\/(i=j/\x.testBit q=jV):=by
 unfold zdF
 by_cases h:j=i
 ·subst h;rw [dF,eZ hj,eM,gF,fN];simp
 ·rw [dF,fR h,<- dF];constructor
  ·exact .inl
  ·rintro (h1|⟨h1,-⟩)
   ·exact h1
   ·exact absurd h1.symm h
def zaR (T:List Nat) (n:Nat) (B:Nat->Nat->Prop):Prop:=T.length=n/\(∀ x∈T,x<65536)/\∀ i q,zdF T i q↔B q i
structure ClI (s:Sys) (p:Aut) (A:Nat) (B:Nat->Nat->Prop) (n:Nat) (T:List Nat):Prop where
 len:T.length=n
 lt:∀ x∈T,x<65536
 base:∀ q i,B q i->zdF T i q
 sub:∀ i q,zdF T i q->Cl s p A B q i
def zeQ (s:Sys) (p:Aut) (T:List Nat) (i l:Nat):Prop:=∀ q,zdF T i q->∀ q'∈cho s q l,zdF T (aGo p i l) q'
section
variable {s:Sys} {p:Aut} {A n:Nat} {B:Nat->Nat->Prop} {T:List Nat}
theorem zaR.clI (h:zaR T n B):ClI s p A B n T:=⟨h.1,h.2.1,fun q i hb=>(h.2.2 i q).2 hb,fun i q hb=>.base ((h.2.2 i q).1 hb)⟩
theorem zbF (h:∀ x∈T,x<65536) (i:Nat):T.getD i 0<65536:=by
 rw [dF];cases h1:T[i]? with
 |none=>simp
 |some x=>exact h x (dD h1)
theorem ClI.step (h:ClI s p A B n T)(hs:Sml s)(hp:zj p=jV)(hn:n=p.next.length) (hi:i<n)(hl:hidL s A l) :
  ClI s p A B n (T.set (aGo p i l) (T.getD (aGo p i l) 0|||zcq s.edges (T.getD i 0) (l:Int))):=by
 have b:aGo p i l<T.length:=by rw [h.len,hn];exact zdL hp oM hl.1
 refine⟨by rw [fB];exact h.len,fun x hx=>?_,fun q i' hb=>(zcX b _ _ _).2 (.inl (h.base q i' hb)),fun i' q hb=>?_⟩
 ·rcases e8 hx with hx|rfl
  ·exact h.lt x hx
  ·exact eQ (n:=16) (zbF h.lt _) (eC (stepB_lt hs.2.2.1 _ _) (eE oM (oH hs.2.1)))
 ·rcases (zcX b _ _ _).1 hb with a|⟨rfl,a⟩
  ·exact h.sub _ _ a
  ·obtain⟨c,h1,h2⟩:=(zgq hs hl.2.1 _ _).1 a;exact .hid (h.sub _ _ h1) hl h2
theorem closedAt_of (hs:Sml s) (hl:hidL s A l)(he:T.getD (aGo p i l) 0|||zcq s.edges (T.getD i 0) (l:Int)=T.getD (aGo p i l) 0):zeQ s p T i l:=by
 intro q hq q' hq';unfold zdF;rw [<- he,gF,(zgq hs hl.2.1 _ _).2 ⟨q,hq,hq'⟩,Bool.or_true]
theorem ClI.fin (h:ClI s p A B n T)(hc:∀ i l,i<n->hidL s A l->zeQ s p T i l):zaR T n (Cl s p A B):=by
 refine⟨h.len,h.lt,fun i q=>⟨h.sub i q,fun hb=>?_⟩⟩
 induction hb with
 |base hb=>exact h.base _ _ hb
 |hid _ hl hq ih=>exact hc _ _ (by rw [<- h.len];exact zhC ih) hl _ ih _ hq
end
def room:List Nat->Nat
 |[]=>0
 |x :: r=>(65536 - x)+room r
theorem room_set:∀ (T:List Nat) (j x:Nat),(T.getD j 0|||x)<65536->room (T.set j (T.getD j 0|||x))<=room T/\(j<T.length->T.getD j 0|||x≠T.getD j 0->room (T.set j (T.getD j 0|||x))<room T)
 |[],j,x,_=>by simp [room]
 |a :: r,0,x,h=>by
  simp only [List.getD_cons_zero,List.set_cons_zero,room] at h ⊢
  have h1:a<=a|||x:=Nat.left_le_or
  refine⟨oM,fun _ h2=>oM⟩
 |a :: r,j+1,x,h=>by
  simp only [List.getD_cons_succ,List.set_cons_succ,room,List.length_cons] at h ⊢
  obtain⟨h1,h2⟩:=room_set r j x h
  refine⟨oM,fun h3 h4=>by have:=h2 oM h4;omega⟩
theorem sub_bit (ha:a<64)(hb:b<64) (l:Nat):l∈letters (a - (a&&&b)) 6↔l<6/\a.testBit l=jV/\b.testBit l=j3:=by
 rw [zC];refine and_congr_right fun hl=>?_;have c:∀ a<64,∀ b<64,∀ l<6,((a - (a&&&b)).testBit l=jV↔a.testBit l=jV/\b.testBit l=j3):=by decide +kernel
 exact c a ha b hb l hl
theorem stand_bad {A:Nat}  (h:zaR T n (PR s p A v)):Bad s p A v↔∃ i,i<n/\T.getD i 0≠0/\zaw p i=j3:=by
 constructor
 ·rintro ⟨q,i,h1,h2⟩;have a:=(h.2.2 i q).2 h1;refine⟨i,by rw [<- h.1];exact zhC a,fun e=>?_,h2⟩;unfold zdF at a;rw [e] at a;simp at a
 ·rintro ⟨i,c,h1,h2⟩;obtain⟨q,b⟩:=Nat.exists_testBit_of_ne_zero h1;exact⟨q,i,(h.2.2 i q).1 b,h2⟩
theorem zio (hn:1<=n):zaR ((dT n 0).set 0 1) n (fun q i=>q=0/\i=0):=by
 refine⟨sM,fun x hx=>?_,fun i q=>?_⟩
 ·rcases e8 hx with hx|rfl
  ·rw [iR] at hx;omega
  ·omega
 ·unfold zdF;rw [dF]
  by_cases h:i=0
  ·subst h;rw [eZ (by rw [List.length_replicate];omega),eM];constructor
   ·intro h;exact⟨by cases q with|zero=>rfl|succ q=>simp [Nat.testBit_succ] at h,rfl⟩
   ·rintro ⟨rfl,-⟩;rfl
  ·rw [fR oM];constructor
   ·intro h;cases h1:(dT n 0)[i]? with
    |none=>rw [h1] at h;simp at h
    |some x =>
     have:=dD h1;rw [iR] at this;rw [h1,this.2] at h;simp at h
   ·rintro ⟨_,h1⟩;exact absurd h1 h
def MvP (s:Sys) (p:Aut) (l:Nat) (T:List Nat) (k:Nat) (U:List Nat):Prop:=
 U.length=12/\(∀ x∈U,x<65536)/\∀ j q',zdF U j q'↔∃ i q,i<k/\zdF T i q/\q'∈cho s q l/\j=aGo p i l
def goS (s:Sys) (l x:Nat):Nat:=if s.al.toNat.testBit l=jV then zcq s.edges x (l:Int) else x
section
variable {s:Sys} {p:Aut} {l k n:Nat} {T U:List Nat} {B:Nat->Nat->Prop}
theorem goS_bit (hs:Sml s) (x q':Nat):(goS s l x).testBit q'=jV↔∃ q,x.testBit q=jV/\q'∈cho s q l:=by
 unfold goS
 by_cases hb:s.al.toNat.testBit l=jV
 ·rw [if_pos hb];exact zgq hs hb x q'
 ·rw [if_neg hb];constructor
  ·intro h;refine⟨q',h,?_⟩;unfold cho;rw [if_neg hb];simp
  ·rintro ⟨q,h1,h2⟩;unfold cho at h2;rw [if_neg hb] at h2;obtain rfl:q'=q:=by simpa using h2
   exact h1
theorem goS_lt (hs:Sml s) (hx:x<65536):goS s l x<65536:=by
 unfold goS;split
 ·exact zeY hs _ _
 ·exact hx
theorem zero_bit (n i q:Nat):¬ zdF (dT n 0) i q:=by
 unfold zdF;rw [dF];cases h:(dT n 0)[i]? with
 |none=>simp
 |some x =>
  have:=dD h;rw [iR] at this;simp [this.2]
theorem MvP.zero:MvP s p l T 0 (dT 12 0):=by
 refine⟨sM,fun x hx=>by rw [iR] at hx;omega,fun j q'=>⟨fun h=>absurd h (zero_bit _ _ _),?_⟩⟩;rintro ⟨i,q,h,-⟩;omega
theorem MvP.skip (h:MvP s p l T k U)(h0:T.getD k 0=0):MvP s p l T (k+1) U:=by
 refine⟨h.1,h.2.1,fun j q'=>⟨fun hb=>?_,?_⟩⟩
 ·obtain⟨i,q,h1,h2⟩:=(h.2.2 j q').1 hb;exact⟨i,q,oM,h2⟩
 ·rintro ⟨i,q,h1,h2,h3⟩;rcases dY (eG h1) with h4|rfl
  ·exact (h.2.2 j q').2 ⟨i,q,h4,h2,h3⟩
  ·unfold zdF at h2;rw [h0] at h2;simp at h2
theorem yX07a3 {P:Prop}(h:P:=by
 rintro ⟨i,q,h1,h2,h3,h4⟩;rcases Nat.lt_or_eq_of_le (Nat.le_of_lt_succ h1) with h5|rfl
 ·exact .inl ⟨i,q,h5,h2,h3,h4⟩
 ·exact .inr ⟨h4,q,h2,h3⟩
 ):P:=h
theorem MvP.step (h:MvP s p l T k U)(hs:Sml s)(hT:∀ x∈T,x<65536)(hj:aGo p k l<12):MvP s p l T (k+1) (U.set (aGo p k l) (U.getD (aGo p k l) 0|||goS s l (T.getD k 0))):=by
 have a:aGo p k l<U.length:=by rw [h.1];exact hj
 refine⟨by rw [fB];exact h.1,fun x hx=>?_,fun j q'=>?_⟩
 ·rcases e8 hx with hx|rfl
  ·exact h.2.1 x hx
  ·exact eQ (n:=16) (zbF h.2.1 _) (goS_lt hs (zbF hT _))
 ·rw [zcX a,h.2.2 j q',goS_bit hs];constructor
  ·rintro (⟨i,q,h1,h2⟩|⟨rfl,q,h1,h2⟩)
   ·exact⟨i,q,oM,h2⟩
   ·exact⟨k,q,oM,h1,h2,rfl⟩
  ·exact yX07a3
theorem MvP.fin (h:MvP s p l T 12 U)(hT:zaR T 12 B):zaR U 12 (mvB s p l B):=by
 refine⟨h.1,h.2.1,fun j q'=>?_⟩;rw [h.2.2 j q'];constructor
 ·rintro ⟨i,q,-,h2,h3,h4⟩;exact⟨q,i,(hT.2.2 i q).1 h2,h3,h4⟩
 ·rintro ⟨q,i,h2,h3,h4⟩;have a:=(hT.2.2 i q).2 h2;exact⟨i,q,by rw [<- hT.1];exact zhC a,a,h3,h4⟩
def Has (M V:List Nat) (k:Nat):Prop:=∀ i q,i<k->zdF V i q->zdF M i q
theorem Has.zero (M V:List Nat):Has M V 0:=fun i q h=>oM
theorem Has.all (h:Has M V 12)(hV:V.length=12) (i q:Nat)(hb:zdF V i q):zdF M i q:=h i q (by rw [<- hV];exact zhC hb) hb
theorem Has.set (h:Has M V n) (hj:j<M.length):Has (M.set j (M.getD j 0|||x)) V n:=fun i q hi hb=>(zcX hj _ _ _).2 (.inl (h i q hi hb))
theorem Has.step (h:Has M V k)(hk:k<M.length):Has (M.set k (M.getD k 0|||V.getD k 0)) V (k+1):=fun i q hi hb=>by
 rw [zcX hk]
 rcases dY (eG hi) with h4|rfl
 ·exact .inl (h i q h4 hb)
 ·exact .inr ⟨rfl,hb⟩
variable {A:Nat}
theorem ClI.join (h:ClI s p A B 12 M)(hT:ClI s p A B 12 T)(hV:MvP s p l T 12 V)(hl:hidL s A l)(hk:k<12):ClI s p A B 12 (M.set k (M.getD k 0|||V.getD k 0)):=by
 have b:k<M.length:=by rw [h.len];exact hk
 refine⟨by rw [fB];exact h.len,fun x hx=>?_,fun q i a=>(zcX b _ _ _).2 (.inl (h.base q i a)),fun i q a=>?_⟩
 ·rcases e8 hx with hx|rfl
  ·exact h.lt x hx
  ·exact eQ (n:=16) (zbF h.lt _) (zbF hV.2.1 _)
 ·rcases (zcX b _ _ _).1 a with a|⟨rfl,a⟩
  ·exact h.sub i q a
  ·obtain⟨c,d,-,h2,h3,rfl⟩:=(hV.2.2 i q).1 a;exact .hid (hT.sub c d h2) hl h3
theorem ClI.stop (hT:ClI s p A B 12 T)(h:∀ l,hidL s A l->∃ V,MvP s p l T 12 V/\Has T V 12):zaR T 12 (Cl s p A B):=
 hT.fin fun i l hi hl q hq q' hq'=>by
  obtain⟨V,hV,hh⟩:=h l hl
  exact hh.all hV.1 _ _ ((hV.2.2 _ _).2 ⟨i,q,hi,hq,hq',rfl⟩)
end
theorem bits_le (h:∀ q,a.testBit q=jV->b.testBit q=jV):a<=b:=by
 have:a|||b=b:=Nat.eq_of_testBit_eq fun q=>by
  rw [gF];cases ha:a.testBit q
  ·simp
  ·rw [h q ha];simp
 rw [<- this];exact Nat.left_le_or
theorem room_le:∀ {T M:List Nat},T.length=M.length->(∀ x∈M,x<65536)->(∀ i,T.getD i 0<=M.getD i 0)->room M<=room T/\(T≠M->room M<room T)
 |[],[],_,_,_=>⟨dE _,fun h=>absurd rfl h⟩
 |[],_ :: _,h,_,_=>by simp at h
 |_ :: _,[],h,_,_=>by simp at h
 |a :: r,b :: t,h,hM,hle=>by
  have h0:a<=b:=by simpa using hle 0
  have c:=hM b sM;obtain⟨h1,h2⟩:=room_le (T:=r) (M:=t) (by simpa using h) (fun x hx=>hM x (by simp [hx])) (fun i=>by simpa using hle (i+1));refine⟨by simp only [room];omega,fun hne=>?_⟩;simp only [room]
  by_cases e:a=b
  ·subst e;have:=h2 (fun e2=>hne (by rw [e2]));omega
  ·omega
theorem room_grow (h1:T.length=M.length)(hM:∀ x∈M,x<65536)(h:∀ i q,zdF T i q->zdF M i q)(hne:T≠M):room M<room T:=
 (room_le h1 hM (fun i=>bits_le (fun q hq=>h i q hq))).2 hne
def bq (T:List Nat):Nat->Nat->Prop:=fun q i=>zdF T i q
theorem zaR.eq {B:Nat->Nat->Prop}(h:zaR T n B):bq T=B:=funext fun q=>funext fun i=>propext (h.2.2 i q)
structure WS (p:Aut) (T:List Nat):Prop where
 len:T.length=12
 lt:∀ x∈T,x<65536
 row:∀ i q,zdF T i q->i<p.next.length
theorem WS.stand (h:WS p T):zaR T 12 (bq T):=⟨h.len,h.lt,fun _ _=>Iff.rfl⟩
theorem WS.idx (h:WS p T) (h0:T.getD i 0≠0):i<p.next.length:=by
 obtain⟨q,a⟩:=Nat.exists_testBit_of_ne_zero h0;exact h.row i q a
def zgw (p:Aut) (T:List Nat):Nat->Bool
 |0=>j3
 |k+1=>zgw p T k || (T.getD k 0 != 0&&!zaw p k)
def zhk (p:Aut) (T:List Nat):Bool:=zgw p T 12
theorem badSN_iff (p:Aut) (T:List Nat):∀ k,zgw p T k=jV↔∃ i,i<k/\T.getD i 0≠0/\zaw p i=j3
 |0=>⟨fun h=>(by cases h),fun ⟨i,h,_⟩=>oM⟩
 |k+1=>by
  unfold zgw
  rw [fN,badSN_iff p T k]
  constructor
  ·rintro (⟨i,h1,h2⟩|h)
   ·exact⟨i,oM,h2⟩
   ·refine⟨k,oM,?_⟩
    simpa using h
  ·rintro ⟨i,h1,h2,h3⟩
   rcases dY (eG h1) with h4|rfl
   ·exact .inl ⟨i,h4,h2,h3⟩
   ·exact .inr (by simp only [h3,Bool.not_false,Bool.and_true];simpa using h2)
theorem zfT {A:Nat}  (h:zaR T 12 (PR s p A v)):zhk p T=jV↔Bad s p A v:=by
 rw [stand_bad h];exact badSN_iff p T 12
theorem ziR {A:Nat} {B:Nat->Nat->Prop}(hp:zj p=jV)(hB:∀ q i,B q i->i<p.next.length) (h:Cl s p A B q i):i<p.next.length:=by
 induction h with
 |base h=>exact hB _ _ h
 |hid _ hl _ ih=>exact zdL hp ih hl.1
def Lead (s:Sys) (p:Aut) (A l:Nat) (T U:List Nat):Prop:=zaR U 12 (Cl s p A (mvB s p l (bq T)))
theorem Lead.ws {A:Nat} (h:Lead s p A l T U)(hp:zj p=jV)(hl:l<6)(hT:WS p T):WS p U:=
 ⟨h.1,h.2.1,fun i q hb=>ziR hp (fun q i ⟨_,i0,h1,_,h3⟩=>by rw [h3];exact zdL hp (hT.row _ _ h1) hl) ((h.2.2 i q).1 hb)⟩
theorem Lead.pr {A:Nat}  (h:Lead s p A l T U)(hT:zaR T 12 (PR s p A v)):zaR U 12 (PR s p A (v++[l])):=by
 unfold Lead at h;rw [hT.eq,<- PR_snoc] at h;exact h
theorem start_ws {A:Nat} (h:zaR U 12 (PR s p A []))(hp:zj p=jV)(h0:0<p.next.length):WS p U:=
 ⟨h.1,h.2.1,fun i q hb=>ziR hp (fun q i ⟨_,h3⟩=>by rw [h3];exact h0) ((h.2.2 i q).1 hb)⟩
structure SfI (s:Sys) (p:Aut) (A:Nat) (Ts:List (List Nat)) (nx:Nat->Nat->Int):Prop where
 ws:∀ T∈Ts,WS p T
 start:∃ T,Ts[0]?=fV T/\zaR T 12 (PR s p A [])
 nx:∀ k l,k<Ts.length->l<6->nx k l = -1\/∃ (j:Nat) (T U:List Nat),nx k l=(j:Int)/\Ts[k]?=fV T/\Ts[j]?=fV U/\Lead s p A l T U
section
variable {s:Sys} {p:Aut} {A:Nat} {Ts:List (List Nat)} {nx:Nat->Nat->Int}
theorem SfI.add (h:SfI s p A Ts nx) (hU:WS p U):SfI s p A (Ts++[U]) (fun k l=>if k=Ts.length then -1 else nx k l):=by
 obtain⟨T,h1,h2⟩:=h.start;refine⟨fun V a=>?_,⟨T,by rw [dJ (kB.1 h1).1];exact h1,h2⟩,fun k l hk hl=>?_⟩
 ·rcases kF.1 a with a|a
  ·exact h.ws V a
  ·obtain rfl:V=U:=by simpa using a
   exact hU
 ·by_cases e:k=Ts.length
  ·exact .inl (if_pos e)
  ·have b:k<Ts.length:=by simp at hk;omega
   simp only [if_neg e];rcases h.nx k l b hl with h3|⟨j,T,U,h3,h4,h5,c⟩
   ·exact .inl h3
   ·exact .inr ⟨j,T,U,h3,by rw [dJ b];exact h4,by rw [dJ (kB.1 h5).1];exact h5,c⟩
theorem SfI.set (h:SfI s p A Ts nx)  (hT:Ts[k]?=fV T)(hU:Ts[j]?=fV U)(hl:Lead s p A l T U):SfI s p A Ts (fun k' l'=>if k'=k/\l'=l then (j:Int) else nx k' l'):=by
 refine⟨h.ws,h.start,fun k' l' hk' hl'=>?_⟩
 by_cases e:k'=k/\l'=l
 ·obtain⟨rfl,rfl⟩:=e;exact .inr ⟨j,T,U,if_pos ⟨rfl,rfl⟩,hT,hU,hl⟩
 ·simp only [if_neg e];exact h.nx k' l' hk' hl'
end
theorem zho (l:List Int):∀ u∈ints l,u.oneCell'=jV:=by
 intro u hu;obtain⟨x,_,rfl⟩:=kE.1 hu;rfl
theorem zfU (l:List Bool):∀ u∈zaa l,u.oneCell'=jV:=by
 intro u hu;obtain⟨x,_,rfl⟩:=kE.1 hu;rfl
theorem zga {w1:j2}   (hg:(w.alloc (.cells cs t)).grownBy w1 (fF (fV w.heap.size) n c).ownBlock):Ext w w1:=
 ((cY w).alloc _).grown hg (fun k hk=>by
  have hk':w.heap.size=k:=by simpa [Value.ownBlock] using hk
  omega)
theorem clone_int {l:List Int} (h:Reads w lo hi 1 A n (ints l))(hn:n<=1048576) :
  j8 j5 195 #[fF A n c] w fun e w'=>∃ v',e=j7 v'/\w'.ownsRow w.heap.size 3 1 v' n (ints l)/\Ext w w':=by
 cases A with
 |none =>
  obtain rfl:n=0:=by
   rcases gJ n with b|b
   ·exact b
   ·obtain⟨_,h1,_⟩:=h.2.2 b;cases h1
  have d:=h.length;obtain rfl:l=[]:=dQ (by rw [zde] at d;omega);clear h;have f:=fun (w:j2) (a:Option Addr) (n c n' c':Nat)=>Lib.run_eql_slice_nil (P:=j5) w 110 _ a n c n' c' Tryz.underlying110
  go_enter Tryz.func195,Tryz.ntmps195
  go_wp2;go_ret;exact⟨_,rfl,World.ownsRow_nil _ _ _ _,cY _⟩
 |some ad =>
  have H:=za (h.ext ((cY w).alloc (.cells #[] 3)));clear h;have f:=fun (w:j2) (a:Option Addr) (n c n' c':Nat)=>Lib.run_eql_slice_nil (P:=j5) w 110 _ a n c n' c' Tryz.underlying110
  go_enter Tryz.func195,Tryz.ntmps195
  go_wp2_with (at_builtin;refine zdp _ rfl _ _ 110 rfl w.heap.size 3 _ 1 8 Tryz.underlying110 zR rfl dM _ 0 [] rfl (World.ownsRow_made w #[] 0 (dE _) (dH _) rfl) _ _ (fV ad) n c (ints l) rfl H.out (zho l) lM oM sM ?_;intro v' w1 zkr hg hat)
  have hx:=zga hg;rw [dX,eJ] at zkr;go_ret;exact⟨_,rfl,zkr,hx⟩
theorem ziS {l:List Bool} (h:Reads w lo hi 1 A n (zaa l))(hn:n<=1048576) :
  j8 j5 194 #[fF A n c] w fun e w'=>∃ v',e=j7 v'/\w'.ownsRow w.heap.size 4 1 v' n (zaa l)/\Ext w w':=by
 cases A with
 |none =>
  obtain rfl:n=0:=by
   rcases gJ n with b|b
   ·exact b
   ·obtain⟨_,h1,_⟩:=h.2.2 b;cases h1
  have d:=h.length;obtain rfl:l=[]:=dQ (by rw [zbX] at d;omega);clear h;have f:=fun (w:j2) (a:Option Addr) (n c n' c':Nat)=>Lib.run_eql_slice_nil (P:=j5) w 25 _ a n c n' c' Tryz.underlying25
  go_enter Tryz.func194,Tryz.ntmps194
  go_wp2;go_ret;exact⟨_,rfl,World.ownsRow_nil _ _ _ _,cY _⟩
 |some ad =>
  have H:=za (h.ext ((cY w).alloc (.cells #[] 4)));clear h;have f:=fun (w:j2) (a:Option Addr) (n c n' c':Nat)=>Lib.run_eql_slice_nil (P:=j5) w 25 _ a n c n' c' Tryz.underlying25
  go_enter Tryz.func194,Tryz.ntmps194
  go_wp2_with (at_builtin;refine zdp _ rfl _ _ 25 rfl w.heap.size 4 _ 1 1 Tryz.underlying25 zaK rfl dM _ 0 [] rfl (World.ownsRow_made w #[] 0 (dE _) (dH _) rfl) _ _ (fV ad) n c (zaa l) rfl H.out (zfU l) lM oM sM ?_;intro v' w1 zkr hg hat)
  have hx:=zga hg;rw [dX,eJ] at zkr;go_ret;exact⟨_,rfl,zkr,hx⟩
theorem zU (W:j2) (Z:Nat) (u0 u1 u2:j6):Frm (fun k=>k=Z) W (((W.setCell Z u0).setCell ⟨Z,1,fW⟩ u1).setCell ⟨Z,2,fW⟩ u2):=
 ((dG W Z 0 u0).trans (dG _ Z 1 u1)).trans (dG _ Z 2 u2)
theorem zai (h:Blk w Z t cs)(hc:cs.size=3) (u0 u1 u2:j6):Blk (((w.setCell Z u0).setCell ⟨Z,1,fW⟩ u1).setCell ⟨Z,2,fW⟩ u2) Z t #[u0,u1,u2]:=by
 obtain⟨l⟩:=cs
 match l,hc with
 |[a,b,c],_=>simpa using ((h.ae 0 u0).ae 1 u1).ae 2 u2
theorem zr {v:j6}  (h:w.ownsRow base e size v n xs)(hB:Blk w G t cs)(hne:e≠t) (hv:v.ownBlock=fV b):b≠G:=by
 rintro rfl;rcases h.2 with ⟨rfl,_⟩|⟨g,a,c,rfl,_,f,_⟩
 ·simp [Value.ownBlock] at hv
 ·have d:g=b:=by simpa [Value.ownBlock] using hv
  subst d;unfold Blk at hB;rw [f] at hB;injection hB with hB
  injection hB with _ ht
  exact absurd ht hne
structure Gra (w0 W:j2) (G:Nat) (al:Int) (v:j6) (ls:List (List Int)) (vA:j6) (acc:List Bool):Prop where
 blk:Blk W G 27 #[al,v,vA]
 own:zfa W w0.heap.size v ls
 acc:W.ownsRow w0.heap.size 4 1 vA acc.length (zaa acc)
 ext:Ext w0 W
 hG:w0.heap.size<=G
section
variable {w0 W W':j2} {G:Nat} {al:Int} {v vA:j6} {ls:List (List Int)} {acc:List Bool}
theorem Gra.ay (h:Gra w0 W G al v ls vA acc)(hb:Ext W W'):Gra w0 W' G al v ls vA acc:=⟨h.blk.ext hb,h.own.ext hb,zi h.acc hb,h.ext.trans hb,h.hG⟩
theorem Gra.push {W1:j2} {rows:List j6} {row:j6} {l:List Int} (h:Gra w0 W G al v ls vA acc)(hrows:zB W w0.heap.size rows ls)(hv:W.ownsRow w0.heap.size 110 1 v ls.length rows)
  (hx:Ext W W1) (hrow:W1.ownsRow W.heap.size 3 1 row l.length (ints l))
  (zkr:W'.ownsRow w0.heap.size 110 1 (fF (fV g) (ls.length+1) cap) (ls.length+1) (rows++[row]))
  (hg:W1.grownBy W' v.ownBlock) (hat:v.ownBlock=fV g\/g=W1.heap.size+1) :
  Hid (W'.cell? ⟨G,1,fW⟩=fV v)/\W'.frozen? ⟨G,1,fW⟩=j3/\Gra w0 (W'.setCell ⟨G,1,fW⟩ (fF (fV g) (ls.length+1) cap)) G al (fF (fV g) (ls.length+1) cap) (ls++[l]) vA acc:=by
 have a:=h.blk.ext hx;have d:=zi hv hx;have f:Blk W' G 27 #[.int iX al,v,vA]:=(hg.block G a.lt (fun e=>zr d a dM e.symm rfl)).trans a;have t:g≠G:=by
  rcases hat with h1|h1
  ·exact zr d a dM h1
  ·have:=a.lt;omega
 have s:Ext w0 W':=(h.ext.trans hx).grown hg (fun k hk=>(d.lt k hk).1);have m:=hrows.snoc hx (h.ext.size) hrow;have j:Frm (fun k=>v.ownBlock=fV k) W1 W':=Frm.ab hg;have n:zB W' w0.heap.size (rows++[row]) (ls++[l]):=m.frm j (fun i r b hr hb hS=>by
  obtain⟨u,_,q⟩:=m.row hr;exact zat q d dM hb hS)
 have o:W'.ownsRow w0.heap.size 4 1 vA acc.length (zaa acc):=zf (zi h.acc hx) j (fun b hb hS=>zat (zi h.acc hx) d dM hb hS);have c:=dG W' G 1 (fF (fV g) (ls.length+1) cap);refine⟨f.cell 1,f.frozen 1,⟨by simpa using f.ae 1 _,⟨rows++[row],?_,?_⟩,?_,s.setCell (p:=⟨G,1,fW⟩) h.hG _,h.hG⟩⟩
 ·rw [dN,dV];exact zf zkr c (fun b hv hS=>by
   have:g=b:=by simpa [Value.ownBlock] using hv
   omega)
 ·refine n.frm c (fun i r b hr hb hS=>?_);obtain⟨u,_,q⟩:=n.row hr;exact zr q f dM hb hS
 ·exact zf o c (fun b hb hS=>zr o f dM hb hS)
end
theorem zaT {A':Option Addr} {n' c':Nat} {a:Aut} (h:zK w lo hi A n A' n' a)(hs:a.size<=1048576) :
  j8 j5 104 #[j4 #[a.al,fF A n c,fF A' n' c']] w (RetAut w a):=by
 have h1:n<=1048576:=by have:=h.n1;unfold Aut.size at hs;omega
 have h2:n'<=1048576:=by have:=h.n2;unfold Aut.size at hs;omega
 have o:∀ (k:Nat) (l:List Int),a.next[k]?=fV l->l.length<=1048576:=fun k l T=>by
  have h1:=zgs T;have h2:=ziq a.next (k+1);unfold Aut.size at hs;omega
 have L:=za o;have O:=za h.n1;have Q:=za h.n2;have HS:=za (fun W (hW:Ext w W)=>h.1.ext hW);have HA:=za (fun W (hW:Ext w W)=>h.2.2.ext hW);have ao:=h.1.len;clear o h hs
 go_enter Tryz.func104,Tryz.ntmps104
 go_upto_region 1 with fail
 generalize U0:(w.alloc _).alloc _=q at *;obtain⟨t,b1,bz⟩:=Ext.x2_ U0;have aq:w.heap.size+2=q.heap.size:=by rw [<- U0];simp
 clear U0
 go_cut [3] (fun v wx=>∃ (G:Nat) (vA:j6),v=.pointer (fV G)/\Gra q wx G a.al (fF fW 0 0) [] vA a.acc)
 case first =>
  have c1:=fun W (hW:Ext q W)=>(b1.ext hW).cell;have u:=cY q;refine uR (fun X=>Ext q X) [7] (zx.app [0,1,2,3] (zx.two 4 (zx.of [5,6,7]) 6 (zx.of [4,5,7]))) ?_;refine uQ ?_;have g:Ext q q.drew:=u.drew;generalize q.drew=wd at *;refine zm (fun K hK=>?_) (fun K hK=>?_)
  ·go_simp;refine (ziS (HA.out _ (t.trans g)) h2).mono ?_;rintro e H ⟨aj,rfl,j,y⟩;obtain⟨J,M,rfl⟩:=zh j;have m:=g.trans y;refine hK.out _ _ m ?_;refine pT ?_;refine uQ ?_;refine ze fun K hK=>?_;go_simp;have x:=(cY H).alloc (.cells #[(0:Int),(),()] 27);have Z:=m.size;have f:=zn (zi j x) g.size;replace m:=m.trans x;refine hK.out _ _ m ?_;generalize U0:H.alloc _=I at *;have r:=dZ U0;clear U0;generalize H.heap.size=G at *;refine pT ?_;refine uQ ?_;have Y:=r.cell;have fG:=r.frozen;refine zb fun K hK=>?_;go_simp;refine hK.out _ _ ?_;refine zg ?_;have zku:Gra q (((I.setCell G a.al).setCell ⟨G,1,fW⟩ ()).setCell ⟨G,2,fW⟩ (fF J n' M)) G a.al (fF fW 0 0) [] (fF J n' M) a.acc:=⟨zai r rfl _ _ _,⟨[],World.ownsRow_nil _ _ _ _,zB.nil _ _⟩,by
    rw [<- Q.out];exact zf f (zU I G _ _ _) (fun b s hS=>zr f r dM s hS),m.frm (zU I G _ _ _) (fun k hk e=>oM),Z⟩
   go_wp2_with fail
   go_meet;exact⟨G,_,rfl,zku⟩
  ·go_simp;have x:=(cY wd).alloc (.cells #[(0:Int),(),()] 27);have Z:=g.size;replace g:=g.trans x;refine hK.out _ _ g ?_;generalize U0:wd.alloc _=I at *;have r:=dZ U0;clear U0;generalize wd.heap.size=G at *;refine pT ?_;refine ze fun K hK=>?_;go_simp;refine (ziS (HA.out _ (t.trans g)) h2).mono ?_;rintro e H ⟨aj,rfl,j,y⟩;obtain⟨J,M,rfl⟩:=zh j;have f:=zn j g.size;replace r:=r.ext y;replace g:=g.trans y;refine hK.out _ _ g ?_;refine pT ?_;refine uQ ?_;have Y:=r.cell;have fG:=r.frozen;refine zb fun K hK=>?_;go_simp;refine hK.out _ _ ?_;refine zg ?_;have zku:Gra q (((H.setCell G a.al).setCell ⟨G,1,fW⟩ ()).setCell ⟨G,2,fW⟩ (fF J n' M)) G a.al (fF fW 0 0) [] (fF J n' M) a.acc:=⟨zai r rfl _ _ _,⟨[],World.ownsRow_nil _ _ _ _,zB.nil _ _⟩,by
    rw [<- Q.out];exact zf f (zU H G _ _ _) (fun b s hS=>zr f r dM s hS),g.frm (zU H G _ _ _) (fun k hk e=>oM),Z⟩
   go_wp2_with fail
   go_meet;exact⟨G,_,rfl,zku⟩
 case rest =>
  obtain⟨G,vA,rfl,d⟩:=hcut;have k1:=(b1.ext d.ext).cell;go_wp2_with fail
  go_loopw [5,15] (fun _ i wr=>∃ (k:Nat) (v:j6),k<=n/\i=.int iX k/\Gra q wr G a.al v (a.next.take k) vA a.acc) (fun _ i _=>n - (intOf i).toNat)
  case atStart=>exact⟨0,_,dH _,rfl,by simpa using d⟩
  case round =>
   clear d k1;obtain⟨k,v,hk,rfl,d⟩:=hrel
   by_cases hlt:k<n
   ·obtain⟨ad,Ak,ck,l,rfl,_,_,T,ab,R⟩:=(HS.out wr (t.trans d.ext)).row hlt;have af:=L.out k l T.out;have V:=za (show a.next.take (k+1)=a.next.take k++[l] by rw [dO,T.out];rfl);have S:=za (show (a.next.take k).length=k by rw [eW];have:=O.out;omega);obtain⟨z,s,F⟩:=d.own;go_upto_region 5 with fail
    have Y:=fun W (hW:Ext wr W)=>(d.blk.ext hW).cell;have u:=cY wr;have U:=za (fun W (hW:Ext wr W)=>R.ext hW);clear ab R;refine uR (fun X=>Ext wr X) [5,7] (zx.of [0,1,2,3,4,5,6,7]) ?_;refine uQ ?_;refine ze fun K hK=>?_;go_simp;refine (clone_int (U.out _ u.drew) af).mono ?_;rintro e I ⟨row,rfl,o,ag⟩;obtain⟨BR,dR,rfl⟩:=zh o;have p:=u.drew.trans ag;refine hK.out _ _ p ?_;refine pT ?_;refine uQ ?_;refine ze fun K hK=>?_;go_simp;refine hK.out _ _ (p.alloc _) ?_;refine pT ?_;refine zb fun K hK=>?_;refine zaE q I _ _ _ rfl 110 _ 1 24 Tryz.underlying24 zbs rfl dM v (a.next.take k).length z _ _ rfl rfl (d.ext.trans p).size (zi s p) rfl (zaG _ _ _) (by unfold maxLen;have:=S.out;omega) (oH S.out) ?_;intro g5 cap5 w5 zkD hg5 hat5 hlt5;refine hK.out _ _ ?_;refine pT ?_;refine uQ ?_;obtain⟨p1,p2,p3⟩:=d.push F s p o (W':=w5) zkD hg5 hat5;have aA:=p1.out;refine zb fun K hK=>?_;go_simp;refine hK.out _ _ ?_;refine zg ?_;go_wp2_with fail
    go_roundw
    case rel=>exact⟨k+1,_,oM,gM,by rw [V.out];first|exact p3|simpa using p3⟩
    case measure=>exact uM
   ·obtain rfl:n=k:=oM;obtain⟨A5,c5,rfl⟩:∃ A5 c5,v=fF A5 n c5:=by
     obtain⟨z,s,_⟩:=d.own;rw [dK (oH O.out),<- O.out] at s;exact zh s
    obtain⟨B,C,rfl⟩:=zh d.acc;have Y:=d.blk.cell;have D:=bz.ext d.ext;have cZ:=D.cell;have fZ:=D.frozen;have E:=zU wr (w.heap.size+1) (.int iX a.al) (fF A5 n c5) (fF B a.acc.length C);have aa:=zai D rfl (.int iX a.al) (fF A5 n c5) (fF B a.acc.length C);have ah:=(t.trans d.ext).frm E (fun k hk e=>oM);have zku:=za (show RetAut w a (j7 (j4 #[a.al,fF A5 n c5,fF B a.acc.length C])) (((wr.setCell ⟨w.heap.size+1,0,fW⟩ a.al).setCell ⟨w.heap.size+1,1,fW⟩ (fF A5 n c5)).setCell ⟨w.heap.size+1,2,fW⟩ (fF B a.acc.length C)) from by
     refine⟨A5,n,c5,B,a.acc.length,C,rfl,⟨?_,O.out,?_,rfl⟩,ah⟩
     ·have ho:=d.own;rw [dK (oH O.out)] at ho;exact (ho.keep E (fun b h1 e=>oM)).less oM
     ·exact zn (zbA d.acc E (fun b h1 e=>oM)) oM)
    go_wp2_with fail
    generalize ((wr.setCell ⟨w.heap.size+1,0,fW⟩ a.al).setCell ⟨w.heap.size+1,1,fW⟩ (fF A5 n c5)).setCell ⟨w.heap.size+1,2,fW⟩ (fF B a.acc.length C)=wf at *;have cf:=aa.cell;exact bodyPost_ret (v:=j4 #[a.al,fF A5 n c5,fF B a.acc.length C]) (by simp [results,Tryz.results104,go_sem,cf]) rfl zku.out
def memT (W:j2) (g n:Nat):List Nat:=(List.range n).map fun j=>match W.cell? ⟨g,j,fW⟩ with|some (.int _ z)=>z.toNat|_=>0
theorem memT_own (h:W.ownsRow base 3 1 (fF (fV g) n c) n (zah T))(hT:T.length=n):memT W g n=T:=by
 refine List.ext_getElem? fun j=>?_;unfold memT;rw [dP];rcases Nat.lt_or_ge j n with a|a
 ·rw [List.getElem?_range a,Option.map_some,h.cellAt j oM,show (zah T)[j]?=T[j]?.map (fun x=>Value.int iX (x:Nat)) by simp [zah]];rw [dC oM];simp
 ·rw [dW (by simpa using a),dW oM];rfl
theorem zcy (h:W.ownsRow base 3 1 (fF (fV g) n c) n (zah T))(hj:j<n):W.cell? ⟨g,j,fW⟩=fV (.int iX (T.getD j 0:Nat)):=by
 have a:=zcO h;have b:T.length=n:=by simpa [zah] using a
 rw [h.cellAt j oM,show (zah T)[j]?=T[j]?.map (fun x=>Value.int iX (x:Nat)) by simp [zah],dF,dC oM];simp
def RetSets (g N cc base:Nat) (Q:Nat->Nat->Prop) (w:j2) (e:Ending) (w':j2):Prop:=
 ∃ T':List Nat,e=j7 (fF (fV g) N cc)/\w'.ownsRow base 3 1 (fF (fV g) N cc) N (zah T')/\zaR T' N Q/\Frm (fun k=>k=g) w w'
section
variable {w:j2} {lo hi n c m d m' d' L:Nat} {A B B':Option Addr} {s:Sys} {p:Aut}
theorem zgV {cc:Nat}  {Bs:Nat->Nat->Prop}(hS:zY w lo hi A n s)(hP:zK w lo hi B m B' m' p)(hv:zl s=jV)(hp:zj p=jV)(hL:L<64)(hN:N=p.next.length)
  (hg:hi<=base) (zkr:w.ownsRow base 3 1 (fF (fV g) N cc) N (zah T)) (hT:zaR T N Bs) :
  j8 j5 223 #[j4 #[s.al,s.st,fF A n c,p.al,fF B m d,fF B' m' d',L],fF (fV g) N cc] w (RetSets g N cc base (Cl s p L Bs) w):=by
 have O:=zcl hv;obtain⟨a0,a1⟩:=zac hv;obtain⟨al,ad⟩:∃ al:Nat,Hid (s.al=al):=⟨s.al.toNat,by unfold Hid;omega⟩;have I:al<64:=oH ad.out;have aO:N<=12:=by have:=(zk hp).2.1;omega
 have a4:=(zkr.lt g rfl).1;have a6:=(zkr.lt g rfl).2;have HN:=za hN;have aE:=za (zdq (a:=al) (b:=L) tM tM);have a8:al&&&L<=al:=Nat.and_le_left;have aa:(al:Int) - ((al&&&L:Nat):Int)=((al - (al&&&L):Nat):Int):=oM;have an:=za aa;clear aa;have H:=za (fun l=>sub_bit I hL l);have a2:=aE.out;clear hN
 go_enter Tryz.func223,Tryz.ntmps223
 go_upto_region 1 with fail
 generalize U0:w.alloc _=w1 at *;obtain⟨R,b1⟩:=gP U0;have k1:=b1.cell;clear U0;rw [ad.out] at k1;go_wp2_with fail
 rw [an.out];refine (zak (al - (al&&&L)) tM _).mono ?_;rintro e w2 ⟨HA,hc,rfl,E,U⟩;have H:=za (fun l=>(sub_bit I hL l).trans (show l<6/\al.testBit l=jV/\L.testBit l=j3↔hidL s L l by unfold hidL;rw [ad.out];rfl));generalize letters (al - (al&&&L)) 6=hs at *;have a7:hs.length<=9223372036854775807:=(eF E).len;have ao:Frm (fun k=>k=g) w w2:=(R.trans U).ak;have ax:=zi zkr (R.trans U);have aI:=b1.ext U;have o:=hT.clI (s:=s) (p:=p) (A:=L);clear zkr hT k1 b1;go_wp2_with fail
 go_loopw [6] (fun mv wr=>∃ (C:Bool) (T:List Nat),mv=.bool C/\Hid (ClI s p L Bs N T)/\Hid (C=j3->∀ i l,i<N->hidL s L l->zeQ s p T i l)/\wr.ownsRow base 3 1 (fF (fV g) N cc) N (zah T)/\Frm (fun k=>k=g) w2 wr) (fun mv wr=>room (memT wr g N)+(match mv with | .bool jV=>1|_=>0))
 case atStart=>exact⟨jV,T,rfl,za o,za (fun h=>by cases h),ax,Frm.refl _ _⟩
 case round =>
  clear o ax;obtain⟨C,T,rfl,o,f,zkr,t⟩:=hrel;have aq:=za (memT_own zkr o.out.len);cases C
  ·have zku:=za (o.out.fin (f.out rfl));go_wp2_with fail
   go_ret;exact⟨T,rfl,zkr,zku.out,ao.trans t⟩
  ·go_wp2_with fail
   go_loopw [6,7] (fun mv iv wq=>∃ (C:Bool) (i:Nat) (v:List Nat),mv=.bool C/\iv=.int iX i/\i<=N/\Hid (ClI s p L Bs N v)/\Hid (room v<=room T/\(C=jV->room v<room T))/\Hid (C=j3->∀ i' l,i'<i->hidL s L l->zeQ s p v i' l)/\wq.ownsRow base 3 1 (fF (fV g) N cc) N (zah v)/\Frm (fun k=>k=g) w2 wq) (fun _ iv _=>N - (intOf iv).toNat)
   case atStart=>exact⟨j3,0,T,rfl,rfl,dH _,o,za ⟨dE _,fun h=>by cases h⟩,za (fun _ i' l h=>oM),zkr,t⟩
   case round =>
    clear o zkr t f;obtain⟨C,i,v,rfl,rfl,hi,o,r,f,zkr,t⟩:=hrel
    by_cases hlt:i<N
    ·have aR:(i:Int)<(N:Int):=oM;go_wp2_with fail
     go_loopw [6,8] (fun mv kv wq=>∃ (C:Bool) (k:Nat) (v:List Nat),mv=.bool C/\kv=.int iX k/\k<=hs.length/\Hid (ClI s p L Bs N v)/\Hid (room v<=room T/\(C=jV->room v<room T))/\Hid (C=j3->(∀ i' l,i'<i->hidL s L l->zeQ s p v i' l)/\∀ (k' l:Nat),k'<k->hs[k']?=fV l->zeQ s p v i l)/\wq.ownsRow base 3 1 (fF (fV g) N cc) N (zah v)/\Frm (fun k=>k=g) w2 wq) (fun _ kv _=>hs.length - (intOf kv).toNat)
     case atStart=>exact⟨C,0,v,rfl,rfl,dH _,o,r,za (fun h=>⟨f.out h,fun k' l h=>oM⟩),zkr,t⟩
     case round =>
      clear o r f zkr t;obtain⟨C,k,v,rfl,rfl,hk,o,r,f,zkr,t⟩:=hrel
      by_cases hkl:k<hs.length
      ·have aQ:(k:Int)<(hs.length:Int):=oM;obtain⟨l,X⟩:∃ l,hs[k]?=fV l:=⟨_,dC hkl⟩;have M:=(H.out l).1 (dD X);have ap:=M.1;have ae:aGo p i l<N:=by rw [HN.out];exact zdL hp (by rw [<- HN.out];exact hlt) ap
       obtain⟨gh,rfl,a5,-⟩:=zN E oM;have G:=zbA E t (fun b h1 e=>oH R.size);have cH:=zcy G hkl;rw [dF,X,eM] at cH;have CH:∀ W,Ext wr W->W.cell? ⟨gh,k,fW⟩=fV (.int iX (l:Nat)):=fun W hW=>hW.aa cH;have CB:∀ W,Ext wr W->∀ q,W.cell? ⟨w.heap.size,q,fW⟩=#[Value.int iX s.al,.int iX s.st,fF A n c,.int iX p.al,fF B m d,fF B' m' d',.int iX L][q]?:=fun W hW=>((aI.frm t oM).ext hW).cell;have CI:∀ W,Ext wr W->W.cell? ⟨g,i,fW⟩=fV (.int iX (v.getD i 0:Nat)):=fun W hW=>hW.aa (zcy zkr hlt);have aC:=za (fun W (hW:Ext wr W)=>((hP.ext (R.trans U)).frm t (fun k h1 h2 e=>oM)).ext hW);have aD:=za (fun W (hW:Ext wr W)=>((hS.ext (R.trans U)).frm t (fun k h1 h2 e=>oM)).ext hW);have Hl:=za X;have a9:=cY wr;clear X cH G;go_wp2_with fail
       go_region_held3 (fun W=>Ext wr W) (first|assumption|(refine fC ?_;assumption)|(refine eO ?_ aM;assumption)|(refine eO ?_ aM;refine fC ?_;assumption)) (first|(go_at_call 225;refine (zdZ (aC.out _ ?_) hp (by rw [<- HN.out];exact hlt) ap).mono ?_;(first|assumption|(refine fC ?_;assumption));rintro e w3 ⟨rfl,ba⟩))
       have aS:Ext wr w3:=aM;obtain⟨j,hj⟩:∃ j,Hid (aGo p i l=j):=⟨_,rfl⟩;rw [hj.out] at ae ⊢;have CJ:∀ W,Ext wr W->W.cell? ⟨g,j,fW⟩=fV (.int iX (v.getD j 0:Nat)):=fun W hW=>hW.aa (zcy zkr ae);obtain⟨x,hx⟩:∃ x,Hid (v.getD i 0=x):=⟨_,rfl⟩;obtain⟨y,hy⟩:∃ y,Hid (v.getD j 0=y):=⟨_,rfl⟩;have aT:x<65536:=by rw [<- hx.out];exact zbF o.out.lt i
       have aw:y<65536:=by rw [<- hy.out];exact zbF o.out.lt j
       rw [hx.out] at CI;rw [hy.out] at CJ;have Q:zcq s.edges x (l:Int)<65536:=zeY O _ _;obtain⟨z,hz⟩:∃ z,Hid (zcq s.edges x (l:Int)=z):=⟨_,rfl⟩;rw [hz.out] at Q;have aK:=zcf (a:=y) (b:=z) tM tM;have aP:(j:Int)<(N:Int):=oM;obtain⟨u,hu⟩:∃ u,Hid (y|||z=u):=⟨_,rfl⟩;have av:u<65536:=by rw [<- hu.out];exact eQ (n:=16) aw Q
       rw [hu.out] at aK;go_wp2_with fail
       go_region_held3 (fun W=>Ext wr W) (first|assumption|(refine fC ?_;assumption)|(refine eO ?_ aM;assumption)|(refine eO ?_ aM;refine fC ?_;assumption)) (first|(go_at_call 224;refine (zih (c:=c) (k0:=s.st.toNat) (aD.out _ ?_) O.2.2.1 (oH O.2.1) tM).mono ?_;(first|assumption|(refine fC ?_;assumption));rw [hz.out];rintro e w4 ⟨rfl,bb⟩))
       have S:Ext wr w4:=aM;have cJ:=CJ w4 S;have Y:=t.ext S;have D:=zi zkr S;have J:v.getD (aGo p i l) 0|||zcq s.edges (v.getD i 0) (l:Int)=u:=by rw [hj.out,hx.out,hy.out,hz.out,hu.out]
       have ak:=za J;have F:=o.out.step O hp HN.out hlt M;rw [J,hj.out] at F;have ab:=za F;clear J F CH CB CI CJ
       by_cases he:u=y
       ·have aF:=za (closedAt_of (T:=v) (p:=p) (i:=i) O M (by rw [ak.out,hj.out,hy.out,he]));have aJ:((u:Int) != (y:Int))=j3:=by rw [he];simp
        clear he;go_wp2_with fail
        go_roundw
        case rel=>exact⟨C,k+1,v,rfl,gM,oM,o,r,za (fun h=>⟨(f.out h).1,fun k' l' V hl'=>by
         rcases dY (eG V) with h1|rfl
         ·exact (f.out h).2 k' l' h1 hl'
         ·rw [Hl.out] at hl';obtain rfl:=kA hl';exact aF.out⟩),D,Y⟩
        case measure=>exact uM
       ·have aJ:((u:Int) != (y:Int))=jV:=by simp;omega
        have ag:=room_set v j z (by rw [hy.out,hu.out];exact av);rw [hy.out,hu.out] at ag;have Z:=ag.2 (by rw [o.out.len];exact ae) he;have am:=za Z;have ar:=(D.stored j (.int iX (u:Nat))).1;rw [<- zeU] at ar;have a3:=D.frozenAt j;clear ag Z he;go_wp2_with fail
        go_roundw
        case rel=>exact⟨jV,k+1,v.set j u,rfl,gM,oM,za ab.out,za ⟨by have:=am.out;have:=r.out.1;omega,fun _=>by have:=am.out;have:=r.out.1;omega⟩,za (fun h=>by cases h),ar,Y.trans (dG _ g j _)⟩
        case measure=>exact uM
      ·go_wp2_with fail
       go_roundw
       case rel=>exact⟨C,i+1,v,rfl,gM,oM,o,r,za (fun h i' l hi' X=>by
        rcases dY (eG hi') with h1|rfl
        ·exact (f.out h).1 i' l h1 X
        ·obtain⟨k',V⟩:=eA ((H.out l).2 X);exact (f.out h).2 k' l (by have:=(kB.1 V).1;omega) V),zkr,t⟩
       case measure=>exact uM
    ·go_wp2_with fail
     have af:=za (memT_own zkr o.out.len);go_roundw
     case rel=>exact⟨C,v,rfl,o,za (fun h i l hi X=>f.out h i l oM X),zkr,t⟩
     case measure =>
      rw [aq.out,af.out];have h1:=r.out;cases C
      ·simp;omega
      ·have:=h1.2 rfl
       simp;omega
end
def RetSt (N:Nat) (Q:Nat->Nat->Prop) (w:j2) (e:Ending) (w':j2):Prop:=
 ∃ (T:List Nat) (g c:Nat),e=j7 (fF (fV g) N c)/\w'.ownsRow w.heap.size 3 1 (fF (fV g) N c) N (zah T)/\zaR T N Q/\Ext w w'
def mset (s:Sys) (x l:Nat):Nat:=if s.al.toNat.testBit l then zcq s.edges x (l:Int) else x
theorem mset_bit (hs:Sml s) (x l q':Nat):(mset s x l).testBit q'=jV↔∃ q,x.testBit q=jV/\q'∈cho s q l:=by
 unfold mset;split
 ·rename_i h;exact zgq hs h x q'
 ·rename_i h;constructor
  ·intro h1;exact⟨q',h1,by unfold cho;rw [if_neg h];simp⟩
  ·rintro ⟨q,h1,h2⟩;unfold cho at h2;rw [if_neg h] at h2;simp at h2;rw [h2];exact h1
theorem mset_lt (hs:Sml s) (hx:x<65536) (l:Nat):mset s x l<65536:=by
 unfold mset;split
 ·exact zeY hs _ _
 ·exact hx
structure MvI (s:Sys) (p:Aut) (l N:Nat) (T:List Nat) (k:Nat) (O:List Nat):Prop where
 len:O.length=N
 lt:∀ x∈O,x<65536
 bit:∀ j q',zdF O j q'↔∃ i q,i<k/\zdF T i q/\q'∈cho s q l/\j=aGo p i l
theorem MvI.step (h:MvI s p l N T k O)(hs:Sml s)(hp:zj p=jV)(hN:N=p.next.length)(hT:∀ x∈T,x<65536)(hk:k<N)(hl:l<6) :
  MvI s p l N T (k+1) (O.set (aGo p k l) (O.getD (aGo p k l) 0|||mset s (T.getD k 0) l)):=by
 have a:aGo p k l<O.length:=by rw [h.len,hN];exact zdL hp oM hl
 refine⟨by rw [fB];exact h.len,fun x hx=>?_,fun j q'=>?_⟩
 ·rcases e8 hx with hx|rfl
  ·exact h.lt x hx
  ·exact eQ (n:=16) (zbF h.lt _) (mset_lt hs (zbF hT _) _)
 ·rw [zcX a,h.bit,mset_bit hs];constructor
  ·rintro (⟨i,q,h1,h2,h3,h4⟩|⟨h1,q,h2,h3⟩)
   ·exact⟨i,q,oM,h2,h3,h4⟩
   ·exact⟨k,q,oM,h2,h3,h1⟩
  ·exact yX07a3
theorem MvI.zero (s:Sys) (p:Aut) (l N:Nat) (T:List Nat):MvI s p l N T 0 (dT N 0):=by
 refine⟨sM,fun x hx=>by rw [iR] at hx;omega,fun j q'=>?_⟩;constructor
 ·intro h;unfold zdF at h;rw [dF] at h;cases h1:(dT N 0)[j]? with
  |none=>rw [h1] at h;simp at h
  |some x =>
   have:=dD h1;rw [iR] at this;rw [h1,this.2] at h;simp at h
 ·rintro ⟨_,_,h,_⟩;omega
theorem MvI.fin {B:Nat->Nat->Prop}(h:MvI s p l N T N O)(hT:zaR T N B):zaR O N (mvB s p l B):=by
 refine⟨h.len,h.lt,fun j q'=>?_⟩;rw [h.bit];constructor
 ·rintro ⟨i,q,h1,h2,h3,h4⟩;exact⟨q,i,(hT.2.2 i q).1 h2,h3,h4⟩
 ·rintro ⟨q,i,h2,h3,h4⟩;have a:=(hT.2.2 i q).2 h2;exact⟨i,q,by rw [<- hT.1];exact zhC a,a,h3,h4⟩
def badT (p:Aut) (T:List Nat) (N:Nat):Bool:=(List.range N).any fun i=>T.getD i 0 != 0&&!zaw p i
theorem zjw :badT p T N=jV↔∃ i,i<N/\T.getD i 0≠0/\zaw p i=j3:=by
 unfold badT;rw [List.any_eq_true];constructor
 ·rintro ⟨i,h1,h2⟩;rw [List.mem_range] at h1;simp only [dI,bne_iff_ne,gH] at h2;exact⟨i,h1,h2.1,h2.2⟩
 ·rintro ⟨i,h1,h2,h3⟩;exact⟨i,List.mem_range.2 h1,by simp [h3];simpa using h2⟩
section
variable {w:j2} {lo hi n c m d m' d' L:Nat} {A B B':Option Addr} {s:Sys} {p:Aut}
theorem spec_l9Start (hS:zY w lo hi A n s)(hP:zK w lo hi B m B' m' p)(hv:zl s=jV)(hp:zj p=jV)(hL:L<64)(hhi:hi<=w.heap.size)(hN:N=p.next.length) :
  j8 j5 147 #[j4 #[s.al,s.st,fF A n c,p.al,fF B m d,fF B' m' d',L]] w (RetSt N (PR s p L []) w):=by
 have M:m=N:=hP.n1.trans hN.symm;subst M;have g:1<=m/\m<=12:=by have:=(zk hp).2.1;omega
 have F:=za (fun W (hW:Ext w W)=>hS.ext hW);have E:=za (fun W (hW:Ext w W)=>hP.ext hW);have D:=za hN;clear hS hP hN
 go_enter Tryz.func147,Tryz.ntmps147
 go_upto_region 1 with fail
 generalize U0:w.alloc _=l at *;obtain⟨a,r⟩:=gP U0;have H:=r.lt;clear U0;have C:=r.cell;go_upto_region 2 with (at_make;refine zbi l l rfl _ _ 110 rfl 3 _ 1 8 Tryz.underlying110 zR _ _ m rfl rfl (cY _) oM lM ?_;intro w2 hx2 zkB hx23 hsz2)
 rw [madeZ] at zkB;have j:=(zkB.stored 0 (.int iX 1)).1;rw [show (zah (dT m 0)).set 0 (.int iX 1)=zah ((dT m 0).set 0 1) from (zeU (i:=0) (v:=1) (R:=dT m 0)).symm] at j;have J:=zkB.frozenAt 0;have I:=zcy zkB (show 0<m by omega);have f:=(a.trans hx2).setCell (p:=⟨l.heap.size,0,fW⟩) a.size (.int iX 1);have z:=(r.ext hx2).far (p:=⟨l.heap.size,0,fW⟩) (by dsimp only;omega) (.int iX 1);have G:(0:Int)<(m:Int):=oM;clear C;have C:=z.cell;have Q:=za (fun o (hT':zaR o m (fun q i=>q=0/\i=0))=>hT');have u:=F.out _ f;have t:=E.out _ f;have x:=zio g.1;have O:=a.size;clear hx23;go_wp2_with fail
 refine (zgV (c:=c) (d:=d) (d':=d') u t hv hp hL D.out oM j x).mono ?_;rintro e S ⟨o,rfl,b,y,h⟩;go_wp2_with fail
 go_ret;exact⟨o,l.heap.size,m,rfl,zn b a.size,y,f.frm h (fun k hk e=>oM)⟩
theorem spec_l9Move {Q:Nat->Nat->Prop}(hS:zY w lo hi A n s)(hP:zK w lo hi B m B' m' p)(hv:zl s=jV)(hp:zj p=jV)(hL:L<64)(hhi:hi<=w.heap.size)(hN:N=p.next.length)(hl:l<6)
  (zkr:w.ownsRow b0 3 1 (fF (fV g0) N c0) N (zah T)) (hT:zaR T N Q) :
  j8 j5 149 #[j4 #[s.al,s.st,fF A n c,p.al,fF B m d,fF B' m' d',L],fF (fV g0) N c0,l] w (RetSt N (Cl s p L (mvB s p l Q)) w):=by
 have D:=zcl hv;obtain⟨aD,aE⟩:=zac hv;obtain⟨al,C⟩:∃ al:Nat,Hid (s.al=al):=⟨s.al.toNat,by unfold Hid;omega⟩;have am:al<64:=oH C.out;have U:=za (show s.al.toNat=al by have:=C.out;omega);have au:1<=N/\N<=12:=by have:=(zk hp).2.1;omega
 have HS:=za (fun W (hW:Ext w W)=>hS.ext hW);have HP:=za (fun W (hW:Ext w W)=>hP.ext hW);have J:=za hN;have HT:=za hT;have aG:=(zkr.lt g0 rfl).2;clear hS hP hN hT
 go_enter Tryz.func149,Tryz.ntmps149
 go_upto_region 1 with fail
 generalize U0:w.alloc _=w1 at *;obtain⟨V,b1⟩:=gP U0;have aF:=b1.lt;clear U0;go_wp2_with (at_make;refine zbi w1 w1 rfl _ _ 110 rfl 3 _ 1 8 Tryz.underlying110 zR _ _ N rfl rfl (cY _) oM lM ?_;intro w2 hx2 zkB hx23 hsz2)
 rw [madeZ] at zkB;have ax:=V.size;have ap:=V.trans hx2;clear hx23;obtain⟨r,S⟩:∃ r,r=w1.heap.size:=⟨_,rfl⟩;rw [<- S] at zkB ⊢;have aC:w.heap.size<r:=oM;clear S
 go_loopw [8] (fun iv wr=>∃ (i:Nat) (O:List Nat),iv=.int iX i/\i<=N/\Hid (MvI s p l N T i O)/\wr.ownsRow r 3 1 (fF (fV r) N N) N (zah O)/\Frm (fun k=>k=r) w2 wr) (fun iv _=>N - (intOf iv).toNat)
 case atStart=>exact⟨0,_,rfl,dH _,za (MvI.zero s p l N T),zkB,Frm.refl _ _⟩
 case round =>
  clear zkB;obtain⟨i,O,rfl,hi,hO,f,t⟩:=hrel;have h:Ext w wr:=ap.frm t (fun k hk e=>oM);have k1:=((b1.ext hx2).frm t oM).cell
  by_cases hlt:i<N
  ·have aw:(i:Int)<(N:Int):=oM;have cI:=zcy (zi zkr h) hlt;obtain⟨x,hx⟩:∃ x,Hid (T.getD i 0=x):=⟨_,rfl⟩;have X:x<65536:=by rw [<- hx.out];exact zbF HT.out.2.1 i
   rw [hx.out] at cI;have CB:∀ W,Ext wr W->∀ q,W.cell? ⟨w.heap.size,q,fW⟩=#[Value.int iX al,.int iX s.st,fF A n c,.int iX p.al,fF B m d,fF B' m' d',.int iX L][q]?:=fun W hW q=>by rw [(((b1.ext hx2).frm t oM).ext hW).cell,C.out]
   have CI:∀ W,Ext wr W->W.cell? ⟨g0,i,fW⟩=fV (.int iX (x:Nat)):=fun W hW=>hW.aa cI;obtain⟨j,hj⟩:∃ j,Hid (aGo p i l=j):=⟨_,rfl⟩;have an:j<N:=by rw [<- hj.out,J.out];exact zdL hp (by rw [<- J.out];exact hlt) hl
   have av:(j:Int)<(N:Int):=oM;obtain⟨v,H⟩:∃ v,Hid (O.getD j 0=v):=⟨_,rfl⟩;obtain⟨y,hy⟩:∃ y,Hid (mset s x l=y):=⟨_,rfl⟩;obtain⟨u,hu⟩:∃ u,Hid (v|||y=u):=⟨_,rfl⟩;have az:v<65536:=by rw [<- H.out];exact zbF hO.out.lt j
   have aA:y<65536:=by rw [<- hy.out];exact mset_lt D X l
   have ao:=zcf (a:=v) (b:=y) tM tM;rw [hu.out] at ao;have CJ:∀ W,Ext wr W->W.cell? ⟨r,j,fW⟩=fV (.int iX (v:Nat)):=fun W hW=>hW.aa (H.out ▸ zcy f an);have FJ:∀ W,Ext wr W->W.frozen? ⟨r,j,fW⟩=j3:=fun W hW=>(zi f hW).frozenAt j;have g:=hO.out.step D hp J.out HT.out.2.1 hlt hl;rw [hj.out,H.out,hx.out,hy.out,hu.out] at g;have o:=za g;have M:=za (fun W (hW:Ext wr W)=>((zi f hW).stored j (.int iX (u:Nat))).1);have aH:=cY wr;clear g k1 cI;cases hb:al.testBit l
   ·have Hb:=za hb;have I:x=y:=by rw [<- hy.out];unfold mset;rw [U.out,hb];rfl
    subst I;clear hb;go_wp2_with (first
     |(go_at_call 143;refine (zax al l tM _ oM).mono ?_;rw [Hb.out];rintro e w' ⟨rfl,rfl⟩)
     |(go_at_call 225;refine (zdZ (HP.out _ h) hp (by rw [<- J.out];exact hlt) hl).mono ?_;rw [hj.out];rintro e w4 ⟨rfl,E⟩))
    have z:=M.out w4 E;rw [<- zeU] at z;go_roundw
    case rel=>exact⟨i+1,O.set j u,gM,oM,o,z,(t.ext E).trans (dG _ r j _)⟩
    case measure=>exact uM
   ·have Hb:=za hb;have I:Hid (zcq s.edges x (l:Int)=y):=by unfold Hid;rw [<- hy.out];unfold mset;rw [U.out,hb];rfl
    clear hb;go_wp2_with (first
     |(go_at_call 143;refine (zax al l tM _ oM).mono ?_;rw [Hb.out];rintro e w' ⟨rfl,rfl⟩)
     |(go_at_call 224;rw [<- C.out];refine (zih (c:=c) (k0:=s.st.toNat) (HS.out _ h) D.2.2.1 (oH D.2.1) tM).mono ?_;rw [I.out];rintro e w3 ⟨rfl,Y⟩;have Z:=h.trans Y)
     |(go_at_call 225;refine (zdZ (HP.out _ Z) hp (by rw [<- J.out];exact hlt) hl).mono ?_;rw [hj.out];rintro e w4 ⟨rfl,E⟩;have F:=Y.trans E))
    have z:=M.out w4 F;rw [<- zeU] at z;go_roundw
    case rel=>exact⟨i+1,O.set j u,gM,oM,o,z,(t.ext F).trans (dG _ r j _)⟩
    case measure=>exact uM
  ·obtain rfl:i=N:=oM;have zku:=hO.out.fin HT.out;go_wp2_with fail
   refine (zgV (c:=c) (d:=d) (d':=d') (HS.out _ h) (HP.out _ h) hv hp hL J.out oM f zku).mono ?_;rintro e w4 ⟨T',rfl,G,ak,R⟩;go_wp2_with fail
   go_ret;exact⟨T',r,i,rfl,zn G oM,ak,h.frm R (fun k hk e=>oM)⟩
end
noncomputable def zu (s:Sys) (p:Aut) (L:Nat) (t:ByteArray):Bool:=by
 classical exact inB t L&&decide (SafeW s p L (wl t))
theorem zdh {L:Nat} {t:ByteArray}:zu s p L t=jV↔inB t L=jV/\SafeW s p L (wl t):=by
 unfold zu;simp
section
variable {w:j2} {lo hi n c m d m' d' L:Nat} {A B B':Option Addr} {s:Sys} {p:Aut}
theorem spec_l9Bad (hP:zK w lo hi B m B' m' p)(hp:zj p=jV)(hN:N=p.next.length)
  (zkr:w.ownsRow b0 3 1 (fF (fV g0) N c0) N (zah T)) :
  j8 j5 148 #[j4 #[s.al,s.st,fF A n c,p.al,fF B m d,fF B' m' d',L],fF (fV g0) N c0] w fun e w'=>e=j7 (.bool (badT p T N))/\Ext w w':=by
 have o:1<=N/\N<=12:=by have:=(zk hp).2.1;omega
 have k:m'=N:=by rw [hP.n2,(zk hp).2.2.1,hN]
 have u:=za (fun W (hW:Ext w W) q hq=>zfR (q:=q) (hP.ext hW) hq);obtain⟨t,U0⟩:∃ x,Hid (w.alloc (.cells #[s.al,s.st,fF A n c,p.al,fF B m d,fF B' m' d',L] 70)=x):=⟨_,za rfl⟩;have b:Ext w t:=((cY _).alloc _).trans (Ext.eq_ U0.out);have v:=dZ U0.out;subst k;clear hP hN
 go_enter Tryz.func148,Tryz.ntmps148
 go_upto_region 1 with fail
 rw [U0.out] at *;have D:=v.cell;go_wp2_with fail
 go_loop [5] (fun iv=>∃ i:Nat,iv=.int iX i/\i<=m'/\Hid (∀ j,j<i->T.getD j 0=0\/zaw p j=jV)) (fun iv=>m' - (intOf iv).toNat)
 case atStart=>exact⟨0,rfl,dH _,za (fun j h=>oM)⟩
 case round =>
  obtain⟨i,rfl,hi,a⟩:=hrel
  by_cases hlt:i<m'
  ·have r:(i:Int)<(m':Int):=oM;obtain⟨C,rfl,l⟩:=u.out t b i hlt;have y:=zcy (zi zkr b) hlt;obtain⟨x,hx⟩:∃ x,Hid (T.getD i 0=x):=⟨_,rfl⟩;rw [hx.out] at y
   by_cases h0:x=0
   ·subst h0;go_wp2_with fail
    go_round
    case rel=>exact⟨i+1,gM,oM,za (fun j hj=>by
     rcases dY (eG hj) with h1|rfl
     ·exact a.out j h1
     ·exact .inl hx.out)⟩
    case measure=>exact uM
   ·have z:((x:Int) != 0)=jV:=by simp;omega
    cases zks:zaw p i
    ·have g:=za (show badT p T m'=jV from zjw.2 ⟨i,hlt,by rw [hx.out];exact h0,zks⟩);rw [zks] at l;clear zks h0;go_wp2_with fail
     go_ret;exact⟨zo (by rw [g.out]),b⟩
    ·have f:=za zks;rw [zks] at l;clear zks h0;go_wp2_with fail
     go_round
     case rel=>exact⟨i+1,gM,oM,za (fun j hj=>by
      rcases dY (eG hj) with h1|rfl
      ·exact a.out j h1
      ·exact .inr f.out)⟩
     case measure=>exact uM
  ·obtain rfl:i=m':=oM;have g:=za (show badT p T i=j3 by
    rw [eV];intro h;obtain⟨j,h1,h2,h3⟩:=zjw.1 h;rcases a.out j h1 with h4|h4
    ·exact h2 h4
    ·rw [h3] at h4;cases h4)
   go_wp2_with fail
   go_ret;exact⟨zo (by rw [g.out]),b⟩
theorem zfq (hS:zY w lo hi A n s)(hP:zK w lo hi B m B' m' p)(hv:zl s=jV)(hp:zj p=jV)(hL:L<64) :
  j8 j5 145 #[j4 #[s.al,s.st,fF A n c,p.al,fF B m d,fF B' m' d',L]] w fun e w'=>e=j7 (.bool jV)/\Ext w w':=by
 have j:=za (fun W (hW:Ext w W)=>zaz (c:=c) (hS.ext hW));have i:=za (fun W (hW:Ext w W)=>zW _ _ _ _ d _ _ d' _ _ (hP.ext hW));rw [hv] at j;rw [hp] at i;have g:=za (show (decide ((0:Int)<=L/\(L:Int)<=63))=jV by simp;omega);clear hS hP hv hp
 go_enter Tryz.func145,Tryz.ntmps145
 go_upto_region 1 with fail
 generalize U0:w.alloc _=o at *;obtain⟨a,k⟩:=gP U0;clear U0;have q:=k.cells;have l:=cY o;go_wp2_with (first
  |(go_at_call 185;refine (j.out _ a).mono (mQ fun r b=>?_))
  |(go_at_call 79;refine (i.out _ (a.trans b)).mono (mQ fun t h=>?_);have f:=b.trans h)
  |(go_at_call 142;refine (zZ _ _).mono ?_;rw [g.out];rintro e u ⟨rfl,rfl⟩))
 go_ret;exact⟨rfl,a.trans f⟩
theorem zjx (h:zaR T N (PR s p L (v.take k))):badT p T N=jV↔Bad s p L (v.take k):=zjw.trans (stand_bad h).symm
theorem zgn {t:ByteArray}(hS:zY w lo hi A n s)(hP:zK w lo hi B m B' m' p)(hv:zl s=jV)(hp:zj p=jV)(hL:L<64)(hhi:hi<=w.heap.size)(ht:t.size<=9223372036854775807) :
  j8 j5 62 #[j4 #[s.al,s.st,fF A n c,p.al,fF B m d,fF B' m' d',L],t] w fun e w'=>e=j7 (.bool (zu s p L t))/\Ext w w':=by
 obtain⟨N,Y⟩:∃ N,Hid (N=p.next.length):=⟨_,rfl⟩;have HV:=za (fun W (hW:Ext w W)=>zfq (c:=c) (d:=d) (d':=d') (L:=L) (hS.ext hW) (hP.ext hW) hv hp hL);have U:=za (fun W (hW:Ext w W)=>spec_l9Start (c:=c) (d:=d) (d':=d') (L:=L) (N:=N) (hS.ext hW) (hP.ext hW) hv hp hL (dL hhi hW.size) Y.out);have R:=za (fun (g0 z c0:Nat) (T:List Nat) W (hW:Ext w W) (ho:W.ownsRow z 3 1 (fF (fV g0) N c0) N (zah T))=>spec_l9Bad (A:=A) (n:=n) (c:=c) (d:=d) (d':=d') (L:=L) (s:=s) (hP.ext hW) hp Y.out ho);have HM:=za (fun (l g0 z c0:Nat) (T:List Nat) (Q:Nat->Nat->Prop) W (hW:Ext w W) (I:l<6) (ho:W.ownsRow z 3 1 (fF (fV g0) N c0) N (zah T)) (u:zaR T N Q)=>spec_l9Move (c:=c) (d:=d) (d':=d') (L:=L) (hS.ext hW) (hP.ext hW) hv hp hL (dL hhi hW.size) Y.out I ho u);have a:Ext w (w.alloc (.cells #[s.al,s.st,fF A n c,p.al,fF B m d,fF B' m' d',L] 70)):=(cY _).alloc _;have b1:=Blk.new w 70 #[s.al,s.st,fF A n c,p.al,fF B m d,fF B' m' d',L];clear hS hP;cases hin:inB t L
 ·have r:=za hin;have zku:=za (show zu s p L t=j3 by rw [eV];intro h;have:=(zdh.1 h).1;rw [hin] at this;cases this);clear hin
  go_enter Tryz.func62,Tryz.ntmps62
  go_upto_region 1 with fail
  generalize w.alloc _=O at *;have CB:=b1.cells;have ae:=cY O;go_wp2_with (first
   |(go_at_call 145;refine (HV.out _ a).mono (mQ fun w2 o=>?_))
   |(go_at_call 146;refine (zbb ht oM).mono ?_;rw [r.out];rintro e w3 ⟨rfl,rfl⟩))
  go_ret;exact⟨zo (by rw [zku.out]),a.trans o⟩
 ·have r:=za hin;have X:=za (fun k Z=>zaV (zbp hin) (k:=k) Z);clear hin
  go_enter Tryz.func62,Tryz.ntmps62
  go_upto_region 1 with fail
  generalize w.alloc _=O at *;have CB:=b1.cells;have ae:=cY O;go_wp2_with (first
   |(go_at_call 145;refine (HV.out _ a).mono (mQ fun w2 o=>?_))
   |(go_at_call 146;refine (zbb ht oM).mono ?_;rw [r.out];rintro e w3 ⟨rfl,rfl⟩)
   |(go_at_call 147;refine (U.out _ (a.trans o)).mono ?_;rintro e w4 ⟨T,g,F,rfl,zkr,u,M⟩;have y:=o.trans M))
  go_loopw [5,6] (fun v iv wr=>∃ (k g z F:Nat) (T:List Nat),iv=.int iX k/\k<=t.size/\v=fF (fV g) N F/\wr.ownsRow z 3 1 (fF (fV g) N F) N (zah T)/\Hid (zaR T N (PR s p L ((wl t).take k)))/\Hid (∀ j,j<k->¬ Bad s p L ((wl t).take j))/\Ext O wr) (fun _ iv _=>t.size - (intOf iv).toNat)
  case atStart=>exact⟨0,g,_,F,T,rfl,dH _,rfl,zkr,za (by simpa using u),za (fun j h=>oM),y⟩
  case round =>
   clear zkr u o M y;obtain⟨k,g,z,F,T,rfl,Z,rfl,zkr,u,i,b⟩:=hrel
   by_cases hlt:k<t.size
   ·have ai:(k:Int)<(t.size:Int):=oM;obtain⟨l,I⟩:∃ l:Nat,Hid ((t[k].toNat:Int) - 97=l):=⟨t[k].toNat - 97,by unfold Hid;have:=X.out k hlt;omega⟩;have aa:l<6:=by have:=I.out;have:=X.out k hlt;omega
    have ad:=za (show (wl t).take (k+1)=(wl t).take k++[l] by rw [dO,zey hlt,eH,show t[k].toNat - 97=l by have:=I.out;have:=X.out k hlt;omega]);cases hbad:badT p T N
    ·have f:=za hbad;have ab:=za (show ¬ Bad s p L ((wl t).take k) by rw [<- zjx u.out,hbad];decide);clear hbad;go_wp2_with (first|(go_at_call 148;refine (R.out _ _ _ _ _ (a.trans b) zkr).mono ?_;rw [f.out];rintro e w5 ⟨rfl,x⟩;have q:=b.trans x))
     have G:=za (fun W (hW:Ext wr W)=>HM.out l g z F T _ W ((a.trans b).trans hW) aa (zi zkr hW) u.out);have S:=fun W (hW:Ext wr W)=>CB W (b.trans hW)
     go_region_held3 (fun W=>Ext wr W) (first|assumption|(refine fC ?_;assumption)|(refine eO ?_ aM;assumption)|(refine eO ?_ aM;refine fC ?_;assumption)) (first
      |(go_at_call 144;refine (zbJ t k hlt _).mono ?_;rw [I.out];rintro e w6 ⟨rfl,rfl⟩)
      |(go_at_call 149;refine (G.out _ ?_).mono ?_;(first|assumption|(refine fC ?_;assumption));rintro e w7 ⟨T7,g7,c7,rfl,D,C,aq⟩))
     have J:Ext O w7:=b.trans aM;rw [<- PR_snoc,<- ad.out] at C;have V:=za C;clear C G S;go_wp2_with fail
     go_roundw
     case rel=>exact⟨k+1,g7,_,c7,T7,gM,oM,rfl,D,V,za (fun j hj=>by
      rcases dY (eG hj) with h1|rfl
      ·exact i.out j h1
      ·exact ab.out),J⟩
     case measure=>exact uM
    ·have f:=za hbad;have zku:=za (show zu s p L t=j3 by
      rw [eV];intro h;exact (zdh.1 h).2 k (by rw [zft];omega) ((zjx u.out).1 hbad))
     clear hbad;go_wp2_with (first
      |(go_at_call 148;with_reducible refine (R.out _ _ _ _ _ (a.trans b) zkr).mono ?_;rw [f.out];rintro e w5 ⟨rfl,x⟩;have q:=b.trans x)
      |(go_at_call 148;refine (R.out _ _ _ _ _ (a.trans q) (zi zkr x)).mono ?_;rw [f.out];rintro e w6 ⟨rfl,E⟩))
     go_ret;exact⟨zo (by rw [zku.out]),a.trans (q.trans E)⟩
   ·have H:k=t.size:=oM;have ap:(t.size:Int)<=(k:Int):=oM;have zku:=za (show zu s p L t=!badT p T N by
     rw [Bool.eq_iff_iff,zdh,gH,<- Bool.not_eq_true,zjx u.out];constructor
     ·intro h;exact h.2 k (by rw [zft];omega)
     ·intro h;refine⟨r.out,fun j hj=>?_⟩;rw [zft] at hj;rcases dY hj with h1|rfl
      ·exact i.out j oM
      ·rw [H] at h;exact h)
    clear H hlt Z;go_wp2_with (first
     |(go_at_call 148;refine (R.out _ _ _ _ _ (a.trans b) zkr).mono (mQ fun w6 E=>?_)))
    go_ret;exact⟨zo (by rw [zku.out]),a.trans (b.trans E)⟩
end
def RetNumS (w:j2) (e:Ending) (w':j2):Prop:=∃ (n:Int) (ok:Bool),e=j7 (.tuple #[n,j9 ok])/\w=w'
theorem zeo {s:ByteArray} (hs:s.size<=1000000) :
  j8 j5 258 #[s] w (RetNumS w):=by
 by_cases h0:s.size=0
 ·have c:¬ 0<s.size:=oM
  go_enter Tryz.func258,Tryz.ntmps258
  go_wp2;go_ret2;exact⟨0,j3,rfl,rfl⟩
 have c:0<s.size:=oM;cases hm:((s[0].toNat:Int)==45)
 ·have m:0<s.size:=c
  by_cases z0:s.size=0
  ·go_enter Tryz.func258,Tryz.ntmps258
   go_wp2;go_ret2;exact⟨0,j3,rfl,rfl⟩
  have q:0<s.size:=oM;have f:((s.size:Int)==0)=j3:=by rw [beq_eq_false_iff_ne];omega
  by_cases z2:17<s.size
  ·have a:(17:Int)<(s.size:Int):=oM
   go_enter Tryz.func258,Tryz.ntmps258
   go_wp2;go_ret2;exact⟨0,j3,rfl,rfl⟩
  have a:(s.size:Int)<=17:=oM;cases z3:((s[0].toNat:Int)==48)
  ·go_enter Tryz.func258,Tryz.ntmps258
   go_wp2_with fail
   go_loop [5,6] (fun v i=>∃ (k:Nat) (n:Int),k<=s.size/\i=.int iX k/\v=.int iX n) (fun _ i=>s.size - (intOf i).toNat)
   case atStart=>exact⟨0,0,dH _,rfl,rfl⟩
   case round =>
    obtain⟨k,n,h,rfl,rfl⟩:=hrel
    by_cases hlt:k<s.size
    ·have g:=zcM s k hlt
     by_cases c0:(s[k].toNat:Int)<48
     ·go_wp2_with fail
      go_ret2;exact⟨0,j3,rfl,rfl⟩
     ·by_cases c1:57<(s[k].toNat:Int)
      ·go_wp2_with fail
       go_ret2;exact⟨0,j3,rfl,rfl⟩
      ·go_wp2_with fail
       go_round
       case rel=>exact⟨k+1,_,oM,gM,rfl⟩
       case measure=>exact uM
    ·obtain rfl:k=s.size:=oM;go_wp2_with fail
     go_ret2;exact⟨_,jV,rfl,rfl⟩
  ·by_cases z4:1<s.size
   ·have b:(1:Int)<(s.size:Int):=oM
    go_enter Tryz.func258,Tryz.ntmps258
    go_wp2;go_ret2;exact⟨0,j3,rfl,rfl⟩
   ·have b:(s.size:Int)<=1:=oM
    go_enter Tryz.func258,Tryz.ntmps258
    go_wp2_with fail
    go_loop [5,6] (fun v i=>∃ (k:Nat) (n:Int),k<=s.size/\i=.int iX k/\v=.int iX n) (fun _ i=>s.size - (intOf i).toNat)
    case atStart=>exact⟨0,0,dH _,rfl,rfl⟩
    case round =>
     obtain⟨k,n,h,rfl,rfl⟩:=hrel
     by_cases hlt:k<s.size
     ·have g:=zcM s k hlt
      by_cases c0:(s[k].toNat:Int)<48
      ·go_wp2_with fail
       go_ret2;exact⟨0,j3,rfl,rfl⟩
      ·by_cases c1:57<(s[k].toNat:Int)
       ·go_wp2_with fail
        go_ret2;exact⟨0,j3,rfl,rfl⟩
       ·go_wp2_with fail
        go_round
        case rel=>exact⟨k+1,_,oM,gM,rfl⟩
        case measure=>exact uM
     ·obtain rfl:k=s.size:=oM;go_wp2_with fail
      go_ret2;exact⟨_,jV,rfl,rfl⟩
 ·obtain⟨y,o⟩:∃ y,s.extract 1 s.size=y:=⟨_,rfl⟩;have d:y.size=s.size - 1:=by rw [<- o,ByteArray.size_extract];omega
  have p:y.size<=1000000:=oM;have j:=za d;clear d;have l:(1:Int)<=(s.size:Int):=oM
  by_cases z0:y.size=0
  ·go_enter Tryz.func258,Tryz.ntmps258
   go_wp2;go_ret2;exact⟨0,j3,rfl,rfl⟩
  have q:0<y.size:=oM;have f:((y.size:Int)==0)=j3:=by rw [beq_eq_false_iff_ne];omega
  by_cases z2:17<y.size
  ·have a:(17:Int)<(y.size:Int):=oM
   go_enter Tryz.func258,Tryz.ntmps258
   go_wp2;go_ret2;exact⟨0,j3,rfl,rfl⟩
  have a:(y.size:Int)<=17:=oM;cases z3:((y[0].toNat:Int)==48)
  ·go_enter Tryz.func258,Tryz.ntmps258
   go_wp2_with fail
   go_loop [5,6] (fun v i=>∃ (k:Nat) (n:Int),k<=y.size/\i=.int iX k/\v=.int iX n) (fun _ i=>y.size - (intOf i).toNat)
   case atStart=>exact⟨0,0,dH _,rfl,rfl⟩
   case round =>
    obtain⟨k,n,h,rfl,rfl⟩:=hrel
    by_cases hlt:k<y.size
    ·have g:=zcM y k hlt
     by_cases c0:(y[k].toNat:Int)<48
     ·go_wp2_with fail
      go_ret2;exact⟨0,j3,rfl,rfl⟩
     ·by_cases c1:57<(y[k].toNat:Int)
      ·go_wp2_with fail
       go_ret2;exact⟨0,j3,rfl,rfl⟩
      ·go_wp2_with fail
       go_round
       case rel=>exact⟨k+1,_,oM,gM,rfl⟩
       case measure=>exact uM
    ·obtain rfl:k=y.size:=oM;go_wp2_with fail
     go_ret2;exact⟨_,jV,rfl,rfl⟩
  ·by_cases z4:1<y.size
   ·have b:(1:Int)<(y.size:Int):=oM
    go_enter Tryz.func258,Tryz.ntmps258
    go_wp2;go_ret2;exact⟨0,j3,rfl,rfl⟩
   ·have b:(y.size:Int)<=1:=oM
    go_enter Tryz.func258,Tryz.ntmps258
    go_wp2;go_ret2;exact⟨0,j3,rfl,rfl⟩
theorem zq:(j5.info? 9).map (fun i=>(i.zero,i.size,i.bytes))=fV (fV (.string ⟨#[]⟩),1,16):=kM
def RetStrs (L N:Nat) (w:j2) (e:Ending) (w':j2):Prop:=∃ (A:Option Addr) (n c:Nat) (l:List ByteArray),e=j7 (fF A n c)/\n=l.length/\w'.ownsRow w.heap.size 9 1 (fF A n c) n (zO l)/\(∀ x∈l,x.size<=L)/\n<=N/\Ext w w'
theorem zcF (x:ByteArray):∀ u∈(#[Value.string x]:Array j6).toList,u.oneCell'=jV:=by simp [Value.oneCell']
theorem spec_l19Cut {s:ByteArray} (hs:s.size<=1000000) :
  j8 j5 250 #[s,.int .u8 32] w (RetStrs s.size (s.size+1) w):=by
 go_enter Tryz.func250,Tryz.ntmps250
 go_wp2_with fail
 go_loopw [5,6,7] (fun v f i wr=>∃ (k m:Nat) (l:List ByteArray),k<=s.size+1/\i=.int iX k/\m<=k/\f=.int iX m/\l.length<=k/\wr.ownsRow w.heap.size 9 1 v l.length (zO l)/\Hid (∀ x∈l,x.size<=s.size)/\Ext w wr) (fun _ _ i _=>s.size+1 - (intOf i).toNat)
 case atStart=>exact⟨0,0,[],dH _,rfl,dE _,rfl,dE _,World.ownsRow_lit w #[] 0 (dE _) lM rfl,(fun x hx=>by cases hx),(cY _).alloc _⟩
 case round =>
  obtain⟨k,m,l,r,rfl,u,rfl,t,zkr,d,a⟩:=hrel
  by_cases hle:k<=s.size
  ·have n:(k:Int)<=(s.size:Int):=oM;have o:(m:Int)<=(k:Int):=oM;have h:=za (show (s.extract m k).size<=s.size by rw [ByteArray.size_extract];omega);have b:=za (show ∀ x∈l++[s.extract m k],x.size<=s.size from fun x hx=>by
    rcases kF.1 hx with h1|h1
    ·exact d.out x h1
    ·rw [List.mem_singleton.1 h1];exact h.out)
   by_cases he:k=s.size
   ·have g:((k:Int)==(s.size:Int))=jV:=by simp [he]
    have p:=za he;clear he;go_wp2_with (at_builtin;refine zX w wr rfl _ _ _ rfl 9 _ 1 16 Tryz.underlying88 zq rfl dM u5 _ _ _ _ rfl rfl a zkr rfl (zcF _) lM oM ?_;intro v' w1 hext1 zkA hg1 hat1)
    go_roundw
    case rel=>exact⟨k+1,k+1,l++[s.extract m k],oM,gM,oM,gM,by simp;omega,by simpa [zO] using zkA,b.out,aM⟩
    case measure=>exact uM
   ·have g:((k:Int)==(s.size:Int))=j3:=by rw [beq_eq_false_iff_ne];omega
    have j:k<s.size:=oM;have q:=zcM s k j;cases hc:((s[k].toNat:Int)==32)
    ·go_wp2_with fail
     go_roundw
     case rel=>exact⟨k+1,m,l,oM,gM,oM,rfl,oM,zkr,d,a⟩
     case measure=>exact uM
    ·go_wp2_with (at_builtin;refine zX w wr rfl _ _ _ rfl 9 _ 1 16 Tryz.underlying88 zq rfl dM u5 _ _ _ _ rfl rfl a zkr rfl (zcF _) lM oM ?_;intro v' w1 hext1 zkA hg1 hat1)
     go_roundw
     case rel=>exact⟨k+1,k+1,l++[s.extract m k],oM,gM,oM,gM,by simp;omega,by simpa [zO] using zkA,b.out,aM⟩
     case measure=>exact uM
  ·obtain rfl:k=s.size+1:=oM;obtain⟨A,c,rfl⟩:=zh zkr;go_wp2_with fail
   go_ret;exact⟨A,_,c,l,rfl,rfl,zkr,d.out,oM,a⟩
def RetEdgeS (w:j2) (e:Ending) (w':j2):Prop:=∃ (x:Edg) (ok:Bool),e=j7 (.tuple #[j4 #[x.fr,x.le,x.ta],j9 ok])/\Ext w w'
theorem spec_l2Parse {s:ByteArray} (hs:s.size<=1000000) :
  j8 j5 259 #[s] w (RetEdgeS w):=by
 go_enter Tryz.func259,Tryz.ntmps259
 go_wp2_with fail
 generalize U0:w.alloc _=q at *;have c:=Ext.al_ U0;have b:=dZ U0;clear U0
 go_loop [4] (fun i=>∃ k:Nat,k<=s.size/\i=.int iX k) (fun i=>s.size - (intOf i).toNat)
 case atStart=>exact⟨0,dH _,rfl⟩
 case round =>
  obtain⟨k,u,rfl⟩:=hrel;have h:=b.cell;have r:=b.frozen
  by_cases hlt:k<s.size
  ·have t:=zcM s k hlt
   by_cases c0:(97:Int)<=(s[k].toNat:Int)
   ·by_cases c1:(s[k].toNat:Int)<=102
    ·have j:=za (show (s.extract 0 k).size<=1000000 by rw [ByteArray.size_extract];omega);have l:=za (show (s.extract (k+1) s.size).size<=1000000 by rw [ByteArray.size_extract];omega);have o:(k:Int)+1<=(s.size:Int):=oM;go_wp2_with fail
     refine (zeo j.out).mono ?_;rintro e n ⟨f,m,rfl,rfl⟩;go_wp2_with fail
     refine (zeo l.out).mono ?_;rintro e n ⟨g,d,rfl,rfl⟩;go_wp2_with fail
     refine (zbJ s k hlt _).mono ?_;rintro e n ⟨rfl,rfl⟩;have zku:∀ u0 u1 u2,Ext w (((q.setCell w.heap.size u0).setCell ⟨w.heap.size,1,fW⟩ u1).setCell ⟨w.heap.size,2,fW⟩ u2):=fun u0 u1 u2=>((c.setCell (dE _) u0).setCell (dE _) u1).setCell (dE _) u2;have a:=za zku;clear zku;cases m
     ·go_wp2_with fail
      exact bodyPost_ret (v:=.tuple #[j4 #[f,.int iX ((s[k].toNat:Int) - 97),g],j9 j3]) (by simp [results,Tryz.results259,go_sem,h]) rfl ⟨⟨f,(s[k].toNat:Int) - 97,g⟩,j3,rfl,a.out _ _ _⟩
     ·go_wp2_with fail
      exact bodyPost_ret (v:=.tuple #[j4 #[f,.int iX ((s[k].toNat:Int) - 97),g],j9 d]) (by simp [results,Tryz.results259,go_sem,h]) rfl ⟨⟨f,(s[k].toNat:Int) - 97,g⟩,d,rfl,a.out _ _ _⟩
    ·go_wp2_with fail
     go_round
     case rel=>exact⟨k+1,oM,gM⟩
     case measure=>exact uM
   ·go_wp2_with fail
    go_round
    case rel=>exact⟨k+1,oM,gM⟩
    case measure=>exact uM
  ·obtain rfl:k=s.size:=oM;go_wp2_with fail
   refine bodyPost_ret (v:=.tuple #[j4 #[(0:Int),(0:Int),(0:Int)],j9 j3]) (by simp [results,Tryz.results259,go_sem,h]) rfl ⟨⟨0,0,0⟩,j3,rfl,?_⟩;exact ((c.setCell (p:=⟨w.heap.size,0,fW⟩) (dE _) _).setCell (p:=⟨w.heap.size,1,fW⟩) (dE _) _).setCell (p:=⟨w.heap.size,2,fW⟩) (dE _) _
def RetFmt (s:Sys) (w:j2) (e:Ending) (w':j2):Prop:=∃ t:ByteArray,e=j7 (.string t)/\(zl s=j3->t.size=0)/\Ext w w'
theorem valid_al (h:zl s=jV):∃ a:Nat,s.al=a/\a<64:=by
 simp only [zl,dI,decide_eq_true_eq] at h;exact⟨s.al.toNat,oM,oM⟩
theorem zgF (h:zY w lo hi A n s)(hn:n<=1000000) :
  j8 j5 260 #[j4 #[s.al,s.st,fF A n c]] w (RetFmt s w):=by
 have Q:=za (fun W (hW:Ext w W)=>h.ext hW);clear h;cases h1:zl s
 ·have L:=za h1;clear h1
  go_enter Tryz.func260,Tryz.ntmps260
  go_wp2_with (go_at_call 185;refine (zaz (Q.out _ ((cY _).alloc _))).mono ?_;rw [L.out];rintro e O ⟨rfl,hx⟩)
  go_ret;exact⟨_,rfl,fun _=>rfl,((cY _).alloc _).trans hx⟩
 ·obtain⟨p,hp,aw,ax,hf⟩:=zdo h1;obtain⟨a,ha,R⟩:=valid_al h1;have L:=za h1;have Hf:=za hf;have Hp:=za hp;have Ha:=za ha;clear h1 hf hp ha
  go_enter Tryz.func260,Tryz.ntmps260
  go_wp2_with fail
  refine (zaz (Q.out _ ((cY _).alloc _))).mono ?_;rw [L.out];rintro e O ⟨rfl,hx⟩;have b1:=zcC hx;rw [Ha.out,Hp.out] at b1;have G:=((cY w).alloc _).trans hx;have cb:=b1.cells;go_wp2_with fail
  refine tR (fun X=>Ext O X) [] (Ord.of [0,1,4,5,2,3,6,7,8]) ?_;refine tQ ?_;refine zD fun K hK=>?_;go_simp;refine (zbV R).mono ?_;rintro e w2 ⟨j,rfl,C,m⟩;have f:=((cY O).drew).trans m;have Z:¬ 9223372036854775807<j.size+1:=oM;refine hK.out _ _ f ?_;refine pT ?_;refine tQ ?_;refine zD fun K hK=>?_;go_simp;refine (zen (n:=p) oM).mono ?_;rintro e w3 ⟨y,rfl,D,q⟩;have g:=f.trans q;have q2:¬ 9223372036854775807<j.size+1+y.size:=oM;refine hK.out _ _ g ?_;refine pT ?_;refine tQ ?_;refine zap ?_;obtain⟨M,z⟩:∃ M:ByteArray,M=j++{ data:=#[32] }++y:=⟨_,rfl⟩;have B:M.size<=20:=by rw [z,ByteArray.size_append,ByteArray.size_append];show j.size+1+y.size<=20;omega
  rw [<- z];clear z Z q2 C D m q f;have d:=g;go_wp2_with fail
  go_loopw [3,4] (fun v i wr=>∃ (k:Nat) (t:ByteArray),k<=n/\i=.int iX k/\v=.string t/\t.size<=20+20*k/\Ext O wr) (fun _ i _=>n - (intOf i).toNat)
  case atStart=>exact⟨0,M,dH _,rfl,rfl,B,d⟩
  case round =>
   clear d g B;obtain⟨k,t,hk,rfl,rfl,ht,r⟩:=hrel;have ap:=cb wr r
   by_cases hlt:k<n
   ·obtain⟨b,o,x,rfl,_,_,U,c0,c1,c2⟩:=(Q.out wr (G.trans r)).2.edge hlt;obtain⟨⟨f0,f1⟩,⟨g0,g1⟩,⟨t0,t1⟩⟩:=Hf.out x (dD U.out);obtain⟨u,E⟩:∃ u:Nat,x.fr=u:=⟨x.fr.toNat,oM⟩;obtain⟨v,F⟩:∃ v:Nat,x.ta=v:=⟨x.ta.toNat,oM⟩;rw [E] at c0 f0 f1;rw [F] at c2 t0 t1;clear E F;go_wp2_with fail
    generalize U0:wr.alloc _=wq at *;have Y:=Ext.al_ U0;have S:=dZ U0;clear U0;have cq:=S.cells;have q0:¬ 9223372036854775807<t.size+1:=oM;refine tR (fun X=>Ext wq X) [] (Ord.of [0,1,2,3,6,7,10,11,4,5,8,9,12,13,14]) ?_;refine tQ ?_;refine zD fun K hK=>?_;go_simp;refine (zen (n:=u) oM).mono ?_;rintro e w2 ⟨j,rfl,C,m⟩;have H:=((cY wq).drew).trans m;have Z:¬ 9223372036854775807<t.size+1+j.size:=oM;refine hK.out _ _ H ?_;refine pT ?_;refine tQ ?_;refine zD fun K hK=>?_;go_simp;refine (zif (l:=x.le) g0 g1).mono ?_;rintro e w3 ⟨y,rfl,D,q⟩;have I:=H.trans q;have q2:¬ 9223372036854775807<t.size+1+j.size+y.size:=oM;refine hK.out _ _ I ?_;refine pT ?_;refine tQ ?_;refine zD fun K hK=>?_;go_simp;refine (zen (n:=v) oM).mono ?_;rintro e w5 ⟨t5,rfl,ay,V⟩;have J:=I.trans V;have q3:¬ 9223372036854775807<t.size+1+j.size+y.size+t5.size:=oM;refine hK.out _ _ J ?_;refine pT ?_;refine tQ ?_;refine zap ?_;have T:(t++{ data:=#[32] }++j++y++t5).size<=20+20*(k+1):=by
     simp only [ByteArray.size_append];show t.size+1+j.size+y.size+t5.size<=_;omega
    clear q0 Z q2 q3;go_wp2_with fail
    go_roundw
    case rel=>exact⟨k+1,_,oM,gM,rfl,T,(r.trans Y).trans J⟩
    case measure=>exact uM
   ·obtain rfl:n=k:=oM;go_wp2_with fail
    go_ret;have hv:=L.out;exact⟨t,rfl,fun h=>absurd (hv.symm.trans h) dM,G.trans r⟩
def Good (s:Sys):Prop:=∃ a p:Nat,s.al=a/\a<64/\s.st=p/\1<=p/\p<=16/\Few p s.edges
def zbR (w:j2) (R:Nat) (A:Option Addr) (n:Nat) (s:Sys):Prop:=
 n=s.edges.length/\n<=9223372036854775807/\(0<n->∃ (g o:Nat) (cs:Array j6),A=fV ⟨g,o,fW⟩/\R<g/\w.heap[g]?=fV (.cells cs 117 (0,0))/\∀ j u,(zw s.edges)[j]?=fV u->w.cell? ⟨g,o+j,fW⟩=fV u)
theorem zbR.at_ (h:zbR w R A n s):zY w (R+1) w.heap.size A n s:=by
 refine⟨h.1,by rw [zbj,<- h.1],h.2.1,fun h0=>?_⟩;obtain⟨g,o,d,e,a,c,b⟩:=h.2.2 h0;exact⟨⟨g,o,fW⟩,e,a,(Array.getElem?_eq_some_iff.1 c).1,fun j u hu=>by rw [zad];exact b j u hu⟩
theorem zbR.frm {S:Nat->Prop}    (h:zbR w R A n s)(hb:Frm S w w')(hS:∀ k,S k->R<k->∀ cs,w.heap[k]?≠fV (.cells cs 117 (0,0))):zbR w' R A n s:=by
 refine⟨h.1,h.2.1,fun h0=>?_⟩;obtain⟨g,o,cs,e,c,b,f⟩:=h.2.2 h0;have a:=(Array.getElem?_eq_some_iff.1 b).1;have d:¬ S g:=fun hs=>hS g hs c cs b;exact⟨g,o,cs,e,c,(hb.block g a d).trans b,fun j u hu=>(World.cell?_of_block (w:=w) (hb.block g a d)).trans (f j u hu)⟩
theorem zbR.ext (h:zbR w R A n s)(hb:Ext w w'):zbR w' R A n s:=h.frm (S:=fun _=>False) hb (fun _ hk=>hk.elim)
theorem zbR.dr (h:zbR w R A n s)(hb:Dr R w w'):zbR w' R A n s:=h.frm hb (fun k hk hR=>oM)
theorem zbR.far (h:zbR w R A n s)(hB:Blk w Z t cs)(ht:t≠117)(hb:Frm (fun k=>k=Z) w w'):zbR w' R A n s:=h.frm hb (fun k hk _ cs' hh=>by
 subst hk
 unfold Blk at hB
 rw [hB] at hh
 injection hh with hh
 injection hh with _ h2
 exact ht h2)
theorem zbR.own (h:w.ownsRow base 117 3 (fF A n c) n (zw s.edges))(hR:R<base):zbR w R A n s:=by
 have i:n=s.edges.length:=by have:=h.1;rw [zbj] at this;omega
 refine⟨i,(eF h).len,fun h0=>?_⟩;rcases h.2 with ⟨_,h1⟩|⟨g,b,a,k,l,f,_⟩
 ·omega
 ·have d:A=fV ⟨g,0,fW⟩:=by injection k
  subst d;exact⟨g,0,a,rfl,oM,f,fun j u hu=>by
   have:=h.cells (g:=g) rfl j u hu;rwa [zad] at this⟩
theorem zjU (h:w.ownsRow base e size (fF A n c) n xs):n<=c:=by
 rcases h.2 with ⟨a,i⟩|⟨g,b,d,a,_,_,f,_⟩
 ·omega
 ·injection a with _ _ h3
  omega
def RetG (R M L:Nat) (w:j2) (e:Ending) (w':j2):Prop:=
 ∃ (s:Sys) (A:Option Addr) (n c:Nat),e=j7 (j4 #[s.al,s.st,fF A n c])/\zbR w' R A n s/\Good s/\(n<=L/\n<=c)/\Rd w' R M/\Dr R w w'
def RetA (R M L:Nat) (w:j2) (e:Ending) (w':j2):Prop:=
 ∃ (s:Sys) (A:Option Addr) (n c:Nat),e=j7 (j4 #[s.al,s.st,fF A n c])/\zbR w' R A n s/\(n<=L/\n<=c)/\Rd w' R M/\Dr R w w'
structure Acc (w0 wB W:j2) (R G M:Nat) (al st:Int) (v:j6) (es:List Edg):Prop where
 blk:Blk W G 38 #[al,st,v]
 own:W.ownsRow wB.heap.size 117 3 v es.length (zw es)
 rd:Rd W R M
 dr:Dr R w0 W
 fr:Frm (fun k=>k=R\/k=G) wB W
 hR:R<w0.heap.size
 hB:w0.heap.size<=wB.heap.size
 hG:w0.heap.size<=G
section
variable {w0 wB W W':j2} {R G M N:Nat} {al st:Int} {v:j6} {es:List Edg}
theorem Acc.more (h:Acc w0 wB W R G M al st v es)(hM:M<=N):Acc w0 wB W R G N al st v es:={ h with rd:=h.rd.more hM }
theorem Acc.ext (h:Acc w0 wB W R G M al st v es)(hb:Ext W W'):Acc w0 wB W' R G M al st v es:=⟨h.blk.ext hb,zi h.own hb,h.rd.ext hb,h.dr.ext hb,h.fr.ext hb,h.hR,h.hB,h.hG⟩
theorem Acc.drawn (h:Acc w0 wB W R G M al st v es)(hb:Dr R W W')(hr:Rd W' R N):Acc w0 wB W' R G N al st v es:=
 ⟨h.blk.dr hb (by have:=h.hR;have:=h.hG;omega),zf h.own hb (fun b hv hS=>by have:=(h.own.lt b hv).1;have:=h.hR;have:=h.hB;omega),hr,h.dr.trans hb,h.fr.trans (hb.mono fun k _ hk=>Or.inl hk),h.hR,h.hB,h.hG⟩
theorem Acc.far (h:Acc w0 wB W R G M al st v es) (hv:v.ownBlock=fV b):b≠G:=by
 rintro rfl;have a:=h.blk;rcases h.own.2 with ⟨rfl,_⟩|⟨g,c,d,rfl,_,i,_⟩
 ·simp [Value.ownBlock] at hv
 ·have f:g=b:=by simpa [Value.ownBlock] using hv
  subst f;unfold Blk at a;rw [i] at a;injection a with a
  injection a with _ ht
  exact absurd ht dM
theorem Acc.setAl (h:Acc w0 wB W R G M al st v es) (x:Int):Acc w0 wB (W.setCell G x) R G M x st v es:=
 ⟨by simpa using h.blk.ae 0 _,zf h.own (dG W G 0 _) (fun b hv hS=>h.far hv hS),h.rd.frm (dG W G 0 _) (fun k hk hS=>by have:=h.hR;have:=h.hG;omega),h.dr.ag h.hG _,h.fr.cell (Or.inr rfl) _,h.hR,h.hB,h.hG⟩
theorem Acc.setSt (h:Acc w0 wB W R G M al st v es) (x:Int):Acc w0 wB (W.setCell ⟨G,1,fW⟩ x) R G M al x v es:=
 ⟨by simpa using h.blk.ae 1 _,zf h.own (dG W G 1 _) (fun b hv hS=>h.far hv hS),h.rd.frm (dG W G 1 _) (fun k hk hS=>by have:=h.hR;have:=h.hG;omega),h.dr.ag h.hG _,h.fr.cell (Or.inr rfl) _,h.hR,h.hB,h.hG⟩
theorem Acc.push {e:Edg}(h:Acc w0 wB W R G M al st v es) (zkr:W'.ownsRow wB.heap.size 117 3 (fF (fV g) (es.length+1) cap) (es.length+1) (zw es++[.int iX e.fr,.int iX e.le,.int iX e.ta]))
  (hg:W.grownBy W' v.ownBlock) (hat:v.ownBlock=fV g\/g=W.heap.size+1) :
  Hid (W'.cell? ⟨G,2,fW⟩=fV v)/\W'.frozen? ⟨G,2,fW⟩=j3/\Acc w0 wB (W'.setCell ⟨G,2,fW⟩ (fF (fV g) (es.length+1) cap)) R G M al st (fF (fV g) (es.length+1) cap) (es++[e]):=by
 have a:Blk W' G 38 #[.int iX al,.int iX st,v]:=(hg.block G h.blk.lt (fun e=>h.far e.symm rfl)).trans h.blk;have f:g≠G:=by
  rcases hat with h1|h1
  ·exact h.far h1
  ·have:=h.blk.lt;omega
 have c:Dr R w0 W':=h.dr.grown hg (fun k hk=>dL h.hB (h.own.lt k hk).1);have i:Rd W' R M:=h.rd.frm (Frm.ab hg) (fun k hk hS=>by have:=(h.own.lt k hS).1;have:=h.hR;have:=h.hB;omega);have d:Frm (fun k=>k=R\/k=G) wB W':=
  ⟨hg.os.trans h.fr.os,hg.tape.trans h.fr.tape,hg.output.trans h.fr.output,dL h.fr.size hg.size,
   fun k hk hn=>(hg.block k (eC hk h.fr.size) (fun e=>by have:=(h.own.lt k e.symm).1;omega)).trans (h.fr.block k hk hn)⟩
 refine⟨a.cell 2,a.frozen 2,⟨by simpa using a.ae 2 _,?_,i.frm (dG W' G 2 _) (fun k hk hS=>by have:=h.hR;have:=h.hG;omega),c.ag h.hG _,d.cell (Or.inr rfl) _,h.hR,h.hB,h.hG⟩⟩;have:=zf zkr (dG W' G 2 (fF (fV g) (es.length+1) cap)) (fun b hv hS=>by
  have:g=b:=by simpa [Value.ownBlock] using hv
  omega)
 rw [zcN];simpa [zw] using this
theorem Acc.reads (h:Acc w0 wB W R G M al st (fF A n c) es):n=es.length/\zY W wB.heap.size W.heap.size A n ⟨al,st,es⟩:=by
 have a:n=es.length:=by
  rcases h.own.2 with ⟨b,j⟩|⟨g,f,i,b,_⟩
  ·injection b with _ h2 _;omega
  ·injection b
 have d:=h.own;rw [<- a] at d;exact⟨a,a,eF d⟩
theorem Acc.form (h:Acc w0 wB W R G M al st v es):∃ A n c,v=fF A n c:=by
 obtain⟨A,c,e⟩:=zh h.own;exact⟨A,_,c,e⟩
theorem Acc.old (h:Acc w0 wB W R G M al st v es)   (hx:Reads wB lo hi size A n xs)(h1:∀ k,lo<=k->k<hi->k≠R/\k≠G):Reads W lo hi size A n xs:=
 hx.frm h.fr (fun k a b hS=>by have:=h1 k a b;omega)
end
theorem zeS (W:j2) (Z:Nat) (u0 u1 u2:j6):Frm (fun k=>k=Z) W (((W.setCell Z u0).setCell ⟨Z,1,fW⟩ u1).setCell ⟨Z,2,fW⟩ u2):=
 ((dG W Z 0 u0).trans (dG _ Z 1 u1)).trans (dG _ Z 2 u2)
theorem Acc.fin {w0 wB:j2} {M:Nat} {al st:Int}   (h:Acc w0 wB W R G M al st (fF A n c) es)(hZ:w0.heap.size<=Z)(hZ2:Z<wB.heap.size) (u0 u1 u2:j6) :
  zbR (((W.setCell Z u0).setCell ⟨Z,1,fW⟩ u1).setCell ⟨Z,2,fW⟩ u2) R A n ⟨al,st,es⟩ /\
  Rd (((W.setCell Z u0).setCell ⟨Z,1,fW⟩ u1).setCell ⟨Z,2,fW⟩ u2) R M/\Dr R w0 (((W.setCell Z u0).setCell ⟨Z,1,fW⟩ u1).setCell ⟨Z,2,fW⟩ u2):=by
 have a:=zeS W Z u0 u1 u2;obtain⟨f,_⟩:=h.reads;have i:=h.hR;have g:=h.hB;have d:=h.own;rw [<- f] at d;refine⟨zbR.own (s:=⟨al,st,es⟩) (zf d a (fun b hv hS=>by have:=(h.own.lt b hv).1;omega)) oM,h.rd.frm a (fun k h1 h2=>oM),?_⟩;exact ((h.dr.ag (p:=⟨Z,0,fW⟩) hZ u0).ag (p:=⟨Z,1,fW⟩) hZ u1).ag (p:=⟨Z,2,fW⟩) hZ u2
theorem zhl {p:Nat}  {e:Edg}(h:Few p es)(he:(0<=e.fr/\e.fr<p)/\(0<=e.le/\e.le<6)/\(0<=e.ta/\e.ta<p)):Few p (es++[e]):=fun x hx=>by
 rcases kF.1 hx with h1|h1
 ·exact h x h1
 ·rw [List.mem_singleton.1 h1];exact he
theorem few_nil (p:Nat):Few p []:=fun x hx=>by cases hx
theorem zer {M p:Nat} {few:Int} (h:Rd w R M)(hM:M<=900000000)(ha:a<64)(hp1:1<=p)(hp:p<=16) :
  j8 j5 207 #[.pointer (fV R),a,p,few] w (RetG R (M+20000) 20000 w):=by
 have U:Sm a:=tM;have L:=h.lt
 go_enter Tryz.func207,Tryz.ntmps207
 go_wp2_with fail
 refine (zak a U _).mono ?_;rintro e t ⟨B,d,rfl,G,z⟩;obtain⟨Y,V⟩:=zJ z;have r:=(((cY w).alloc _).alloc _).trans z;have ap:=zA a 6;have F:=za (fun k (hk:k∈letters a 6)=>(zej.1 hk).1);have s:=(eF G).more (lo':=w.heap.size+2) (hi':=t.heap.size) sM (dE _);have b:Acc w t t R (w.heap.size+1) M a p (fF fW 0 0) []:=⟨V,World.ownsRow_nil _ _ _ _,h.ext r,r.dr,Frm.refl _ _,L,r.size,oM⟩;have u:Blk t w.heap.size 38 #[.int iX 0,.int iX 0,fF fW 0 0]:=Y;clear G V z Y;generalize letters a 6=C at *;have ar:=r.size;go_wp2_with fail
 go_loopw [11] (fun i wr=>∃ k:Nat,k<=p/\i=.int iX k/\∃ (v:j6) (m:List Edg),Acc w t wr R (w.heap.size+1) (M+k*1000) a p v m/\m.length<=k*1000/\Hid (Few p m)) (fun i _=>p - (intOf i).toNat)
 case atStart=>exact⟨0,dH _,rfl,_,[],b.more (jP _ _),dH _,few_nil p⟩
 case round =>
  clear b;obtain⟨k,hk,rfl,v,m,b,q,f⟩:=hrel
  by_cases hlt:k<p
  ·go_wp2_with fail
   go_loopw [12] (fun i wr=>∃ j:Nat,j<=C.length/\i=.int iX j/\∃ (v:j6) (m:List Edg),Acc w t wr R (w.heap.size+1) (M+k*1000+j*100) a p v m/\m.length<=k*1000+j*100/\Hid (Few p m)) (fun i _=>C.length - (intOf i).toNat)
   case atStart=>exact⟨0,dH _,rfl,v,m,b.more (jP _ _),dL q (jP _ _),f⟩
   case round =>
    clear b q f;obtain⟨j,hj,rfl,v,m,b,q,f⟩:=hrel
    by_cases hlj:j<C.length
    ·go_wp2_with fail
     go_loopw [13] (fun i wr=>∃ x:Nat,x<=p/\i=.int iX x/\∃ (v:j6) (m:List Edg),Acc w t wr R (w.heap.size+1) (M+k*1000+j*100+x) a p v m/\m.length<=k*1000+j*100+x/\Hid (Few p m)) (fun i _=>p - (intOf i).toNat)
     case atStart=>exact⟨0,dH _,rfl,v,m,b.more (jP _ _),dL q (jP _ _),f⟩
     case round =>
      clear b q f;obtain⟨x,hx,rfl,v,m,b,q,f⟩:=hrel
      by_cases hlx:x<p
      ·go_wp2_with fail
       refine (zE b.rd oM).mono ?_;rintro e H ⟨y,rfl,_,_,T,Q⟩;have o:=b.drawn Q T;obtain⟨ad,l,rfl,_,O,hl,S⟩:=(o.old s oM).nat hlj;have ah:=F.out l (dD hl.out)
       by_cases hy:y=0
       ·subst hy;have cG:=fun W (hW:Ext H W)=>(o.blk.ext hW).cell;have cL:∀ W,Ext H W->W.cell? (ad.add j)=fV (.int iX (l:Nat)):=fun W hW=>hW.aa S;have am:(0:Int)<=(j:Int):=oM;have an:(j:Int)<(C.length:Int):=oM;go_wp2_with fail
        refine tR (fun X=>Ext H X) [10,12] (Ord.of [0,1,2,3,4,5,6,7,8,9,10,11,12]) ?_;refine tQ ?_;refine zD fun K hK=>?_;go_simp;refine hK.out _ _ ((cY _).drew.alloc _) ?_;refine pT ?_;refine zQ fun K hK=>?_;refine zaE t H.drew _ _ _ rfl 117 _ 3 24 Tryz.underlying36 zbm rfl dM v m.length (zw m) _ _ rfl rfl o.fr.size o.own rfl (by simp [Value.oneCell']) lM oM ?_;intro g cap w3 zkC hg3 hat3 hlt3;refine hK.out _ _ ?_;refine pT ?_;refine tQ ?_;obtain⟨h1,h2,h3⟩:=(o.ext ((cY _).drew)).push (e:=⟨k,l,x⟩) (W':=w3) zkC hg3 hat3;have al:=h1.out;refine zQ fun K hK=>?_;go_simp;refine hK.out _ _ ?_;refine zap ?_;go_wp2_with fail
        go_roundw
        case rel=>exact⟨x+1,oM,gM,_,_,h3.more oM,by simp;omega,zhl f.out (by simp;omega)⟩
        case measure=>exact uM
       ·have aq:((y:Int)==0)=j3:=by simp;omega
        go_wp2_with fail
        go_roundw
        case rel=>exact⟨x+1,oM,gM,v,m,o.more oM,oM,f⟩
        case measure=>exact uM
      ·obtain rfl:p=x:=oM;have I:m.length<=k*1000+(j+1)*100:=oM;have J:M+k*1000+j*100+p<=M+k*1000+(j+1)*100:=oM;go_wp2_with fail
       go_roundw
       case rel=>exact⟨j+1,oM,gM,v,m,b.more J,I,f⟩
       case measure=>exact uM
    ·obtain rfl:j=C.length:=oM;have I:m.length<=(k+1)*1000:=oM;have J:M+k*1000+C.length*100<=M+(k+1)*1000:=oM;go_wp2_with fail
     go_roundw
     case rel=>exact⟨k+1,oM,gM,v,m,b.more J,I,f⟩
     case measure=>exact uM
  ·obtain rfl:p=k:=oM;obtain⟨A,n,c,rfl⟩:=b.form;obtain⟨rfl,_⟩:=b.reads;have af:=zjU b.own;have cG:=b.blk.cell;have E:=u.frm b.fr oM;have cz:=E.cell;have au:=u.lt;have fz:=E.frozen;obtain⟨f1,f2,f3⟩:=b.fin (Z:=w.heap.size) (dE _) oM (.int iX a) (.int iX p) (fF A m.length c);have D:=za (show RetG R (M+20000) 20000 w (j7 (j4 #[a,p,fF A m.length c])) _ from ⟨⟨a,p,m⟩,A,m.length,c,rfl,f1,⟨a,p,rfl,ha,rfl,hp1,hp,f.out⟩,oM,f2.more oM,f3⟩);clear u s F f1 f2 f3;go_wp2_with fail
   exact bodyPost_ret (v:=j4 #[a,p,fF A m.length c]) (by simp [results,Tryz.results207,go_sem,cz]) rfl D.out
end Go.Proofs.YtckbjnndaaoddaaGreatDoor
