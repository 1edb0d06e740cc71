/- The referenc -/
import Derived.Test.YtcfchopfijalpaaGreatDoorC06
import Derived.Test.YtcfchopfijalpaaGreatDoorC03
import Derived.Test.YtcfchopfijalpaaGreatDoorC02
import Derived.Test.YtcfchopfijalpaaGreatDoorC04
import Derived.Test.YtcfchopfijalpaaGreatDoorC05
import Derived.Lib.SliceRun
import Derived.Test.YtcfchopfijalpaaGreatDoorC01
import Derived.Deep.DeepCutAuto
import Derived.Laws.Strings
import Derived.WideKeyArr
import Derived.Deep.AppendLies
set_option maxHeartbeats 4000000
set_option maxRecDepth 100000
namespace Go.Proofs.YtcfchopfijalpaaGreatDoor
open Go Go.RowKit
def zhS (bs:List UInt8):List Int:=bs.map fun b=>(b.toNat:Int)
def bcl (bs:List UInt8):List Value:=(zhS bs).map (Value.int .u8)
theorem bcl_length (bs:List UInt8):(bcl bs).length=bs.length:=by simp [bcl,zhS]
def zeW (a:Nat) (bs:List UInt8):List UInt8:=bs.filter fun b=>hasB a (ltr b.toNat)
def zby (s:ByteArray) (a:Nat):ByteArray:=strOfNums (zhS (zeW a s.data.toList))
theorem zhz {s:ByteArray} {a k:Nat}(hk:k<s.size):zeW a (s.data.toList.take (k+1))=zeW a (s.data.toList.take k)++if hasB a (ltr s[k].toNat)=true then [s[k]] else []:=by
 rw [List.take_add_one,zbE s k hk,Option.toList_some]
 unfold zeW
 rw [List.filter_append]
 congr 1
 cases h:hasB a (ltr s[k].toNat)<;>simp [h]
theorem zgu (s:ByteArray) (a k:Nat):(zeW a (s.data.toList.take k)).length≤s.size:=by
 refine Nat.le_trans (List.length_filter_le _ _) ?_
 rw [List.length_take]
 have:s.data.toList.length=s.size:=by simp
 omega
theorem zhW {W:World} {base n:Nat} {A:Option Addr} {cap:Nat} {bs:List UInt8}(h:W.ownsRow base 5 1 (.slice A n cap) n (bcl bs)) :
  (convert 62 9 (.slice A n cap)).run Tryz.prog W=.ok (.string (strOfNums (zhS bs))) W:=by
 have hl:bs.length=n:=by have:=zcS h;rw [bcl_length] at this;omega
 rcases h.2 with ⟨h1,h2⟩|⟨g,cap',cur,h1,_⟩
 ·injection h1 with h1 h3 h4
  subst h1;subst h3;subst h4
  obtain rfl:bs=[]:=List.eq_nil_of_length_eq_zero hl
  exact run_convert_bytes_nil (P:=Tryz.prog) W 62 5 u8_row u8_und _ _ _ ziE
 ·injection h1 with h1
  subst h1
  refine run_convert_bytes_arg (P:=Tryz.prog) W 62 5 u8_row u8_und g 0 n cap (zhS bs) (by simp [zhS,hl]) (fun i hi=>?_) _ ziE
  rw [Nat.zero_add,h.cellAt i (by omega)]
  unfold bcl
  rw [List.getElem?_map]
  have hi2:i<(zhS bs).length:=by simp [zhS];omega
  rw [List.getElem?_eq_getElem hi2]
  simp [List.getD,List.getElem?_eq_getElem hi2]
theorem own_u8_lit (w:World):(w.alloc (.cells #[] 5)).ownsRow w.heap.size 5 1 (.slice (some ⟨w.heap.size,0,none⟩) 0 0) 0 (bcl []):=World.ownsRow_lit w #[] 0 (Nat.le_refl _) (by unfold maxLen;omega) rfl
theorem yC07a1 {P:Prop}(h:P:=by
 obtain rfl:k=s.size:=by omega
 have ziM:=za (show strOfNums (zhS bs)=zby s a by rw [hbs.out,List.take_of_length_le (by simp)];rfl)
 obtain⟨A5,c5,rfl⟩:=zi ziJ
 have hcv:=zhW ziJ
 clear ziJ
 go_wp2_with (simp only [hcv])
 go_ret
 exact⟨by rw [ziM.out];rfl,hx⟩
 ):P:=h
theorem yC07a2 {P:Prop}(h:P:=by
 go_roundw
 case rel=>exact⟨k+1,bs++[s[k]],by omega,by go_num,by rw [List.length_append];simpa [bcl,zhS] using ziV,hst2,by rw [List.length_append];exact hl3,hext5⟩
 case measure=>simp [intOf];omega
 ):P:=h
theorem zdf {s:ByteArray} {a:Nat} {w:World}(hw:zaM s=true)(ha:a≤63) :
  Calls Tryz.prog 73 #[.string s,.int .i64 a] w fun e w'=>e=.returned (.string (zby s a))∧Ext w w':=by
 have hal:=za (show (decide ((0:Int)≤a∧(a:Int)≤63))=true by simp;omega)
 have hsz:=zbn hw
 have Hb:=za (fun k hk=>zaB hw (k:=k) hk)
 have Hw:=za hw
 clear hw
 go_enter Tryz.func73,Tryz.ntmps73
 go_upto_region 3 with (first
  |(go_at_call 138;refine (zca s _ (by omega)).mono ?_;rw [Hw.out];rintro e w' ⟨rfl,rfl⟩)
  |(go_at_call 139;refine (zT _ _).mono ?_;rw [hal.out];rintro e w' ⟨rfl,rfl⟩))
 go_upto_region 4 with fail
 have hown0:=own_u8_lit w
 have hx0:=(Ext.refl w).alloc (.cells #[] 5)
 generalize hA0:(some ⟨w.heap.size,0,none⟩:Option Addr)=A0 at *
 clear hA0
 generalize w.alloc (.cells #[] 5)=w0 at *
 go_wp2_with fail
 go_loopw [5,6] (fun v i wr=>∃ (k:Nat) (bs:List UInt8),k≤s.size∧i=.int .i64 k∧wr.ownsRow w.heap.size 5 1 v bs.length (bcl bs)∧Hid (bs=zeW a (s.data.toList.take k))∧bs.length≤50000∧Ext w wr) (fun _ i _=>s.size - (intOf i).toNat)
 case atStart=>exact⟨0,[],Nat.zero_le _,rfl,hown0,rfl,by simp,hx0⟩
 case round =>
  clear hown0 hx0
  obtain⟨k,bs,hk,rfl,ziJ,hbs,hbl,hx⟩:=hrel
  by_cases hlt:k<s.size
  ·have hbb:=Hb.out k hlt
   obtain⟨l,hl⟩:∃ l:Nat,Hid ((s[k].toNat:Int) - 97=l):=⟨s[k].toNat - 97,by unfold Hid;omega⟩
   have hltr:=za (show hasB a (ltr s[k].toNat)=a.testBit l by
    unfold hasB ltr
    have:=hl.out
    rw [if_neg (by omega),this]
    simp)
   have hst:=za (zhz (a:=a) hlt)
   have hl2:=zgu s a (k+1)
   have hasm:Sm a:=by unfold Sm;omega
   have hgetB:=za (show s.data.toList[k]?=some s[k] from zbE s k hlt)
   cases hb:a.testBit l
   ·have Hbt:=za hb
    have hst2:=za (show bs=zeW a (s.data.toList.take (k+1)) by rw [hst.out,hltr.out,Hbt.out,hbs.out];simp)
    clear hb
    go_wp2_with (first
     |(go_at_call 141;refine (zbL s k hlt _).mono ?_;rw [hl.out];rintro e w' ⟨rfl,rfl⟩)
     |(go_at_call 140;refine (zab a l hasm _ (by have:=hl.out;omega)).mono ?_;rw [Hbt.out];rintro e w' ⟨rfl,rfl⟩))
    go_roundw
    case rel=>exact⟨k+1,bs,by omega,by go_num,ziJ,hst2,hbl,hx⟩
    case measure=>simp [intOf];omega
   ·have Hbt:=za hb
    have hst2:=za (show bs++[s[k]]=zeW a (s.data.toList.take (k+1)) by rw [hst.out,hltr.out,Hbt.out,hbs.out];simp)
    have hl3:(bs++[s[k]]).length≤50000:=by rw [hst2.out];omega
    rw [List.length_append,List.length_singleton] at hl3
    clear hb
    go_wp2_with (first
     |(go_at_call 141;refine (zbL s k hlt _).mono ?_;rw [hl.out];rintro e w' ⟨rfl,rfl⟩)
     |(go_at_call 140;refine (zab a l hasm _ (by have:=hl.out;omega)).mono ?_;rw [Hbt.out];rintro e w' ⟨rfl,rfl⟩)
     |(at_builtin;refine zak w wr rfl _ _ _ rfl 5 _ 1 1 Tryz.underlying62 zih rfl (by decide) u5 _ _ _ _ rfl rfl hx ziJ rfl (zhU _) (by unfold maxLen;omega) (by omega) ?_;intro v' w5 hext5 ziV hg5 hat5))
    exact yC07a2
  ·exact yC07a1
theorem zeV {s:ByteArray} {a:Nat} {w:World}(hw:zaM s=true)(ha:a≤63) :
  Calls Tryz.prog 83 #[.string s,.int .i64 a] w fun e w'=>e=.returned (.string (zby s a))∧Ext w w':=by
 have hsz:=zbn hw
 have Hb:=za (fun k hk=>zaB hw (k:=k) hk)
 clear hw
 have hasm:Sm a:=by unfold Sm;omega
 go_enter Tryz.func83,Tryz.ntmps83
 go_wp2_with fail
 go_loopw [5,6,9] (fun v _ i wr=>∃ (k:Nat) (bs:List UInt8),k≤s.size∧i=.int .i64 k∧wr.ownsRow w.heap.size 5 1 v bs.length (bcl bs)∧Hid (bs=zeW a (s.data.toList.take k))∧bs.length≤50000∧Ext w wr) (fun _ _ i _=>s.size - (intOf i).toNat)
 case atStart=>exact⟨0,[],Nat.zero_le _,rfl,World.ownsRow_nil _ _ _ _,rfl,by simp,Ext.refl _⟩
 case round =>
  obtain⟨k,bs,hk,rfl,ziJ,hbs,hbl,hx⟩:=hrel
  by_cases hlt:k<s.size
  ·have hbb:=Hb.out k hlt
   have hst:=za (zhz (a:=a) hlt)
   have hl2:=zgu s a (k+1)
   cases hb:hasB a (ltr s[k].toNat)
   ·have Hbt:=za hb
    have hst2:=za (show bs=zeW a (s.data.toList.take (k+1)) by rw [hst.out,Hbt.out,hbs.out];simp)
    clear hb
    go_wp2_with (first
     |(go_at_call 153;refine (zaJ s k hlt _).mono ?_;rintro e w' ⟨rfl,rfl⟩)
     |(go_at_call 161;refine (zbp a _ hasm _).mono ?_;rw [Hbt.out];rintro e w' ⟨rfl,rfl⟩))
    go_roundw
    case rel=>exact⟨k+1,bs,by omega,by go_num,ziJ,hst2,hbl,hx⟩
    case measure=>simp [intOf];omega
   ·have Hbt:=za hb
    have hst2:=za (show bs++[s[k]]=zeW a (s.data.toList.take (k+1)) by rw [hst.out,Hbt.out,hbs.out];simp)
    have hl3:(bs++[s[k]]).length≤50000:=by rw [hst2.out];omega
    rw [List.length_append,List.length_singleton] at hl3
    clear hb
    go_wp2_with (first
     |(go_at_call 153;refine (zaJ s k hlt _).mono ?_;rintro e w' ⟨rfl,rfl⟩)
     |(go_at_call 161;refine (zbp a _ hasm _).mono ?_;rw [Hbt.out];rintro e w' ⟨rfl,rfl⟩)
     |(at_builtin;refine zak w wr rfl _ _ _ rfl 5 _ 1 1 Tryz.underlying62 zih rfl (by decide) u5 _ _ _ _ rfl rfl hx ziJ rfl (zhU _) (by unfold maxLen;omega) (by omega) ?_;intro v' w5 hext5 ziV hg5 hat5))
    exact yC07a2
  ·exact yC07a1
def runB (es:List Edg) (x:Nat) (ls:List Nat):Nat:=ls.foldl (fun m (l:Nat)=>zbO es m (l:Int)) x
theorem runB_snoc (es:List Edg) (x:Nat) (ls:List Nat) (l:Nat):runB es x (ls++[l])=zbO es (runB es x ls) (l:Int):=by simp [runB]
section
variable {lo hi n c:Nat} {A:Option Addr} {s:Sys} {t:ByteArray} {w:World}
def aftB (s:Sys) (t:ByteArray):Nat:=if (zn s&&inB t s.al.toNat)=true then runB s.edges 1 (wl t) else 0
end
theorem zfA (s:ByteArray) (a:Nat):(zby s a).size≤s.size:=by
 have h:=zgu s a s.size
 rw [List.take_of_length_le (by simp)] at h
 have e:(zby s a).size=(zhS (zeW a s.data.toList)).length:=by unfold zby;rw [strOfNums_size]
 rw [e,zhS,List.length_map]
 exact h
def topB (ss:List Sys) (t:ByteArray):Bool:=zA ss&&(inB t (zD ss)&&ss.all fun s=>aftB s (zby t s.al.toNat) != 0)
def zH (hd:Bool) (a:Aut) (s:ByteArray):Bool:=if hd then zk a&&s.toList.isEmpty else zel a&&zaM s
theorem zce (lo hi:Nat) (A:Option Addr) (n c:Nat) (A':Option Addr) (n' c':Nat)(hd:Bool) (a:Aut) (s:ByteArray) (w:World)(h:zC w lo hi A n A' n' a)(hs:s.size≤9223372036854775807) :
  Calls Tryz.prog 115 #[.agg #[.bool hd,.int .i64 a.al,.slice A n c,.slice A' n' c',.string s]] w fun e w'=>e=.returned (.bool (zH hd a s))∧Ext w w':=by
 have hR:=fun W (hW:Ext w W)=>h.ext hW
 have HR:=za hR
 clear hR
 cases hd
 ·cases hb:zel a
  all_goals
   have Hb:=za hb
   clear hb
   go_enter Tryz.func115,Tryz.ntmps115
   go_wp2_with (first
    |(go_at_call 201;refine (spec_l13None _ _ _ _ _ _ _ _ _ _ (HR.out _ ?_)).mono ?_;exact (Ext.refl _).alloc _;rw [Hb.out];rintro e w2 ⟨rfl,hext2⟩;have hbox:=zct hext2)
    |(go_at_call 138;refine (zca s _ hs).mono ?_;rintro e w' ⟨rfl,rfl⟩))
   go_ret
   exact⟨zj (by rw [zH,Hb.out];simp),((Ext.refl _).alloc _).trans hext2⟩
 ·cases hb:zk a
  all_goals
   have Hb:=za hb
   clear hb
   go_enter Tryz.func115,Tryz.ntmps115
   go_wp2_with (go_at_call 200;refine (zO _ _ _ _ _ _ _ _ _ _ (HR.out _ ?_)).mono ?_;exact (Ext.refl _).alloc _;rw [Hb.out];rintro e w2 ⟨rfl,hext2⟩;have hbox:=zct hext2)
   go_ret
   exact⟨zj (by rw [zH,Hb.out];simp),((Ext.refl _).alloc _).trans hext2⟩
theorem zcb (lo hi:Nat) (A:Option Addr) (n c:Nat) (A':Option Addr) (n' c':Nat)(hd:Bool) (a:Aut) (s:ByteArray) (w:World)(h:zC w lo hi A n A' n' a)(hs:s.size≤9223372036854775807) :
  Calls Tryz.prog 99 #[.agg #[.bool hd,.int .i64 a.al,.slice A n c,.slice A' n' c',.string s]] w fun e w'=>e=.returned (.bool (zH hd a s))∧Ext w w':=by
 have hR:=fun W (hW:Ext w W)=>h.ext hW
 have HR:=za hR
 clear hR
 cases hd
 ·have Hv:=za (show zel a=(decide (a.al=0)&&(decide (n=0)&&decide (n'=0))) by unfold zel;rw [← h.n1,← h.n2])
  have hl1:=h.1.len
  have hl2:=h.2.2.len
  clear h
  by_cases h0:a.al=0
  ·have hb:((a.al:Int)==0)=true:=by simp [h0]
   have H0:=za h0
   clear h0
   by_cases h1:n=0
   ·have hb1:((n:Int)==0)=true:=by simp [h1]
    have H1:=za h1
    clear h1
    by_cases h2:n'=0
    ·have hb2:((n':Int)==0)=true:=by simp [h2]
     have H2:=za h2
     clear h2
     go_enter Tryz.func99,Tryz.ntmps99
     go_wp2_with (go_at_call 106;refine (zhd s _ hs).mono ?_;rintro e w' ⟨rfl,rfl⟩)
     go_ret
     exact⟨zj (by rw [zH,Hv.out,H0.out,H1.out,H2.out];simp),((Ext.refl _).alloc _).alloc _⟩
    ·have hb2:((n':Int)==0)=false:=by simp [h2]
     go_enter Tryz.func99,Tryz.ntmps99
     go_wp2_with fail
     go_ret
     exact⟨zj (by rw [zH,Hv.out];simp [h2]),((Ext.refl _).alloc _).alloc _⟩
   ·have hb1:((n:Int)==0)=false:=by simp [h1]
    go_enter Tryz.func99,Tryz.ntmps99
    go_wp2_with fail
    go_ret
    exact⟨zj (by rw [zH,Hv.out];simp [h1]),((Ext.refl _).alloc _).alloc _⟩
  ·have hb:((a.al:Int)==0)=false:=by simp [h0]
   go_enter Tryz.func99,Tryz.ntmps99
   go_wp2_with fail
   go_ret
   exact⟨zj (by rw [zH,Hv.out];simp [h0]),((Ext.refl _).alloc _).alloc _⟩
 ·cases hb:zk a
  all_goals
   have Hb:=za hb
   clear hb
   go_enter Tryz.func99,Tryz.ntmps99
   go_wp2_with (go_at_call 95;refine (zV _ _ _ _ _ _ _ _ _ _ (HR.out _ ?_)).mono ?_;exact (Ext.refl _).alloc _;rw [Hb.out];rintro e w2 ⟨rfl,hext2⟩;have hbox:=zct hext2)
   go_ret
   exact⟨zj (by rw [zH,Hb.out];simp),((Ext.refl _).alloc _).trans hext2⟩
def zaL (p:Aut) (q:Nat) (ls:List Nat):Nat:=ls.foldl (aGo p) q
theorem zbk (p:Aut) (q:Nat) (ls:List Nat) (l:Nat):zaL p q (ls++[l])=aGo p (zaL p q ls) l:=by simp [zaL]
theorem zdI {p:Aut}(hv:zk p=true) {ls:List Nat}(h:∀ l∈ls,l<6) {q:Nat}(hq:q<p.next.length):zaL p q ls<p.next.length:=by
 induction ls generalizing q with
 |nil=>exact hq
 |cons l r ih=>exact ih (fun x hx=>h x (List.mem_cons_of_mem _ hx)) (zcV hv hq (h l List.mem_cons_self))
theorem zhH (s:ByteArray) (a:Nat):(zby s a).data.toList=zeW a s.data.toList:=by
 unfold zby strOfNums zhS
 simp only [List.map_map]
 refine (List.map_congr_left (g:=id) fun b _=>?_).trans (List.map_id _)
 simp
theorem wl_restB {s:ByteArray}(h:zaM s=true) (a:Nat):wl (zby s a)=(wl s).filter fun l=>a.testBit l:=by
 unfold wl
 rw [zhH]
 unfold zeW
 have hb:∀ b∈s.data.toList,97≤b.toNat∧b.toNat≤102:=by
  intro b hb
  obtain⟨i,hi⟩:=List.getElem?_of_mem hb
  have hil:i<s.size:=by have:=(List.getElem?_eq_some_iff.1 hi).1;simpa using this
  rw [zbE s i hil] at hi
  obtain rfl:=Option.some.inj hi
  exact zaB h hil
 generalize s.data.toList=L at hb
 clear h
 induction L with
 |nil=>rfl
 |cons b r ih =>
  have h0:=hb b List.mem_cons_self
  have ih:=ih fun x hx=>hb x (List.mem_cons_of_mem _ hx)
  have e:hasB a (ltr b.toNat)=a.testBit (b.toNat - 97):=by
   unfold hasB ltr
   rw [if_neg (by omega),decide_eq_true (by omega),Bool.true_and]
   congr 1
   omega
  rw [List.filter_cons,List.map_cons,List.filter_cons,e]
  cases a.testBit (b.toNat - 97)
  ·simpa using ih
  ·simp only [if_true,List.map_cons]
   rw [ih]
theorem zds {s:ByteArray}(h:zaM s=true) (a:Nat):inB (zby s a) a=true:=by
 unfold inB zfw
 rw [zhH,Bool.and_eq_true,decide_eq_true_eq]
 refine⟨Nat.le_trans (zfA s a) (zbn h),?_⟩
 rw [List.all_eq_true]
 intro b hb
 exact (List.mem_filter.1 hb).2
def breakB (p:Aut) (t:ByteArray):Bool:=zk p&&(zaM t&&!zcg p (zaL p 0 (wl t)))
section
variable {lo hi m d m' d':Nat} {B B':Option Addr} {p:Aut} {t:ByteArray} {w:World}
theorem spec_l3Run (h:zC w lo hi B m B' m' p)(hv:zk p=true)(ht:zaM t=true) :
  Calls Tryz.prog 263 #[.agg #[.int .i64 p.al,.slice B m d,.slice B' m' d'],.int .i64 0,.string t] w fun e w'=>e=.returned (.int .i64 (zaL p 0 (wl t):Nat))∧Ext w w':=by
 have HS:=za (fun W (hW:Ext w W)=>h.ext hW)
 have hsz:=zbn ht
 have Hb:=za (fun k hk=>zaB ht (k:=k) hk)
 have hn1:=(zl hv).2.1
 have Hv:=za hv
 have Hlt:=za (fun k=>zdI hv (ls:=(wl t).take k) (fun l hl=>wl_lt ht l (List.mem_of_mem_take hl)) (q:=0) (by omega))
 clear h hv ht
 go_enter Tryz.func263,Tryz.ntmps263
 go_upto_region 1 with fail
 have hw1:Ext w (w.alloc (.cells #[.int .i64 p.al,.slice B m d,.slice B' m' d'] 31)):=(Ext.refl w).alloc _
 have b1:=Blk.new w 31 #[.int .i64 p.al,.slice B m d,.slice B' m' d']
 generalize w.alloc (.cells #[.int .i64 p.al,.slice B m d,.slice B' m' d'] 31)=w1 at *
 go_wp2_with fail
 go_loopw [1,7] (fun v i wr=>∃ k x:Nat,i=.int .i64 k∧k≤t.size∧v=.int .i64 x∧Hid (x=zaL p 0 ((wl t).take k))∧Ext w1 wr) (fun _ i _=>t.size - (intOf i).toNat)
 case atStart=>exact⟨0,0,rfl,Nat.zero_le _,rfl,rfl,Ext.refl _⟩
 case round =>
  obtain⟨k,x,rfl,hk,rfl,hxo,hxr⟩:=hrel
  by_cases hlt:k<t.size
  ·have hbb:=Hb.out k hlt
   obtain⟨l,hl⟩:∃ l:Nat,Hid ((t[k].toNat:Int) - 97=l):=⟨t[k].toNat - 97,by unfold Hid;omega⟩
   have hl6:l<6:=by have:=hl.out;omega
   have hst:=za (show aGo p x l=zaL p 0 ((wl t).take (k+1)) by
    rw [List.take_add_one,zdA hlt,Option.toList_some,zbk,← hxo.out]
    congr 1
    have:=hl.out;omega)
   have hxl:x<p.next.length:=by rw [hxo.out];exact Hlt.out k
   have HC:=za (fun W (hW:Ext w1 W)=>zdh (d:=d) (d':=d') (HS.out W (hw1.trans hW)) Hv.out hxl hl6)
   generalize aGo p x l=y at *
   have c1:∀ W,Ext wr W→∀ j,W.cell? ⟨w.heap.size,j,none⟩=#[Value.int .i64 p.al,.slice B m d,.slice B' m' d'][j]?:=fun W hW=>(b1.ext (hxr.trans hW)).cell
   have hww:=Ext.refl wr
   clear hbb
   go_upto_region 4 with fail
   refine uR (fun X=>Ext wr X) [5] (zu.of [0,1,2,3,4,5,6]) ?_
   refine uQ ?_
   refine ze fun K hK=>?_;go_simp
   refine (zbL t k hlt _).mono ?_
   rw [hl.out]
   rintro e w' ⟨rfl,rfl⟩
   refine hK.out _ _ hww.drew ?_
   refine pT ?_
   refine zb fun K hK=>?_
   go_simp
   refine (HC.out _ (hxr.trans hww.drew)).mono ?_
   rintro e w5 ⟨rfl,hx5⟩
   refine hK.out _ _ ?_
   refine pT ?_
   refine uQ ?_
   refine zf ?_
   have hx6:=hxr.trans (hww.drew.trans hx5)
   go_wp2_with fail
   go_roundw
   case rel=>exact⟨k+1,y,by go_num,by omega,rfl,hst,hx6⟩
   case measure=>simp [intOf];omega
  ·obtain rfl:k=t.size:=by omega
   have ziM:=za (show x=zaL p 0 (wl t) by rw [hxo.out,List.take_of_length_le (by rw [zfk];exact Nat.le_refl _)])
   go_wp2
   go_ret
   exact⟨zG (by rw [ziM.out]),hw1.trans hxr⟩
end
theorem iface_neg (s t:Sys) (p:Aut):iface s p t<0↔(zn s&&(zk p&&zn t))=false:=by
 unfold iface
 cases h:(zn s&&(zk p&&zn t))
 ·simp
 ·simp
theorem pnx_mod (ms:List Mem) (x l:Nat):pnx ms x l=pnx ms (x % zB ms) l:=by
 induction ms generalizing x with
 |nil=>rfl
 |cons m r ih =>
  rw [zde]
  unfold pnx
  have e1:x % (m.1*zB r) / zB r % m.1=x / zB r % m.1:=by
   rw [Nat.mul_comm,Nat.mod_mul_right_div_self,Nat.mod_mod]
  have e2:pnx r (x % (m.1*zB r)) l=pnx r x l:=by
   rw [ih (x % (m.1*zB r)),Nat.mod_mul_left_mod,← ih x]
  rw [e1,e2]
theorem goes_lt {ms:List Mem}(hm:∀ m∈ms,zdB m) {v:List Nat}(hv:∀ l∈v,l<6) {x:Nat}(h:zbc (pnx ms) [0] v x):x<zB ms:=by
 rcases zQ v with rfl|⟨u,l,rfl⟩
 ·have:=h.inv_nil
  have h1:=zfd hm
  simp at this
  omega
 ·obtain⟨n,_,hx⟩:=h.inv
  exact zhF hm (hv l (by simp)) x hx
theorem mem_lt {m:Mem}(hm:zdB m) {v:List Nat}(hv:∀ l∈v,l<6) {q:Nat}(h:zbc m.2 [0] v q):q<m.1:=by
 have key:∀ n (v:List Nat),v.length=n→(∀ l∈v,l<6)→∀ q,zbc m.2 [0] v q→q<m.1:=by
  intro n
  induction n with
  |zero =>
   intro v hl _ q h
   obtain rfl:=List.eq_nil_of_length_eq_zero hl
   have:=h.inv_nil
   have:=hm.1
   simp at *
   omega
  |succ n ih =>
   intro v hl hv q h
   rcases zQ v with rfl|⟨u,l,rfl⟩
   ·simp at hl
   ·obtain⟨q',h1,h2⟩:=h.inv
    exact hm.2 q' l (ih u (by simpa using hl) (fun k hk=>hv k (by simp [hk])) q' h1) (hv l (by simp)) q h2
 exact key _ v rfl hv q h
theorem zeR {m:Mem} {r:List Mem}(hm:zdB m)(hr:∀ m∈r,zdB m):∀ (n:Nat) (v:List Nat),v.length=n→(∀ l∈v,l<6)→∀ x,zbc (pnx (m :: r)) [0] v x↔∃ q y,x=q*zB r+y∧zbc m.2 [0] v q∧zbc (pnx r) [0] v y:=by
 intro n
 induction n with
 |zero =>
  intro v hl _ x
  obtain rfl:=List.eq_nil_of_length_eq_zero hl
  constructor
  ·intro h
   have:=h.inv_nil
   simp at this
   subst this
   exact⟨0,0,by simp,.nil (by simp),.nil (by simp)⟩
  ·rintro ⟨q,y,rfl,h1,h2⟩
   have h1:=h1.inv_nil
   have h2:=h2.inv_nil
   simp at h1 h2
   subst h1;subst h2
   exact .nil (by simp)
 |succ n ih =>
  intro v hl hv x
  rcases zQ v with rfl|⟨u,l,rfl⟩
  ·simp at hl
  have hu:∀ k∈u,k<6:=fun k hk=>hv k (by simp [hk])
  have hl6:l<6:=hv l (by simp)
  have ih:=ih u (by simpa using hl) hu
  have hP:=zfd hr
  have step:∀ q y,zbc m.2 [0] u q→zbc (pnx r) [0] u y→pnx (m :: r) (q*zB r+y) l=(m.2 q l).flatMap fun q'=>(pnx r y l).map fun y'=>q'*zB r+y':=by
   intro q y h1 h2
   have hq:=mem_lt hm hu h1
   have hy:=goes_lt hr hu h2
   show (m.2 ((q*zB r+y) / zB r % m.1) l).flatMap (fun q'=>(pnx r (q*zB r+y) l).map fun y'=>q'*zB r+y')=_
   have e1:(q*zB r+y) / zB r % m.1=q:=by
    rw [Nat.mul_comm,Nat.mul_add_div (by omega),Nat.div_eq_of_lt hy,Nat.add_zero,Nat.mod_eq_of_lt hq]
   have e2:pnx r (q*zB r+y) l=pnx r y l:=by
    rw [pnx_mod r (q*zB r+y),Nat.mul_comm,Nat.mul_add_mod,← pnx_mod]
   rw [e1,e2]
  constructor
  ·intro h
   obtain⟨n',h1,h2⟩:=h.inv
   obtain⟨q,y,rfl,h3,h4⟩:=(ih n').1 h1
   rw [step q y h3 h4] at h2
   simp only [List.mem_flatMap,List.mem_map] at h2
   obtain⟨q',hq',y',hy',rfl⟩:=h2
   exact⟨q',y',rfl,.snoc h3 hq',.snoc h4 hy'⟩
  ·rintro ⟨q',y',rfl,h1,h2⟩
   obtain⟨q,h3,h4⟩:=h1.inv
   obtain⟨y,h5,h6⟩:=h2.inv
   refine .snoc ((ih (q*zB r+y)).2 ⟨q,y,rfl,h3,h5⟩) ?_
   rw [step q y h3 h5]
   simp only [List.mem_flatMap,List.mem_map]
   exact⟨q',h4,y',h6,rfl⟩
def Runs (s:Sys) (v:List Nat):Prop:=∃ q,zbc (cho s) [0] v q
theorem zfX (a:Aut) (v:List Nat) (q:Nat):zbc (zbf a).2 [0] v q↔q=zaL a 0 v:=by
 have key:∀ n (v:List Nat),v.length=n→∀ q,zbc (zbf a).2 [0] v q↔q=zaL a 0 v:=by
  intro n
  induction n with
  |zero =>
   intro v hl q
   obtain rfl:=List.eq_nil_of_length_eq_zero hl
   constructor
   ·intro h;have:=h.inv_nil;simp at this;subst this;rfl
   ·rintro rfl;exact .nil (by simp [zaL])
  |succ n ih =>
   intro v hl q
   rcases zQ v with rfl|⟨u,l,rfl⟩
   ·simp at hl
   rw [zbk]
   have ih:=ih u (by simpa using hl)
   constructor
   ·intro h
    obtain⟨q',h1,h2⟩:=h.inv
    rw [(ih q').1 h1] at h2
    simpa [zbf] using h2
   ·rintro rfl
    exact .snoc ((ih _).2 rfl) (by simp [zbf])
 exact key _ v rfl q
theorem goes_nil (v:List Nat) (y:Nat):zbc (pnx []) [0] v y↔y=0:=by
 have key:∀ n (v:List Nat),v.length=n→∀ y,zbc (pnx []) [0] v y↔y=0:=by
  intro n
  induction n with
  |zero =>
   intro v hl y
   obtain rfl:=List.eq_nil_of_length_eq_zero hl
   exact⟨fun h=>by simpa using h.inv_nil,fun h=>.nil (by simp [h])⟩
  |succ n ih =>
   intro v hl y
   rcases zQ v with rfl|⟨u,l,rfl⟩
   ·simp at hl
   have ih:=ih u (by simpa using hl)
   constructor
   ·intro h
    obtain⟨q',h1,h2⟩:=h.inv
    simpa [pnx] using h2
   ·rintro rfl
    exact .snoc ((ih 0).2 rfl) (by simp [pnx])
 exact key _ v rfl y
theorem zfY {a p:Aut}(ha:zk a=true)(hp:zk p=true) {v:List Nat}(hv:∀ l∈v,l<6) (y:Nat):zbc (pnx [zbf a,zbf p]) [0] v y↔y=zaL a 0 v*p.next.length+zaL p 0 v:=by
 have hpo:∀ m∈[zbf p],zdB m:=by simp;exact zbg hp
 have hP:zB [zbf p]=p.next.length:=by simp [zB,zag,zbf]
 have h1:∀ z,zbc (pnx [zbf p]) [0] v z↔z=zaL p 0 v:=by
  intro z
  rw [zeR (zbg hp) (by simp) _ v rfl hv]
  constructor
  ·rintro ⟨q,y,rfl,h1,h2⟩
   rw [(goes_nil v y).1 h2,(zfX p v q).1 h1]
   simp [zB,zag]
  ·rintro rfl
   exact⟨zaL p 0 v,0,by simp [zB,zag],(zfX p v _).2 rfl,(goes_nil v 0).2 rfl⟩
 rw [zeR (zbg ha) hpo _ v rfl hv,hP]
 constructor
 ·rintro ⟨q,y,rfl,h2,h3⟩
  rw [(zfX a v q).1 h2,(h1 y).1 h3]
 ·rintro rfl
  exact⟨_,_,rfl,(zfX a v _).2 rfl,(h1 _).2 rfl⟩
theorem zhv {T:List Mem}(hT:∀ m∈T,zdB m) {v:List Nat}(hv:∀ l∈v,l<6) (g:Nat→Prop):∀ {ss:List Sys},(∀ s∈ss,zdB (zdk s))→((∃ x,zbc (pnx (ss.map zdk++T)) [0] v x∧g (x % zB T))↔(∀ s∈ss,Runs s v)∧∃ y,zbc (pnx T) [0] v y∧g y):=by
 intro ss
 induction ss with
 |nil =>
  intro _
  simp only [List.map_nil,List.nil_append,List.not_mem_nil,false_implies,implies_true,true_and]
  constructor
  ·rintro ⟨x,h,hg⟩
   rw [Nat.mod_eq_of_lt (goes_lt hT hv h)] at hg
   exact⟨x,h,hg⟩
  ·rintro ⟨x,h,hg⟩
   exact⟨x,h,by rwa [Nat.mod_eq_of_lt (goes_lt hT hv h)]⟩
 |cons s r ih =>
  intro hs
  have hs0:=hs s List.mem_cons_self
  have hsr:=fun t ht=>hs t (List.mem_cons_of_mem _ ht)
  have ih:=ih hsr
  have hr:∀ m∈r.map zdk++T,zdB m:=by
   intro m hm
   rcases List.mem_append.1 hm with h|h
   ·obtain⟨t,ht,rfl⟩:=List.mem_map.1 h
    exact hsr t ht
   ·exact hT m h
  have hmod:∀ q y,(q*zB (r.map zdk++T)+y) % zB T=y % zB T:=by
   intro q y
   rw [zbw,← Nat.mul_assoc,Nat.mul_comm,Nat.mul_add_mod]
  rw [List.map_cons,List.cons_append]
  constructor
  ·rintro ⟨x,h,hg⟩
   obtain⟨q,y,rfl,h1,h2⟩:=(zeR hs0 hr _ v rfl hv x).1 h
   rw [hmod] at hg
   obtain⟨h3,h4⟩:=ih.1 ⟨y,h2,hg⟩
   refine⟨fun t ht=>?_,h4⟩
   rcases List.mem_cons.1 ht with rfl|ht
   ·exact⟨q,h1⟩
   ·exact h3 t ht
  ·rintro ⟨h1,h2⟩
   obtain⟨y,h3,h4⟩:=ih.2 ⟨fun t ht=>h1 t (List.mem_cons_of_mem _ ht),h2⟩
   obtain⟨q,hq⟩:=h1 s List.mem_cons_self
   exact⟨q*zB (r.map zdk++T)+y,(zeR hs0 hr _ v rfl hv _).2 ⟨q,y,rfl,hq,h3⟩,by rwa [hmod]⟩
def zeF (ss:List Sys) (a p:Aut) (v:List Nat):Prop:=(∀ s∈ss,Runs s v)∧zcg a (zaL a 0 v)=true∧zcg p (zaL p 0 v)=false
theorem vio_iff {ss:List Sys} {a p:Aut}(hss:∀ s∈ss,zn s=true)(ha:zk a=true)(hp:zk p=true) :
  vioB ss a p=true↔∃ v,(∀ l∈v,l∈letters (zD ss|||a.al.toNat) 6)∧zeF ss a p v:=by
 have hsm:∀ s∈ss,zdB (zdk s):=fun s hs=>zdJ (zbQ (hss s hs))
 have hT:∀ m∈[zbf a,zbf p],zdB m:=by simp;exact⟨zbg ha,zbg hp⟩
 have hP:zB [zbf a,zbf p]=a.next.length*p.next.length:=by simp [zB,zag,zbf]
 have a1:=(zl ha).2.1
 have p1:=(zl hp).2.1
 have hgoal:∀ x,zbs a p x=zbs a p (x % zB [zbf a,zbf p]):=by
  intro x
  unfold zbs
  rw [hP,Nat.mod_mul_left_mod,Nat.mul_comm,Nat.mod_mul_right_div_self,Nat.mod_mod]
 have key:∀ v,(∀ l∈v,l<6)→((∃ x,zbc (zbC ss a p) [0] v x∧zbs a p x=true)↔zeF ss a p v):=by
  intro v hv
  rw [zcF]
  have h1:=zhv hT hv (fun y=>zbs a p y=true) hsm
  have h2:(∃ x,zbc (pnx (zaO ss [a,p])) [0] v x∧zbs a p x=true)↔(∃ x,zbc (pnx (ss.map zdk++[zbf a,zbf p])) [0] v x∧zbs a p (x % zB [zbf a,zbf p])=true):=by
   constructor
   ·rintro ⟨x,h,hg⟩;exact⟨x,h,by rw [← hgoal];exact hg⟩
   ·rintro ⟨x,h,hg⟩;exact⟨x,h,by rw [hgoal];exact hg⟩
  rw [h2,h1]
  unfold zeF
  refine and_congr_right fun _=>?_
  have hra:=zdI ha hv (q:=0) (by omega)
  have hrp:=zdI hp hv (q:=0) (by omega)
  have e1:(zaL a 0 v*p.next.length+zaL p 0 v) / p.next.length % a.next.length=zaL a 0 v:=by
   rw [Nat.mul_comm,Nat.mul_add_div (by omega),Nat.div_eq_of_lt hrp,Nat.add_zero,Nat.mod_eq_of_lt hra]
  have e2:(zaL a 0 v*p.next.length+zaL p 0 v) % p.next.length=zaL p 0 v:=by
   rw [Nat.mul_comm,Nat.mul_add_mod,Nat.mod_eq_of_lt hrp]
  constructor
  ·rintro ⟨y,hy,hg⟩
   rw [(zfY ha hp hv y).1 hy] at hg
   unfold zbs at hg
   rw [e1,e2] at hg
   simpa using hg
  ·intro hg
   refine⟨_,(zfY ha hp hv _).2 rfl,?_⟩
   unfold zbs
   rw [e1,e2]
   simpa using hg
 unfold vioB lostB
 rw [Bool.not_eq_true',@decide_eq_false_iff_not _ (Classical.propDecidable _)]
 constructor
 ·intro hn
  apply Classical.byContradiction
  intro hno
  refine hn fun v hv x hx=>?_
  cases hb:zbs a p x
  ·rfl
  ·exact absurd ⟨v,hv,(key v (fun l hl=>zbV _ l (hv l hl))).1 ⟨x,hx,hb⟩⟩ hno
 ·rintro ⟨v,hv,hB⟩ hl
  obtain⟨x,hx,hg⟩:=(key v (fun l hl=>zbV _ l (hv l hl))).2 hB
  have:=hl v hv x hx
  rw [hg] at this
  cases this
def hidL (s:Sys) (A l:Nat):Prop:=l<6∧s.al.toNat.testBit l=true∧A.testBit l=false
inductive Cl (s:Sys) (p:Aut) (A:Nat) (B:Nat→Nat→Prop):Nat→Nat→Prop
 |base {q i:Nat} (h:B q i):Cl s p A B q i
 |hid {q i l q':Nat} (h:Cl s p A B q i) (hl:hidL s A l) (hq:q'∈cho s q l):Cl s p A B q' (aGo p i l)
def mvB (s:Sys) (p:Aut) (l:Nat) (B:Nat→Nat→Prop):Nat→Nat→Prop:=fun q' j=>∃ q i,B q i∧q'∈cho s q l∧j=aGo p i l
def prR (s:Sys) (p:Aut) (A:Nat):List Nat→Nat→Nat→Prop
 |[]=>Cl s p A (fun q i=>q=0∧i=0)
 |l :: r=>Cl s p A (mvB s p l (prR s p A r))
def PR (s:Sys) (p:Aut) (A:Nat) (v:List Nat):Nat→Nat→Prop:=prR s p A v.reverse
theorem PR_nil (s:Sys) (p:Aut) (A:Nat):PR s p A []=Cl s p A (fun q i=>q=0∧i=0):=rfl
theorem PR_snoc (s:Sys) (p:Aut) (A:Nat) (v:List Nat) (l:Nat):PR s p A (v++[l])=Cl s p A (mvB s p l (PR s p A v)):=by
 unfold PR
 rw [List.reverse_append]
 rfl
def Bad (s:Sys) (p:Aut) (A:Nat) (v:List Nat):Prop:=∃ q i,PR s p A v q i∧zcg p i=false
def SafeW (s:Sys) (p:Aut) (A:Nat) (v:List Nat):Prop:=∀ k,k≤v.length→¬ Bad s p A (v.take k)
theorem zgd {s:Sys}(hs:Sml s) {l:Nat}(hb:s.al.toNat.testBit l=true) (set q':Nat):(zbO s.edges set (l:Int)).testBit q'=true↔∃ q,set.testBit q=true∧q'∈cho s q l:=by
 obtain⟨h1,h2,hf,-⟩:=hs
 rw [zdi]
 constructor
 ·rintro ⟨e,he,⟨h3,h4⟩,rfl⟩
  obtain⟨hfr,hle,hto⟩:=hf e he
  refine⟨e.fr.toNat,h4,?_⟩
  unfold cho
  rw [if_pos hb,zz]
  refine⟨by omega,(zdu _ _ _ _).2 ⟨e,he,?_,rfl⟩⟩
  exact⟨by omega,h3⟩
 ·rintro ⟨q,h3,h4⟩
  unfold cho at h4
  rw [if_pos hb,zz] at h4
  obtain⟨e,he,⟨h5,h6⟩,h7⟩:=(zdu _ _ _ _).1 h4.2
  exact⟨e,he,⟨h6,by rw [h5];simpa using h3⟩,h7⟩
theorem zfC {s:Sys}(hs:Sml s) (x:Nat) (l:Int):zbO s.edges x l<65536:=by
 have h1:=stepB_lt hs.2.2.1 x l
 have h2:(2:Nat) ^ s.st.toNat≤2 ^ 16:=Nat.pow_le_pow_right (by omega) (by have:=hs.2.1;omega)
 exact Nat.lt_of_lt_of_le h1 h2
def zcX (T:List Nat) (i q:Nat):Prop:=(T.getD i 0).testBit q=true
theorem zgi {T:List Nat} {i q:Nat}(h:zcX T i q):i<T.length:=by
 rcases Nat.lt_or_ge i T.length with h1|h1
 ·exact h1
 ·unfold zcX at h
  rw [List.getD_eq_getElem?_getD,List.getElem?_eq_none h1] at h
  simp at h
theorem zcl {T:List Nat} {j:Nat}(hj:j<T.length) (x i q:Nat):zcX (T.set j (T.getD j 0|||x)) i q↔zcX T i q∨(i=j∧x.testBit q=true):=by
 unfold zcX
 by_cases h:j=i
 ·subst h
  rw [List.getD_eq_getElem?_getD,List.getElem?_set_self hj,Option.getD_some,Nat.testBit_or,Bool.or_eq_true]
  simp
 ·rw [List.getD_eq_getElem?_getD,List.getElem?_set_ne h,← List.getD_eq_getElem?_getD]
  constructor
  ·exact .inl
  ·rintro (h1|⟨h1,-⟩)
   ·exact h1
   ·exact absurd h1.symm h
def zbd (T:List Nat) (n:Nat) (B:Nat→Nat→Prop):Prop:=T.length=n∧(∀ x∈T,x<65536)∧∀ i q,zcX T i q↔B q i
structure ClI (s:Sys) (p:Aut) (A:Nat) (B:Nat→Nat→Prop) (n:Nat) (T:List Nat):Prop where
 len:T.length=n
 lt:∀ x∈T,x<65536
 base:∀ q i,B q i→zcX T i q
 sub:∀ i q,zcX T i q→Cl s p A B q i
def zdR (s:Sys) (p:Aut) (T:List Nat) (i l:Nat):Prop:=∀ q,zcX T i q→∀ q'∈cho s q l,zcX T (aGo p i l) q'
section
variable {s:Sys} {p:Aut} {A n:Nat} {B:Nat→Nat→Prop} {T:List Nat}
theorem zbd.clI (h:zbd T n B):ClI s p A B n T:=⟨h.1,h.2.1,fun q i hb=>(h.2.2 i q).2 hb,fun i q hb=>.base ((h.2.2 i q).1 hb)⟩
theorem zbt (h:∀ x∈T,x<65536) (i:Nat):T.getD i 0<65536:=by
 rw [List.getD_eq_getElem?_getD]
 cases h1:T[i]? with
 |none=>simp
 |some x=>exact h x (List.mem_of_getElem? h1)
theorem ClI.step (h:ClI s p A B n T)(hs:Sml s)(hp:zk p=true)(hn:n=p.next.length) {i l:Nat}(hi:i<n)(hl:hidL s A l) :
  ClI s p A B n (T.set (aGo p i l) (T.getD (aGo p i l) 0|||zbO s.edges (T.getD i 0) (l:Int))):=by
 have hj:aGo p i l<T.length:=by rw [h.len,hn];exact zcV hp (by omega) hl.1
 refine⟨by rw [List.length_set];exact h.len,fun x hx=>?_,fun q i' hb=>(zcl hj _ _ _).2 (.inl (h.base q i' hb)),fun i' q hb=>?_⟩
 ·rcases List.mem_or_eq_of_mem_set hx with hx|rfl
  ·exact h.lt x hx
  ·exact Nat.or_lt_two_pow (n:=16) (zbt h.lt _) (Nat.lt_of_lt_of_le (stepB_lt hs.2.2.1 _ _) (Nat.pow_le_pow_right (by omega) (by have:=hs.2.1;omega)))
 ·rcases (zcl hj _ _ _).1 hb with hb1|⟨rfl,hb1⟩
  ·exact h.sub _ _ hb1
  ·obtain⟨q0,h1,h2⟩:=(zgd hs hl.2.1 _ _).1 hb1
   exact .hid (h.sub _ _ h1) hl h2
theorem closedAt_of (hs:Sml s) {i l:Nat}(hl:hidL s A l)(he:T.getD (aGo p i l) 0|||zbO s.edges (T.getD i 0) (l:Int)=T.getD (aGo p i l) 0):zdR s p T i l:=by
 intro q hq q' hq'
 unfold zcX
 rw [← he,Nat.testBit_or,(zgd hs hl.2.1 _ _).2 ⟨q,hq,hq'⟩,Bool.or_true]
theorem ClI.fin (h:ClI s p A B n T)(hc:∀ i l,i<n→hidL s A l→zdR s p T i l):zbd T n (Cl s p A B):=by
 refine⟨h.len,h.lt,fun i q=>⟨h.sub i q,fun hb=>?_⟩⟩
 induction hb with
 |base hb=>exact h.base _ _ hb
 |hid _ hl hq ih=>exact hc _ _ (by rw [← h.len];exact zgi ih) hl _ ih _ hq
end
def room:List Nat→Nat
 |[]=>0
 |x :: r=>(65536 - x)+room r
theorem room_set:∀ (T:List Nat) (j x:Nat),(T.getD j 0|||x)<65536→room (T.set j (T.getD j 0|||x))≤room T∧(j<T.length→T.getD j 0|||x≠T.getD j 0→room (T.set j (T.getD j 0|||x))<room T)
 |[],j,x,_=>by simp [room]
 |a :: r,0,x,h=>by
  simp only [List.getD_cons_zero,List.set_cons_zero,room] at h ⊢
  have h1:a≤a|||x:=Nat.left_le_or
  refine⟨by omega,fun _ h2=>by omega⟩
 |a :: r,j+1,x,h=>by
  simp only [List.getD_cons_succ,List.set_cons_succ,room,List.length_cons] at h ⊢
  obtain⟨h1,h2⟩:=room_set r j x h
  refine⟨by omega,fun h3 h4=>by have:=h2 (by omega) h4;omega⟩
theorem sub_bit {a b:Nat}(ha:a<64)(hb:b<64) (l:Nat):l∈letters (a - (a&&&b)) 6↔l<6∧a.testBit l=true∧b.testBit l=false:=by
 rw [zz]
 refine and_congr_right fun hl=>?_
 have key:∀ a<64,∀ b<64,∀ l<6,((a - (a&&&b)).testBit l=true↔a.testBit l=true∧b.testBit l=false):=by decide +kernel
 exact key a ha b hb l hl
theorem stand_bad {s:Sys} {p:Aut} {A n:Nat} {v:List Nat} {T:List Nat}(h:zbd T n (PR s p A v)):Bad s p A v↔∃ i,i<n∧T.getD i 0≠0∧zcg p i=false:=by
 constructor
 ·rintro ⟨q,i,h1,h2⟩
  have hb:=(h.2.2 i q).2 h1
  refine⟨i,by rw [← h.1];exact zgi hb,fun e=>?_,h2⟩
  unfold zcX at hb
  rw [e] at hb
  simp at hb
 ·rintro ⟨i,hi,h1,h2⟩
  obtain⟨q,hq⟩:=Nat.exists_testBit_of_ne_zero h1
  exact⟨q,i,(h.2.2 i q).1 hq,h2⟩
theorem zgO {n:Nat}(hn:1≤n):zbd ((List.replicate n 0).set 0 1) n (fun q i=>q=0∧i=0):=by
 refine⟨by simp,fun x hx=>?_,fun i q=>?_⟩
 ·rcases List.mem_or_eq_of_mem_set hx with hx|rfl
  ·rw [List.mem_replicate] at hx;omega
  ·omega
 ·unfold zcX
  rw [List.getD_eq_getElem?_getD]
  by_cases h:i=0
  ·subst h
   rw [List.getElem?_set_self (by rw [List.length_replicate];omega),Option.getD_some]
   constructor
   ·intro h;exact⟨by cases q with|zero=>rfl|succ q=>simp [Nat.testBit_succ] at h,rfl⟩
   ·rintro ⟨rfl,-⟩;rfl
  ·rw [List.getElem?_set_ne (by omega)]
   constructor
   ·intro h
    cases h1:(List.replicate n 0)[i]? with
    |none=>rw [h1] at h;simp at h
    |some x =>
     have:=List.mem_of_getElem? h1
     rw [List.mem_replicate] at this
     rw [h1,this.2] at h
     simp at h
   ·rintro ⟨_,h1⟩;exact absurd h1 h
def MvP (s:Sys) (p:Aut) (l:Nat) (T:List Nat) (k:Nat) (U:List Nat):Prop:=
 U.length=12∧(∀ x∈U,x<65536)∧∀ j q',zcX U j q'↔∃ i q,i<k∧zcX T i q∧q'∈cho s q l∧j=aGo p i l
def goS (s:Sys) (l x:Nat):Nat:=if s.al.toNat.testBit l=true then zbO s.edges x (l:Int) else x
section
variable {s:Sys} {p:Aut} {l k n:Nat} {T U:List Nat} {B:Nat→Nat→Prop}
theorem goS_bit (hs:Sml s) (x q':Nat):(goS s l x).testBit q'=true↔∃ q,x.testBit q=true∧q'∈cho s q l:=by
 unfold goS
 by_cases hb:s.al.toNat.testBit l=true
 ·rw [if_pos hb]
  exact zgd hs hb x q'
 ·rw [if_neg hb]
  constructor
  ·intro h
   refine⟨q',h,?_⟩
   unfold cho
   rw [if_neg hb]
   simp
  ·rintro ⟨q,h1,h2⟩
   unfold cho at h2
   rw [if_neg hb] at h2
   obtain rfl:q'=q:=by simpa using h2
   exact h1
theorem goS_lt (hs:Sml s) {x:Nat}(hx:x<65536):goS s l x<65536:=by
 unfold goS
 split
 ·exact zfC hs _ _
 ·exact hx
theorem zero_bit (n i q:Nat):¬ zcX (List.replicate n 0) i q:=by
 unfold zcX
 rw [List.getD_eq_getElem?_getD]
 cases h:(List.replicate n 0)[i]? with
 |none=>simp
 |some x =>
  have:=List.mem_of_getElem? h
  rw [List.mem_replicate] at this
  simp [this.2]
theorem MvP.zero:MvP s p l T 0 (List.replicate 12 0):=by
 refine⟨by simp,fun x hx=>by rw [List.mem_replicate] at hx;omega,fun j q'=>⟨fun h=>absurd h (zero_bit _ _ _),?_⟩⟩
 rintro ⟨i,q,h,-⟩
 omega
theorem MvP.skip (h:MvP s p l T k U)(h0:T.getD k 0=0):MvP s p l T (k+1) U:=by
 refine⟨h.1,h.2.1,fun j q'=>⟨fun hb=>?_,?_⟩⟩
 ·obtain⟨i,q,h1,h2⟩:=(h.2.2 j q').1 hb
  exact⟨i,q,by omega,h2⟩
 ·rintro ⟨i,q,h1,h2,h3⟩
  rcases Nat.lt_or_eq_of_le (Nat.le_of_lt_succ h1) with h4|rfl
  ·exact (h.2.2 j q').2 ⟨i,q,h4,h2,h3⟩
  ·unfold zcX at h2
   rw [h0] at h2
   simp at h2
theorem yC07a3 {P:Prop}(h:P:=by
 rintro ⟨i,q,h1,h2,h3,h4⟩
 rcases Nat.lt_or_eq_of_le (Nat.le_of_lt_succ h1) with h5|rfl
 ·exact .inl ⟨i,q,h5,h2,h3,h4⟩
 ·exact .inr ⟨h4,q,h2,h3⟩
 ):P:=h
theorem MvP.step (h:MvP s p l T k U)(hs:Sml s)(hT:∀ x∈T,x<65536)(hj:aGo p k l<12):MvP s p l T (k+1) (U.set (aGo p k l) (U.getD (aGo p k l) 0|||goS s l (T.getD k 0))):=by
 have hj':aGo p k l<U.length:=by rw [h.1];exact hj
 refine⟨by rw [List.length_set];exact h.1,fun x hx=>?_,fun j q'=>?_⟩
 ·rcases List.mem_or_eq_of_mem_set hx with hx|rfl
  ·exact h.2.1 x hx
  ·exact Nat.or_lt_two_pow (n:=16) (zbt h.2.1 _) (goS_lt hs (zbt hT _))
 ·rw [zcl hj',h.2.2 j q',goS_bit hs]
  constructor
  ·rintro (⟨i,q,h1,h2⟩|⟨rfl,q,h1,h2⟩)
   ·exact⟨i,q,by omega,h2⟩
   ·exact⟨k,q,by omega,h1,h2,rfl⟩
  ·exact yC07a3
theorem MvP.fin (h:MvP s p l T 12 U)(hT:zbd T 12 B):zbd U 12 (mvB s p l B):=by
 refine⟨h.1,h.2.1,fun j q'=>?_⟩
 rw [h.2.2 j q']
 constructor
 ·rintro ⟨i,q,-,h2,h3,h4⟩
  exact⟨q,i,(hT.2.2 i q).1 h2,h3,h4⟩
 ·rintro ⟨q,i,h2,h3,h4⟩
  have hb:=(hT.2.2 i q).2 h2
  exact⟨i,q,by rw [← hT.1];exact zgi hb,hb,h3,h4⟩
def Has (M V:List Nat) (k:Nat):Prop:=∀ i q,i<k→zcX V i q→zcX M i q
theorem Has.zero (M V:List Nat):Has M V 0:=fun i q h=>by omega
theorem Has.all {M V:List Nat}(h:Has M V 12)(hV:V.length=12) (i q:Nat)(hb:zcX V i q):zcX M i q:=h i q (by rw [← hV];exact zgi hb) hb
theorem Has.set {M V:List Nat}(h:Has M V n) {j x:Nat}(hj:j<M.length):Has (M.set j (M.getD j 0|||x)) V n:=fun i q hi hb=>(zcl hj _ _ _).2 (.inl (h i q hi hb))
theorem Has.step {M V:List Nat}(h:Has M V k)(hk:k<M.length):Has (M.set k (M.getD k 0|||V.getD k 0)) V (k+1):=fun i q hi hb=>by
 rw [zcl hk]
 rcases Nat.lt_or_eq_of_le (Nat.le_of_lt_succ hi) with h4|rfl
 ·exact .inl (h i q h4 hb)
 ·exact .inr ⟨rfl,hb⟩
variable {A:Nat}
theorem ClI.join {M V:List Nat}(h:ClI s p A B 12 M)(hT:ClI s p A B 12 T)(hV:MvP s p l T 12 V)(hl:hidL s A l)(hk:k<12):ClI s p A B 12 (M.set k (M.getD k 0|||V.getD k 0)):=by
 have hk':k<M.length:=by rw [h.len];exact hk
 refine⟨by rw [List.length_set];exact h.len,fun x hx=>?_,fun q i hb=>(zcl hk' _ _ _).2 (.inl (h.base q i hb)),fun i q hb=>?_⟩
 ·rcases List.mem_or_eq_of_mem_set hx with hx|rfl
  ·exact h.lt x hx
  ·exact Nat.or_lt_two_pow (n:=16) (zbt h.lt _) (zbt hV.2.1 _)
 ·rcases (zcl hk' _ _ _).1 hb with hb|⟨rfl,hb⟩
  ·exact h.sub i q hb
  ·obtain⟨i0,q0,-,h2,h3,rfl⟩:=(hV.2.2 i q).1 hb
   exact .hid (hT.sub i0 q0 h2) hl h3
theorem ClI.stop (hT:ClI s p A B 12 T)(h:∀ l,hidL s A l→∃ V,MvP s p l T 12 V∧Has T V 12):zbd T 12 (Cl s p A B):=
 hT.fin fun i l hi hl q hq q' hq'=>by
  obtain⟨V,hV,hh⟩:=h l hl
  exact hh.all hV.1 _ _ ((hV.2.2 _ _).2 ⟨i,q,hi,hq,hq',rfl⟩)
end
theorem bits_le {a b:Nat}(h:∀ q,a.testBit q=true→b.testBit q=true):a≤b:=by
 have:a|||b=b:=Nat.eq_of_testBit_eq fun q=>by
  rw [Nat.testBit_or]
  cases ha:a.testBit q
  ·simp
  ·rw [h q ha];simp
 rw [← this]
 exact Nat.left_le_or
theorem room_le:∀ {T M:List Nat},T.length=M.length→(∀ x∈M,x<65536)→(∀ i,T.getD i 0≤M.getD i 0)→room M≤room T∧(T≠M→room M<room T)
 |[],[],_,_,_=>⟨Nat.le_refl _,fun h=>absurd rfl h⟩
 |[],_ :: _,h,_,_=>by simp at h
 |_ :: _,[],h,_,_=>by simp at h
 |a :: r,b :: t,h,hM,hle=>by
  have h0:a≤b:=by simpa using hle 0
  have hb:=hM b (by simp)
  obtain⟨h1,h2⟩:=room_le (T:=r) (M:=t) (by simpa using h) (fun x hx=>hM x (by simp [hx])) (fun i=>by simpa using hle (i+1))
  refine⟨by simp only [room];omega,fun hne=>?_⟩
  simp only [room]
  by_cases e:a=b
  ·subst e
   have:=h2 (fun e2=>hne (by rw [e2]))
   omega
  ·omega
theorem room_grow {T M:List Nat}(h1:T.length=M.length)(hM:∀ x∈M,x<65536)(h:∀ i q,zcX T i q→zcX M i q)(hne:T≠M):room M<room T:=
 (room_le h1 hM (fun i=>bits_le (fun q hq=>h i q hq))).2 hne
def bq (T:List Nat):Nat→Nat→Prop:=fun q i=>zcX T i q
theorem zbd.eq {T:List Nat} {n:Nat} {B:Nat→Nat→Prop}(h:zbd T n B):bq T=B:=funext fun q=>funext fun i=>propext (h.2.2 i q)
structure WS (p:Aut) (T:List Nat):Prop where
 len:T.length=12
 lt:∀ x∈T,x<65536
 row:∀ i q,zcX T i q→i<p.next.length
theorem WS.stand {p:Aut} {T:List Nat}(h:WS p T):zbd T 12 (bq T):=⟨h.len,h.lt,fun _ _=>Iff.rfl⟩
theorem WS.idx {p:Aut} {T:List Nat}(h:WS p T) {i:Nat}(h0:T.getD i 0≠0):i<p.next.length:=by
 obtain⟨q,hq⟩:=Nat.exists_testBit_of_ne_zero h0
 exact h.row i q hq
def zfp (p:Aut) (T:List Nat):Nat→Bool
 |0=>false
 |k+1=>zfp p T k || (T.getD k 0 != 0&&!zcg p k)
def badS (p:Aut) (T:List Nat):Bool:=zfp p T 12
theorem badSN_iff (p:Aut) (T:List Nat):∀ k,zfp p T k=true↔∃ i,i<k∧T.getD i 0≠0∧zcg p i=false
 |0=>⟨fun h=>(by cases h),fun ⟨i,h,_⟩=>(by omega)⟩
 |k+1=>by
  unfold zfp
  rw [Bool.or_eq_true,badSN_iff p T k]
  constructor
  ·rintro (⟨i,h1,h2⟩|h)
   ·exact⟨i,by omega,h2⟩
   ·refine⟨k,by omega,?_⟩
    simpa using h
  ·rintro ⟨i,h1,h2,h3⟩
   rcases Nat.lt_or_eq_of_le (Nat.le_of_lt_succ h1) with h4|rfl
   ·exact .inl ⟨i,h4,h2,h3⟩
   ·exact .inr (by simp only [h3,Bool.not_false,Bool.and_true];simpa using h2)
theorem zhP {s:Sys} {p:Aut} {A:Nat} {v:List Nat} {T:List Nat}(h:zbd T 12 (PR s p A v)):badS p T=true↔Bad s p A v:=by
 rw [stand_bad h]
 exact badSN_iff p T 12
theorem cl_row {s:Sys} {p:Aut} {A:Nat} {B:Nat→Nat→Prop}(hp:zk p=true)(hB:∀ q i,B q i→i<p.next.length) {q i:Nat}(h:Cl s p A B q i):i<p.next.length:=by
 induction h with
 |base h=>exact hB _ _ h
 |hid _ hl _ ih=>exact zcV hp ih hl.1
def Lead (s:Sys) (p:Aut) (A l:Nat) (T U:List Nat):Prop:=zbd U 12 (Cl s p A (mvB s p l (bq T)))
theorem Lead.ws {s:Sys} {p:Aut} {A l:Nat} {T U:List Nat}(h:Lead s p A l T U)(hp:zk p=true)(hl:l<6)(hT:WS p T):WS p U:=
 ⟨h.1,h.2.1,fun i q hb=>cl_row hp (fun q i ⟨_,i0,h1,_,h3⟩=>by rw [h3];exact zcV hp (hT.row _ _ h1) hl) ((h.2.2 i q).1 hb)⟩
theorem Lead.pr {s:Sys} {p:Aut} {A l:Nat} {T U:List Nat} {v:List Nat}(h:Lead s p A l T U)(hT:zbd T 12 (PR s p A v)):zbd U 12 (PR s p A (v++[l])):=by
 unfold Lead at h
 rw [hT.eq,← PR_snoc] at h
 exact h
theorem start_ws {s:Sys} {p:Aut} {A:Nat} {U:List Nat}(h:zbd U 12 (PR s p A []))(hp:zk p=true)(h0:0<p.next.length):WS p U:=
 ⟨h.1,h.2.1,fun i q hb=>cl_row hp (fun q i ⟨_,h3⟩=>by rw [h3];exact h0) ((h.2.2 i q).1 hb)⟩
structure SfI (s:Sys) (p:Aut) (A:Nat) (Ts:List (List Nat)) (nx:Nat→Nat→Int):Prop where
 ws:∀ T∈Ts,WS p T
 start:∃ T,Ts[0]?=some T∧zbd T 12 (PR s p A [])
 nx:∀ k l,k<Ts.length→l<6→nx k l = -1∨∃ (j:Nat) (T U:List Nat),nx k l=(j:Int)∧Ts[k]?=some T∧Ts[j]?=some U∧Lead s p A l T U
section
variable {s:Sys} {p:Aut} {A:Nat} {Ts:List (List Nat)} {nx:Nat→Nat→Int}
theorem SfI.add (h:SfI s p A Ts nx) {U:List Nat}(hU:WS p U):SfI s p A (Ts++[U]) (fun k l=>if k=Ts.length then -1 else nx k l):=by
 obtain⟨T,h1,h2⟩:=h.start
 refine⟨fun V hV=>?_,⟨T,by rw [List.getElem?_append_left (List.getElem?_eq_some_iff.1 h1).1];exact h1,h2⟩,fun k l hk hl=>?_⟩
 ·rcases List.mem_append.1 hV with hV|hV
  ·exact h.ws V hV
  ·obtain rfl:V=U:=by simpa using hV
   exact hU
 ·by_cases e:k=Ts.length
  ·exact .inl (if_pos e)
  ·have hk':k<Ts.length:=by simp at hk;omega
   simp only [if_neg e]
   rcases h.nx k l hk' hl with h3|⟨j,T,U,h3,h4,h5,h6⟩
   ·exact .inl h3
   ·exact .inr ⟨j,T,U,h3,by rw [List.getElem?_append_left hk'];exact h4,by rw [List.getElem?_append_left (List.getElem?_eq_some_iff.1 h5).1];exact h5,h6⟩
theorem SfI.set (h:SfI s p A Ts nx) {k l j:Nat} {T U:List Nat}(hT:Ts[k]?=some T)(hU:Ts[j]?=some U)(hl:Lead s p A l T U):SfI s p A Ts (fun k' l'=>if k'=k∧l'=l then (j:Int) else nx k' l'):=by
 refine⟨h.ws,h.start,fun k' l' hk' hl'=>?_⟩
 by_cases e:k'=k∧l'=l
 ·obtain⟨rfl,rfl⟩:=e
  exact .inr ⟨j,T,U,if_pos ⟨rfl,rfl⟩,hT,hU,hl⟩
 ·simp only [if_neg e]
  exact h.nx k' l' hk' hl'
end
theorem ints_one (l:List Int):∀ u∈ints l,u.oneCell'=true:=by
 intro u hu
 obtain⟨x,_,rfl⟩:=List.mem_map.1 hu
 rfl
theorem zeM (l:List Bool):∀ u∈zP l,u.oneCell'=true:=by
 intro u hu
 obtain⟨x,_,rfl⟩:=List.mem_map.1 hu
 rfl
theorem zeS {w w1:World} {cs:Array Value} {t:TypeId} {n c:Nat}(hg:(w.alloc (.cells cs t)).grownBy w1 (Value.slice (some ⟨w.heap.size,0,none⟩) n c).ownBlock):Ext w w1:=
 ((Ext.refl w).alloc _).grown hg (fun k hk=>by
  have hk':w.heap.size=k:=by simpa [Value.ownBlock] using hk
  omega)
theorem clone_int {lo hi:Nat} {A:Option Addr} {n c:Nat} {l:List Int} {w:World}(h:Reads w lo hi 1 A n (ints l))(hn:n≤1048576) :
  Calls Tryz.prog 177 #[.slice A n c] w fun e w'=>∃ v',e=.returned v'∧w'.ownsRow w.heap.size 3 1 v' n (ints l)∧Ext w w':=by
 cases A with
 |none =>
  obtain rfl:n=0:=by
   rcases Nat.eq_zero_or_pos n with h0|h0
   ·exact h0
   ·obtain⟨_,h1,_⟩:=h.2.2 h0
    cases h1
  have hl:=h.length
  obtain rfl:l=[]:=List.eq_nil_of_length_eq_zero (by rw [zbU] at hl;omega)
  clear h
  have hq:=fun (w:World) (a:Option Addr) (n c n' c':Nat)=>Lib.run_eql_slice_nil (P:=Tryz.prog) w 128 _ a n c n' c' Tryz.underlying128
  go_enter Tryz.func177,Tryz.ntmps177
  go_wp2
  go_ret
  exact⟨_,rfl,World.ownsRow_nil _ _ _ _,Ext.refl _⟩
 |some ad =>
  have H:=za (h.ext ((Ext.refl w).alloc (.cells #[] 3)))
  clear h
  have hq:=fun (w:World) (a:Option Addr) (n c n' c':Nat)=>Lib.run_eql_slice_nil (P:=Tryz.prog) w 128 _ a n c n' c' Tryz.underlying128
  go_enter Tryz.func177,Tryz.ntmps177
  go_wp2_with (at_builtin;refine zcE _ rfl _ _ 128 rfl w.heap.size 3 _ 1 8 Tryz.underlying128 zah rfl (by decide) _ 0 [] rfl (World.ownsRow_made w #[] 0 (Nat.le_refl _) (Nat.zero_le _) rfl) _ _ (some ad) n c (ints l) rfl H.out (ints_one l) (by unfold maxLen;omega) (by omega) (by simp) ?_;intro v' w1 ziJ hg hat)
  have hx:=zeS hg
  rw [Nat.zero_add,List.nil_append] at ziJ
  go_ret
  exact⟨_,rfl,ziJ,hx⟩
theorem zhs {lo hi:Nat} {A:Option Addr} {n c:Nat} {l:List Bool} {w:World}(h:Reads w lo hi 1 A n (zP l))(hn:n≤1048576) :
  Calls Tryz.prog 176 #[.slice A n c] w fun e w'=>∃ v',e=.returned v'∧w'.ownsRow w.heap.size 4 1 v' n (zP l)∧Ext w w':=by
 cases A with
 |none =>
  obtain rfl:n=0:=by
   rcases Nat.eq_zero_or_pos n with h0|h0
   ·exact h0
   ·obtain⟨_,h1,_⟩:=h.2.2 h0
    cases h1
  have hl:=h.length
  obtain rfl:l=[]:=List.eq_nil_of_length_eq_zero (by rw [zaH] at hl;omega)
  clear h
  have hq:=fun (w:World) (a:Option Addr) (n c n' c':Nat)=>Lib.run_eql_slice_nil (P:=Tryz.prog) w 26 _ a n c n' c' Tryz.underlying26
  go_enter Tryz.func176,Tryz.ntmps176
  go_wp2
  go_ret
  exact⟨_,rfl,World.ownsRow_nil _ _ _ _,Ext.refl _⟩
 |some ad =>
  have H:=za (h.ext ((Ext.refl w).alloc (.cells #[] 4)))
  clear h
  have hq:=fun (w:World) (a:Option Addr) (n c n' c':Nat)=>Lib.run_eql_slice_nil (P:=Tryz.prog) w 26 _ a n c n' c' Tryz.underlying26
  go_enter Tryz.func176,Tryz.ntmps176
  go_wp2_with (at_builtin;refine zcE _ rfl _ _ 26 rfl w.heap.size 4 _ 1 1 Tryz.underlying26 zbH rfl (by decide) _ 0 [] rfl (World.ownsRow_made w #[] 0 (Nat.le_refl _) (Nat.zero_le _) rfl) _ _ (some ad) n c (zP l) rfl H.out (zeM l) (by unfold maxLen;omega) (by omega) (by simp) ?_;intro v' w1 ziJ hg hat)
  have hx:=zeS hg
  rw [Nat.zero_add,List.nil_append] at ziJ
  go_ret
  exact⟨_,rfl,ziJ,hx⟩
theorem zap (W:World) (Z:Nat) (u0 u1 u2:Value):Frm (fun k=>k=Z) W (((W.setCell ⟨Z,0,none⟩ u0).setCell ⟨Z,1,none⟩ u1).setCell ⟨Z,2,none⟩ u2):=
 ((Frm.setCell W Z 0 u0).trans (Frm.setCell _ Z 1 u1)).trans (Frm.setCell _ Z 2 u2)
theorem zaT {w:World} {Z:Nat} {cs:Array Value} {t:TypeId}(h:Blk w Z t cs)(hc:cs.size=3) (u0 u1 u2:Value):Blk (((w.setCell ⟨Z,0,none⟩ u0).setCell ⟨Z,1,none⟩ u1).setCell ⟨Z,2,none⟩ u2) Z t #[u0,u1,u2]:=by
 obtain⟨l⟩:=cs
 match l,hc with
 |[a,b,c],_=>simpa using ((h.set_ 0 u0).set_ 1 u1).set_ 2 u2
theorem zw {w:World} {base:Nat} {e t:TypeId} {size n G:Nat} {v:Value} {xs:List Value} {cs:Array Value}(h:w.ownsRow base e size v n xs)(hB:Blk w G t cs)(hne:e≠t) {b:Nat}(hv:v.ownBlock=some b):b≠G:=by
 rintro rfl
 rcases h.2 with ⟨rfl,_⟩|⟨g,cap,cur,rfl,_,hh,_⟩
 ·simp [Value.ownBlock] at hv
 ·have hg:g=b:=by simpa [Value.ownBlock] using hv
  subst hg
  unfold Blk at hB
  rw [hh] at hB
  injection hB with hB
  injection hB with _ ht
  exact absurd ht hne
structure Gra (w0 W:World) (G:Nat) (al:Int) (v:Value) (ls:List (List Int)) (vA:Value) (acc:List Bool):Prop where
 blk:Blk W G 31 #[.int .i64 al,v,vA]
 own:zeH W w0.heap.size v ls
 acc:W.ownsRow w0.heap.size 4 1 vA acc.length (zP acc)
 ext:Ext w0 W
 hG:w0.heap.size≤G
section
variable {w0 W W':World} {G:Nat} {al:Int} {v vA:Value} {ls:List (List Int)} {acc:List Bool}
theorem Gra.ext_ (h:Gra w0 W G al v ls vA acc)(hb:Ext W W'):Gra w0 W' G al v ls vA acc:=⟨h.blk.ext hb,h.own.ext hb,zh h.acc hb,h.ext.trans hb,h.hG⟩
theorem Gra.push {W1:World} {rows:List Value} {row:Value} {l:List Int} {g cap:Nat}(h:Gra w0 W G al v ls vA acc)(hrows:zx W w0.heap.size rows ls)(hv:W.ownsRow w0.heap.size 128 1 v ls.length rows)
  (hx:Ext W W1) (hrow:W1.ownsRow W.heap.size 3 1 row l.length (ints l))
  (ziJ:W'.ownsRow w0.heap.size 128 1 (.slice (some ⟨g,0,none⟩) (ls.length+1) cap) (ls.length+1) (rows++[row]))
  (hg:W1.grownBy W' v.ownBlock) (hat:v.ownBlock=some g∨g=W1.heap.size+1) :
  Hid (W'.cell? ⟨G,1,none⟩=some v)∧W'.frozen? ⟨G,1,none⟩=false∧Gra w0 (W'.setCell ⟨G,1,none⟩ (.slice (some ⟨g,0,none⟩) (ls.length+1) cap)) G al (.slice (some ⟨g,0,none⟩) (ls.length+1) cap) (ls++[l]) vA acc:=by
 have hB1:=h.blk.ext hx
 have hv1:=zh hv hx
 have hB:Blk W' G 31 #[.int .i64 al,v,vA]:=(hg.block G hB1.lt (fun e=>zw hv1 hB1 (by decide) e.symm rfl)).trans hB1
 have hgG:g≠G:=by
  rcases hat with h1|h1
  ·exact zw hv1 hB1 (by decide) h1
  ·have:=hB1.lt;omega
 have hx':Ext w0 W':=(h.ext.trans hx).grown hg (fun k hk=>(hv1.lt k hk).1)
 have hr1:=hrows.snoc hx (h.ext.size) hrow
 have hfr:Frm (fun k=>v.ownBlock=some k) W1 W':=Frm.of_grown hg
 have hr2:zx W' w0.heap.size (rows++[row]) (ls++[l]):=hr1.frm hfr (fun i r b hr hb hS=>by
  obtain⟨l',_,ho⟩:=hr1.row hr
  exact zaX ho hv1 (by decide) hb hS)
 have ziK:W'.ownsRow w0.heap.size 4 1 vA acc.length (zP acc):=zg (zh h.acc hx) hfr (fun b hb hS=>zaX (zh h.acc hx) hv1 (by decide) hb hS)
 have hset:=Frm.setCell W' G 1 (.slice (some ⟨g,0,none⟩) (ls.length+1) cap)
 refine⟨hB.cell 1,hB.frozen 1,⟨by simpa using hB.set_ 1 _,⟨rows++[row],?_,?_⟩,?_,hx'.setCell (p:=⟨G,1,none⟩) h.hG _,h.hG⟩⟩
 ·rw [List.length_append,List.length_singleton]
  exact zg ziJ hset (fun b hv hS=>by
   have:g=b:=by simpa [Value.ownBlock] using hv
   omega)
 ·refine hr2.frm hset (fun i r b hr hb hS=>?_)
  obtain⟨l',_,ho⟩:=hr2.row hr
  exact zw ho hB (by decide) hb hS
 ·exact zg ziK hset (fun b hb hS=>zw ziK hB (by decide) hb hS)
end
theorem zaz {lo hi:Nat} {A:Option Addr} {n c:Nat} {A':Option Addr} {n' c':Nat} {a:Aut} {w:World}(h:zC w lo hi A n A' n' a)(hs:a.size≤1048576) :
  Calls Tryz.prog 98 #[.agg #[.int .i64 a.al,.slice A n c,.slice A' n' c']] w (RetAut w a):=by
 have h1:n≤1048576:=by have:=h.n1;unfold Aut.size at hs;omega
 have h2:n'≤1048576:=by have:=h.n2;unfold Aut.size at hs;omega
 have hrow:∀ (k:Nat) (l:List Int),a.next[k]?=some l→l.length≤1048576:=fun k l hl=>by
  have h1:=zbe hl
  have h2:=zbY a.next (k+1)
  unfold Aut.size at hs
  omega
 have Hrow:=za hrow
 have hL:=za h.n1
 have hL':=za h.n2
 have HS:=za (fun W (hW:Ext w W)=>h.1.ext hW)
 have HA:=za (fun W (hW:Ext w W)=>h.2.2.ext hW)
 have hlen:=h.1.len
 clear hrow h hs
 go_enter Tryz.func98,Tryz.ntmps98
 obtain⟨b1,bz⟩:=zE (Ext.refl ((w.alloc (.cells #[.int .i64 a.al,.slice A n c,.slice A' n' c'] 31)).alloc (.cells #[.int .i64 0,.slice none 0 0,.slice none 0 0] 31)))
 have hw2:Ext w ((w.alloc (.cells #[.int .i64 a.al,.slice A n c,.slice A' n' c'] 31)).alloc (.cells #[.int .i64 0,.slice none 0 0,.slice none 0 0] 31)):=((Ext.refl w).alloc _).alloc _
 have hsz2:w.heap.size+2=((w.alloc (.cells #[.int .i64 a.al,.slice A n c,.slice A' n' c'] 31)).alloc (.cells #[.int .i64 0,.slice none 0 0,.slice none 0 0] 31)).heap.size:=by simp
 go_upto_region 1 with fail
 generalize (w.alloc (.cells #[.int .i64 a.al,.slice A n c,.slice A' n' c'] 31)).alloc (.cells #[.int .i64 0,.slice none 0 0,.slice none 0 0] 31)=w2 at *
 go_cut [3] (fun v wx=>∃ (G:Nat) (vA:Value),v=.pointer (some ⟨G,0,none⟩)∧Gra w2 wx G a.al (.slice none 0 0) [] vA a.acc)
 case first =>
  have c1:=fun W (hW:Ext w2 W)=>(b1.ext hW).cell
  have hww:=Ext.refl w2
  refine uR (fun X=>Ext w2 X) [7] (zu.app [0,1,2,3] (zu.two 4 (zu.of [5,6,7]) 6 (zu.of [4,5,7]))) ?_
  refine uQ ?_
  have hx0:Ext w2 w2.drew:=hww.drew
  generalize w2.drew=wd at *
  refine zm (fun K hK=>?_) (fun K hK=>?_)
  ·go_simp
   refine (zhs (HA.out _ (hw2.trans hx0)) h2).mono ?_
   rintro e w' ⟨vA',rfl,hownA,hxA⟩
   obtain⟨BA,dA,rfl⟩:=zi hownA
   have hx0':=hx0.trans hxA
   refine hK.out _ _ hx0' ?_
   refine pT ?_
   refine uQ ?_
   refine ze fun K hK=>?_;go_simp
   have hx1:=(Ext.refl w').alloc (.cells #[.int .i64 0,.slice none 0 0,.slice none 0 0] 31)
   have hb:=Blk.new w' 31 #[.int .i64 0,.slice none 0 0,.slice none 0 0]
   have hG:=hx0'.size
   have hownA':=zq (zh hownA hx1) hx0.size
   replace hx0':=hx0'.trans hx1
   refine hK.out _ _ hx0' ?_
   generalize w'.alloc (.cells #[.int .i64 0,.slice none 0 0,.slice none 0 0] 31)=w3 at *
   generalize w'.heap.size=G at *
   refine pT ?_
   refine uQ ?_
   have cG:=hb.cell
   have fG:=hb.frozen
   refine zb fun K hK=>?_
   go_simp
   refine hK.out _ _ ?_
   refine zf ?_
   have ziM:Gra w2 (((w3.setCell ⟨G,0,none⟩ (.int .i64 a.al)).setCell ⟨G,1,none⟩ (.slice none 0 0)).setCell ⟨G,2,none⟩ (.slice BA n' dA)) G a.al (.slice none 0 0) [] (.slice BA n' dA) a.acc:=⟨zaT hb rfl _ _ _,⟨[],World.ownsRow_nil _ _ _ _,zx.nil _ _⟩,by
    rw [← hL'.out]
    exact zg hownA' (zap w3 G _ _ _) (fun b hv hS=>zw hownA' hb (by decide) hv hS),hx0'.frm (zap w3 G _ _ _) (fun k hk e=>by omega),hG⟩
   go_wp2_with fail
   go_meet
   exact⟨G,_,rfl,ziM⟩
  ·go_simp
   have hx1:=(Ext.refl wd).alloc (.cells #[.int .i64 0,.slice none 0 0,.slice none 0 0] 31)
   have hb:=Blk.new wd 31 #[.int .i64 0,.slice none 0 0,.slice none 0 0]
   have hG:=hx0.size
   replace hx0:=hx0.trans hx1
   refine hK.out _ _ hx0 ?_
   generalize wd.alloc (.cells #[.int .i64 0,.slice none 0 0,.slice none 0 0] 31)=w3 at *
   generalize wd.heap.size=G at *
   refine pT ?_
   refine ze fun K hK=>?_;go_simp
   refine (zhs (HA.out _ (hw2.trans hx0)) h2).mono ?_
   rintro e w' ⟨vA',rfl,hownA,hxA⟩
   obtain⟨BA,dA,rfl⟩:=zi hownA
   have hownA':=zq hownA hx0.size
   replace hb:=hb.ext hxA
   replace hx0:=hx0.trans hxA
   refine hK.out _ _ hx0 ?_
   refine pT ?_
   refine uQ ?_
   have cG:=hb.cell
   have fG:=hb.frozen
   refine zb fun K hK=>?_
   go_simp
   refine hK.out _ _ ?_
   refine zf ?_
   have ziM:Gra w2 (((w'.setCell ⟨G,0,none⟩ (.int .i64 a.al)).setCell ⟨G,1,none⟩ (.slice none 0 0)).setCell ⟨G,2,none⟩ (.slice BA n' dA)) G a.al (.slice none 0 0) [] (.slice BA n' dA) a.acc:=⟨zaT hb rfl _ _ _,⟨[],World.ownsRow_nil _ _ _ _,zx.nil _ _⟩,by
    rw [← hL'.out]
    exact zg hownA' (zap w' G _ _ _) (fun b hv hS=>zw hownA' hb (by decide) hv hS),hx0.frm (zap w' G _ _ _) (fun k hk e=>by omega),hG⟩
   go_wp2_with fail
   go_meet
   exact⟨G,_,rfl,ziM⟩
 case rest =>
  obtain⟨G,vA,rfl,hgr⟩:=hcut
  have k1:=(b1.ext hgr.ext).cell
  go_wp2_with fail
  go_loopw [5,15] (fun _ i wr=>∃ (k:Nat) (v:Value),k≤n∧i=.int .i64 k∧Gra w2 wr G a.al v (a.next.take k) vA a.acc) (fun _ i _=>n - (intOf i).toNat)
  case atStart=>exact⟨0,_,Nat.zero_le _,rfl,by simpa using hgr⟩
  case round =>
   clear hgr k1
   obtain⟨k,v,hk,rfl,hgr⟩:=hrel
   by_cases hlt:k<n
   ·obtain⟨ad,Ak,ck,l,rfl,_,_,hl,hc0,hrk⟩:=(HS.out wr (hw2.trans hgr.ext)).row hlt
    have hll:=Hrow.out k l hl.out
    have Htk:=za (show a.next.take (k+1)=a.next.take k++[l] by rw [List.take_add_one,hl.out];rfl)
    have htl:=za (show (a.next.take k).length=k by rw [List.length_take];have:=hL.out;omega)
    obtain⟨rows,hv,hrows⟩:=hgr.own
    go_upto_region 5 with fail
    have cG:∀ W,Ext wr W→∀ q,W.cell? ⟨G,q,none⟩=#[Value.int .i64 a.al,v,vA][q]?:=fun W hW=>(hgr.blk.ext hW).cell
    have hww:=Ext.refl wr
    have Hrk:=za (fun W (hW:Ext wr W)=>hrk.ext hW)
    clear hc0 hrk
    refine uR (fun X=>Ext wr X) [5,7] (zu.of [0,1,2,3,4,5,6,7]) ?_
    refine uQ ?_
    refine ze fun K hK=>?_;go_simp
    refine (clone_int (Hrk.out _ hww.drew) hll).mono ?_
    rintro e w3 ⟨row,rfl,hrow,hx3⟩
    obtain⟨BR,dR,rfl⟩:=zi hrow
    have hww3:=hww.drew.trans hx3
    refine hK.out _ _ hww3 ?_
    refine pT ?_
    refine uQ ?_
    refine ze fun K hK=>?_;go_simp
    refine hK.out _ _ (hww3.alloc _) ?_
    refine pT ?_
    refine zb fun K hK=>?_
    refine zbN w2 w3 _ _ _ rfl 128 _ 1 24 Tryz.underlying25 zdc rfl (by decide) v (a.next.take k).length rows _ _ rfl rfl (hgr.ext.trans hww3).size (zh hv hww3) rfl (zbS _ _ _) (by unfold maxLen;have:=htl.out;omega) (by have:=htl.out;omega) ?_
    intro g5 cap5 w5 ziV hg5 hat5 hlt5
    refine hK.out _ _ ?_
    refine pT ?_
    refine uQ ?_
    obtain⟨p1,p2,p3⟩:=hgr.push hrows hv hww3 hrow (W':=w5) ziV hg5 hat5
    have p1':=p1.out
    refine zb fun K hK=>?_
    go_simp
    refine hK.out _ _ ?_
    refine zf ?_
    go_wp2_with fail
    go_roundw
    case rel=>exact⟨k+1,_,by omega,by go_num,by rw [Htk.out];first|exact p3|simpa using p3⟩
    case measure=>simp [intOf];omega
   ·obtain rfl:n=k:=by omega
    obtain⟨A5,c5,rfl⟩:∃ A5 c5,v=.slice A5 n c5:=by
     obtain⟨rows,hv,_⟩:=hgr.own
     rw [List.take_of_length_le (by have:=hL.out;omega),← hL.out] at hv
     exact zi hv
    obtain⟨B5,d5,rfl⟩:=zi hgr.acc
    have cG:=hgr.blk.cell
    have hbz:=bz.ext hgr.ext
    have cZ:=hbz.cell
    have fZ:=hbz.frozen
    have hfl:=zap wr (w.heap.size+1) (.int .i64 a.al) (.slice A5 n c5) (.slice B5 a.acc.length d5)
    have hbf:=zaT hbz rfl (.int .i64 a.al) (.slice A5 n c5) (.slice B5 a.acc.length d5)
    have hxf:=(hw2.trans hgr.ext).frm hfl (fun k hk e=>by omega)
    have ziM:=za (show RetAut w a (.returned (.agg #[.int .i64 a.al,.slice A5 n c5,.slice B5 a.acc.length d5])) (((wr.setCell ⟨w.heap.size+1,0,none⟩ (.int .i64 a.al)).setCell ⟨w.heap.size+1,1,none⟩ (.slice A5 n c5)).setCell ⟨w.heap.size+1,2,none⟩ (.slice B5 a.acc.length d5)) from by
     refine⟨A5,n,c5,B5,a.acc.length,d5,rfl,⟨?_,hL.out,?_,rfl⟩,hxf⟩
     ·have ho:=hgr.own
      rw [List.take_of_length_le (by have:=hL.out;omega)] at ho
      exact (ho.keep hfl (fun b h1 e=>by omega)).less (by omega)
     ·exact zq (zcn hgr.acc hfl (fun b h1 e=>by omega)) (by omega))
    go_wp2_with fail
    generalize ((wr.setCell ⟨w.heap.size+1,0,none⟩ (.int .i64 a.al)).setCell ⟨w.heap.size+1,1,none⟩ (.slice A5 n c5)).setCell ⟨w.heap.size+1,2,none⟩ (.slice B5 a.acc.length d5)=wf at *
    have cf:=hbf.cell
    exact bodyPost_ret (v:=.agg #[.int .i64 a.al,.slice A5 n c5,.slice B5 a.acc.length d5]) (by simp [results,Tryz.results98,go_sem,cf]) rfl ziM.out
def memT (W:World) (g n:Nat):List Nat:=(List.range n).map fun j=>match W.cell? ⟨g,j,none⟩ with|some (.int _ z)=>z.toNat|_=>0
theorem memT_own {W:World} {base g n c:Nat} {T:List Nat}(h:W.ownsRow base 3 1 (.slice (some ⟨g,0,none⟩) n c) n (zS T))(hT:T.length=n):memT W g n=T:=by
 refine List.ext_getElem? fun j=>?_
 unfold memT
 rw [List.getElem?_map]
 rcases Nat.lt_or_ge j n with hj|hj
 ·rw [List.getElem?_range hj,Option.map_some,h.cellAt j (by omega),show (zS T)[j]?=T[j]?.map (fun x=>Value.int .i64 (x:Nat)) by simp [zS]]
  rw [List.getElem?_eq_getElem (by omega)]
  simp
 ·rw [List.getElem?_eq_none (by simpa using hj),List.getElem?_eq_none (by omega)]
  rfl
theorem zcx {W:World} {base g n c j:Nat} {T:List Nat}(h:W.ownsRow base 3 1 (.slice (some ⟨g,0,none⟩) n c) n (zS T))(hj:j<n):W.cell? ⟨g,j,none⟩=some (.int .i64 (T.getD j 0:Nat)):=by
 have hl:=zcS h
 have hT:T.length=n:=by simpa [zS] using hl
 rw [h.cellAt j (by omega),show (zS T)[j]?=T[j]?.map (fun x=>Value.int .i64 (x:Nat)) by simp [zS],List.getD_eq_getElem?_getD,List.getElem?_eq_getElem (by omega)]
 simp
def RetSets (g N cc base:Nat) (Q:Nat→Nat→Prop) (w:World) (e:Ending) (w':World):Prop:=
 ∃ T':List Nat,e=.returned (.slice (some ⟨g,0,none⟩) N cc)∧w'.ownsRow base 3 1 (.slice (some ⟨g,0,none⟩) N cc) N (zS T')∧zbd T' N Q∧Frm (fun k=>k=g) w w'
section
variable {w:World} {lo hi n c m d m' d' L:Nat} {A B B':Option Addr} {s:Sys} {p:Aut}
theorem zfM {base g N cc:Nat} {T:List Nat} {Bs:Nat→Nat→Prop}(hS:zM w lo hi A n s)(hP:zC w lo hi B m B' m' p)(hv:zn s=true)(hp:zk p=true)(hL:L<64)(hN:N=p.next.length)
  (hg:hi≤base) (ziJ:w.ownsRow base 3 1 (.slice (some ⟨g,0,none⟩) N cc) N (zS T)) (hT:zbd T N Bs) :
  Calls Tryz.prog 220 #[.agg #[.int .i64 s.al,.int .i64 s.st,.slice A n c,.int .i64 p.al,.slice B m d,.slice B' m' d',.int .i64 L],.slice (some ⟨g,0,none⟩) N cc] w (RetSets g N cc base (Cl s p L Bs) w):=by
 have hsm:=zbQ hv
 obtain⟨ha0,ha1⟩:=zN hv
 obtain⟨al,hal⟩:∃ al:Nat,Hid (s.al=al):=⟨s.al.toNat,by unfold Hid;omega⟩
 have hal64:al<64:=by have:=hal.out;omega
 have hN12:N≤12:=by have:=(zl hp).2.1;omega
 have hg0:=(ziJ.lt g rfl).1
 have hgw:=(ziJ.lt g rfl).2
 have HN:=za hN
 have Han:=za (zdo (a:=al) (b:=L) (by unfold Sm;omega) (by unfold Sm;omega))
 have hle:al&&&L≤al:=Nat.and_le_left
 have hsub:(al:Int) - ((al&&&L:Nat):Int)=((al - (al&&&L):Nat):Int):=by omega
 have Hsub:=za hsub
 clear hsub
 have Hbit:=za (fun l=>sub_bit hal64 hL l)
 have hw1:Ext w (w.alloc (.cells #[.int .i64 s.al,.int .i64 s.st,.slice A n c,.int .i64 p.al,.slice B m d,.slice B' m' d',.int .i64 L] 96)):=(Ext.refl _).alloc _
 have b1:=Blk.new w 96 #[.int .i64 s.al,.int .i64 s.st,.slice A n c,.int .i64 p.al,.slice B m d,.slice B' m' d',.int .i64 L]
 have han:=Han.out
 have k1:=b1.cell
 clear hN
 go_enter Tryz.func220,Tryz.ntmps220
 go_upto_region 1 with fail
 generalize w.alloc (.cells #[.int .i64 s.al,.int .i64 s.st,.slice A n c,.int .i64 p.al,.slice B m d,.slice B' m' d',.int .i64 L] 96)=w1 at *
 rw [hal.out] at k1
 go_wp2_with fail
 rw [Hsub.out]
 refine (zaC (al - (al&&&L)) (by unfold Sm;omega) _).mono ?_
 rintro e w2 ⟨HA,hc,rfl,hownH,hx2⟩
 have Hbit:=za (fun l=>(sub_bit hal64 hL l).trans (show l<6∧al.testBit l=true∧L.testBit l=false↔hidL s L l by unfold hidL;rw [hal.out];rfl))
 generalize letters (al - (al&&&L)) 6=hs at *
 have hhl:hs.length≤9223372036854775807:=(Reads.of_own hownH).len
 have hfr2:Frm (fun k=>k=g) w w2:=(hw1.trans hx2).toFrm
 have ziT:=zh ziJ (hw1.trans hx2)
 have hb2:=b1.ext hx2
 have hcl:=hT.clI (s:=s) (p:=p) (A:=L)
 clear ziJ hT k1 b1
 go_wp2_with fail
 go_loopw [6] (fun mv wr=>∃ (mb:Bool) (T:List Nat),mv=.bool mb∧Hid (ClI s p L Bs N T)∧Hid (mb=false→∀ i l,i<N→hidL s L l→zdR s p T i l)∧wr.ownsRow base 3 1 (.slice (some ⟨g,0,none⟩) N cc) N (zS T)∧Frm (fun k=>k=g) w2 wr) (fun mv wr=>room (memT wr g N)+(match mv with | .bool true=>1|_=>0))
 case atStart=>exact⟨true,T,rfl,za hcl,za (fun h=>by cases h),ziT,Frm.refl _ _⟩
 case round =>
  clear hcl ziT
  obtain⟨mb,T,rfl,hcl,hdone,ziJ,hfr⟩:=hrel
  have hmem:=za (memT_own ziJ hcl.out.len)
  cases mb
  ·have ziM:=za (hcl.out.fin (hdone.out rfl))
   go_wp2_with fail
   go_ret
   exact⟨T,rfl,ziJ,ziM.out,hfr2.trans hfr⟩
  ·go_wp2_with fail
   go_loopw [6,7] (fun mv iv wq=>∃ (mb:Bool) (i:Nat) (T1:List Nat),mv=.bool mb∧iv=.int .i64 i∧i≤N∧Hid (ClI s p L Bs N T1)∧Hid (room T1≤room T∧(mb=true→room T1<room T))∧Hid (mb=false→∀ i' l,i'<i→hidL s L l→zdR s p T1 i' l)∧wq.ownsRow base 3 1 (.slice (some ⟨g,0,none⟩) N cc) N (zS T1)∧Frm (fun k=>k=g) w2 wq) (fun _ iv _=>N - (intOf iv).toNat)
   case atStart=>exact⟨false,0,T,rfl,rfl,Nat.zero_le _,hcl,za ⟨Nat.le_refl _,fun h=>by cases h⟩,za (fun _ i' l h=>by omega),ziJ,hfr⟩
   case round =>
    clear hcl ziJ hfr hdone
    obtain⟨mb,i,T1,rfl,rfl,hi,hcl,hroom,hdone,ziJ,hfr⟩:=hrel
    by_cases hlt:i<N
    ·have hlt':(i:Int)<(N:Int):=by omega
     go_wp2_with fail
     go_loopw [6,8] (fun mv kv wq=>∃ (mb:Bool) (k:Nat) (T1:List Nat),mv=.bool mb∧kv=.int .i64 k∧k≤hs.length∧Hid (ClI s p L Bs N T1)∧Hid (room T1≤room T∧(mb=true→room T1<room T))∧Hid (mb=false→(∀ i' l,i'<i→hidL s L l→zdR s p T1 i' l)∧∀ (k' l:Nat),k'<k→hs[k']?=some l→zdR s p T1 i l)∧wq.ownsRow base 3 1 (.slice (some ⟨g,0,none⟩) N cc) N (zS T1)∧Frm (fun k=>k=g) w2 wq) (fun _ kv _=>hs.length - (intOf kv).toNat)
     case atStart=>exact⟨mb,0,T1,rfl,rfl,Nat.zero_le _,hcl,hroom,za (fun h=>⟨hdone.out h,fun k' l h=>by omega⟩),ziJ,hfr⟩
     case round =>
      clear hcl hroom hdone ziJ hfr
      obtain⟨mb,k,T1,rfl,rfl,hk,hcl,hroom,hdone,ziJ,hfr⟩:=hrel
      by_cases hkl:k<hs.length
      ·have hkl':(k:Int)<(hs.length:Int):=by omega
       obtain⟨l,hl⟩:∃ l,hs[k]?=some l:=⟨_,List.getElem?_eq_getElem hkl⟩
       have hhid:=(Hbit.out l).1 (List.mem_of_getElem? hl)
       have hl6:=hhid.1
       have hjN:aGo p i l<N:=by rw [HN.out];exact zcV hp (by rw [← HN.out];exact hlt) hl6
       obtain⟨gh,rfl,hgh,-⟩:=zaq hownH (by omega)
       have hownH2:=zcn hownH hfr (fun b h1 e=>by have:=hw1.size;omega)
       have cH:=zcx hownH2 hkl
       rw [List.getD_eq_getElem?_getD,hl,Option.getD_some] at cH
       have CH:∀ W,Ext wr W→W.cell? ⟨gh,k,none⟩=some (.int .i64 (l:Nat)):=fun W hW=>hW.cell_some cH
       have CB:∀ W,Ext wr W→∀ q,W.cell? ⟨w.heap.size,q,none⟩=#[Value.int .i64 s.al,.int .i64 s.st,.slice A n c,.int .i64 p.al,.slice B m d,.slice B' m' d',.int .i64 L][q]?:=fun W hW=>((hb2.frm hfr (by omega)).ext hW).cell
       have CI:∀ W,Ext wr W→W.cell? ⟨g,i,none⟩=some (.int .i64 (T1.getD i 0:Nat)):=fun W hW=>hW.cell_some (zcx ziJ hlt)
       have HPq:=za (fun W (hW:Ext wr W)=>((hP.ext (hw1.trans hx2)).frm hfr (fun k h1 h2 e=>by omega)).ext hW)
       have HSq:=za (fun W (hW:Ext wr W)=>((hS.ext (hw1.trans hx2)).frm hfr (fun k h1 h2 e=>by omega)).ext hW)
       have Hl:=za hl
       have hww:=Ext.refl wr
       clear hl cH hownH2
       go_wp2_with fail
       go_region_held3 (fun W=>Ext wr W) (first|assumption|(refine Ext.drew ?_;assumption)|(refine Ext.trans ?_ (by assumption);assumption)|(refine Ext.trans ?_ (by assumption);refine Ext.drew ?_;assumption)) (first|(go_at_call 222;refine (zdh (HPq.out _ ?_) hp (by rw [← HN.out];exact hlt) hl6).mono ?_;(first|assumption|(refine Ext.drew ?_;assumption));rintro e w3 ⟨rfl,hx3⟩))
       have hwq3:Ext wr w3:=by assumption
       obtain⟨j,hj⟩:∃ j,Hid (aGo p i l=j):=⟨_,rfl⟩
       rw [hj.out] at hjN ⊢
       have CJ:∀ W,Ext wr W→W.cell? ⟨g,j,none⟩=some (.int .i64 (T1.getD j 0:Nat)):=fun W hW=>hW.cell_some (zcx ziJ hjN)
       obtain⟨x,hx⟩:∃ x,Hid (T1.getD i 0=x):=⟨_,rfl⟩
       obtain⟨y,hy⟩:∃ y,Hid (T1.getD j 0=y):=⟨_,rfl⟩
       have hx16:x<65536:=by rw [← hx.out];exact zbt hcl.out.lt i
       have hy16:y<65536:=by rw [← hy.out];exact zbt hcl.out.lt j
       rw [hx.out] at CI
       rw [hy.out] at CJ
       have hst16:zbO s.edges x (l:Int)<65536:=zfC hsm _ _
       obtain⟨z,hz⟩:∃ z,Hid (zbO s.edges x (l:Int)=z):=⟨_,rfl⟩
       rw [hz.out] at hst16
       have hor:=zbR (a:=y) (b:=z) (by unfold Sm;omega) (by unfold Sm;omega)
       have hjN':(j:Int)<(N:Int):=by omega
       obtain⟨u,hu⟩:∃ u,Hid (y|||z=u):=⟨_,rfl⟩
       have hu16:u<65536:=by rw [← hu.out];exact Nat.or_lt_two_pow (n:=16) hy16 hst16
       rw [hu.out] at hor
       go_wp2_with fail
       go_region_held3 (fun W=>Ext wr W) (first|assumption|(refine Ext.drew ?_;assumption)|(refine Ext.trans ?_ (by assumption);assumption)|(refine Ext.trans ?_ (by assumption);refine Ext.drew ?_;assumption)) (first|(go_at_call 221;refine (zgL (c:=c) (k0:=s.st.toNat) (HSq.out _ ?_) hsm.2.2.1 (by have:=hsm.2.1;omega) (by unfold Sm;omega)).mono ?_;(first|assumption|(refine Ext.drew ?_;assumption));rw [hz.out];rintro e w4 ⟨rfl,hx4⟩))
       have hwq4:Ext wr w4:=by assumption
       have cJ:=CJ w4 hwq4
       have hfr4:=hfr.ext hwq4
       have hown4:=zh ziJ hwq4
       have heqT:T1.getD (aGo p i l) 0|||zbO s.edges (T1.getD i 0) (l:Int)=u:=by rw [hj.out,hx.out,hy.out,hz.out,hu.out]
       have HeqT:=za heqT
       have hstep:=hcl.out.step hsm hp HN.out hlt hhid
       rw [heqT,hj.out] at hstep
       have Hstep:=za hstep
       clear heqT hstep CH CB CI CJ
       by_cases he:u=y
       ·have Hcl:=za (closedAt_of (T:=T1) (p:=p) (i:=i) hsm hhid (by rw [HeqT.out,hj.out,hy.out,he]))
        have hne:((u:Int) != (y:Int))=false:=by rw [he];simp
        clear he
        go_wp2_with fail
        go_roundw
        case rel=>exact⟨mb,k+1,T1,rfl,by go_num,by omega,hcl,hroom,za (fun h=>⟨(hdone.out h).1,fun k' l' hk' hl'=>by
         rcases Nat.lt_or_eq_of_le (Nat.le_of_lt_succ hk') with h1|rfl
         ·exact (hdone.out h).2 k' l' h1 hl'
         ·rw [Hl.out] at hl'
          obtain rfl:=Option.some.inj hl'
          exact Hcl.out⟩),hown4,hfr4⟩
        case measure=>simp [intOf];omega
       ·have hne:((u:Int) != (y:Int))=true:=by simp;omega
        have hrs:=room_set T1 j z (by rw [hy.out,hu.out];exact hu16)
        rw [hy.out,hu.out] at hrs
        have hrs2:=hrs.2 (by rw [hcl.out.len];exact hjN) he
        have Hrs:=za hrs2
        have hst:=(hown4.stored j (.int .i64 (u:Nat))).1
        rw [← zfZ] at hst
        have hfz:=hown4.frozenAt j
        clear hrs hrs2 he
        go_wp2_with fail
        go_roundw
        case rel=>exact⟨true,k+1,T1.set j u,rfl,by go_num,by omega,za Hstep.out,za ⟨by have:=Hrs.out;have:=hroom.out.1;omega,fun _=>by have:=Hrs.out;have:=hroom.out.1;omega⟩,za (fun h=>by cases h),hst,hfr4.trans (Frm.setCell _ g j _)⟩
        case measure=>simp [intOf];omega
      ·go_wp2_with fail
       go_roundw
       case rel=>exact⟨mb,i+1,T1,rfl,by go_num,by omega,hcl,hroom,za (fun h i' l hi' hl=>by
        rcases Nat.lt_or_eq_of_le (Nat.le_of_lt_succ hi') with h1|rfl
        ·exact (hdone.out h).1 i' l h1 hl
        ·obtain⟨k',hk'⟩:=List.getElem?_of_mem ((Hbit.out l).2 hl)
         exact (hdone.out h).2 k' l (by have:=(List.getElem?_eq_some_iff.1 hk').1;omega) hk'),ziJ,hfr⟩
       case measure=>simp [intOf];omega
    ·go_wp2_with fail
     have hmem1:=za (memT_own ziJ hcl.out.len)
     go_roundw
     case rel=>exact⟨mb,T1,rfl,hcl,za (fun h i l hi hl=>hdone.out h i l (by omega) hl),ziJ,hfr⟩
     case measure =>
      rw [hmem.out,hmem1.out]
      have h1:=hroom.out
      cases mb
      ·simp;omega
      ·have:=h1.2 rfl
       simp;omega
end
def RetSt (N:Nat) (Q:Nat→Nat→Prop) (w:World) (e:Ending) (w':World):Prop:=
 ∃ (T:List Nat) (g c:Nat),e=.returned (.slice (some ⟨g,0,none⟩) N c)∧w'.ownsRow w.heap.size 3 1 (.slice (some ⟨g,0,none⟩) N c) N (zS T)∧zbd T N Q∧Ext w w'
def mset (s:Sys) (x l:Nat):Nat:=if s.al.toNat.testBit l then zbO s.edges x (l:Int) else x
theorem mset_bit {s:Sys}(hs:Sml s) (x l q':Nat):(mset s x l).testBit q'=true↔∃ q,x.testBit q=true∧q'∈cho s q l:=by
 unfold mset
 split
 ·rename_i h
  exact zgd hs h x q'
 ·rename_i h
  constructor
  ·intro h1;exact⟨q',h1,by unfold cho;rw [if_neg h];simp⟩
  ·rintro ⟨q,h1,h2⟩
   unfold cho at h2
   rw [if_neg h] at h2
   simp at h2
   rw [h2];exact h1
theorem mset_lt {s:Sys}(hs:Sml s) {x:Nat}(hx:x<65536) (l:Nat):mset s x l<65536:=by
 unfold mset
 split
 ·exact zfC hs _ _
 ·exact hx
structure MvI (s:Sys) (p:Aut) (l N:Nat) (T:List Nat) (k:Nat) (O:List Nat):Prop where
 len:O.length=N
 lt:∀ x∈O,x<65536
 bit:∀ j q',zcX O j q'↔∃ i q,i<k∧zcX T i q∧q'∈cho s q l∧j=aGo p i l
theorem MvI.step {s:Sys} {p:Aut} {l N k:Nat} {T O:List Nat}(h:MvI s p l N T k O)(hs:Sml s)(hp:zk p=true)(hN:N=p.next.length)(hT:∀ x∈T,x<65536)(hk:k<N)(hl:l<6) :
  MvI s p l N T (k+1) (O.set (aGo p k l) (O.getD (aGo p k l) 0|||mset s (T.getD k 0) l)):=by
 have hj:aGo p k l<O.length:=by rw [h.len,hN];exact zcV hp (by omega) hl
 refine⟨by rw [List.length_set];exact h.len,fun x hx=>?_,fun j q'=>?_⟩
 ·rcases List.mem_or_eq_of_mem_set hx with hx|rfl
  ·exact h.lt x hx
  ·exact Nat.or_lt_two_pow (n:=16) (zbt h.lt _) (mset_lt hs (zbt hT _) _)
 ·rw [zcl hj,h.bit,mset_bit hs]
  constructor
  ·rintro (⟨i,q,h1,h2,h3,h4⟩|⟨h1,q,h2,h3⟩)
   ·exact⟨i,q,by omega,h2,h3,h4⟩
   ·exact⟨k,q,by omega,h2,h3,h1⟩
  ·exact yC07a3
theorem MvI.zero (s:Sys) (p:Aut) (l N:Nat) (T:List Nat):MvI s p l N T 0 (List.replicate N 0):=by
 refine⟨by simp,fun x hx=>by rw [List.mem_replicate] at hx;omega,fun j q'=>?_⟩
 constructor
 ·intro h
  unfold zcX at h
  rw [List.getD_eq_getElem?_getD] at h
  cases h1:(List.replicate N 0)[j]? with
  |none=>rw [h1] at h;simp at h
  |some x =>
   have:=List.mem_of_getElem? h1
   rw [List.mem_replicate] at this
   rw [h1,this.2] at h
   simp at h
 ·rintro ⟨_,_,h,_⟩;omega
theorem MvI.fin {s:Sys} {p:Aut} {l N:Nat} {T O:List Nat} {B:Nat→Nat→Prop}(h:MvI s p l N T N O)(hT:zbd T N B):zbd O N (mvB s p l B):=by
 refine⟨h.len,h.lt,fun j q'=>?_⟩
 rw [h.bit]
 constructor
 ·rintro ⟨i,q,h1,h2,h3,h4⟩
  exact⟨q,i,(hT.2.2 i q).1 h2,h3,h4⟩
 ·rintro ⟨q,i,h2,h3,h4⟩
  have hb:=(hT.2.2 i q).2 h2
  exact⟨i,q,by rw [← hT.1];exact zgi hb,hb,h3,h4⟩
def badT (p:Aut) (T:List Nat) (N:Nat):Bool:=(List.range N).any fun i=>T.getD i 0 != 0&&!zcg p i
theorem zhQ {p:Aut} {T:List Nat} {N:Nat}:badT p T N=true↔∃ i,i<N∧T.getD i 0≠0∧zcg p i=false:=by
 unfold badT
 rw [List.any_eq_true]
 constructor
 ·rintro ⟨i,h1,h2⟩
  rw [List.mem_range] at h1
  simp only [Bool.and_eq_true,bne_iff_ne,Bool.not_eq_true'] at h2
  exact⟨i,h1,h2.1,h2.2⟩
 ·rintro ⟨i,h1,h2,h3⟩
  exact⟨i,List.mem_range.2 h1,by simp [h3];simpa using h2⟩
section
variable {w:World} {lo hi n c m d m' d' L:Nat} {A B B':Option Addr} {s:Sys} {p:Aut}
theorem spec_l9Start {N:Nat}(hS:zM w lo hi A n s)(hP:zC w lo hi B m B' m' p)(hv:zn s=true)(hp:zk p=true)(hL:L<64)(hhi:hi≤w.heap.size)(hN:N=p.next.length) :
  Calls Tryz.prog 144 #[.agg #[.int .i64 s.al,.int .i64 s.st,.slice A n c,.int .i64 p.al,.slice B m d,.slice B' m' d',.int .i64 L]] w (RetSt N (PR s p L []) w):=by
 have hm:m=N:=hP.n1.trans hN.symm
 subst hm
 have hN12:1≤m∧m≤12:=by have:=(zl hp).2.1;omega
 have HS:=za (fun W (hW:Ext w W)=>hS.ext hW)
 have HP:=za (fun W (hW:Ext w W)=>hP.ext hW)
 have HN:=za hN
 have hw1:Ext w (w.alloc (.cells #[.int .i64 s.al,.int .i64 s.st,.slice A n c,.int .i64 p.al,.slice B m d,.slice B' m' d',.int .i64 L] 96)):=(Ext.refl _).alloc _
 have b1:=Blk.new w 96 #[.int .i64 s.al,.int .i64 s.st,.slice A n c,.int .i64 p.al,.slice B m d,.slice B' m' d',.int .i64 L]
 have hb1:=b1.lt
 clear hS hP hN
 go_enter Tryz.func144,Tryz.ntmps144
 go_upto_region 1 with fail
 generalize w.alloc (.cells #[.int .i64 s.al,.int .i64 s.st,.slice A n c,.int .i64 p.al,.slice B m d,.slice B' m' d',.int .i64 L] 96)=w1 at *
 have k1:=b1.cell
 go_upto_region 2 with (at_make;refine zar w1 w1 rfl _ _ 128 rfl 3 _ 1 8 Tryz.underlying128 zah _ _ m rfl rfl (Ext.refl _) (by omega) (by unfold maxLen;omega) ?_;intro w2 hx2 ziT hx23 hsz2)
 rw [madeZ] at ziT
 have hst:=(ziT.stored 0 (.int .i64 1)).1
 rw [show (zS (List.replicate m 0)).set 0 (.int .i64 1)=zS ((List.replicate m 0).set 0 1) from (zfZ (i:=0) (v:=1) (R:=List.replicate m 0)).symm] at hst
 have hfz:=ziT.frozenAt 0
 have hc0:=zcx ziT (show 0<m by omega)
 have hw3:=(hw1.trans hx2).setCell (p:=⟨w1.heap.size,0,none⟩) hw1.size (.int .i64 1)
 have hb2:=(b1.ext hx2).far (p:=⟨w1.heap.size,0,none⟩) (by dsimp only;omega) (.int .i64 1)
 have h0m:(0:Int)<(m:Int):=by omega
 clear k1
 have k1:=hb2.cell
 have hH:=za (fun T' (hT':zbd T' m (fun q i=>q=0∧i=0))=>hT')
 have hS3:=HS.out _ hw3
 have hP3:=HP.out _ hw3
 have hT0:=zgO hN12.1
 have hsz:=hw1.size
 clear hx23
 go_wp2_with fail
 refine (zfM (c:=c) (d:=d) (d':=d') hS3 hP3 hv hp hL HN.out (by omega) hst hT0).mono ?_
 rintro e w4 ⟨T',rfl,hown4,hT4,hfr4⟩
 go_wp2_with fail
 go_ret
 exact⟨T',w1.heap.size,m,rfl,zq hown4 hw1.size,hT4,hw3.frm hfr4 (fun k hk e=>by omega)⟩
theorem spec_l9Move {N l g0 b0 c0:Nat} {T:List Nat} {Q:Nat→Nat→Prop}(hS:zM w lo hi A n s)(hP:zC w lo hi B m B' m' p)(hv:zn s=true)(hp:zk p=true)(hL:L<64)(hhi:hi≤w.heap.size)(hN:N=p.next.length)(hl:l<6)
  (ziJ:w.ownsRow b0 3 1 (.slice (some ⟨g0,0,none⟩) N c0) N (zS T)) (hT:zbd T N Q) :
  Calls Tryz.prog 146 #[.agg #[.int .i64 s.al,.int .i64 s.st,.slice A n c,.int .i64 p.al,.slice B m d,.slice B' m' d',.int .i64 L],.slice (some ⟨g0,0,none⟩) N c0,.int .i64 l] w (RetSt N (Cl s p L (mvB s p l Q)) w):=by
 have hsm:=zbQ hv
 obtain⟨ha0,ha1⟩:=zN hv
 obtain⟨al,hal⟩:∃ al:Nat,Hid (s.al=al):=⟨s.al.toNat,by unfold Hid;omega⟩
 have hal64:al<64:=by have:=hal.out;omega
 have hto:=za (show s.al.toNat=al by have:=hal.out;omega)
 have hN12:1≤N∧N≤12:=by have:=(zl hp).2.1;omega
 have HS:=za (fun W (hW:Ext w W)=>hS.ext hW)
 have HP:=za (fun W (hW:Ext w W)=>hP.ext hW)
 have HN:=za hN
 have HT:=za hT
 have hgw:=(ziJ.lt g0 rfl).2
 have hw1:Ext w (w.alloc (.cells #[.int .i64 s.al,.int .i64 s.st,.slice A n c,.int .i64 p.al,.slice B m d,.slice B' m' d',.int .i64 L] 96)):=(Ext.refl _).alloc _
 have b1:=Blk.new w 96 #[.int .i64 s.al,.int .i64 s.st,.slice A n c,.int .i64 p.al,.slice B m d,.slice B' m' d',.int .i64 L]
 have hb1:=b1.lt
 clear hS hP hN hT
 go_enter Tryz.func146,Tryz.ntmps146
 go_upto_region 1 with fail
 generalize w.alloc (.cells #[.int .i64 s.al,.int .i64 s.st,.slice A n c,.int .i64 p.al,.slice B m d,.slice B' m' d',.int .i64 L] 96)=w1 at *
 go_wp2_with (at_make;refine zar w1 w1 rfl _ _ 128 rfl 3 _ 1 8 Tryz.underlying128 zah _ _ N rfl rfl (Ext.refl _) (by omega) (by unfold maxLen;omega) ?_;intro w2 hx2 ziT hx23 hsz2)
 rw [madeZ] at ziT
 have hsz1:=hw1.size
 have hw2:=hw1.trans hx2
 clear hx23
 obtain⟨gO,hgO⟩:∃ gO,gO=w1.heap.size:=⟨_,rfl⟩
 rw [← hgO] at ziT ⊢
 have hOw:w.heap.size<gO:=by omega
 clear hgO
 go_loopw [8] (fun iv wr=>∃ (i:Nat) (O:List Nat),iv=.int .i64 i∧i≤N∧Hid (MvI s p l N T i O)∧wr.ownsRow gO 3 1 (.slice (some ⟨gO,0,none⟩) N N) N (zS O)∧Frm (fun k=>k=gO) w2 wr) (fun iv _=>N - (intOf iv).toNat)
 case atStart=>exact⟨0,_,rfl,Nat.zero_le _,za (MvI.zero s p l N T),ziT,Frm.refl _ _⟩
 case round =>
  clear ziT
  obtain⟨i,O,rfl,hi,hO,hownO,hfr⟩:=hrel
  have hxr:Ext w wr:=hw2.frm hfr (fun k hk e=>by omega)
  have k1:=((b1.ext hx2).frm hfr (by omega)).cell
  by_cases hlt:i<N
  ·have hlt':(i:Int)<(N:Int):=by omega
   have cI:=zcx (zh ziJ hxr) hlt
   obtain⟨x,hx⟩:∃ x,Hid (T.getD i 0=x):=⟨_,rfl⟩
   have hx16:x<65536:=by rw [← hx.out];exact zbt HT.out.2.1 i
   rw [hx.out] at cI
   have CB:∀ W,Ext wr W→∀ q,W.cell? ⟨w.heap.size,q,none⟩=#[Value.int .i64 al,.int .i64 s.st,.slice A n c,.int .i64 p.al,.slice B m d,.slice B' m' d',.int .i64 L][q]?:=fun W hW q=>by rw [(((b1.ext hx2).frm hfr (by omega)).ext hW).cell,hal.out]
   have CI:∀ W,Ext wr W→W.cell? ⟨g0,i,none⟩=some (.int .i64 (x:Nat)):=fun W hW=>hW.cell_some cI
   obtain⟨j,hj⟩:∃ j,Hid (aGo p i l=j):=⟨_,rfl⟩
   have hjN:j<N:=by rw [← hj.out,HN.out];exact zcV hp (by rw [← HN.out];exact hlt) hl
   have hjN':(j:Int)<(N:Int):=by omega
   obtain⟨v,hv0⟩:∃ v,Hid (O.getD j 0=v):=⟨_,rfl⟩
   obtain⟨y,hy⟩:∃ y,Hid (mset s x l=y):=⟨_,rfl⟩
   obtain⟨u,hu⟩:∃ u,Hid (v|||y=u):=⟨_,rfl⟩
   have hv16:v<65536:=by rw [← hv0.out];exact zbt hO.out.lt j
   have hy16:y<65536:=by rw [← hy.out];exact mset_lt hsm hx16 l
   have hor:=zbR (a:=v) (b:=y) (by unfold Sm;omega) (by unfold Sm;omega)
   rw [hu.out] at hor
   have CJ:∀ W,Ext wr W→W.cell? ⟨gO,j,none⟩=some (.int .i64 (v:Nat)):=fun W hW=>hW.cell_some (hv0.out ▸ zcx hownO hjN)
   have FJ:∀ W,Ext wr W→W.frozen? ⟨gO,j,none⟩=false:=fun W hW=>(zh hownO hW).frozenAt j
   have hstep:=hO.out.step hsm hp HN.out HT.out.2.1 hlt hl
   rw [hj.out,hv0.out,hx.out,hy.out,hu.out] at hstep
   have Hstep:=za hstep
   have Hst:=za (fun W (hW:Ext wr W)=>((zh hownO hW).stored j (.int .i64 (u:Nat))).1)
   have hww:=Ext.refl wr
   clear hstep k1 cI
   cases hb:al.testBit l
   ·have Hb:=za hb
    have hyx:x=y:=by rw [← hy.out];unfold mset;rw [hto.out,hb];rfl
    subst hyx
    clear hb
    go_wp2_with (first
     |(go_at_call 140;refine (zab al l (by unfold Sm;omega) _ (by omega)).mono ?_;rw [Hb.out];rintro e w' ⟨rfl,rfl⟩)
     |(go_at_call 222;refine (zdh (HP.out _ hxr) hp (by rw [← HN.out];exact hlt) hl).mono ?_;rw [hj.out];rintro e w4 ⟨rfl,hx4⟩))
    have hst:=Hst.out w4 hx4
    rw [← zfZ] at hst
    go_roundw
    case rel=>exact⟨i+1,O.set j u,by go_num,by omega,Hstep,hst,(hfr.ext hx4).trans (Frm.setCell _ gO j _)⟩
    case measure=>simp [intOf];omega
   ·have Hb:=za hb
    have hyx:Hid (zbO s.edges x (l:Int)=y):=by unfold Hid;rw [← hy.out];unfold mset;rw [hto.out,hb];rfl
    clear hb
    go_wp2_with (first
     |(go_at_call 140;refine (zab al l (by unfold Sm;omega) _ (by omega)).mono ?_;rw [Hb.out];rintro e w' ⟨rfl,rfl⟩)
     |(go_at_call 221;rw [← hal.out];refine (zgL (c:=c) (k0:=s.st.toNat) (HS.out _ hxr) hsm.2.2.1 (by have:=hsm.2.1;omega) (by unfold Sm;omega)).mono ?_;rw [hyx.out];rintro e w3 ⟨rfl,hx3⟩;have hxr3:=hxr.trans hx3)
     |(go_at_call 222;refine (zdh (HP.out _ hxr3) hp (by rw [← HN.out];exact hlt) hl).mono ?_;rw [hj.out];rintro e w4 ⟨rfl,hx4⟩;have hx34:=hx3.trans hx4))
    have hst:=Hst.out w4 hx34
    rw [← zfZ] at hst
    go_roundw
    case rel=>exact⟨i+1,O.set j u,by go_num,by omega,Hstep,hst,(hfr.ext hx34).trans (Frm.setCell _ gO j _)⟩
    case measure=>simp [intOf];omega
  ·obtain rfl:i=N:=by omega
   have ziM:=hO.out.fin HT.out
   go_wp2_with fail
   refine (zfM (c:=c) (d:=d) (d':=d') (HS.out _ hxr) (HP.out _ hxr) hv hp hL HN.out (by omega) hownO ziM).mono ?_
   rintro e w4 ⟨T',rfl,hown4,hT4,hfr4⟩
   go_wp2_with fail
   go_ret
   exact⟨T',gO,i,rfl,zq hown4 (by omega),hT4,hxr.frm hfr4 (fun k hk e=>by omega)⟩
end
noncomputable def zt (s:Sys) (p:Aut) (L:Nat) (t:ByteArray):Bool:=by
 classical exact inB t L&&decide (SafeW s p L (wl t))
theorem zdK {s:Sys} {p:Aut} {L:Nat} {t:ByteArray}:zt s p L t=true↔inB t L=true∧SafeW s p L (wl t):=by
 unfold zt
 simp
section
variable {w:World} {lo hi n c m d m' d' L:Nat} {A B B':Option Addr} {s:Sys} {p:Aut}
theorem spec_l9Bad {N g0 b0 c0:Nat} {T:List Nat}(hP:zC w lo hi B m B' m' p)(hp:zk p=true)(hN:N=p.next.length)
  (ziJ:w.ownsRow b0 3 1 (.slice (some ⟨g0,0,none⟩) N c0) N (zS T)) :
  Calls Tryz.prog 145 #[.agg #[.int .i64 s.al,.int .i64 s.st,.slice A n c,.int .i64 p.al,.slice B m d,.slice B' m' d',.int .i64 L],.slice (some ⟨g0,0,none⟩) N c0] w fun e w'=>e=.returned (.bool (badT p T N))∧Ext w w':=by
 have hN12:1≤N∧N≤12:=by have:=(zl hp).2.1;omega
 have hm':m'=N:=by rw [hP.n2,(zl hp).2.2.1,hN]
 have HB:=za (fun W (hW:Ext w W) q hq=>zeK (q:=q) (hP.ext hW) hq)
 have hw1:Ext w (w.alloc (.cells #[.int .i64 s.al,.int .i64 s.st,.slice A n c,.int .i64 p.al,.slice B m d,.slice B' m' d',.int .i64 L] 96)):=(Ext.refl _).alloc _
 have b1:=Blk.new w 96 #[.int .i64 s.al,.int .i64 s.st,.slice A n c,.int .i64 p.al,.slice B m d,.slice B' m' d',.int .i64 L]
 subst hm'
 clear hP hN
 go_enter Tryz.func145,Tryz.ntmps145
 go_upto_region 1 with fail
 generalize w.alloc (.cells #[.int .i64 s.al,.int .i64 s.st,.slice A n c,.int .i64 p.al,.slice B m d,.slice B' m' d',.int .i64 L] 96)=w1 at *
 have k1:=b1.cell
 go_wp2_with fail
 go_loop [5] (fun iv=>∃ i:Nat,iv=.int .i64 i∧i≤m'∧Hid (∀ j,j<i→T.getD j 0=0∨zcg p j=true)) (fun iv=>m' - (intOf iv).toNat)
 case atStart=>exact⟨0,rfl,Nat.zero_le _,za (fun j h=>by omega)⟩
 case round =>
  obtain⟨i,rfl,hi,hdone⟩:=hrel
  by_cases hlt:i<m'
  ·have hlt':(i:Int)<(m':Int):=by omega
   obtain⟨ad,rfl,cA⟩:=HB.out w1 hw1 i hlt
   have cI:=zcx (zh ziJ hw1) hlt
   obtain⟨x,hx⟩:∃ x,Hid (T.getD i 0=x):=⟨_,rfl⟩
   rw [hx.out] at cI
   by_cases h0:x=0
   ·subst h0
    go_wp2_with fail
    go_round
    case rel=>exact⟨i+1,by go_num,by omega,za (fun j hj=>by
     rcases Nat.lt_or_eq_of_le (Nat.le_of_lt_succ hj) with h1|rfl
     ·exact hdone.out j h1
     ·exact .inl hx.out)⟩
    case measure=>simp [intOf];omega
   ·have hne:((x:Int) != 0)=true:=by simp;omega
    cases ziK:zcg p i
    ·have hb:=za (show badT p T m'=true from zhQ.2 ⟨i,hlt,by rw [hx.out];exact h0,ziK⟩)
     rw [ziK] at cA
     clear ziK h0
     go_wp2_with fail
     go_ret
     exact⟨zj (by rw [hb.out]),hw1⟩
    ·have Hacc:=za ziK
     rw [ziK] at cA
     clear ziK h0
     go_wp2_with fail
     go_round
     case rel=>exact⟨i+1,by go_num,by omega,za (fun j hj=>by
      rcases Nat.lt_or_eq_of_le (Nat.le_of_lt_succ hj) with h1|rfl
      ·exact hdone.out j h1
      ·exact .inr Hacc.out)⟩
     case measure=>simp [intOf];omega
  ·obtain rfl:i=m':=by omega
   have hb:=za (show badT p T i=false by
    rw [Bool.eq_false_iff]
    intro h
    obtain⟨j,h1,h2,h3⟩:=zhQ.1 h
    rcases hdone.out j h1 with h4|h4
    ·exact h2 h4
    ·rw [h3] at h4;cases h4)
   go_wp2_with fail
   go_ret
   exact⟨zj (by rw [hb.out]),hw1⟩
theorem zej (hS:zM w lo hi A n s)(hP:zC w lo hi B m B' m' p)(hv:zn s=true)(hp:zk p=true)(hL:L<64) :
  Calls Tryz.prog 142 #[.agg #[.int .i64 s.al,.int .i64 s.st,.slice A n c,.int .i64 p.al,.slice B m d,.slice B' m' d',.int .i64 L]] w fun e w'=>e=.returned (.bool true)∧Ext w w':=by
 have HS:=za (fun W (hW:Ext w W)=>zax (c:=c) (hS.ext hW))
 have HP:=za (fun W (hW:Ext w W)=>zO _ _ _ _ d _ _ d' _ _ (hP.ext hW))
 rw [hv] at HS
 rw [hp] at HP
 have hal:=za (show (decide ((0:Int)≤L∧(L:Int)≤63))=true by simp;omega)
 have hw1:Ext w (w.alloc (.cells #[.int .i64 s.al,.int .i64 s.st,.slice A n c,.int .i64 p.al,.slice B m d,.slice B' m' d',.int .i64 L] 96)):=(Ext.refl _).alloc _
 have b1:=Blk.new w 96 #[.int .i64 s.al,.int .i64 s.st,.slice A n c,.int .i64 p.al,.slice B m d,.slice B' m' d',.int .i64 L]
 clear hS hP hv hp
 go_enter Tryz.func142,Tryz.ntmps142
 go_upto_region 1 with fail
 generalize w.alloc (.cells #[.int .i64 s.al,.int .i64 s.st,.slice A n c,.int .i64 p.al,.slice B m d,.slice B' m' d',.int .i64 L] 96)=w1 at *
 have CB:=b1.cells
 have hww:=Ext.refl w1
 go_wp2_with (first
  |(go_at_call 199;refine (HS.out _ hw1).mono ?_;rintro e w2 ⟨rfl,hx2⟩)
  |(go_at_call 200;refine (HP.out _ (hw1.trans hx2)).mono ?_;rintro e w3 ⟨rfl,hx3⟩;have hx23:=hx2.trans hx3)
  |(go_at_call 139;refine (zT _ _).mono ?_;rw [hal.out];rintro e w4 ⟨rfl,rfl⟩))
 go_ret
 exact⟨rfl,hw1.trans hx23⟩
theorem zhR {N k:Nat} {T v:List Nat}(h:zbd T N (PR s p L (v.take k))):badT p T N=true↔Bad s p L (v.take k):=zhQ.trans (stand_bad h).symm
theorem zff {t:ByteArray}(hS:zM w lo hi A n s)(hP:zC w lo hi B m B' m' p)(hv:zn s=true)(hp:zk p=true)(hL:L<64)(hhi:hi≤w.heap.size)(ht:t.size≤9223372036854775807) :
  Calls Tryz.prog 75 #[.agg #[.int .i64 s.al,.int .i64 s.st,.slice A n c,.int .i64 p.al,.slice B m d,.slice B' m' d',.int .i64 L],.string t] w fun e w'=>e=.returned (.bool (zt s p L t))∧Ext w w':=by
 obtain⟨N,hN⟩:∃ N,Hid (N=p.next.length):=⟨_,rfl⟩
 have HV:=za (fun W (hW:Ext w W)=>zej (c:=c) (d:=d) (d':=d') (L:=L) (hS.ext hW) (hP.ext hW) hv hp hL)
 have HSt:=za (fun W (hW:Ext w W)=>spec_l9Start (c:=c) (d:=d) (d':=d') (L:=L) (N:=N) (hS.ext hW) (hP.ext hW) hv hp hL (Nat.le_trans hhi hW.size) hN.out)
 have HB:=za (fun (g0 b0 c0:Nat) (T:List Nat) W (hW:Ext w W) (ho:W.ownsRow b0 3 1 (.slice (some ⟨g0,0,none⟩) N c0) N (zS T))=>spec_l9Bad (A:=A) (n:=n) (c:=c) (d:=d) (d':=d') (L:=L) (s:=s) (hP.ext hW) hp hN.out ho)
 have HM:=za (fun (l g0 b0 c0:Nat) (T:List Nat) (Q:Nat→Nat→Prop) W (hW:Ext w W) (hl:l<6) (ho:W.ownsRow b0 3 1 (.slice (some ⟨g0,0,none⟩) N c0) N (zS T)) (hT:zbd T N Q)=>spec_l9Move (c:=c) (d:=d) (d':=d') (L:=L) (hS.ext hW) (hP.ext hW) hv hp hL (Nat.le_trans hhi hW.size) hN.out hl ho hT)
 have hw1:Ext w (w.alloc (.cells #[.int .i64 s.al,.int .i64 s.st,.slice A n c,.int .i64 p.al,.slice B m d,.slice B' m' d',.int .i64 L] 96)):=(Ext.refl _).alloc _
 have b1:=Blk.new w 96 #[.int .i64 s.al,.int .i64 s.st,.slice A n c,.int .i64 p.al,.slice B m d,.slice B' m' d',.int .i64 L]
 clear hS hP
 cases hin:inB t L
 ·have Hin:=za hin
  have ziM:=za (show zt s p L t=false by rw [Bool.eq_false_iff];intro h;have:=(zdK.1 h).1;rw [hin] at this;cases this)
  clear hin
  go_enter Tryz.func75,Tryz.ntmps75
  go_upto_region 1 with fail
  generalize w.alloc (.cells #[.int .i64 s.al,.int .i64 s.st,.slice A n c,.int .i64 p.al,.slice B m d,.slice B' m' d',.int .i64 L] 96)=w1 at *
  have CB:=b1.cells
  have hww:=Ext.refl w1
  go_wp2_with (first
   |(go_at_call 142;refine (HV.out _ hw1).mono ?_;rintro e w2 ⟨rfl,hx2⟩)
   |(go_at_call 143;refine (zaG ht (by omega)).mono ?_;rw [Hin.out];rintro e w3 ⟨rfl,rfl⟩))
  go_ret
  exact⟨zj (by rw [ziM.out]),hw1.trans hx2⟩
 ·have Hin:=za hin
  have Hb:=za (fun k hk=>zaB (zaP hin) (k:=k) hk)
  clear hin
  go_enter Tryz.func75,Tryz.ntmps75
  go_upto_region 1 with fail
  generalize w.alloc (.cells #[.int .i64 s.al,.int .i64 s.st,.slice A n c,.int .i64 p.al,.slice B m d,.slice B' m' d',.int .i64 L] 96)=w1 at *
  have CB:=b1.cells
  have hww:=Ext.refl w1
  go_wp2_with (first
   |(go_at_call 142;refine (HV.out _ hw1).mono ?_;rintro e w2 ⟨rfl,hx2⟩)
   |(go_at_call 143;refine (zaG ht (by omega)).mono ?_;rw [Hin.out];rintro e w3 ⟨rfl,rfl⟩)
   |(go_at_call 144;refine (HSt.out _ (hw1.trans hx2)).mono ?_;rintro e w4 ⟨T,g,cc,rfl,ziJ,hT,hx4⟩;have hx14:=hx2.trans hx4))
  go_loopw [5,6] (fun v iv wr=>∃ (k g b0 cc:Nat) (T:List Nat),iv=.int .i64 k∧k≤t.size∧v=.slice (some ⟨g,0,none⟩) N cc∧wr.ownsRow b0 3 1 (.slice (some ⟨g,0,none⟩) N cc) N (zS T)∧Hid (zbd T N (PR s p L ((wl t).take k)))∧Hid (∀ j,j<k→¬ Bad s p L ((wl t).take j))∧Ext w1 wr) (fun _ iv _=>t.size - (intOf iv).toNat)
  case atStart=>exact⟨0,g,_,cc,T,rfl,Nat.zero_le _,rfl,ziJ,za (by simpa using hT),za (fun j h=>by omega),hx14⟩
  case round =>
   clear ziJ hT hx2 hx4 hx14
   obtain⟨k,g,b0,cc,T,rfl,hk,rfl,ziJ,hT,hdone,hxr⟩:=hrel
   by_cases hlt:k<t.size
   ·have hlt':(k:Int)<(t.size:Int):=by omega
    obtain⟨l,hl⟩:∃ l:Nat,Hid ((t[k].toNat:Int) - 97=l):=⟨t[k].toNat - 97,by unfold Hid;have:=Hb.out k hlt;omega⟩
    have hl6:l<6:=by have:=hl.out;have:=Hb.out k hlt;omega
    have hst:=za (show (wl t).take (k+1)=(wl t).take k++[l] by rw [List.take_add_one,zdA hlt,Option.toList_some,show t[k].toNat - 97=l by have:=hl.out;have:=Hb.out k hlt;omega])
    cases hbad:badT p T N
    ·have Hbad:=za hbad
     have hnb:=za (show ¬ Bad s p L ((wl t).take k) by rw [← zhR hT.out,hbad];decide)
     clear hbad
     go_wp2_with (first|(go_at_call 145;refine (HB.out _ _ _ _ _ (hw1.trans hxr) ziJ).mono ?_;rw [Hbad.out];rintro e w5 ⟨rfl,hx5⟩;have hxr5:=hxr.trans hx5))
     have HMr:=za (fun W (hW:Ext wr W)=>HM.out l g b0 cc T _ W ((hw1.trans hxr).trans hW) hl6 (zh ziJ hW) hT.out)
     have CBr:∀ W,Ext wr W→∀ q,W.cell? ⟨w.heap.size,q,none⟩=#[Value.int .i64 s.al,.int .i64 s.st,.slice A n c,.int .i64 p.al,.slice B m d,.slice B' m' d',.int .i64 L][q]?:=fun W hW=>CB W (hxr.trans hW)
     go_region_held3 (fun W=>Ext wr W) (first|assumption|(refine Ext.drew ?_;assumption)|(refine Ext.trans ?_ (by assumption);assumption)|(refine Ext.trans ?_ (by assumption);refine Ext.drew ?_;assumption)) (first
      |(go_at_call 141;refine (zbL t k hlt _).mono ?_;rw [hl.out];rintro e w6 ⟨rfl,rfl⟩)
      |(go_at_call 146;refine (HMr.out _ ?_).mono ?_;(first|assumption|(refine Ext.drew ?_;assumption));rintro e w7 ⟨T7,g7,c7,rfl,hown7,hT7,hx7⟩))
     have hx17:Ext w1 w7:=hxr.trans (by assumption)
     rw [← PR_snoc,← hst.out] at hT7
     have HT7:=za hT7
     clear hT7 HMr CBr
     go_wp2_with fail
     go_roundw
     case rel=>exact⟨k+1,g7,_,c7,T7,by go_num,by omega,rfl,hown7,HT7,za (fun j hj=>by
      rcases Nat.lt_or_eq_of_le (Nat.le_of_lt_succ hj) with h1|rfl
      ·exact hdone.out j h1
      ·exact hnb.out),hx17⟩
     case measure=>simp [intOf];omega
    ·have Hbad:=za hbad
     have ziM:=za (show zt s p L t=false by
      rw [Bool.eq_false_iff]
      intro h
      exact (zdK.1 h).2 k (by rw [zfk];omega) ((zhR hT.out).1 hbad))
     clear hbad
     go_wp2_with (first
      |(go_at_call 145;with_reducible refine (HB.out _ _ _ _ _ (hw1.trans hxr) ziJ).mono ?_;rw [Hbad.out];rintro e w5 ⟨rfl,hx5⟩;have hxr5:=hxr.trans hx5)
      |(go_at_call 145;refine (HB.out _ _ _ _ _ (hw1.trans hxr5) (zh ziJ hx5)).mono ?_;rw [Hbad.out];rintro e w6 ⟨rfl,hx6⟩))
     go_ret
     exact⟨zj (by rw [ziM.out]),hw1.trans (hxr5.trans hx6)⟩
   ·have hkt:k=t.size:=by omega
    have hge:(t.size:Int)≤(k:Int):=by omega
    have ziM:=za (show zt s p L t=!badT p T N by
     rw [Bool.eq_iff_iff,zdK,Bool.not_eq_true',← Bool.not_eq_true,zhR hT.out]
     constructor
     ·intro h;exact h.2 k (by rw [zfk];omega)
     ·intro h
      refine⟨Hin.out,fun j hj=>?_⟩
      rw [zfk] at hj
      rcases Nat.lt_or_eq_of_le hj with h1|rfl
      ·exact hdone.out j (by omega)
      ·rw [hkt] at h;exact h)
    clear hkt hlt hk
    go_wp2_with (first
     |(go_at_call 145;refine (HB.out _ _ _ _ _ (hw1.trans hxr) ziJ).mono ?_;rintro e w6 ⟨rfl,hx6⟩))
    go_ret
    exact⟨zj (by rw [ziM.out]),hw1.trans (hxr.trans hx6)⟩
end
theorem zo:(Tryz.prog.info? 9).map (fun i=>(i.zero,i.size,i.bytes))=some (some (.string ⟨#[]⟩),1,16):=by kernel_rfl
theorem cells_str (x:ByteArray):∀ u∈(#[Value.string x]:Array Value).toList,u.oneCell'=true:=by simp [Value.oneCell']
theorem Reads.str {w:World} {lo hi n k:Nat} {A:Option Addr} {l:List ByteArray}(h:Reads w lo hi 1 A n (zL l))(hk:k<n):∃ ad x,A=some ad∧lo≤ad.block∧ad.block<hi∧Hid (l[k]?=some x)∧w.cell? (ad.add k)=some (.string x):=by
 obtain⟨ad,u,e,h1,h2,hu,hc⟩:=h.one hk
 have:=hu.out
 simp only [zL,List.getElem?_map,Option.map_eq_some_iff] at this
 obtain⟨x,hx,rfl⟩:=this
 exact⟨ad,x,e,h1,h2,hx,hc⟩
structure Tch (w:World) (A:Option Addr) (n:Nat) (B:Option Addr) (m:Nat) (B':Option Addr) (m':Nat) (s:Sys) (p:Aut) (L:Nat):Prop where
 at_:∃ lo hi,zM w lo hi A n s∧zC w lo hi B m B' m' p∧hi≤w.heap.size
 sv:zn s=true
 pv:zk p=true
 lt:L<64
section
variable {w W:World} {n c m d m' d' L:Nat} {A B B':Option Addr} {s:Sys} {p:Aut}
theorem Tch.ext (h:Tch w A n B m B' m' s p L)(hx:Ext w W):Tch W A n B m B' m' s p L:=by
 obtain⟨lo,hi,h1,h2,h3⟩:=h.at_
 exact⟨⟨lo,hi,h1.ext hx,h2.ext hx,Nat.le_trans h3 hx.size⟩,h.sv,h.pv,h.lt⟩
theorem zaF (h:Tch w A n B m B' m' s p L) :
  Calls Tryz.prog 130 #[.agg #[.bool false,.int .i64 0,.slice none 0 0,.slice none 0 0,.int .i64 s.al,.int .i64 s.st,.slice A n c,.int .i64 p.al,.slice B m d,.slice B' m' d',.int .i64 L]] w fun e w'=>e=.returned (.int .i64 (L:Nat))∧Ext w w':=by
 obtain⟨lo,hi,h1,h2,h3⟩:=h.at_
 have HV:=za (fun W (hW:Ext w W)=>zej (c:=c) (d:=d) (d':=d') (L:=L) (h1.ext hW) (h2.ext hW) h.sv h.pv h.lt)
 have hw1:Ext w (w.alloc (.cells #[.bool false,.int .i64 0,.slice none 0 0,.slice none 0 0,.int .i64 s.al,.int .i64 s.st,.slice A n c,.int .i64 p.al,.slice B m d,.slice B' m' d',.int .i64 L] 98)):=(Ext.refl _).alloc _
 have b1:=Blk.new w 98 #[.bool false,.int .i64 0,.slice none 0 0,.slice none 0 0,.int .i64 s.al,.int .i64 s.st,.slice A n c,.int .i64 p.al,.slice B m d,.slice B' m' d',.int .i64 L]
 clear h h1 h2
 go_enter Tryz.func130,Tryz.ntmps130
 go_upto_region 1 with fail
 generalize w.alloc (.cells #[.bool false,.int .i64 0,.slice none 0 0,.slice none 0 0,.int .i64 s.al,.int .i64 s.st,.slice A n c,.int .i64 p.al,.slice B m d,.slice B' m' d',.int .i64 L] 98)=w1 at *
 have CB:=b1.cells
 have hww:=Ext.refl w1
 go_wp2_with (first
  |(go_at_call 142;refine (HV.out _ hw1).mono ?_;rintro e w2 ⟨rfl,hx2⟩))
 go_ret
 exact⟨rfl,hw1.trans hx2⟩
theorem zdM {t:ByteArray}(h:Tch w A n B m B' m' s p L)(ht:t.size≤9223372036854775807) :
  Calls Tryz.prog 211 #[.agg #[.bool false,.int .i64 0,.slice none 0 0,.slice none 0 0,.int .i64 s.al,.int .i64 s.st,.slice A n c,.int .i64 p.al,.slice B m d,.slice B' m' d',.int .i64 L],.string t] w fun e w'=>e=.returned (.bool (zt s p L t))∧Ext w w':=by
 obtain⟨lo,hi,h1,h2,h3⟩:=h.at_
 have HV:=za (fun W (hW:Ext w W)=>zff (c:=c) (d:=d) (d':=d') (L:=L) (t:=t) (h1.ext hW) (h2.ext hW) h.sv h.pv h.lt (Nat.le_trans h3 hW.size) ht)
 have hw1:Ext w (w.alloc (.cells #[.bool false,.int .i64 0,.slice none 0 0,.slice none 0 0,.int .i64 s.al,.int .i64 s.st,.slice A n c,.int .i64 p.al,.slice B m d,.slice B' m' d',.int .i64 L] 98)):=(Ext.refl _).alloc _
 have b1:=Blk.new w 98 #[.bool false,.int .i64 0,.slice none 0 0,.slice none 0 0,.int .i64 s.al,.int .i64 s.st,.slice A n c,.int .i64 p.al,.slice B m d,.slice B' m' d',.int .i64 L]
 clear h h1 h2
 go_enter Tryz.func211,Tryz.ntmps211
 go_upto_region 1 with fail
 generalize w.alloc (.cells #[.bool false,.int .i64 0,.slice none 0 0,.slice none 0 0,.int .i64 s.al,.int .i64 s.st,.slice A n c,.int .i64 p.al,.slice B m d,.slice B' m' d',.int .i64 L] 98)=w1 at *
 have CB:=b1.cells
 have hww:=Ext.refl w1
 go_wp2_with (first
  |(go_at_call 75;refine (HV.out _ hw1).mono ?_;rintro e w2 ⟨rfl,hx2⟩))
 go_ret
 exact⟨rfl,hw1.trans hx2⟩
end
theorem str_loop (b:ByteArray):∀ (k:Nat) (i:Nat) (r:List UInt8),b.size - i=k→ByteArray.toList.loop b i r=r.reverse++b.data.toList.drop i:=by
 intro k
 induction k with
 |zero =>
  intro i r h
  unfold ByteArray.toList.loop
  rw [if_neg (by omega),List.drop_of_length_le (by rw [Array.length_toList];show b.size≤i;omega),List.append_nil]
 |succ k ih =>
  intro i r h
  have hi:i<b.size:=by omega
  unfold ByteArray.toList.loop
  rw [if_pos hi,ih (i+1) _ (by omega),List.drop_eq_getElem_cons (i:=i) (by rw [Array.length_toList];exact hi),List.reverse_cons,List.append_assoc]
  have e:b.get! i=b.data.toList[i]'(by rw [Array.length_toList];exact hi):=by
   rw [Array.getElem_toList]
   show b.data[i]! = _
   exact getElem!_pos b.data i hi
  rw [e]
  rfl
theorem str_data (b:ByteArray):b.toList=b.data.toList:=by
 unfold ByteArray.toList
 rw [str_loop b _ 0 [] rfl]
 rfl
theorem str_ext {x y:ByteArray}(h:x.toList=y.toList):x=y:=by
 rw [str_data,str_data] at h
 cases x;cases y
 congr 1
 exact Array.toList_inj.1 h
theorem str_ne {x y:ByteArray}(h:¬ x=y):(x.toList==y.toList)=false:=by
 rw [beq_eq_false_iff_ne]
 exact fun e=>h (str_ext e)
noncomputable def zcm (l:List ByteArray) (x:ByteArray):Bool:=by classical exact decide (x∈l)
theorem zai {l:List ByteArray} {x:ByteArray}:zcm l x=true↔x∈l:=by unfold zcm;simp
theorem zbW {l:List ByteArray} {x:ByteArray}:zcm l x=false↔x∉l:=by rw [← Bool.not_eq_true,zai]
theorem zdg {w:World} {lo hi n c:Nat} {A:Option Addr} {l:List ByteArray} {x:ByteArray}(h:Reads w lo hi 1 A n (zL l)) :
  Calls Tryz.prog 225 #[.slice A n c,.string x] w fun e w'=>e=.returned (.bool (zcm l x))∧w=w':=by
 have hn:=h.len
 have hl:l.length=n:=by have:=h.length;rw [zaD] at this;omega
 have Hl:=za hl
 clear hl
 go_enter Tryz.func225,Tryz.ntmps225
 go_wp2_with fail
 go_loop [5] (fun iv=>∃ i:Nat,iv=.int .i64 i∧i≤n∧Hid (∀ j,j<i→l[j]?≠some x)) (fun iv=>n - (intOf iv).toNat)
 case atStart=>exact⟨0,rfl,Nat.zero_le _,za (fun j h=>by omega)⟩
 case round =>
  obtain⟨i,rfl,hi,hdone⟩:=hrel
  by_cases hlt:i<n
  ·have hlt':(i:Int)<(n:Int):=by omega
   obtain⟨ad,y,rfl,_,_,hy,cy⟩:=h.str hlt
   by_cases he:y=x
   ·subst he
    have hb:=za (zai.2 (List.mem_of_getElem? hy.out))
    go_wp2_with fail
    go_ret
    exact⟨zj (by rw [hb.out]),rfl⟩
   ·have He:=za he
    have htest:=str_ne he
    clear he
    go_wp2_with fail
    go_round
    case rel=>exact⟨i+1,by go_num,by omega,za (fun j hj=>by
     rcases Nat.lt_or_eq_of_le (Nat.le_of_lt_succ hj) with h1|rfl
     ·exact hdone.out j h1
     ·rw [hy.out];intro h;exact He.out (Option.some.inj h))⟩
    case measure=>simp [intOf];omega
  ·obtain rfl:i=n:=by omega
   have hb:=za (show zcm l x=false by
    rw [zbW]
    intro hx
    obtain⟨j,hj⟩:=List.getElem?_of_mem hx
    exact hdone.out j (by have:=(List.getElem?_eq_some_iff.1 hj).1;have:=Hl.out;omega) hj)
   go_wp2_with fail
   go_ret
   exact⟨zj (by rw [hb.out]),rfl⟩
def zbq (f:ByteArray→Bool) (cols:List ByteArray) (x:ByteArray):List Bool:=cols.map fun c=>f (x++c)
def mkB (b:Bool):ByteArray:=if b then ⟨#[43]⟩ else ⟨#[45]⟩
def mkS (bs:List Bool):ByteArray:=bs.foldl (fun o b=>o++mkB b) ByteArray.empty
theorem mkS_snoc (bs:List Bool) (b:Bool):mkS (bs++[b])=mkS bs++mkB b:=by simp [mkS]
theorem zeZ:∀ (bs:List Bool),(mkS bs).data.toList=bs.map fun b=>if b then 43 else 45:=by
 have key:∀ (bs:List Bool) (o:ByteArray),(bs.foldl (fun o b=>o++mkB b) o).data.toList=o.data.toList++bs.map fun b=>if b then 43 else 45:=by
  intro bs
  induction bs with
  |nil=>intro o;simp
  |cons b r ih =>
   intro o
   rw [List.foldl_cons,ih,ByteArray.data_append,Array.toList_append,List.append_assoc,List.map_cons]
   cases b<;>rfl
 intro bs
 unfold mkS
 rw [key]
 rfl
theorem zik {α β:Type} {f:α→β}(hf:∀ x y,f x=f y→x=y):∀ {a b:List α},a.map f=b.map f→a=b
 |[],[],_=>rfl
 |[],_ :: _,h=>by simp at h
 |_ :: _,[],h=>by simp at h
 |x :: a,y :: b,h=>by
  simp only [List.map_cons,List.cons.injEq] at h
  rw [hf x y h.1,zik hf h.2]
theorem mkS_inj {a b:List Bool}(h:mkS a=mkS b):a=b:=by
 have h1:(mkS a).data.toList=(mkS b).data.toList:=by rw [h]
 rw [zeZ,zeZ] at h1
 exact zik (fun x y=>by cases x<;>cases y<;>simp) h1
theorem mkS_size (bs:List Bool):(mkS bs).size=bs.length:=by
 have h:=congrArg List.length (zeZ bs)
 rw [List.length_map,Array.length_toList] at h
 exact h
section
variable {w W:World} {n c m d m' d' L:Nat} {A B B':Option Addr} {s:Sys} {p:Aut}
theorem zeB {C:Option Addr} {nc cc lo hi:Nat} {cols:List ByteArray} {x:ByteArray}(h:Tch w A n B m B' m' s p L)(hC:Reads w lo hi 1 C nc (zL cols))(hc:nc≤1000)(hx:x.size≤1000000)(hcs:∀ y∈cols,y.size≤1000000) :
  Calls Tryz.prog 134 #[.agg #[.bool false,.int .i64 0,.slice none 0 0,.slice none 0 0,.int .i64 s.al,.int .i64 s.st,.slice A n c,.int .i64 p.al,.slice B m d,.slice B' m' d',.int .i64 L],.slice C nc cc,.string x] w fun e w'=>e=.returned (.string (mkS (zbq (zt s p L) cols x)))∧Ext w w':=by
 have hl:cols.length=nc:=by have:=hC.length;rw [zaD] at this;omega
 have HV:=za (fun W (hW:Ext w W) (y:ByteArray) hy=>zdM (c:=c) (d:=d) (d':=d') (t:=y) (h.ext hW) hy)
 have HC:=za (fun W (hW:Ext w W)=>hC.ext hW)
 have Hl:=za hl
 have Hcs:=za hcs
 have hw1:Ext w (w.alloc (.cells #[.bool false,.int .i64 0,.slice none 0 0,.slice none 0 0,.int .i64 s.al,.int .i64 s.st,.slice A n c,.int .i64 p.al,.slice B m d,.slice B' m' d',.int .i64 L] 98)):=(Ext.refl _).alloc _
 have b1:=Blk.new w 98 #[.bool false,.int .i64 0,.slice none 0 0,.slice none 0 0,.int .i64 s.al,.int .i64 s.st,.slice A n c,.int .i64 p.al,.slice B m d,.slice B' m' d',.int .i64 L]
 clear h hC hl hcs
 go_enter Tryz.func134,Tryz.ntmps134
 go_upto_region 1 with fail
 generalize w.alloc (.cells #[.bool false,.int .i64 0,.slice none 0 0,.slice none 0 0,.int .i64 s.al,.int .i64 s.st,.slice A n c,.int .i64 p.al,.slice B m d,.slice B' m' d',.int .i64 L] 98)=w1 at *
 have CB:=b1.cells
 go_wp2_with fail
 go_loopw [7,8] (fun v iv wr=>∃ (k:Nat) (o:ByteArray),iv=.int .i64 k∧k≤nc∧v=.string o∧o.size≤k∧Hid (o=mkS (zbq (zt s p L) (cols.take k) x))∧Ext w1 wr) (fun _ iv _=>nc - (intOf iv).toNat)
 case atStart=>exact⟨0,_,rfl,Nat.zero_le _,rfl,by decide,za rfl,Ext.refl _⟩
 case round =>
  obtain⟨k,o,rfl,hk,rfl,hos,ho,hxr⟩:=hrel
  by_cases hlt:k<nc
  ·have hlt':(k:Int)<(nc:Int):=by omega
   obtain⟨ad,y,rfl,_,_,hy,cy⟩:=(HC.out wr (hw1.trans hxr)).str hlt
   have hys:=Hcs.out y (List.mem_of_getElem? hy.out)
   have CY:∀ W,Ext wr W→W.cell? (ad.add k)=some (.string y):=fun W hW=>hW.cell_some cy
   have CBr:∀ W,Ext wr W→∀ q,W.cell? ⟨w.heap.size,q,none⟩=#[Value.bool false,.int .i64 0,.slice none 0 0,.slice none 0 0,.int .i64 s.al,.int .i64 s.st,.slice A n c,.int .i64 p.al,.slice B m d,.slice B' m' d',.int .i64 L][q]?:=fun W hW=>CB W (hxr.trans hW)
   have hsz:¬ 9223372036854775807<x.size+y.size:=by omega
   have hsz2:¬ 9223372036854775807<o.size+1:=by omega
   have hsum:(x++y).size≤9223372036854775807:=by rw [ByteArray.size_append];omega
   have HVr:=za (fun W (hW:Ext wr W)=>HV.out W ((hw1.trans hxr).trans hW) (x++y) hsum)
   have hww:=Ext.refl wr
   have hst:=za (show mkS (zbq (zt s p L) (cols.take (k+1)) x)=o++mkB (zt s p L (x++y)) by
    rw [List.take_add_one,hy.out,zbq,List.map_append,← zbq,ho.out,Option.toList_some,List.map_singleton,mkS_snoc])
   obtain⟨bv,hbv⟩:∃ bv,Hid (zt s p L (x++y)=bv):=⟨_,rfl⟩
   rw [hbv.out] at HVr hst
   clear cy hsum
   go_wp2_with fail
   go_region_held3 (fun W=>Ext wr W) (first|assumption|(refine Ext.drew ?_;assumption)|(refine Ext.trans ?_ (by assumption);assumption)|(refine Ext.trans ?_ (by assumption);refine Ext.drew ?_;assumption)) (first
    |(go_at_call 211;refine (HVr.out _ ?_).mono ?_;(first|assumption|(refine Ext.drew ?_;assumption));rintro e w7 ⟨rfl,hx7⟩))
   have hx17:Ext w1 w7:=hxr.trans (by assumption)
   cases bv
   all_goals
    go_wp2_with fail
    go_roundw
    case rel=>exact⟨k+1,_,by go_num,by omega,rfl,by rw [ByteArray.size_append];show o.size+1≤k+1;omega,hst.symm,hx17⟩
    case measure=>simp [intOf];omega
  ·obtain rfl:k=nc:=by omega
   have ziM:=za (show mkS (zbq (zt s p L) cols x)=o by rw [ho.out,List.take_of_length_le (by have:=Hl.out;omega)])
   go_wp2_with fail
   go_ret
   exact⟨by rw [ziM.out];rfl,hw1.trans hxr⟩
end
end Go.Proofs.YtcfchopfijalpaaGreatDoor
namespace Go.Proofs.YtcfchopfijalpaaGreatDoor
open Go Go.RowKit Go.WideMaps Go.Maps
def zaQ (T:List Nat):List Value:=T.map fun x=>.int .u16 (x:Nat)
theorem zbu (T:List Nat):(zaQ T).length=T.length:=by simp [zaQ]
def zfQ (T:List Nat):Value:=.agg (zaQ T).toArray
theorem pset_inj {T U:List Nat}(h:zfQ T=zfQ U):T=U:=by
 unfold zfQ zaQ at h
 injection h with h
 have h2:T.map (fun x=>Value.int .u16 (x:Nat))=U.map fun x=>Value.int .u16 (x:Nat):=by simpa using h
 exact zik (fun a b e=>by injection e with _ e;exact Int.ofNat.inj e) h2
abbrev domP (T:List Nat):Prop:=T.length=12∧∀ x∈T,x<65536
theorem zhA:ArrKey Tryz.prog 249 247 12:=⟨Tryz.underlying249,by kernel_rfl,by kernel_rfl,by kernel_rfl⟩
theorem types_pos:(0:Nat)<(Tryz.prog).types.size:=of_decide_eq_true (by kernel_rfl)
theorem zhM:∃ m,(Tryz.prog).types.size=m+1:=⟨(Tryz.prog).types.size - 1,by have:=types_pos;omega⟩
theorem zgy {α β:Type} {f:α→Option β}:∀ (l:List α),(∀ i∈l,(f i).isSome=true)→(l.mapM f).isSome=true
 |[],_=>rfl
 |a :: r,h=>by
  obtain⟨y,hy⟩:=Option.isSome_iff_exists.1 (h a (by simp))
  obtain⟨ys,hys⟩:=Option.isSome_iff_exists.1 (zgy r (fun i hi=>h i (by simp [hi])))
  rw [List.mapM_cons,hy,hys]
  rfl
noncomputable def litP (T:List Nat):Lit:=(keyOf Tryz.prog 249 (zfQ T)).getD (.bool false)
theorem zdF {T:List Nat}(h:domP T):(keyOf Tryz.prog 249 (zfQ T)).isSome=true:=by
 obtain⟨h1,h2⟩:=h
 have A:=zhA
 obtain⟨m,hm⟩:=zhM
 have hkt:=A.keyType zhM
 have hsz:(zaQ T).toArray.size=12:=by simp [zaQ,h1]
 unfold keyOf
 simp only [A.hu]
 rw [if_pos (by simp [hkt,zfQ,Value.formed,A.hu,A.size,zaQ,h1]),hm]
 unfold Program.keyLits
 simp only [A.hu,zfQ,Value.cells]
 rw [if_pos (by rw [A.size];simpa using hsz)]
 rw [Option.isSome_map,Option.isSome_map]
 refine zgy _ fun i hi=>?_
 rw [List.mem_range] at hi
 obtain⟨x,hx⟩:∃ x,T[i]?=some x:=⟨_,List.getElem?_eq_getElem (by omega)⟩
 have hx2:=h2 x (List.mem_of_getElem? hx)
 have hd:((zaQ T).toArray.toList.drop (i*(Tryz.prog).cellsOf 247)).take ((Tryz.prog).cellsOf 247)=[.int .u16 (x:Nat)]:=by
  rw [A.one,Nat.mul_one]
  simp only [zaQ]
  rw [List.take_one,List.head?_drop]
  simp [hx]
 rw [hd]
 cases m with
 |zero =>
  have h3:(1:Nat)<(Tryz.prog).types.size:=of_decide_eq_true (by kernel_rfl)
  omega
 |succ m =>
 unfold Program.keyLits
 have hw:(Lit.int .u16 (x:Int)).wf=true:=by
  simp [Lit.wf,IntKind.min,IntKind.max,IntKind.bits,IntKind.signed]
  omega
 simp [Tryz.underlying247,hw]
theorem keyP:KeyG 242 249 zfQ litP domP:=
 ⟨Keyed.of_law zhA.law,Tryz.underlying242,fun h=>by
  obtain⟨l,hl⟩:=Option.isSome_iff_exists.1 (zdF h)
  unfold litP
  rw [hl]
  rfl,fun {x y} hx hy e=>by
  obtain⟨l,hl⟩:=Option.isSome_iff_exists.1 (zdF hx)
  obtain⟨k,hk⟩:=Option.isSome_iff_exists.1 (zdF hy)
  unfold litP at e
  rw [hl,hk] at e
  obtain rfl:l=k:=by simpa using e
  exact pset_inj ((Keyed.of_law zhA.law).inj hl hk)⟩
theorem keyS:KeyG 183 9 (fun x:ByteArray=>.string x) (fun x=>.string x.data.toList) (fun x=>x.size≤9223372036854775807):=
 ⟨string_keyed Tryz.underlying9,Tryz.underlying183,fun {x} h=>by simp [keyOf,Tryz.underlying9,mapKey,maxLen,h],fun _ _ e=>by
  injection e with e
  exact ByteArray.ext (Array.ext' e)⟩
end Go.Proofs.YtcfchopfijalpaaGreatDoor
namespace Go.Proofs.YtcfchopfijalpaaGreatDoor
open Go Go.RowKit
theorem zhZ (es:List Edg):∀ u∈zy es,u.oneCell'=true:=by
 induction es with
 |nil=>intro u h;cases h
 |cons e r ih =>
  intro u h
  simp only [zy,List.mem_cons] at h
  rcases h with rfl|rfl|rfl|h
  ·rfl
  ·rfl
  ·rfl
  ·exact ih u h
def RetStrL (w:World) (l:List ByteArray) (e:Ending) (w':World):Prop:=
 ∃ A c,e=.returned (.slice A l.length c)∧w'.ownsRow w.heap.size 9 1 (.slice A l.length c) l.length (zL l)∧Ext w w'
def zal (f:ByteArray→Bool) (cols words:List ByteArray):List ByteArray:=words.map fun x=>mkS (zbq f cols x)
theorem strs_snoc (l:List ByteArray) (x:ByteArray):zL (l++[x])=zL l++[.string x]:=by simp [zL]
section
variable {w W:World} {n c m d m' d' L:Nat} {A B B':Option Addr} {s:Sys} {p:Aut}
theorem zdO {C R:Option Addr} {nc cc nr cr lo hi lo2 hi2:Nat} {cols rows:List ByteArray}(h:Tch w A n B m B' m' s p L)(hC:Reads w lo hi 1 C nc (zL cols))(hR:Reads w lo2 hi2 1 R nr (zL rows))(hc:nc≤1000)(hr:nr≤1000)(hcs:∀ y∈cols,y.size≤1000000)(hrs:∀ y∈rows,y.size≤1000000) :
  Calls Tryz.prog 132 #[.agg #[.bool false,.int .i64 0,.slice none 0 0,.slice none 0 0,.int .i64 s.al,.int .i64 s.st,.slice A n c,.int .i64 p.al,.slice B m d,.slice B' m' d',.int .i64 L],.slice C nc cc,.slice R nr cr] w (RetStrL w (zal (zt s p L) cols rows)):=by
 have hl:rows.length=nr:=by have:=hR.length;rw [zaD] at this;omega
 have HV:=za (fun W (hW:Ext w W) (y:ByteArray) hy=>zeB (c:=c) (d:=d) (d':=d') (cc:=cc) (x:=y) (h.ext hW) (hC.ext hW) hc hy hcs)
 have HR:=za (fun W (hW:Ext w W)=>hR.ext hW)
 have Hl:=za hl
 have Hrs:=za hrs
 have hw1:Ext w (w.alloc (.cells #[.bool false,.int .i64 0,.slice none 0 0,.slice none 0 0,.int .i64 s.al,.int .i64 s.st,.slice A n c,.int .i64 p.al,.slice B m d,.slice B' m' d',.int .i64 L] 98)):=(Ext.refl _).alloc _
 have b1:=Blk.new w 98 #[.bool false,.int .i64 0,.slice none 0 0,.slice none 0 0,.int .i64 s.al,.int .i64 s.st,.slice A n c,.int .i64 p.al,.slice B m d,.slice B' m' d',.int .i64 L]
 clear h hC hR hl hrs hcs
 go_enter Tryz.func132,Tryz.ntmps132
 go_upto_region 1 with fail
 generalize w.alloc (.cells #[.bool false,.int .i64 0,.slice none 0 0,.slice none 0 0,.int .i64 s.al,.int .i64 s.st,.slice A n c,.int .i64 p.al,.slice B m d,.slice B' m' d',.int .i64 L] 98)=w1 at *
 have CB:=b1.cells
 go_wp2_with fail
 go_loopw [7,8] (fun v iv wr=>∃ k:Nat,iv=.int .i64 k∧k≤nr∧wr.ownsRow w1.heap.size 9 1 v k (zL (zal (zt s p L) cols (rows.take k)))∧Ext w1 wr) (fun _ iv _=>nr - (intOf iv).toNat)
 case atStart=>exact⟨0,rfl,Nat.zero_le _,World.ownsRow_lit w1 #[] 0 (Nat.le_refl _) (by unfold maxLen;omega) rfl,(Ext.refl _).alloc _⟩
 case round =>
  obtain⟨k,rfl,hk,ziJ,hxr⟩:=hrel
  by_cases hlt:k<nr
  ·have hlt':(k:Int)<(nr:Int):=by omega
   obtain⟨ad,y,rfl,_,_,hy,cy⟩:=(HR.out wr (hw1.trans hxr)).str hlt
   have hys:=Hrs.out y (List.mem_of_getElem? hy.out)
   have CY:∀ W,Ext wr W→W.cell? (ad.add k)=some (.string y):=fun W hW=>hW.cell_some cy
   have CBr:∀ W,Ext wr W→∀ q,W.cell? ⟨w.heap.size,q,none⟩=#[Value.bool false,.int .i64 0,.slice none 0 0,.slice none 0 0,.int .i64 s.al,.int .i64 s.st,.slice A n c,.int .i64 p.al,.slice B m d,.slice B' m' d',.int .i64 L][q]?:=fun W hW=>CB W (hxr.trans hW)
   have HVr:=za (fun W (hW:Ext wr W)=>HV.out W ((hw1.trans hxr).trans hW) y hys)
   have hww:=Ext.refl wr
   have hst:=za (show zL (zal (zt s p L) cols (rows.take (k+1)))=zL (zal (zt s p L) cols (rows.take k))++[.string (mkS (zbq (zt s p L) cols y))] by
    rw [List.take_add_one,hy.out,zal,List.map_append,← zal,Option.toList_some,List.map_singleton,strs_snoc])
   generalize mkS (zbq (zt s p L) cols y)=z at *
   clear cy
   go_wp2_with fail
   refine uR (fun X=>Ext wr X) [9] (zu.of [0,1,2,3,4,5,6,7,8,9,10]) ?_
   refine uQ ?_
   refine ze fun K hK=>?_;go_simp
   refine (HVr.out _ hww.drew).mono ?_
   rintro e w5 ⟨rfl,hx5⟩
   have hxr5:Ext wr w5:=hww.drew.trans hx5
   refine hK.out _ _ hxr5 ?_
   refine pT ?_
   refine uQ ?_
   refine ze fun K hK=>?_;go_simp
   refine hK.out _ _ (hxr5.alloc _) ?_
   refine pT ?_
   refine zb fun K hK=>?_
   refine zbN w1 w5 _ _ _ rfl 9 _ 1 16 Tryz.underlying99 zo rfl (by decide) _ k (zL (zal (zt s p L) cols (rows.take k))) _ _ rfl rfl (hxr.trans hxr5).size (zh ziJ hxr5) rfl (cells_str _) (by unfold maxLen;omega) (by omega) ?_
   intro g8 cap8 w8 hown8 hg8 hat8 hlt8
   refine hK.out _ _ ?_
   refine pT ?_
   refine uQ ?_
   refine zf ?_
   go_wp2_with fail
   go_roundw
   case rel=>exact⟨k+1,by go_num,by omega,by rw [hst.out];exact hown8,(hxr.trans hxr5).grown hg8 (fun k hk=>(ziJ.lt k hk).1)⟩
   case measure=>simp [intOf];omega
  ·obtain rfl:k=nr:=by omega
   obtain⟨A5,c5,rfl⟩:=zi ziJ
   have ziM:=za (show (rows.take k)=rows from List.take_of_length_le (by have:=Hl.out;omega))
   rw [ziM.out] at ziJ
   have hlen:=za (show (zal (zt s p L) cols rows).length=k by rw [zal,List.length_map];exact Hl.out)
   go_wp2_with fail
   go_ret
   exact⟨A5,c5,by rw [hlen.out];rfl,by rw [hlen.out];exact zq ziJ hw1.size,hw1.trans hxr⟩
theorem zfL {x:ByteArray}(h:Tch w A n B m B' m' s p L)(hx:x.size≤9223372036854775807) :
  Calls Tryz.prog 223 #[.agg #[.bool false,.int .i64 0,.slice none 0 0,.slice none 0 0,.int .i64 s.al,.int .i64 s.st,.slice A n c,.int .i64 p.al,.slice B m d,.slice B' m' d',.int .i64 L],.string x] w fun e w'=>e=.returned (.bool (inB x L&&decide (x.size≤4000)))∧Ext w w':=by
 have HV:=za (fun W (hW:Ext w W)=>zaF (c:=c) (d:=d) (d':=d') (h.ext hW))
 have hL:=h.lt
 have hw1:Ext w (w.alloc (.cells #[.bool false,.int .i64 0,.slice none 0 0,.slice none 0 0,.int .i64 s.al,.int .i64 s.st,.slice A n c,.int .i64 p.al,.slice B m d,.slice B' m' d',.int .i64 L] 98)):=(Ext.refl _).alloc _
 have b1:=Blk.new w 98 #[.bool false,.int .i64 0,.slice none 0 0,.slice none 0 0,.int .i64 s.al,.int .i64 s.st,.slice A n c,.int .i64 p.al,.slice B m d,.slice B' m' d',.int .i64 L]
 clear h
 cases hin:inB x L
 all_goals
  have Hin:=za hin
  clear hin
  go_enter Tryz.func223,Tryz.ntmps223
  go_upto_region 1 with fail
  generalize w.alloc (.cells #[.bool false,.int .i64 0,.slice none 0 0,.slice none 0 0,.int .i64 s.al,.int .i64 s.st,.slice A n c,.int .i64 p.al,.slice B m d,.slice B' m' d',.int .i64 L] 98)=w1 at *
  have CB:=b1.cells
  have hww:=Ext.refl w1
  go_wp2_with (first
   |(go_at_call 130;refine (HV.out _ hw1).mono ?_;rintro e w2 ⟨rfl,hx2⟩)
   |(go_at_call 143;refine (zaG hx (by omega)).mono ?_;rw [Hin.out];rintro e w3 ⟨rfl,rfl⟩))
  go_ret
  exact⟨zj (by first|rfl|(rw [Bool.true_and,decide_eq_decide];omega)),hw1.trans hx2⟩
end
def zbA (l:Nat):ByteArray:=strOfNums [((97+l:Nat):Int)]
theorem zcc (l:Nat):(zbA l).size=1:=strOfNums_size _
structure zbz (L:Nat) (f:ByteArray→Bool) (rows cols:List ByteArray):Prop where
 r1:1≤rows.length
 r12:rows.length≤12
 c1:1≤cols.length
 c20:cols.length≤20
 r0:rows[0]?=some ⟨#[]⟩
 c0:cols[0]?=some ⟨#[]⟩
 rw_:∀ (i:Nat) (x:ByteArray),1≤i→rows[i]?=some x→inB x L=true∧∃ y l,l<6∧x=y++zbA l∧y∈rows.take i
 cw:∀ (i:Nat) (x:ByteArray),1≤i→cols[i]?=some x→inB x L=true∧x.size≤4000∧x∉cols.take i
 nd:(rows.map (zbq f cols)).Nodup
section
variable {L:Nat} {f:ByteArray→Bool} {rows cols:List ByteArray}
theorem inB_empty (L:Nat):inB ⟨#[]⟩ L=true:=by unfold inB zfw;rfl
theorem zbz.rsz (h:zbz L f rows cols):∀ (i:Nat) (x:ByteArray),rows[i]?=some x→x.size≤i:=by
 intro i
 induction i using Nat.strongRecOn with
 |ind i ih =>
  intro x hx
  rcases Nat.eq_zero_or_pos i with rfl|hi
  ·rw [h.r0] at hx
   obtain rfl:=Option.some.inj hx
   exact Nat.le_refl _
  ·obtain⟨-,y,l,hl,rfl,hy⟩:=h.rw_ i x hi hx
   obtain⟨j,hj⟩:=List.getElem?_of_mem hy
   have hji:j<i:=by have:=(List.getElem?_eq_some_iff.1 hj).1;rw [List.length_take] at this;omega
   rw [List.getElem?_take_of_lt hji] at hj
   have:=ih j hji y hj
   rw [ByteArray.size_append,zcc l]
   omega
theorem zbz.rin (h:zbz L f rows cols) {x:ByteArray}(hx:x∈rows):inB x L=true∧x.size≤12:=by
 obtain⟨i,hi⟩:=List.getElem?_of_mem hx
 have hil:=(List.getElem?_eq_some_iff.1 hi).1
 refine⟨?_,by have:=h.rsz i x hi;have:=h.r12;omega⟩
 rcases Nat.eq_zero_or_pos i with rfl|h0
 ·rw [h.r0] at hi
  obtain rfl:=Option.some.inj hi
  exact inB_empty L
 ·exact (h.rw_ i x h0 hi).1
theorem zbz.cin (h:zbz L f rows cols) {x:ByteArray}(hx:x∈cols):inB x L=true∧x.size≤4000:=by
 obtain⟨i,hi⟩:=List.getElem?_of_mem hx
 rcases Nat.eq_zero_or_pos i with rfl|h0
 ·rw [h.c0] at hi
  obtain rfl:=Option.some.inj hi
  exact⟨inB_empty L,by decide⟩
 ·exact⟨(h.cw i x h0 hi).1,(h.cw i x h0 hi).2.1⟩
theorem rowsM_nodup (h:zbz L f rows cols):(zal f cols rows).Nodup:=by
 have h1:=h.nd
 unfold zal
 have h2:rows.map (fun x=>mkS (zbq f cols x))=(rows.map (zbq f cols)).map mkS:=by rw [List.map_map];rfl
 rw [h2]
 exact List.pairwise_map.2 (h1.imp fun hne e=>hne (mkS_inj e))
end
def TabAt (w:World) (R:Option Addr) (nr:Nat) (C:Option Addr) (nc:Nat) (rows cols:List ByteArray):Prop:=
 ∃ lo hi lo2 hi2,Reads w lo hi 1 R nr (zL rows)∧Reads w lo2 hi2 1 C nc (zL cols)
theorem TabAt.ext {w W:World} {R C:Option Addr} {nr nc:Nat} {rows cols:List ByteArray}(h:TabAt w R nr C nc rows cols)(hx:Ext w W):TabAt W R nr C nc rows cols:=by
 obtain⟨lo,hi,lo2,hi2,h1,h2⟩:=h
 exact⟨lo,hi,lo2,hi2,h1.ext hx,h2.ext hx⟩
theorem TabAt.nr {w:World} {R C:Option Addr} {nr nc:Nat} {rows cols:List ByteArray}(h:TabAt w R nr C nc rows cols):rows.length=nr∧cols.length=nc:=by
 obtain⟨lo,hi,lo2,hi2,h1,h2⟩:=h
 have e1:=h1.length
 have e2:=h2.length
 rw [zaD] at e1 e2
 omega
theorem Reads.takeS {w:World} {lo hi n k:Nat} {A:Option Addr} {l:List ByteArray}(h:Reads w lo hi 1 A n (zL l))(hk:k≤n):Reads w lo hi 1 A k (zL (l.take k)):=by
 have hl:=h.length
 rw [zaD] at hl
 refine⟨by rw [zaD,List.length_take];omega,by have:=h.len;omega,fun h0=>?_⟩
 obtain⟨ad,e,h1,h2,h3⟩:=h.2.2 (by omega)
 refine⟨ad,e,h1,h2,fun j u hu=>h3 j u ?_⟩
 unfold zL at hu ⊢
 rw [List.map_take] at hu
 have hj:j<k:=by have:=(List.getElem?_eq_some_iff.1 hu).1;rw [List.length_take] at this;omega
 rwa [List.getElem?_take_of_lt hj] at hu
theorem str_front (y:ByteArray) (l:Nat):(y++zbA l).extract 0 y.size=y:=by
 rw [ByteArray.extract_append_eq_left rfl]
section
variable {w W:World} {L nr nc cr cc:Nat} {R C:Option Addr} {rows cols:List ByteArray} {f:ByteArray→Bool}
theorem ziy (hT:TabAt w R nr C nc rows cols)(hI:zbz L f rows cols)(hL:L<64)(hcr:nr≤cr)(hcc:nc≤cc) :
  Calls Tryz.prog 265 #[.int .i64 L,.agg #[.slice R nr cr,.slice C nc cc]] w fun e w'=>e=.returned (.bool true)∧Ext w w':=by
 obtain⟨e1,e2⟩:=hT.nr
 have hr1:=hI.r1;have hr12:=hI.r12;have hc1:=hI.c1;have hc20:=hI.c20
 rw [e1] at hr1 hr12
 rw [e2] at hc1 hc20
 obtain⟨lo,hi,lo2,hi2,h1,h2⟩:=hT
 obtain⟨ad,x,rfl,_,_,hx,cx⟩:=h1.str (show 0<nr by omega)
 obtain⟨bd,y,rfl,_,_,hy,cy⟩:=h2.str (show 0<nc by omega)
 obtain rfl:=Option.some.inj (hx.out.symm.trans hI.r0)
 obtain rfl:=Option.some.inj (hy.out.symm.trans hI.c0)
 rw [addr_zero] at cx cy
 have H1:=za (fun W (hW:Ext w W)=>h1.ext hW)
 have H2:=za (fun W (hW:Ext w W)=>h2.ext hW)
 have HI:=za hI
 have hw1:Ext w (w.alloc (.cells #[.slice (some ad) nr cr,.slice (some bd) nc cc] 101)):=(Ext.refl _).alloc _
 have b1:=Blk.new w 101 #[.slice (some ad) nr cr,.slice (some bd) nc cc]
 have CX:=fun W (hW:Ext w W)=>hW.cell_some cx
 have CY:=fun W (hW:Ext w W)=>hW.cell_some cy
 clear h1 h2 hI hx hy cx cy e1 e2
 go_enter Tryz.func265,Tryz.ntmps265
 go_upto_region 1 with fail
 generalize w.alloc (.cells #[.slice (some ad) nr cr,.slice (some bd) nc cc] 101)=w1 at *
 have k1:=b1.cell
 have cx:=CX _ hw1
 have cy:=CY _ hw1
 have hww:=Ext.refl w1
 go_wp2_with fail
 go_loopw [7] (fun iv wr=>∃ k:Nat,1≤k∧k≤nr∧iv=.int .i64 k∧Ext w1 wr) (fun iv _=>nr - (intOf iv).toNat)
 case atStart=>exact⟨1,Nat.le_refl _,hr1,rfl,hww⟩
 case round =>
  clear hww k1 cx cy
  obtain⟨k,hk1,hk,rfl,hxr⟩:=hrel
  by_cases hlt:k<nr
  ·have hlt':(k:Int)<(nr:Int):=by omega
   have hkc:(k:Int)≤(cr:Int):=by omega
   obtain⟨ad1,x,e,_,_,hx,cx⟩:=(H1.out wr (hw1.trans hxr)).str hlt
   obtain rfl:=Option.some.inj e
   obtain⟨hin,y,l,hl,hxy,hy⟩:=HI.out.rw_ k x hk1 hx.out
   have hsz:x.size=y.size+1:=by rw [hxy,ByteArray.size_append,zcc]
   have hxt:x.extract 0 y.size=y:=by rw [hxy,str_front]
   have h0:0<x.size:=by omega
   have hys:y.size≤12:=by have:=HI.out.rsz k x hx.out;omega
   have hmem:=za (zai.2 hy)
   have HRt:=za (fun W (hW:Ext w W)=>(H1.out W hW).takeS hk)
   have Hin:=za hin
   have CXr:∀ W,Ext wr W→W.cell? (ad.add k)=some (.string x):=fun W hW=>hW.cell_some cx
   have CB:∀ W,Ext wr W→∀ q,W.cell? ⟨w.heap.size,q,none⟩=#[Value.slice (some ad) nr cr,.slice (some bd) nc cc][q]?:=fun W hW=>(b1.ext (hxr.trans hW)).cell
   have hww:=Ext.refl wr
   have hwr:IntKind.i64.wrap (y.size:Int)=(y.size:Int):=IntWalk.i64_in _ (by omega)
   have hne:((y.size:Int)+1==0)=false:=by simp;omega
   have hyx:(y.size:Int)≤(y.size:Int)+1:=by omega
   clear hin hy hxy cx hx hl e
   go_wp2_with fail
   refine uR (fun X=>Ext wr X) [] (zu.of [0,1,2,3,4,5,6,7,8,9,10,11,12,13,14,15,16,17,18,19,20,21]) ?_
   refine uQ ?_
   refine ze fun K hK=>?_;go_simp
   refine (zaG (by omega) (by omega)).mono ?_
   rw [Hin.out]
   rintro e w3 ⟨rfl,rfl⟩
   refine hK.out _ _ hww.drew ?_
   refine pT ?_
   refine uQ ?_
   refine ze fun K hK=>?_;go_simp
   refine (zdg (HRt.out _ (hw1.trans (hxr.trans hww.drew)))).mono ?_
   rw [hmem.out]
   rintro e w4 ⟨rfl,rfl⟩
   refine hK.out _ _ hww.drew ?_
   refine pT ?_
   refine uQ ?_
   refine zf ?_
   go_wp2_with fail
   go_roundw
   case rel=>exact⟨k+1,by omega,by omega,by go_num,hxr.trans hww.drew⟩
   case measure=>simp [intOf];omega
  ·have hge:(nr:Int)≤(k:Int):=by omega
   go_wp2_with fail
   go_loopw [9] (fun iv wr=>∃ k:Nat,1≤k∧k≤nc∧iv=.int .i64 k∧Ext w1 wr) (fun iv _=>nc - (intOf iv).toNat)
   case atStart=>exact⟨1,Nat.le_refl _,hc1,rfl,hxr⟩
   case round =>
    clear hxr hge hlt hk hk1
    obtain⟨k,hk1,hk,rfl,hxr⟩:=hrel
    by_cases hlt:k<nc
    ·have hlt':(k:Int)<(nc:Int):=by omega
     have hkc:(k:Int)≤(cc:Int):=by omega
     obtain⟨bd1,x,e,_,_,hx,cx⟩:=(H2.out wr (hw1.trans hxr)).str hlt
     obtain rfl:=Option.some.inj e
     obtain⟨hin,hsz,hni⟩:=HI.out.cw k x hk1 hx.out
     have hsz':¬ (4000<(x.size:Int)):=by omega
     have hmem:=za (zbW.2 hni)
     have HRt:=za (fun W (hW:Ext w W)=>(H2.out W hW).takeS hk)
     have Hin:=za hin
     have CXr:∀ W,Ext wr W→W.cell? (bd.add k)=some (.string x):=fun W hW=>hW.cell_some cx
     have CB:∀ W,Ext wr W→∀ q,W.cell? ⟨w.heap.size,q,none⟩=#[Value.slice (some ad) nr cr,.slice (some bd) nc cc][q]?:=fun W hW=>(b1.ext (hxr.trans hW)).cell
     have hww:=Ext.refl wr
     clear hin hni cx hx e
     go_wp2_with (first
      |(go_at_call 143;refine (zaG (by omega) (by omega)).mono ?_;rw [Hin.out];rintro e w3 ⟨rfl,rfl⟩)
      |(go_at_call 225;refine (zdg (HRt.out _ (hw1.trans hxr))).mono ?_;rw [hmem.out];rintro e w3 ⟨rfl,rfl⟩))
     go_roundw
     case rel=>exact⟨k+1,by omega,by omega,by go_num,hxr⟩
     case measure=>simp [intOf];omega
    ·have hge:(nc:Int)≤(k:Int):=by omega
     go_wp2_with fail
     go_ret
     exact⟨rfl,hw1.trans hxr⟩
end
end Go.Proofs.YtcfchopfijalpaaGreatDoor
